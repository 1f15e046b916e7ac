/- Part 6 of the proof: tree's leaf, kids, Fits; tree.Fits; the document's To, Fits; Values as they are written: plain; tree.write, Raw; tree.write, Raw; The least depths of the values of a plan's nodes: plain; The program's nodes, least depths; The document's least depths; fine; the chapter's example; The program's Depths; The law of least depths: fine, the example, the call returns true; The document's Fits; Written values: well formed; the document's Same on the same value; its Raw; The document's Raw; The law of values that fit: fine, the example, the call returns true; Paths: data, Step compared with itself; ref09.Begins, Same on the same path; ref25.Step; Paths of a value: plain; tree.steps; Where steps lead in a value, and that value with another one there: plain; Rules for the evaluator: calls that hand back fresh rows; Rules for the evaluator: elements of rows whose cells nobody else knows, read and written whole; tree: slices.Index of steps, kid, clone, Get; tree: put, Set; The document's Kid, Get, Set of a value that fits; The document's Same of values, Set; What is read of steps, and of steps with a value; The law of Get and Set: the call returns true. No condition. -/
import Derived.Test.YtdeaicofhmkebaaGreatMg2
import Derived.Test.YtdeaicofhmkebaaGreatMg3
import Derived.Test.YtdeaicofhmkebaaGreatMg4
import Derived.Test.YtdeaicofhmkebaaGreatMg5
set_option linter.all false
set_option maxRecDepth 100000
namespace Go.Proofs.YtdeaicofhmkebaaGreat
open Go Go.RowKit Dv Tryz
def dZs (l:List Int):List (List DV):=l.map fun z=>[DV.v (.int .i64 z)]
theorem dZs_len (l:List Int):(dZs l).length=l.length:=by simp [dZs]
theorem dZs_get {l:List Int} {i:Nat} {z:Int} (h:l[i]? = some z):(dZs l)[i]? = some [DV.v (.int .i64 z)]:=by simp [dZs,h]
theorem dZs_snoc (l:List Int) (z:Int):dZs l ++ [[DV.v (.int .i64 z)]]=dZs (l ++ [z]):=by simp [dZs]
theorem emptyB_eq:(⟨#[]⟩:ByteArray)=emptyB:=rfl
theorem leaf_spec (n:Nd) (v:Val):EvP Tryz.prog 117 [.agg (dNd n),.agg (dVal v)] (.v (.bool (leafF n v))):=by
 have hbl:=dBs_len n.names
 obtain ⟨kind,at',lo,hi,most,names,es⟩:=n
 obtain ⟨q,z,s,ks⟩:=v
 have hdl:=dVals_len ks
 simp only at hbl
 have hF:leafF ⟨kind,at',lo,hi,most,names,es⟩ (.mk q z s ks)=if 0 < ks.length∨(q≠3∧s≠emptyB)∨(q=3∧z≠0) then false
  else if kind=1 then decide (q=1) && (decide (z=0) || decide (z=1))
  else if kind=2 then decide (q=2) && decide (lo≤z) && decide (z≤hi)
  else if kind=3 then decide (q=3) && decide ((s.size:Int)≤most)
  else decide (q=4) && decide (0≤z) && decide (z < names.length):=rfl
 have hc:∀ b:Bool,b=pickB (pickB (decide (0 < ((dVals ks).length:Int))) true (pickB (!decide (q=3)) (!decide (s=⟨#[]⟩)) false)) true (pickB (decide (q=3)) (!decide (z=0)) false)→b=decide (0 < ks.length∨(q≠3∧s≠emptyB)∨(q=3∧z≠0)):=fun b h=>by
  rw [h,hdl,emptyB_eq,Bool.eq_iff_iff]
  simp [pickB_or,pickB_and,or_assoc]
 rw [hF]
 refine ev_go (P:=Tryz.prog) tt tt_ok 5000 94 [.tmp 4] Tryz.func117 rfl Tryz.ntmps117 rfl (Nat.le_of_ble_eq_true rfl) (fun E9 w9 hn9 hm9=>?_)
 refine br (fun c=>?_) (fun c=>?_)
 ·have c:=of_decide_eq_true ((hc _ rfl).symm.trans c)
  rw [if_pos c]
  exact (rfl:_=_)
 have c:=of_decide_eq_false ((hc _ rfl).symm.trans c)
 rw [if_neg c]
 refine br (fun c1=>?_) (fun c1=>?_)
 ·have c1:kind=1:=by simpa using c1
  refine (congrArg (fun b=>DV.v (.bool b)) ?_:_=_)
  simp [c1,pickB_and,pickB_or]
 have c1:¬ kind=1:=by simpa using c1
 refine br (fun c2=>?_) (fun c2=>?_)
 ·have c2:kind=2:=by simpa using c2
  refine (congrArg (fun b=>DV.v (.bool b)) ?_:_=_)
  simp [c2,pickB_and,pickB_or]
 have c2:¬ kind=2:=by simpa using c2
 refine br (fun c3=>?_) (fun c3=>?_)
 ·have c3:kind=3:=by simpa using c3
  refine (congrArg (fun b=>DV.v (.bool b)) ?_:_=_)
  simp [c3,pickB_and,pickB_or]
 have c3:¬ kind=3:=by simpa using c3
 refine (congrArg (fun b=>DV.v (.bool b)) ?_:_=_)
 simp [c1,c2,c3,pickB_and,pickB_or,hbl]
abbrev kd5St (n:Nd) (v:Val) (l:List Int) (p:Bool) (kd mo:Int) (q e:Nat):St:=
 ⟨[(2,⟨[],.loc 0 0⟩),(3,⟨[],.loc 1 0⟩),(6,⟨[],.sl 1 (dZs l) (some 0)⟩),(7,⟨[],.v (.bool p)⟩),(8,⟨[],.v (.int .i64 kd)⟩),(9,⟨[],.v (.int .i64 mo)⟩),(38,⟨[],.v (.int .i64 v.ks.length)⟩),(39,⟨[],.v (.int .i64 e)⟩)],[dNd n,dVal v],[⟨q,3,1,none⟩]⟩
abbrev kd7St (n:Nd) (v:Val) (l:List Int) (p:Bool) (q e:Nat):St:=
 ⟨[(2,⟨[],.loc 0 0⟩),(3,⟨[],.loc 1 0⟩),(6,⟨[],.sl 1 (dZs l) (some 0)⟩),(7,⟨[],.v (.bool p)⟩),(67,⟨[],.sl 10 (dEds n.edges) none⟩),(68,⟨[],.v (.int .i64 (dEds n.edges).length)⟩),(69,⟨[],.v (.int .i64 e)⟩)],[dNd n,dVal v],[⟨q,3,1,none⟩]⟩
theorem kids_spec {L N:Nat} {n:Nd} (hn:NdOK L N n) (h5:5≤n.kind) (v:Val) (hv:v.wt≤1099511627776) :
  EvP Tryz.prog 118 [.agg (dNd n),.agg (dVal v)] (.tup [.sl 1 (dZs (kidsL n v)) none,.v (.bool (kidsB n v))]):=by
 have hk8:=hn.k8
 have hone:=hn.one
 have hmany:=hn.many
 obtain ⟨kind,at',lo,hi,most,names,es⟩:=n
 obtain ⟨q,z,s,ks⟩:=v
 have hdl:=dVals_len ks
 have hel:=dEds_len es
 have hkl:=wtVs_len ks
 rw [Val.wt] at hv
 simp only at hk8 h5 hone hmany
 have hp:∀ b:Bool,b=pickB (decide (s=⟨#[]⟩)) (pickB (decide (z=0)) true (decide (q=8))) false→b=plainV (.mk q z s ks):=fun b h=>by
  rw [h]
  rw [pickB_and,pickB_or,emptyB_eq];all_goals rfl
 refine ev_go (P:=Tryz.prog) tt tt_ok 5000 134 [.tmp 4,.tmp 5] Tryz.func118 rfl Tryz.ntmps118 rfl (Nat.le_of_ble_eq_true rfl) (fun E9 w9 hn9 hm9=>?_)
 refine br (fun c=>?_) (fun c=>?_)
 ·have c:kind=5:=by simpa using c
  have c56:kind=5∨kind=6:=.inl c
  obtain ⟨x,hes,_,_⟩:=hone c56
  refine br (fun _=>?_) (fun h=>absurd h (by simp [c]))
  refine drawG_i (fun _=>false) mo (by decide +kernel) ?_
  refine br (fun h=>absurd h (by simp [c])) (fun _=>?_)
  obtain ⟨kd,mo,h1,h2,h3,h4⟩:∃ kd mo:Int,5=kd∧most=mo∧kd=kind∧mo=(if kind=6 then 1 else most):=⟨5,most,rfl,rfl,c.symm,by rw [if_neg (by omega)]⟩
  have hg0:(dEds es)[0]? = some (dEd x):=by rw [hes];all_goals rfl
  have ht0:to0 ⟨kind,at',lo,hi,most,names,es⟩=x.to:=by simp [to0,hes]
  refine loop_i (fun j st=>∃ e:Nat,st=kd5St ⟨kind,at',lo,hi,most,names,es⟩ (.mk q z s ks) (List.replicate e x.to) (plainV (.mk q z s ks)) kd mo e e∧e≤ks.length∧j=ks.length - e) ks.length (kd5St ⟨kind,at',lo,hi,most,names,es⟩ (.mk q z s ks) [] (plainV (.mk q z s ks)) kd mo 0 0) (weak_bt 2 ⟨0,3,1,none⟩ rfl rfl rfl (by repeat' (first | exact rfl | exact we_rfl rfl | exact we_bool (hp _ rfl) | exact we_int h1 | exact we_int h2 | exact we_int (congrArg Nat.cast hdl) | exact we_tok (Nat.le_refl _) rfl | exact we_tok (Nat.le_refl _) rfl | refine ⟨_,_,rfl,?_,?_⟩)) rfl rfl (by repeat' (first | exact trivial | exact we_rfl rfl | exact we_bool (hp _ rfl) | exact we_int h1 | exact we_int h2 | exact we_int (congrArg Nat.cast hdl) | exact we_tok (Nat.le_refl _) rfl | refine ⟨⟨_,rfl,?_⟩,?_⟩))) ⟨0,rfl,by omega,by omega⟩ ?_
  rintro j st ⟨e,rfl,he,rfl⟩
  refine br (fun hL=>?_) (fun hL=>?_)
  ·have hlt:e < ks.length:=by have:=hL;simp [Val.ks] at this;exact this
   have hml:(dZs (List.replicate e x.to)).length=e:=by rw [dZs_len,List.length_replicate]
   have hsn:dZs (List.replicate e x.to) ++ [[DV.v (.int .i64 x.to)]]=dZs (List.replicate (e + 1) x.to):=by rw [dZs_snoc,List.replicate_succ']
   refine ⟨_,⟨by omega,hg0⟩,?_⟩
   refine ⟨hml,⟨by rw [hml];simp [maxLen];omega,by rw [hml];simp;omega⟩,?_⟩
   exact ⟨kd5St ⟨kind,at',lo,hi,most,names,es⟩ (.mk q z s ks) (List.replicate (e + 1) x.to) (plainV (.mk q z s ks)) kd mo (e + 1) (e + 1),(weak_b 2 rfl (by repeat' (first | exact rfl | exact we_rfl rfl | exact we_int (nxt hlt (by omega)) | exact we_sl hsn rfl | refine ⟨_,_,rfl,?_,?_⟩)) rfl rfl rfl (by repeat' (first | exact trivial | exact we_rfl rfl | exact we_int (nxt hlt (by omega)) | exact we_sl hsn rfl | refine ⟨⟨_,rfl,?_⟩,?_⟩))),ks.length - (e + 1),by omega,e + 1,rfl,by omega,rfl⟩
  ·have hge:e=ks.length:=by have:=hL;simp [Val.ks] at this;omega
   subst hge
   have hkl2:kidsL ⟨kind,at',lo,hi,most,names,es⟩ (.mk q z s ks)=List.replicate ks.length x.to:=by unfold kidsL;rw [if_pos c56,ht0];all_goals rfl
   have hml:(dZs (List.replicate ks.length x.to)).length=ks.length:=by rw [dZs_len,List.length_replicate]
   have hB:pickB (pickB (plainV (.mk q z s ks)) (decide (q=kd)) false) (decide (((dZs (List.replicate ks.length x.to)).length:Int)≤mo)) false=kidsB ⟨kind,at',lo,hi,most,names,es⟩ (.mk q z s ks):=by
    rw [hml,h3,h4,pickB_and,pickB_and]
    unfold kidsB
    rw [if_pos c56]
    rfl
   rw [hkl2]
   exact ⟨_,(by repeat' (first | exact rfl | exact trivial | exact Or.inr (Or.inl ⟨_,rfl⟩) | exact Or.inr ⟨_,rfl⟩ | exact Or.inl ⟨rfl,rfl⟩ | exact Or.inl rfl | refine Or.inr ⟨_,_,rfl,Nat.zero_le _,rfl,?_⟩ | refine ⟨_,_,rfl,?_,?_⟩ | refine ⟨_,rfl,?_⟩ | exact congrArg (fun b=>DV.v (.bool b)) hB | refine Or.inr (Or.inr (Or.inr ⟨_,_,rfl,?_⟩)) | exact Or.inl rfl | refine Or.inr ?_)),rfl⟩
 have c5:¬ kind=5:=by simpa using c
 refine br (fun c=>?_) (fun c=>?_)
 ·have c:kind=6:=by simpa using c
  have c56:kind=5∨kind=6:=.inr c
  obtain ⟨x,hes,_,_⟩:=hone c56
  refine drawG_i (fun _=>false) mo (by decide +kernel) ?_
  refine br (fun _=>?_) (fun h=>absurd h (by simp [c]))
  obtain ⟨kd,mo,h1,h2,h3,h4⟩:∃ kd mo:Int,6=kd∧1=mo∧kd=kind∧mo=(if kind=6 then 1 else most):=⟨6,1,rfl,rfl,c.symm,by rw [if_pos c]⟩
  have hg0:(dEds es)[0]? = some (dEd x):=by rw [hes];all_goals rfl
  have ht0:to0 ⟨kind,at',lo,hi,most,names,es⟩=x.to:=by simp [to0,hes]
  refine loop_i (fun j st=>∃ e:Nat,st=kd5St ⟨kind,at',lo,hi,most,names,es⟩ (.mk q z s ks) (List.replicate e x.to) (plainV (.mk q z s ks)) kd mo e e∧e≤ks.length∧j=ks.length - e) ks.length (kd5St ⟨kind,at',lo,hi,most,names,es⟩ (.mk q z s ks) [] (plainV (.mk q z s ks)) kd mo 0 0) (weak_bt 2 ⟨0,3,1,none⟩ rfl rfl rfl (by repeat' (first | exact rfl | exact we_rfl rfl | exact we_bool (hp _ rfl) | exact we_int h1 | exact we_int h2 | exact we_int (congrArg Nat.cast hdl) | exact we_tok (Nat.le_refl _) rfl | exact we_tok (Nat.le_refl _) rfl | refine ⟨_,_,rfl,?_,?_⟩)) rfl rfl (by repeat' (first | exact trivial | exact we_rfl rfl | exact we_bool (hp _ rfl) | exact we_int h1 | exact we_int h2 | exact we_int (congrArg Nat.cast hdl) | exact we_tok (Nat.le_refl _) rfl | refine ⟨⟨_,rfl,?_⟩,?_⟩))) ⟨0,rfl,by omega,by omega⟩ ?_
  rintro j st ⟨e,rfl,he,rfl⟩
  refine br (fun hL=>?_) (fun hL=>?_)
  ·have hlt:e < ks.length:=by have:=hL;simp [Val.ks] at this;exact this
   have hml:(dZs (List.replicate e x.to)).length=e:=by rw [dZs_len,List.length_replicate]
   have hsn:dZs (List.replicate e x.to) ++ [[DV.v (.int .i64 x.to)]]=dZs (List.replicate (e + 1) x.to):=by rw [dZs_snoc,List.replicate_succ']
   refine ⟨_,⟨by omega,hg0⟩,?_⟩
   refine ⟨hml,⟨by rw [hml];simp [maxLen];omega,by rw [hml];simp;omega⟩,?_⟩
   exact ⟨kd5St ⟨kind,at',lo,hi,most,names,es⟩ (.mk q z s ks) (List.replicate (e + 1) x.to) (plainV (.mk q z s ks)) kd mo (e + 1) (e + 1),(weak_b 2 rfl (by repeat' (first | exact rfl | exact we_rfl rfl | exact we_int (nxt hlt (by omega)) | exact we_sl hsn rfl | refine ⟨_,_,rfl,?_,?_⟩)) rfl rfl rfl (by repeat' (first | exact trivial | exact we_rfl rfl | exact we_int (nxt hlt (by omega)) | exact we_sl hsn rfl | refine ⟨⟨_,rfl,?_⟩,?_⟩))),ks.length - (e + 1),by omega,e + 1,rfl,by omega,rfl⟩
  ·have hge:e=ks.length:=by have:=hL;simp [Val.ks] at this;omega
   subst hge
   have hkl2:kidsL ⟨kind,at',lo,hi,most,names,es⟩ (.mk q z s ks)=List.replicate ks.length x.to:=by unfold kidsL;rw [if_pos c56,ht0];all_goals rfl
   have hml:(dZs (List.replicate ks.length x.to)).length=ks.length:=by rw [dZs_len,List.length_replicate]
   have hB:pickB (pickB (plainV (.mk q z s ks)) (decide (q=kd)) false) (decide (((dZs (List.replicate ks.length x.to)).length:Int)≤mo)) false=kidsB ⟨kind,at',lo,hi,most,names,es⟩ (.mk q z s ks):=by
    rw [hml,h3,h4,pickB_and,pickB_and]
    unfold kidsB
    rw [if_pos c56]
    rfl
   rw [hkl2]
   exact ⟨_,(by repeat' (first | exact rfl | exact trivial | exact Or.inr (Or.inl ⟨_,rfl⟩) | exact Or.inr ⟨_,rfl⟩ | exact Or.inl ⟨rfl,rfl⟩ | exact Or.inl rfl | refine Or.inr ⟨_,_,rfl,Nat.zero_le _,rfl,?_⟩ | refine ⟨_,_,rfl,?_,?_⟩ | refine ⟨_,rfl,?_⟩ | exact congrArg (fun b=>DV.v (.bool b)) hB | refine Or.inr (Or.inr (Or.inr ⟨_,_,rfl,?_⟩)) | exact Or.inl rfl | refine Or.inr ?_)),rfl⟩
 have c6:¬ kind=6:=by simpa using c
 obtain ⟨hm64,hm8,_,_⟩:=hmany (by omega)
 refine br (fun c=>?_) (fun c=>?_)
 ·have c7:kind=7:=by simpa using c
  refine loop_i (fun j st=>∃ e:Nat,st=kd7St ⟨kind,at',lo,hi,most,names,es⟩ (.mk q z s ks) ((es.take e).map Ed.to) (plainV (.mk q z s ks)) e e∧e≤es.length∧j=es.length - e) es.length (kd7St ⟨kind,at',lo,hi,most,names,es⟩ (.mk q z s ks) [] (plainV (.mk q z s ks)) 0 0) (weak_bt 2 ⟨0,3,1,none⟩ rfl rfl rfl (by repeat' (first | exact rfl | exact we_rfl rfl | exact we_bool (hp _ rfl) | exact we_tok (Nat.le_refl _) rfl | exact we_tok (Nat.le_refl _) rfl | refine ⟨_,_,rfl,?_,?_⟩)) rfl rfl (by repeat' (first | exact trivial | exact we_rfl rfl | exact we_bool (hp _ rfl) | exact we_tok (Nat.le_refl _) rfl | refine ⟨⟨_,rfl,?_⟩,?_⟩))) ⟨0,rfl,by omega,by omega⟩ ?_
  rintro j st ⟨e,rfl,he,rfl⟩
  refine br (fun hL=>?_) (fun hL=>?_)
  ·have hlt:e < es.length:=by have:=hL;simp [hel] at this;exact this
   obtain ⟨x,hx⟩:∃ x,es[e]? = some x:=⟨_,List.getElem?_eq_getElem hlt⟩
   have hml:(dZs ((es.take e).map Ed.to)).length=e:=by rw [dZs_len,List.length_map,List.length_take];omega
   have hsn:dZs ((es.take e).map Ed.to) ++ [[DV.v (.int .i64 x.to)]]=dZs ((es.take (e + 1)).map Ed.to):=by rw [dZs_snoc,take_snoc hx,List.map_append];all_goals rfl
   refine ⟨_,⟨by omega,dEds_get hx⟩,?_⟩
   refine ⟨hml,⟨by rw [hml];simp [maxLen];omega,by rw [hml];simp;omega⟩,?_⟩
   exact ⟨kd7St ⟨kind,at',lo,hi,most,names,es⟩ (.mk q z s ks) ((es.take (e + 1)).map Ed.to) (plainV (.mk q z s ks)) (e + 1) (e + 1),(weak_b 2 rfl (by repeat' (first | exact rfl | exact we_rfl rfl | exact we_int (nxt hlt (by omega)) | exact we_sl hsn rfl | refine ⟨_,_,rfl,?_,?_⟩)) rfl rfl rfl (by repeat' (first | exact trivial | exact we_rfl rfl | exact we_int (nxt hlt (by omega)) | exact we_sl hsn rfl | refine ⟨⟨_,rfl,?_⟩,?_⟩))),es.length - (e + 1),by omega,e + 1,rfl,by omega,rfl⟩
  ·have hge:e=es.length:=by have:=hL;simp [hel] at this;omega
   subst hge
   rw [List.take_length]
   have hkl2:kidsL ⟨kind,at',lo,hi,most,names,es⟩ (.mk q z s ks)=es.map Ed.to:=by unfold kidsL;rw [if_neg (by simp only;omega),if_pos c7]
   have hml:(dZs (es.map Ed.to)).length=es.length:=by rw [dZs_len,List.length_map]
   have hB:pickB (pickB (plainV (.mk q z s ks)) (decide (q=7)) false) (decide (((dZs (es.map Ed.to)).length:Int)=((dVals ks).length:Int))) false=kidsB ⟨kind,at',lo,hi,most,names,es⟩ (.mk q z s ks):=by
    rw [hml,hdl,pickB_and,pickB_and]
    unfold kidsB
    rw [if_neg (by simp only;omega),if_pos c7]
    have:((es.length:Int)=(ks.length:Int))↔es.length=ks.length:=by omega
    simp only [this,Val.k,Val.ks]
    rfl
   rw [hkl2]
   refine drawG_i (fun _=>false) mo (by decide +kernel) ?_
   exact ⟨_,(by repeat' (first | exact rfl | exact trivial | exact Or.inr (Or.inl ⟨_,rfl⟩) | exact Or.inr ⟨_,rfl⟩ | exact Or.inl ⟨rfl,rfl⟩ | exact Or.inl rfl | refine Or.inr ⟨_,_,rfl,Nat.zero_le _,rfl,?_⟩ | refine ⟨_,_,rfl,?_,?_⟩ | refine ⟨_,rfl,?_⟩ | exact congrArg (fun b=>DV.v (.bool b)) hB | refine Or.inr (Or.inr (Or.inr ⟨_,_,rfl,?_⟩)) | exact Or.inl rfl | refine Or.inr ?_)),rfl⟩
 have c7:¬ kind=7:=by simpa using c
 have hkl2:kidsL ⟨kind,at',lo,hi,most,names,es⟩ (.mk q z s ks)=(match tagE ⟨kind,at',lo,hi,most,names,es⟩ (.mk q z s ks) with | none=>[] | some e=>if e.bare=true then [] else [e.to]):=by unfold kidsL;rw [if_neg (by simp only;omega),if_neg c7];all_goals rfl
 have hkb2:kidsB ⟨kind,at',lo,hi,most,names,es⟩ (.mk q z s ks)=(match tagE ⟨kind,at',lo,hi,most,names,es⟩ (.mk q z s ks) with | none=>false | some _=>plainV (.mk q z s ks) && decide ((kidsL ⟨kind,at',lo,hi,most,names,es⟩ (.mk q z s ks)).length=ks.length)):=by unfold kidsB;rw [if_neg (by simp only;omega),if_neg c7];all_goals rfl
 have hc:∀ b:Bool,b=pickB (pickB (!decide (q=8)) true (decide (z < 0))) true (decide (((dEds es).length:Int)≤z))→b = !decide (q=8∧0≤z∧z < es.length):=fun b h=>by
  rw [h,hel,pickB_or,pickB_or,Bool.eq_iff_iff]
  simp
  omega
 refine br (fun c=>?_) (fun c=>?_)
 ·have c:¬ (q=8∧0≤z∧z < es.length):=by have:=(hc _ rfl).symm.trans c;simpa only [Bool.not_eq_true',decide_eq_false_iff_not] using this
  have ht:tagE ⟨kind,at',lo,hi,most,names,es⟩ (.mk q z s ks)=none:=by show (if q=8∧0≤z∧z < es.length then es[z.toNat]? else none)=_;rw [if_neg c]
  rw [hkb2,hkl2,ht]
  exact ⟨_,ax,rfl⟩
 ·have c:q=8∧0≤z∧z < es.length:=by have:=(hc _ rfl).symm.trans c;simpa only [Bool.not_eq_false',decide_eq_true_eq] using this
  obtain ⟨x,hx⟩:∃ x,es[z.toNat]? = some x:=⟨_,List.getElem?_eq_getElem (by omega)⟩
  have ht:tagE ⟨kind,at',lo,hi,most,names,es⟩ (.mk q z s ks)=some x:=by show (if q=8∧0≤z∧z < es.length then es[z.toNat]? else none)=_;rw [if_pos c];exact hx
  rw [ht] at hkb2 hkl2
  refine ⟨_,⟨by omega,dEds_get hx⟩,?_⟩
  refine br (fun hb=>?_) (fun hb=>?_)
  ·have hb:x.bare=false:=by simpa using hb
   have hkl3:kidsL ⟨kind,at',lo,hi,most,names,es⟩ (.mk q z s ks)=[x.to]:=by rw [hkl2];simp [hb]
   have hB:pickB (plainV (.mk q z s ks)) (decide ((1:Int)=((dVals ks).length:Int))) false=kidsB ⟨kind,at',lo,hi,most,names,es⟩ (.mk q z s ks):=by
    rw [hkb2,hkl3,hdl,pickB_and]
    have:((1:Int)=(ks.length:Int)) ↔ [x.to].length=ks.length:=by simp;omega
    simp only [this]
   rw [hkl3,← hB]
   refine ⟨⟨by simp [maxLen],by simp⟩,?_⟩
   refine drawG_i (fun _=>false) mo (by decide +kernel) ?_
   exact ⟨_,(by repeat' (first | exact rfl | exact trivial | exact Or.inr (Or.inl ⟨_,rfl⟩) | exact Or.inr ⟨_,rfl⟩ | exact Or.inl ⟨rfl,rfl⟩ | exact Or.inl rfl | refine Or.inr ⟨_,_,rfl,Nat.zero_le _,rfl,?_⟩ | refine ⟨_,_,rfl,?_,?_⟩ | refine ⟨_,rfl,?_⟩ | exact congrArg (fun b=>DV.v (.bool (pickB b _ false))) (hp _ rfl) | refine Or.inr (Or.inr (Or.inr ⟨_,_,rfl,?_⟩)) | exact Or.inl rfl | refine Or.inr ?_)),rfl⟩
  ·have hb:x.bare=true:=by simpa using hb
   have hkl3:kidsL ⟨kind,at',lo,hi,most,names,es⟩ (.mk q z s ks)=[]:=by rw [hkl2];simp [hb]
   have hB:pickB (plainV (.mk q z s ks)) (decide ((0:Int)=((dVals ks).length:Int))) false=kidsB ⟨kind,at',lo,hi,most,names,es⟩ (.mk q z s ks):=by
    rw [hkb2,hkl3,hdl,pickB_and]
    have:((0:Int)=(ks.length:Int))↔([]:List Int).length=ks.length:=by simp;omega
    simp only [this]
   rw [hkl3,← hB]
   refine drawG_i (fun _=>false) mo (by decide +kernel) ?_
   exact ⟨_,(by repeat' (first | exact rfl | exact trivial | exact Or.inr (Or.inl ⟨_,rfl⟩) | exact Or.inr ⟨_,rfl⟩ | exact Or.inl ⟨rfl,rfl⟩ | exact Or.inl rfl | refine Or.inr ⟨_,_,rfl,Nat.zero_le _,rfl,?_⟩ | refine ⟨_,_,rfl,?_,?_⟩ | refine ⟨_,rfl,?_⟩ | exact congrArg (fun b=>DV.v (.bool (pickB b _ false))) (hp _ rfl) | refine Or.inr (Or.inr (Or.inr ⟨_,_,rfl,?_⟩)) | exact Or.inl rfl | refine Or.inr ?_)),rfl⟩
end Go.Proofs.YtdeaicofhmkebaaGreat
set_option maxRecDepth 100000
namespace Go.Proofs.YtdeaicofhmkebaaGreat
open Go Go.RowKit Dv Tryz
theorem kidsB_len {n:Nd} {v:Val} (hk:5≤n.kind) (h:kidsB n v=true):(kidsL n v).length=v.ks.length:=by
 unfold kidsB at h
 by_cases c:n.kind=5∨n.kind=6
 ·unfold kidsL;rw [if_pos c];simp
 rw [if_neg c] at h
 by_cases c7:n.kind=7
 ·rw [if_pos c7] at h
  unfold kidsL;rw [if_neg c,if_pos c7,List.length_map]
  simp at h;exact h.2
 rw [if_neg c7] at h
 cases ht:tagE n v with
 | none=>rw [ht] at h;cases h
 | some e=>rw [ht] at h;simp only [Bool.and_eq_true,decide_eq_true_eq] at h;exact h.2
theorem fitVs_drop {ND:List Nd} {ks:List Val} {l:List Int} {e:Nat} {x:Val} {i:Int} (h1:ks[e]? = some x) (h2:l[e]? = some i):fitVs ND (ks.drop e) (l.drop e)=(fitV ND x i && fitVs ND (ks.drop (e + 1)) (l.drop (e + 1))):=by
 rw [drop_cons h1,drop_cons h2,fitVs]
theorem nodeA_some {ND:List Nd} {i:Int} {d:Nd} (h:nodeA ND i=some d):0≤i∧ND[i.toNat]? = some d:=by
 unfold nodeA at h
 split at h
 ·cases h
 ·exact ⟨by omega,h⟩
theorem nodeA_none {ND:List Nd} {i:Int} (h:nodeA ND i=none):i < 0∨(ND.length:Int)≤i:=by
 unfold nodeA at h
 split at h
 ·left;assumption
 ·right
  have:=List.getElem?_eq_none_iff.1 h
  omega
abbrev tfSt (PC:List DV) (v:Val) (l:List Int) (e:Nat):St:=
 ⟨[(0,⟨[],.pt PC 0⟩),(5,⟨[],.loc 0 0⟩),(36,⟨[],.sl 1 (dZs l) none⟩),(37,⟨[],.v (.int .i64 l.length)⟩),(38,⟨[],.v (.int .i64 e)⟩)],[dVal v],[]⟩
theorem tfits_spec {S:Sch} {ND:List Nd} {PC:List DV} (hP:PlanR S ND PC):∀ (k:Nat) (v:Val),v.wt≤k→v.wt≤1099511627776→∀ i:Int,EvP Tryz.prog 51 [.pt PC 0,.v (.int .i64 i),.agg (dVal v)] (.v (.bool (fitV ND v i)))
 | 0,v,h,_=>by have:=v.wt_pos;omega
 | k + 1,.mk q z s ks,h,hb=>fun i=>by
  have ih:=tfits_spec hP k
  have hkl:=wtVs_len ks
  have hdl:=dVals_len ks
  have hb':=hb
  rw [Val.wt] at h hb
  rw [fitV]
  have hnode:=hP.node
  have hnodeN:=hP.nodeN
  have hok:=hP.ok
  cases hd:nodeA ND i with
  | none=>
   refine ev_go (P:=Tryz.prog) tt tt_ok 5000 53 [.tmp 6] Tryz.func51 rfl Tryz.ntmps51 rfl (Nat.le_of_ble_eq_true rfl) (fun E9 w9 hn9 hm9=>?_)
   refine call_p en19 (hnodeN i (nodeA_none hd)) ax rfl ?_
   exact (rfl:_=_)
  | some d=>
   obtain ⟨h0,hg⟩:=nodeA_some hd
   obtain ⟨j,rfl⟩:∃ j:Nat,i=j:=⟨i.toNat,by omega⟩
   have hg:ND[j]? = some d:=by simpa using hg
   have hN:=hok d (List.mem_of_getElem? hg)
   have hlf:=leaf_spec d (.mk q z s ks)
   have hkd:=fun h5=>kids_spec hN h5 (.mk q z s ks) hb'
   have hlen:=fun h5=>kidsB_len (n:=d) (v:=.mk q z s ks) h5
   simp only
   obtain ⟨kind,at',lo,hi,most,names,es⟩:=d
   simp only at hkd hlen
   refine ev_go (P:=Tryz.prog) tt tt_ok 5000 53 [.tmp 6] Tryz.func51 rfl Tryz.ntmps51 rfl (Nat.le_of_ble_eq_true rfl) (fun E9 w9 hn9 hm9=>?_)
   refine call_p en19 (hnode j _ hg) ax rfl ?_
   refine br (fun c=>?_) (fun c=>?_)
   ·have c:kind < 5:=by simpa using c
    rw [if_pos c]
    refine call_p en117 (hlf) ax rfl ?_
    exact (rfl:_=_)
   have c:¬ kind < 5:=by simpa using c
   rw [if_neg c]
   have hkd:=hkd (by omega)
   have hlen:=hlen (by omega)
   generalize kidsL ⟨kind,at',lo,hi,most,names,es⟩ (.mk q z s ks)=l at hkd hlen ⊢
   have hzl:=dZs_len l
   refine call_p en118 (hkd) ax rfl ?_
   cases hB:kidsB ⟨kind,at',lo,hi,most,names,es⟩ (.mk q z s ks) with
   | false=>
    exact (rfl:_=_)
   | true=>
    have hlen:l.length=ks.length:=hlen hB
    rw [Bool.true_and]
    refine loop_i (fun j st=>∃ e:Nat,st=tfSt PC (.mk q z s ks) l e∧e≤l.length∧fitVs ND ks l=fitVs ND (ks.drop e) (l.drop e)∧j=l.length - e) l.length (tfSt PC (.mk q z s ks) l 0) (weak_mk ⟨_,rfl⟩ wA rfl rfl rfl (by repeat' (first | exact trivial | exact we_rfl rfl | exact we_int (congrArg Nat.cast hzl) | refine ⟨⟨_,rfl,?_⟩,?_⟩))) ⟨0,rfl,by omega,rfl,by omega⟩ ?_
    rintro _ st ⟨e,rfl,he,heq,rfl⟩
    refine br (fun hL=>?_) (fun hL=>?_)
    ·have hlt:e < l.length:=by have:=hL;simp at this;exact this
     obtain ⟨x,hx⟩:∃ x,ks[e]? = some x:=⟨_,List.getElem?_eq_getElem (by omega)⟩
     obtain ⟨y,hy⟩:∃ y,l[e]? = some y:=⟨_,List.getElem?_eq_getElem hlt⟩
     have hxw:=wtVs_mem (List.mem_of_getElem? hx)
     rw [fitVs_drop hx hy] at heq
     have hi':=ih x (by omega) (by omega) y
     obtain ⟨xk,xn,xs,xl⟩:=x
     refine ⟨_,⟨by omega,dZs_get hy⟩,?_⟩
     refine ⟨_,⟨by omega,dVals_get hx⟩,?_⟩
     refine call_p en51 (hi') ax rfl ?_
     refine br (fun g=>?_) (fun g=>?_)
     ·have g:fitV ND (.mk xk xn xs xl) y=false:=by simpa using g
      rw [heq,g]
      exact (rfl:_=_)
     ·have g:fitV ND (.mk xk xn xs xl) y=true:=by simpa using g
      rw [g,Bool.true_and] at heq
      exact ⟨tfSt PC (.mk q z s ks) l (e + 1),(weak_mk ⟨_,rfl⟩ wA rfl rfl rfl (by repeat' (first | exact trivial | exact we_rfl rfl | exact we_int (nxt hlt (by omega)) | refine ⟨⟨_,rfl,?_⟩,?_⟩))),l.length - (e + 1),by omega,e + 1,rfl,by omega,heq,rfl⟩
    ·have hge:e=l.length:=by have:=hL;simp at this;omega
     rw [List.drop_of_length_le (by omega),List.drop_of_length_le (by omega)] at heq
     rw [heq]
     exact (rfl:_=_)
theorem to25_spec {L N:Nat} {n:Nd} (hn:NdOK L N n) (v:Val) (j:Nat):EvP Tryz.prog 96 [.agg (dNd n),.agg (dVal v),.v (.int .i64 j)] (.v (.int .i64 (toR n v j))):=by
 have hone:=hn.one
 obtain ⟨kind,at',lo,hi,most,names,es⟩:=n
 obtain ⟨q,z,s,ks⟩:=v
 have hel:=dEds_len es
 simp only at hone
 have hF:toR ⟨kind,at',lo,hi,most,names,es⟩ (.mk q z s ks) j=if kind=5 then (if (j:Int) < most then to0 ⟨kind,at',lo,hi,most,names,es⟩ else -1)
  else if kind=6 then (if j < 1 then to0 ⟨kind,at',lo,hi,most,names,es⟩ else -1)
  else if kind=7 then (match es[j]? with | some e=>e.to | none=>-1)
  else if kind=8 then (if j < 1∧0≤z∧z < es.length then (match es[z.toNat]? with | some e=>e.to | none=>-1) else -1)
  else -1:=rfl
 rw [hF]
 refine ev_go (P:=Tryz.prog) tt tt_ok 5000 66 [.tmp 6] Tryz.func96 rfl Tryz.ntmps96 rfl (Nat.le_of_ble_eq_true rfl) (fun E9 w9 hn9 hm9=>?_)
 refine br (fun c=>?_) (fun c=>?_)
 ·have c:kind=5:=by simpa using c
  rw [if_pos c]
  obtain ⟨x,hes,_,_⟩:=hone (.inl c)
  have hg0:(dEds es)[0]? = some (dEd x):=by rw [hes];all_goals rfl
  have ht0:to0 ⟨kind,at',lo,hi,most,names,es⟩=x.to:=by simp [to0,hes]
  refine br (fun g=>?_) (fun g=>?_)
  ·have g:(j:Int) < most:=by simpa using g
   rw [if_pos g,ht0]
   refine ⟨_,⟨by omega,hg0⟩,?_⟩
   exact (rfl:_=_)
  ·have g:¬ (j:Int) < most:=by simpa using g
   rw [if_neg g]
   exact (rfl:_=_)
 have c5:¬ kind=5:=by simpa using c
 rw [if_neg c5]
 refine br (fun c=>?_) (fun c=>?_)
 ·have c:kind=6:=by simpa using c
  rw [if_pos c]
  obtain ⟨x,hes,_,_⟩:=hone (.inr c)
  have hg0:(dEds es)[0]? = some (dEd x):=by rw [hes];all_goals rfl
  have ht0:to0 ⟨kind,at',lo,hi,most,names,es⟩=x.to:=by simp [to0,hes]
  refine br (fun g=>?_) (fun g=>?_)
  ·have g:j < 1:=by have:=g;simp at this;omega
   rw [if_pos g,ht0]
   refine ⟨_,⟨by omega,hg0⟩,?_⟩
   exact (rfl:_=_)
  ·have g:¬ j < 1:=by have:=g;simp at this;omega
   rw [if_neg g]
   exact (rfl:_=_)
 have c6:¬ kind=6:=by simpa using c
 rw [if_neg c6]
 refine br (fun c=>?_) (fun c=>?_)
 ·have c:kind=7:=by simpa using c
  rw [if_pos c]
  refine br (fun g=>?_) (fun g=>?_)
  ·have g:j < es.length:=by have:=g;simp [hel] at this;exact this
   obtain ⟨x,hx⟩:∃ x,es[j]? = some x:=⟨_,List.getElem?_eq_getElem g⟩
   refine ⟨_,⟨by omega,dEds_get hx⟩,?_⟩
   rw [hx]
   exact (rfl:_=_)
  ·have g:es.length≤j:=by have:=g;simp [hel] at this;omega
   rw [List.getElem?_eq_none g]
   exact (rfl:_=_)
 have c7:¬ kind=7:=by simpa using c
 rw [if_neg c7]
 refine br (fun c=>?_) (fun c=>?_)
 ·have c:kind=8:=by simpa using c
  rw [if_pos c]
  have hc:∀ b:Bool,b=pickB (pickB (decide ((j:Int) < 1)) (decide (0≤z)) false) (decide (z < ((dEds es).length:Int))) false→b=decide (j < 1∧0≤z∧z < es.length):=fun b h=>by
   rw [h,hel,pickB_and,pickB_and,Bool.eq_iff_iff]
   simp
   omega
  refine br (fun g=>?_) (fun g=>?_)
  ·have g:=of_decide_eq_true ((hc _ rfl).symm.trans g)
   obtain ⟨x,hx⟩:∃ x,es[z.toNat]? = some x:=⟨_,List.getElem?_eq_getElem (by omega)⟩
   rw [if_pos g,hx]
   refine ⟨_,⟨by omega,dEds_get hx⟩,?_⟩
   exact (rfl:_=_)
  ·have g:=of_decide_eq_false ((hc _ rfl).symm.trans g)
   rw [if_neg g]
   exact (rfl:_=_)
 ·have c8:¬ kind=8:=by simpa using c
  rw [if_neg c8]
  exact (rfl:_=_)
end Go.Proofs.YtdeaicofhmkebaaGreat
set_option maxRecDepth 100000
namespace Go.Proofs.YtdeaicofhmkebaaGreat
open Go Go.RowKit Dv Tryz
inductive Rw where
 | mk (k at' n:Int) (s:ByteArray) (keys:List Wd) (ks:List Rw)
mutual
def dRw:Rw→List DV
 | .mk k a n s keys ks=>[.v (.int .i64 k),.v (.int .i64 a),.v (.int .i64 n),.v (.string s),.sl 2 (dWds keys) none,.sl 6 (dRws ks) none]
def dRws:List Rw→List (List DV)
 | []=>[]
 | v :: r=>dRw v :: dRws r
end
theorem dRws_map:∀ l:List Rw,dRws l=l.map dRw
 | []=>rfl
 | v :: r=>by rw [dRws,dRws_map r];all_goals rfl
theorem dRws_len (l:List Rw):(dRws l).length=l.length:=by rw [dRws_map,List.length_map]
theorem dRws_snoc (l:List Rw) (x:Rw):dRws l ++ [dRw x]=dRws (l ++ [x]):=by rw [dRws_map,dRws_map];simp
def trueB:ByteArray:=⟨#[116,114,117,101]⟩
def falseB:ByteArray:=⟨#[102,97,108,115,101]⟩
def someB:ByteArray:=⟨#[115,111,109,101]⟩
def noneB:ByteArray:=⟨#[110,111,110,101]⟩
def tagN (d:Nd) (v:Val):ByteArray:=match tagE d v with | some e=>e.name | none=>emptyB
def wrF (d:Nd) (v:Val) (rs:List Rw):Rw:=
 if v.k=1 then .mk 1 0 0 (if v.n=1 then trueB else falseB) [] []
 else if v.k=2 then .mk 2 0 v.n emptyB [] []
 else if v.k=3 then .mk 3 0 0 v.s [] []
 else if v.k=4 then .mk 1 0 0 (d.names[v.n.toNat]?.getD emptyB) [] []
 else if v.k=5 then .mk 4 0 0 emptyB [] rs
 else if v.k=7 then .mk 5 0 0 emptyB (d.edges.map fun e=>⟨e.name,0⟩) rs
 else .mk (if 0 < v.ks.length then 6 else 1) 0 0 (if v.k=8 then tagN d v else if 0 < v.ks.length then someB else noneB) [] rs
mutual
def rawV (ND:List Nd):Val→Int→Rw
 | .mk k n s ks,i=>match nodeA ND i with
  | none=>.mk 0 0 0 emptyB [] []
  | some d=>wrF d (.mk k n s ks) (rawVs ND ks (kidsL d (.mk k n s ks)))
def rawVs (ND:List Nd):List Val→List Int→List Rw
 | v :: r,i :: l=>rawV ND v i :: rawVs ND r l
 | _,_=>[]
end
theorem rawVs_len (ND:List Nd):∀ (ks:List Val) (l:List Int),l.length=ks.length→(rawVs ND ks l).length=ks.length
 | [],[],_=>rfl
 | v :: r,i :: l,h=>by rw [rawVs,List.length_cons,rawVs_len ND r l (by simpa using h)];all_goals rfl
 | [],_ :: _,h=>by simp at h
 | _ :: _,[],h=>by simp at h
theorem rawVs_snoc {ND:List Nd}:∀ {ks:List Val} {l:List Int} {e:Nat} {x:Val} {i:Int},ks[e]? = some x→l[e]? = some i→rawVs ND (ks.take (e + 1)) (l.take (e + 1))=rawVs ND (ks.take e) (l.take e) ++ [rawV ND x i]
 | [],_,e,x,i,h,_=>by simp at h
 | _ :: _,[],e,x,i,_,h=>by simp at h
 | v :: r,j :: l,0,x,i,h1,h2=>by
  simp only [List.getElem?_cons_zero,Option.some.injEq] at h1 h2
  subst h1 h2
  simp [rawVs]
 | v :: r,j :: l,e + 1,x,i,h1,h2=>by
  simp only [List.getElem?_cons_succ] at h1 h2
  simp only [List.take_succ_cons,rawVs,List.cons_append]
  rw [rawVs_snoc h1 h2]
structure FitF (ND:List Nd) (v:Val) (i:Int) (d:Nd):Prop where
 node:nodeA ND i=some d
 k:v.k=d.kind
 leaf:d.kind < 5→v.ks=[]
 enum:d.kind=4→0≤v.n∧v.n < d.names.length
 kids:5≤d.kind→(kidsL d v).length=v.ks.length∧fitVs ND v.ks (kidsL d v)=true
 tag:d.kind=8→∃ e,tagE d v=some e∧d.edges[v.n.toNat]? = some e∧0≤v.n∧v.n < d.edges.length∧(e.bare=true↔v.ks=[])
 opt:d.kind=6→v.ks.length≤1
theorem fit_facts {L:Nat} {ND:List Nd} (hok:∀ n∈ND,NdOK L ND.length n) {v:Val} {i:Int} (h:fitV ND v i=true):∃ d,FitF ND v i d:=by
 obtain ⟨k,n,s,ks⟩:=v
 rw [fitV] at h
 cases hd:nodeA ND i with
 | none=>rw [hd] at h;cases h
 | some d=>
  rw [hd] at h
  simp only at h
  have hN:=hok d (List.mem_of_getElem? (nodeA_some hd).2)
  have hk1:=hN.k1
  have hk8:=hN.k8
  by_cases h5:d.kind < 5
  ·rw [if_pos h5] at h
   unfold leafF at h
   by_cases hc:0 < (Val.mk k n s ks).ks.length∨((Val.mk k n s ks).k≠3∧(Val.mk k n s ks).s≠emptyB)∨((Val.mk k n s ks).k=3∧(Val.mk k n s ks).n≠0)
   ·rw [if_pos hc] at h;cases h
   rw [if_neg hc] at h
   have hnil:ks=[]:=by
    cases ks with
    | nil=>rfl
    | cons a b=>exact (hc (.inl (by simp [Val.ks]))).elim
   have hk:k=d.kind∧(d.kind=4→0≤n∧n < d.names.length):=by
    rcases (show d.kind=1∨d.kind=2∨d.kind=3∨d.kind=4 by omega) with c | c | c | c
    all_goals
     simp [c,Val.k,Val.n] at h
     simp only [c]
     constructor
     ·first | exact of_decide_eq_true h.1 | exact of_decide_eq_true h.1.1
     ·first | (intro;omega) | exact fun _=>⟨of_decide_eq_true h.1.2,of_decide_eq_true h.2⟩
   exact ⟨d,{ node:=hd,k:=hk.1,leaf:=fun _=>hnil,enum:=hk.2,kids:=fun h=>by omega,tag:=fun h=>by omega,opt:=fun h=>by omega }⟩
  ·rw [if_neg h5,Bool.and_eq_true] at h
   obtain ⟨hB,hf⟩:=h
   have hlen:=kidsB_len (by omega) hB
   have hB2:=hB
   unfold kidsB at hB
   by_cases c:d.kind=5∨d.kind=6
   ·rw [if_pos c] at hB
    simp only [Bool.and_eq_true,decide_eq_true_eq] at hB
    exact ⟨d,{ node:=hd,k:=hB.1.2,leaf:=fun h=>by omega,enum:=fun h=>by omega,kids:=fun _=>⟨hlen,hf⟩,tag:=fun h=>by omega,opt:=fun h=>by have:=hB.2;rw [if_pos h] at this;omega }⟩
   rw [if_neg c] at hB
   by_cases c7:d.kind=7
   ·rw [if_pos c7] at hB
    simp only [Bool.and_eq_true,decide_eq_true_eq] at hB
    exact ⟨d,{ node:=hd,k:=by rw [c7];exact hB.1.2,leaf:=fun h=>by omega,enum:=fun h=>by omega,kids:=fun _=>⟨hlen,hf⟩,tag:=fun h=>by omega,opt:=fun h=>by omega }⟩
   rw [if_neg c7] at hB
   cases ht:tagE d (.mk k n s ks) with
   | none=>rw [ht] at hB;cases hB
   | some e=>
    have ht2:=ht
    unfold tagE at ht2
    split at ht2
    ·rename_i hr
     have hkl:kidsL d (.mk k n s ks)=if e.bare=true then [] else [e.to]:=by unfold kidsL;rw [if_neg c,if_neg c7,ht]
     refine ⟨d,{ node:=hd,k:=by have:=hr.1;omega,leaf:=fun h=>by omega,enum:=fun h=>by omega,kids:=fun _=>⟨hlen,hf⟩,tag:=fun _=>⟨e,ht,ht2,hr.2.1,hr.2.2,?_⟩,opt:=fun h=>by omega }⟩
     rw [hkl] at hlen
     constructor
     ·intro hb
      rw [if_pos hb] at hlen
      exact List.eq_nil_of_length_eq_zero hlen.symm
     ·intro hnil
      rw [hnil] at hlen
      cases hb:e.bare
      ·rw [hb] at hlen;simp at hlen
      ·rfl
    ·cases ht2
theorem fitVs_at {ND:List Nd}:∀ {ks:List Val} {l:List Int} {e:Nat} {x:Val} {i:Int},fitVs ND ks l=true→ks[e]? = some x→l[e]? = some i→fitV ND x i=true
 | [],_,e,x,i,_,h,_=>by simp at h
 | _ :: _,[],e,x,i,_,_,h=>by simp at h
 | v :: r,j :: l,0,x,i,h,h1,h2=>by
  simp only [List.getElem?_cons_zero,Option.some.injEq] at h1 h2
  subst h1 h2
  rw [fitVs,Bool.and_eq_true] at h
  exact h.1
 | v :: r,j :: l,e + 1,x,i,h,h1,h2=>by
  simp only [List.getElem?_cons_succ] at h1 h2
  rw [fitVs,Bool.and_eq_true] at h
  exact fitVs_at h.2 h1 h2
end Go.Proofs.YtdeaicofhmkebaaGreat
set_option maxRecDepth 100000
namespace Go.Proofs.YtdeaicofhmkebaaGreat
open Go Go.RowKit Dv Tryz
theorem truth_spec (z:Int):EvP Tryz.prog 229 [.v (.int .i64 z)] (.v (.string (if z=1 then trueB else falseB))):=by
 refine ev_go (P:=Tryz.prog) tt tt_ok 5000 5 [.tmp 2] Tryz.func229 rfl Tryz.ntmps229 rfl (Nat.le_of_ble_eq_true rfl) (fun E9 w9 hn9 hm9=>?_)
 refine br (fun c=>?_) (fun c=>?_)
 ·have c:z=1:=by simpa using c
  rw [if_pos c]
  exact (rfl:_=_)
 ·have c:¬ z=1:=by simpa using c
  rw [if_neg c]
  exact (rfl:_=_)
abbrev zRw:List DV:=[.v (.int .i64 0),.v (.int .i64 0),.v (.int .i64 0),.v (.string emptyB),.v (.slice none 0 0),.v (.slice none 0 0)]
abbrev oRw (k:Int) (s:ByteArray) (ky kd:DV):List DV:=[.v (.int .i64 k),.v (.int .i64 0),.v (.int .i64 0),.v (.string s),ky,kd]
abbrev wrSt (PC:List DV) (v:Val) (d:Nd) (l:List Int) (rs:List Rw) (q e:Nat):St:=
 ⟨[(0,⟨[],.pt PC 0⟩),(5,⟨[],.loc 0 0⟩),(6,⟨[],.loc 1 0⟩),(7,⟨[],.loc 2 0⟩),(9,⟨[],.sl 1 (dZs l) none⟩),(11,⟨[],.loc 3 0⟩),(58,⟨[],.sl 4 (dVals v.ks) none⟩),(59,⟨[],.v (.int .i64 (dVals v.ks).length)⟩),(60,⟨[],.v (.int .i64 e)⟩)],
  [dVal v,zRw,dNd d,oRw 4 emptyB (.v (.slice none 0 0)) (.sl 6 (dRws rs) (some 0))],[⟨q,161,6,none⟩]⟩
abbrev kySt (v:Val) (d:Nd) (rs:List Rw) (n e:Nat):St:=
 ⟨[(6,⟨[],.loc 1 0⟩),(11,⟨[],.loc 3 0⟩),(87,⟨[],.sl 10 (dEds d.edges) none⟩),(88,⟨[],.v (.int .i64 (dEds d.edges).length)⟩),(89,⟨[],.v (.int .i64 e)⟩)],
  [dVal v,zRw,dNd d,oRw 5 emptyB (.sl 2 (dWds ((d.edges.take e).map fun x=>⟨x.name,0⟩)) (some 1)) (.sl 6 (dRws rs) (some 0))],[⟨n,161,6,none⟩,⟨e,27,2,none⟩]⟩
theorem twrite_spec {S:Sch} {ND:List Nd} {PC:List DV} (hP:PlanR S ND PC):∀ (k:Nat) (v:Val),v.wt≤k→v.wt≤1099511627776→∀ i:Int,fitV ND v i=true→EvP Tryz.prog 162 [.pt PC 0,.v (.int .i64 i),.agg (dVal v)] (.agg (dRw (rawV ND v i)))
 | 0,v,h,_=>by have:=v.wt_pos;omega
 | k + 1,v,h,hb=>fun i hfit=>by
  have ih:=twrite_spec hP k
  obtain ⟨d,hF⟩:=fit_facts hP.ok hfit
  have hraw:rawV ND v i=wrF d v (rawVs ND v.ks (kidsL d v)):=by
   obtain ⟨q,z,s,ks⟩:=v
   rw [rawV,hF.node]
   rfl
  obtain ⟨h0,hg⟩:=nodeA_some hF.node
  obtain ⟨j,rfl⟩:∃ j:Nat,i=j:=⟨i.toNat,by omega⟩
  have hg:ND[j]? = some d:=by simpa using hg
  have hN:=hP.ok d (List.mem_of_getElem? hg)
  have hk1:=hN.k1
  have hk8:=hN.k8
  have hkd:=fun h5=>kids_spec hN h5 v hb
  have hnode:=hP.node j d hg
  have hkk:=hF.k
  have hkids:=hF.kids
  have henum:=hF.enum
  have htag:=hF.tag
  have hopt:=hF.opt
  have hmany:=hN.many
  rw [hraw]
  obtain ⟨q,z,s,ks⟩:=v
  have hkl:=wtVs_len ks
  have hdl:=dVals_len ks
  rw [Val.wt] at h hb
  simp only [Val.k,Val.n,Val.ks] at hkk hkids henum htag hopt
  generalize kidsL d (.mk q z s ks)=l at hkd hkids ⊢
  generalize hB:kidsB d (.mk q z s ks)=kb at hkd
  have hel:=dEds_len d.edges
  have hbl:=dBs_len d.names
  have hwr:wrF d (.mk q z s ks) (rawVs ND ks l)=if q=1 then .mk 1 0 0 (if z=1 then trueB else falseB) [] []
   else if q=2 then .mk 2 0 z emptyB [] []
   else if q=3 then .mk 3 0 0 s [] []
   else if q=4 then .mk 1 0 0 (d.names[z.toNat]?.getD emptyB) [] []
   else if q=5 then .mk 4 0 0 emptyB [] (rawVs ND ks l)
   else if q=7 then .mk 5 0 0 emptyB (d.edges.map fun e=>⟨e.name,0⟩) (rawVs ND ks l)
   else .mk (if 0 < ks.length then 6 else 1) 0 0 (if q=8 then tagN d (.mk q z s ks) else if 0 < ks.length then someB else noneB) [] (rawVs ND ks l):=rfl
  simp only [Val.ks] at *
  rw [hwr]
  generalize hR:rawVs ND ks l=R
  obtain ⟨kind,at',lo,hi,most,names,es⟩:=d
  simp only at hkk hk1 hk8 hkd hkids henum htag hopt hmany hel hbl
  refine ev_go (P:=Tryz.prog) tt tt_ok 5000 127 [.cell 6 161] Tryz.func162 rfl Tryz.ntmps162 rfl (Nat.le_of_ble_eq_true rfl) (fun E9 w9 hn9 hm9=>?_)
  refine call_p en19 (hnode) ax rfl ?_
  refine br (fun c=>?_) (fun c=>?_)
  ·have c:q=1:=by simpa using c
   refine call_p en229 (truth_spec z) ax rfl ?_
   rw [if_pos c]
   exact ⟨_,ax,rfl⟩
  have c1:¬ q=1:=by simpa using c
  rw [if_neg c1]
  refine br (fun c=>?_) (fun c=>?_)
  ·have c:q=2:=by simpa using c
   rw [if_pos c]
   exact ⟨_,ax,rfl⟩
  have c2:¬ q=2:=by simpa using c
  rw [if_neg c2]
  refine br (fun c=>?_) (fun c=>?_)
  ·have c:q=3:=by simpa using c
   rw [if_pos c]
   exact ⟨_,ax,rfl⟩
  have c3:¬ q=3:=by simpa using c
  rw [if_neg c3]
  refine br (fun c=>?_) (fun c=>?_)
  ·have c:q=4:=by simpa using c
   obtain ⟨z0,z1⟩:=henum (by omega)
   obtain ⟨x,hx⟩:∃ x,names[z.toNat]? = some x:=⟨_,List.getElem?_eq_getElem (by omega)⟩
   rw [if_pos c]
   simp only [hx,Option.getD_some]
   refine ⟨_,⟨by omega,dBs_get hx⟩,?_⟩
   exact ⟨_,ax,rfl⟩
  have c4:¬ q=4:=by simpa using c
  rw [if_neg c4]
  obtain ⟨hll,hfs⟩:=hkids (by omega)
  refine call_p en118 (hkd (by omega)) ax rfl ?_
  refine loop_i (fun j st=>∃ e:Nat,st=wrSt PC (.mk q z s ks) ⟨kind,at',lo,hi,most,names,es⟩ l (rawVs ND (ks.take e) (l.take e)) e e∧e≤ks.length∧j=ks.length - e) ks.length (wrSt PC (.mk q z s ks) ⟨kind,at',lo,hi,most,names,es⟩ l [] 0 0) (weak_bt 4 ⟨0,161,6,none⟩ rfl rfl rfl (by repeat' (first | exact rfl | exact we_rfl rfl | exact we_tok (Nat.le_refl _) rfl | exact we_tok (Nat.le_refl _) rfl | refine ⟨_,_,rfl,?_,?_⟩)) rfl rfl (by repeat' (first | exact trivial | exact we_rfl rfl | exact we_tok (Nat.le_refl _) rfl | refine ⟨⟨_,rfl,?_⟩,?_⟩))) ⟨0,rfl,by omega,by omega⟩ ?_
  rintro _ st ⟨e,rfl,he,rfl⟩
  refine br (fun hL=>?_) (fun hL=>?_)
  ·have hlt:e < ks.length:=by simpa [hdl,Val.ks] using hL
   obtain ⟨x,hx⟩:∃ x,ks[e]? = some x:=⟨_,List.getElem?_eq_getElem hlt⟩
   obtain ⟨i',hi'⟩:∃ i',l[e]? = some i':=⟨_,List.getElem?_eq_getElem (by omega)⟩
   have hxw:=wtVs_mem (List.mem_of_getElem? hx)
   have hw:=ih x (by omega) (by omega) i' (fitVs_at hfs hx hi')
   have hsn:=rawVs_snoc (ND:=ND) hx hi'
   generalize rawV ND x i'=r at hw hsn
   obtain ⟨xk,xn,xs,xl⟩:=x
   refine ⟨_,⟨by omega,dVals_get (by simpa [Val.ks] using hx)⟩,?_⟩
   have hRl:(rawVs ND (ks.take e) (l.take e)).length=e:=by
    rw [rawVs_len]
    ·rw [List.length_take];omega
    ·rw [List.length_take,List.length_take];omega
   obtain ⟨rk,ra,rn,rs,rky,rks⟩:=r
   refine drawG_s mo (by decide +kernel) ?_
   refine ⟨_,⟨by omega,dZs_get hi'⟩,?_⟩
   refine callD_p en162 (hw) ax rfl ?_
   refine ⟨by rw [dRws_len,hRl],⟨by rw [dRws_len,hRl];simp [maxLen];omega,by rw [dRws_len,hRl];simp;omega⟩,?_⟩
   exact ⟨wrSt PC (.mk q z s ks) ⟨kind,at',lo,hi,most,names,es⟩ l (rawVs ND (ks.take (e + 1)) (l.take (e + 1))) (e + 1) (e + 1),(weak_b 4 rfl (by repeat' (first | exact rfl | exact we_rfl rfl | exact we_int (nxt hlt (by omega)) | exact we_sl ((dRws_snoc _ _).trans (congrArg dRws hsn.symm)) rfl | refine ⟨_,_,rfl,?_,?_⟩)) rfl rfl rfl (by repeat' (first | exact trivial | exact we_rfl rfl | exact we_int (nxt hlt (by omega)) | exact we_sl ((dRws_snoc _ _).trans (congrArg dRws hsn.symm)) rfl | refine ⟨⟨_,rfl,?_⟩,?_⟩))),ks.length - (e + 1),by omega,e + 1,rfl,by omega,rfl⟩
  ·have hge:e=ks.length:=by
    have:=hL;simp [hdl,Val.ks] at this;omega
   have ht:rawVs ND (ks.take e) (l.take e)=R:=by rw [hge,List.take_length,← hll,List.take_length,hR]
   rw [ht]
   refine br (fun c=>?_) (fun c=>?_)
   ·have c:q=5:=by simpa using c
    rw [if_pos c]
    exact ⟨_,ax,rfl⟩
   have c5:¬ q=5:=by simpa using c
   rw [if_neg c5]
   refine br (fun c=>?_) (fun c=>?_)
   ·have c:q=7:=by simpa using c
    rw [if_pos c]
    have hm64:=(hmany (.inl (by omega))).1
    refine loop_i (fun j st=>∃ u:Nat,st=kySt (.mk q z s ks) ⟨kind,at',lo,hi,most,names,es⟩ R e u∧u≤es.length∧j=es.length - u) es.length (kySt (.mk q z s ks) ⟨kind,at',lo,hi,most,names,es⟩ R e 0) (weak_bt 4 ⟨0,27,2,none⟩ rfl rfl rfl (by repeat' (first | exact rfl | exact we_rfl rfl | exact we_tok (Nat.le_refl _) rfl | exact we_tok (Nat.le_refl _) rfl | refine ⟨_,_,rfl,?_,?_⟩)) rfl rfl (by repeat' (first | exact trivial | exact we_rfl rfl | exact we_tok (Nat.le_refl _) rfl | refine ⟨⟨_,rfl,?_⟩,?_⟩))) ⟨0,rfl,by omega,by omega⟩ ?_
    rintro _ st ⟨u,rfl,hu,rfl⟩
    refine br (fun hL=>?_) (fun hL=>?_)
    ·have hlt:u < es.length:=by simpa [hel] using hL
     obtain ⟨x,hx⟩:∃ x,es[u]? = some x:=⟨_,List.getElem?_eq_getElem hlt⟩
     have hml:(dWds ((es.take u).map fun x=>⟨x.name,0⟩)).length=u:=by simp [dWds];omega
     have hsn:dWds ((es.take u).map fun x=>⟨x.name,0⟩) ++ [dWd ⟨x.name,0⟩]=dWds ((es.take (u + 1)).map fun x=>⟨x.name,0⟩):=by rw [List.take_add_one,hx];simp [dWds]
     refine ⟨_,⟨by omega,dEds_get hx⟩,?_⟩
     refine ⟨hml,⟨by rw [hml];simp [maxLen];omega,by rw [hml];simp;omega⟩,?_⟩
     exact ⟨kySt (.mk q z s ks) ⟨kind,at',lo,hi,most,names,es⟩ R e (u + 1),(weak_b 4 rfl (by repeat' (first | exact rfl | exact we_rfl rfl | exact we_int (nxt hlt (by omega)) | exact we_sl hsn rfl | refine ⟨_,_,rfl,?_,?_⟩)) rfl rfl rfl (by repeat' (first | exact trivial | exact we_rfl rfl | exact we_int (nxt hlt (by omega)) | exact we_sl hsn rfl | refine ⟨⟨_,rfl,?_⟩,?_⟩))),es.length - (u + 1),by omega,u + 1,rfl,by omega,rfl⟩
    ·have hge:u=es.length:=by
      have:=hL;simp [hel] at this;omega
     have ht:es.take u=es:=by rw [hge,List.take_length]
     rw [ht]
     exact ⟨_,ax,rfl⟩
   have c7:¬ q=7:=by simpa using c
   rw [if_neg c7]
   refine br (fun c=>?_) (fun c=>?_)
   ·have c:q=8:=by simpa using c
    obtain ⟨x,htg,hx,z0,z1,hbr⟩:=htag (by omega)
    rw [if_pos c]
    have hn:tagN ⟨kind,at',lo,hi,most,names,es⟩ (.mk q z s ks)=x.name:=by unfold tagN;rw [htg]
    rw [hn]
    refine ⟨_,⟨by omega,dEds_get hx⟩,?_⟩
    refine br (fun c=>?_) (fun c=>?_)
    ·have c:0 < ks.length:=by simpa [hdl] using c
     rw [if_pos c]
     exact ⟨_,ax,rfl⟩
    ·have c:¬ 0 < ks.length:=by simpa [hdl] using c
     rw [if_neg c]
     exact ⟨_,ax,rfl⟩
   have c8:¬ q=8:=by simpa using c
   rw [if_neg c8]
   refine br (fun c=>?_) (fun c=>?_)
   ·refine br (fun c=>?_) (fun c=>?_)
    ·have c:0 < ks.length:=by simpa [hdl,Val.ks] using c
     rw [if_pos c,if_pos c]
     refine br (fun _=>?_) (fun c'=>?_)
     ·exact ⟨_,ax,rfl⟩
     ·exact absurd c (by simpa [hdl,Val.ks] using c')
    ·have c:¬ 0 < ks.length:=by simpa [hdl,Val.ks] using c
     rw [if_neg c,if_neg c]
     refine br (fun c'=>?_) (fun _=>?_)
     ·exact absurd (by simpa [hdl,Val.ks] using c') c
     ·exact ⟨_,ax,rfl⟩
   ·have c:¬ q=6:=by simpa using c
    omega
abbrev zeroR:Rw:=.mk 0 0 0 emptyB [] []
theorem traw_spec {S:Sch} {ND:List Nd} {PC:List DV} (hP:PlanR S ND PC) (v:Val) (hv:v.wt≤1099511627776) (i:Int) :
  EvP Tryz.prog 89 [.pt PC 0,.v (.int .i64 i),.agg (dVal v)] (.tup [.agg (dRw (if fitV ND v i=true then rawV ND v i else zeroR)),.v (.bool (fitV ND v i))]):=by
 have hf:=tfits_spec hP v.wt v (Nat.le_refl _) hv i
 have hw:=twrite_spec hP v.wt v (Nat.le_refl _) hv i
 cases hc:fitV ND v i with
 | false=>
  rw [hc] at hf
  rw [if_neg (by simp)]
  obtain ⟨q,z,s,ks⟩:=v
  refine ev_go (P:=Tryz.prog) tt tt_ok 5000 18 [.cell 6 161,.tmp 7] Tryz.func89 rfl Tryz.ntmps89 rfl (Nat.le_of_ble_eq_true rfl) (fun E9 w9 hn9 hm9=>?_)
  refine call_p en51 (hf) ax rfl ?_
  exact ⟨_,ax,rfl⟩
 | true=>
  rw [hc] at hf
  have hw:=hw hc
  rw [if_pos rfl]
  generalize rawV ND v i=r at hw ⊢
  obtain ⟨rk,ra,rn,rs,rky,rks⟩:=r
  obtain ⟨q,z,s,ks⟩:=v
  refine ev_go (P:=Tryz.prog) tt tt_ok 5000 18 [.cell 6 161,.tmp 7] Tryz.func89 rfl Tryz.ntmps89 rfl (Nat.le_of_ble_eq_true rfl) (fun E9 w9 hn9 hm9=>?_)
  refine call_p en51 (hf) ax rfl ?_
  refine call_p en162 (hw) ax rfl ?_
  exact ⟨_,ax,rfl⟩
end Go.Proofs.YtdeaicofhmkebaaGreat
set_option maxRecDepth 100000
namespace Go.Proofs.YtdeaicofhmkebaaGreat
open Go Go.RowKit Dv Tryz
end Go.Proofs.YtdeaicofhmkebaaGreat
set_option maxRecDepth 100000
namespace Go.Proofs.YtdeaicofhmkebaaGreat
open Go Go.RowKit Dv Tryz
end Go.Proofs.YtdeaicofhmkebaaGreat
set_option maxRecDepth 100000
namespace Go.Proofs.YtdeaicofhmkebaaGreat
open Go Go.RowKit Dv Tryz
abbrev wG (a b:Nat) (A B:List (List DV)) (ND:List Nd) (z:Int):List DV:=[.sl a A none,.sl b B none,.sl 7 (dNds ND) none,.v (.int .i64 z)]
end Go.Proofs.YtdeaicofhmkebaaGreat
set_option maxRecDepth 100000
namespace Go.Proofs.YtdeaicofhmkebaaGreat
open Go Go.RowKit Dv Tryz
end Go.Proofs.YtdeaicofhmkebaaGreat
set_option maxRecDepth 100000
namespace Go.Proofs.YtdeaicofhmkebaaGreat
open Go Go.RowKit Dv Tryz
def exH (k:Int):Hd:=⟨k,0,0,0,0,[],⟨emptyB,0⟩⟩
def FineΦ (S:Sch) (r:DV):Prop:=∃ b:Bool,r = .v (.bool b)∧(b=true→(resF S).1=0)
end Go.Proofs.YtdeaicofhmkebaaGreat
set_option maxRecDepth 100000
namespace Go.Proofs.YtdeaicofhmkebaaGreat
open Go Go.RowKit Dv Tryz
theorem refVs_drop {ND:List Nd} {ks:List Val} {f:Nat→Int} {e:Nat} {x:Val} (h:ks[e]? = some x):refVs ND (ks.drop e) f e=(refV ND x (f e) && refVs ND (ks.drop (e + 1)) f (e + 1)):=by
 rw [drop_cons h,refVs]
abbrev rfSt (W:List DV) (v:Val) (d:Nd) (ok:Bool) (e:Nat):St:=
 ⟨[(3,⟨[],.loc 0 0⟩),(5,⟨[],.loc 1 0⟩),(7,⟨[],.loc 2 0⟩),(8,⟨[],.v (.bool ok)⟩),(9,⟨[],.v (.int .i64 e)⟩)],[W,dVal v,dNd d],[]⟩
set_option maxHeartbeats 4000000 in
theorem fits25_spec (a b:Nat) (A B:List (List DV)) (rt:Int) {ND:List Nd} {L:Nat} (hok:∀ n∈ND,NdOK L ND.length n):∀ (k:Nat) (v:Val),v.wt≤k→v.wt≤1099511627776→∀ i:Int,EvP Tryz.prog 31 [.agg (wG a b A B ND rt),.v (.int .i64 i),.agg (dVal v)] (.v (.bool (refV ND v i)))
 | 0,v,h,_=>by have:=v.wt_pos;omega
 | k + 1,.mk q z s ks,h,hb=>fun i=>by
  have ih:=fits25_spec a b A B rt hok k
  have hkl:=wtVs_len ks
  have hdl:=dVals_len ks
  have hb':=hb
  rw [Val.wt] at h hb
  rw [refV]
  have hNl:=dNds_len ND
  cases hd:nodeA ND i with
  | none=>
   have hn:=nodeA_none hd
   refine ev_go (P:=Tryz.prog) tt tt_ok 5000 164 [.tmp 6] Tryz.func31 rfl Tryz.ntmps31 rfl (Nat.le_of_ble_eq_true rfl) (fun E9 w9 hn9 hm9=>?_)
   refine br (fun _=>?_) (fun c=>?_)
   ·exact (rfl:_=_)
   ·exfalso
    have:=c
    simp [pickB_or,hNl] at this
    omega
  | some d=>
   obtain ⟨h0,hg⟩:=nodeA_some hd
   obtain ⟨j,rfl⟩:∃ j:Nat,i=j:=⟨i.toNat,by omega⟩
   have hg:ND[j]? = some d:=by simpa using hg
   have hjl:=(List.getElem?_eq_some_iff.1 hg).1
   have hN:=hok d (List.mem_of_getElem? hg)
   have hk1:=hN.k1
   have hk8:=hN.k8
   have hmany:=hN.many
   have hto:=fun m=>to25_spec hN (.mk q z s ks) m
   simp only
   have hel:=dEds_len d.edges
   have hbl:=dBs_len d.names
   generalize hf:toR d (.mk q z s ks)=f at hto
   have hF:okR d (.mk q z s ks)=okR d (.mk q z s ks):=rfl
   obtain ⟨kind,at',lo,hi,most,names,es⟩:=d
   simp only at hk1 hk8 hmany hel hbl
   have hkc:((ks.length:Int)=(es.length:Int))↔ks.length=es.length:=by omega
   have hbad:∀ b:Bool,b=pickB (pickB (!decide (q=kind)) true (pickB (!decide (q=3)) (!decide (s=⟨#[]⟩)) false)) true (pickB (decide (0 < (s.size:Int))) (decide (most < (s.size:Int))) false)→b=badR ⟨kind,at',lo,hi,most,names,es⟩ (.mk q z s ks):=fun b h=>by
    rw [h,emptyB_eq,Bool.eq_iff_iff]
    have hB:badR ⟨kind,at',lo,hi,most,names,es⟩ (.mk q z s ks)=(decide (q≠kind) || (decide (q≠3) && decide (s≠emptyB)) || (decide (0 < s.size) && decide (most < (s.size:Int)))):=rfl
    rw [hB]
    simp [pickB_or,pickB_and,or_assoc]
   refine ev_go (P:=Tryz.prog) tt tt_ok 5000 164 [.tmp 6] Tryz.func31 rfl Tryz.ntmps31 rfl (Nat.le_of_ble_eq_true rfl) (fun E9 w9 hn9 hm9=>?_)
   refine br (fun c=>?_) (fun _=>?_)
   ·exfalso
    have:=c
    simp [pickB_or,hNl] at this
    omega
   refine ⟨_,⟨by omega,dNds_get hg⟩,?_⟩
   refine br (fun c=>?_) (fun c=>?_)
   ·have c:=(hbad _ rfl).symm.trans c
    rw [if_pos c]
    exact (rfl:_=_)
   have c:=(hbad _ rfl).symm.trans c
   rw [if_neg (by rw [c];simp)]
   rcases (show kind=1∨kind=2∨kind=3∨kind=4∨kind=5∨kind=6∨kind=7∨kind=8 by omega) with c | c | c | c | c | c | c | c
   all_goals
    repeat (first | (refine br (fun h=>?_) (fun _=>?_);focus (simp [c] at h;done)) | (refine br (fun _=>?_) (fun h=>?_);rotate_left;focus (simp [c] at h;done)))
   all_goals
    try
     refine drawG_i (fun _=>false) mo (by decide +kernel) ?_
     have hc:∀ b:Bool,b=pickB (decide (0≤z)) (decide (z < ((dEds es).length:Int))) false→b=decide (0≤z∧z < es.length):=fun b h=>by
      rw [h,hel,pickB_and,Bool.eq_iff_iff]
      simp
     refine br (fun g=>?pp) (fun g=>?nn)
     case' pp=>
      have g8:=of_decide_eq_true ((hc _ rfl).symm.trans (by simpa using g))
      obtain ⟨x,hx8⟩:∃ x,es[z.toNat]? = some x:=⟨_,List.getElem?_eq_getElem (by omega)⟩
      have hm64:=(hmany (.inr c)).1
      have hw:max 0 (min z (IntKind.i64.wrap (((dEds es).length:Int) - 1)))=z:=by rw [hel,wrap64 (by omega) (by omega)];omega
      refine ⟨_,⟨Int.le_max_left _ _,by rw [hw];exact dEds_get hx8⟩,?_⟩
      show LoopG _ _ _ _
     case' nn=>
      have g8:=of_decide_eq_false ((hc _ rfl).symm.trans (by simpa using g))
      show LoopG _ _ _ _
   all_goals
    refine loop_i (fun j st=>∃ (e:Nat) (ok:Bool),st=rfSt (wG a b A B ND rt) (.mk q z s ks) ⟨kind,at',lo,hi,most,names,es⟩ ok e∧e≤ks.length∧(okR ⟨kind,at',lo,hi,most,names,es⟩ (.mk q z s ks) && refVs ND ks f 0)=(ok && refVs ND (ks.drop e) f e)∧j=ks.length - e) ks.length (rfSt (wG a b A B ND rt) (.mk q z s ks) ⟨kind,at',lo,hi,most,names,es⟩ _ 0) (weak_mk ⟨_,rfl⟩ wA rfl rfl rfl wB) ⟨0,_,rfl,by omega,congrArg (fun b=>b && refVs ND ks f 0) ?_,by omega⟩ ?_
    ·first
      | (simp [okR,c,pickB_or,pickB_and,Val.n,Val.ks,hel,hbl,hdl,hkc,g8,hx8];rw [(List.getElem?_eq_some_iff.1 hx8).2];cases x.bare<;>simp;done)
      | (simp [okR,c,pickB_or,pickB_and,Val.n,Val.ks,hel,hbl,hdl,hkc,g8];try rfl;done)
      | (simp [okR,c,pickB_or,pickB_and,Val.n,Val.ks,hel,hbl,hdl,hkc];try rfl;done)
    ·rintro _ st ⟨e,ok,rfl,he,heq,rfl⟩
     refine br (fun hL=>?_) (fun hL=>?_)
     ·have hL:e < ks.length∧ok=true:=by
       have:=hL
       simp [pickB_and,hdl] at this
       exact this
      obtain ⟨hlt,hok1⟩:=hL
      obtain ⟨x,hx⟩:∃ x,ks[e]? = some x:=⟨_,List.getElem?_eq_getElem hlt⟩
      have hxw:=wtVs_mem (List.mem_of_getElem? hx)
      rw [hok1,Bool.true_and,refVs_drop hx] at heq
      have hi':=ih x (by omega) (by omega) (f e)
      obtain ⟨xk,xn,xs,xl⟩:=x
      refine drawG_i (fun _=>false) mo (by decide +kernel) ?_
      refine callD_p en96 (hto e) ax rfl ?_
      refine ⟨_,⟨by omega,dVals_get hx⟩,?_⟩
      refine callD_p en31 (hi') ax rfl ?_
      exact ⟨rfSt (wG a b A B ND rt) (.mk q z s ks) ⟨kind,at',lo,hi,most,names,es⟩ _ (e + 1),(weak_mk ⟨_,rfl⟩ wA rfl rfl rfl (by repeat' (first | exact trivial | exact we_rfl rfl | exact we_int (nxt hlt (by omega)) | refine ⟨⟨_,rfl,?_⟩,?_⟩))),ks.length - (e + 1),by omega,e + 1,_,rfl,by omega,heq,rfl⟩
     ·have hL:¬ (e < ks.length∧ok=true):=by
       have:=hL
       simp [pickB_and,hdl] at this
       simpa using this
      refine (congrArg (fun b=>DV.v (.bool b)) ?_:_=_)
      rw [heq]
      cases ok with
      | false=>rfl
      | true=>rw [List.drop_of_length_le (by simp at hL;omega),refVs];all_goals rfl
end Go.Proofs.YtdeaicofhmkebaaGreat
set_option maxRecDepth 100000
namespace Go.Proofs.YtdeaicofhmkebaaGreat
open Go Go.RowKit Dv Tryz
theorem toR_kids {ND:List Nd} {d:Nd} {v:Val} {i:Int} (hd:nodeA ND i=some d) (hf:fitV ND v i=true) (h5:5≤d.kind) (h8:d.kind≤8) {e:Nat} {x:Int} (h:(kidsL d v)[e]? = some x):toR d v e=x:=by
 have hB:kidsB d v=true:=by
  obtain ⟨q,z,s,ks⟩:=v
  rw [fitV,hd] at hf
  simp only at hf
  rw [if_neg (by omega),Bool.and_eq_true] at hf
  exact hf.1
 unfold kidsB at hB
 unfold kidsL at h
 unfold toR
 by_cases c:d.kind=5∨d.kind=6
 ·rw [if_pos c] at hB h
  simp only [Bool.and_eq_true,decide_eq_true_eq] at hB
  have hlt:e < v.ks.length:=by have:=(List.getElem?_eq_some_iff.1 h).1;simpa using this
  rw [List.getElem?_replicate,if_pos hlt] at h
  simp only [Option.some.injEq] at h
  have h2:=hB.2
  by_cases c5:d.kind=5
  ·rw [if_neg (by omega)] at h2
   rw [if_pos c5,if_pos (by omega),h]
  ·rw [if_pos (by omega)] at h2
   rw [if_neg c5,if_pos (by omega),if_pos (by omega),h]
 ·rw [if_neg c] at hB h
  rw [if_neg (by omega),if_neg (by omega)]
  by_cases c7:d.kind=7
  ·rw [if_pos c7] at h
   rw [if_pos c7]
   rw [List.getElem?_map] at h
   cases hx:d.edges[e]? with
   | none=>rw [hx] at h;cases h
   | some y=>rw [hx] at h;simpa using h
  ·rw [if_neg c7] at h hB
   rw [if_neg c7]
   cases ht:tagE d v with
   | none=>rw [ht] at hB;cases hB
   | some y=>
    rw [ht] at h
    have ht2:=ht
    unfold tagE at ht2
    split at ht2
    ·rename_i hr
     have hk8:d.kind=8:=by omega
     simp only at h
     split at h
     ·simp at h
     ·have he:e=0:=by have:=(List.getElem?_eq_some_iff.1 h).1;simp at this;omega
      subst he
      rw [if_pos hk8,if_pos ⟨by omega,hr.2⟩,ht2]
      simpa using h
    ·cases ht2
end Go.Proofs.YtdeaicofhmkebaaGreat
set_option maxRecDepth 100000
namespace Go.Proofs.YtdeaicofhmkebaaGreat
open Go Go.RowKit Dv Tryz
end Go.Proofs.YtdeaicofhmkebaaGreat
set_option maxRecDepth 100000
namespace Go.Proofs.YtdeaicofhmkebaaGreat
open Go Go.RowKit Dv Tryz
def exS25:Sch:=⟨[⟨⟨#[97]⟩,0⟩],[],[],.mk (exH 1) .nil⟩
def exV25:Val:=.mk 1 1 emptyB []
theorem ex25_fine:(resF exS25).1=0:=by decide +kernel
theorem ex25_fit:fitV (resNds exS25) exV25 0=true:=by decide +kernel
theorem ex25_raw:rawV (resNds exS25) exV25 0 = .mk 1 0 0 trueB [] []:=by kernel_rfl
theorem lives25_spec:EvP Tryz.prog 28 [] (.v (.bool true)):=by
 have hwt:exS25.wt≤1099511627776:=by decide +kernel
 have hwv:exV25.wt≤1099511627776:=by decide +kernel
 have hb:=(build_spec exS25 hwt).mono (Ψ:=fun r _ _=>BuiltΦ exS25 r) fun _ _ _ h=>builtΦ_of hwt h
 refine ev_go (P:=Tryz.prog) tt tt_ok 5000 30 [.tmp 0] Tryz.func28 rfl Tryz.ntmps28 rfl (Nat.le_of_ble_eq_true rfl) (fun E9 w9 hn9 hm9=>?_)
 refine call_e en17 rfl hb ax (fun r hr=>?_)
 rcases hr with ⟨hr,_⟩ | ⟨_,PC,hP,rfl⟩
 ·exact (hr ex25_fine).elim
 have hr:=traw_spec hP exV25 hwv 0
 rw [if_pos ex25_fit,ex25_fit,ex25_raw] at hr
 refine call_p en89 (hr) ax rfl ?_
 exact (rfl:_=_)
theorem fine25_spec (S:Sch) (hS:S.wt≤1099511627776) (v:Val) (hv:v.wt≤1099511627776):Ev Tryz.prog 27 [.agg (dSch S),.agg (dVal v)] [] [] (fun r _ _=>FineΦ S r):=by
 have ga:=great17_spec S hS
 have hwr:=wrong18_spec S hS
 have hsz:=size25_spec v.wt v (Nat.le_refl _) hv
 unfold FineΦ
 generalize resF S=R at hwr ⊢
 obtain ⟨levels,order,types,⟨rh,rp⟩⟩:=S
 obtain ⟨q,z,s,ks⟩:=v
 refine ev_go (P:=Tryz.prog) tt tt_ok 5000 25 [.tmp 4] Tryz.func27 rfl Tryz.ntmps27 rfl (Nat.le_of_ble_eq_true rfl) (fun E9 w9 hn9 hm9=>?_)
 refine call_p en26 (hsz) ax rfl ?_
 refine br (fun c=>?_) (fun c=>?_)
 ·refine call_e en15 rfl ga ax (fun r hr=>?_)
  obtain ⟨g,rfl⟩:=hr
  cases g with
  | true=>
   refine ⟨false,?_,fun h=>by cases h⟩
   rfl
  | false=>
   refine call_p en88 (hwr) ax rfl ?_
   refine ⟨_,ft_cmp _ _ R (0,0),?_⟩
   refine ⟨_,rfl,fun h=>?_⟩
   simp [pickB] at h
   exact h.1
 ·have c:decide (((cntV (Val.mk q z s ks):Nat):Int)≤3000)=false:=by simpa using c
  refine ⟨false,?_,fun h=>by cases h⟩
  refine (congrArg (fun b=>DV.v (.bool b)) ?_:_=_)
  rfl
end Go.Proofs.YtdeaicofhmkebaaGreat
set_option maxRecDepth 100000
namespace Go.Proofs.YtdeaicofhmkebaaGreat
open Go Go.RowKit Dv Tryz
structure Stp where
 k:Int
 n:Int
 s:ByteArray
def dStp (x:Stp):List DV:=[.v (.int .i64 x.k),.v (.int .i64 x.n),.v (.string x.s)]
def dStps (l:List Stp):List (List DV):=l.map dStp
theorem dStps_len (l:List Stp):(dStps l).length=l.length:=by simp [dStps]
theorem dStps_get {l:List Stp} {e:Nat} {x:Stp} (h:l[e]? = some x):(dStps l)[e]? = some (dStp x):=by simp [dStps,h]
def stpE (a b:Stp):Bool:=decide (a.k=b.k) && (decide (a.n=b.n) && decide (a.s=b.s))
theorem stpE_iff {a b:Stp}:stpE a b=true↔a=b:=by
 obtain ⟨k,n,s⟩:=a
 obtain ⟨k',n',s'⟩:=b
 simp only [stpE,Bool.and_eq_true,decide_eq_true_eq,Stp.mk.injEq]
def stpA (a:Stp):Array Value:=#[.int .i64 a.k,.int .i64 a.n,.string a.s]
theorem stp_equal (a b:Stp) (w:World):(Op.equal 173 (.agg (stpA a)) (.agg (stpA b))).run Tryz.prog w = .ok (stpE a b) w:=by
 have hf:Tryz.prog.underlying 173=some (.struct (Tryz.prog.fieldsOf 173)):=by simp [Program.fieldsOf,Tryz.underlying173]
 have hf2:(Tryz.prog.fieldsOf 173).toList=[⟨ "Kind",3,0,false, "", "",0⟩,⟨ "N",3,1,false, "", "",8⟩,⟨ "Name",9,2,false, "", "",16⟩]:=by simp [Program.fieldsOf,Tryz.underlying173]
 have hs:Tryz.prog.stoodInHeld 173=false:=by kernel_rfl
 obtain ⟨d,hm⟩:∃ d,Op.maxDepth=d + 1 + 1:=⟨Op.maxDepth - 2,by decide⟩
 have q9:∀ cs:Array Value,∀ off v,cs[off]? = some v→(part 9 cs off).run Tryz.prog w = .ok v w:=fun cs off v h=>by
  simp [part,Tryz.isAgg9,h]
 have q3:∀ cs:Array Value,∀ off v,cs[off]? = some v→(part 3 cs off).run Tryz.prog w = .ok v w:=fun cs off v h=>by
  simp [part,Tryz.isAgg3,h]
 have g0:=fun x:Stp=>q3 (stpA x) 0 (.int .i64 x.k) rfl
 have g1:=fun x:Stp=>q3 (stpA x) 1 (.int .i64 x.n) rfl
 have g2:=fun x:Stp=>q9 (stpA x) 2 (.string x.s) rfl
 have r9:=fun a b=>run_equalIn_string w d 9 a b Tryz.underlying9
 have r3:=fun a b=>run_equalIn_int w d 3 .i64 .i64 a b Tryz.underlying3
 have e1:(a.s.toList == b.s.toList)=decide (a.s=b.s):=by
  rw [ByteArray.toList_eq,ByteArray.toList_eq]
  by_cases h:a.s=b.s
  ·rw [h];simp
  ·have:¬ a.s.data=b.s.data:=fun e=>h (ByteArray.ext e)
   simp [h,this]
 unfold Op.equal
 rw [hm,run_equalIn_struct w (d + 1) 173 _ _ hf hs,hf2]
 simp only [Op.eqFields,ne_eq,String.reduceEq,not_false_eq_true,if_true,Sem.run_bind,g0,g1,g2,r9,r3,Result.andThen_ok]
 by_cases h1:a.k=b.k
 ·by_cases h2:a.n=b.n
  ·by_cases h3:a.s=b.s
   ·simp [h1,h2,h3,stpE,Sem.run_pure,r3,r9,g1,g2]
   ·simp [h1,h2,h3,stpE,Sem.run_pure,r3,r9,g1,g2,e1]
  ·simp [h1,h2,stpE,Sem.run_pure,r3,g1]
 ·simp [h1,stpE,Sem.run_pure]
theorem stp_guard (o:BinOp) (ho:o = .eql∨o = .neq) (w:World) (x y:Operand) (vs vs':Array Value):(eqGuard o 173 x y (.agg vs) (.agg vs')).run Tryz.prog w = .ok () w:=by
 have h:Tryz.prog.eqGuardType Tryz.prog.depth 173=false:=by kernel_rfl
 rcases ho with rfl | rfl<;>simp [eqGuard,run_program,h]
theorem stp_eql (x y:Operand) (a b:Stp):AggCmp Tryz.prog .eql x y 173 (dStp a) (dStp b) (stpE a b):=
 ⟨[.int .i64 a.k,.int .i64 a.n,.string a.s],[.int .i64 b.k,.int .i64 b.n,.string b.s],rfl,rfl,fun w=>⟨stp_guard _ (.inl rfl) w x y _ _,by
  show ((do let r ← Op.equal 173 (.agg (stpA a)) (.agg (stpA b));pure (Value.bool r)):Sem Value).run Tryz.prog w=_
  simp only [Sem.run_bind,stp_equal,Result.andThen_ok,Sem.run_pure]⟩⟩
def stpR (d:Nd) (v:Val) (j:Nat):Stp:=
 if d.kind=5 then ⟨2,j,emptyB⟩
 else if d.kind=6 then ⟨4,0,emptyB⟩
 else if d.kind=7 then ⟨1,0,match d.edges[j]? with | some e=>e.name | none=>emptyB⟩
 else ⟨5,0,match d.edges[v.n.toNat]? with | some e=>e.name | none=>emptyB⟩
theorem step25_spec (d:Nd) (v:Val) (j:Nat) (h7:d.kind=7→j < d.edges.length) (h8:d.kind≠5→d.kind≠6→d.kind≠7→0≤v.n∧v.n < d.edges.length) :
  EvP Tryz.prog 97 [.agg (dNd d),.agg (dVal v),.v (.int .i64 j)] (.agg (dStp (stpR d v j))):=by
 obtain ⟨kind,at',lo,hi,most,names,es⟩:=d
 obtain ⟨q,z,s,ks⟩:=v
 have hel:=dEds_len es
 simp only [Val.n] at h7 h8
 have hS:stpR ⟨kind,at',lo,hi,most,names,es⟩ (.mk q z s ks) j=if kind=5 then ⟨2,j,emptyB⟩
  else if kind=6 then ⟨4,0,emptyB⟩
  else if kind=7 then ⟨1,0,match es[j]? with | some e=>e.name | none=>emptyB⟩
  else ⟨5,0,match es[z.toNat]? with | some e=>e.name | none=>emptyB⟩:=rfl
 rw [hS]
 refine ev_go (P:=Tryz.prog) tt tt_ok 5000 33 [.cell 6 173] Tryz.func97 rfl Tryz.ntmps97 rfl (Nat.le_of_ble_eq_true rfl) (fun E9 w9 hn9 hm9=>?_)
 refine br (fun c=>?_) (fun c=>?_)
 ·have c:kind=5:=by simpa using c
  rw [if_pos c]
  exact ⟨_,ax,rfl⟩
 have c5:¬ kind=5:=by simpa using c
 rw [if_neg c5]
 refine br (fun c=>?_) (fun c=>?_)
 ·have c:kind=6:=by simpa using c
  rw [if_pos c]
  exact ⟨_,ax,rfl⟩
 have c6:¬ kind=6:=by simpa using c
 rw [if_neg c6]
 refine br (fun c=>?_) (fun c=>?_)
 ·have c:kind=7:=by simpa using c
  rw [if_pos c]
  obtain ⟨x,hx⟩:∃ x,es[j]? = some x:=⟨_,List.getElem?_eq_getElem (h7 c)⟩
  simp only [hx]
  refine ⟨_,⟨by omega,dEds_get hx⟩,?_⟩
  exact ⟨_,ax,rfl⟩
 have c7:¬ kind=7:=by simpa using c
 rw [if_neg c7]
 obtain ⟨z0,z1⟩:=h8 c5 c6 c7
 obtain ⟨x,hx⟩:∃ x,es[z.toNat]? = some x:=⟨_,List.getElem?_eq_getElem (by omega)⟩
 simp only [hx]
 refine ⟨_,⟨by omega,dEds_get hx⟩,?_⟩
 exact ⟨_,ax,rfl⟩
end Go.Proofs.YtdeaicofhmkebaaGreat
set_option maxRecDepth 100000
namespace Go.Proofs.YtdeaicofhmkebaaGreat
open Go Go.RowKit Dv Tryz
def stpL (d:Nd) (v:Val):List Stp:=(List.range v.ks.length).map (stpR d v)
theorem stpL_snoc (d:Nd) (v:Val) (e:Nat):dStps ((List.range e).map (stpR d v)) ++ [dStp (stpR d v e)]=dStps ((List.range (e + 1)).map (stpR d v)):=by
 rw [List.range_succ];simp [dStps]
abbrev stsSt (d:Nd) (v:Val) (q e:Nat):St:=
 ⟨[(2,⟨[],.loc 0 0⟩),(3,⟨[],.loc 1 0⟩),(5,⟨[],.sl 3 (dStps ((List.range e).map (stpR d v))) (some 0)⟩),(9,⟨[],.v (.int .i64 (dVals v.ks).length)⟩),(10,⟨[],.v (.int .i64 e)⟩)],[dNd d,dVal v],[⟨q,173,3,none⟩]⟩
theorem steps_spec (d:Nd) (v:Val) (hv:v.wt≤1099511627776) (hk:v.k=d.kind) (h5:5≤d.kind) (hk8:d.kind≤8) (h7:d.kind=7→v.ks.length=d.edges.length) (h8:d.kind=8→0≤v.n∧v.n < d.edges.length) :
  EvP Tryz.prog 168 [.agg (dNd d),.agg (dVal v)] (.sl 3 (dStps (stpL d v)) none):=by
 obtain ⟨kind,at',lo,hi,most,names,es⟩:=d
 obtain ⟨q,z,s,ks⟩:=v
 have hel:=dEds_len es
 have hdl:=dVals_len ks
 have hkl:=wtVs_len ks
 rw [Val.wt] at hv
 simp only [Val.k,Val.n,Val.ks] at hk h5 hk8 h7 h8
 subst hk
 refine ev_go (P:=Tryz.prog) tt tt_ok 5000 55 [.tmp 4] Tryz.func168 rfl Tryz.ntmps168 rfl (Nat.le_of_ble_eq_true rfl) (fun E9 w9 hn9 hm9=>?_)
 refine loop_i (fun j st=>∃ e:Nat,st=stsSt ⟨q,at',lo,hi,most,names,es⟩ (.mk q z s ks) e e∧e≤ks.length∧j=ks.length - e) ks.length (stsSt ⟨q,at',lo,hi,most,names,es⟩ (.mk q z s ks) 0 0) (weak_bt 2 ⟨0,173,3,none⟩ rfl rfl rfl (by repeat' (first | exact rfl | exact we_rfl rfl | exact we_tok (Nat.le_refl _) rfl | exact we_tok (Nat.le_refl _) rfl | refine ⟨_,_,rfl,?_,?_⟩)) rfl rfl (by repeat' (first | exact trivial | exact we_rfl rfl | exact we_tok (Nat.le_refl _) rfl | refine ⟨⟨_,rfl,?_⟩,?_⟩))) ⟨0,rfl,by omega,by omega⟩ ?_
 rintro j st ⟨e,rfl,he,rfl⟩
 refine br (fun hL=>?_) (fun hL=>?_)
 ·have hlt:e < ks.length:=by simpa [hdl,Val.ks] using hL
  have hml:(dStps ((List.range e).map (stpR ⟨q,at',lo,hi,most,names,es⟩ (.mk q z s ks)))).length=e:=by simp [dStps]
  have hsn:=stpL_snoc ⟨q,at',lo,hi,most,names,es⟩ (.mk q z s ks) e
  have hS:stpR ⟨q,at',lo,hi,most,names,es⟩ (.mk q z s ks) e=if q=5 then ⟨2,e,emptyB⟩
   else if q=6 then ⟨4,0,emptyB⟩
   else if q=7 then ⟨1,0,match es[e]? with | some e=>e.name | none=>emptyB⟩
   else ⟨5,0,match es[z.toNat]? with | some e=>e.name | none=>emptyB⟩:=rfl
  refine br (fun c=>?_) (fun c=>?_)
  ·have c:q=7:=by simpa using c
   obtain ⟨x,hx⟩:∃ x,es[e]? = some x:=⟨_,List.getElem?_eq_getElem (by have:=h7 c;omega)⟩
   rw [if_neg (by omega),if_neg (by omega),if_pos c] at hS
   simp only [hx] at hS
   rw [hS] at hsn
   refine ⟨_,⟨by omega,dEds_get hx⟩,?_⟩
   refine ⟨hml,⟨by rw [hml];simp [maxLen];omega,by rw [hml];simp;omega⟩,?_⟩
   exact ⟨stsSt ⟨q,at',lo,hi,most,names,es⟩ (.mk q z s ks) (e + 1) (e + 1),(weak_b 2 rfl (by repeat' (first | exact rfl | exact we_rfl rfl | exact we_int (nxt hlt (by omega)) | exact we_sl hsn rfl | refine ⟨_,_,rfl,?_,?_⟩)) rfl rfl rfl (by repeat' (first | exact trivial | exact we_rfl rfl | exact we_int (nxt hlt (by omega)) | exact we_sl hsn rfl | refine ⟨⟨_,rfl,?_⟩,?_⟩))),ks.length - (e + 1),by omega,e + 1,rfl,by omega,rfl⟩
  have c7:¬ q=7:=by simpa using c
  refine br (fun c=>?_) (fun c=>?_)
  ·have c:q=5:=by simpa using c
   rw [if_pos c] at hS
   rw [hS] at hsn
   refine ⟨hml,⟨by rw [hml];simp [maxLen];omega,by rw [hml];simp;omega⟩,?_⟩
   exact ⟨stsSt ⟨q,at',lo,hi,most,names,es⟩ (.mk q z s ks) (e + 1) (e + 1),(weak_b 2 rfl (by repeat' (first | exact rfl | exact we_rfl rfl | exact we_int (nxt hlt (by omega)) | exact we_sl hsn rfl | refine ⟨_,_,rfl,?_,?_⟩)) rfl rfl rfl (by repeat' (first | exact trivial | exact we_rfl rfl | exact we_int (nxt hlt (by omega)) | exact we_sl hsn rfl | refine ⟨⟨_,rfl,?_⟩,?_⟩))),ks.length - (e + 1),by omega,e + 1,rfl,by omega,rfl⟩
  have c5:¬ q=5:=by simpa using c
  refine br (fun c=>?_) (fun c=>?_)
  ·have c:q=6:=by simpa using c
   rw [if_neg c5,if_pos c] at hS
   rw [hS] at hsn
   refine ⟨hml,⟨by rw [hml];simp [maxLen];omega,by rw [hml];simp;omega⟩,?_⟩
   exact ⟨stsSt ⟨q,at',lo,hi,most,names,es⟩ (.mk q z s ks) (e + 1) (e + 1),(weak_b 2 rfl (by repeat' (first | exact rfl | exact we_rfl rfl | exact we_int (nxt hlt (by omega)) | exact we_sl hsn rfl | refine ⟨_,_,rfl,?_,?_⟩)) rfl rfl rfl (by repeat' (first | exact trivial | exact we_rfl rfl | exact we_int (nxt hlt (by omega)) | exact we_sl hsn rfl | refine ⟨⟨_,rfl,?_⟩,?_⟩))),ks.length - (e + 1),by omega,e + 1,rfl,by omega,rfl⟩
  have c6:¬ q=6:=by simpa using c
  refine br (fun c=>?_) (fun c=>?_)
  ·have c:q=8:=by simpa using c
   obtain ⟨z0,z1⟩:=h8 c
   obtain ⟨x,hx⟩:∃ x,es[z.toNat]? = some x:=⟨_,List.getElem?_eq_getElem (by omega)⟩
   rw [if_neg c5,if_neg c6,if_neg c7] at hS
   simp only [hx] at hS
   rw [hS] at hsn
   refine ⟨_,⟨by omega,dEds_get hx⟩,?_⟩
   refine ⟨hml,⟨by rw [hml];simp [maxLen];omega,by rw [hml];simp;omega⟩,?_⟩
   exact ⟨stsSt ⟨q,at',lo,hi,most,names,es⟩ (.mk q z s ks) (e + 1) (e + 1),(weak_b 2 rfl (by repeat' (first | exact rfl | exact we_rfl rfl | exact we_int (nxt hlt (by omega)) | exact we_sl hsn rfl | refine ⟨_,_,rfl,?_,?_⟩)) rfl rfl rfl (by repeat' (first | exact trivial | exact we_rfl rfl | exact we_int (nxt hlt (by omega)) | exact we_sl hsn rfl | refine ⟨⟨_,rfl,?_⟩,?_⟩))),ks.length - (e + 1),by omega,e + 1,rfl,by omega,rfl⟩
  ·have c:¬ q=8:=by simpa using c
   omega
 ·have hge:e=ks.length:=by
   have:=hL;simp [hdl,Val.ks] at this;omega
  rw [hge]
  exact ⟨_,ax,rfl⟩
end Go.Proofs.YtdeaicofhmkebaaGreat
set_option maxRecDepth 100000
namespace Go.Proofs.YtdeaicofhmkebaaGreat
open Go Go.RowKit Dv Tryz
def kidI (d:Nd) (v:Val) (s:Stp):Option Nat:=(List.range v.ks.length).find? fun e=>stpE (stpR d v e) s
def stepV (ND:List Nd) (v:Val) (i:Int) (s:Stp):Option (Nat × Val × Int):=
 match nodeA ND i with
 | none=>none
 | some d=>match kidI d v s with
  | none=>none
  | some e=>match v.ks[e]?,(kidsL d v)[e]? with
   | some x,some j=>some (e,x,j)
   | _,_=>none
def getV (ND:List Nd):List Stp→Val→Int→Option (Val × Int)
 | [],v,i=>some (v,i)
 | s :: p,v,i=>match stepV ND v i s with
  | none=>none
  | some (_,x,j)=>getV ND p x j
def vset (v:Val) (e:Nat) (y:Val):Val:=.mk v.k v.n v.s (v.ks.set e y)
def setV (ND:List Nd):List Stp→Val→Int→Val→Val
 | [],_,_,x=>x
 | s :: p,v,i,x=>match stepV ND v i s with
  | none=>v
  | some (e,y,j)=>vset v e (setV ND p y j x)
theorem find_some {f:Nat→Bool} {n e:Nat} (h:(List.range n).find? f=some e):e < n∧f e=true:=by
 have h1:=List.find?_some h
 have h2:=List.mem_of_find?_eq_some h
 exact ⟨by simpa using h2,h1⟩
theorem stepV_some {ND:List Nd} {v:Val} {i:Int} {s:Stp} {e:Nat} {x:Val} {j:Int} (h:stepV ND v i s=some (e,x,j)) :
  ∃ d,nodeA ND i=some d∧kidI d v s=some e∧v.ks[e]? = some x∧(kidsL d v)[e]? = some j:=by
 unfold stepV at h
 split at h
 ·cases h
 ·rename_i d hd
  split at h
  ·cases h
  ·rename_i e' he
   split at h
   ·rename_i x' j' hx hj
    simp only [Option.some.injEq,Prod.mk.injEq] at h
    obtain ⟨rfl,rfl,rfl⟩:=h
    exact ⟨d,hd,he,hx,hj⟩
   ·cases h
theorem stepV_of {ND:List Nd} {v:Val} {i:Int} {s:Stp} {e:Nat} {x:Val} {j:Int} {d:Nd} (h1:nodeA ND i=some d) (h2:kidI d v s=some e) (h3:v.ks[e]? = some x) (h4:(kidsL d v)[e]? = some j):stepV ND v i s=some (e,x,j):=by
 unfold stepV
 rw [h1];simp only
 rw [h2];simp only
 rw [h3,h4]
section
variable {L:Nat} {ND:List Nd} (hok:∀ n∈ND,NdOK L ND.length n)
include hok
theorem kind5_of {v:Val} {i:Int} {d:Nd} (hF:FitF ND v i d) {e:Nat} {x:Val} (hx:v.ks[e]? = some x):5≤d.kind∧d.kind≤8:=by
 have hN:=hok d (List.mem_of_getElem? (nodeA_some hF.node).2)
 refine ⟨?_,hN.k8⟩
 have h1:=hN.k1
 rcases Int.lt_or_le d.kind 5 with h | h
 ·rw [hF.leaf h] at hx;simp at hx
 ·exact h
theorem step_fit {v:Val} {i:Int} (hf:fitV ND v i=true) {s:Stp} {e:Nat} {x:Val} {j:Int} (h:stepV ND v i s=some (e,x,j)):fitV ND x j=true:=by
 obtain ⟨d,hF⟩:=fit_facts hok hf
 obtain ⟨d',h1,h2,h3,h4⟩:=stepV_some h
 rw [hF.node] at h1
 cases h1
 exact fitVs_at (hF.kids (kind5_of hok hF h3).1).2 h3 h4
theorem getV_fit:∀ (p:List Stp) {v:Val} {i:Int},fitV ND v i=true→∀ {x:Val} {j:Int},getV ND p v i=some (x,j)→fitV ND x j=true
 | [],v,i,hf,x,j,h=>by
  simp only [getV,Option.some.injEq,Prod.mk.injEq] at h
  obtain ⟨rfl,rfl⟩:=h
  exact hf
 | s :: p,v,i,hf,x,j,h=>by
  rw [getV] at h
  split at h
  ·cases h
  ·rename_i e y k hs
   exact getV_fit p (step_fit hok hf hs) h
end
theorem wtVs_set:∀ {l:List Val} {e:Nat} {x y:Val},l[e]? = some x→wtVs (l.set e y) + x.wt=wtVs l + y.wt
 | [],e,x,y,h=>by simp at h
 | v :: r,0,x,y,h=>by
  simp only [List.getElem?_cons_zero,Option.some.injEq] at h
  subst h
  simp only [List.set_cons_zero,wtVs];omega
 | v :: r,e + 1,x,y,h=>by
  simp only [List.getElem?_cons_succ] at h
  have:=wtVs_set (y:=y) h
  simp only [List.set_cons_succ,wtVs];omega
theorem Val.wt_eq (v:Val):v.wt=64 + v.s.size + wtVs v.ks:=by cases v;rw [Val.wt];all_goals rfl
theorem getV_wt {ND:List Nd}:∀ (p:List Stp) {v:Val} {i:Int} {x:Val} {j:Int},getV ND p v i=some (x,j)→x.wt≤v.wt
 | [],v,i,x,j,h=>by
  simp only [getV,Option.some.injEq,Prod.mk.injEq] at h
  obtain ⟨rfl,rfl⟩:=h
  exact Nat.le_refl _
 | s :: p,v,i,x,j,h=>by
  rw [getV] at h
  split at h
  ·cases h
  ·rename_i e z k hs
   obtain ⟨d,_,_,h3,_⟩:=stepV_some hs
   have h1:=getV_wt p h
   have h2:=wtVs_mem (List.mem_of_getElem? h3)
   have:=v.wt_eq
   omega
theorem setV_wt {ND:List Nd} {y:Val}:∀ (p:List Stp) {v:Val} {i:Int} {x:Val} {j:Int},getV ND p v i=some (x,j)→(setV ND p v i y).wt≤v.wt + y.wt
 | [],v,i,x,j,h=>by rw [setV];omega
 | s :: p,v,i,x,j,h=>by
  rw [getV] at h
  split at h
  ·cases h
  ·rename_i e z k hs
   obtain ⟨d,_,_,h3,_⟩:=stepV_some hs
   have h1:=setV_wt (y:=y) p h
   have h2:=wtVs_set (y:=setV ND p z k y) h3
   have h4:=v.wt_eq
   have e1:setV ND (s :: p) v i y=vset v e (setV ND p z k y):=by rw [setV,hs]
   have h5:(vset v e (setV ND p z k y)).wt=64 + v.s.size + wtVs (v.ks.set e (setV ND p z k y)):=by rw [vset,Val.wt]
   rw [e1,h5]
   omega
section
variable {L:Nat} {ND:List Nd} (hok:∀ n∈ND,NdOK L ND.length n)
include hok
end
end Go.Proofs.YtdeaicofhmkebaaGreat
namespace Go.Proofs.YtdeaicofhmkebaaGreat
namespace Dv
open Go Go.RowKit
mutual
def shD (m:Nat):DV→DV
 | .agg l=>.agg (shL m l)
 | .tup l=>.tup (shL m l)
 | .sl e es tk=>.sl e es (match tk with | some k=>some (m + k) | none=>none)
 | .fn f a b=>.fn f (shL m a) (shL m b)
 | .ifc t x=>.ifc t (shD m x)
 | .v x=>.v x
 | .ud=>.ud
 | .pt cs o=>.pt cs o
 | .loc i o=>.loc i o
 | .el i o=>.el i o
 | .ms i e o l c=>.ms i e o l c
def shL (m:Nat):List DV→List DV
 | []=>[]
 | d :: r=>shD m d :: shL m r
end
mutual
theorem shD_sound {m:Nat} {E2 E:En} (hβ:E2.β=[]) (hc:E.c=E2.c) (ht:∀ (k:Nat) q,E2.tk[k]? = some q→E.tk[m + k]? = some q∧E.τ[m + k]? = E2.τ[k]?):∀ {d:DV} {v:Value},Rv E2 d v→Rv E (shD m d) v
 | .v x,v,h=>by simpa only [Rv,shD] using h
 | .ud,v,h=>by simpa only [Rv,shD] using h
 | .agg l,v,h=>by
  simp only [Rv,shD] at h ⊢
  obtain ⟨vs,h1,h2,h3⟩:=h
  exact ⟨vs,h1,shL_sound hβ hc ht h2,h3⟩
 | .tup l,v,h=>by
  simp only [Rv,shD] at h ⊢
  obtain ⟨vs,h1,h2⟩:=h
  exact ⟨vs,h1,shL_sound hβ hc ht h2⟩
 | .sl e es tk,v,h=>by
  have he:E.cl=E2.cl:=by simp [En.cl,hc]
  simp only [Rv,shD] at h ⊢
  obtain ⟨b,n,cap,h1,h2,h3,h4⟩:=h
  refine ⟨b,n,cap,h1,h2,fun hn=>⟨(h3 hn).1,by rw [he];exact (h3 hn).2⟩,?_⟩
  intro k' hk'
  cases tk with
  | none=>cases hk'
  | some k=>
   simp only [Option.some.injEq] at hk'
   subst hk'
   obtain ⟨q,g1,g2,g3⟩:=h4 k rfl
   obtain ⟨g4,g5⟩:=ht k q g1
   exact ⟨q,g4,g2,fun hn=>by rw [g5];exact g3 hn⟩
 | .pt cs off,v,h=>by
  have he:E.cl=E2.cl:=by simp [En.cl,hc]
  simp only [Rv,shD] at h ⊢
  rw [he]
  exact h
 | .loc i off,v,h=>by
  simp only [Rv] at h
  obtain ⟨b,h1,_⟩:=h
  rw [hβ] at h1;simp at h1
 | .el i off,v,h=>by
  simp only [Rv] at h
  obtain ⟨b,h1,_⟩:=h
  rw [hβ] at h1;simp at h1
 | .ms i e off len cap,v,h=>by
  simp only [Rv] at h
  obtain ⟨b,_,h1,_⟩:=h
  rw [hβ] at h1;simp at h1
 | .fn f a b,v,h=>by
  simp only [Rv,shD] at h ⊢
  obtain ⟨l,r,h1,h2,h3⟩:=h
  exact ⟨l,r,h1,shL_sound hβ hc ht h2,shL_sound hβ hc ht h3⟩
 | .ifc t x,v,h=>by
  simp only [Rv,shD] at h ⊢
  obtain ⟨z,h1,h2⟩:=h
  exact ⟨z,h1,shD_sound hβ hc ht h2⟩
theorem shL_sound {m:Nat} {E2 E:En} (hβ:E2.β=[]) (hc:E.c=E2.c) (ht:∀ (k:Nat) q,E2.tk[k]? = some q→E.tk[m + k]? = some q∧E.τ[m + k]? = E2.τ[k]?):∀ {l:List DV} {vs:List Value},RvL E2 l vs→RvL E (shL m l) vs
 | [],vs,h=>by simpa only [RvL,shL] using h
 | d :: r,vs,h=>by
  simp only [RvL,shL] at h ⊢
  obtain ⟨v,s,h1,h2,h3⟩:=h
  exact ⟨v,s,h1,shD_sound hβ hc ht h2,shL_sound hβ hc ht h3⟩
end
section
variable {X:Ctx} {st:St} {k:List It} {E:En} {a:Act} {w:World}
theorem quiet_relF (h:Rel X E st a w) (hst:X.still=false) {E2:En} {w':World} (hm:Modd (E.cl).S w w') (he:Env E2 [] w') (hn:Nw E.cl E2 w):Rel X ⟨E2.c,E.β,E.tk ++ E2.tk,E.τ ++ E2.τ⟩ ⟨st.sl,st.bx,st.tk ++ E2.tk⟩ a w':=by
 have hq:=quiet_rel h hst hm he hn
 have hfr:∀ (j:Nat) y g,E2.τ[j]? = some y→y.ownBlock=some g→w.heap.size≤g:=fun j y g hy hg=>hn.tn j y g (Nat.zero_le _) hy hg
 have hold:∀ (k:Nat) y g,E.τ[k]? = some y→y.ownBlock=some g→g < w.heap.size:=fun k y g hy hg=>(h.env.own (List.mem_of_getElem? hy) hg).1
 have htl:E.τ.length=E.tk.length:=h.env.tl
 have hτ:∀ (k:Nat) y,(E.τ ++ E2.τ)[k]? = some y→(k < E.τ.length∧E.τ[k]? = some y)∨(E.τ.length≤k∧E2.τ[k - E.τ.length]? = some y):=fun k y hy=>by
  rw [List.getElem?_append] at hy
  split at hy
  ·rename_i hk;exact .inl ⟨hk,hy⟩
  ·rename_i hk;exact .inr ⟨by omega,hy⟩
 have hx:Ext ⟨E2.c,E.β,E.tk,E.τ⟩ ⟨E2.c,E.β,E.tk ++ E2.tk,E.τ ++ E2.τ⟩:=⟨fun _ _ h=>h,fun _ _ h=>h,fun j q hj=>by
  have hj:E.tk[j]? = some q:=hj
  have hlt:=(List.getElem?_eq_some_iff.1 hj).1
  refine ⟨q,by show (E.tk ++ _)[j]? = _;rw [List.getElem?_append_left hlt];exact hj,.inl ⟨rfl,?_⟩⟩
  show (E.τ ++ _)[j]? = _
  rw [List.getElem?_append_left (by rw [htl];exact hlt)]⟩
 refine rel_env hq hx ?_ (by show E.tk ++ _=_;rw [h.tk]) ?_ hq.fr (noSt hst) hq.bt
 ·exact {
   len:=h.env.len
   tl:=by show (E.τ ++ _).length=(E.tk ++ _).length;simp [htl,he.tl]
   bxs:=fun i cs hi=>by
    obtain ⟨b,t,arr,hb,hw,hc⟩:=hq.env.bxs i cs hi
    exact ⟨b,t,arr,hb,hw,hc.mono hx⟩
   inj:=h.env.inj
   sub:=he.sub
   pc:=hq.env.pc
   tks:=fun j q y hqj hy=>by
    have hqj:(E.tk ++ E2.tk)[j]? = some q:=hqj
    rcases hτ j y hy with ⟨hlt,hy'⟩ | ⟨hle,hy'⟩
    ·rw [List.getElem?_append_left (by rw [← htl];exact hlt)] at hqj
     exact hq.env.tks j q y hqj hy'
    ·rw [List.getElem?_append_right (by rw [← htl];exact hle),← htl] at hqj
     rcases he.tks _ q y hqj hy' with h1 | ⟨g,cap,cur,rfl,h1,h2,h3,h4,_,h6⟩
     ·exact .inl h1
     ·refine .inr ⟨g,cap,cur,rfl,h1,h2,h3,h4,fun hm'=>?_,h6⟩
      have:=hfr _ _ g hy' rfl
      have:=h.env.block_lt hm'
      omega
   tkd:=fun i j y y' g hij hy hy' hg hg'=>by
    rcases hτ i y hy with ⟨_,h1⟩ | ⟨h0,h1⟩
    ·rcases hτ j y' hy' with ⟨_,h2⟩ | ⟨_,h2⟩
     ·exact h.env.tkd i j y y' g hij h1 h2 hg hg'
     ·have:=hold i y g h1 hg
      have:=hfr _ y' g h2 hg'
      omega
    ·rcases hτ j y' hy' with ⟨_,h2⟩ | ⟨h00,h2⟩
     ·have:=hold j y' g h2 hg'
      have:=hfr _ y g h1 hg
      omega
     ·exact he.tkd _ _ y y' g (by omega) h1 h2 hg hg' }
 ·exact {
   c:=hq.nw.c
   cn:=hq.nw.cn
   β:=h.nw.β
   tk:=fun j q0 y0 hq0 hy0=>by
    obtain ⟨q',y',h1,h2,h3⟩:=h.nw.tk j q0 y0 hq0 hy0
    exact ⟨q',y',by show (E.tk ++ _)[j]? = _;rw [List.getElem?_append_left (List.getElem?_eq_some_iff.1 h1).1];exact h1,by show (E.τ ++ _)[j]? = _;rw [List.getElem?_append_left (List.getElem?_eq_some_iff.1 h2).1];exact h2,h3⟩
   tn:=fun j y g hj hy hg=>by
    rcases hτ j y hy with ⟨_,h1⟩ | ⟨_,h1⟩
    ·exact h.nw.tn j y g hj h1 hg
    ·exact Nat.le_trans h.fr.size (hfr _ y g h1 hg)
   l0:=h.nw.l0 }
theorem calls_f {P:Program} (h:Rel X E st a w) (hst:X.still=false) {f:FuncId} {args args':List DV} {vs:List Value} {Φ:DV→List (List DV)→List TkE→Prop} (hc:EvF P f args' [] [] Φ) (ha:CcL [] 0 0 0 args' args) (hv:RvL E args vs) :
  Calls P f vs.toArray w fun e w'=>∃ v E' d tks,e = .returned v∧Rel X E' ⟨st.sl,st.bx,st.tk ++ tks⟩ a w' ∧ Rv E' (shD st.tk.length d) v∧Φ d [] tks∧Modd E.cl.S w w' ∧ Ext E E' ∧ E'.β=E.β:=by
 have hv':RvL E.cl args' vs:=CcL.sound (E:=E) (E':=E.cl) ⟨fun _ _ h=>h,fun i cs _ hi=>by simp at hi⟩ (Low.zero _ _) ha hv
 refine (hc E.cl w vs (env_cl h.env) rfl hv').mono ?_
 rintro e w' ⟨v,rfl,hm,_,d,os,E2,he,hβ,_,hn,hvd,hΦ⟩
 have hβ:E2.β=[]:=hβ
 have hos:os=[]:=by
  have:=he.len
  rw [hβ] at this
  exact List.eq_nil_of_length_eq_zero this.symm
 subst hos
 have htl:E.τ.length=E.tk.length:=h.env.tl
 have hx:Ext E ⟨E2.c,E.β,E.tk ++ E2.tk,E.τ ++ E2.τ⟩:=⟨hn.c,fun _ _ h=>h,fun j q hj=>by
  have hlt:=(List.getElem?_eq_some_iff.1 hj).1
  refine ⟨q,by show (E.tk ++ _)[j]? = _;rw [List.getElem?_append_left hlt];exact hj,.inl ⟨rfl,?_⟩⟩
  show (E.τ ++ _)[j]? = _
  rw [List.getElem?_append_left (by rw [htl];exact hlt)]⟩
 refine ⟨v,_,d,E2.tk,rfl,quiet_relF h hst hm he hn,shD_sound (E2:=E2) (E:=⟨E2.c,E.β,E.tk ++ E2.tk,E.τ ++ E2.τ⟩) (m:=st.tk.length) hβ rfl (fun k q hq=>?_) hvd,hΦ,hm,hx,rfl⟩
 rw [← h.tk]
 constructor
 ·show (E.tk ++ E2.tk)[_]? = _
  rw [List.getElem?_append_right (by omega)]
  simpa using hq
 ·show (E.τ ++ E2.τ)[_]? = _
  rw [List.getElem?_append_right (by omega),htl]
  simp
theorem call_f {f:FuncId} {args args':List DV} {d:Nat} (hen:Enters X.P f) (hd:okD X.nt st.sl (some d)=true) {Φ:DV→List (List DV)→List TkE→Prop} (hc:EvF X.P f args' [] [] Φ) (ha:CcL [] 0 0 0 args' args)
  (hk:∀ r tks,Φ r [] tks→go X 4000 k ⟨(d,⟨[],shD st.tk.length r⟩) :: st.sl,st.bx,st.tk ++ tks⟩) (hst:X.still=false:=by exact rfl):CallG X f args (some d) k st:=by
 refine ⟨hen,hst,fun E a w vs h hv=>(calls_f h hst hc ha hv).mono ?_⟩
 rintro e w' ⟨v,E',r,tks,rfl,hrel,hr,hΦ,_⟩
 exact go_sound 4000 _ _ (hk r tks hΦ) E' _ w' (put_rel hrel hd _ v hr)
end
end Dv
end Go.Proofs.YtdeaicofhmkebaaGreat
namespace Go.Proofs.YtdeaicofhmkebaaGreat
namespace Dv
open Go Go.RowKit
section
variable {X:Ctx} {st:St} {k:List It} {E:En} {a:Act} {w:World}
theorem own_row (h:Rel X E st a w) {es:List (List DV)} {cs:List DV} {kt m ety e:Nat} {v:Value} (hv:Rv E (.sl 0 es (some kt)) v) (hq:st.tk[kt]? = some ⟨m,ety,e,some cs⟩) (hes:es.length=m) (hm:0 < m) :
  ∃ g cap,∃ cur:Array Value,v = .slice (some ⟨g,0,none⟩) m cap∧E.tk[kt]? = some ⟨m,ety,e,some cs⟩∧E.τ[kt]? = some v∧w.heap[g]? = some (.cells cur ety (0,0))∧cur.size=cap * e∧cs.length=m * e∧RvC E.cl cs (cur.toList.take (m * e))∧m≤cap∧cap≤maxLen∧g ∉ E.β∧∀ x u,E.c x=some u→x.block=g→x.off < 0:=by
 unfold Rv at hv
 obtain ⟨bs,ns,caps,e1,⟨hns,hsc⟩,hsr,hstk⟩:=hv
 subst hns
 obtain ⟨q',hq',_,hτk⟩:=hstk kt rfl
 have hq2:E.tk[kt]? = some ⟨m,ety,e,some cs⟩:=by rw [h.tk];exact hq
 rw [hq2] at hq'
 simp only [Option.some.injEq] at hq'
 subst hq'
 have hy:=hτk hes
 rcases h.env.tks kt _ _ hq2 hy with ⟨_,hn0,_⟩ | ⟨g,cap,cur,hv0,hw0,⟨hs0,hown0⟩,hnc0,hcm0,hb0,hc0⟩
 ·simp only at hn0;omega
 obtain ⟨h5,h6⟩:=hown0 cs rfl
 exact ⟨g,cap,cur,hv0,hq2,hy,hw0,hs0,h5,h6,hnc0,hcm0,hb0,hc0⟩
theorem own_idx {o1:Oper} {t et e by' nn m g cap:Nat} {bb:Bool} {zz:List Value} {z:Int} {kd:IntKind} {s ix:Operand} (h1:o1.op = .indexAddr t s ix) (e1:a.eval s = .slice (some ⟨g,0,none⟩) m cap) (e2:a.eval ix = .int kd z)
  (hT:X.T.find t=some ⟨nn,bb,.sl et e by',zz⟩) (hz:0≤z∧z < m) (w:World):(execOp a.eval o1).run X.P w = .ok (.value (.pointer (some ⟨g,z.toNat * e,none⟩))) w:=by
 obtain ⟨hu,ii,zv,hi2,_,hsz2,_,_⟩:=und_sl X.hT hT
 have hsz':szOf X.P et=some e:=by rw [size_of_info hi2,hsz2]
 have hrun:(Instr.indexAt t (.slice (some ⟨g,0,none⟩) m cap) (.int kd z)).run X.P w = .ok (.pointer (some ⟨g,z.toNat * e,none⟩)) w:=by
  simp [Instr.indexAt,asIntOf,run_underlying hu,hz.1,hz.2,run_sizeOf' hsz',Addr.add_lit]
 simp only [execOp,h1,e1,e2,Sem.run_bind,hrun,Result.andThen_ok,Sem.run_pure]
theorem own_sto {o2:Oper} {d1 kt ty e m ety:Nat} {z:Int} {es:List (List DV)} {cs cs':List DV} {v:Value} {x:Operand} {dv:DV} {g cap:Nat}
  (hr1:Rel X E st a w) (h2:o2.op = .store ty (.tmp d1) x) (ht1:a.eval (.tmp d1) = .pointer (some ⟨g,z.toNat * e,none⟩)) (hv:Rv E (.sl 0 es (some kt)) v) (hvg:v = .slice (some ⟨g,0,none⟩) m cap)
  (hx:rv st [] x=some dv) (hdv:eraL dv.cells (fun l=>some l)=some cs') (hdc:dv.cells.length=e) (he0:0 < e)
  (hsz:X.T.sz ty=some e) (hq:st.tk[kt]? = some ⟨m,ety,e,some cs⟩) (hes:es.length=m) (hz:0≤z∧z < m) (hst:X.still=false) :
  ∃ w' E',(execOp a.eval o2).run X.P w = .ok .skip w' ∧ Rel X E' ⟨st.sl,st.bx,st.tk.set kt ⟨m,ety,e,some (cs.take (z.toNat * e) ++ cs' ++ cs.drop (z.toNat * e + e))⟩⟩ a w':=by
 obtain ⟨g',caps,cur,e1,hq2,hy,hw0,hs0,h5,h6,hnc0,hcm0,hb0,hc0⟩:=own_row hr1 hv hq hes (by omega)
 rw [hvg] at e1
 injection e1 with i1 i2 i3
 injection i1 with i1
 injection i1 with i1
 subst i1 i3
 rw [hvg] at hy
 have e3:=sl_val hr1.rl hx
 have hcl:RvC E dv.cells (a.eval x).cells.toList:=e3.cells (fills_len (n:=e) hdc (by omega))
 have hvl:(a.eval x).cells.toList.length=e:=by rw [hcl.1.length];exact hdc
 obtain ⟨l',hl1,hx1,_⟩:=eraL_sound hdv hcl
 simp only [Option.some.injEq] at hl1
 rw [hl1] at hx1
 have hme:m * e≤cap * e:=Nat.mul_le_mul_right _ hnc0
 have hpos:z.toNat * e + e≤m * e:=by
  have:(z.toNat + 1) * e≤m * e:=Nat.mul_le_mul_right _ (by omega)
  rw [Nat.add_mul] at this
  omega
 have hcurl:cur.toList.length=cap * e:=by simpa using hs0
 have hsv:=storeVar_blk (P:=X.P) (t:=ty) (off:=z.toNat * e) (n:=e) hw0 (sz_ok X.hT hsz) hvl (by rw [hs0];omega) (List.all_eq_true.2 hcl.2)
 generalize hN:cur.toList.take (z.toNat * e) ++ (a.eval x).cells.toList ++ cur.toList.drop (z.toNat * e + e)=N at hsv
 have hNl:N.length=cap * e:=by
  subst hN
  simp only [List.length_append,List.length_take,List.length_drop,hvl,hcurl]
  omega
 have hNt:N.take (m * e)=(cur.toList.take (m * e)).take (z.toNat * e) ++ (a.eval x).cells.toList ++ (cur.toList.take (m * e)).drop (z.toNat * e + e):=by
  subst hN
  rw [List.take_append,List.take_append,List.take_take,List.take_take]
  have h1:(cur.toList.take (z.toNat * e)).length=z.toNat * e:=by rw [List.length_take];omega
  rw [List.length_append,h1,hvl,Nat.min_eq_right (by omega),Nat.min_eq_left (by omega),List.take_of_length_le (l:=(a.eval x).cells.toList) (by rw [hvl];omega),List.drop_take]
 have hat:TkAt (World.setBlk w g (.cells N.toArray ety (0,0))) E.c E.β ⟨m,ety,e,some (cs.take (z.toNat * e) ++ cs' ++ cs.drop (z.toNat * e + e))⟩ (.slice (some ⟨g,0,none⟩) m cap):=by
  refine .inr ⟨g,cap,_,rfl,setBlk_same hw0,⟨by simpa using hNl,fun cs2 hc'=>?_⟩,hnc0,hcm0,hb0,hc0⟩
  simp only [Option.some.injEq] at hc'
  subst hc'
  simp only
  have h8:=((RvC.take (z.toNat * e) h6).append hx1).append (RvC.drop (z.toNat * e + e) h6)
  rw [← hNt] at h8
  have hl8:=h8.1.length
  refine ⟨?_,by show RvC E.cl _ (N.toArray.toList.take (m * e));simpa using h8⟩
  rw [← hl8,List.length_take,hNl]
  omega
 obtain ⟨hrel,_⟩:=own_rel (q':=⟨m,ety,e,some (cs.take (z.toNat * e) ++ cs' ++ cs.drop (z.toNat * e + e))⟩) (w':=World.setBlk w g (.cells N.toArray ety (0,0))) hr1 hst hq2 hy rfl rfl rfl (.inl ⟨rfl,rfl⟩) hat (.inl rfl) rfl rfl rfl (by rw [setBlk_size];exact Nat.le_refl _) (fun j _ hne=>setBlk_other (by
  rintro rfl
  exact hne rfl))
 refine ⟨_,_,?_,hrel⟩
 simp only [execOp,h2,ht1,Instr.storeAt,Instr.sureAddr,Sem.run_bind,Sem.run_pure,Result.andThen_ok,hsv]
theorem callD_own {D:Dr} {c:Bool} {i i1 i2:Nat} {s0:List (Nat × Sl)} {o1 o2:Oper} {f:FuncId} {args args':List DV} {d d1 kt t ty et e by' m ety nn:Nat} {bb:Bool} {zz:List Value} {z:Int} {kd:IntKind} {es:List (List DV)} {cs cs':List DV} {s ix x:Operand} {res dv:DV}
  (hen:Enters X.P f) (hd:okD X.nt st.sl (some d)=true) (hc:EvP X.P f args' res) (ha:CcL [] 0 0 0 args' args)
  (h1:o1.op = .indexAddr t s ix∧o1.dst=some d1∧o1.guard=none) (h2:o2.op = .store ty (.tmp d1) x∧o2.dst=none∧o2.guard=none) (hd1:okD X.nt ((d,⟨[],res⟩) :: st.sl) (some d1)=true)
  (hs:rv ⟨(d,⟨[],res⟩) :: st.sl,st.bx,st.tk⟩ [] s=some (.sl 0 es (some kt))) (hi:rv ⟨(d,⟨[],res⟩) :: st.sl,st.bx,st.tk⟩ [] ix=some (.v (.int kd z)))
  (hx:rv ⟨(d1,⟨[],.pt [] 0⟩) :: (d,⟨[],res⟩) :: st.sl,st.bx,st.tk⟩ [] x=some dv) (hdv:eraL dv.cells (fun l=>some l)=some cs') (hdc:dv.cells.length=e) (he0:0 < e)
  (hT:X.T.find t=some ⟨nn,bb,.sl et e by',zz⟩) (hsz:X.T.sz ty=some e) (hq:st.tk[kt]? = some ⟨m,ety,e,some cs⟩) (hes:es.length=m) (hz:0≤z∧z < m) (hW2:D.W i2=true)
  (hk:∃ st2,Wk X ⟨(d1,⟨[],.pt [] 0⟩) :: (d,⟨[],res⟩) :: st.sl,st.bx,st.tk.set kt ⟨m,ety,e,some (cs.take (z.toNat * e) ++ cs' ++ cs.drop (z.toNat * e + e))⟩⟩ st2∧go X 4000 D.k st2)
  (hst:X.still=false:=by exact rfl) (hf:D.fin=none:=by exact rfl):CallD X D c i [(i1,o1),(i2,o2)] f args (some d) s0 st:=by
 refine ⟨hen,fun hl E0 wr hD E a w vs h hv=>(calls_quiet h.rel hst hc ha hv).mono ?_⟩
 rintro e9 w' ⟨v,E',r,rfl,hrel,hr,rfl,hm9,hx9,hβ9⟩
 have hh9:∀ b,b < w.heap.size→w'.heap[b]? = w.heap[b]?:=fun b hb=>hm9.block b hb (by
  rintro (h1 | ⟨y,h1,_⟩)
  ·simp [En.cl] at h1
  ·simp [En.cl] at h1)
 have hs9:Stp none E w E' w':=⟨hx9,⟨[],by rw [hβ9];simp⟩,fun j b hb _=>hh9 b (h.rel.env.block_lt (List.mem_of_getElem? hb))⟩
 refine ⟨v,rfl,(fun _=>stp_C h hs9 hrel (fun j hj=>by cases hj)),?_⟩
 have hr0:=put_rel hrel hd r v hr
 generalize ha0:a.put (some d) v=a0 at hr0
 have hrl:=hr0.rl
 have e2:=rv_int_eq (sl_val hrl hi)
 have hv:=sl_val hrl hs
 obtain ⟨g,cap,cur,e1,_⟩:=own_row hr0 hv hq hes (by omega)
 have hE1:isE o1.op=false:=by rw [h1.1];all_goals rfl
 have hL1:isL o1.op=false:=by rw [h1.1];all_goals rfl
 have hE2:isE o2.op=true:=by rw [h2.1];all_goals rfl
 have g1:D.ops[i1]? = some o1:=hl (i1,o1) (by simp)
 have g2:D.ops[i2]? = some o2:=hl (i2,o2) (by simp)
 show runT X.P D.ops D.W _ (Dw.Q ⟨D,E0,wr⟩ X) [i1,i2] a0 w'
 have hr1:Rel X E' ⟨(d1,⟨[],.pt [] 0⟩) :: (d,⟨[],r⟩) :: st.sl,st.bx,st.tk⟩ (a0.put (some d1) (.pointer (some ⟨g,z.toNat * e,none⟩))) w':=put_rel hr0 hd1 (.pt [] 0) _ (by unfold Rv;exact ⟨g,z.toNat * e,rfl,by simp only [RvAt]⟩)
 have ht1:(a0.put (some d1) (.pointer (some ⟨g,z.toNat * e,none⟩))).eval (.tmp d1) = .pointer (some ⟨g,z.toNat * e,none⟩):=by
  simp only [okD,Bool.and_eq_true,Nat.blt_eq] at hd1
  simp [Act.eval,Act.put,hr0.sz,hd1.1]
 simp only [runT,g1,hE1,Bool.false_eq_true,if_false]
 refine ⟨.pointer (some ⟨g,z.toNat * e,none⟩),.inl ⟨wanted_none h1.2.2,fun w9 _=>own_idx h1.1 e1 e2 hT hz w9⟩,fun h9=>(by rw [hL1] at h9;cases h9),?_⟩
 rw [h1.2.1]
 generalize a0.put (some d1) (.pointer (some ⟨g,z.toNat * e,none⟩))=a1 at hr1 ht1
 have hwn:=wanted_none (ops:=D.ops) (a:=a1) h2.2.2
 simp only [g2,hE2,if_true,stepX,hwn]
 obtain ⟨w2,E2,hrun,hrel2⟩:=own_sto hr1 h2.1 ht1 hv e1 hx hdv hdc he0 hsz hq hes hz hst
 refine wq_unit hrun ?_
 rw [h2.2.1]
 refine ⟨(fun hw=>by rw [hW2] at hw;cases hw),?_⟩
 obtain ⟨st2,hwk,hgo⟩:=hk
 obtain ⟨E3,hr3⟩:=hwk _ _ _ hrel2
 show Dw.Q ⟨D,E0,wr⟩ X _ _
 unfold Dw.Q
 simp only [hf]
 exact go_sound 4000 _ _ hgo _ _ _ hr3
end
end Dv
end Go.Proofs.YtdeaicofhmkebaaGreat
set_option maxRecDepth 100000
namespace Go.Proofs.YtdeaicofhmkebaaGreat
open Go Go.RowKit Dv Tryz
theorem find_is {p:Nat→Bool}:∀ {n e:Nat},e < n→p e=true→(∀ e' < e,p e'=false)→(List.range n).find? p=some e
 | 0,e,h,_,_=>by omega
 | n + 1,e,h,h1,h2=>by
  rw [List.range_succ,List.find?_append]
  by_cases he:e < n
  ·rw [find_is he h1 h2];all_goals rfl
  ·have:e=n:=by omega
   subst this
   have h3:(List.range e).find? p=none:=List.find?_eq_none.2 fun x hx=>by rw [h2 x (by simpa using hx)];simp
   rw [h3]
   simp [h1]
theorem find_no {p:Nat→Bool} {n:Nat} (h:∀ e < n,p e=false):(List.range n).find? p=none:=List.find?_eq_none.2 fun x hx=>by rw [h x (by simpa using hx)];simp
theorem stpE_comm (a b:Stp):stpE a b=stpE b a:=by
 rw [Bool.eq_iff_iff,stpE_iff,stpE_iff];exact eq_comm
abbrev ixSt (l:List Stp) (s:Stp) (e:Nat):St:=⟨[(0,⟨[],.sl 3 (dStps l) none⟩),(3,⟨[],.loc 0 0⟩),(6,⟨[],.sl 3 (dStps l) none⟩),(7,⟨[],.v (.int .i64 (dStps l).length)⟩),(8,⟨[],.v (.int .i64 e)⟩)],[dStp s],[]⟩
theorem index_spec (f:Nat→Stp) (n:Nat) (s:Stp) (hn:n≤1099511627776) :
  EvP Tryz.prog 183 [.sl 3 (dStps ((List.range n).map f)) none,.agg (dStp s)] (.v (.int .i64 (oz ((List.range n).find? fun e=>stpE (f e) s)))):=by
 have hdl:(dStps ((List.range n).map f)).length=n:=by rw [dStps_len];simp
 refine ev_go (P:=Tryz.prog) tt tt_ok 5000 19 [.tmp 4] Tryz.func183 rfl Tryz.ntmps183 rfl (Nat.le_of_ble_eq_true rfl) (fun E9 w9 hn9 hm9=>?_)
 refine loop_i (fun j st=>∃ e:Nat,st=ixSt ((List.range n).map f) s e∧e≤n∧(∀ e' < e,stpE (f e') s=false)∧j=n - e) n (ixSt ((List.range n).map f) s 0) (weak_mk ⟨_,rfl⟩ wA rfl rfl rfl wB) ⟨0,rfl,by omega,(fun _ h=>by omega),by omega⟩ ?_
 rintro _ st ⟨e,rfl,he,hno,rfl⟩
 refine br (fun hL=>?_) (fun hL=>?_)
 ·have hlt:e < n:=by simpa [hdl] using hL
  have hx:((List.range n).map f)[e]? = some (f e):=by rw [List.getElem?_map,List.getElem?_range hlt];all_goals rfl
  refine drawG_i (fun _=>false) mo (by decide +kernel) ?_
  refine ⟨_,⟨by omega,dStps_get hx⟩,_,stp_eql _ _ s (f e),?_⟩
  refine br (fun c=>?_) (fun c=>?_)
  ·have c:stpE s (f e)=true:=c
   have:=find_is (p:=fun e=>stpE (f e) s) hlt (by show stpE (f e) s=true;rw [stpE_comm];exact c) hno
   rw [this]
   exact (rfl:_=_)
  ·have c:stpE s (f e)=false:=c
   exact ⟨ixSt ((List.range n).map f) s (e + 1),(weak_mk ⟨_,rfl⟩ wA rfl rfl rfl (by repeat' (first | exact trivial | exact we_rfl rfl | exact we_int (nxt hlt (by omega)) | refine ⟨⟨_,rfl,?_⟩,?_⟩))),n - (e + 1),by omega,e + 1,rfl,by omega,(fun e' h=>by
    rcases Nat.lt_or_ge e' e with h1 | h1
    ·exact hno e' h1
    ·have:e'=e:=by omega
     subst this
     rw [stpE_comm];exact c),rfl⟩
 ·have hge:n≤e:=by simpa [hdl] using hL
  have:=find_no (p:=fun e=>stpE (f e) s) (n:=n) fun e' h=>hno e' (by omega)
  rw [this]
  exact (rfl:_=_)
theorem steps0_spec (d:Nd) (q z:Int) (s:ByteArray):EvP Tryz.prog 168 [.agg (dNd d),.agg (dVal (.mk q z s []))] (.sl 3 [] none):=by
 obtain ⟨kind,at',lo,hi,most,names,es⟩:=d
 refine ev_go (P:=Tryz.prog) tt tt_ok 5000 55 [.tmp 4] Tryz.func168 rfl Tryz.ntmps168 rfl (Nat.le_of_ble_eq_true rfl) (fun E9 w9 hn9 hm9=>?_)
 refine loop_i (fun j st=>st=stsSt ⟨kind,at',lo,hi,most,names,es⟩ (.mk q z s []) 0 0) 0 (stsSt ⟨kind,at',lo,hi,most,names,es⟩ (.mk q z s []) 0 0) (weak_bt 2 ⟨0,173,3,none⟩ rfl rfl rfl (by repeat' (first | exact rfl | exact we_rfl rfl | exact we_tok (Nat.le_refl _) rfl | exact we_tok (Nat.le_refl _) rfl | refine ⟨_,_,rfl,?_,?_⟩)) rfl rfl (by repeat' (first | exact trivial | exact we_rfl rfl | exact we_tok (Nat.le_refl _) rfl | refine ⟨⟨_,rfl,?_⟩,?_⟩))) rfl ?_
 rintro _ st rfl
 exact ⟨_,ax,rfl⟩
def kidR (o:Option (Nat × Val × Int)):DV:=match o with
 | some (e,_,j)=>.tup [.v (.int .i64 (e:Nat)),.v (.int .i64 j)]
 | none=>.tup [.v (.int .i64 (-1)),.v (.int .i64 (-1))]
theorem tsteps_spec {L:Nat} {ND:List Nd} (hok:∀ n∈ND,NdOK L ND.length n) {v:Val} (hv:v.wt≤1099511627776) {i:Int} {d:Nd} (hF:FitF ND v i d):EvP Tryz.prog 168 [.agg (dNd d),.agg (dVal v)] (.sl 3 (dStps (stpL d v)) none):=by
 have hN:=hok d (List.mem_of_getElem? (nodeA_some hF.node).2)
 rcases Int.lt_or_le d.kind 5 with h5 | h5
 ·have h:=hF.leaf h5
  obtain ⟨q,z,s,ks⟩:=v
  simp only [Val.ks] at h
  subst h
  exact steps0_spec d q z s
 ·refine steps_spec d v hv hF.k h5 hN.k8 (fun c=>?_) (fun c=>?_)
  ·have:=(hF.kids h5).1
   rw [← this]
   unfold kidsL;rw [if_neg (by omega),if_pos c,List.length_map]
  ·obtain ⟨_,_,_,h3,h4,_⟩:=hF.tag c
   exact ⟨h3,h4⟩
theorem kid_spec {S:Sch} {ND:List Nd} {PC:List DV} (hP:PlanR S ND PC) {v:Val} (hv:v.wt≤1099511627776) {i:Int} (hf:fitV ND v i=true) (s:Stp) :
  EvP Tryz.prog 111 [.pt PC 0,.v (.int .i64 i),.agg (dVal v),.agg (dStp s)] (kidR (stepV ND v i s)):=by
 obtain ⟨d,hF⟩:=fit_facts hP.ok hf
 have hsv:stepV ND v i s=match kidI d v s with | none=>none | some e=>match v.ks[e]?,(kidsL d v)[e]? with | some x,some j=>some (e,x,j) | _,_=>none:=by
  unfold stepV;rw [hF.node];all_goals rfl
 have hks:∀ e,kidI d v s=some e→∃ x j,v.ks[e]? = some x∧(kidsL d v)[e]? = some j∧5≤d.kind:=fun e he=>by
  have hlt:=(find_some he).1
  have hx:v.ks[e]? = some v.ks[e]:=List.getElem?_eq_getElem hlt
  have h5:=kind5_of hP.ok hF hx
  exact ⟨_,_,hx,List.getElem?_eq_getElem (by rw [(hF.kids h5.1).1];exact hlt),h5.1⟩
 have hix:kidI d v s=(List.range v.ks.length).find? fun e=>stpE (stpR d v e) s:=rfl
 have h1:=tsteps_spec hP.ok hv hF
 have hkl:=wtVs_len v.ks
 have hvw:v.wt=64 + v.s.size + wtVs v.ks:=by cases v;rw [Val.wt];all_goals rfl
 have h2:=index_spec (stpR d v) v.ks.length s (by omega)
 obtain ⟨h0,hg⟩:=nodeA_some hF.node
 have hN:=hP.ok d (List.mem_of_getElem? hg)
 have h3:=fun h5=>kids_spec hN h5 v hv
 obtain ⟨j0,rfl⟩:∃ j:Nat,i=j:=⟨i.toNat,by omega⟩
 have hg:ND[j0]? = some d:=by simpa using hg
 have hnode:=hP.node j0 d hg
 rw [← hix] at h2
 rw [hsv]
 have hstl:stpL d v=(List.range v.ks.length).map (stpR d v):=rfl
 rw [hstl] at h1
 generalize (List.range v.ks.length).map (stpR d v)=SL at h1 h2
 generalize kidI d v s=o at h2 hks ⊢
 clear hsv
 obtain ⟨q,z,t,ks⟩:=v
 obtain ⟨kind,at',lo,hi,most,names,es⟩:=d
 obtain ⟨sk,sn,ss⟩:=s
 refine ev_go (P:=Tryz.prog) tt tt_ok 5000 38 [.tmp 8,.tmp 9] Tryz.func111 rfl Tryz.ntmps111 rfl (Nat.le_of_ble_eq_true rfl) (fun E9 w9 hn9 hm9=>?_)
 refine call_p en19 (hnode) ax rfl ?_
 refine drawG_i (fun _=>false) mo (by decide +kernel) ?_
 refine callD_p en168 (h1) ax rfl ?_
 refine callD_p en183 (h2) ax rfl ?_
 cases o with
 | none=>
  exact ⟨_,ax,rfl⟩
 | some e=>
  obtain ⟨x,j,hx,hj,h5⟩:=hks e rfl
  refine call_p en118 (h3 h5) ax rfl ?_
  refine drawG_i (fun _=>false) mo (by decide +kernel) ?_
  refine ⟨_,⟨by simp [oz],by simp [oz];exact dZs_get hj⟩,?_⟩
  simp only [hx,hj]
  exact ⟨_,ax,rfl⟩
abbrev zVal:List DV:=[.v (.int .i64 0),.v (.int .i64 0),.v (.string emptyB),.v (.slice none 0 0)]
abbrev zeroV:Val:=.mk 0 0 emptyB []
abbrev tcSt (v:Val) (n e:Nat):St:=
 ⟨[(1,⟨[],.loc 0 0⟩),(2,⟨[],.loc 1 0⟩),(3,⟨[],.sl 4 (dVals (v.ks.take e)) (some 0)⟩),(7,⟨[],.sl 4 (dVals v.ks) none⟩),(8,⟨[],.v (.int .i64 (dVals v.ks).length)⟩),(9,⟨[],.v (.int .i64 e)⟩)],[dVal v,zVal],[⟨n,60,4,none⟩]⟩
theorem clone_spec:∀ (k:Nat) (v:Val),v.wt≤k→v.wt≤1099511627776→EvP Tryz.prog 112 [.agg (dVal v)] (.agg (dVal v))
 | 0,v,h,_=>by have:=v.wt_pos;omega
 | k + 1,.mk q z s ks,h,hb=>by
  have hkl:=wtVs_len ks
  have hdl:=dVals_len ks
  rw [Val.wt] at h hb
  refine ev_go (P:=Tryz.prog) tt tt_ok 5000 22 [.cell 2 60] Tryz.func112 rfl Tryz.ntmps112 rfl (Nat.le_of_ble_eq_true rfl) (fun E9 w9 hn9 hm9=>?_)
  refine loop_i (fun j st=>∃ e n:Nat,st=tcSt (.mk q z s ks) n e∧n=e∧e≤ks.length∧j=ks.length - e) ks.length (tcSt (.mk q z s ks) 0 0) (weak_bt 2 ⟨0,60,4,none⟩ rfl rfl rfl (by repeat' (first | exact rfl | exact we_rfl rfl | exact we_tok (Nat.le_refl _) rfl | exact we_tok (Nat.le_refl _) rfl | refine ⟨_,_,rfl,?_,?_⟩)) rfl rfl (by repeat' (first | exact trivial | exact we_rfl rfl | exact we_tok (Nat.le_refl _) rfl | refine ⟨⟨_,rfl,?_⟩,?_⟩))) ⟨0,0,rfl,rfl,by omega,by omega⟩ ?_
  rintro _ st ⟨e,n,rfl,rfl,he,rfl⟩
  refine br (fun hL=>?_) (fun hL=>?_)
  ·have hlt:n < ks.length:=by simpa [hdl,Val.ks] using hL
   obtain ⟨x,hx⟩:∃ x,ks[n]? = some x:=⟨_,List.getElem?_eq_getElem hlt⟩
   have hxw:=wtVs_mem (List.mem_of_getElem? hx)
   have hw:=clone_spec k x (by omega) (by omega)
   have hsn:=dVals_snoc hx
   have hml:(dVals (ks.take n)).length=n:=by rw [dVals_len,List.length_take];omega
   obtain ⟨xk,xn,xs,xl⟩:=x
   refine ⟨_,⟨by omega,dVals_get hx⟩,?_⟩
   refine call_p en112 (hw) ax rfl ?_
   refine ⟨hml,⟨by simp only [Val.ks];rw [hml];simp [maxLen];omega,by simp only [Val.ks];rw [hml];simp;omega⟩,?_⟩
   exact ⟨tcSt (.mk q z s ks) (n + 1) (n + 1),(weak_b 2 rfl (by repeat' (first | exact rfl | exact we_rfl rfl | exact we_int (nxt hlt (by omega)) | exact we_sl hsn rfl | refine ⟨_,_,rfl,?_,?_⟩)) rfl rfl rfl (by repeat' (first | exact trivial | exact we_rfl rfl | exact we_int (nxt hlt (by omega)) | exact we_sl hsn rfl | refine ⟨⟨_,rfl,?_⟩,?_⟩))),ks.length - (n + 1),by omega,n + 1,n + 1,rfl,rfl,by omega,rfl⟩
  ·have hge:n=ks.length:=by
    have:=hL;simp [hdl,Val.ks] at this;omega
   subst hge
   have h1:dVals (Val.mk q z s ks).ks=dVals ks:=rfl
   have h2:ks.take ks.length=ks:=List.take_length
   have h3:(Val.mk q z s ks).ks.take ks.length=ks:=h2
   rw [h3]
   exact ⟨_,ax,rfl⟩
abbrev coSt (v:Val) (cs:List DV) (n e:Nat):St:=
 ⟨[(1,⟨[],.loc 0 0⟩),(2,⟨[],.loc 1 0⟩),(3,⟨[],.sl 0 (List.replicate e []) (some 0)⟩),(7,⟨[],.sl 4 (dVals v.ks) none⟩),(8,⟨[],.v (.int .i64 (dVals v.ks).length)⟩),(9,⟨[],.v (.int .i64 e)⟩)],[dVal v,zVal],[⟨n,60,4,some cs⟩]⟩
theorem clone_own (v:Val) (hv:v.wt≤1099511627776):EvF Tryz.prog 112 [.agg (dVal v)] [] [] (fun r _ tks=>r = .agg [.v (.int .i64 v.k),.v (.int .i64 v.n),.v (.string v.s),.sl 0 (List.replicate v.ks.length []) (some 0)]∧tks=[⟨v.ks.length,60,4,some (dVals v.ks).flatten⟩]):=by
 obtain ⟨q,z,s,ks⟩:=v
 have hkl:=wtVs_len ks
 have hdl:=dVals_len ks
 rw [Val.wt] at hv
 refine evB_gom (s:=false) (bt:=[]) (mu:=[]) (hbt:=fun p hp=>by cases hp) (fr:=true) (P:=Tryz.prog) tt tt_ok 5000 22 [.cell 2 60] Tryz.func112 rfl Tryz.ntmps112 rfl (Nat.le_of_ble_eq_true rfl) (fun E9 w9 hn9 hm9=>?_)
 refine loop_i (fun j st=>∃ (e:Nat) (cs:List DV),st=coSt (.mk q z s ks) cs e e∧cs=(dVals (ks.take e)).flatten∧e≤ks.length∧j=ks.length - e) ks.length (coSt (.mk q z s ks) [] 0 0) (weak_bt 2 ⟨0,60,4,some []⟩ rfl rfl rfl (by repeat' (first | exact rfl | exact we_rfl rfl | exact we_tok (Nat.le_refl _) rfl | exact we_tok (Nat.le_refl _) rfl | refine ⟨_,_,rfl,?_,?_⟩)) rfl rfl (by repeat' (first | exact trivial | exact we_rfl rfl | exact we_tok (Nat.le_refl _) rfl | refine ⟨⟨_,rfl,?_⟩,?_⟩))) ⟨0,[],rfl,rfl,by omega,by omega⟩ ?_
 rintro _ st ⟨e,cs,rfl,hcs,he,rfl⟩
 refine br (fun hL=>?_) (fun hL=>?_)
 ·have hlt:e < ks.length:=by simpa [hdl,Val.ks] using hL
  obtain ⟨x,hx⟩:∃ x,ks[e]? = some x:=⟨_,List.getElem?_eq_getElem hlt⟩
  have hxw:=wtVs_mem (List.mem_of_getElem? hx)
  have hw:=clone_spec _ x (Nat.le_refl _) (by omega)
  have hsn:=congrArg List.flatten (dVals_snoc hx)
  rw [List.flatten_append,← hcs] at hsn
  obtain ⟨xk,xn,xs,xl⟩:=x
  refine ⟨_,⟨by omega,dVals_get hx⟩,?_⟩
  refine call_p en112 (hw) ax rfl ?_
  refine ⟨⟨⟨List.length_replicate,by simp⟩,by simp [maxLen];omega,by simp;omega⟩,?_⟩
  exact ⟨coSt (.mk q z s ks) _ (e + 1) (e + 1),(weak_b 2 rfl (by repeat' (first | exact rfl | exact we_rfl rfl | exact we_int (nxt hlt (by omega)) | refine ⟨_,_,rfl,?_,?_⟩)) rfl rfl rfl (by repeat' (first | exact trivial | exact we_rfl rfl | exact we_int (nxt hlt (by omega)) | refine ⟨⟨_,rfl,?_⟩,?_⟩))),ks.length - (e + 1),by omega,e + 1,_,rfl,hsn,by omega,rfl⟩
 ·have hge:e=ks.length:=by
   have:=hL;simp [hdl,Val.ks] at this;omega
  subst hge
  rw [List.take_length] at hcs
  subst hcs
  exact ⟨_,[],(by repeat' (first | exact rfl | exact trivial | exact Or.inr (Or.inl ⟨_,rfl⟩) | exact Or.inr ⟨_,rfl⟩ | exact Or.inl ⟨rfl,rfl⟩ | exact Or.inl rfl | refine Or.inr ⟨_,_,rfl,Nat.zero_le _,rfl,?_⟩ | refine ⟨_,_,rfl,?_,?_⟩ | refine ⟨_,rfl,?_⟩ | exact ⟨Nat.le_of_ble_eq_true rfl,rfl⟩ | refine Or.inr (Or.inr (Or.inr ⟨_,_,rfl,?_⟩)) | exact Or.inl rfl | refine Or.inr ?_)),rfl,rfl,rfl⟩
def resG (o:Option (Val × Int)):DV:=match o with
 | some (x,j)=>.tup [.agg (dVal x),.v (.int .i64 j),.v (.bool true)]
 | none=>.tup [.agg (dVal zeroV),.v (.int .i64 (-1)),.v (.bool false)]
theorem sl_tail (s:Stp) (p:List Stp):DV.sl 3 (((dStps (s :: p)).take (((dStps (s :: p)).length:Nat):Int).toNat).drop (1:Int).toNat) none = .sl 3 (dStps p) none:=by
 rw [Int.toNat_natCast,List.take_length];all_goals rfl
abbrev gtSt (PC:List DV) (p:List Stp) (v:Val) (i:Int) (e:Nat):St:=
 ⟨[(0,⟨[],.pt PC 0⟩),(1,⟨[],.v (.int .i64 i)⟩),(6,⟨[],.loc 0 0⟩),(8,⟨[],.loc 1 0⟩),(21,⟨[],.sl 3 (dStps p) none⟩),(22,⟨[],.v (.int .i64 (dStps p).length)⟩),(23,⟨[],.v (.int .i64 e)⟩)],[dVal v,zVal],[]⟩
theorem tget_spec {S:Sch} {ND:List Nd} {PC:List DV} (hP:PlanR S ND PC) {v:Val} (hv:v.wt≤1099511627776) (i:Int) (p:List Stp) (hp:p.length≤1099511627776) :
  EvP Tryz.prog 45 [.pt PC 0,.v (.int .i64 i),.agg (dVal v),.sl 3 (dStps p) none] (resG (if fitV ND v i=true then getV ND p v i else none)):=by
 have hfit:=tfits_spec hP _ v (Nat.le_refl _) hv i
 have hdp:=dStps_len p
 have hgo:∀ e vc ic,e≤p.length→getV ND (p.drop e) vc ic=match p[e]? with | none=>some (vc,ic) | some s=>match stepV ND vc ic s with | none=>none | some (_,x,j)=>getV ND (p.drop (e + 1)) x j:=fun e vc ic he=>by
  cases hs:p[e]? with
  | none=>rw [List.drop_eq_nil_of_le (List.getElem?_eq_none_iff.1 hs)];all_goals rfl
  | some s=>
   obtain ⟨h1,h2⟩:=List.getElem?_eq_some_iff.1 hs
   rw [List.drop_eq_getElem_cons h1,h2,getV];all_goals rfl
 generalize hR:(if fitV ND v i=true then getV ND p v i else none)=R
 have hvq:dVal v=dVal v:=rfl
 generalize hvV:v=V at *
 obtain ⟨q,z,s,ks⟩:=V
 refine ev_go (P:=Tryz.prog) tt tt_ok 5000 48 [.cell 8 60,.tmp 9,.tmp 10] Tryz.func45 rfl Tryz.ntmps45 rfl (Nat.le_of_ble_eq_true rfl) (fun E9 w9 hn9 hm9=>?_)
 refine call_p en51 (hfit) ax rfl ?_
 refine br (fun c=>?_) (fun c=>?_)
 ·have c:fitV ND (.mk q z s ks) i=false:=by simpa using c
  rw [c] at hR
  subst hR
  exact ⟨_,ax,rfl⟩
 have c:fitV ND (.mk q z s ks) i=true:=by simpa using c
 rw [if_pos c] at hR
 refine loop_i (fun j st=>∃ (e:Nat) (vc:Val) (ic:Int),st=gtSt PC p vc ic e∧e≤p.length∧getV ND (p.drop e) vc ic=R∧fitV ND vc ic=true∧vc.wt≤1099511627776∧j=p.length - e) p.length (gtSt PC p (.mk q z s ks) i 0) (weak_b 2 rfl (by repeat' (first | exact rfl | exact we_rfl rfl | exact we_rfl rfl | refine ⟨_,_,rfl,?_,?_⟩)) rfl rfl rfl (by repeat' (first | exact trivial | exact we_rfl rfl | exact we_rfl rfl | refine ⟨⟨_,rfl,?_⟩,?_⟩))) ⟨0,_,_,rfl,by omega,hR,c,hv,by omega⟩ ?_
 rintro _ st ⟨e,vc,ic,rfl,he,hg,hfc,hvc,rfl⟩
 have hgo:=hgo e vc ic he
 rw [hg] at hgo
 refine br (fun hL=>?_) (fun hL=>?_)
 ·have hlt:e < p.length:=by simpa [hdp] using hL
  obtain ⟨y,hy⟩:∃ y,p[e]? = some y:=⟨_,List.getElem?_eq_getElem hlt⟩
  rw [hy] at hgo
  simp only at hgo
  have hk:=kid_spec hP hvc hfc y
  have hsf:=@step_fit _ _ hP.ok vc ic hfc y
  have hss:=@stepV_some ND vc ic y
  generalize stepV ND vc ic y=o at hk hgo hsf hss
  obtain ⟨yk,yn,ys⟩:=y
  obtain ⟨ck,cn,cs,cks⟩:=vc
  refine ⟨_,⟨by omega,dStps_get hy⟩,?_⟩
  refine call_p en111 (hk) ax rfl ?_
  cases o with
  | none=>
   simp only at hgo
   subst hgo
   exact ⟨_,ax,rfl⟩
  | some o=>
   obtain ⟨e2,x,j⟩:=o
   obtain ⟨d,_,_,hx,_⟩:=hss rfl
   have hxf:=hsf rfl
   simp only [Val.ks] at hx
   have hxw:=wtVs_mem (List.mem_of_getElem? hx)
   rw [Val.wt] at hvc
   simp only at hgo
   refine ⟨_,⟨by omega,by simpa using dVals_get hx⟩,?_⟩
   obtain ⟨xk,xn,xs,xl⟩:=x
   exact ⟨gtSt PC p (.mk xk xn xs xl) j (e + 1),(weak_b 2 rfl (by repeat' (first | exact rfl | exact we_rfl rfl | exact we_int (nxt hlt (by omega)) | refine ⟨_,_,rfl,?_,?_⟩)) rfl rfl rfl (by repeat' (first | exact trivial | exact we_rfl rfl | exact we_int (nxt hlt (by omega)) | refine ⟨⟨_,rfl,?_⟩,?_⟩))),p.length - (e + 1),by omega,e + 1,_,_,rfl,by omega,hgo.symm,hxf,by omega,rfl⟩
 ·have hge:e=p.length:=by
   have:=hL;simp [hdp] at this;omega
  have:p[e]? = none:=List.getElem?_eq_none (by omega)
  rw [this] at hgo
  simp only at hgo
  subst hgo
  have hw:=clone_spec _ vc (Nat.le_refl _) hvc
  obtain ⟨ck,cn,cs,cks⟩:=vc
  refine call_p en112 (hw) ax rfl ?_
  exact ⟨_,ax,rfl⟩
end Go.Proofs.YtdeaicofhmkebaaGreat
set_option maxRecDepth 100000
namespace Go.Proofs.YtdeaicofhmkebaaGreat
open Go Go.RowKit Dv Tryz
theorem flat_set {α:Type} {c:Nat} {x:List α}:∀ {l:List (List α)} {e:Nat},(∀ y∈l,y.length=c)→e < l.length→(l.set e x).flatten=l.flatten.take (e * c) ++ x ++ l.flatten.drop (e * c + c)
 | [],e,_,h=>by simp at h
 | y :: r,0,hl,h=>by
  have hy:=hl y (by simp)
  subst hy
  simp
 | y :: r,e + 1,hl,h=>by
  have hy:=hl y (by simp)
  have ih:=flat_set (x:=x) (l:=r) (e:=e) (fun z hz=>hl z (by simp [hz])) (by simpa using h)
  have h1:(e + 1) * c=y.length + e * c:=by rw [hy,Nat.add_mul,Nat.one_mul,Nat.add_comm]
  have h2:(e + 1) * c + c=y.length + (e * c + c):=by rw [h1];omega
  rw [List.set_cons_succ,List.flatten_cons,List.flatten_cons,ih,h2,h1,List.take_length_add_append,List.drop_length_add_append]
  simp
theorem dVals_cells:∀ (l:List Val),∀ x∈dVals l,x.length=4
 | [],x,h=>by simp [dVals] at h
 | .mk _ _ _ _ :: r,x,h=>by
  rw [dVals] at h
  rcases List.mem_cons.1 h with h | h
  ·rw [h];all_goals rfl
  ·exact dVals_cells r x h
theorem dVals_set (l:List Val) (e:Nat) (y:Val):dVals (l.set e y)=(dVals l).set e (dVal y):=by rw [dVals_map,dVals_map,List.map_set]
theorem tput_spec {S:Sch} {ND:List Nd} {PC:List DV} (hP:PlanR S ND PC) (x:Val) (hx:x.wt≤1099511627776):∀ (p:List Stp),p.length≤1099511627776→∀ (v:Val),v.wt≤1099511627776→∀ (i:Int),fitV ND v i=true→∀ r,getV ND p v i=some r →
  EvP Tryz.prog 113 [.pt PC 0,.v (.int .i64 i),.agg (dVal v),.sl 3 (dStps p) none,.agg (dVal x)] (.agg (dVal (setV ND p v i x)))
 | [],_,v,hv,i,hf,r,hg=>by
  have hw:=clone_spec _ x (Nat.le_refl _) hx
  rw [setV]
  obtain ⟨q,z,s,ks⟩:=v
  obtain ⟨xk,xn,xs,xl⟩:=x
  refine ev_go (P:=Tryz.prog) tt tt_ok 5000 47 [.cell 10 60] Tryz.func113 rfl Tryz.ntmps113 rfl (Nat.le_of_ble_eq_true rfl) (fun E9 w9 hn9 hm9=>?_)
  refine call_p en112 (hw) ax rfl ?_
  exact ⟨_,ax,rfl⟩
 | s :: p,hp,v,hv,i,hf,r,hg=>by
  have hkid:=kid_spec hP hv hf s
  have hsf:=@step_fit _ _ hP.ok v i hf s
  have hss:=@stepV_some ND v i s
  rw [getV] at hg
  rw [setV]
  rw [List.length_cons] at hp
  have htail:=sl_tail s p
  have hco:=clone_own v hv
  generalize stepV ND v i s=o at hkid hsf hss hg ⊢
  cases o with
  | none=>cases hg
  | some o=>
   obtain ⟨e,y,j⟩:=o
   obtain ⟨d,_,_,hy,_⟩:=hss rfl
   have hyf:=hsf rfl
   have hyw:=wtVs_mem (List.mem_of_getElem? hy)
   have hlt:=(List.getElem?_eq_some_iff.1 hy).1
   have hvw:v.wt=64 + v.s.size + wtVs v.ks:=by cases v;rw [Val.wt];all_goals rfl
   have hw:=tput_spec hP x hx p (by omega) y (by omega) j hyf r hg
   simp only
   generalize setV ND p y j x=u at hw
   obtain ⟨q,z,t,ks⟩:=v
   obtain ⟨xk,xn,xs,xl⟩:=x
   obtain ⟨uk,un,us,ul⟩:=u
   obtain ⟨yk,yn,ys,yl⟩:=y
   have hflat:=flat_set (x:=dVal (.mk uk un us ul)) (dVals_cells ks) (e:=e) (by rw [dVals_len];exact hlt)
   rw [← dVals_set] at hflat
   have hsc:=dVals_cells (ks.set e (.mk uk un us ul))
   have hsl:(dVals (ks.set e (.mk uk un us ul))).length=ks.length:=by rw [dVals_len,List.length_set]
   have hdl:=dVals_len ks
   have hds:=dStps_get (l:=s :: p) (e:=0) rfl
   have hdsl:=dStps_len (s :: p)
   rw [List.length_cons] at hdsl
   obtain ⟨sk,sn,ss⟩:=s
   simp only [Val.ks] at hlt hy hco
   simp only [vset,Val.k,Val.n,Val.s,Val.ks] at hco ⊢
   refine ev_go (P:=Tryz.prog) tt tt_ok 5000 47 [.cell 10 60] Tryz.func113 rfl Tryz.ntmps113 rfl (Nat.le_of_ble_eq_true rfl) (fun E9 w9 hn9 hm9=>?_)
   refine drawG_i (fun _=>false) mo (by decide +kernel) ?_
   refine ⟨_,⟨by omega,hds⟩,?_⟩
   refine callD_p en111 (hkid) ax rfl ?_
   refine call_f en112 rfl hco ax (fun r1 tks hr=>?_)
   obtain ⟨rfl,rfl⟩:=hr
   refine drawG_s mo (by decide +kernel) ?_
   refine ⟨_,⟨by omega,by simpa using dVals_get hy⟩,?_⟩
   refine ⟨⟨by omega,by omega,by omega⟩,?_⟩
   refine callD_own (e:=4) (es:=List.replicate ks.length []) (m:=ks.length) en113 rfl hw (by repeat' (first | exact rfl | exact trivial | exact Or.inr (Or.inl ⟨_,rfl⟩) | exact Or.inr ⟨_,rfl⟩ | exact Or.inl ⟨rfl,rfl⟩ | exact Or.inl rfl | refine Or.inr ⟨_,_,rfl,Nat.zero_le _,rfl,?_⟩ | refine ⟨_,_,rfl,?_,?_⟩ | refine ⟨_,rfl,?_⟩ | exact Or.inr (Or.inl ⟨_,htail⟩) | refine Or.inr (Or.inr (Or.inr ⟨_,_,rfl,?_⟩)) | exact Or.inl rfl | refine Or.inr ?_)) ⟨rfl,rfl,rfl⟩ ⟨rfl,rfl,rfl⟩ rfl rfl rfl rfl rfl rfl (by decide) rfl rfl rfl List.length_replicate ⟨by omega,by omega⟩ rfl ?_
   refine ⟨_,wk_own (j:=3) (o:=3) (k:=0) (ty:=60) (e:=4) (ocs:=[.v (.int .i64 q),.v (.int .i64 z),.v (.string t),.sl 0 (List.replicate ks.length []) (some 0)]) (n:=ks.length) (es:=List.replicate ks.length []) (ns:=dVals (ks.set e (.mk uk un us ul))) ?_ hsc hsl rfl rfl List.length_replicate,?_⟩
   ·rw [hflat]
    rfl
   ·exact ⟨_,ax,rfl⟩
def resS (o:Option Val):DV:=match o with
 | some y=>.tup [.agg (dVal y),.v (.bool true)]
 | none=>.tup [.agg (dVal zeroV),.v (.bool false)]
theorem tset_spec {S:Sch} {ND:List Nd} {PC:List DV} (hP:PlanR S ND PC) {v x:Val} (hv:v.wt≤1099511627776) (hx:x.wt≤1099511627776) (i:Int) (p:List Stp) (hp:p.length≤1099511627776) :
  EvP Tryz.prog 46 [.pt PC 0,.v (.int .i64 i),.agg (dVal v),.sl 3 (dStps p) none,.agg (dVal x)]
   (resS (match (if fitV ND v i=true then getV ND p v i else none) with | none=>none | some (_,j)=>if fitV ND x j=true then some (setV ND p v i x) else none)):=by
 have hget:=tget_spec hP hv i p hp
 have hfx:=fun j=>tfits_spec hP _ x (Nat.le_refl _) hx j
 have hput:=fun hf r hr=>tput_spec hP x hx p hp v hv i hf r hr
 by_cases hf:fitV ND v i=true
 ·rw [if_pos hf] at hget ⊢
  have hput:=hput hf
  generalize getV ND p v i=o at hget hput ⊢
  cases o with
  | none=>
   obtain ⟨q,z,s,ks⟩:=v
   obtain ⟨xk,xn,xs,xl⟩:=x
   refine ev_go (P:=Tryz.prog) tt tt_ok 5000 40 [.cell 10 60,.tmp 11] Tryz.func46 rfl Tryz.ntmps46 rfl (Nat.le_of_ble_eq_true rfl) (fun E9 w9 hn9 hm9=>?_)
   refine call_p en45 (hget) ax rfl ?_
   exact ⟨_,ax,rfl⟩
  | some r=>
   obtain ⟨y,j⟩:=r
   have hput2:=hput _ rfl
   clear hput
   have hfx:=hfx j
   generalize setV ND p v i x=u at hput2 ⊢
   simp only
   obtain ⟨q,z,s,ks⟩:=v
   obtain ⟨xk,xn,xs,xl⟩:=x
   obtain ⟨uk,un,us,ul⟩:=u
   obtain ⟨yk,yn,ys,yl⟩:=y
   refine ev_go (P:=Tryz.prog) tt tt_ok 5000 40 [.cell 10 60,.tmp 11] Tryz.func46 rfl Tryz.ntmps46 rfl (Nat.le_of_ble_eq_true rfl) (fun E9 w9 hn9 hm9=>?_)
   refine call_p en45 (hget) ax rfl ?_
   refine call_p en51 (hfx) ax rfl ?_
   cases hc:fitV ND (.mk xk xn xs xl) j with
   | false=>exact ⟨_,ax,rfl⟩
   | true=>
    refine call_p en113 (hput2) ax rfl ?_
    exact ⟨_,ax,rfl⟩
 ·rw [if_neg hf] at hget ⊢
  obtain ⟨q,z,s,ks⟩:=v
  obtain ⟨xk,xn,xs,xl⟩:=x
  refine ev_go (P:=Tryz.prog) tt tt_ok 5000 40 [.cell 10 60,.tmp 11] Tryz.func46 rfl Tryz.ntmps46 rfl (Nat.le_of_ble_eq_true rfl) (fun E9 w9 hn9 hm9=>?_)
  refine call_p en45 (hget) ax rfl ?_
  exact ⟨_,ax,rfl⟩
end Go.Proofs.YtdeaicofhmkebaaGreat
set_option maxRecDepth 100000
namespace Go.Proofs.YtdeaicofhmkebaaGreat
open Go Go.RowKit Dv Tryz
abbrev kdSt (d:Nd) (v:Val) (s:Stp) (e:Nat):St:=⟨[(3,⟨[],.loc 0 0⟩),(4,⟨[],.loc 1 0⟩),(5,⟨[],.loc 2 0⟩),(7,⟨[],.v (.int .i64 e)⟩)],[dNd d,dVal v,dStp s],[]⟩
theorem kid25_spec (d:Nd) (v:Val) (s:Stp) (hv:v.wt≤1099511627776) (hst:∀ e:Nat,e < v.ks.length→EvP Tryz.prog 97 [.agg (dNd d),.agg (dVal v),.v (.int .i64 e)] (.agg (dStp (stpR d v e)))) :
  EvP Tryz.prog 114 [.agg (dNd d),.agg (dVal v),.agg (dStp s)] (.v (.int .i64 (oz (kidI d v s)))):=by
 have hK:kidI d v s=(List.range v.ks.length).find? fun e=>stpE (stpR d v e) s:=rfl
 rw [hK]
 generalize stpR d v=f at hst ⊢
 obtain ⟨q,z,t,ks⟩:=v
 obtain ⟨kind,at',lo,hi,most,names,es⟩:=d
 have hkl:=wtVs_len ks
 have hdl:=dVals_len ks
 rw [Val.wt] at hv
 obtain ⟨n,hn⟩:∃ n,n=ks.length:=⟨_,rfl⟩
 have hss:dStp s=dStp s:=rfl
 refine ev_go (P:=Tryz.prog) tt tt_ok 5000 22 [.tmp 6] Tryz.func114 rfl Tryz.ntmps114 rfl (Nat.le_of_ble_eq_true rfl) (fun E9 w9 hn9 hm9=>?_)
 refine loop_i (fun j st=>∃ e:Nat,st=kdSt ⟨kind,at',lo,hi,most,names,es⟩ (.mk q z t ks) s e∧e≤ks.length∧(∀ e' < e,stpE (f e') s=false)∧j=ks.length - e) ks.length (kdSt ⟨kind,at',lo,hi,most,names,es⟩ (.mk q z t ks) s 0) (weak_mk ⟨_,rfl⟩ wA rfl rfl rfl wB) ⟨0,rfl,by omega,(fun _ h=>by omega),by omega⟩ ?_
 rintro _ st ⟨e,rfl,he,hno,rfl⟩
 refine br (fun hL=>?_) (fun hL=>?_)
 ·have hlt:e < ks.length:=by simpa [hdl] using hL
  have hse:=hst e hlt
  generalize hfe:f e=y at hse
  refine drawG_i (fun _=>false) mo (by decide +kernel) ?_
  refine callD_p en97 (hse) ax rfl ?_
  refine ⟨_,stp_eql _ _ y s,?_⟩
  refine br (fun c=>?_) (fun c=>?_)
  ·have c:stpE y s=true:=c
   have:=find_is (n:=ks.length) (p:=fun e=>stpE (f e) s) hlt (by show stpE (f e) s=true;rw [hfe];exact c) hno
   rw [show (Val.mk q z t ks).ks.length=ks.length from rfl,this]
   exact (rfl:_=_)
  ·have c:stpE y s=false:=c
   exact ⟨kdSt ⟨kind,at',lo,hi,most,names,es⟩ (.mk q z t ks) s (e + 1),(weak_mk ⟨_,rfl⟩ wA rfl rfl rfl (by repeat' (first | exact trivial | exact we_rfl rfl | exact we_int (nxt hlt (by omega)) | refine ⟨⟨_,rfl,?_⟩,?_⟩))),ks.length - (e + 1),by omega,e + 1,rfl,by omega,(fun e' h=>by
    rcases Nat.lt_or_ge e' e with h1 | h1
    ·exact hno e' h1
    ·have:e'=e:=by omega
     rw [this,hfe];exact c),rfl⟩
 ·have hge:ks.length≤e:=by simpa [hdl] using hL
  have:=find_no (p:=fun e=>stpE (f e) s) (n:=ks.length) fun e' h=>hno e' (by omega)
  rw [show (Val.mk q z t ks).ks.length=ks.length from rfl,this]
  exact (rfl:_=_)
theorem fit25 {L:Nat} {ND:List Nd} (hok:∀ n∈ND,NdOK L ND.length n) {v:Val} (hv:v.wt≤1099511627776) {i:Int} (hf:fitV ND v i=true):∃ (j:Nat) (d:Nd),i=j∧ND[j]? = some d∧FitF ND v j d ∧
  (∀ s,EvP Tryz.prog 114 [.agg (dNd d),.agg (dVal v),.agg (dStp s)] (.v (.int .i64 (oz (kidI d v s))))) ∧
  ∀ s e y k,stepV ND v j s=some (e,y,k)→EvP Tryz.prog 96 [.agg (dNd d),.agg (dVal v),.v (.int .i64 e)] (.v (.int .i64 k)):=by
 obtain ⟨d,hF⟩:=fit_facts hok hf
 obtain ⟨h0,hg⟩:=nodeA_some hF.node
 obtain ⟨j,rfl⟩:∃ j:Nat,i=j:=⟨i.toNat,by omega⟩
 have hg:ND[j]? = some d:=by simpa using hg
 have hN:=hok d (List.mem_of_getElem? hg)
 refine ⟨j,d,rfl,hg,hF,fun s=>kid25_spec d v s hv fun e he=>?_,fun s e y k hs=>?_⟩
 ·have h5:=kind5_of hok hF (List.getElem?_eq_getElem he)
  refine step25_spec d v e (fun c=>?_) (fun c5 c6 c7=>?_)
  ·have:=(hF.kids h5.1).1
   have h7:(kidsL d v).length=d.edges.length:=by unfold kidsL;rw [if_neg (by omega),if_pos c,List.length_map]
   omega
  ·obtain ⟨_,_,_,h3,h4,_⟩:=hF.tag (by omega)
   exact ⟨h3,h4⟩
 ·obtain ⟨d',h1,_,h3,h4⟩:=stepV_some hs
  rw [hF.node] at h1
  cases h1
  have h5:=kind5_of hok hF h3
  have:=to25_spec hN v e
  rwa [toR_kids hF.node hf h5.1 h5.2 h4] at this
def resG25 (o:Option (Val × Int)):DV:=match o with
 | some (x,j)=>.tup [.agg (dVal x),.v (.int .i64 j)]
 | none=>.tup [.agg (dVal zeroV),.v (.int .i64 (-1))]
section
variable (a b:Nat) (A B:List (List DV)) (rt:Int) {ND:List Nd} {L:Nat} (hok:∀ n∈ND,NdOK L ND.length n)
include hok
theorem stepV_kid {v:Val} {j:Nat} {d:Nd} (hF:FitF ND v j d) (s:Stp):(kidI d v s=none∧stepV ND v j s=none)∨∃ e y k,kidI d v s=some e∧stepV ND v j s=some (e,y,k):=by
 cases h:kidI d v s with
 | none=>
  refine .inl ⟨rfl,?_⟩
  unfold stepV;rw [hF.node];simp only;rw [h]
 | some e=>
  have hlt:=(find_some h).1
  have hx:v.ks[e]? = some v.ks[e]:=List.getElem?_eq_getElem hlt
  have h5:=kind5_of hok hF hx
  exact .inr ⟨e,_,_,rfl,stepV_of hF.node h hx (List.getElem?_eq_getElem (by rw [(hF.kids h5.1).1];exact hlt))⟩
theorem get25_spec:∀ (p:List Stp),p.length≤1099511627776→∀ (v:Val),v.wt≤1099511627776→∀ (i:Int),fitV ND v i=true →
  EvP Tryz.prog 47 [.agg (wG a b A B ND rt),.v (.int .i64 i),.agg (dVal v),.sl 3 (dStps p) none] (resG25 (getV ND p v i))
 | [],_,v,hv,i,hf=>by
  have hW:wG a b A B ND rt=wG a b A B ND rt:=rfl
  rw [getV]
  obtain ⟨q,z,s,ks⟩:=v
  refine ev_go (P:=Tryz.prog) tt tt_ok 5000 48 [.cell 8 60,.tmp 9] Tryz.func47 rfl Tryz.ntmps47 rfl (Nat.le_of_ble_eq_true rfl) (fun E9 w9 hn9 hm9=>?_)
  exact ⟨_,ax,rfl⟩
 | s :: p,hp,v,hv,i,hf=>by
  obtain ⟨j,d,rfl,hg,hF,hkid,hto⟩:=fit25 hok hv hf
  have hkid:=hkid s
  have hto:=hto s
  have hsf:=@step_fit _ _ hok v j hf s
  have hss:=@stepV_some ND v j s
  have hNl:=dNds_len ND
  rw [List.length_cons] at hp
  have htail:=sl_tail s p
  have hds:=dStps_get (l:=s :: p) (e:=0) rfl
  have hdsl:=dStps_len (s :: p)
  rw [List.length_cons] at hdsl
  rw [getV]
  have hk:=stepV_kid hok hF s
  generalize kidI d v s=o1 at hkid hk
  generalize stepV ND v j s=o at hto hsf hss hk ⊢
  obtain ⟨kind,at',lo,hi,most,names,es⟩:=d
  rcases hk with ⟨rfl,rfl⟩ | ⟨e,y,k,rfl,rfl⟩
  ·obtain ⟨q,z,t,ks⟩:=v
   obtain ⟨sk,sn,ss⟩:=s
   refine ev_go (P:=Tryz.prog) tt tt_ok 5000 48 [.cell 8 60,.tmp 9] Tryz.func47 rfl Tryz.ntmps47 rfl (Nat.le_of_ble_eq_true rfl) (fun E9 w9 hn9 hm9=>?_)
   refine drawG_i (fun _=>false) mo (by decide +kernel) ?_
   refine ⟨_,⟨by omega,dNds_get hg⟩,_,⟨by omega,hds⟩,?_⟩
   refine callD_p en114 (hkid) ax rfl ?_
   exact ⟨_,ax,rfl⟩
  ·obtain ⟨_,_,_,hy,_⟩:=hss rfl
   have hyf:=hsf rfl
   have hto2:=hto e y k rfl
   clear hto
   have hyw:=wtVs_mem (List.mem_of_getElem? hy)
   have hvw:v.wt=64 + v.s.size + wtVs v.ks:=by cases v;rw [Val.wt];all_goals rfl
   have hw:=get25_spec p (by omega) y (by omega) k hyf
   simp only
   generalize getV ND p y k=r at hw ⊢
   obtain ⟨q,z,t,ks⟩:=v
   obtain ⟨sk,sn,ss⟩:=s
   obtain ⟨yk,yn,ys,yl⟩:=y
   simp only [Val.ks] at hy
   refine ev_go (P:=Tryz.prog) tt tt_ok 5000 48 [.cell 8 60,.tmp 9] Tryz.func47 rfl Tryz.ntmps47 rfl (Nat.le_of_ble_eq_true rfl) (fun E9 w9 hn9 hm9=>?_)
   refine drawG_i (fun _=>false) mo (by decide +kernel) ?_
   refine ⟨_,⟨by omega,dNds_get hg⟩,_,⟨by omega,hds⟩,?_⟩
   refine callD_p en114 (hkid) ax rfl ?_
   refine drawG_s mo (by decide +kernel) ?_
   refine ⟨_,⟨by omega,dNds_get hg⟩,?_⟩
   refine callD_p en96 (hto2) ax rfl ?_
   refine ⟨_,⟨by simp [oz],by simp [oz];exact dVals_get hy⟩,?_⟩
   refine ⟨⟨by omega,by omega,by omega⟩,?_⟩
   cases r with
   | none=>
    refine callD_p en47 (hw) (by repeat' (first | exact rfl | exact trivial | exact Or.inr (Or.inl ⟨_,rfl⟩) | exact Or.inr ⟨_,rfl⟩ | exact Or.inl ⟨rfl,rfl⟩ | exact Or.inl rfl | refine Or.inr ⟨_,_,rfl,Nat.zero_le _,rfl,?_⟩ | refine ⟨_,_,rfl,?_,?_⟩ | refine ⟨_,rfl,?_⟩ | exact Or.inr (Or.inl ⟨_,htail⟩)| refine Or.inr (Or.inr (Or.inr ⟨_,_,rfl,?_⟩)) | exact Or.inl rfl | refine Or.inr ?_)) rfl ?_
    exact ⟨_,ax,rfl⟩
   | some r=>
    obtain ⟨⟨rk,rn,rs,rl⟩,ri⟩:=r
    refine callD_p en47 (hw) (by repeat' (first | exact rfl | exact trivial | exact Or.inr (Or.inl ⟨_,rfl⟩) | exact Or.inr ⟨_,rfl⟩ | exact Or.inl ⟨rfl,rfl⟩ | exact Or.inl rfl | refine Or.inr ⟨_,_,rfl,Nat.zero_le _,rfl,?_⟩ | refine ⟨_,_,rfl,?_,?_⟩ | refine ⟨_,rfl,?_⟩ | exact Or.inr (Or.inl ⟨_,htail⟩)| refine Or.inr (Or.inr (Or.inr ⟨_,_,rfl,?_⟩)) | exact Or.inl rfl | refine Or.inr ?_)) rfl ?_
    exact ⟨_,ax,rfl⟩
end
end Go.Proofs.YtdeaicofhmkebaaGreat
set_option maxRecDepth 100000
namespace Go.Proofs.YtdeaicofhmkebaaGreat
open Go Go.RowKit Dv Tryz
abbrev s24St (a b:Val) (e:Nat):St:=⟨[(2,⟨[],.loc 0 0⟩),(3,⟨[],.loc 1 0⟩),(5,⟨[],.v (.int .i64 e)⟩)],[dVal a,dVal b],[]⟩
theorem same24_spec:∀ (k:Nat) (a:Val),a.wt≤k→a.wt≤1099511627776→∀ b:Val,EvP Tryz.prog 115 [.agg (dVal a),.agg (dVal b)] (.v (.bool (sameV a b)))
 | 0,v,h,_=>by have:=v.wt_pos;omega
 | k + 1,.mk q n s ks,h,hb=>fun b=>by
  have ih:=same24_spec k
  rw [Val.wt] at h hb
  obtain ⟨bk,bn,bs,bl⟩:=b
  have hal:=wtVs_len ks
  have h1:=dVals_len ks
  have h2:=dVals_len bl
  have hS:sameV (.mk q n s ks) (.mk bk bn bs bl)=(decide (q=bk) && decide (n=bn) && decide (s=bs) && sameVs ks bl):=by rw [sameV]
  refine ev_go (P:=Tryz.prog) tt tt_ok 5000 53 [.tmp 4] Tryz.func115 rfl Tryz.ntmps115 rfl (Nat.le_of_ble_eq_true rfl) (fun E9 w9 hn9 hm9=>?_)
  refine br (fun c=>?_) (fun c=>?_)
  ·have c:¬ (q=bk∧n=bn∧s=bs∧ks.length=bl.length):=by
    have:=c;simp [pickB_or,h1,h2] at this
    intro hh;obtain ⟨a1,a2,a3,a4⟩:=hh
    simp [a1,a2,a3,a4] at this
   refine (congrArg (fun b=>DV.v (.bool b)) ?_:_=_)
   rw [hS]
   by_cases hl:ks.length=bl.length
   ·symm
    rw [Bool.and_eq_false_iff]
    left
    simp only [Bool.and_eq_false_iff,decide_eq_false_iff_not]
    by_cases a1:q=bk
    ·by_cases a2:n=bn
     ·right;exact fun a3=>c ⟨a1,a2,a3,hl⟩
     ·left;right;exact a2
    ·left;left;exact a1
   ·rw [sameVs_len hl,Bool.and_false]
  ·have c:q=bk∧n=bn∧s=bs∧ks.length=bl.length:=by
    have:=c;simp [pickB_or,h1,h2] at this
    obtain ⟨⟨⟨a1,a2⟩,a3⟩,a4⟩:=this
    exact ⟨a1,a2,a3,by omega⟩
   obtain ⟨rfl,rfl,rfl,hl⟩:=c
   simp only [decide_true,Bool.true_and] at hS
   rw [hS]
   refine loop_i (fun j st=>∃ e:Nat,st=s24St (.mk q n s ks) (.mk q n s bl) e∧e≤ks.length∧sameVs ks bl=sameVs (ks.drop e) (bl.drop e)∧j=ks.length - e) ks.length
    (s24St (.mk q n s ks) (.mk q n s bl) 0) (weak_mk ⟨_,rfl⟩ wA rfl rfl rfl wB) ⟨0,rfl,by omega,rfl,by omega⟩ ?_
   rintro _ st ⟨e,rfl,he,heq,rfl⟩
   refine br (fun h=>?_) (fun h=>?_)
   ·have hlt:e < ks.length:=by simpa [h1] using h
    obtain ⟨x,hx⟩:∃ x,ks[e]? = some x:=⟨_,List.getElem?_eq_getElem hlt⟩
    obtain ⟨y,hy⟩:∃ y,bl[e]? = some y:=⟨_,List.getElem?_eq_getElem (hl ▸ hlt)⟩
    rw [drop_cons hx,drop_cons hy,sameVs] at heq
    have hxw:=wtVs_mem (List.mem_of_getElem? hx)
    have hev:=ih x (by omega) (by omega) y
    obtain ⟨xk,xn,xs,xl⟩:=x
    obtain ⟨yk,yn,ys,yl⟩:=y
    refine drawG_i (fun _=>false) mo (by decide +kernel) ?_
    refine ⟨_,⟨by omega,dVals_get hx⟩,?_⟩
    refine ⟨_,⟨by omega,dVals_get hy⟩,?_⟩
    refine callD_p en115 (hev) ax rfl ?_
    refine br (fun h=>?_) (fun h=>?_)
    ·have hne:sameV (.mk xk xn xs xl) (.mk yk yn ys yl)=false:=by simpa using h
     refine (congrArg (fun b=>DV.v (.bool b)) ?_:_=_)
     rw [heq,hne,Bool.false_and]
    ·have hne:sameV (.mk xk xn xs xl) (.mk yk yn ys yl)=true:=by simpa using h
     rw [hne,Bool.true_and] at heq
     exact ⟨s24St (.mk q n s ks) (.mk q n s bl) (e + 1),(weak_mk ⟨_,rfl⟩ wA rfl rfl rfl (by repeat' (first | exact trivial | exact we_rfl rfl | exact we_int (nxt hlt (by omega)) | refine ⟨⟨_,rfl,?_⟩,?_⟩))),ks.length - (e + 1),by omega,e + 1,rfl,by omega,heq,rfl⟩
   ·have hge:ks.length≤e:=by simpa [h1] using h
    rw [List.drop_of_length_le (by omega),List.drop_of_length_le (by omega)] at heq
    refine (congrArg (fun b=>DV.v (.bool b)) ?_:_=_)
    rw [heq];simp [sameVs]
theorem same25_spec (a:Val) (ha:a.wt≤1099511627776) (b:Val):EvP Tryz.prog 48 [.agg (dVal a),.agg (dVal b)] (.v (.bool (sameV a b))):=by
 have h:=same24_spec _ a (Nat.le_refl _) ha b
 obtain ⟨q,n,s,ks⟩:=a
 obtain ⟨bk,bn,bs,bl⟩:=b
 refine ev_go (P:=Tryz.prog) tt tt_ok 5000 8 [.tmp 4] Tryz.func48 rfl Tryz.ntmps48 rfl (Nat.le_of_ble_eq_true rfl) (fun E9 w9 hn9 hm9=>?_)
 refine call_p en115 (h) ax rfl ?_
 exact (rfl:_=_)
abbrev st25St (W:List DV) (v x:Val) (p:DV) (i:Int) (q z:Int) (s:ByteArray) (ks:List Val) (at':Int) (n e:Nat):St:=
 ⟨[(1,⟨[],.v (.int .i64 i)⟩),(3,⟨[],p⟩),(5,⟨[],.loc 0 0⟩),(7,⟨[],.loc 1 0⟩),(9,⟨[],.loc 2 0⟩),(10,⟨[],.loc 3 0⟩),(11,⟨[],.loc 4 0⟩),(12,⟨[],.v (.int .i64 at')⟩),(13,⟨[],.v (.int .i64 e)⟩)],
  [W,dVal v,dVal x,zVal,[.v (.int .i64 q),.v (.int .i64 z),.v (.string s),.sl 4 (dVals (ks.take e)) (some 0)]],[⟨n,60,4,none⟩]⟩
section
variable (a b:Nat) (A B:List (List DV)) (rt:Int) {ND:List Nd} {L:Nat} (hok:∀ n∈ND,NdOK L ND.length n)
include hok
theorem set25_spec (x:Val) (hx:x.wt≤1099511627776):∀ (p:List Stp),p.length≤1099511627776→∀ (v:Val),v.wt≤1099511627776→∀ (i:Int),fitV ND v i=true→∀ r,getV ND p v i=some r →
  EvP Tryz.prog 50 [.agg (wG a b A B ND rt),.v (.int .i64 i),.agg (dVal v),.sl 3 (dStps p) none,.agg (dVal x)] (.agg (dVal (setV ND p v i x)))
 | [],_,v,hv,i,hf,r,hg=>by
  have hW:wG a b A B ND rt=wG a b A B ND rt:=rfl
  rw [setV]
  obtain ⟨q,z,s,ks⟩:=v
  obtain ⟨xk,xn,xs,xl⟩:=x
  refine ev_go (P:=Tryz.prog) tt tt_ok 5000 72 [.cell 10 60] Tryz.func50 rfl Tryz.ntmps50 rfl (Nat.le_of_ble_eq_true rfl) (fun E9 w9 hn9 hm9=>?_)
  exact ⟨_,ax,rfl⟩
 | s :: p,hp,v,hv,i,hf,r,hg=>by
  obtain ⟨j,d,rfl,hgd,hF,hkid,hto⟩:=fit25 hok hv hf
  have hkid:=hkid s
  have hto:=hto s
  have hsf:=@step_fit _ _ hok v j hf s
  have hss:=@stepV_some ND v j s
  have hNl:=dNds_len ND
  rw [List.length_cons] at hp
  have htail:=sl_tail s p
  have hds:=dStps_get (l:=s :: p) (e:=0) rfl
  have hdsl:=dStps_len (s :: p)
  rw [List.length_cons] at hdsl
  rw [getV] at hg
  rw [setV]
  have hk:=stepV_kid hok hF s
  generalize kidI d v s=o1 at hkid hk
  generalize stepV ND v j s=o at hto hsf hss hk hg ⊢
  obtain ⟨kind,at',lo,hi,most,names,es⟩:=d
  rcases hk with ⟨rfl,rfl⟩ | ⟨e,y,k,rfl,rfl⟩
  ·cases hg
  obtain ⟨_,_,_,hy,_⟩:=hss rfl
  have hyf:=hsf rfl
  have hto2:=hto e y k rfl
  clear hto
  have hyw:=wtVs_mem (List.mem_of_getElem? hy)
  have hvw:v.wt=64 + v.s.size + wtVs v.ks:=by cases v;rw [Val.wt];all_goals rfl
  have hw:=set25_spec x hx p (by omega) y (by omega) k hyf r hg
  simp only
  generalize setV ND p y k x=u at hw
  have hlt:=(List.getElem?_eq_some_iff.1 hy).1
  obtain ⟨q,z,t,ks⟩:=v
  obtain ⟨sk,sn,ss⟩:=s
  obtain ⟨uk,un,us,ul⟩:=u
  obtain ⟨xk,xn,xs,xl⟩:=x
  have hdl:=dVals_len ks
  have hkl:=wtVs_len ks
  rw [Val.wt] at hv
  simp only [Val.ks] at hy hlt
  simp only [vset,Val.k,Val.n,Val.s,Val.ks]
  have hul:(ks.set e (.mk uk un us ul)).length=ks.length:=List.length_set
  have hu:∀ m,m < ks.length→(ks.set e (.mk uk un us ul))[m]? = if m=e then some (.mk uk un us ul) else ks[m]?:=fun m hm=>by
   rw [List.getElem?_set]
   by_cases h:e=m
   ·subst h;simp [hlt]
   ·rw [if_neg h,if_neg (Ne.symm h)]
  generalize ks.set e (.mk uk un us ul)=us' at hul hu
  have hWd:wG a b A B ND rt=wG a b A B ND rt:=rfl
  obtain ⟨P,hPe⟩:∃ P,P=dStps (⟨sk,sn,ss⟩ :: p):=⟨_,rfl⟩
  have hpp:DV.sl 3 (dStps (⟨sk,sn,ss⟩ :: p)) none = .sl 3 (dStps (⟨sk,sn,ss⟩ :: p)) none:=rfl
  refine ev_go (P:=Tryz.prog) tt tt_ok 5000 72 [.cell 10 60] Tryz.func50 rfl Tryz.ntmps50 rfl (Nat.le_of_ble_eq_true rfl) (fun E9 w9 hn9 hm9=>?_)
  refine drawG_i (fun _=>false) mo (by decide +kernel) ?_
  refine ⟨_,⟨by omega,dNds_get hgd⟩,_,⟨by omega,hds⟩,?_⟩
  refine callD_p en114 (hkid) ax rfl ?_
  refine loop_i (fun j0 st=>∃ m n:Nat,st=st25St (wG a b A B ND rt) (.mk q z t ks) (.mk xk xn xs xl) (.sl 3 (dStps (⟨sk,sn,ss⟩ :: p)) none) j q z t us' e n m∧n=m∧m≤ks.length∧j0=ks.length - m) ks.length
   (st25St (wG a b A B ND rt) (.mk q z t ks) (.mk xk xn xs xl) (.sl 3 (dStps (⟨sk,sn,ss⟩ :: p)) none) j q z t us' e 0 0) (weak_bt 5 ⟨0,60,4,none⟩ rfl rfl rfl (by repeat' (first | exact rfl | exact we_rfl rfl | exact we_tok (Nat.le_refl _) rfl | exact we_tok (Nat.le_refl _) rfl | refine ⟨_,_,rfl,?_,?_⟩)) rfl rfl (by repeat' (first | exact trivial | exact we_rfl rfl | exact we_tok (Nat.le_refl _) rfl | refine ⟨⟨_,rfl,?_⟩,?_⟩))) ⟨0,0,rfl,rfl,by omega,by omega⟩ ?_
  rintro _ st ⟨m,n,rfl,rfl,hm,rfl⟩
  have hml:(dVals (us'.take n)).length=n:=by rw [dVals_len,List.length_take];omega
  refine br (fun hL=>?_) (fun hL=>?_)
  ·have hltm:n < ks.length:=by simpa [hdl] using hL
   obtain ⟨w,hwm⟩:∃ w,ks[n]? = some w:=⟨_,List.getElem?_eq_getElem hltm⟩
   have hum:=hu n hltm
   obtain ⟨wk,wn,ws,wl⟩:=w
   refine ⟨_,⟨by omega,dVals_get hwm⟩,?_⟩
   refine br (fun hc=>?_) (fun hc=>?_)
   ·have hc:n=e:=by have:=hc;simp at this;omega
    subst hc
    rw [hy] at hwm
    cases hwm
    rw [if_pos rfl] at hum
    have hsn:=dVals_snoc hum
    refine drawG_s mo (by decide +kernel) ?_
    refine ⟨_,⟨by omega,dNds_get hgd⟩,?_⟩
    refine callD_p en96 (hto2) ax rfl ?_
    refine ⟨⟨by omega,by omega,by omega⟩,?_⟩
    refine callD_p en50 (hw) (by repeat' (first | exact rfl | exact trivial | exact Or.inr (Or.inl ⟨_,rfl⟩) | exact Or.inr ⟨_,rfl⟩ | exact Or.inl ⟨rfl,rfl⟩ | exact Or.inl rfl | refine Or.inr ⟨_,_,rfl,Nat.zero_le _,rfl,?_⟩ | refine ⟨_,_,rfl,?_,?_⟩ | refine ⟨_,rfl,?_⟩ | exact Or.inr (Or.inl ⟨_,htail⟩)| refine Or.inr (Or.inr (Or.inr ⟨_,_,rfl,?_⟩)) | exact Or.inl rfl | refine Or.inr ?_)) rfl ?_
    refine ⟨hml,⟨by rw [hml];simp [maxLen];omega,by rw [hml];simp;omega⟩,?_⟩
    exact ⟨st25St (wG a b A B ND rt) (.mk q z t ks) (.mk xk xn xs xl) (.sl 3 (dStps (⟨sk,sn,ss⟩ :: p)) none) j q z t us' n (n + 1) (n + 1),(weak_b 5 rfl (by repeat' (first | exact rfl | exact we_rfl rfl | exact we_int (nxt hltm (by omega)) | exact we_sl hsn rfl | refine ⟨_,_,rfl,?_,?_⟩)) rfl rfl rfl (by repeat' (first | exact trivial | exact we_rfl rfl | exact we_int (nxt hltm (by omega)) | exact we_sl hsn rfl | refine ⟨⟨_,rfl,?_⟩,?_⟩))),ks.length - (n + 1),by omega,n + 1,n + 1,rfl,rfl,by omega,rfl⟩
   ·have hc:¬ n=e:=by intro h;have:=hc;simp at this;omega
    rw [if_neg hc,hwm] at hum
    have hsn:=dVals_snoc hum
    refine ⟨hml,⟨by rw [hml];simp [maxLen];omega,by rw [hml];simp;omega⟩,?_⟩
    exact ⟨st25St (wG a b A B ND rt) (.mk q z t ks) (.mk xk xn xs xl) (.sl 3 (dStps (⟨sk,sn,ss⟩ :: p)) none) j q z t us' e (n + 1) (n + 1),(weak_b 5 rfl (by repeat' (first | exact rfl | exact we_rfl rfl | exact we_int (nxt hltm (by omega)) | exact we_sl hsn rfl | refine ⟨_,_,rfl,?_,?_⟩)) rfl rfl rfl (by repeat' (first | exact trivial | exact we_rfl rfl | exact we_int (nxt hltm (by omega)) | exact we_sl hsn rfl | refine ⟨⟨_,rfl,?_⟩,?_⟩))),ks.length - (n + 1),by omega,n + 1,n + 1,rfl,rfl,by omega,rfl⟩
  ·have hge:n=ks.length:=by
    have:=hL;simp [hdl] at this;omega
   rw [hge,← hul,List.take_length]
   exact ⟨_,ax,rfl⟩
end
end Go.Proofs.YtdeaicofhmkebaaGreat
set_option maxRecDepth 100000
namespace Go.Proofs.YtdeaicofhmkebaaGreat
open Go Go.RowKit Dv Tryz
theorem cells_step:Tryz.prog.cellsOf 173=3:=by kernel_rfl
def rngStp (p:List Stp):Prop:=∀ s∈p,(-9223372036854775808≤s.k∧s.k≤9223372036854775807)∧(-9223372036854775808≤s.n∧s.n≤9223372036854775807)
def wtStp:List Stp→Nat
 | []=>0
 | s :: p=>64 + s.s.size + wtStp p
theorem wtStp_len:∀ p:List Stp,64 * p.length≤wtStp p
 | []=>Nat.le_refl _
 | s :: p=>by
  have:=wtStp_len p
  rw [wtStp,List.length_cons];omega
theorem typ_stps {m:Nat}:∀ {es:List (List DV)},(∀ cs∈es,Typ Tryz.prog m 173 cs)→∃ p:List Stp,es=dStps p∧rngStp p∧wtStp p≤wgEs es
 | [],h=>⟨[],rfl,(fun _ h=>by cases h),by simp [wtStp]⟩
 | cs :: r,h=>by
  obtain ⟨p,rfl,hr,hl⟩:=typ_stps (es:=r) (fun c hc=>h c (List.mem_cons_of_mem _ hc))
  obtain ⟨m',rfl,hf⟩:=typ_st Tryz.underlying173 (h cs (by simp))
  obtain ⟨a1,b1,rfl,h1,a2,b2,rfl,h2,a3,b3,rfl,h3,rfl⟩:=hf
  obtain ⟨k,rfl,hk⟩:=typ_i h1
  obtain ⟨z,rfl,hz⟩:=typ_i h2
  obtain ⟨s,rfl⟩:=typ_str Tryz.underlying9 h3
  refine ⟨⟨k,z,s⟩ :: p,rfl,fun x hx=>?_,?_⟩
  ·rcases List.mem_cons.1 hx with rfl | hx
   ·exact ⟨hk,hz⟩
   ·exact hr x hx
  ·simp only [wtStp,wgEs,wgL_append,wgL,wgD] at *
   omega
theorem typ_path {n:Nat} {ds:List DV} (h:Typ Tryz.prog n 74 ds):∃ p:List Stp,ds=[.sl 3 (dStps p) none]∧rngStp p∧wtStp p≤wgL ds:=by
 obtain ⟨j,es,rfl,rfl,hes⟩:=typ_sl Tryz.underlying74 h
 obtain ⟨p,rfl,hr,hl⟩:=typ_stps hes
 rw [cells_step]
 exact ⟨p,rfl,hr,by simp only [wgL,wgD];omega⟩
def dQ (p:List Stp) (x:Val):List DV:=.sl 3 (dStps p) none :: dVal x
theorem typ_q {n:Nat} {ds:List DV} (h:Typ Tryz.prog n 92 ds):∃ p x,ds=dQ p x∧rngStp p∧wtStp p + x.wt≤wgL ds:=by
 obtain ⟨m,rfl,hf⟩:=typ_st Tryz.underlying92 h
 obtain ⟨a1,b1,rfl,h1,a2,b2,rfl,h2,rfl⟩:=hf
 obtain ⟨p,rfl,hr,wp⟩:=typ_path h1
 obtain ⟨x,rfl,wx⟩:=typ_val m a2 h2
 refine ⟨p,x,by simp [dQ],hr,?_⟩
 simp only [wgL_append]
 omega
def tyQS:List TypeId:=[92,74,173,60,58,9,3]
theorem tyQS_ok:∀ t∈tyQS,flatOK Tryz.prog tyQS t=true:=by
 have h:(tyQS.all fun t=>flatOK Tryz.prog tyQS t)=true:=by kernel_rfl
 exact fun t ht=>List.all_eq_true.1 h t ht
end Go.Proofs.YtdeaicofhmkebaaGreat
set_option maxRecDepth 100000
namespace Go.Proofs.YtdeaicofhmkebaaGreat
open Go Go.RowKit Dv Tryz
set_option maxHeartbeats 4000000 in
theorem goes25_law (S:Sch) (hS:S.wt≤1099511627776) (_:rngS S) (v:Val) (hv2:v.wt≤549755813888) (p:List Stp) (x:Val) (hq:wtStp p + x.wt≤549755813888):EvP Tryz.prog 8 [.agg (dSch S),.agg (dVal v),.agg (dQ p x)] (.v (.bool true)):=by
 have hv:v.wt≤1099511627776:=by omega
 have hpl:=wtStp_len p
 have hp:p.length≤1099511627776:=by omega
 have hx:x.wt≤1099511627776:=by omega
 have hf:=fine25_spec S hS v hv
 have hf2:=fine25_spec S hS x hx
 have hb:=(build_spec S hS).mono (Ψ:=fun r _ _=>BuiltΦ S r) fun _ _ _ h=>builtΦ_of hS h
 have hw:=fun h=>build18_spec S hS h
 have hss:=tsame_spec _ v (Nat.le_refl _) hv x
 have hs25:=same25_spec v hv x
 have hz25:=same25_spec zeroV (by decide) zeroV
 rw [sameV_refl] at hz25
 generalize sameV v x=sv at hss hs25
 have hvv:Val.mk v.k v.n v.s v.ks=v:=by cases v;rfl
 refine ev_go (P:=Tryz.prog) tt tt_ok 5000 138 [.tmp 6] Tryz.func8 rfl Tryz.ntmps8 rfl (Nat.le_of_ble_eq_true rfl) (fun E9 w9 hn9 hm9=>?_)
 obtain ⟨levels,order,types,⟨rh,rp⟩⟩:=S
 obtain ⟨q,z,s,ks⟩:=v
 obtain ⟨xk,xn,xs,xl⟩:=x
 refine call_e en27 rfl hf ax (fun r hr=>?_)
 obtain ⟨b,rfl,h0⟩:=hr
 cases b with
 | false=>
  refine call_p en28 (lives25_spec) ax rfl ?_
  exact (rfl:_=_)
 | true=>
 refine call_e en27 rfl hf2 ax (fun r hr=>?_)
 obtain ⟨b,rfl,_⟩:=hr
 cases b with
 | false=>
  refine call_p en28 (lives25_spec) ax rfl ?_
  exact (rfl:_=_)
 | true=>
 have h0:=h0 rfl
 have hw:=hw h0
 refine call_e en17 rfl hb ax (fun r hr=>?_)
 rcases hr with ⟨hr,_⟩ | ⟨_,PC,hP,rfl⟩
 ·exact (hr h0).elim
 have hget:=tget_spec hP hv (resRoot ⟨levels,order,types,.mk rh rp⟩) p hp
 have hset:=tset_spec hP hv hx (resRoot ⟨levels,order,types,.mk rh rp⟩) p hp
 have hft:=fun A B=>fits25_spec 2 1 A B (resRoot ⟨levels,order,types,.mk rh rp⟩) hP.ok (Val.mk q z s ks).wt (.mk q z s ks) (Nat.le_refl _) hv (resRoot ⟨levels,order,types,.mk rh rp⟩)
 have hg25:=fun A B=>get25_spec 2 1 A B (resRoot ⟨levels,order,types,.mk rh rp⟩) hP.ok p hp (.mk q z s ks) hv (resRoot ⟨levels,order,types,.mk rh rp⟩)
 have hs2:=fun A B=>set25_spec 2 1 A B (resRoot ⟨levels,order,types,.mk rh rp⟩) hP.ok (.mk xk xn xs xl) hx p hp (.mk q z s ks) hv (resRoot ⟨levels,order,types,.mk rh rp⟩)
 have hfx:=fun A B j=>fits25_spec 2 1 A B (resRoot ⟨levels,order,types,.mk rh rp⟩) hP.ok (Val.mk xk xn xs xl).wt (.mk xk xn xs xl) (Nat.le_refl _) hx j
 have hgf:=fun hf=>@getV_fit _ _ hP.ok p (.mk q z s ks) (resRoot ⟨levels,order,types,.mk rh rp⟩) hf
 have hgw:=fun {u j}=>@getV_wt (resNds ⟨levels,order,types,.mk rh rp⟩) p (.mk q z s ks) (resRoot ⟨levels,order,types,.mk rh rp⟩) u j
 have hsw:=fun {u j}=>@setV_wt (resNds ⟨levels,order,types,.mk rh rp⟩) (.mk xk xn xs xl) p (.mk q z s ks) (resRoot ⟨levels,order,types,.mk rh rp⟩) u j
 simp only [← fit_eq hP.ok] at hft hfx
 generalize getV (resNds ⟨levels,order,types,.mk rh rp⟩) p (.mk q z s ks) (resRoot ⟨levels,order,types,.mk rh rp⟩)=G at hget hset hg25 hs2 hgf hgw hsw
 generalize fitV (resNds ⟨levels,order,types,.mk rh rp⟩) (.mk q z s ks) (resRoot ⟨levels,order,types,.mk rh rp⟩)=F at hget hset hft hg25 hs2 hgf
 refine call_p en29 (hw) ax rfl ?_
 cases F with
 | false=>
  simp only [Bool.false_eq_true,if_false] at hget hset
  refine call_p en45 (hget) ax rfl ?_
  refine call_p en46 (hset) ax rfl ?_
  refine call_p en31 (hft _ _) ax rfl ?_
  refine drawG_i (fun _=>false) mo (by decide +kernel) ?_
  refine callD_p en48 (hz25) ax rfl ?_
  refine callD_p en49 (hss) ax rfl ?_
  refine callD_p en48 (hs25) ax rfl ?_
  refine br (fun g=>absurd g (by cases sv<;>simp [pickB])) (fun _=>?_)
  refine call_p en48 (hz25) ax rfl ?_
  refine call_p en28 (lives25_spec) ax rfl ?_
  exact (rfl:_=_)
 | true=>
  rw [if_pos rfl] at hget hset
  have hg25:=fun A B=>hg25 A B rfl
  cases G with
  | none=>
   refine call_p en45 (hget) ax rfl ?_
   refine call_p en46 (hset) ax rfl ?_
   refine call_p en31 (hft _ _) ax rfl ?_
   refine call_p en47 (hg25 _ _) ax rfl ?_
   refine drawG_i (fun _=>false) mo (by decide +kernel) ?_
   refine callD_p en48 (hz25) ax rfl ?_
   refine callD_p en49 (hss) ax rfl ?_
   refine callD_p en48 (hs25) ax rfl ?_
   refine br (fun g=>absurd g (by cases sv<;>simp [pickB])) (fun _=>?_)
   refine call_p en48 (hz25) ax rfl ?_
   refine call_p en28 (lives25_spec) ax rfl ?_
   exact (rfl:_=_)
  | some r=>
   obtain ⟨u,j⟩:=r
   have hs3:=fun A B=>hs2 A B rfl _ rfl
   have huf:=hgf rfl rfl
   have hsu:=same25_spec u (by have:=hgw rfl;omega) u
   rw [sameV_refl] at hsu
   obtain ⟨du,hFu⟩:=fit_facts hP.ok huf
   obtain ⟨hj0,_⟩:=nodeA_some hFu.node
   obtain ⟨n,rfl⟩:∃ n:Nat,j=n:=⟨j.toNat,by omega⟩
   have hfx:=fun A B=>hfx A B n
   have hyw:=hsw rfl
   generalize setV (resNds ⟨levels,order,types,.mk rh rp⟩) p (.mk q z s ks) (resRoot ⟨levels,order,types,.mk rh rp⟩) (.mk xk xn xs xl)=y at hset hs3 hyw
   have hsy:=same25_spec y (by omega) y
   rw [sameV_refl] at hsy
   simp only at hset
   generalize fitV (resNds ⟨levels,order,types,.mk rh rp⟩) (.mk xk xn xs xl) n=Fx at hset hfx
   obtain ⟨uk,un,us,ul⟩:=u
   obtain ⟨yk,yn,ys,yl⟩:=y
   cases Fx with
   | false=>
    rw [if_neg (by simp)] at hset
    refine call_p en45 (hget) ax rfl ?_
    refine call_p en46 (hset) ax rfl ?_
    refine call_p en31 (hft _ _) ax rfl ?_
    refine call_p en47 (hg25 _ _) ax rfl ?_
    refine drawG_i (fun _=>false) mo (by decide +kernel) ?_
    refine callD_p en48 (hsu) ax rfl ?_
    refine br (fun _=>?_) (fun g=>absurd g (by simp [pickB]))
    refine callD_p en49 (hss) ax rfl ?_
    refine callD_p en48 (hs25) ax rfl ?_
    refine br (fun g=>absurd g (by cases sv<;>simp [pickB])) (fun _=>?_)
    refine call_p en31 (hfx _ _) ax rfl ?_
    refine call_p en48 (hz25) ax rfl ?_
    refine call_p en28 (lives25_spec) ax rfl ?_
    exact (rfl:_=_)
   | true=>
    rw [if_pos rfl] at hset
    refine call_p en45 (hget) ax rfl ?_
    refine call_p en46 (hset) ax rfl ?_
    refine call_p en31 (hft _ _) ax rfl ?_
    refine call_p en47 (hg25 _ _) ax rfl ?_
    refine drawG_i (fun _=>false) mo (by decide +kernel) ?_
    refine callD_p en48 (hsu) ax rfl ?_
    refine br (fun _=>?_) (fun g=>absurd g (by simp [pickB]))
    refine callD_p en49 (hss) ax rfl ?_
    refine callD_p en48 (hs25) ax rfl ?_
    refine br (fun g=>absurd g (by cases sv<;>simp [pickB])) (fun _=>?_)
    refine call_p en31 (hfx _ _) ax rfl ?_
    refine drawG_i (fun _=>false) mo (by decide +kernel) ?_
    refine callD_p en50 (hs3 _ _) ax rfl ?_
    refine callD_p en48 (hsy) ax rfl ?_
    refine callD_p en28 (lives25_spec) ax rfl ?_
    exact (rfl:_=_)
end Go.Proofs.YtdeaicofhmkebaaGreat
