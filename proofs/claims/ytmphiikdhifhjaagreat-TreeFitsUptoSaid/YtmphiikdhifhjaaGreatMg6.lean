/- Part 6 of the proof: tree's leaf, kids, Fits; tree.Fits; the document's To, Fits; Values as they are written: plain; tree.write, Raw; tree.write, Raw; The least depths of the values of a plan's nodes: plain; The program's nodes, least depths; The document's least depths; fine; the chapter's example; The program's Depths; The law of least depths: fine, the example, the call returns true; The document's Fits; Written values: well formed; the document's Same on the same value; its Raw; The document's Raw; The law of values that fit: fine, the example, the call returns true. No condition. -/
import Derived.Test.YtmphiikdhifhjaaGreatMg3
import Derived.Test.YtmphiikdhifhjaaGreatMg5
set_option linter.all false
set_option maxRecDepth 100000
namespace Go.Proofs.YtmphiikdhifhjaaGreat
open Go Go.RowKit Dv Tryz
def dZs (l:List Int):List (List DV):=l.map fun z=>[DV.v (.int .i64 z)]
theorem dZs_len (l:List Int):(dZs l).length=l.length:=by simp [dZs]
theorem dZs_get {l:List Int} {i:Nat} {z:Int} (h:l[i]? = some z):(dZs l)[i]? = some [DV.v (.int .i64 z)]:=by simp [dZs,h]
theorem dZs_snoc (l:List Int) (z:Int):dZs l ++ [[DV.v (.int .i64 z)]]=dZs (l ++ [z]):=by simp [dZs]
theorem emptyB_eq:(⟨#[]⟩:ByteArray)=emptyB:=rfl
theorem leaf_spec (n:Nd) (v:Val):EvP Tryz.prog 111 [.agg (dNd n),.agg (dVal v)] (.v (.bool (leafF n v))):=by
 have hbl:=dBs_len n.names
 obtain ⟨kind,at',lo,hi,most,names,es⟩:=n
 obtain ⟨q,z,s,ks⟩:=v
 have hdl:=dVals_len ks
 simp only at hbl
 have hF:leafF ⟨kind,at',lo,hi,most,names,es⟩ (.mk q z s ks)=if 0 < ks.length∨(q≠3∧s≠emptyB)∨(q=3∧z≠0) then false
  else if kind=1 then decide (q=1) && (decide (z=0) || decide (z=1))
  else if kind=2 then decide (q=2) && decide (lo≤z) && decide (z≤hi)
  else if kind=3 then decide (q=3) && decide ((s.size:Int)≤most)
  else decide (q=4) && decide (0≤z) && decide (z < names.length):=rfl
 have hc:∀ b:Bool,b=pickB (pickB (decide (0 < ((dVals ks).length:Int))) true (pickB (!decide (q=3)) (!decide (s=⟨#[]⟩)) false)) true (pickB (decide (q=3)) (!decide (z=0)) false)→b=decide (0 < ks.length∨(q≠3∧s≠emptyB)∨(q=3∧z≠0)):=fun b h=>by
  rw [h,hdl,emptyB_eq,Bool.eq_iff_iff]
  simp [pickB_or,pickB_and,or_assoc]
 rw [hF]
 refine ev_go (P:=Tryz.prog) tt tt_ok 5000 94 [.tmp 4] Tryz.func111 rfl Tryz.ntmps111 rfl (Nat.le_of_ble_eq_true rfl) (fun E9 w9 hn9 hm9=>?_)
 refine br (fun c=>?_) (fun c=>?_)
 ·have c:=of_decide_eq_true ((hc _ rfl).symm.trans c)
  rw [if_pos c]
  exact (rfl:_=_)
 have c:=of_decide_eq_false ((hc _ rfl).symm.trans c)
 rw [if_neg c]
 refine br (fun c1=>?_) (fun c1=>?_)
 ·have c1:kind=1:=by simpa using c1
  refine (congrArg (fun b=>DV.v (.bool b)) ?_:_=_)
  simp [c1,pickB_and,pickB_or]
 have c1:¬ kind=1:=by simpa using c1
 refine br (fun c2=>?_) (fun c2=>?_)
 ·have c2:kind=2:=by simpa using c2
  refine (congrArg (fun b=>DV.v (.bool b)) ?_:_=_)
  simp [c2,pickB_and,pickB_or]
 have c2:¬ kind=2:=by simpa using c2
 refine br (fun c3=>?_) (fun c3=>?_)
 ·have c3:kind=3:=by simpa using c3
  refine (congrArg (fun b=>DV.v (.bool b)) ?_:_=_)
  simp [c3,pickB_and,pickB_or]
 have c3:¬ kind=3:=by simpa using c3
 refine (congrArg (fun b=>DV.v (.bool b)) ?_:_=_)
 simp [c1,c2,c3,pickB_and,pickB_or,hbl]
abbrev kd5St (n:Nd) (v:Val) (l:List Int) (p:Bool) (kd mo:Int) (q e:Nat):St:=
 ⟨[(2,⟨[],.loc 0 0⟩),(3,⟨[],.loc 1 0⟩),(6,⟨[],.sl 1 (dZs l) (some 0)⟩),(7,⟨[],.v (.bool p)⟩),(8,⟨[],.v (.int .i64 kd)⟩),(9,⟨[],.v (.int .i64 mo)⟩),(38,⟨[],.v (.int .i64 v.ks.length)⟩),(39,⟨[],.v (.int .i64 e)⟩)],[dNd n,dVal v],[⟨q,3,1,none⟩]⟩
abbrev kd7St (n:Nd) (v:Val) (l:List Int) (p:Bool) (q e:Nat):St:=
 ⟨[(2,⟨[],.loc 0 0⟩),(3,⟨[],.loc 1 0⟩),(6,⟨[],.sl 1 (dZs l) (some 0)⟩),(7,⟨[],.v (.bool p)⟩),(67,⟨[],.sl 10 (dEds n.edges) none⟩),(68,⟨[],.v (.int .i64 (dEds n.edges).length)⟩),(69,⟨[],.v (.int .i64 e)⟩)],[dNd n,dVal v],[⟨q,3,1,none⟩]⟩
theorem kids_spec {L N:Nat} {n:Nd} (hn:NdOK L N n) (h5:5≤n.kind) (v:Val) (hv:v.wt≤1099511627776) :
  EvP Tryz.prog 112 [.agg (dNd n),.agg (dVal v)] (.tup [.sl 1 (dZs (kidsL n v)) none,.v (.bool (kidsB n v))]):=by
 have hk8:=hn.k8
 have hone:=hn.one
 have hmany:=hn.many
 obtain ⟨kind,at',lo,hi,most,names,es⟩:=n
 obtain ⟨q,z,s,ks⟩:=v
 have hdl:=dVals_len ks
 have hel:=dEds_len es
 have hkl:=wtVs_len ks
 rw [Val.wt] at hv
 simp only at hk8 h5 hone hmany
 have hp:∀ b:Bool,b=pickB (decide (s=⟨#[]⟩)) (pickB (decide (z=0)) true (decide (q=8))) false→b=plainV (.mk q z s ks):=fun b h=>by
  rw [h]
  rw [pickB_and,pickB_or,emptyB_eq];rfl
 refine ev_go (P:=Tryz.prog) tt tt_ok 5000 134 [.tmp 4,.tmp 5] Tryz.func112 rfl Tryz.ntmps112 rfl (Nat.le_of_ble_eq_true rfl) (fun E9 w9 hn9 hm9=>?_)
 refine br (fun c=>?_) (fun c=>?_)
 ·have c:kind=5:=by simpa using c
  have c56:kind=5∨kind=6:=.inl c
  obtain ⟨x,hes,_,_⟩:=hone c56
  refine br (fun _=>?_) (fun h=>absurd h (by simp [c]))
  refine drawG_i (fun _=>false) mo (by decide +kernel) ?_
  refine br (fun h=>absurd h (by simp [c])) (fun _=>?_)
  obtain ⟨kd,mo,h1,h2,h3,h4⟩:∃ kd mo:Int,5=kd∧most=mo∧kd=kind∧mo=(if kind=6 then 1 else most):=⟨5,most,rfl,rfl,c.symm,by rw [if_neg (by omega)]⟩
  have hg0:(dEds es)[0]? = some (dEd x):=by rw [hes];rfl
  have ht0:to0 ⟨kind,at',lo,hi,most,names,es⟩=x.to:=by simp [to0,hes]
  refine loop_i (fun j st=>∃ e:Nat,st=kd5St ⟨kind,at',lo,hi,most,names,es⟩ (.mk q z s ks) (List.replicate e x.to) (plainV (.mk q z s ks)) kd mo e e∧e≤ks.length∧j=ks.length - e) ks.length (kd5St ⟨kind,at',lo,hi,most,names,es⟩ (.mk q z s ks) [] (plainV (.mk q z s ks)) kd mo 0 0) (weak_bt 2 ⟨0,3,1,none⟩ rfl rfl rfl (by repeat' (first | exact rfl | exact we_rfl rfl | exact we_bool (hp _ rfl) | exact we_int h1 | exact we_int h2 | exact we_int (congrArg Nat.cast hdl) | exact we_tok (Nat.le_refl _) rfl | exact we_tok (Nat.le_refl _) rfl | refine ⟨_,_,rfl,?_,?_⟩)) rfl rfl (by repeat' (first | exact trivial | exact we_rfl rfl | exact we_bool (hp _ rfl) | exact we_int h1 | exact we_int h2 | exact we_int (congrArg Nat.cast hdl) | exact we_tok (Nat.le_refl _) rfl | refine ⟨⟨_,rfl,?_⟩,?_⟩))) ⟨0,rfl,by omega,by omega⟩ ?_
  rintro j st ⟨e,rfl,he,rfl⟩
  refine br (fun hL=>?_) (fun hL=>?_)
  ·have hlt:e < ks.length:=by have:=hL;simp [Val.ks] at this;exact this
   have hml:(dZs (List.replicate e x.to)).length=e:=by rw [dZs_len,List.length_replicate]
   have hsn:dZs (List.replicate e x.to) ++ [[DV.v (.int .i64 x.to)]]=dZs (List.replicate (e + 1) x.to):=by rw [dZs_snoc,List.replicate_succ']
   refine ⟨_,⟨by omega,hg0⟩,?_⟩
   refine ⟨hml,⟨by rw [hml];simp [maxLen];omega,by rw [hml];simp;omega⟩,?_⟩
   exact ⟨kd5St ⟨kind,at',lo,hi,most,names,es⟩ (.mk q z s ks) (List.replicate (e + 1) x.to) (plainV (.mk q z s ks)) kd mo (e + 1) (e + 1),(weak_b 2 rfl (by repeat' (first | exact rfl | exact we_rfl rfl | exact we_int (nxt hlt (by omega)) | exact we_sl hsn rfl | refine ⟨_,_,rfl,?_,?_⟩)) rfl rfl rfl (by repeat' (first | exact trivial | exact we_rfl rfl | exact we_int (nxt hlt (by omega)) | exact we_sl hsn rfl | refine ⟨⟨_,rfl,?_⟩,?_⟩))),ks.length - (e + 1),by omega,e + 1,rfl,by omega,rfl⟩
  ·have hge:e=ks.length:=by have:=hL;simp [Val.ks] at this;omega
   subst hge
   have hkl2:kidsL ⟨kind,at',lo,hi,most,names,es⟩ (.mk q z s ks)=List.replicate ks.length x.to:=by unfold kidsL;rw [if_pos c56,ht0];rfl
   have hml:(dZs (List.replicate ks.length x.to)).length=ks.length:=by rw [dZs_len,List.length_replicate]
   have hB:pickB (pickB (plainV (.mk q z s ks)) (decide (q=kd)) false) (decide (((dZs (List.replicate ks.length x.to)).length:Int)≤mo)) false=kidsB ⟨kind,at',lo,hi,most,names,es⟩ (.mk q z s ks):=by
    rw [hml,h3,h4,pickB_and,pickB_and]
    unfold kidsB
    rw [if_pos c56]
    rfl
   rw [hkl2]
   exact ⟨_,(by repeat' (first | exact rfl | exact trivial | exact Or.inr (Or.inl ⟨_,rfl⟩) | exact Or.inr ⟨_,rfl⟩ | exact Or.inl ⟨rfl,rfl⟩ | exact Or.inl rfl | refine Or.inr ⟨_,_,rfl,Nat.zero_le _,rfl,?_⟩ | refine ⟨_,_,rfl,?_,?_⟩ | refine ⟨_,rfl,?_⟩ | exact congrArg (fun b=>DV.v (.bool b)) hB | refine Or.inr (Or.inr (Or.inr ⟨_,_,rfl,?_⟩)) | exact Or.inl rfl | refine Or.inr ?_)),rfl⟩
 have c5:¬ kind=5:=by simpa using c
 refine br (fun c=>?_) (fun c=>?_)
 ·have c:kind=6:=by simpa using c
  have c56:kind=5∨kind=6:=.inr c
  obtain ⟨x,hes,_,_⟩:=hone c56
  refine drawG_i (fun _=>false) mo (by decide +kernel) ?_
  refine br (fun _=>?_) (fun h=>absurd h (by simp [c]))
  obtain ⟨kd,mo,h1,h2,h3,h4⟩:∃ kd mo:Int,6=kd∧1=mo∧kd=kind∧mo=(if kind=6 then 1 else most):=⟨6,1,rfl,rfl,c.symm,by rw [if_pos c]⟩
  have hg0:(dEds es)[0]? = some (dEd x):=by rw [hes];rfl
  have ht0:to0 ⟨kind,at',lo,hi,most,names,es⟩=x.to:=by simp [to0,hes]
  refine loop_i (fun j st=>∃ e:Nat,st=kd5St ⟨kind,at',lo,hi,most,names,es⟩ (.mk q z s ks) (List.replicate e x.to) (plainV (.mk q z s ks)) kd mo e e∧e≤ks.length∧j=ks.length - e) ks.length (kd5St ⟨kind,at',lo,hi,most,names,es⟩ (.mk q z s ks) [] (plainV (.mk q z s ks)) kd mo 0 0) (weak_bt 2 ⟨0,3,1,none⟩ rfl rfl rfl (by repeat' (first | exact rfl | exact we_rfl rfl | exact we_bool (hp _ rfl) | exact we_int h1 | exact we_int h2 | exact we_int (congrArg Nat.cast hdl) | exact we_tok (Nat.le_refl _) rfl | exact we_tok (Nat.le_refl _) rfl | refine ⟨_,_,rfl,?_,?_⟩)) rfl rfl (by repeat' (first | exact trivial | exact we_rfl rfl | exact we_bool (hp _ rfl) | exact we_int h1 | exact we_int h2 | exact we_int (congrArg Nat.cast hdl) | exact we_tok (Nat.le_refl _) rfl | refine ⟨⟨_,rfl,?_⟩,?_⟩))) ⟨0,rfl,by omega,by omega⟩ ?_
  rintro j st ⟨e,rfl,he,rfl⟩
  refine br (fun hL=>?_) (fun hL=>?_)
  ·have hlt:e < ks.length:=by have:=hL;simp [Val.ks] at this;exact this
   have hml:(dZs (List.replicate e x.to)).length=e:=by rw [dZs_len,List.length_replicate]
   have hsn:dZs (List.replicate e x.to) ++ [[DV.v (.int .i64 x.to)]]=dZs (List.replicate (e + 1) x.to):=by rw [dZs_snoc,List.replicate_succ']
   refine ⟨_,⟨by omega,hg0⟩,?_⟩
   refine ⟨hml,⟨by rw [hml];simp [maxLen];omega,by rw [hml];simp;omega⟩,?_⟩
   exact ⟨kd5St ⟨kind,at',lo,hi,most,names,es⟩ (.mk q z s ks) (List.replicate (e + 1) x.to) (plainV (.mk q z s ks)) kd mo (e + 1) (e + 1),(weak_b 2 rfl (by repeat' (first | exact rfl | exact we_rfl rfl | exact we_int (nxt hlt (by omega)) | exact we_sl hsn rfl | refine ⟨_,_,rfl,?_,?_⟩)) rfl rfl rfl (by repeat' (first | exact trivial | exact we_rfl rfl | exact we_int (nxt hlt (by omega)) | exact we_sl hsn rfl | refine ⟨⟨_,rfl,?_⟩,?_⟩))),ks.length - (e + 1),by omega,e + 1,rfl,by omega,rfl⟩
  ·have hge:e=ks.length:=by have:=hL;simp [Val.ks] at this;omega
   subst hge
   have hkl2:kidsL ⟨kind,at',lo,hi,most,names,es⟩ (.mk q z s ks)=List.replicate ks.length x.to:=by unfold kidsL;rw [if_pos c56,ht0];rfl
   have hml:(dZs (List.replicate ks.length x.to)).length=ks.length:=by rw [dZs_len,List.length_replicate]
   have hB:pickB (pickB (plainV (.mk q z s ks)) (decide (q=kd)) false) (decide (((dZs (List.replicate ks.length x.to)).length:Int)≤mo)) false=kidsB ⟨kind,at',lo,hi,most,names,es⟩ (.mk q z s ks):=by
    rw [hml,h3,h4,pickB_and,pickB_and]
    unfold kidsB
    rw [if_pos c56]
    rfl
   rw [hkl2]
   exact ⟨_,(by repeat' (first | exact rfl | exact trivial | exact Or.inr (Or.inl ⟨_,rfl⟩) | exact Or.inr ⟨_,rfl⟩ | exact Or.inl ⟨rfl,rfl⟩ | exact Or.inl rfl | refine Or.inr ⟨_,_,rfl,Nat.zero_le _,rfl,?_⟩ | refine ⟨_,_,rfl,?_,?_⟩ | refine ⟨_,rfl,?_⟩ | exact congrArg (fun b=>DV.v (.bool b)) hB | refine Or.inr (Or.inr (Or.inr ⟨_,_,rfl,?_⟩)) | exact Or.inl rfl | refine Or.inr ?_)),rfl⟩
 have c6:¬ kind=6:=by simpa using c
 obtain ⟨hm64,hm8,_,_⟩:=hmany (by omega)
 refine br (fun c=>?_) (fun c=>?_)
 ·have c7:kind=7:=by simpa using c
  refine loop_i (fun j st=>∃ e:Nat,st=kd7St ⟨kind,at',lo,hi,most,names,es⟩ (.mk q z s ks) ((es.take e).map Ed.to) (plainV (.mk q z s ks)) e e∧e≤es.length∧j=es.length - e) es.length (kd7St ⟨kind,at',lo,hi,most,names,es⟩ (.mk q z s ks) [] (plainV (.mk q z s ks)) 0 0) (weak_bt 2 ⟨0,3,1,none⟩ rfl rfl rfl (by repeat' (first | exact rfl | exact we_rfl rfl | exact we_bool (hp _ rfl) | exact we_tok (Nat.le_refl _) rfl | exact we_tok (Nat.le_refl _) rfl | refine ⟨_,_,rfl,?_,?_⟩)) rfl rfl (by repeat' (first | exact trivial | exact we_rfl rfl | exact we_bool (hp _ rfl) | exact we_tok (Nat.le_refl _) rfl | refine ⟨⟨_,rfl,?_⟩,?_⟩))) ⟨0,rfl,by omega,by omega⟩ ?_
  rintro j st ⟨e,rfl,he,rfl⟩
  refine br (fun hL=>?_) (fun hL=>?_)
  ·have hlt:e < es.length:=by have:=hL;simp [hel] at this;exact this
   obtain ⟨x,hx⟩:∃ x,es[e]? = some x:=⟨_,List.getElem?_eq_getElem hlt⟩
   have hml:(dZs ((es.take e).map Ed.to)).length=e:=by rw [dZs_len,List.length_map,List.length_take];omega
   have hsn:dZs ((es.take e).map Ed.to) ++ [[DV.v (.int .i64 x.to)]]=dZs ((es.take (e + 1)).map Ed.to):=by rw [dZs_snoc,take_snoc hx,List.map_append];rfl
   refine ⟨_,⟨by omega,dEds_get hx⟩,?_⟩
   refine ⟨hml,⟨by rw [hml];simp [maxLen];omega,by rw [hml];simp;omega⟩,?_⟩
   exact ⟨kd7St ⟨kind,at',lo,hi,most,names,es⟩ (.mk q z s ks) ((es.take (e + 1)).map Ed.to) (plainV (.mk q z s ks)) (e + 1) (e + 1),(weak_b 2 rfl (by repeat' (first | exact rfl | exact we_rfl rfl | exact we_int (nxt hlt (by omega)) | exact we_sl hsn rfl | refine ⟨_,_,rfl,?_,?_⟩)) rfl rfl rfl (by repeat' (first | exact trivial | exact we_rfl rfl | exact we_int (nxt hlt (by omega)) | exact we_sl hsn rfl | refine ⟨⟨_,rfl,?_⟩,?_⟩))),es.length - (e + 1),by omega,e + 1,rfl,by omega,rfl⟩
  ·have hge:e=es.length:=by have:=hL;simp [hel] at this;omega
   subst hge
   rw [List.take_length]
   have hkl2:kidsL ⟨kind,at',lo,hi,most,names,es⟩ (.mk q z s ks)=es.map Ed.to:=by unfold kidsL;rw [if_neg (by simp only;omega),if_pos c7]
   have hml:(dZs (es.map Ed.to)).length=es.length:=by rw [dZs_len,List.length_map]
   have hB:pickB (pickB (plainV (.mk q z s ks)) (decide (q=7)) false) (decide (((dZs (es.map Ed.to)).length:Int)=((dVals ks).length:Int))) false=kidsB ⟨kind,at',lo,hi,most,names,es⟩ (.mk q z s ks):=by
    rw [hml,hdl,pickB_and,pickB_and]
    unfold kidsB
    rw [if_neg (by simp only;omega),if_pos c7]
    have:((es.length:Int)=(ks.length:Int))↔es.length=ks.length:=by omega
    simp only [this,Val.k,Val.ks]
    rfl
   rw [hkl2]
   refine drawG_i (fun _=>false) mo (by decide +kernel) ?_
   exact ⟨_,(by repeat' (first | exact rfl | exact trivial | exact Or.inr (Or.inl ⟨_,rfl⟩) | exact Or.inr ⟨_,rfl⟩ | exact Or.inl ⟨rfl,rfl⟩ | exact Or.inl rfl | refine Or.inr ⟨_,_,rfl,Nat.zero_le _,rfl,?_⟩ | refine ⟨_,_,rfl,?_,?_⟩ | refine ⟨_,rfl,?_⟩ | exact congrArg (fun b=>DV.v (.bool b)) hB | refine Or.inr (Or.inr (Or.inr ⟨_,_,rfl,?_⟩)) | exact Or.inl rfl | refine Or.inr ?_)),rfl⟩
 have c7:¬ kind=7:=by simpa using c
 have hkl2:kidsL ⟨kind,at',lo,hi,most,names,es⟩ (.mk q z s ks)=(match tagE ⟨kind,at',lo,hi,most,names,es⟩ (.mk q z s ks) with | none=>[] | some e=>if e.bare=true then [] else [e.to]):=by unfold kidsL;rw [if_neg (by simp only;omega),if_neg c7];rfl
 have hkb2:kidsB ⟨kind,at',lo,hi,most,names,es⟩ (.mk q z s ks)=(match tagE ⟨kind,at',lo,hi,most,names,es⟩ (.mk q z s ks) with | none=>false | some _=>plainV (.mk q z s ks) && decide ((kidsL ⟨kind,at',lo,hi,most,names,es⟩ (.mk q z s ks)).length=ks.length)):=by unfold kidsB;rw [if_neg (by simp only;omega),if_neg c7];rfl
 have hc:∀ b:Bool,b=pickB (pickB (!decide (q=8)) true (decide (z < 0))) true (decide (((dEds es).length:Int)≤z))→b = !decide (q=8∧0≤z∧z < es.length):=fun b h=>by
  rw [h,hel,pickB_or,pickB_or,Bool.eq_iff_iff]
  simp
  omega
 refine br (fun c=>?_) (fun c=>?_)
 ·have c:¬ (q=8∧0≤z∧z < es.length):=by have:=(hc _ rfl).symm.trans c;simpa only [Bool.not_eq_true',decide_eq_false_iff_not] using this
  have ht:tagE ⟨kind,at',lo,hi,most,names,es⟩ (.mk q z s ks)=none:=by show (if q=8∧0≤z∧z < es.length then es[z.toNat]? else none)=_;rw [if_neg c]
  rw [hkb2,hkl2,ht]
  exact ⟨_,ax,rfl⟩
 ·have c:q=8∧0≤z∧z < es.length:=by have:=(hc _ rfl).symm.trans c;simpa only [Bool.not_eq_false',decide_eq_true_eq] using this
  obtain ⟨x,hx⟩:∃ x,es[z.toNat]? = some x:=⟨_,List.getElem?_eq_getElem (by omega)⟩
  have ht:tagE ⟨kind,at',lo,hi,most,names,es⟩ (.mk q z s ks)=some x:=by show (if q=8∧0≤z∧z < es.length then es[z.toNat]? else none)=_;rw [if_pos c];exact hx
  rw [ht] at hkb2 hkl2
  refine ⟨_,⟨by omega,dEds_get hx⟩,?_⟩
  refine br (fun hb=>?_) (fun hb=>?_)
  ·have hb:x.bare=false:=by simpa using hb
   have hkl3:kidsL ⟨kind,at',lo,hi,most,names,es⟩ (.mk q z s ks)=[x.to]:=by rw [hkl2];simp [hb]
   have hB:pickB (plainV (.mk q z s ks)) (decide ((1:Int)=((dVals ks).length:Int))) false=kidsB ⟨kind,at',lo,hi,most,names,es⟩ (.mk q z s ks):=by
    rw [hkb2,hkl3,hdl,pickB_and]
    have:((1:Int)=(ks.length:Int)) ↔ [x.to].length=ks.length:=by simp;omega
    simp only [this]
   rw [hkl3,← hB]
   refine ⟨⟨by simp [maxLen],by simp⟩,?_⟩
   refine drawG_i (fun _=>false) mo (by decide +kernel) ?_
   exact ⟨_,(by repeat' (first | exact rfl | exact trivial | exact Or.inr (Or.inl ⟨_,rfl⟩) | exact Or.inr ⟨_,rfl⟩ | exact Or.inl ⟨rfl,rfl⟩ | exact Or.inl rfl | refine Or.inr ⟨_,_,rfl,Nat.zero_le _,rfl,?_⟩ | refine ⟨_,_,rfl,?_,?_⟩ | refine ⟨_,rfl,?_⟩ | exact congrArg (fun b=>DV.v (.bool (pickB b _ false))) (hp _ rfl) | refine Or.inr (Or.inr (Or.inr ⟨_,_,rfl,?_⟩)) | exact Or.inl rfl | refine Or.inr ?_)),rfl⟩
  ·have hb:x.bare=true:=by simpa using hb
   have hkl3:kidsL ⟨kind,at',lo,hi,most,names,es⟩ (.mk q z s ks)=[]:=by rw [hkl2];simp [hb]
   have hB:pickB (plainV (.mk q z s ks)) (decide ((0:Int)=((dVals ks).length:Int))) false=kidsB ⟨kind,at',lo,hi,most,names,es⟩ (.mk q z s ks):=by
    rw [hkb2,hkl3,hdl,pickB_and]
    have:((0:Int)=(ks.length:Int))↔([]:List Int).length=ks.length:=by simp;omega
    simp only [this]
   rw [hkl3,← hB]
   refine drawG_i (fun _=>false) mo (by decide +kernel) ?_
   exact ⟨_,(by repeat' (first | exact rfl | exact trivial | exact Or.inr (Or.inl ⟨_,rfl⟩) | exact Or.inr ⟨_,rfl⟩ | exact Or.inl ⟨rfl,rfl⟩ | exact Or.inl rfl | refine Or.inr ⟨_,_,rfl,Nat.zero_le _,rfl,?_⟩ | refine ⟨_,_,rfl,?_,?_⟩ | refine ⟨_,rfl,?_⟩ | exact congrArg (fun b=>DV.v (.bool (pickB b _ false))) (hp _ rfl) | refine Or.inr (Or.inr (Or.inr ⟨_,_,rfl,?_⟩)) | exact Or.inl rfl | refine Or.inr ?_)),rfl⟩
end Go.Proofs.YtmphiikdhifhjaaGreat
set_option maxRecDepth 100000
namespace Go.Proofs.YtmphiikdhifhjaaGreat
open Go Go.RowKit Dv Tryz
theorem kidsB_len {n:Nd} {v:Val} (hk:5≤n.kind) (h:kidsB n v=true):(kidsL n v).length=v.ks.length:=by
 unfold kidsB at h
 by_cases c:n.kind=5∨n.kind=6
 ·unfold kidsL;rw [if_pos c];simp
 rw [if_neg c] at h
 by_cases c7:n.kind=7
 ·rw [if_pos c7] at h
  unfold kidsL;rw [if_neg c,if_pos c7,List.length_map]
  simp at h;exact h.2
 rw [if_neg c7] at h
 cases ht:tagE n v with
 | none=>rw [ht] at h;cases h
 | some e=>rw [ht] at h;simp only [Bool.and_eq_true,decide_eq_true_eq] at h;exact h.2
theorem fitVs_drop {ND:List Nd} {ks:List Val} {l:List Int} {e:Nat} {x:Val} {i:Int} (h1:ks[e]? = some x) (h2:l[e]? = some i):fitVs ND (ks.drop e) (l.drop e)=(fitV ND x i && fitVs ND (ks.drop (e + 1)) (l.drop (e + 1))):=by
 rw [drop_cons h1,drop_cons h2,fitVs]
theorem nodeA_some {ND:List Nd} {i:Int} {d:Nd} (h:nodeA ND i=some d):0≤i∧ND[i.toNat]? = some d:=by
 unfold nodeA at h
 split at h
 ·cases h
 ·exact ⟨by omega,h⟩
theorem nodeA_none {ND:List Nd} {i:Int} (h:nodeA ND i=none):i < 0∨(ND.length:Int)≤i:=by
 unfold nodeA at h
 split at h
 ·left;assumption
 ·right
  have:=List.getElem?_eq_none_iff.1 h
  omega
abbrev tfSt (PC:List DV) (v:Val) (l:List Int) (e:Nat):St:=
 ⟨[(0,⟨[],.pt PC 0⟩),(5,⟨[],.loc 0 0⟩),(36,⟨[],.sl 1 (dZs l) none⟩),(37,⟨[],.v (.int .i64 l.length)⟩),(38,⟨[],.v (.int .i64 e)⟩)],[dVal v],[]⟩
theorem tfits_spec {S:Sch} {ND:List Nd} {PC:List DV} (hP:PlanR S ND PC):∀ (k:Nat) (v:Val),v.wt≤k→v.wt≤1099511627776→∀ i:Int,EvP Tryz.prog 55 [.pt PC 0,.v (.int .i64 i),.agg (dVal v)] (.v (.bool (fitV ND v i)))
 | 0,v,h,_=>by have:=v.wt_pos;omega
 | k + 1,.mk q z s ks,h,hb=>fun i=>by
  have ih:=tfits_spec hP k
  have hkl:=wtVs_len ks
  have hdl:=dVals_len ks
  have hb':=hb
  rw [Val.wt] at h hb
  rw [fitV]
  have hnode:=hP.node
  have hnodeN:=hP.nodeN
  have hok:=hP.ok
  cases hd:nodeA ND i with
  | none=>
   refine ev_go (P:=Tryz.prog) tt tt_ok 5000 53 [.tmp 6] Tryz.func55 rfl Tryz.ntmps55 rfl (Nat.le_of_ble_eq_true rfl) (fun E9 w9 hn9 hm9=>?_)
   refine call_p en32 (hnodeN i (nodeA_none hd)) ax rfl ?_
   exact (rfl:_=_)
  | some d=>
   obtain ⟨h0,hg⟩:=nodeA_some hd
   obtain ⟨j,rfl⟩:∃ j:Nat,i=j:=⟨i.toNat,by omega⟩
   have hg:ND[j]? = some d:=by simpa using hg
   have hN:=hok d (List.mem_of_getElem? hg)
   have hlf:=leaf_spec d (.mk q z s ks)
   have hkd:=fun h5=>kids_spec hN h5 (.mk q z s ks) hb'
   have hlen:=fun h5=>kidsB_len (n:=d) (v:=.mk q z s ks) h5
   simp only
   obtain ⟨kind,at',lo,hi,most,names,es⟩:=d
   simp only at hkd hlen
   refine ev_go (P:=Tryz.prog) tt tt_ok 5000 53 [.tmp 6] Tryz.func55 rfl Tryz.ntmps55 rfl (Nat.le_of_ble_eq_true rfl) (fun E9 w9 hn9 hm9=>?_)
   refine call_p en32 (hnode j _ hg) ax rfl ?_
   refine br (fun c=>?_) (fun c=>?_)
   ·have c:kind < 5:=by simpa using c
    rw [if_pos c]
    refine call_p en111 (hlf) ax rfl ?_
    exact (rfl:_=_)
   have c:¬ kind < 5:=by simpa using c
   rw [if_neg c]
   have hkd:=hkd (by omega)
   have hlen:=hlen (by omega)
   generalize kidsL ⟨kind,at',lo,hi,most,names,es⟩ (.mk q z s ks)=l at hkd hlen ⊢
   have hzl:=dZs_len l
   refine call_p en112 (hkd) ax rfl ?_
   cases hB:kidsB ⟨kind,at',lo,hi,most,names,es⟩ (.mk q z s ks) with
   | false=>
    exact (rfl:_=_)
   | true=>
    have hlen:l.length=ks.length:=hlen hB
    rw [Bool.true_and]
    refine loop_i (fun j st=>∃ e:Nat,st=tfSt PC (.mk q z s ks) l e∧e≤l.length∧fitVs ND ks l=fitVs ND (ks.drop e) (l.drop e)∧j=l.length - e) l.length (tfSt PC (.mk q z s ks) l 0) (weak_mk ⟨_,rfl⟩ wA rfl rfl rfl (by repeat' (first | exact trivial | exact we_rfl rfl | exact we_int (congrArg Nat.cast hzl) | refine ⟨⟨_,rfl,?_⟩,?_⟩))) ⟨0,rfl,by omega,rfl,by omega⟩ ?_
    rintro _ st ⟨e,rfl,he,heq,rfl⟩
    refine br (fun hL=>?_) (fun hL=>?_)
    ·have hlt:e < l.length:=by have:=hL;simp at this;exact this
     obtain ⟨x,hx⟩:∃ x,ks[e]? = some x:=⟨_,List.getElem?_eq_getElem (by omega)⟩
     obtain ⟨y,hy⟩:∃ y,l[e]? = some y:=⟨_,List.getElem?_eq_getElem hlt⟩
     have hxw:=wtVs_mem (List.mem_of_getElem? hx)
     rw [fitVs_drop hx hy] at heq
     have hi':=ih x (by omega) (by omega) y
     obtain ⟨xk,xn,xs,xl⟩:=x
     refine ⟨_,⟨by omega,dZs_get hy⟩,?_⟩
     refine ⟨_,⟨by omega,dVals_get hx⟩,?_⟩
     refine call_p en55 (hi') ax rfl ?_
     refine br (fun g=>?_) (fun g=>?_)
     ·have g:fitV ND (.mk xk xn xs xl) y=false:=by simpa using g
      rw [heq,g]
      exact (rfl:_=_)
     ·have g:fitV ND (.mk xk xn xs xl) y=true:=by simpa using g
      rw [g,Bool.true_and] at heq
      exact ⟨tfSt PC (.mk q z s ks) l (e + 1),(weak_mk ⟨_,rfl⟩ wA rfl rfl rfl (by repeat' (first | exact trivial | exact we_rfl rfl | exact we_int (nxt hlt (by omega)) | refine ⟨⟨_,rfl,?_⟩,?_⟩))),l.length - (e + 1),by omega,e + 1,rfl,by omega,heq,rfl⟩
    ·have hge:e=l.length:=by have:=hL;simp at this;omega
     rw [List.drop_of_length_le (by omega),List.drop_of_length_le (by omega)] at heq
     rw [heq]
     exact (rfl:_=_)
theorem tfits_nil (v:Val) (i:Int):EvP Tryz.prog 55 [.v (.pointer none),.v (.int .i64 i),.agg (dVal v)] (.v (.bool false)):=by
 obtain ⟨q,z,s,ks⟩:=v
 refine ev_go (P:=Tryz.prog) tt tt_ok 5000 53 [.tmp 6] Tryz.func55 rfl Tryz.ntmps55 rfl (Nat.le_of_ble_eq_true rfl) (fun E9 w9 hn9 hm9=>?_)
 refine call_p en32 (pnode_nil i) ax rfl ?_
 exact (rfl:_=_)
theorem to25_spec {L N:Nat} {n:Nd} (hn:NdOK L N n) (v:Val) (j:Nat):EvP Tryz.prog 110 [.agg (dNd n),.agg (dVal v),.v (.int .i64 j)] (.v (.int .i64 (toR n v j))):=by
 have hone:=hn.one
 obtain ⟨kind,at',lo,hi,most,names,es⟩:=n
 obtain ⟨q,z,s,ks⟩:=v
 have hel:=dEds_len es
 simp only at hone
 have hF:toR ⟨kind,at',lo,hi,most,names,es⟩ (.mk q z s ks) j=if kind=5 then (if (j:Int) < most then to0 ⟨kind,at',lo,hi,most,names,es⟩ else -1)
  else if kind=6 then (if j < 1 then to0 ⟨kind,at',lo,hi,most,names,es⟩ else -1)
  else if kind=7 then (match es[j]? with | some e=>e.to | none=>-1)
  else if kind=8 then (if j < 1∧0≤z∧z < es.length then (match es[z.toNat]? with | some e=>e.to | none=>-1) else -1)
  else -1:=rfl
 rw [hF]
 refine ev_go (P:=Tryz.prog) tt tt_ok 5000 66 [.tmp 6] Tryz.func110 rfl Tryz.ntmps110 rfl (Nat.le_of_ble_eq_true rfl) (fun E9 w9 hn9 hm9=>?_)
 refine br (fun c=>?_) (fun c=>?_)
 ·have c:kind=5:=by simpa using c
  rw [if_pos c]
  obtain ⟨x,hes,_,_⟩:=hone (.inl c)
  have hg0:(dEds es)[0]? = some (dEd x):=by rw [hes];rfl
  have ht0:to0 ⟨kind,at',lo,hi,most,names,es⟩=x.to:=by simp [to0,hes]
  refine br (fun g=>?_) (fun g=>?_)
  ·have g:(j:Int) < most:=by simpa using g
   rw [if_pos g,ht0]
   refine ⟨_,⟨by omega,hg0⟩,?_⟩
   exact (rfl:_=_)
  ·have g:¬ (j:Int) < most:=by simpa using g
   rw [if_neg g]
   exact (rfl:_=_)
 have c5:¬ kind=5:=by simpa using c
 rw [if_neg c5]
 refine br (fun c=>?_) (fun c=>?_)
 ·have c:kind=6:=by simpa using c
  rw [if_pos c]
  obtain ⟨x,hes,_,_⟩:=hone (.inr c)
  have hg0:(dEds es)[0]? = some (dEd x):=by rw [hes];rfl
  have ht0:to0 ⟨kind,at',lo,hi,most,names,es⟩=x.to:=by simp [to0,hes]
  refine br (fun g=>?_) (fun g=>?_)
  ·have g:j < 1:=by have:=g;simp at this;omega
   rw [if_pos g,ht0]
   refine ⟨_,⟨by omega,hg0⟩,?_⟩
   exact (rfl:_=_)
  ·have g:¬ j < 1:=by have:=g;simp at this;omega
   rw [if_neg g]
   exact (rfl:_=_)
 have c6:¬ kind=6:=by simpa using c
 rw [if_neg c6]
 refine br (fun c=>?_) (fun c=>?_)
 ·have c:kind=7:=by simpa using c
  rw [if_pos c]
  refine br (fun g=>?_) (fun g=>?_)
  ·have g:j < es.length:=by have:=g;simp [hel] at this;exact this
   obtain ⟨x,hx⟩:∃ x,es[j]? = some x:=⟨_,List.getElem?_eq_getElem g⟩
   refine ⟨_,⟨by omega,dEds_get hx⟩,?_⟩
   rw [hx]
   exact (rfl:_=_)
  ·have g:es.length≤j:=by have:=g;simp [hel] at this;omega
   rw [List.getElem?_eq_none g]
   exact (rfl:_=_)
 have c7:¬ kind=7:=by simpa using c
 rw [if_neg c7]
 refine br (fun c=>?_) (fun c=>?_)
 ·have c:kind=8:=by simpa using c
  rw [if_pos c]
  have hc:∀ b:Bool,b=pickB (pickB (decide ((j:Int) < 1)) (decide (0≤z)) false) (decide (z < ((dEds es).length:Int))) false→b=decide (j < 1∧0≤z∧z < es.length):=fun b h=>by
   rw [h,hel,pickB_and,pickB_and,Bool.eq_iff_iff]
   simp
   omega
  refine br (fun g=>?_) (fun g=>?_)
  ·have g:=of_decide_eq_true ((hc _ rfl).symm.trans g)
   obtain ⟨x,hx⟩:∃ x,es[z.toNat]? = some x:=⟨_,List.getElem?_eq_getElem (by omega)⟩
   rw [if_pos g,hx]
   refine ⟨_,⟨by omega,dEds_get hx⟩,?_⟩
   exact (rfl:_=_)
  ·have g:=of_decide_eq_false ((hc _ rfl).symm.trans g)
   rw [if_neg g]
   exact (rfl:_=_)
 ·have c8:¬ kind=8:=by simpa using c
  rw [if_neg c8]
  exact (rfl:_=_)
end Go.Proofs.YtmphiikdhifhjaaGreat
set_option maxRecDepth 100000
namespace Go.Proofs.YtmphiikdhifhjaaGreat
open Go Go.RowKit Dv Tryz
inductive Rw where
 | mk (k at' n:Int) (s:ByteArray) (keys:List Wd) (ks:List Rw)
mutual
def dRw:Rw→List DV
 | .mk k a n s keys ks=>[.v (.int .i64 k),.v (.int .i64 a),.v (.int .i64 n),.v (.string s),.sl 2 (dWds keys) none,.sl 6 (dRws ks) none]
def dRws:List Rw→List (List DV)
 | []=>[]
 | v :: r=>dRw v :: dRws r
end
theorem dRws_map:∀ l:List Rw,dRws l=l.map dRw
 | []=>rfl
 | v :: r=>by rw [dRws,dRws_map r];rfl
theorem dRws_len (l:List Rw):(dRws l).length=l.length:=by rw [dRws_map,List.length_map]
theorem dRws_get {l:List Rw} {e:Nat} {x:Rw} (h:l[e]? = some x):(dRws l)[e]? = some (dRw x):=by rw [dRws_map,List.getElem?_map,h];rfl
theorem dRws_snoc (l:List Rw) (x:Rw):dRws l ++ [dRw x]=dRws (l ++ [x]):=by rw [dRws_map,dRws_map];simp
mutual
def cntR:Rw→Nat
 | .mk _ _ _ _ _ ks=>1 + cntRs ks
def cntRs:List Rw→Nat
 | []=>0
 | v :: r=>cntR v + cntRs r
end
theorem cntR_pos:∀ r:Rw,1≤cntR r
 | .mk _ _ _ _ _ _=>by rw [cntR];omega
theorem cntRs_mem:∀ {l:List Rw} {x:Rw},x∈l→cntR x≤cntRs l
 | v :: r,x,h=>by
  rcases List.mem_cons.1 h with rfl | h
  ·rw [cntRs];omega
  ·have:=cntRs_mem h;rw [cntRs];omega
theorem cntRs_len:∀ l:List Rw,l.length≤cntRs l
 | []=>Nat.le_refl _
 | v :: r=>by
  have:=cntRs_len r
  have:=cntR_pos v
  rw [cntRs,List.length_cons];omega
def trueB:ByteArray:=⟨#[116,114,117,101]⟩
def falseB:ByteArray:=⟨#[102,97,108,115,101]⟩
def someB:ByteArray:=⟨#[115,111,109,101]⟩
def noneB:ByteArray:=⟨#[110,111,110,101]⟩
def tagN (d:Nd) (v:Val):ByteArray:=match tagE d v with | some e=>e.name | none=>emptyB
def wrF (d:Nd) (v:Val) (rs:List Rw):Rw:=
 if v.k=1 then .mk 1 0 0 (if v.n=1 then trueB else falseB) [] []
 else if v.k=2 then .mk 2 0 v.n emptyB [] []
 else if v.k=3 then .mk 3 0 0 v.s [] []
 else if v.k=4 then .mk 1 0 0 (d.names[v.n.toNat]?.getD emptyB) [] []
 else if v.k=5 then .mk 4 0 0 emptyB [] rs
 else if v.k=7 then .mk 5 0 0 emptyB (d.edges.map fun e=>⟨e.name,0⟩) rs
 else .mk (if 0 < v.ks.length then 6 else 1) 0 0 (if v.k=8 then tagN d v else if 0 < v.ks.length then someB else noneB) [] rs
mutual
def rawV (ND:List Nd):Val→Int→Rw
 | .mk k n s ks,i=>match nodeA ND i with
  | none=>.mk 0 0 0 emptyB [] []
  | some d=>wrF d (.mk k n s ks) (rawVs ND ks (kidsL d (.mk k n s ks)))
def rawVs (ND:List Nd):List Val→List Int→List Rw
 | v :: r,i :: l=>rawV ND v i :: rawVs ND r l
 | _,_=>[]
end
theorem rawVs_len (ND:List Nd):∀ (ks:List Val) (l:List Int),l.length=ks.length→(rawVs ND ks l).length=ks.length
 | [],[],_=>rfl
 | v :: r,i :: l,h=>by rw [rawVs,List.length_cons,rawVs_len ND r l (by simpa using h)];rfl
 | [],_ :: _,h=>by simp at h
 | _ :: _,[],h=>by simp at h
theorem rawVs_snoc {ND:List Nd}:∀ {ks:List Val} {l:List Int} {e:Nat} {x:Val} {i:Int},ks[e]? = some x→l[e]? = some i→rawVs ND (ks.take (e + 1)) (l.take (e + 1))=rawVs ND (ks.take e) (l.take e) ++ [rawV ND x i]
 | [],_,e,x,i,h,_=>by simp at h
 | _ :: _,[],e,x,i,_,h=>by simp at h
 | v :: r,j :: l,0,x,i,h1,h2=>by
  simp only [List.getElem?_cons_zero,Option.some.injEq] at h1 h2
  subst h1 h2
  simp [rawVs]
 | v :: r,j :: l,e + 1,x,i,h1,h2=>by
  simp only [List.getElem?_cons_succ] at h1 h2
  simp only [List.take_succ_cons,rawVs,List.cons_append]
  rw [rawVs_snoc h1 h2]
mutual
theorem cntR_raw {L:Nat} {ND:List Nd}:∀ (v:Val) (i:Int),cntR (rawV ND v i)≤v.wt
 | .mk k n s ks,i=>by
  rw [rawV,Val.wt]
  split
  ·simp [cntR,cntRs];omega
  ·rename_i d _
   have:=cntRs_raw (L:=L) (ND:=ND) ks (kidsL d (.mk k n s ks))
   unfold wrF
   repeat' split
   all_goals simp [cntR,cntRs];omega
theorem cntRs_raw {L:Nat} {ND:List Nd}:∀ (ks:List Val) (l:List Int),cntRs (rawVs ND ks l)≤wtVs ks
 | v :: r,i :: l=>by
  have h1:=cntR_raw (L:=L) (ND:=ND) v i
  have h2:=cntRs_raw (L:=L) (ND:=ND) r l
  rw [rawVs,cntRs,wtVs];omega
 | [],_=>by simp [rawVs,cntRs]
 | _ :: _,[]=>by simp [rawVs,cntRs]
end
structure FitF (ND:List Nd) (v:Val) (i:Int) (d:Nd):Prop where
 node:nodeA ND i=some d
 k:v.k=d.kind
 leaf:d.kind < 5→v.ks=[]
 enum:d.kind=4→0≤v.n∧v.n < d.names.length
 kids:5≤d.kind→(kidsL d v).length=v.ks.length∧fitVs ND v.ks (kidsL d v)=true
 tag:d.kind=8→∃ e,tagE d v=some e∧d.edges[v.n.toNat]? = some e∧0≤v.n∧v.n < d.edges.length∧(e.bare=true↔v.ks=[])
 opt:d.kind=6→v.ks.length≤1
theorem fit_facts {L:Nat} {ND:List Nd} (hok:∀ n∈ND,NdOK L ND.length n) {v:Val} {i:Int} (h:fitV ND v i=true):∃ d,FitF ND v i d:=by
 obtain ⟨k,n,s,ks⟩:=v
 rw [fitV] at h
 cases hd:nodeA ND i with
 | none=>rw [hd] at h;cases h
 | some d=>
  rw [hd] at h
  simp only at h
  have hN:=hok d (List.mem_of_getElem? (nodeA_some hd).2)
  have hk1:=hN.k1
  have hk8:=hN.k8
  by_cases h5:d.kind < 5
  ·rw [if_pos h5] at h
   unfold leafF at h
   by_cases hc:0 < (Val.mk k n s ks).ks.length∨((Val.mk k n s ks).k≠3∧(Val.mk k n s ks).s≠emptyB)∨((Val.mk k n s ks).k=3∧(Val.mk k n s ks).n≠0)
   ·rw [if_pos hc] at h;cases h
   rw [if_neg hc] at h
   have hnil:ks=[]:=by
    cases ks with
    | nil=>rfl
    | cons a b=>exact (hc (.inl (by simp [Val.ks]))).elim
   have hk:k=d.kind∧(d.kind=4→0≤n∧n < d.names.length):=by
    rcases (show d.kind=1∨d.kind=2∨d.kind=3∨d.kind=4 by omega) with c | c | c | c
    all_goals
     simp [c,Val.k,Val.n] at h
     simp only [c]
     constructor
     ·first | exact of_decide_eq_true h.1 | exact of_decide_eq_true h.1.1
     ·first | (intro;omega) | exact fun _=>⟨of_decide_eq_true h.1.2,of_decide_eq_true h.2⟩
   exact ⟨d,{ node:=hd,k:=hk.1,leaf:=fun _=>hnil,enum:=hk.2,kids:=fun h=>by omega,tag:=fun h=>by omega,opt:=fun h=>by omega }⟩
  ·rw [if_neg h5,Bool.and_eq_true] at h
   obtain ⟨hB,hf⟩:=h
   have hlen:=kidsB_len (by omega) hB
   have hB2:=hB
   unfold kidsB at hB
   by_cases c:d.kind=5∨d.kind=6
   ·rw [if_pos c] at hB
    simp only [Bool.and_eq_true,decide_eq_true_eq] at hB
    exact ⟨d,{ node:=hd,k:=hB.1.2,leaf:=fun h=>by omega,enum:=fun h=>by omega,kids:=fun _=>⟨hlen,hf⟩,tag:=fun h=>by omega,opt:=fun h=>by have:=hB.2;rw [if_pos h] at this;omega }⟩
   rw [if_neg c] at hB
   by_cases c7:d.kind=7
   ·rw [if_pos c7] at hB
    simp only [Bool.and_eq_true,decide_eq_true_eq] at hB
    exact ⟨d,{ node:=hd,k:=by rw [c7];exact hB.1.2,leaf:=fun h=>by omega,enum:=fun h=>by omega,kids:=fun _=>⟨hlen,hf⟩,tag:=fun h=>by omega,opt:=fun h=>by omega }⟩
   rw [if_neg c7] at hB
   cases ht:tagE d (.mk k n s ks) with
   | none=>rw [ht] at hB;cases hB
   | some e=>
    have ht2:=ht
    unfold tagE at ht2
    split at ht2
    ·rename_i hr
     have hkl:kidsL d (.mk k n s ks)=if e.bare=true then [] else [e.to]:=by unfold kidsL;rw [if_neg c,if_neg c7,ht]
     refine ⟨d,{ node:=hd,k:=by have:=hr.1;omega,leaf:=fun h=>by omega,enum:=fun h=>by omega,kids:=fun _=>⟨hlen,hf⟩,tag:=fun _=>⟨e,ht,ht2,hr.2.1,hr.2.2,?_⟩,opt:=fun h=>by omega }⟩
     rw [hkl] at hlen
     constructor
     ·intro hb
      rw [if_pos hb] at hlen
      exact List.eq_nil_of_length_eq_zero hlen.symm
     ·intro hnil
      rw [hnil] at hlen
      cases hb:e.bare
      ·rw [hb] at hlen;simp at hlen
      ·rfl
    ·cases ht2
theorem fitVs_at {ND:List Nd}:∀ {ks:List Val} {l:List Int} {e:Nat} {x:Val} {i:Int},fitVs ND ks l=true→ks[e]? = some x→l[e]? = some i→fitV ND x i=true
 | [],_,e,x,i,_,h,_=>by simp at h
 | _ :: _,[],e,x,i,_,_,h=>by simp at h
 | v :: r,j :: l,0,x,i,h,h1,h2=>by
  simp only [List.getElem?_cons_zero,Option.some.injEq] at h1 h2
  subst h1 h2
  rw [fitVs,Bool.and_eq_true] at h
  exact h.1
 | v :: r,j :: l,e + 1,x,i,h,h1,h2=>by
  simp only [List.getElem?_cons_succ] at h1 h2
  rw [fitVs,Bool.and_eq_true] at h
  exact fitVs_at h.2 h1 h2
end Go.Proofs.YtmphiikdhifhjaaGreat
set_option maxRecDepth 100000
namespace Go.Proofs.YtmphiikdhifhjaaGreat
open Go Go.RowKit Dv Tryz
theorem truth_spec (z:Int):EvP Tryz.prog 161 [.v (.int .i64 z)] (.v (.string (if z=1 then trueB else falseB))):=by
 refine ev_go (P:=Tryz.prog) tt tt_ok 5000 5 [.tmp 2] Tryz.func161 rfl Tryz.ntmps161 rfl (Nat.le_of_ble_eq_true rfl) (fun E9 w9 hn9 hm9=>?_)
 refine br (fun c=>?_) (fun c=>?_)
 ·have c:z=1:=by simpa using c
  rw [if_pos c]
  exact (rfl:_=_)
 ·have c:¬ z=1:=by simpa using c
  rw [if_neg c]
  exact (rfl:_=_)
abbrev zRw:List DV:=[.v (.int .i64 0),.v (.int .i64 0),.v (.int .i64 0),.v (.string emptyB),.v (.slice none 0 0),.v (.slice none 0 0)]
abbrev oRw (k:Int) (s:ByteArray) (ky kd:DV):List DV:=[.v (.int .i64 k),.v (.int .i64 0),.v (.int .i64 0),.v (.string s),ky,kd]
abbrev wrSt (PC:List DV) (v:Val) (d:Nd) (l:List Int) (rs:List Rw) (q e:Nat):St:=
 ⟨[(0,⟨[],.pt PC 0⟩),(5,⟨[],.loc 0 0⟩),(6,⟨[],.loc 1 0⟩),(7,⟨[],.loc 2 0⟩),(9,⟨[],.sl 1 (dZs l) none⟩),(11,⟨[],.loc 3 0⟩),(58,⟨[],.sl 4 (dVals v.ks) none⟩),(59,⟨[],.v (.int .i64 (dVals v.ks).length)⟩),(60,⟨[],.v (.int .i64 e)⟩)],
  [dVal v,zRw,dNd d,oRw 4 emptyB (.v (.slice none 0 0)) (.sl 6 (dRws rs) (some 0))],[⟨q,91,6,none⟩]⟩
abbrev kySt (v:Val) (d:Nd) (rs:List Rw) (n e:Nat):St:=
 ⟨[(6,⟨[],.loc 1 0⟩),(11,⟨[],.loc 3 0⟩),(87,⟨[],.sl 10 (dEds d.edges) none⟩),(88,⟨[],.v (.int .i64 (dEds d.edges).length)⟩),(89,⟨[],.v (.int .i64 e)⟩)],
  [dVal v,zRw,dNd d,oRw 5 emptyB (.sl 2 (dWds ((d.edges.take e).map fun x=>⟨x.name,0⟩)) (some 1)) (.sl 6 (dRws rs) (some 0))],[⟨n,91,6,none⟩,⟨e,25,2,none⟩]⟩
theorem twrite_spec {S:Sch} {ND:List Nd} {PC:List DV} (hP:PlanR S ND PC):∀ (k:Nat) (v:Val),v.wt≤k→v.wt≤1099511627776→∀ i:Int,fitV ND v i=true→EvP Tryz.prog 109 [.pt PC 0,.v (.int .i64 i),.agg (dVal v)] (.agg (dRw (rawV ND v i)))
 | 0,v,h,_=>by have:=v.wt_pos;omega
 | k + 1,v,h,hb=>fun i hfit=>by
  have ih:=twrite_spec hP k
  obtain ⟨d,hF⟩:=fit_facts hP.ok hfit
  have hraw:rawV ND v i=wrF d v (rawVs ND v.ks (kidsL d v)):=by
   obtain ⟨q,z,s,ks⟩:=v
   rw [rawV,hF.node]
   rfl
  obtain ⟨h0,hg⟩:=nodeA_some hF.node
  obtain ⟨j,rfl⟩:∃ j:Nat,i=j:=⟨i.toNat,by omega⟩
  have hg:ND[j]? = some d:=by simpa using hg
  have hN:=hP.ok d (List.mem_of_getElem? hg)
  have hk1:=hN.k1
  have hk8:=hN.k8
  have hkd:=fun h5=>kids_spec hN h5 v hb
  have hnode:=hP.node j d hg
  have hkk:=hF.k
  have hkids:=hF.kids
  have henum:=hF.enum
  have htag:=hF.tag
  have hopt:=hF.opt
  have hmany:=hN.many
  rw [hraw]
  obtain ⟨q,z,s,ks⟩:=v
  have hkl:=wtVs_len ks
  have hdl:=dVals_len ks
  rw [Val.wt] at h hb
  simp only [Val.k,Val.n,Val.ks] at hkk hkids henum htag hopt
  generalize kidsL d (.mk q z s ks)=l at hkd hkids ⊢
  generalize hB:kidsB d (.mk q z s ks)=kb at hkd
  have hel:=dEds_len d.edges
  have hbl:=dBs_len d.names
  have hwr:wrF d (.mk q z s ks) (rawVs ND ks l)=if q=1 then .mk 1 0 0 (if z=1 then trueB else falseB) [] []
   else if q=2 then .mk 2 0 z emptyB [] []
   else if q=3 then .mk 3 0 0 s [] []
   else if q=4 then .mk 1 0 0 (d.names[z.toNat]?.getD emptyB) [] []
   else if q=5 then .mk 4 0 0 emptyB [] (rawVs ND ks l)
   else if q=7 then .mk 5 0 0 emptyB (d.edges.map fun e=>⟨e.name,0⟩) (rawVs ND ks l)
   else .mk (if 0 < ks.length then 6 else 1) 0 0 (if q=8 then tagN d (.mk q z s ks) else if 0 < ks.length then someB else noneB) [] (rawVs ND ks l):=rfl
  simp only [Val.ks] at *
  rw [hwr]
  generalize hR:rawVs ND ks l=R
  obtain ⟨kind,at',lo,hi,most,names,es⟩:=d
  simp only at hkk hk1 hk8 hkd hkids henum htag hopt hmany hel hbl
  refine ev_go (P:=Tryz.prog) tt tt_ok 5000 127 [.cell 6 91] Tryz.func109 rfl Tryz.ntmps109 rfl (Nat.le_of_ble_eq_true rfl) (fun E9 w9 hn9 hm9=>?_)
  refine call_p en32 (hnode) ax rfl ?_
  refine br (fun c=>?_) (fun c=>?_)
  ·have c:q=1:=by simpa using c
   refine call_p en161 (truth_spec z) ax rfl ?_
   rw [if_pos c]
   exact ⟨_,ax,rfl⟩
  have c1:¬ q=1:=by simpa using c
  rw [if_neg c1]
  refine br (fun c=>?_) (fun c=>?_)
  ·have c:q=2:=by simpa using c
   rw [if_pos c]
   exact ⟨_,ax,rfl⟩
  have c2:¬ q=2:=by simpa using c
  rw [if_neg c2]
  refine br (fun c=>?_) (fun c=>?_)
  ·have c:q=3:=by simpa using c
   rw [if_pos c]
   exact ⟨_,ax,rfl⟩
  have c3:¬ q=3:=by simpa using c
  rw [if_neg c3]
  refine br (fun c=>?_) (fun c=>?_)
  ·have c:q=4:=by simpa using c
   obtain ⟨z0,z1⟩:=henum (by omega)
   obtain ⟨x,hx⟩:∃ x,names[z.toNat]? = some x:=⟨_,List.getElem?_eq_getElem (by omega)⟩
   rw [if_pos c]
   simp only [hx,Option.getD_some]
   refine ⟨_,⟨by omega,dBs_get hx⟩,?_⟩
   exact ⟨_,ax,rfl⟩
  have c4:¬ q=4:=by simpa using c
  rw [if_neg c4]
  obtain ⟨hll,hfs⟩:=hkids (by omega)
  refine call_p en112 (hkd (by omega)) ax rfl ?_
  refine loop_i (fun j st=>∃ e:Nat,st=wrSt PC (.mk q z s ks) ⟨kind,at',lo,hi,most,names,es⟩ l (rawVs ND (ks.take e) (l.take e)) e e∧e≤ks.length∧j=ks.length - e) ks.length (wrSt PC (.mk q z s ks) ⟨kind,at',lo,hi,most,names,es⟩ l [] 0 0) (weak_bt 4 ⟨0,91,6,none⟩ rfl rfl rfl (by repeat' (first | exact rfl | exact we_rfl rfl | exact we_tok (Nat.le_refl _) rfl | exact we_tok (Nat.le_refl _) rfl | refine ⟨_,_,rfl,?_,?_⟩)) rfl rfl (by repeat' (first | exact trivial | exact we_rfl rfl | exact we_tok (Nat.le_refl _) rfl | refine ⟨⟨_,rfl,?_⟩,?_⟩))) ⟨0,rfl,by omega,by omega⟩ ?_
  rintro _ st ⟨e,rfl,he,rfl⟩
  refine br (fun hL=>?_) (fun hL=>?_)
  ·have hlt:e < ks.length:=by simpa [hdl,Val.ks] using hL
   obtain ⟨x,hx⟩:∃ x,ks[e]? = some x:=⟨_,List.getElem?_eq_getElem hlt⟩
   obtain ⟨i',hi'⟩:∃ i',l[e]? = some i':=⟨_,List.getElem?_eq_getElem (by omega)⟩
   have hxw:=wtVs_mem (List.mem_of_getElem? hx)
   have hw:=ih x (by omega) (by omega) i' (fitVs_at hfs hx hi')
   have hsn:=rawVs_snoc (ND:=ND) hx hi'
   generalize rawV ND x i'=r at hw hsn
   obtain ⟨xk,xn,xs,xl⟩:=x
   refine ⟨_,⟨by omega,dVals_get (by simpa [Val.ks] using hx)⟩,?_⟩
   have hRl:(rawVs ND (ks.take e) (l.take e)).length=e:=by
    rw [rawVs_len]
    ·rw [List.length_take];omega
    ·rw [List.length_take,List.length_take];omega
   obtain ⟨rk,ra,rn,rs,rky,rks⟩:=r
   refine drawG_s mo (by decide +kernel) ?_
   refine ⟨_,⟨by omega,dZs_get hi'⟩,?_⟩
   refine callD_p en109 (hw) ax rfl ?_
   refine ⟨by rw [dRws_len,hRl],⟨by rw [dRws_len,hRl];simp [maxLen];omega,by rw [dRws_len,hRl];simp;omega⟩,?_⟩
   exact ⟨wrSt PC (.mk q z s ks) ⟨kind,at',lo,hi,most,names,es⟩ l (rawVs ND (ks.take (e + 1)) (l.take (e + 1))) (e + 1) (e + 1),(weak_b 4 rfl (by repeat' (first | exact rfl | exact we_rfl rfl | exact we_int (nxt hlt (by omega)) | exact we_sl ((dRws_snoc _ _).trans (congrArg dRws hsn.symm)) rfl | refine ⟨_,_,rfl,?_,?_⟩)) rfl rfl rfl (by repeat' (first | exact trivial | exact we_rfl rfl | exact we_int (nxt hlt (by omega)) | exact we_sl ((dRws_snoc _ _).trans (congrArg dRws hsn.symm)) rfl | refine ⟨⟨_,rfl,?_⟩,?_⟩))),ks.length - (e + 1),by omega,e + 1,rfl,by omega,rfl⟩
  ·have hge:e=ks.length:=by
    have:=hL;simp [hdl,Val.ks] at this;omega
   have ht:rawVs ND (ks.take e) (l.take e)=R:=by rw [hge,List.take_length,← hll,List.take_length,hR]
   rw [ht]
   refine br (fun c=>?_) (fun c=>?_)
   ·have c:q=5:=by simpa using c
    rw [if_pos c]
    exact ⟨_,ax,rfl⟩
   have c5:¬ q=5:=by simpa using c
   rw [if_neg c5]
   refine br (fun c=>?_) (fun c=>?_)
   ·have c:q=7:=by simpa using c
    rw [if_pos c]
    have hm64:=(hmany (.inl (by omega))).1
    refine loop_i (fun j st=>∃ u:Nat,st=kySt (.mk q z s ks) ⟨kind,at',lo,hi,most,names,es⟩ R e u∧u≤es.length∧j=es.length - u) es.length (kySt (.mk q z s ks) ⟨kind,at',lo,hi,most,names,es⟩ R e 0) (weak_bt 4 ⟨0,25,2,none⟩ rfl rfl rfl (by repeat' (first | exact rfl | exact we_rfl rfl | exact we_tok (Nat.le_refl _) rfl | exact we_tok (Nat.le_refl _) rfl | refine ⟨_,_,rfl,?_,?_⟩)) rfl rfl (by repeat' (first | exact trivial | exact we_rfl rfl | exact we_tok (Nat.le_refl _) rfl | refine ⟨⟨_,rfl,?_⟩,?_⟩))) ⟨0,rfl,by omega,by omega⟩ ?_
    rintro _ st ⟨u,rfl,hu,rfl⟩
    refine br (fun hL=>?_) (fun hL=>?_)
    ·have hlt:u < es.length:=by simpa [hel] using hL
     obtain ⟨x,hx⟩:∃ x,es[u]? = some x:=⟨_,List.getElem?_eq_getElem hlt⟩
     have hml:(dWds ((es.take u).map fun x=>⟨x.name,0⟩)).length=u:=by simp [dWds];omega
     have hsn:dWds ((es.take u).map fun x=>⟨x.name,0⟩) ++ [dWd ⟨x.name,0⟩]=dWds ((es.take (u + 1)).map fun x=>⟨x.name,0⟩):=by rw [List.take_add_one,hx];simp [dWds]
     refine ⟨_,⟨by omega,dEds_get hx⟩,?_⟩
     refine ⟨hml,⟨by rw [hml];simp [maxLen];omega,by rw [hml];simp;omega⟩,?_⟩
     exact ⟨kySt (.mk q z s ks) ⟨kind,at',lo,hi,most,names,es⟩ R e (u + 1),(weak_b 4 rfl (by repeat' (first | exact rfl | exact we_rfl rfl | exact we_int (nxt hlt (by omega)) | exact we_sl hsn rfl | refine ⟨_,_,rfl,?_,?_⟩)) rfl rfl rfl (by repeat' (first | exact trivial | exact we_rfl rfl | exact we_int (nxt hlt (by omega)) | exact we_sl hsn rfl | refine ⟨⟨_,rfl,?_⟩,?_⟩))),es.length - (u + 1),by omega,u + 1,rfl,by omega,rfl⟩
    ·have hge:u=es.length:=by
      have:=hL;simp [hel] at this;omega
     have ht:es.take u=es:=by rw [hge,List.take_length]
     rw [ht]
     exact ⟨_,ax,rfl⟩
   have c7:¬ q=7:=by simpa using c
   rw [if_neg c7]
   refine br (fun c=>?_) (fun c=>?_)
   ·have c:q=8:=by simpa using c
    obtain ⟨x,htg,hx,z0,z1,hbr⟩:=htag (by omega)
    rw [if_pos c]
    have hn:tagN ⟨kind,at',lo,hi,most,names,es⟩ (.mk q z s ks)=x.name:=by unfold tagN;rw [htg]
    rw [hn]
    refine ⟨_,⟨by omega,dEds_get hx⟩,?_⟩
    refine br (fun c=>?_) (fun c=>?_)
    ·have c:0 < ks.length:=by simpa [hdl] using c
     rw [if_pos c]
     exact ⟨_,ax,rfl⟩
    ·have c:¬ 0 < ks.length:=by simpa [hdl] using c
     rw [if_neg c]
     exact ⟨_,ax,rfl⟩
   have c8:¬ q=8:=by simpa using c
   rw [if_neg c8]
   refine br (fun c=>?_) (fun c=>?_)
   ·refine br (fun c=>?_) (fun c=>?_)
    ·have c:0 < ks.length:=by simpa [hdl,Val.ks] using c
     rw [if_pos c,if_pos c]
     refine br (fun _=>?_) (fun c'=>?_)
     ·exact ⟨_,ax,rfl⟩
     ·exact absurd c (by simpa [hdl,Val.ks] using c')
    ·have c:¬ 0 < ks.length:=by simpa [hdl,Val.ks] using c
     rw [if_neg c,if_neg c]
     refine br (fun c'=>?_) (fun _=>?_)
     ·exact absurd (by simpa [hdl,Val.ks] using c') c
     ·exact ⟨_,ax,rfl⟩
   ·have c:¬ q=6:=by simpa using c
    omega
abbrev zeroR:Rw:=.mk 0 0 0 emptyB [] []
theorem traw_spec {S:Sch} {ND:List Nd} {PC:List DV} (hP:PlanR S ND PC) (v:Val) (hv:v.wt≤1099511627776) (i:Int) :
  EvP Tryz.prog 51 [.pt PC 0,.v (.int .i64 i),.agg (dVal v)] (.tup [.agg (dRw (if fitV ND v i=true then rawV ND v i else zeroR)),.v (.bool (fitV ND v i))]):=by
 have hf:=tfits_spec hP v.wt v (Nat.le_refl _) hv i
 have hw:=twrite_spec hP v.wt v (Nat.le_refl _) hv i
 cases hc:fitV ND v i with
 | false=>
  rw [hc] at hf
  rw [if_neg (by simp)]
  obtain ⟨q,z,s,ks⟩:=v
  refine ev_go (P:=Tryz.prog) tt tt_ok 5000 18 [.cell 6 91,.tmp 7] Tryz.func51 rfl Tryz.ntmps51 rfl (Nat.le_of_ble_eq_true rfl) (fun E9 w9 hn9 hm9=>?_)
  refine call_p en55 (hf) ax rfl ?_
  exact ⟨_,ax,rfl⟩
 | true=>
  rw [hc] at hf
  have hw:=hw hc
  rw [if_pos rfl]
  generalize rawV ND v i=r at hw ⊢
  obtain ⟨rk,ra,rn,rs,rky,rks⟩:=r
  obtain ⟨q,z,s,ks⟩:=v
  refine ev_go (P:=Tryz.prog) tt tt_ok 5000 18 [.cell 6 91,.tmp 7] Tryz.func51 rfl Tryz.ntmps51 rfl (Nat.le_of_ble_eq_true rfl) (fun E9 w9 hn9 hm9=>?_)
  refine call_p en55 (hf) ax rfl ?_
  refine call_p en109 (hw) ax rfl ?_
  exact ⟨_,ax,rfl⟩
end Go.Proofs.YtmphiikdhifhjaaGreat
set_option maxRecDepth 100000
namespace Go.Proofs.YtmphiikdhifhjaaGreat
open Go Go.RowKit Dv Tryz
end Go.Proofs.YtmphiikdhifhjaaGreat
set_option maxRecDepth 100000
namespace Go.Proofs.YtmphiikdhifhjaaGreat
open Go Go.RowKit Dv Tryz
end Go.Proofs.YtmphiikdhifhjaaGreat
set_option maxRecDepth 100000
namespace Go.Proofs.YtmphiikdhifhjaaGreat
open Go Go.RowKit Dv Tryz
abbrev wG (a b:Nat) (A B:List (List DV)) (ND:List Nd) (z:Int):List DV:=[.sl a A none,.sl b B none,.sl 7 (dNds ND) none,.v (.int .i64 z)]
end Go.Proofs.YtmphiikdhifhjaaGreat
set_option maxRecDepth 100000
namespace Go.Proofs.YtmphiikdhifhjaaGreat
open Go Go.RowKit Dv Tryz
end Go.Proofs.YtmphiikdhifhjaaGreat
set_option maxRecDepth 100000
namespace Go.Proofs.YtmphiikdhifhjaaGreat
open Go Go.RowKit Dv Tryz
def exH (k:Int):Hd:=⟨k,0,0,0,0,[],⟨emptyB,0⟩⟩
def FineΦ (S:Sch) (r:DV):Prop:=∃ b:Bool,r = .v (.bool b)∧(b=true→(resF S).1=0)
end Go.Proofs.YtmphiikdhifhjaaGreat
set_option maxRecDepth 100000
namespace Go.Proofs.YtmphiikdhifhjaaGreat
open Go Go.RowKit Dv Tryz
theorem refVs_drop {ND:List Nd} {ks:List Val} {f:Nat→Int} {e:Nat} {x:Val} (h:ks[e]? = some x):refVs ND (ks.drop e) f e=(refV ND x (f e) && refVs ND (ks.drop (e + 1)) f (e + 1)):=by
 rw [drop_cons h,refVs]
abbrev rfSt (W:List DV) (v:Val) (d:Nd) (ok:Bool) (e:Nat):St:=
 ⟨[(3,⟨[],.loc 0 0⟩),(5,⟨[],.loc 1 0⟩),(7,⟨[],.loc 2 0⟩),(8,⟨[],.v (.bool ok)⟩),(9,⟨[],.v (.int .i64 e)⟩)],[W,dVal v,dNd d],[]⟩
set_option maxHeartbeats 4000000 in
theorem fits25_spec (a b:Nat) (A B:List (List DV)) (rt:Int) {ND:List Nd} {L:Nat} (hok:∀ n∈ND,NdOK L ND.length n):∀ (k:Nat) (v:Val),v.wt≤k→v.wt≤1099511627776→∀ i:Int,EvP Tryz.prog 52 [.agg (wG a b A B ND rt),.v (.int .i64 i),.agg (dVal v)] (.v (.bool (refV ND v i)))
 | 0,v,h,_=>by have:=v.wt_pos;omega
 | k + 1,.mk q z s ks,h,hb=>fun i=>by
  have ih:=fits25_spec a b A B rt hok k
  have hkl:=wtVs_len ks
  have hdl:=dVals_len ks
  have hb':=hb
  rw [Val.wt] at h hb
  rw [refV]
  have hNl:=dNds_len ND
  cases hd:nodeA ND i with
  | none=>
   have hn:=nodeA_none hd
   refine ev_go (P:=Tryz.prog) tt tt_ok 5000 164 [.tmp 6] Tryz.func52 rfl Tryz.ntmps52 rfl (Nat.le_of_ble_eq_true rfl) (fun E9 w9 hn9 hm9=>?_)
   refine br (fun _=>?_) (fun c=>?_)
   ·exact (rfl:_=_)
   ·exfalso
    have:=c
    simp [pickB_or,hNl] at this
    omega
  | some d=>
   obtain ⟨h0,hg⟩:=nodeA_some hd
   obtain ⟨j,rfl⟩:∃ j:Nat,i=j:=⟨i.toNat,by omega⟩
   have hg:ND[j]? = some d:=by simpa using hg
   have hjl:=(List.getElem?_eq_some_iff.1 hg).1
   have hN:=hok d (List.mem_of_getElem? hg)
   have hk1:=hN.k1
   have hk8:=hN.k8
   have hmany:=hN.many
   have hto:=fun m=>to25_spec hN (.mk q z s ks) m
   simp only
   have hel:=dEds_len d.edges
   have hbl:=dBs_len d.names
   generalize hf:toR d (.mk q z s ks)=f at hto
   have hF:okR d (.mk q z s ks)=okR d (.mk q z s ks):=rfl
   obtain ⟨kind,at',lo,hi,most,names,es⟩:=d
   simp only at hk1 hk8 hmany hel hbl
   have hkc:((ks.length:Int)=(es.length:Int))↔ks.length=es.length:=by omega
   have hbad:∀ b:Bool,b=pickB (pickB (!decide (q=kind)) true (pickB (!decide (q=3)) (!decide (s=⟨#[]⟩)) false)) true (pickB (decide (0 < (s.size:Int))) (decide (most < (s.size:Int))) false)→b=badR ⟨kind,at',lo,hi,most,names,es⟩ (.mk q z s ks):=fun b h=>by
    rw [h,emptyB_eq,Bool.eq_iff_iff]
    have hB:badR ⟨kind,at',lo,hi,most,names,es⟩ (.mk q z s ks)=(decide (q≠kind) || (decide (q≠3) && decide (s≠emptyB)) || (decide (0 < s.size) && decide (most < (s.size:Int)))):=rfl
    rw [hB]
    simp [pickB_or,pickB_and,or_assoc]
   refine ev_go (P:=Tryz.prog) tt tt_ok 5000 164 [.tmp 6] Tryz.func52 rfl Tryz.ntmps52 rfl (Nat.le_of_ble_eq_true rfl) (fun E9 w9 hn9 hm9=>?_)
   refine br (fun c=>?_) (fun _=>?_)
   ·exfalso
    have:=c
    simp [pickB_or,hNl] at this
    omega
   refine ⟨_,⟨by omega,dNds_get hg⟩,?_⟩
   refine br (fun c=>?_) (fun c=>?_)
   ·have c:=(hbad _ rfl).symm.trans c
    rw [if_pos c]
    exact (rfl:_=_)
   have c:=(hbad _ rfl).symm.trans c
   rw [if_neg (by rw [c];simp)]
   rcases (show kind=1∨kind=2∨kind=3∨kind=4∨kind=5∨kind=6∨kind=7∨kind=8 by omega) with c | c | c | c | c | c | c | c
   all_goals
    repeat (first | (refine br (fun h=>?_) (fun _=>?_);focus (simp [c] at h;done)) | (refine br (fun _=>?_) (fun h=>?_);rotate_left;focus (simp [c] at h;done)))
   all_goals
    try
     refine drawG_i (fun _=>false) mo (by decide +kernel) ?_
     have hc:∀ b:Bool,b=pickB (decide (0≤z)) (decide (z < ((dEds es).length:Int))) false→b=decide (0≤z∧z < es.length):=fun b h=>by
      rw [h,hel,pickB_and,Bool.eq_iff_iff]
      simp
     refine br (fun g=>?pp) (fun g=>?nn)
     case' pp=>
      have g8:=of_decide_eq_true ((hc _ rfl).symm.trans (by simpa using g))
      obtain ⟨x,hx8⟩:∃ x,es[z.toNat]? = some x:=⟨_,List.getElem?_eq_getElem (by omega)⟩
      have hm64:=(hmany (.inr c)).1
      have hw:max 0 (min z (IntKind.i64.wrap (((dEds es).length:Int) - 1)))=z:=by rw [hel,wrap64 (by omega) (by omega)];omega
      refine ⟨_,⟨Int.le_max_left _ _,by rw [hw];exact dEds_get hx8⟩,?_⟩
      show LoopG _ _ _ _
     case' nn=>
      have g8:=of_decide_eq_false ((hc _ rfl).symm.trans (by simpa using g))
      show LoopG _ _ _ _
   all_goals
    refine loop_i (fun j st=>∃ (e:Nat) (ok:Bool),st=rfSt (wG a b A B ND rt) (.mk q z s ks) ⟨kind,at',lo,hi,most,names,es⟩ ok e∧e≤ks.length∧(okR ⟨kind,at',lo,hi,most,names,es⟩ (.mk q z s ks) && refVs ND ks f 0)=(ok && refVs ND (ks.drop e) f e)∧j=ks.length - e) ks.length (rfSt (wG a b A B ND rt) (.mk q z s ks) ⟨kind,at',lo,hi,most,names,es⟩ _ 0) (weak_mk ⟨_,rfl⟩ wA rfl rfl rfl wB) ⟨0,_,rfl,by omega,congrArg (fun b=>b && refVs ND ks f 0) ?_,by omega⟩ ?_
    ·first
      | (simp [okR,c,pickB_or,pickB_and,Val.n,Val.ks,hel,hbl,hdl,hkc,g8,hx8];rw [(List.getElem?_eq_some_iff.1 hx8).2];cases x.bare<;>simp;done)
      | (simp [okR,c,pickB_or,pickB_and,Val.n,Val.ks,hel,hbl,hdl,hkc,g8];try rfl;done)
      | (simp [okR,c,pickB_or,pickB_and,Val.n,Val.ks,hel,hbl,hdl,hkc];try rfl;done)
    ·rintro _ st ⟨e,ok,rfl,he,heq,rfl⟩
     refine br (fun hL=>?_) (fun hL=>?_)
     ·have hL:e < ks.length∧ok=true:=by
       have:=hL
       simp [pickB_and,hdl] at this
       exact this
      obtain ⟨hlt,hok1⟩:=hL
      obtain ⟨x,hx⟩:∃ x,ks[e]? = some x:=⟨_,List.getElem?_eq_getElem hlt⟩
      have hxw:=wtVs_mem (List.mem_of_getElem? hx)
      rw [hok1,Bool.true_and,refVs_drop hx] at heq
      have hi':=ih x (by omega) (by omega) (f e)
      obtain ⟨xk,xn,xs,xl⟩:=x
      refine drawG_i (fun _=>false) mo (by decide +kernel) ?_
      refine callD_p en110 (hto e) ax rfl ?_
      refine ⟨_,⟨by omega,dVals_get hx⟩,?_⟩
      refine callD_p en52 (hi') ax rfl ?_
      exact ⟨rfSt (wG a b A B ND rt) (.mk q z s ks) ⟨kind,at',lo,hi,most,names,es⟩ _ (e + 1),(weak_mk ⟨_,rfl⟩ wA rfl rfl rfl (by repeat' (first | exact trivial | exact we_rfl rfl | exact we_int (nxt hlt (by omega)) | refine ⟨⟨_,rfl,?_⟩,?_⟩))),ks.length - (e + 1),by omega,e + 1,_,rfl,by omega,heq,rfl⟩
     ·have hL:¬ (e < ks.length∧ok=true):=by
       have:=hL
       simp [pickB_and,hdl] at this
       simpa using this
      refine (congrArg (fun b=>DV.v (.bool b)) ?_:_=_)
      rw [heq]
      cases ok with
      | false=>rfl
      | true=>rw [List.drop_of_length_le (by simp at hL;omega),refVs];rfl
end Go.Proofs.YtmphiikdhifhjaaGreat
set_option maxRecDepth 100000
namespace Go.Proofs.YtmphiikdhifhjaaGreat
open Go Go.RowKit Dv Tryz
mutual
def RwOK:Rw→Prop
 | .mk _ _ _ _ keys ks=>keys.length≤64∧RwOKs ks
def RwOKs:List Rw→Prop
 | []=>True
 | v :: r=>RwOK v∧RwOKs r
end
theorem RwOKs_mem:∀ {l:List Rw} {x:Rw},RwOKs l→x∈l→RwOK x
 | v :: r,x,h,hm=>by
  rw [RwOKs] at h
  rcases List.mem_cons.1 hm with rfl | hm
  ·exact h.1
  ·exact RwOKs_mem h.2 hm
mutual
theorem raw_ok {L:Nat} {ND:List Nd} (hok:∀ n∈ND,NdOK L ND.length n):∀ (v:Val) (i:Int),fitV ND v i=true→RwOK (rawV ND v i)
 | .mk q z s ks,i,h=>by
  obtain ⟨d,hF⟩:=fit_facts hok h
  have hN:=hok d (List.mem_of_getElem? (nodeA_some hF.node).2)
  have hk:RwOKs (rawVs ND ks (kidsL d (.mk q z s ks))):=by
   by_cases h5:d.kind < 5
   ·rw [show ks=[] from hF.leaf h5]
    simp [rawVs,RwOKs]
   ·exact raws_ok hok ks _ (hF.kids (by omega)).2
  have hq:q=d.kind:=hF.k
  rw [rawV,hF.node]
  have h7:q=7→d.edges.length≤64:=fun c=>(hN.many (.inl (by omega))).1
  have hwr:∀ R,wrF d (.mk q z s ks) R=if q=1 then .mk 1 0 0 (if z=1 then trueB else falseB) [] []
   else if q=2 then .mk 2 0 z emptyB [] []
   else if q=3 then .mk 3 0 0 s [] []
   else if q=4 then .mk 1 0 0 (d.names[z.toNat]?.getD emptyB) [] []
   else if q=5 then .mk 4 0 0 emptyB [] R
   else if q=7 then .mk 5 0 0 emptyB (d.edges.map fun e=>⟨e.name,0⟩) R
   else .mk (if 0 < ks.length then 6 else 1) 0 0 (if q=8 then tagN d (.mk q z s ks) else if 0 < ks.length then someB else noneB) [] R:=fun _=>rfl
  show RwOK (wrF d (.mk q z s ks) _)
  rw [hwr]
  by_cases c1:q=1
  ·rw [if_pos c1];simp [RwOK,RwOKs]
  rw [if_neg c1]
  by_cases c2:q=2
  ·rw [if_pos c2];simp [RwOK,RwOKs]
  rw [if_neg c2]
  by_cases c3:q=3
  ·rw [if_pos c3];simp [RwOK,RwOKs]
  rw [if_neg c3]
  by_cases c4:q=4
  ·rw [if_pos c4];simp [RwOK,RwOKs]
  rw [if_neg c4]
  by_cases c5:q=5
  ·rw [if_pos c5];simp [RwOK,hk]
  rw [if_neg c5]
  by_cases c7:q=7
  ·rw [if_pos c7];simp [RwOK,hk,h7 c7]
  rw [if_neg c7]
  simp [RwOK,hk]
theorem raws_ok {L:Nat} {ND:List Nd} (hok:∀ n∈ND,NdOK L ND.length n):∀ (ks:List Val) (l:List Int),fitVs ND ks l=true→RwOKs (rawVs ND ks l)
 | v :: r,i :: l,h=>by
  rw [fitVs,Bool.and_eq_true] at h
  rw [rawVs,RwOKs]
  exact ⟨raw_ok hok v i h.1,raws_ok hok r l h.2⟩
 | [],_,_=>by simp [rawVs,RwOKs]
 | _ :: _,[],_=>by simp [rawVs,RwOKs]
end
abbrev sw1St (r:List DV) (e:Nat):St:=⟨[(2,⟨[],.loc 0 0⟩),(3,⟨[],.loc 1 0⟩),(5,⟨[],.v (.int .i64 e)⟩)],[r,r],[]⟩
abbrev sw2St (r:List DV) (e:Nat):St:=⟨[(2,⟨[],.loc 0 0⟩),(3,⟨[],.loc 1 0⟩),(6,⟨[],.v (.int .i64 e)⟩)],[r,r],[]⟩
theorem same22_spec:∀ (k:Nat) (r:Rw),cntR r≤k→cntR r≤1099511627776→RwOK r→EvP Tryz.prog 57 [.agg (dRw r),.agg (dRw r)] (.v (.bool true))
 | 0,r,h,_,_=>by have:=cntR_pos r;omega
 | k + 1,.mk q a z s ky ks,h,hb,hR=>by
  have ih:=same22_spec k
  have hrl:=cntRs_len ks
  have hdl:=dRws_len ks
  have hkl:=dWds_len ky
  rw [cntR] at h hb
  rw [RwOK] at hR
  have hky:=hR.1
  refine ev_go (P:=Tryz.prog) tt tt_ok 5000 88 [.tmp 4] Tryz.func57 rfl Tryz.ntmps57 rfl (Nat.le_of_ble_eq_true rfl) (fun E9 w9 hn9 hm9=>?_)
  refine br (fun c=>?_) (fun _=>?_)
  ·exfalso
   have c:=c
   simp [pickB_or] at c
  refine loop_i (fun j st=>∃ e:Nat,st=sw1St (dRw (.mk q a z s ky ks)) e∧e≤ky.length∧j=ky.length - e) ky.length (sw1St (dRw (.mk q a z s ky ks)) 0) (weak_mk ⟨_,rfl⟩ wA rfl rfl rfl wB) ⟨0,rfl,by omega,by omega⟩ ?_
  rintro _ st ⟨e,rfl,he,rfl⟩
  refine br (fun hL=>?_) (fun hL=>?_)
  ·have hlt:e < ky.length:=by simpa [hkl] using hL
   obtain ⟨x,hx⟩:∃ x,ky[e]? = some x:=⟨_,List.getElem?_eq_getElem hlt⟩
   refine drawG_i (fun _=>false) mo (by decide +kernel) ?_
   refine ⟨dWd x,⟨by omega,dWds_get hx⟩,dWd x,⟨by omega,dWds_get hx⟩,_,weq_cmp _ _ x x,?_⟩
   refine br (fun c=>?_) (fun _=>?_)
   ·exfalso
    have c:=c
    simp at c
   exact ⟨sw1St (dRw (.mk q a z s ky ks)) (e + 1),(weak_mk ⟨_,rfl⟩ wA rfl rfl rfl (by repeat' (first | exact trivial | exact we_rfl rfl | exact we_int (nxt hlt (by omega)) | refine ⟨⟨_,rfl,?_⟩,?_⟩))),ky.length - (e + 1),by omega,e + 1,rfl,by omega,rfl⟩
  ·refine loop_i (fun j st=>∃ e:Nat,st=sw2St (dRw (.mk q a z s ky ks)) e∧e≤ks.length∧j=ks.length - e) ks.length (sw2St (dRw (.mk q a z s ky ks)) 0) (weak_mk ⟨_,rfl⟩ wA rfl rfl rfl wB) ⟨0,rfl,by omega,by omega⟩ ?_
   rintro _ st ⟨e,rfl,he,rfl⟩
   refine br (fun hL=>?_) (fun hL=>?_)
   ·have hlt:e < ks.length:=by simpa [hdl] using hL
    obtain ⟨x,hx⟩:∃ x,ks[e]? = some x:=⟨_,List.getElem?_eq_getElem hlt⟩
    have hxm:=cntRs_mem (List.mem_of_getElem? hx)
    have hS:=ih x (by omega) (by omega) (RwOKs_mem hR.2 (List.mem_of_getElem? hx))
    obtain ⟨xk,xa,xn,xs,xy,xl⟩:=x
    refine drawG_i (fun _=>false) mo (by decide +kernel) ?_
    refine ⟨_,⟨by omega,dRws_get hx⟩,?_⟩
    refine ⟨_,⟨by omega,dRws_get hx⟩,?_⟩
    refine callD_p en57 (hS) ax rfl ?_
    exact ⟨sw2St (dRw (.mk q a z s ky ks)) (e + 1),(weak_mk ⟨_,rfl⟩ wA rfl rfl rfl (by repeat' (first | exact trivial | exact we_rfl rfl | exact we_int (nxt hlt (by omega)) | refine ⟨⟨_,rfl,?_⟩,?_⟩))),ks.length - (e + 1),by omega,e + 1,rfl,by omega,rfl⟩
   ·exact (rfl:_=_)
theorem toR_kids {ND:List Nd} {d:Nd} {v:Val} {i:Int} (hd:nodeA ND i=some d) (hf:fitV ND v i=true) (h5:5≤d.kind) (h8:d.kind≤8) {e:Nat} {x:Int} (h:(kidsL d v)[e]? = some x):toR d v e=x:=by
 have hB:kidsB d v=true:=by
  obtain ⟨q,z,s,ks⟩:=v
  rw [fitV,hd] at hf
  simp only at hf
  rw [if_neg (by omega),Bool.and_eq_true] at hf
  exact hf.1
 unfold kidsB at hB
 unfold kidsL at h
 unfold toR
 by_cases c:d.kind=5∨d.kind=6
 ·rw [if_pos c] at hB h
  simp only [Bool.and_eq_true,decide_eq_true_eq] at hB
  have hlt:e < v.ks.length:=by have:=(List.getElem?_eq_some_iff.1 h).1;simpa using this
  rw [List.getElem?_replicate,if_pos hlt] at h
  simp only [Option.some.injEq] at h
  have h2:=hB.2
  by_cases c5:d.kind=5
  ·rw [if_neg (by omega)] at h2
   rw [if_pos c5,if_pos (by omega),h]
  ·rw [if_pos (by omega)] at h2
   rw [if_neg c5,if_pos (by omega),if_pos (by omega),h]
 ·rw [if_neg c] at hB h
  rw [if_neg (by omega),if_neg (by omega)]
  by_cases c7:d.kind=7
  ·rw [if_pos c7] at h
   rw [if_pos c7]
   rw [List.getElem?_map] at h
   cases hx:d.edges[e]? with
   | none=>rw [hx] at h;cases h
   | some y=>rw [hx] at h;simpa using h
  ·rw [if_neg c7] at h hB
   rw [if_neg c7]
   cases ht:tagE d v with
   | none=>rw [ht] at hB;cases hB
   | some y=>
    rw [ht] at h
    have ht2:=ht
    unfold tagE at ht2
    split at ht2
    ·rename_i hr
     have hk8:d.kind=8:=by omega
     simp only at h
     split at h
     ·simp at h
     ·have he:e=0:=by have:=(List.getElem?_eq_some_iff.1 h).1;simp at this;omega
      subst he
      rw [if_pos hk8,if_pos ⟨by omega,hr.2⟩,ht2]
      simpa using h
    ·cases ht2
end Go.Proofs.YtmphiikdhifhjaaGreat
set_option maxRecDepth 100000
namespace Go.Proofs.YtmphiikdhifhjaaGreat
open Go Go.RowKit Dv Tryz
abbrev rwSt (W:List DV) (v:Val) (d:Nd) (K:Int) (T:ByteArray) (rs:List Rw) (e:Nat):St:=
 ⟨[(3,⟨[],.loc 0 0⟩),(5,⟨[],.loc 1 0⟩),(6,⟨[],.loc 2 0⟩),(7,⟨[],.loc 3 0⟩),(8,⟨[],.loc 4 0⟩),(10,⟨[],.v (.int .i64 e)⟩)],
  [W,dVal v,zRw,dNd d,oRw K T (.v (.slice none 0 0)) (.sl 6 (dRws rs) (some 0))],[⟨e,91,6,none⟩]⟩
abbrev rw7St (W:List DV) (v:Val) (d:Nd) (rs:List Rw) (n e:Nat):St:=
 ⟨[(3,⟨[],.loc 0 0⟩),(5,⟨[],.loc 1 0⟩),(6,⟨[],.loc 2 0⟩),(7,⟨[],.loc 3 0⟩),(8,⟨[],.loc 4 0⟩),(10,⟨[],.v (.int .i64 e)⟩)],
  [W,dVal v,zRw,dNd d,oRw 5 emptyB (.sl 2 (dWds (d.edges.map fun x=>⟨x.name,0⟩)) (some 0)) (.sl 6 (dRws rs) (some 1))],[⟨n,25,2,none⟩,⟨e,91,6,none⟩]⟩
abbrev rkSt (W:List DV) (v:Val) (d:Nd) (e:Nat):St:=
 ⟨[(3,⟨[],.loc 0 0⟩),(5,⟨[],.loc 1 0⟩),(6,⟨[],.loc 2 0⟩),(7,⟨[],.loc 3 0⟩),(8,⟨[],.loc 4 0⟩),(9,⟨[],.v (.int .i64 e)⟩)],
  [W,dVal v,zRw,dNd d,oRw 5 emptyB (.sl 2 (dWds ((d.edges.take e).map fun x=>⟨x.name,0⟩)) (some 0)) (.v (.slice none 0 0))],[⟨e,25,2,none⟩]⟩
set_option maxHeartbeats 4000000 in
theorem raw25_spec (a b:Nat) (A B:List (List DV)) (rt:Int) {ND:List Nd} {L:Nat} (hok:∀ n∈ND,NdOK L ND.length n):∀ (k:Nat) (v:Val),v.wt≤k→v.wt≤1099511627776→∀ i:Int,fitV ND v i=true→EvP Tryz.prog 58 [.agg (wG a b A B ND rt),.v (.int .i64 i),.agg (dVal v)] (.agg (dRw (rawV ND v i)))
 | 0,v,h,_=>by have:=v.wt_pos;omega
 | k + 1,v,h,hb=>fun i hfit=>by
  have ih:=raw25_spec a b A B rt hok k
  obtain ⟨d,hF⟩:=fit_facts hok hfit
  have hraw:rawV ND v i=wrF d v (rawVs ND v.ks (kidsL d v)):=by
   obtain ⟨q,z,s,ks⟩:=v
   rw [rawV,hF.node]
   rfl
  have hnd:=hF.node
  obtain ⟨h0,hg⟩:=nodeA_some hF.node
  obtain ⟨j,rfl⟩:∃ j:Nat,i=j:=⟨i.toNat,by omega⟩
  have hg:ND[j]? = some d:=by simpa using hg
  have hN:=hok d (List.mem_of_getElem? hg)
  have hk1:=hN.k1
  have hk8:=hN.k8
  have hkk:=hF.k
  have hkids:=hF.kids
  have henum:=hF.enum
  have htag:=hF.tag
  have hopt:=hF.opt
  have hleaf:=hF.leaf
  have hmany:=hN.many
  have htoK:=fun h5=>@toR_kids ND d v j hnd hfit h5 hk8
  have hto:=fun m=>to25_spec hN v m
  rw [hraw]
  obtain ⟨q,z,s,ks⟩:=v
  have hkl:=wtVs_len ks
  have hdl:=dVals_len ks
  rw [Val.wt] at h hb
  simp only [Val.k,Val.n,Val.ks] at hkk hkids henum htag hopt hleaf
  generalize hkL:kidsL d (.mk q z s ks)=l at hkids htoK ⊢
  have hel:=dEds_len d.edges
  have hbl:=dBs_len d.names
  generalize hT:wrF d (.mk q z s ks) (rawVs ND (Val.mk q z s ks).ks l)=T
  have hwr:T=if q=1 then .mk 1 0 0 (if z=1 then trueB else falseB) [] []
   else if q=2 then .mk 2 0 z emptyB [] []
   else if q=3 then .mk 3 0 0 s [] []
   else if q=4 then .mk 1 0 0 (d.names[z.toNat]?.getD emptyB) [] []
   else if q=5 then .mk 4 0 0 emptyB [] (rawVs ND ks l)
   else if q=7 then .mk 5 0 0 emptyB (d.edges.map fun e=>⟨e.name,0⟩) (rawVs ND ks l)
   else .mk (if 0 < ks.length then 6 else 1) 0 0 (if q=8 then tagN d (.mk q z s ks) else if 0 < ks.length then someB else noneB) [] (rawVs ND ks l):=hT.symm
  clear hT
  have hNl:=dNds_len ND
  generalize hf:toR d (.mk q z s ks)=f at hto htoK
  obtain ⟨kind,at',lo,hi,most,names,es⟩:=d
  simp only at hkk hk1 hk8 hkids henum htag hopt hmany hel hbl hleaf htoK hwr
  subst hkk
  have hW:wG a b A B ND rt=wG a b A B ND rt:=rfl
  have hR0:q < 5→rawVs ND ks l=[]:=fun h=>by rw [hleaf h];simp [rawVs]
  refine ev_go (P:=Tryz.prog) tt tt_ok 5000 121 [.cell 6 91] Tryz.func58 rfl Tryz.ntmps58 rfl (Nat.le_of_ble_eq_true rfl) (fun E9 w9 hn9 hm9=>?_)
  refine ⟨_,⟨by omega,dNds_get hg⟩,?_⟩
  rcases (show q=1∨q=2∨q=3∨q=4∨q=5∨q=6∨q=7∨q=8 by omega) with c | c | c | c | c | c | c | c
  all_goals
   repeat (first | (refine br (fun h=>?_) (fun _=>?_);focus (simp [c] at h;done)) | (refine br (fun _=>?_) (fun h=>?_);rotate_left;focus (simp [c] at h;done)))
  ·have hR:=hR0 (by omega)
   refine br (fun g=>?_) (fun g=>?_)
   ·have g:z=1:=by simpa using g
    have hTT:T = .mk 1 0 0 trueB [] (rawVs ND ks l):=by rw [hwr,hR];simp [c,g]
    clear hwr
    refine loop_i (fun j st=>∃ (e:Nat) (K0:Int) (S0:ByteArray),st=rwSt (wG a b A B ND rt) (.mk q z s ks) ⟨q,at',lo,hi,most,names,es⟩ K0 S0 (rawVs ND (ks.take (e)) (l.take (e))) (e)∧T = .mk K0 0 0 S0 [] (rawVs ND ks l)∧e≤ks.length∧j=ks.length - e) ks.length (rwSt (wG a b A B ND rt) (.mk q z s ks) ⟨q,at',lo,hi,most,names,es⟩ _ _ [] 0) (weak_bt 5 ⟨0,91,6,none⟩ rfl rfl rfl (by repeat' (first | exact rfl | exact we_rfl rfl | exact we_tok (Nat.le_refl _) rfl | exact we_tok (Nat.le_refl _) rfl | refine ⟨_,_,rfl,?_,?_⟩)) rfl rfl (by repeat' (first | exact trivial | exact we_rfl rfl | exact we_tok (Nat.le_refl _) rfl | refine ⟨⟨_,rfl,?_⟩,?_⟩))) ⟨0,_,_,rfl,hTT,by omega,by omega⟩ ?_
    rintro _ st ⟨e,K0,S0,rfl,hTT,he,rfl⟩
    refine br (fun hL=>?_) (fun hL=>?_)
    ·have hlt:e < ks.length:=by simpa [hdl] using hL
     obtain ⟨hll,hfs⟩:=hkids (by first | omega | (exfalso;have:=hleaf (by omega);subst this;simp at hlt))
     obtain ⟨x,hx⟩:∃ x,ks[e]? = some x:=⟨_,List.getElem?_eq_getElem hlt⟩
     obtain ⟨i',hi'⟩:∃ i',l[e]? = some i':=⟨_,List.getElem?_eq_getElem (by omega)⟩
     have hxw:=wtVs_mem (List.mem_of_getElem? hx)
     have hw:=ih x (by omega) (by omega) i' (fitVs_at hfs hx hi')
     have hsn:=rawVs_snoc (ND:=ND) hx hi'
     have hRl:(rawVs ND (ks.take e) (l.take e)).length=e:=by
      rw [rawVs_len]
      ·rw [List.length_take];omega
      ·rw [List.length_take,List.length_take];omega
     have htk:=hto e
     rw [htoK (by first | omega | (exfalso;have:=hleaf (by omega);subst this;simp at hlt)) hi'] at htk
     generalize rawV ND x i'=r at hw hsn
     obtain ⟨xk,xn,xs,xl⟩:=x
     obtain ⟨rk,ra,rn,rs,rky,rks⟩:=r
     refine drawG_s mo (by decide +kernel) ?_
     refine callD_p en110 (htk) ax rfl ?_
     refine ⟨_,⟨by omega,dVals_get hx⟩,?_⟩
     refine callD_p en58 (hw) ax rfl ?_
     refine ⟨by rw [dRws_len,hRl],⟨by rw [dRws_len,hRl];simp [maxLen];omega,by rw [dRws_len,hRl];simp;omega⟩,?_⟩
     exact ⟨rwSt (wG a b A B ND rt) (.mk q z s ks) ⟨q,at',lo,hi,most,names,es⟩ K0 S0 (rawVs ND (ks.take (e + 1)) (l.take (e + 1))) (e + 1),(weak_b 5 rfl (by repeat' (first | exact rfl | exact we_rfl rfl | exact we_int (nxt hlt (by omega)) | exact we_sl ((dRws_snoc _ _).trans (congrArg dRws hsn.symm)) rfl | refine ⟨_,_,rfl,?_,?_⟩)) rfl rfl rfl (by repeat' (first | exact trivial | exact we_rfl rfl | exact we_int (nxt hlt (by omega)) | exact we_sl ((dRws_snoc _ _).trans (congrArg dRws hsn.symm)) rfl | refine ⟨⟨_,rfl,?_⟩,?_⟩))),ks.length - (e + 1),by omega,e + 1,K0,S0,rfl,hTT,by omega,rfl⟩
    ·have hge:e=ks.length:=by
      have:=hL;simp [hdl] at this;omega
     have ht:rawVs ND (ks.take e) (l.take e)=rawVs ND ks l:=by
      by_cases h5:5≤q
      ·rw [hge,List.take_length,← (hkids h5).1,List.take_length]
      ·have:=hleaf (by omega);subst this;simp [rawVs]
     rw [ht,hTT]
     exact ⟨_,ax,rfl⟩
   ·have g:¬ z=1:=by simpa using g
    have hTT:T = .mk 1 0 0 falseB [] (rawVs ND ks l):=by rw [hwr,hR];simp [c,g]
    clear hwr
    refine loop_i (fun j st=>∃ (e:Nat) (K0:Int) (S0:ByteArray),st=rwSt (wG a b A B ND rt) (.mk q z s ks) ⟨q,at',lo,hi,most,names,es⟩ K0 S0 (rawVs ND (ks.take (e)) (l.take (e))) (e)∧T = .mk K0 0 0 S0 [] (rawVs ND ks l)∧e≤ks.length∧j=ks.length - e) ks.length (rwSt (wG a b A B ND rt) (.mk q z s ks) ⟨q,at',lo,hi,most,names,es⟩ _ _ [] 0) (weak_bt 5 ⟨0,91,6,none⟩ rfl rfl rfl (by repeat' (first | exact rfl | exact we_rfl rfl | exact we_tok (Nat.le_refl _) rfl | exact we_tok (Nat.le_refl _) rfl | refine ⟨_,_,rfl,?_,?_⟩)) rfl rfl (by repeat' (first | exact trivial | exact we_rfl rfl | exact we_tok (Nat.le_refl _) rfl | refine ⟨⟨_,rfl,?_⟩,?_⟩))) ⟨0,_,_,rfl,hTT,by omega,by omega⟩ ?_
    rintro _ st ⟨e,K0,S0,rfl,hTT,he,rfl⟩
    refine br (fun hL=>?_) (fun hL=>?_)
    ·have hlt:e < ks.length:=by simpa [hdl] using hL
     obtain ⟨hll,hfs⟩:=hkids (by first | omega | (exfalso;have:=hleaf (by omega);subst this;simp at hlt))
     obtain ⟨x,hx⟩:∃ x,ks[e]? = some x:=⟨_,List.getElem?_eq_getElem hlt⟩
     obtain ⟨i',hi'⟩:∃ i',l[e]? = some i':=⟨_,List.getElem?_eq_getElem (by omega)⟩
     have hxw:=wtVs_mem (List.mem_of_getElem? hx)
     have hw:=ih x (by omega) (by omega) i' (fitVs_at hfs hx hi')
     have hsn:=rawVs_snoc (ND:=ND) hx hi'
     have hRl:(rawVs ND (ks.take e) (l.take e)).length=e:=by
      rw [rawVs_len]
      ·rw [List.length_take];omega
      ·rw [List.length_take,List.length_take];omega
     have htk:=hto e
     rw [htoK (by first | omega | (exfalso;have:=hleaf (by omega);subst this;simp at hlt)) hi'] at htk
     generalize rawV ND x i'=r at hw hsn
     obtain ⟨xk,xn,xs,xl⟩:=x
     obtain ⟨rk,ra,rn,rs,rky,rks⟩:=r
     refine drawG_s mo (by decide +kernel) ?_
     refine callD_p en110 (htk) ax rfl ?_
     refine ⟨_,⟨by omega,dVals_get hx⟩,?_⟩
     refine callD_p en58 (hw) ax rfl ?_
     refine ⟨by rw [dRws_len,hRl],⟨by rw [dRws_len,hRl];simp [maxLen];omega,by rw [dRws_len,hRl];simp;omega⟩,?_⟩
     exact ⟨rwSt (wG a b A B ND rt) (.mk q z s ks) ⟨q,at',lo,hi,most,names,es⟩ K0 S0 (rawVs ND (ks.take (e + 1)) (l.take (e + 1))) (e + 1),(weak_b 5 rfl (by repeat' (first | exact rfl | exact we_rfl rfl | exact we_int (nxt hlt (by omega)) | exact we_sl ((dRws_snoc _ _).trans (congrArg dRws hsn.symm)) rfl | refine ⟨_,_,rfl,?_,?_⟩)) rfl rfl rfl (by repeat' (first | exact trivial | exact we_rfl rfl | exact we_int (nxt hlt (by omega)) | exact we_sl ((dRws_snoc _ _).trans (congrArg dRws hsn.symm)) rfl | refine ⟨⟨_,rfl,?_⟩,?_⟩))),ks.length - (e + 1),by omega,e + 1,K0,S0,rfl,hTT,by omega,rfl⟩
    ·have hge:e=ks.length:=by
      have:=hL;simp [hdl] at this;omega
     have ht:rawVs ND (ks.take e) (l.take e)=rawVs ND ks l:=by
      by_cases h5:5≤q
      ·rw [hge,List.take_length,← (hkids h5).1,List.take_length]
      ·have:=hleaf (by omega);subst this;simp [rawVs]
     rw [ht,hTT]
     exact ⟨_,ax,rfl⟩
  ·have hTT:T = .mk 2 0 z emptyB [] []:=by rw [hwr];simp [c]
   rw [hTT]
   exact ⟨_,ax,rfl⟩
  ·have hTT:T = .mk 3 0 0 s [] []:=by rw [hwr];simp [c]
   rw [hTT]
   exact ⟨_,ax,rfl⟩
  ·have hR:=hR0 (by omega)
   obtain ⟨z0,z1⟩:=henum (by omega)
   obtain ⟨x,hx⟩:∃ x,names[z.toNat]? = some x:=⟨_,List.getElem?_eq_getElem (by omega)⟩
   have hTT:T = .mk 1 0 0 x [] (rawVs ND ks l):=by rw [hwr,hR];simp only [hx];simp [c]
   clear hwr
   refine ⟨_,⟨by omega,dBs_get hx⟩,?_⟩
   refine loop_i (fun j st=>∃ (e:Nat) (K0:Int) (S0:ByteArray),st=rwSt (wG a b A B ND rt) (.mk q z s ks) ⟨q,at',lo,hi,most,names,es⟩ K0 S0 (rawVs ND (ks.take (e)) (l.take (e))) (e)∧T = .mk K0 0 0 S0 [] (rawVs ND ks l)∧e≤ks.length∧j=ks.length - e) ks.length (rwSt (wG a b A B ND rt) (.mk q z s ks) ⟨q,at',lo,hi,most,names,es⟩ _ _ [] 0) (weak_bt 5 ⟨0,91,6,none⟩ rfl rfl rfl (by repeat' (first | exact rfl | exact we_rfl rfl | exact we_tok (Nat.le_refl _) rfl | exact we_tok (Nat.le_refl _) rfl | refine ⟨_,_,rfl,?_,?_⟩)) rfl rfl (by repeat' (first | exact trivial | exact we_rfl rfl | exact we_tok (Nat.le_refl _) rfl | refine ⟨⟨_,rfl,?_⟩,?_⟩))) ⟨0,_,_,rfl,hTT,by omega,by omega⟩ ?_
   rintro _ st ⟨e,K0,S0,rfl,hTT,he,rfl⟩
   refine br (fun hL=>?_) (fun hL=>?_)
   ·have hlt:e < ks.length:=by simpa [hdl] using hL
    obtain ⟨hll,hfs⟩:=hkids (by first | omega | (exfalso;have:=hleaf (by omega);subst this;simp at hlt))
    obtain ⟨x,hx⟩:∃ x,ks[e]? = some x:=⟨_,List.getElem?_eq_getElem hlt⟩
    obtain ⟨i',hi'⟩:∃ i',l[e]? = some i':=⟨_,List.getElem?_eq_getElem (by omega)⟩
    have hxw:=wtVs_mem (List.mem_of_getElem? hx)
    have hw:=ih x (by omega) (by omega) i' (fitVs_at hfs hx hi')
    have hsn:=rawVs_snoc (ND:=ND) hx hi'
    have hRl:(rawVs ND (ks.take e) (l.take e)).length=e:=by
     rw [rawVs_len]
     ·rw [List.length_take];omega
     ·rw [List.length_take,List.length_take];omega
    have htk:=hto e
    rw [htoK (by first | omega | (exfalso;have:=hleaf (by omega);subst this;simp at hlt)) hi'] at htk
    generalize rawV ND x i'=r at hw hsn
    obtain ⟨xk,xn,xs,xl⟩:=x
    obtain ⟨rk,ra,rn,rs,rky,rks⟩:=r
    refine drawG_s mo (by decide +kernel) ?_
    refine callD_p en110 (htk) ax rfl ?_
    refine ⟨_,⟨by omega,dVals_get hx⟩,?_⟩
    refine callD_p en58 (hw) ax rfl ?_
    refine ⟨by rw [dRws_len,hRl],⟨by rw [dRws_len,hRl];simp [maxLen];omega,by rw [dRws_len,hRl];simp;omega⟩,?_⟩
    exact ⟨rwSt (wG a b A B ND rt) (.mk q z s ks) ⟨q,at',lo,hi,most,names,es⟩ K0 S0 (rawVs ND (ks.take (e + 1)) (l.take (e + 1))) (e + 1),(weak_b 5 rfl (by repeat' (first | exact rfl | exact we_rfl rfl | exact we_int (nxt hlt (by omega)) | exact we_sl ((dRws_snoc _ _).trans (congrArg dRws hsn.symm)) rfl | refine ⟨_,_,rfl,?_,?_⟩)) rfl rfl rfl (by repeat' (first | exact trivial | exact we_rfl rfl | exact we_int (nxt hlt (by omega)) | exact we_sl ((dRws_snoc _ _).trans (congrArg dRws hsn.symm)) rfl | refine ⟨⟨_,rfl,?_⟩,?_⟩))),ks.length - (e + 1),by omega,e + 1,K0,S0,rfl,hTT,by omega,rfl⟩
   ·have hge:e=ks.length:=by
     have:=hL;simp [hdl] at this;omega
    have ht:rawVs ND (ks.take e) (l.take e)=rawVs ND ks l:=by
     by_cases h5:5≤q
     ·rw [hge,List.take_length,← (hkids h5).1,List.take_length]
     ·have:=hleaf (by omega);subst this;simp [rawVs]
    rw [ht,hTT]
    exact ⟨_,ax,rfl⟩
  ·have hTT:T = .mk 4 0 0 emptyB [] (rawVs ND ks l):=by rw [hwr];simp [c]
   clear hwr
   refine loop_i (fun j st=>∃ (e:Nat) (K0:Int) (S0:ByteArray),st=rwSt (wG a b A B ND rt) (.mk q z s ks) ⟨q,at',lo,hi,most,names,es⟩ K0 S0 (rawVs ND (ks.take (e)) (l.take (e))) (e)∧T = .mk K0 0 0 S0 [] (rawVs ND ks l)∧e≤ks.length∧j=ks.length - e) ks.length (rwSt (wG a b A B ND rt) (.mk q z s ks) ⟨q,at',lo,hi,most,names,es⟩ _ _ [] 0) (weak_bt 5 ⟨0,91,6,none⟩ rfl rfl rfl (by repeat' (first | exact rfl | exact we_rfl rfl | exact we_tok (Nat.le_refl _) rfl | exact we_tok (Nat.le_refl _) rfl | refine ⟨_,_,rfl,?_,?_⟩)) rfl rfl (by repeat' (first | exact trivial | exact we_rfl rfl | exact we_tok (Nat.le_refl _) rfl | refine ⟨⟨_,rfl,?_⟩,?_⟩))) ⟨0,_,_,rfl,hTT,by omega,by omega⟩ ?_
   rintro _ st ⟨e,K0,S0,rfl,hTT,he,rfl⟩
   refine br (fun hL=>?_) (fun hL=>?_)
   ·have hlt:e < ks.length:=by simpa [hdl] using hL
    obtain ⟨hll,hfs⟩:=hkids (by first | omega | (exfalso;have:=hleaf (by omega);subst this;simp at hlt))
    obtain ⟨x,hx⟩:∃ x,ks[e]? = some x:=⟨_,List.getElem?_eq_getElem hlt⟩
    obtain ⟨i',hi'⟩:∃ i',l[e]? = some i':=⟨_,List.getElem?_eq_getElem (by omega)⟩
    have hxw:=wtVs_mem (List.mem_of_getElem? hx)
    have hw:=ih x (by omega) (by omega) i' (fitVs_at hfs hx hi')
    have hsn:=rawVs_snoc (ND:=ND) hx hi'
    have hRl:(rawVs ND (ks.take e) (l.take e)).length=e:=by
     rw [rawVs_len]
     ·rw [List.length_take];omega
     ·rw [List.length_take,List.length_take];omega
    have htk:=hto e
    rw [htoK (by first | omega | (exfalso;have:=hleaf (by omega);subst this;simp at hlt)) hi'] at htk
    generalize rawV ND x i'=r at hw hsn
    obtain ⟨xk,xn,xs,xl⟩:=x
    obtain ⟨rk,ra,rn,rs,rky,rks⟩:=r
    refine drawG_s mo (by decide +kernel) ?_
    refine callD_p en110 (htk) ax rfl ?_
    refine ⟨_,⟨by omega,dVals_get hx⟩,?_⟩
    refine callD_p en58 (hw) ax rfl ?_
    refine ⟨by rw [dRws_len,hRl],⟨by rw [dRws_len,hRl];simp [maxLen];omega,by rw [dRws_len,hRl];simp;omega⟩,?_⟩
    exact ⟨rwSt (wG a b A B ND rt) (.mk q z s ks) ⟨q,at',lo,hi,most,names,es⟩ K0 S0 (rawVs ND (ks.take (e + 1)) (l.take (e + 1))) (e + 1),(weak_b 5 rfl (by repeat' (first | exact rfl | exact we_rfl rfl | exact we_int (nxt hlt (by omega)) | exact we_sl ((dRws_snoc _ _).trans (congrArg dRws hsn.symm)) rfl | refine ⟨_,_,rfl,?_,?_⟩)) rfl rfl rfl (by repeat' (first | exact trivial | exact we_rfl rfl | exact we_int (nxt hlt (by omega)) | exact we_sl ((dRws_snoc _ _).trans (congrArg dRws hsn.symm)) rfl | refine ⟨⟨_,rfl,?_⟩,?_⟩))),ks.length - (e + 1),by omega,e + 1,K0,S0,rfl,hTT,by omega,rfl⟩
   ·have hge:e=ks.length:=by
     have:=hL;simp [hdl] at this;omega
    have ht:rawVs ND (ks.take e) (l.take e)=rawVs ND ks l:=by
     by_cases h5:5≤q
     ·rw [hge,List.take_length,← (hkids h5).1,List.take_length]
     ·have:=hleaf (by omega);subst this;simp [rawVs]
    rw [ht,hTT]
    exact ⟨_,ax,rfl⟩
  ·have ho:=hopt (by omega)
   refine br (fun g=>?_) (fun g=>?_)
   ·have g:ks.length=1:=by have:=g;simp [hdl] at this;omega
    have hTT:T = .mk 6 0 0 someB [] (rawVs ND ks l):=by rw [hwr];simp [c,g]
    clear hwr
    refine loop_i (fun j st=>∃ (e:Nat) (K0:Int) (S0:ByteArray),st=rwSt (wG a b A B ND rt) (.mk q z s ks) ⟨q,at',lo,hi,most,names,es⟩ K0 S0 (rawVs ND (ks.take (e)) (l.take (e))) (e)∧T = .mk K0 0 0 S0 [] (rawVs ND ks l)∧e≤ks.length∧j=ks.length - e) ks.length (rwSt (wG a b A B ND rt) (.mk q z s ks) ⟨q,at',lo,hi,most,names,es⟩ _ _ [] 0) (weak_bt 5 ⟨0,91,6,none⟩ rfl rfl rfl (by repeat' (first | exact rfl | exact we_rfl rfl | exact we_tok (Nat.le_refl _) rfl | exact we_tok (Nat.le_refl _) rfl | refine ⟨_,_,rfl,?_,?_⟩)) rfl rfl (by repeat' (first | exact trivial | exact we_rfl rfl | exact we_tok (Nat.le_refl _) rfl | refine ⟨⟨_,rfl,?_⟩,?_⟩))) ⟨0,_,_,rfl,hTT,by omega,by omega⟩ ?_
    rintro _ st ⟨e,K0,S0,rfl,hTT,he,rfl⟩
    refine br (fun hL=>?_) (fun hL=>?_)
    ·have hlt:e < ks.length:=by simpa [hdl] using hL
     obtain ⟨hll,hfs⟩:=hkids (by first | omega | (exfalso;have:=hleaf (by omega);subst this;simp at hlt))
     obtain ⟨x,hx⟩:∃ x,ks[e]? = some x:=⟨_,List.getElem?_eq_getElem hlt⟩
     obtain ⟨i',hi'⟩:∃ i',l[e]? = some i':=⟨_,List.getElem?_eq_getElem (by omega)⟩
     have hxw:=wtVs_mem (List.mem_of_getElem? hx)
     have hw:=ih x (by omega) (by omega) i' (fitVs_at hfs hx hi')
     have hsn:=rawVs_snoc (ND:=ND) hx hi'
     have hRl:(rawVs ND (ks.take e) (l.take e)).length=e:=by
      rw [rawVs_len]
      ·rw [List.length_take];omega
      ·rw [List.length_take,List.length_take];omega
     have htk:=hto e
     rw [htoK (by first | omega | (exfalso;have:=hleaf (by omega);subst this;simp at hlt)) hi'] at htk
     generalize rawV ND x i'=r at hw hsn
     obtain ⟨xk,xn,xs,xl⟩:=x
     obtain ⟨rk,ra,rn,rs,rky,rks⟩:=r
     refine drawG_s mo (by decide +kernel) ?_
     refine callD_p en110 (htk) ax rfl ?_
     refine ⟨_,⟨by omega,dVals_get hx⟩,?_⟩
     refine callD_p en58 (hw) ax rfl ?_
     refine ⟨by rw [dRws_len,hRl],⟨by rw [dRws_len,hRl];simp [maxLen];omega,by rw [dRws_len,hRl];simp;omega⟩,?_⟩
     exact ⟨rwSt (wG a b A B ND rt) (.mk q z s ks) ⟨q,at',lo,hi,most,names,es⟩ K0 S0 (rawVs ND (ks.take (e + 1)) (l.take (e + 1))) (e + 1),(weak_b 5 rfl (by repeat' (first | exact rfl | exact we_rfl rfl | exact we_int (nxt hlt (by omega)) | exact we_sl ((dRws_snoc _ _).trans (congrArg dRws hsn.symm)) rfl | refine ⟨_,_,rfl,?_,?_⟩)) rfl rfl rfl (by repeat' (first | exact trivial | exact we_rfl rfl | exact we_int (nxt hlt (by omega)) | exact we_sl ((dRws_snoc _ _).trans (congrArg dRws hsn.symm)) rfl | refine ⟨⟨_,rfl,?_⟩,?_⟩))),ks.length - (e + 1),by omega,e + 1,K0,S0,rfl,hTT,by omega,rfl⟩
    ·have hge:e=ks.length:=by
      have:=hL;simp [hdl] at this;omega
     have ht:rawVs ND (ks.take e) (l.take e)=rawVs ND ks l:=by
      by_cases h5:5≤q
      ·rw [hge,List.take_length,← (hkids h5).1,List.take_length]
      ·have:=hleaf (by omega);subst this;simp [rawVs]
     rw [ht,hTT]
     exact ⟨_,ax,rfl⟩
   ·have g:¬ ks.length=1:=by have:=g;simp [hdl] at this;omega
    have g:ks.length=0:=by omega
    have hTT:T = .mk 1 0 0 noneB [] (rawVs ND ks l):=by rw [hwr];simp [c,g]
    clear hwr
    refine loop_i (fun j st=>∃ (e:Nat) (K0:Int) (S0:ByteArray),st=rwSt (wG a b A B ND rt) (.mk q z s ks) ⟨q,at',lo,hi,most,names,es⟩ K0 S0 (rawVs ND (ks.take (e)) (l.take (e))) (e)∧T = .mk K0 0 0 S0 [] (rawVs ND ks l)∧e≤ks.length∧j=ks.length - e) ks.length (rwSt (wG a b A B ND rt) (.mk q z s ks) ⟨q,at',lo,hi,most,names,es⟩ _ _ [] 0) (weak_bt 5 ⟨0,91,6,none⟩ rfl rfl rfl (by repeat' (first | exact rfl | exact we_rfl rfl | exact we_tok (Nat.le_refl _) rfl | exact we_tok (Nat.le_refl _) rfl | refine ⟨_,_,rfl,?_,?_⟩)) rfl rfl (by repeat' (first | exact trivial | exact we_rfl rfl | exact we_tok (Nat.le_refl _) rfl | refine ⟨⟨_,rfl,?_⟩,?_⟩))) ⟨0,_,_,rfl,hTT,by omega,by omega⟩ ?_
    rintro _ st ⟨e,K0,S0,rfl,hTT,he,rfl⟩
    refine br (fun hL=>?_) (fun hL=>?_)
    ·have hlt:e < ks.length:=by simpa [hdl] using hL
     obtain ⟨hll,hfs⟩:=hkids (by first | omega | (exfalso;have:=hleaf (by omega);subst this;simp at hlt))
     obtain ⟨x,hx⟩:∃ x,ks[e]? = some x:=⟨_,List.getElem?_eq_getElem hlt⟩
     obtain ⟨i',hi'⟩:∃ i',l[e]? = some i':=⟨_,List.getElem?_eq_getElem (by omega)⟩
     have hxw:=wtVs_mem (List.mem_of_getElem? hx)
     have hw:=ih x (by omega) (by omega) i' (fitVs_at hfs hx hi')
     have hsn:=rawVs_snoc (ND:=ND) hx hi'
     have hRl:(rawVs ND (ks.take e) (l.take e)).length=e:=by
      rw [rawVs_len]
      ·rw [List.length_take];omega
      ·rw [List.length_take,List.length_take];omega
     have htk:=hto e
     rw [htoK (by first | omega | (exfalso;have:=hleaf (by omega);subst this;simp at hlt)) hi'] at htk
     generalize rawV ND x i'=r at hw hsn
     obtain ⟨xk,xn,xs,xl⟩:=x
     obtain ⟨rk,ra,rn,rs,rky,rks⟩:=r
     refine drawG_s mo (by decide +kernel) ?_
     refine callD_p en110 (htk) ax rfl ?_
     refine ⟨_,⟨by omega,dVals_get hx⟩,?_⟩
     refine callD_p en58 (hw) ax rfl ?_
     refine ⟨by rw [dRws_len,hRl],⟨by rw [dRws_len,hRl];simp [maxLen];omega,by rw [dRws_len,hRl];simp;omega⟩,?_⟩
     exact ⟨rwSt (wG a b A B ND rt) (.mk q z s ks) ⟨q,at',lo,hi,most,names,es⟩ K0 S0 (rawVs ND (ks.take (e + 1)) (l.take (e + 1))) (e + 1),(weak_b 5 rfl (by repeat' (first | exact rfl | exact we_rfl rfl | exact we_int (nxt hlt (by omega)) | exact we_sl ((dRws_snoc _ _).trans (congrArg dRws hsn.symm)) rfl | refine ⟨_,_,rfl,?_,?_⟩)) rfl rfl rfl (by repeat' (first | exact trivial | exact we_rfl rfl | exact we_int (nxt hlt (by omega)) | exact we_sl ((dRws_snoc _ _).trans (congrArg dRws hsn.symm)) rfl | refine ⟨⟨_,rfl,?_⟩,?_⟩))),ks.length - (e + 1),by omega,e + 1,K0,S0,rfl,hTT,by omega,rfl⟩
    ·have hge:e=ks.length:=by
      have:=hL;simp [hdl] at this;omega
     have ht:rawVs ND (ks.take e) (l.take e)=rawVs ND ks l:=by
      by_cases h5:5≤q
      ·rw [hge,List.take_length,← (hkids h5).1,List.take_length]
      ·have:=hleaf (by omega);subst this;simp [rawVs]
     rw [ht,hTT]
     exact ⟨_,ax,rfl⟩
  ·have hm64:=(hmany (.inl (by omega))).1
   have hTT:T = .mk 5 0 0 emptyB (es.map fun e=>⟨e.name,0⟩) (rawVs ND ks l):=by rw [hwr];simp [c]
   clear hwr
   refine loop_i (fun j st=>∃ u:Nat,st=rkSt (wG a b A B ND rt) (.mk q z s ks) ⟨q,at',lo,hi,most,names,es⟩ u∧u≤es.length∧j=es.length - u) es.length (rkSt (wG a b A B ND rt) (.mk q z s ks) ⟨q,at',lo,hi,most,names,es⟩ 0) (weak_bt 5 ⟨0,25,2,none⟩ rfl rfl rfl (by repeat' (first | exact rfl | exact we_rfl rfl | exact we_tok (Nat.le_refl _) rfl | exact we_tok (Nat.le_refl _) rfl | refine ⟨_,_,rfl,?_,?_⟩)) rfl rfl (by repeat' (first | exact trivial | exact we_rfl rfl | exact we_tok (Nat.le_refl _) rfl | refine ⟨⟨_,rfl,?_⟩,?_⟩))) ⟨0,rfl,by omega,by omega⟩ ?_
   rintro _ st ⟨u,rfl,hu,rfl⟩
   refine br (fun hL=>?_) (fun hL=>?_)
   ·have hlt:u < es.length:=by simpa [hel] using hL
    obtain ⟨x,hx⟩:∃ x,es[u]? = some x:=⟨_,List.getElem?_eq_getElem hlt⟩
    have hml:(dWds ((es.take u).map fun x=>⟨x.name,0⟩)).length=u:=by simp [dWds];omega
    have hsn:dWds ((es.take u).map fun x=>⟨x.name,0⟩) ++ [dWd ⟨x.name,0⟩]=dWds ((es.take (u + 1)).map fun x=>⟨x.name,0⟩):=by rw [List.take_add_one,hx];simp [dWds]
    refine drawG_s mo (by decide +kernel) ?_
    refine ⟨_,⟨by omega,dEds_get hx⟩,?_⟩
    refine ⟨hml,⟨by rw [hml];simp [maxLen];omega,by rw [hml];simp;omega⟩,?_⟩
    exact ⟨rkSt (wG a b A B ND rt) (.mk q z s ks) ⟨q,at',lo,hi,most,names,es⟩ (u + 1),(weak_b 5 rfl (by repeat' (first | exact rfl | exact we_rfl rfl | exact we_int (nxt hlt (by omega)) | exact we_sl hsn rfl | refine ⟨_,_,rfl,?_,?_⟩)) rfl rfl rfl (by repeat' (first | exact trivial | exact we_rfl rfl | exact we_int (nxt hlt (by omega)) | exact we_sl hsn rfl | refine ⟨⟨_,rfl,?_⟩,?_⟩))),es.length - (u + 1),by omega,u + 1,rfl,by omega,rfl⟩
   ·have hge:u=es.length:=by
     have:=hL;simp [hel] at this;omega
    have ht:es.take u=es:=by rw [hge,List.take_length]
    rw [ht]
    refine loop_i (fun j st=>∃ e:Nat,st=rw7St (wG a b A B ND rt) (.mk q z s ks) ⟨q,at',lo,hi,most,names,es⟩ (rawVs ND (ks.take (e)) (l.take (e))) u (e)∧e≤ks.length∧j=ks.length - e) ks.length (rw7St (wG a b A B ND rt) (.mk q z s ks) ⟨q,at',lo,hi,most,names,es⟩ [] u 0) (weak_bt 5 ⟨0,91,6,none⟩ rfl rfl rfl (by repeat' (first | exact rfl | exact we_rfl rfl | exact we_tok (Nat.le_refl _) rfl | exact we_tok (Nat.le_refl _) rfl | refine ⟨_,_,rfl,?_,?_⟩)) rfl rfl (by repeat' (first | exact trivial | exact we_rfl rfl | exact we_tok (Nat.le_refl _) rfl | refine ⟨⟨_,rfl,?_⟩,?_⟩))) ⟨0,rfl,by omega,by omega⟩ ?_
    rintro _ st ⟨e,rfl,he,rfl⟩
    refine br (fun hL=>?_) (fun hL=>?_)
    ·have hlt:e < ks.length:=by simpa [hdl] using hL
     obtain ⟨hll,hfs⟩:=hkids (by first | omega | (exfalso;have:=hleaf (by omega);subst this;simp at hlt))
     obtain ⟨x,hx⟩:∃ x,ks[e]? = some x:=⟨_,List.getElem?_eq_getElem hlt⟩
     obtain ⟨i',hi'⟩:∃ i',l[e]? = some i':=⟨_,List.getElem?_eq_getElem (by omega)⟩
     have hxw:=wtVs_mem (List.mem_of_getElem? hx)
     have hw:=ih x (by omega) (by omega) i' (fitVs_at hfs hx hi')
     have hsn:=rawVs_snoc (ND:=ND) hx hi'
     have hRl:(rawVs ND (ks.take e) (l.take e)).length=e:=by
      rw [rawVs_len]
      ·rw [List.length_take];omega
      ·rw [List.length_take,List.length_take];omega
     have htk:=hto e
     rw [htoK (by first | omega | (exfalso;have:=hleaf (by omega);subst this;simp at hlt)) hi'] at htk
     generalize rawV ND x i'=r at hw hsn
     obtain ⟨xk,xn,xs,xl⟩:=x
     obtain ⟨rk,ra,rn,rs,rky,rks⟩:=r
     refine drawG_s mo (by decide +kernel) ?_
     refine callD_p en110 (htk) ax rfl ?_
     refine ⟨_,⟨by omega,dVals_get hx⟩,?_⟩
     refine callD_p en58 (hw) ax rfl ?_
     refine ⟨by rw [dRws_len,hRl],⟨by rw [dRws_len,hRl];simp [maxLen];omega,by rw [dRws_len,hRl];simp;omega⟩,?_⟩
     exact ⟨rw7St (wG a b A B ND rt) (.mk q z s ks) ⟨q,at',lo,hi,most,names,es⟩ (rawVs ND (ks.take (e + 1)) (l.take (e + 1))) u (e + 1),(weak_b 5 rfl (by repeat' (first | exact rfl | exact we_rfl rfl | exact we_int (nxt hlt (by omega)) | exact we_sl ((dRws_snoc _ _).trans (congrArg dRws hsn.symm)) rfl | refine ⟨_,_,rfl,?_,?_⟩)) rfl rfl rfl (by repeat' (first | exact trivial | exact we_rfl rfl | exact we_int (nxt hlt (by omega)) | exact we_sl ((dRws_snoc _ _).trans (congrArg dRws hsn.symm)) rfl | refine ⟨⟨_,rfl,?_⟩,?_⟩))),ks.length - (e + 1),by omega,e + 1,rfl,by omega,rfl⟩
    ·have hge:e=ks.length:=by
      have:=hL;simp [hdl] at this;omega
     have ht:rawVs ND (ks.take e) (l.take e)=rawVs ND ks l:=by
      by_cases h5:5≤q
      ·rw [hge,List.take_length,← (hkids h5).1,List.take_length]
      ·have:=hleaf (by omega);subst this;simp [rawVs]
     rw [ht,hTT]
     exact ⟨_,ax,rfl⟩
  ·obtain ⟨x,htg,hx,z0,z1,hbr⟩:=htag (by omega)
   have hn:tagN ⟨q,at',lo,hi,most,names,es⟩ (.mk q z s ks)=x.name:=by unfold tagN;rw [htg]
   refine ⟨_,⟨by omega,dEds_get hx⟩,?_⟩
   refine ⟨_,⟨by omega,dEds_get hx⟩,?_⟩
   refine br (fun g=>?_) (fun g=>?_)
   ·have g:x.bare=false:=by simpa using g
    have g2:0 < ks.length:=by
     rcases Nat.eq_zero_or_pos ks.length with h | h
     ·rw [hbr.2 (List.eq_nil_of_length_eq_zero h)] at g;cases g
     ·exact h
    have hTT:T = .mk 6 0 0 x.name [] (rawVs ND ks l):=by rw [hwr,hn,if_pos g2];simp [c]
    clear hwr
    refine loop_i (fun j st=>∃ (e:Nat) (K0:Int) (S0:ByteArray),st=rwSt (wG a b A B ND rt) (.mk q z s ks) ⟨q,at',lo,hi,most,names,es⟩ K0 S0 (rawVs ND (ks.take (e)) (l.take (e))) (e)∧T = .mk K0 0 0 S0 [] (rawVs ND ks l)∧e≤ks.length∧j=ks.length - e) ks.length (rwSt (wG a b A B ND rt) (.mk q z s ks) ⟨q,at',lo,hi,most,names,es⟩ _ _ [] 0) (weak_bt 5 ⟨0,91,6,none⟩ rfl rfl rfl (by repeat' (first | exact rfl | exact we_rfl rfl | exact we_tok (Nat.le_refl _) rfl | exact we_tok (Nat.le_refl _) rfl | refine ⟨_,_,rfl,?_,?_⟩)) rfl rfl (by repeat' (first | exact trivial | exact we_rfl rfl | exact we_tok (Nat.le_refl _) rfl | refine ⟨⟨_,rfl,?_⟩,?_⟩))) ⟨0,_,_,rfl,hTT,by omega,by omega⟩ ?_
    rintro _ st ⟨e,K0,S0,rfl,hTT,he,rfl⟩
    refine br (fun hL=>?_) (fun hL=>?_)
    ·have hlt:e < ks.length:=by simpa [hdl] using hL
     obtain ⟨hll,hfs⟩:=hkids (by first | omega | (exfalso;have:=hleaf (by omega);subst this;simp at hlt))
     obtain ⟨x,hx⟩:∃ x,ks[e]? = some x:=⟨_,List.getElem?_eq_getElem hlt⟩
     obtain ⟨i',hi'⟩:∃ i',l[e]? = some i':=⟨_,List.getElem?_eq_getElem (by omega)⟩
     have hxw:=wtVs_mem (List.mem_of_getElem? hx)
     have hw:=ih x (by omega) (by omega) i' (fitVs_at hfs hx hi')
     have hsn:=rawVs_snoc (ND:=ND) hx hi'
     have hRl:(rawVs ND (ks.take e) (l.take e)).length=e:=by
      rw [rawVs_len]
      ·rw [List.length_take];omega
      ·rw [List.length_take,List.length_take];omega
     have htk:=hto e
     rw [htoK (by first | omega | (exfalso;have:=hleaf (by omega);subst this;simp at hlt)) hi'] at htk
     generalize rawV ND x i'=r at hw hsn
     obtain ⟨xk,xn,xs,xl⟩:=x
     obtain ⟨rk,ra,rn,rs,rky,rks⟩:=r
     refine drawG_s mo (by decide +kernel) ?_
     refine callD_p en110 (htk) ax rfl ?_
     refine ⟨_,⟨by omega,dVals_get hx⟩,?_⟩
     refine callD_p en58 (hw) ax rfl ?_
     refine ⟨by rw [dRws_len,hRl],⟨by rw [dRws_len,hRl];simp [maxLen];omega,by rw [dRws_len,hRl];simp;omega⟩,?_⟩
     exact ⟨rwSt (wG a b A B ND rt) (.mk q z s ks) ⟨q,at',lo,hi,most,names,es⟩ K0 S0 (rawVs ND (ks.take (e + 1)) (l.take (e + 1))) (e + 1),(weak_b 5 rfl (by repeat' (first | exact rfl | exact we_rfl rfl | exact we_int (nxt hlt (by omega)) | exact we_sl ((dRws_snoc _ _).trans (congrArg dRws hsn.symm)) rfl | refine ⟨_,_,rfl,?_,?_⟩)) rfl rfl rfl (by repeat' (first | exact trivial | exact we_rfl rfl | exact we_int (nxt hlt (by omega)) | exact we_sl ((dRws_snoc _ _).trans (congrArg dRws hsn.symm)) rfl | refine ⟨⟨_,rfl,?_⟩,?_⟩))),ks.length - (e + 1),by omega,e + 1,K0,S0,rfl,hTT,by omega,rfl⟩
    ·have hge:e=ks.length:=by
      have:=hL;simp [hdl] at this;omega
     have ht:rawVs ND (ks.take e) (l.take e)=rawVs ND ks l:=by
      by_cases h5:5≤q
      ·rw [hge,List.take_length,← (hkids h5).1,List.take_length]
      ·have:=hleaf (by omega);subst this;simp [rawVs]
     rw [ht,hTT]
     exact ⟨_,ax,rfl⟩
   ·have g:x.bare=true:=by simpa using g
    have g2:¬ 0 < ks.length:=by rw [hbr.1 g];simp
    have hTT:T = .mk 1 0 0 x.name [] (rawVs ND ks l):=by rw [hwr,hn,if_neg g2];simp [c]
    clear hwr
    refine loop_i (fun j st=>∃ (e:Nat) (K0:Int) (S0:ByteArray),st=rwSt (wG a b A B ND rt) (.mk q z s ks) ⟨q,at',lo,hi,most,names,es⟩ K0 S0 (rawVs ND (ks.take (e)) (l.take (e))) (e)∧T = .mk K0 0 0 S0 [] (rawVs ND ks l)∧e≤ks.length∧j=ks.length - e) ks.length (rwSt (wG a b A B ND rt) (.mk q z s ks) ⟨q,at',lo,hi,most,names,es⟩ _ _ [] 0) (weak_bt 5 ⟨0,91,6,none⟩ rfl rfl rfl (by repeat' (first | exact rfl | exact we_rfl rfl | exact we_tok (Nat.le_refl _) rfl | exact we_tok (Nat.le_refl _) rfl | refine ⟨_,_,rfl,?_,?_⟩)) rfl rfl (by repeat' (first | exact trivial | exact we_rfl rfl | exact we_tok (Nat.le_refl _) rfl | refine ⟨⟨_,rfl,?_⟩,?_⟩))) ⟨0,_,_,rfl,hTT,by omega,by omega⟩ ?_
    rintro _ st ⟨e,K0,S0,rfl,hTT,he,rfl⟩
    refine br (fun hL=>?_) (fun hL=>?_)
    ·have hlt:e < ks.length:=by simpa [hdl] using hL
     obtain ⟨hll,hfs⟩:=hkids (by first | omega | (exfalso;have:=hleaf (by omega);subst this;simp at hlt))
     obtain ⟨x,hx⟩:∃ x,ks[e]? = some x:=⟨_,List.getElem?_eq_getElem hlt⟩
     obtain ⟨i',hi'⟩:∃ i',l[e]? = some i':=⟨_,List.getElem?_eq_getElem (by omega)⟩
     have hxw:=wtVs_mem (List.mem_of_getElem? hx)
     have hw:=ih x (by omega) (by omega) i' (fitVs_at hfs hx hi')
     have hsn:=rawVs_snoc (ND:=ND) hx hi'
     have hRl:(rawVs ND (ks.take e) (l.take e)).length=e:=by
      rw [rawVs_len]
      ·rw [List.length_take];omega
      ·rw [List.length_take,List.length_take];omega
     have htk:=hto e
     rw [htoK (by first | omega | (exfalso;have:=hleaf (by omega);subst this;simp at hlt)) hi'] at htk
     generalize rawV ND x i'=r at hw hsn
     obtain ⟨xk,xn,xs,xl⟩:=x
     obtain ⟨rk,ra,rn,rs,rky,rks⟩:=r
     refine drawG_s mo (by decide +kernel) ?_
     refine callD_p en110 (htk) ax rfl ?_
     refine ⟨_,⟨by omega,dVals_get hx⟩,?_⟩
     refine callD_p en58 (hw) ax rfl ?_
     refine ⟨by rw [dRws_len,hRl],⟨by rw [dRws_len,hRl];simp [maxLen];omega,by rw [dRws_len,hRl];simp;omega⟩,?_⟩
     exact ⟨rwSt (wG a b A B ND rt) (.mk q z s ks) ⟨q,at',lo,hi,most,names,es⟩ K0 S0 (rawVs ND (ks.take (e + 1)) (l.take (e + 1))) (e + 1),(weak_b 5 rfl (by repeat' (first | exact rfl | exact we_rfl rfl | exact we_int (nxt hlt (by omega)) | exact we_sl ((dRws_snoc _ _).trans (congrArg dRws hsn.symm)) rfl | refine ⟨_,_,rfl,?_,?_⟩)) rfl rfl rfl (by repeat' (first | exact trivial | exact we_rfl rfl | exact we_int (nxt hlt (by omega)) | exact we_sl ((dRws_snoc _ _).trans (congrArg dRws hsn.symm)) rfl | refine ⟨⟨_,rfl,?_⟩,?_⟩))),ks.length - (e + 1),by omega,e + 1,K0,S0,rfl,hTT,by omega,rfl⟩
    ·have hge:e=ks.length:=by
      have:=hL;simp [hdl] at this;omega
     have ht:rawVs ND (ks.take e) (l.take e)=rawVs ND ks l:=by
      by_cases h5:5≤q
      ·rw [hge,List.take_length,← (hkids h5).1,List.take_length]
      ·have:=hleaf (by omega);subst this;simp [rawVs]
     rw [ht,hTT]
     exact ⟨_,ax,rfl⟩
end Go.Proofs.YtmphiikdhifhjaaGreat
set_option maxRecDepth 100000
namespace Go.Proofs.YtmphiikdhifhjaaGreat
open Go Go.RowKit Dv Tryz
def exS25:Sch:=⟨[⟨⟨#[97]⟩,0⟩],[],[],.mk (exH 1) .nil⟩
def exV25:Val:=.mk 1 1 emptyB []
theorem ex25_fine:(resF exS25).1=0:=by decide +kernel
theorem ex25_fit:fitV (resNds exS25) exV25 0=true:=by decide +kernel
theorem ex25_raw:rawV (resNds exS25) exV25 0 = .mk 1 0 0 trueB [] []:=by kernel_rfl
theorem lives25_spec:EvP Tryz.prog 49 [] (.v (.bool true)):=by
 have hwt:exS25.wt≤1099511627776:=by decide +kernel
 have hwv:exV25.wt≤1099511627776:=by decide +kernel
 have hb:=(build_spec exS25 hwt).mono (Ψ:=fun r _ _=>BuiltΦ exS25 r) fun _ _ _ h=>builtΦ_of hwt h
 refine ev_go (P:=Tryz.prog) tt tt_ok 5000 30 [.tmp 0] Tryz.func49 rfl Tryz.ntmps49 rfl (Nat.le_of_ble_eq_true rfl) (fun E9 w9 hn9 hm9=>?_)
 refine call_e en26 rfl hb ax (fun r hr=>?_)
 rcases hr with ⟨hr,_⟩ | ⟨_,PC,hP,rfl⟩
 ·exact (hr ex25_fine).elim
 have hr:=traw_spec hP exV25 hwv 0
 rw [if_pos ex25_fit,ex25_fit,ex25_raw] at hr
 refine call_p en51 (hr) ax rfl ?_
 exact (rfl:_=_)
theorem fine25_spec (S:Sch) (hS:S.wt≤1099511627776) (v:Val) (hv:v.wt≤1099511627776):Ev Tryz.prog 48 [.agg (dSch S),.agg (dVal v)] [] [] (fun r _ _=>FineΦ S r):=by
 have ga:=great17_spec S hS
 have hwr:=wrong18_spec S hS
 have hsz:=size25_spec v.wt v (Nat.le_refl _) hv
 unfold FineΦ
 generalize resF S=R at hwr ⊢
 obtain ⟨levels,order,types,⟨rh,rp⟩⟩:=S
 obtain ⟨q,z,s,ks⟩:=v
 refine ev_go (P:=Tryz.prog) tt tt_ok 5000 25 [.tmp 4] Tryz.func48 rfl Tryz.ntmps48 rfl (Nat.le_of_ble_eq_true rfl) (fun E9 w9 hn9 hm9=>?_)
 refine call_p en50 (hsz) ax rfl ?_
 refine br (fun c=>?_) (fun c=>?_)
 ·refine call_e en19 rfl ga ax (fun r hr=>?_)
  obtain ⟨g,rfl⟩:=hr
  cases g with
  | true=>
   refine ⟨false,?_,fun h=>by cases h⟩
   rfl
  | false=>
   refine call_p en24 (hwr) ax rfl ?_
   refine ⟨_,ft_cmp _ _ R (0,0),?_⟩
   refine ⟨_,rfl,fun h=>?_⟩
   simp [pickB] at h
   exact h.1
 ·have c:decide (((cntV (Val.mk q z s ks):Nat):Int)≤3000)=false:=by simpa using c
  refine ⟨false,?_,fun h=>by cases h⟩
  refine (congrArg (fun b=>DV.v (.bool b)) ?_:_=_)
  rfl
theorem fits25_law (S:Sch) (hS:S.wt≤1099511627776) (_:rngS S) (v:Val) (hv:v.wt≤1099511627776) (i:Int):EvP Tryz.prog 12 [.agg (dSch S),.agg (dVal v),.v (.int .i64 i)] (.v (.bool true)):=by
 have hf:=fine25_spec S hS v hv
 have hb:=(build_spec S hS).mono (Ψ:=fun r _ _=>BuiltΦ S r) fun _ _ _ h=>builtΦ_of hS h
 have hw:=fun h=>build18_spec S hS h
 have hsz:=size25_spec v.wt v (Nat.le_refl _) hv
 have hct:=tcount_spec v.wt v (Nat.le_refl _) hv
 have hdp:=tdepth_spec v.wt v (Nat.le_refl _) hv
 have hsm:=tsame_spec v.wt v (Nat.le_refl _) hv v
 rw [sameV_refl] at hsm
 have hfn:=tfits_nil v i
 have hvv:Val.mk v.k v.n v.s v.ks=v:=by cases v;rfl
 refine ev_go (P:=Tryz.prog) tt tt_ok 5000 94 [.tmp 6] Tryz.func12 rfl Tryz.ntmps12 rfl (Nat.le_of_ble_eq_true rfl) (fun E9 w9 hn9 hm9=>?_)
 obtain ⟨levels,order,types,⟨rh,rp⟩⟩:=S
 obtain ⟨q,z,s,ks⟩:=v
 refine call_e en48 rfl hf ax (fun r hr=>?_)
 obtain ⟨b,rfl,h0⟩:=hr
 cases b with
 | false=>
  refine call_p en49 (lives25_spec) ax rfl ?_
  exact (rfl:_=_)
 | true=>
  have h0:=h0 rfl
  have hw:=hw h0
  refine call_e en26 rfl hb ax (fun r hr=>?_)
  rcases hr with ⟨hr,_⟩ | ⟨_,PC,hP,rfl⟩
  ·exact (hr h0).elim
  have hrw:=traw_spec hP (.mk q z s ks) hv i
  have hft:=fun A B=>fits25_spec 2 1 A B (resRoot ⟨levels,order,types,.mk rh rp⟩) hP.ok (Val.mk q z s ks).wt (.mk q z s ks) (Nat.le_refl _) hv i
  have htf:=tfits_spec hP (Val.mk q z s ks).wt (.mk q z s ks) (Nat.le_refl _) hv i
  have hr25:=fun A B=>raw25_spec 2 1 A B (resRoot ⟨levels,order,types,.mk rh rp⟩) hP.ok (Val.mk q z s ks).wt (.mk q z s ks) (Nat.le_refl _) hv i
  have hrok:=raw_ok hP.ok (.mk q z s ks) i
  have hrc:=cntR_raw (L:=0) (ND:=resNds ⟨levels,order,types,.mk rh rp⟩) (.mk q z s ks) i
  have heq:=fit_eq hP.ok (.mk q z s ks) i
  rw [← heq] at hft
  generalize cntV (Val.mk q z s ks)=ct at hsz hct
  generalize depV (Val.mk q z s ks)=dp at hsz hdp
  generalize rawV (resNds ⟨levels,order,types,.mk rh rp⟩) (.mk q z s ks) i=R at hrw hr25 hrok hrc
  generalize fitV (resNds ⟨levels,order,types,.mk rh rp⟩) (.mk q z s ks) i=F at hrw hft htf hr25 hrok
  generalize resNds ⟨levels,order,types,.mk rh rp⟩=ND at hw hft hr25
  generalize resRoot ⟨levels,order,types,.mk rh rp⟩=rt at hw hft hr25
  refine call_p en27 (hw) ax rfl ?_
  refine call_p en50 (hsz) ax rfl ?_
  cases F with
  | true=>
   rw [if_pos rfl] at hrw
   have hr25:=fun A B=>hr25 A B rfl
   have hsame:=same22_spec (cntR R) R (Nat.le_refl _) (by omega) (hrok rfl)
   obtain ⟨rk,ra,rn,rs,rky,rks⟩:=R
   refine call_p en51 (hrw) ax rfl ?_
   refine call_p en52 (hft _ _) ax rfl ?_
   refine call_p en53 (hct) ax rfl ?_
   refine br (fun _=>?_) (fun g=>absurd g (by simp [pickB_or]))
   refine call_p en54 (hdp) ax rfl ?_
   refine br (fun _=>?_) (fun g=>absurd g (by simp [pickB_or]))
   refine call_p en55 (htf) ax rfl ?_
   refine call_p en55 (hfn) ax rfl ?_
   refine call_p en56 (hsm) ax rfl ?_
   refine drawG_i (fun _=>false) mo (by decide +kernel) ?_
   refine callD_p en58 (hr25 _ _) ax rfl ?_
   refine callD_p en57 (hsame) ax rfl ?_
   refine callD_p en49 (lives25_spec) ax rfl ?_
   exact (rfl:_=_)
  | false=>
   rw [if_neg (by simp)] at hrw
   have hsame:=same22_spec (cntR zeroR) zeroR (Nat.le_refl _) (by decide) (by simp [RwOK,RwOKs])
   refine call_p en51 (hrw) ax rfl ?_
   refine call_p en52 (hft _ _) ax rfl ?_
   refine call_p en53 (hct) ax rfl ?_
   refine br (fun _=>?_) (fun g=>absurd g (by simp [pickB_or]))
   refine call_p en54 (hdp) ax rfl ?_
   refine br (fun _=>?_) (fun g=>absurd g (by simp [pickB_or]))
   refine call_p en55 (htf) ax rfl ?_
   refine call_p en55 (hfn) ax rfl ?_
   refine call_p en56 (hsm) ax rfl ?_
   refine call_p en57 (hsame) ax rfl ?_
   refine call_p en49 (lives25_spec) ax rfl ?_
   exact (rfl:_=_)
end Go.Proofs.YtmphiikdhifhjaaGreat
