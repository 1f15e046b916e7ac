/- Part 6 of the proof: tree.Fits; the document's To, Fits; Values as they are written: plain; tree.write, Raw; tree.write, Raw; The least depths of the values of a plan's nodes: plain; The program's nodes, least depths; The document's least depths; fine; the chapter's example; The program's Depths; The law of least depths: fine, the example, the call returns true; The document's Fits; Written values: well formed; the document's Same on the same value; its Raw; The document's Raw; The law of values that fit: fine, the example, the call returns true; Paths: data, Step compared with itself; ref09.Begins, Same on the same path; ref25.Step; Paths of a value: plain; tree.steps; Where steps lead in a value, and that value with another one there: plain; Rules for the evaluator: calls that hand back fresh rows; Rules for the evaluator: elements of rows whose cells nobody else knows, read and written whole; tree: slices.Index of steps, kid, clone, Get; ref25.Paths; tree: walk, Paths; The law of paths: the call returns true. No condition. -/
import Derived.Test.YtdeaicofhmkebaaGreatMg2
import Derived.Test.YtdeaicofhmkebaaGreatMg3
import Derived.Test.YtdeaicofhmkebaaGreatMg4
import Derived.Test.YtdeaicofhmkebaaGreatMg5
set_option linter.all false
set_option maxRecDepth 100000
namespace Go.Proofs.YtdeaicofhmkebaaGreat
open Go Go.RowKit Dv Tryz
theorem kidsB_len {n:Nd} {v:Val} (hk:5≤n.kind) (h:kidsB n v=true):(kidsL n v).length=v.ks.length:=by
 unfold kidsB at h
 by_cases c:n.kind=5∨n.kind=6
 ·unfold kidsL;rw [if_pos c];simp
 rw [if_neg c] at h
 by_cases c7:n.kind=7
 ·rw [if_pos c7] at h
  unfold kidsL;rw [if_neg c,if_pos c7,List.length_map]
  simp at h;exact h.2
 rw [if_neg c7] at h
 cases ht:tagE n v with
 | none=>rw [ht] at h;cases h
 | some e=>rw [ht] at h;simp only [Bool.and_eq_true,decide_eq_true_eq] at h;exact h.2
theorem fitVs_drop {ND:List Nd} {ks:List Val} {l:List Int} {e:Nat} {x:Val} {i:Int} (h1:ks[e]? = some x) (h2:l[e]? = some i):fitVs ND (ks.drop e) (l.drop e)=(fitV ND x i && fitVs ND (ks.drop (e + 1)) (l.drop (e + 1))):=by
 rw [drop_cons h1,drop_cons h2,fitVs]
theorem nodeA_some {ND:List Nd} {i:Int} {d:Nd} (h:nodeA ND i=some d):0≤i∧ND[i.toNat]? = some d:=by
 unfold nodeA at h
 split at h
 ·cases h
 ·exact ⟨by omega,h⟩
theorem nodeA_none {ND:List Nd} {i:Int} (h:nodeA ND i=none):i < 0∨(ND.length:Int)≤i:=by
 unfold nodeA at h
 split at h
 ·left;assumption
 ·right
  have:=List.getElem?_eq_none_iff.1 h
  omega
abbrev tfSt (PC:List DV) (v:Val) (l:List Int) (e:Nat):St:=
 ⟨[(0,⟨[],.pt PC 0⟩),(5,⟨[],.loc 0 0⟩),(36,⟨[],.sl 1 (dZs l) none⟩),(37,⟨[],.v (.int .i64 l.length)⟩),(38,⟨[],.v (.int .i64 e)⟩)],[dVal v],[]⟩
theorem tfits_spec {S:Sch} {ND:List Nd} {PC:List DV} (hP:PlanR S ND PC):∀ (k:Nat) (v:Val),v.wt≤k→v.wt≤1099511627776→∀ i:Int,EvP Tryz.prog 51 [.pt PC 0,.v (.int .i64 i),.agg (dVal v)] (.v (.bool (fitV ND v i)))
 | 0,v,h,_=>by have:=v.wt_pos;omega
 | k + 1,.mk q z s ks,h,hb=>fun i=>by
  have ih:=tfits_spec hP k
  have hkl:=wtVs_len ks
  have hdl:=dVals_len ks
  have hb':=hb
  rw [Val.wt] at h hb
  rw [fitV]
  have hnode:=hP.node
  have hnodeN:=hP.nodeN
  have hok:=hP.ok
  cases hd:nodeA ND i with
  | none=>
   refine ev_go (P:=Tryz.prog) tt tt_ok 5000 53 [.tmp 6] Tryz.func51 rfl Tryz.ntmps51 rfl (Nat.le_of_ble_eq_true rfl) (fun E9 w9 hn9 hm9=>?_)
   refine call_p en19 (hnodeN i (nodeA_none hd)) ax rfl ?_
   exact (rfl:_=_)
  | some d=>
   obtain ⟨h0,hg⟩:=nodeA_some hd
   obtain ⟨j,rfl⟩:∃ j:Nat,i=j:=⟨i.toNat,by omega⟩
   have hg:ND[j]? = some d:=by simpa using hg
   have hN:=hok d (List.mem_of_getElem? hg)
   have hlf:=leaf_spec d (.mk q z s ks)
   have hkd:=fun h5=>kids_spec hN h5 (.mk q z s ks) hb'
   have hlen:=fun h5=>kidsB_len (n:=d) (v:=.mk q z s ks) h5
   simp only
   obtain ⟨kind,at',lo,hi,most,names,es⟩:=d
   simp only at hkd hlen
   refine ev_go (P:=Tryz.prog) tt tt_ok 5000 53 [.tmp 6] Tryz.func51 rfl Tryz.ntmps51 rfl (Nat.le_of_ble_eq_true rfl) (fun E9 w9 hn9 hm9=>?_)
   refine call_p en19 (hnode j _ hg) ax rfl ?_
   refine br (fun c=>?_) (fun c=>?_)
   ·have c:kind < 5:=by simpa using c
    rw [if_pos c]
    refine call_p en117 (hlf) ax rfl ?_
    exact (rfl:_=_)
   have c:¬ kind < 5:=by simpa using c
   rw [if_neg c]
   have hkd:=hkd (by omega)
   have hlen:=hlen (by omega)
   generalize kidsL ⟨kind,at',lo,hi,most,names,es⟩ (.mk q z s ks)=l at hkd hlen ⊢
   have hzl:=dZs_len l
   refine call_p en118 (hkd) ax rfl ?_
   cases hB:kidsB ⟨kind,at',lo,hi,most,names,es⟩ (.mk q z s ks) with
   | false=>
    exact (rfl:_=_)
   | true=>
    have hlen:l.length=ks.length:=hlen hB
    rw [Bool.true_and]
    refine loop_i (fun j st=>∃ e:Nat,st=tfSt PC (.mk q z s ks) l e∧e≤l.length∧fitVs ND ks l=fitVs ND (ks.drop e) (l.drop e)∧j=l.length - e) l.length (tfSt PC (.mk q z s ks) l 0) (weak_mk ⟨_,rfl⟩ wA rfl rfl rfl (by repeat' (first | exact trivial | exact we_rfl rfl | exact we_int (congrArg Nat.cast hzl) | refine ⟨⟨_,rfl,?_⟩,?_⟩))) ⟨0,rfl,by omega,rfl,by omega⟩ ?_
    rintro _ st ⟨e,rfl,he,heq,rfl⟩
    refine br (fun hL=>?_) (fun hL=>?_)
    ·have hlt:e < l.length:=by have:=hL;simp at this;exact this
     obtain ⟨x,hx⟩:∃ x,ks[e]? = some x:=⟨_,List.getElem?_eq_getElem (by omega)⟩
     obtain ⟨y,hy⟩:∃ y,l[e]? = some y:=⟨_,List.getElem?_eq_getElem hlt⟩
     have hxw:=wtVs_mem (List.mem_of_getElem? hx)
     rw [fitVs_drop hx hy] at heq
     have hi':=ih x (by omega) (by omega) y
     obtain ⟨xk,xn,xs,xl⟩:=x
     refine ⟨_,⟨by omega,dZs_get hy⟩,?_⟩
     refine ⟨_,⟨by omega,dVals_get hx⟩,?_⟩
     refine call_p en51 (hi') ax rfl ?_
     refine br (fun g=>?_) (fun g=>?_)
     ·have g:fitV ND (.mk xk xn xs xl) y=false:=by simpa using g
      rw [heq,g]
      exact (rfl:_=_)
     ·have g:fitV ND (.mk xk xn xs xl) y=true:=by simpa using g
      rw [g,Bool.true_and] at heq
      exact ⟨tfSt PC (.mk q z s ks) l (e + 1),(weak_mk ⟨_,rfl⟩ wA rfl rfl rfl (by repeat' (first | exact trivial | exact we_rfl rfl | exact we_int (nxt hlt (by omega)) | refine ⟨⟨_,rfl,?_⟩,?_⟩))),l.length - (e + 1),by omega,e + 1,rfl,by omega,heq,rfl⟩
    ·have hge:e=l.length:=by have:=hL;simp at this;omega
     rw [List.drop_of_length_le (by omega),List.drop_of_length_le (by omega)] at heq
     rw [heq]
     exact (rfl:_=_)
theorem to25_spec {L N:Nat} {n:Nd} (hn:NdOK L N n) (v:Val) (j:Nat):EvP Tryz.prog 96 [.agg (dNd n),.agg (dVal v),.v (.int .i64 j)] (.v (.int .i64 (toR n v j))):=by
 have hone:=hn.one
 obtain ⟨kind,at',lo,hi,most,names,es⟩:=n
 obtain ⟨q,z,s,ks⟩:=v
 have hel:=dEds_len es
 simp only at hone
 have hF:toR ⟨kind,at',lo,hi,most,names,es⟩ (.mk q z s ks) j=if kind=5 then (if (j:Int) < most then to0 ⟨kind,at',lo,hi,most,names,es⟩ else -1)
  else if kind=6 then (if j < 1 then to0 ⟨kind,at',lo,hi,most,names,es⟩ else -1)
  else if kind=7 then (match es[j]? with | some e=>e.to | none=>-1)
  else if kind=8 then (if j < 1∧0≤z∧z < es.length then (match es[z.toNat]? with | some e=>e.to | none=>-1) else -1)
  else -1:=rfl
 rw [hF]
 refine ev_go (P:=Tryz.prog) tt tt_ok 5000 66 [.tmp 6] Tryz.func96 rfl Tryz.ntmps96 rfl (Nat.le_of_ble_eq_true rfl) (fun E9 w9 hn9 hm9=>?_)
 refine br (fun c=>?_) (fun c=>?_)
 ·have c:kind=5:=by simpa using c
  rw [if_pos c]
  obtain ⟨x,hes,_,_⟩:=hone (.inl c)
  have hg0:(dEds es)[0]? = some (dEd x):=by rw [hes];rfl
  have ht0:to0 ⟨kind,at',lo,hi,most,names,es⟩=x.to:=by simp [to0,hes]
  refine br (fun g=>?_) (fun g=>?_)
  ·have g:(j:Int) < most:=by simpa using g
   rw [if_pos g,ht0]
   refine ⟨_,⟨by omega,hg0⟩,?_⟩
   exact (rfl:_=_)
  ·have g:¬ (j:Int) < most:=by simpa using g
   rw [if_neg g]
   exact (rfl:_=_)
 have c5:¬ kind=5:=by simpa using c
 rw [if_neg c5]
 refine br (fun c=>?_) (fun c=>?_)
 ·have c:kind=6:=by simpa using c
  rw [if_pos c]
  obtain ⟨x,hes,_,_⟩:=hone (.inr c)
  have hg0:(dEds es)[0]? = some (dEd x):=by rw [hes];rfl
  have ht0:to0 ⟨kind,at',lo,hi,most,names,es⟩=x.to:=by simp [to0,hes]
  refine br (fun g=>?_) (fun g=>?_)
  ·have g:j < 1:=by have:=g;simp at this;omega
   rw [if_pos g,ht0]
   refine ⟨_,⟨by omega,hg0⟩,?_⟩
   exact (rfl:_=_)
  ·have g:¬ j < 1:=by have:=g;simp at this;omega
   rw [if_neg g]
   exact (rfl:_=_)
 have c6:¬ kind=6:=by simpa using c
 rw [if_neg c6]
 refine br (fun c=>?_) (fun c=>?_)
 ·have c:kind=7:=by simpa using c
  rw [if_pos c]
  refine br (fun g=>?_) (fun g=>?_)
  ·have g:j < es.length:=by have:=g;simp [hel] at this;exact this
   obtain ⟨x,hx⟩:∃ x,es[j]? = some x:=⟨_,List.getElem?_eq_getElem g⟩
   refine ⟨_,⟨by omega,dEds_get hx⟩,?_⟩
   rw [hx]
   exact (rfl:_=_)
  ·have g:es.length≤j:=by have:=g;simp [hel] at this;omega
   rw [List.getElem?_eq_none g]
   exact (rfl:_=_)
 have c7:¬ kind=7:=by simpa using c
 rw [if_neg c7]
 refine br (fun c=>?_) (fun c=>?_)
 ·have c:kind=8:=by simpa using c
  rw [if_pos c]
  have hc:∀ b:Bool,b=pickB (pickB (decide ((j:Int) < 1)) (decide (0≤z)) false) (decide (z < ((dEds es).length:Int))) false→b=decide (j < 1∧0≤z∧z < es.length):=fun b h=>by
   rw [h,hel,pickB_and,pickB_and,Bool.eq_iff_iff]
   simp
   omega
  refine br (fun g=>?_) (fun g=>?_)
  ·have g:=of_decide_eq_true ((hc _ rfl).symm.trans g)
   obtain ⟨x,hx⟩:∃ x,es[z.toNat]? = some x:=⟨_,List.getElem?_eq_getElem (by omega)⟩
   rw [if_pos g,hx]
   refine ⟨_,⟨by omega,dEds_get hx⟩,?_⟩
   exact (rfl:_=_)
  ·have g:=of_decide_eq_false ((hc _ rfl).symm.trans g)
   rw [if_neg g]
   exact (rfl:_=_)
 ·have c8:¬ kind=8:=by simpa using c
  rw [if_neg c8]
  exact (rfl:_=_)
end Go.Proofs.YtdeaicofhmkebaaGreat
set_option maxRecDepth 100000
namespace Go.Proofs.YtdeaicofhmkebaaGreat
open Go Go.RowKit Dv Tryz
inductive Rw where
 | mk (k at' n:Int) (s:ByteArray) (keys:List Wd) (ks:List Rw)
mutual
def dRw:Rw→List DV
 | .mk k a n s keys ks=>[.v (.int .i64 k),.v (.int .i64 a),.v (.int .i64 n),.v (.string s),.sl 2 (dWds keys) none,.sl 6 (dRws ks) none]
def dRws:List Rw→List (List DV)
 | []=>[]
 | v :: r=>dRw v :: dRws r
end
theorem dRws_map:∀ l:List Rw,dRws l=l.map dRw
 | []=>rfl
 | v :: r=>by rw [dRws,dRws_map r];rfl
theorem dRws_len (l:List Rw):(dRws l).length=l.length:=by rw [dRws_map,List.length_map]
theorem dRws_snoc (l:List Rw) (x:Rw):dRws l ++ [dRw x]=dRws (l ++ [x]):=by rw [dRws_map,dRws_map];simp
def trueB:ByteArray:=⟨#[116,114,117,101]⟩
def falseB:ByteArray:=⟨#[102,97,108,115,101]⟩
def someB:ByteArray:=⟨#[115,111,109,101]⟩
def noneB:ByteArray:=⟨#[110,111,110,101]⟩
def tagN (d:Nd) (v:Val):ByteArray:=match tagE d v with | some e=>e.name | none=>emptyB
def wrF (d:Nd) (v:Val) (rs:List Rw):Rw:=
 if v.k=1 then .mk 1 0 0 (if v.n=1 then trueB else falseB) [] []
 else if v.k=2 then .mk 2 0 v.n emptyB [] []
 else if v.k=3 then .mk 3 0 0 v.s [] []
 else if v.k=4 then .mk 1 0 0 (d.names[v.n.toNat]?.getD emptyB) [] []
 else if v.k=5 then .mk 4 0 0 emptyB [] rs
 else if v.k=7 then .mk 5 0 0 emptyB (d.edges.map fun e=>⟨e.name,0⟩) rs
 else .mk (if 0 < v.ks.length then 6 else 1) 0 0 (if v.k=8 then tagN d v else if 0 < v.ks.length then someB else noneB) [] rs
mutual
def rawV (ND:List Nd):Val→Int→Rw
 | .mk k n s ks,i=>match nodeA ND i with
  | none=>.mk 0 0 0 emptyB [] []
  | some d=>wrF d (.mk k n s ks) (rawVs ND ks (kidsL d (.mk k n s ks)))
def rawVs (ND:List Nd):List Val→List Int→List Rw
 | v :: r,i :: l=>rawV ND v i :: rawVs ND r l
 | _,_=>[]
end
theorem rawVs_len (ND:List Nd):∀ (ks:List Val) (l:List Int),l.length=ks.length→(rawVs ND ks l).length=ks.length
 | [],[],_=>rfl
 | v :: r,i :: l,h=>by rw [rawVs,List.length_cons,rawVs_len ND r l (by simpa using h)];rfl
 | [],_ :: _,h=>by simp at h
 | _ :: _,[],h=>by simp at h
theorem rawVs_snoc {ND:List Nd}:∀ {ks:List Val} {l:List Int} {e:Nat} {x:Val} {i:Int},ks[e]? = some x→l[e]? = some i→rawVs ND (ks.take (e + 1)) (l.take (e + 1))=rawVs ND (ks.take e) (l.take e) ++ [rawV ND x i]
 | [],_,e,x,i,h,_=>by simp at h
 | _ :: _,[],e,x,i,_,h=>by simp at h
 | v :: r,j :: l,0,x,i,h1,h2=>by
  simp only [List.getElem?_cons_zero,Option.some.injEq] at h1 h2
  subst h1 h2
  simp [rawVs]
 | v :: r,j :: l,e + 1,x,i,h1,h2=>by
  simp only [List.getElem?_cons_succ] at h1 h2
  simp only [List.take_succ_cons,rawVs,List.cons_append]
  rw [rawVs_snoc h1 h2]
structure FitF (ND:List Nd) (v:Val) (i:Int) (d:Nd):Prop where
 node:nodeA ND i=some d
 k:v.k=d.kind
 leaf:d.kind < 5→v.ks=[]
 enum:d.kind=4→0≤v.n∧v.n < d.names.length
 kids:5≤d.kind→(kidsL d v).length=v.ks.length∧fitVs ND v.ks (kidsL d v)=true
 tag:d.kind=8→∃ e,tagE d v=some e∧d.edges[v.n.toNat]? = some e∧0≤v.n∧v.n < d.edges.length∧(e.bare=true↔v.ks=[])
 opt:d.kind=6→v.ks.length≤1
theorem fit_facts {L:Nat} {ND:List Nd} (hok:∀ n∈ND,NdOK L ND.length n) {v:Val} {i:Int} (h:fitV ND v i=true):∃ d,FitF ND v i d:=by
 obtain ⟨k,n,s,ks⟩:=v
 rw [fitV] at h
 cases hd:nodeA ND i with
 | none=>rw [hd] at h;cases h
 | some d=>
  rw [hd] at h
  simp only at h
  have hN:=hok d (List.mem_of_getElem? (nodeA_some hd).2)
  have hk1:=hN.k1
  have hk8:=hN.k8
  by_cases h5:d.kind < 5
  ·rw [if_pos h5] at h
   unfold leafF at h
   by_cases hc:0 < (Val.mk k n s ks).ks.length∨((Val.mk k n s ks).k≠3∧(Val.mk k n s ks).s≠emptyB)∨((Val.mk k n s ks).k=3∧(Val.mk k n s ks).n≠0)
   ·rw [if_pos hc] at h;cases h
   rw [if_neg hc] at h
   have hnil:ks=[]:=by
    cases ks with
    | nil=>rfl
    | cons a b=>exact (hc (.inl (by simp [Val.ks]))).elim
   have hk:k=d.kind∧(d.kind=4→0≤n∧n < d.names.length):=by
    rcases (show d.kind=1∨d.kind=2∨d.kind=3∨d.kind=4 by omega) with c | c | c | c
    all_goals
     simp [c,Val.k,Val.n] at h
     simp only [c]
     constructor
     ·first | exact of_decide_eq_true h.1 | exact of_decide_eq_true h.1.1
     ·first | (intro;omega) | exact fun _=>⟨of_decide_eq_true h.1.2,of_decide_eq_true h.2⟩
   exact ⟨d,{ node:=hd,k:=hk.1,leaf:=fun _=>hnil,enum:=hk.2,kids:=fun h=>by omega,tag:=fun h=>by omega,opt:=fun h=>by omega }⟩
  ·rw [if_neg h5,Bool.and_eq_true] at h
   obtain ⟨hB,hf⟩:=h
   have hlen:=kidsB_len (by omega) hB
   have hB2:=hB
   unfold kidsB at hB
   by_cases c:d.kind=5∨d.kind=6
   ·rw [if_pos c] at hB
    simp only [Bool.and_eq_true,decide_eq_true_eq] at hB
    exact ⟨d,{ node:=hd,k:=hB.1.2,leaf:=fun h=>by omega,enum:=fun h=>by omega,kids:=fun _=>⟨hlen,hf⟩,tag:=fun h=>by omega,opt:=fun h=>by have:=hB.2;rw [if_pos h] at this;omega }⟩
   rw [if_neg c] at hB
   by_cases c7:d.kind=7
   ·rw [if_pos c7] at hB
    simp only [Bool.and_eq_true,decide_eq_true_eq] at hB
    exact ⟨d,{ node:=hd,k:=by rw [c7];exact hB.1.2,leaf:=fun h=>by omega,enum:=fun h=>by omega,kids:=fun _=>⟨hlen,hf⟩,tag:=fun h=>by omega,opt:=fun h=>by omega }⟩
   rw [if_neg c7] at hB
   cases ht:tagE d (.mk k n s ks) with
   | none=>rw [ht] at hB;cases hB
   | some e=>
    have ht2:=ht
    unfold tagE at ht2
    split at ht2
    ·rename_i hr
     have hkl:kidsL d (.mk k n s ks)=if e.bare=true then [] else [e.to]:=by unfold kidsL;rw [if_neg c,if_neg c7,ht]
     refine ⟨d,{ node:=hd,k:=by have:=hr.1;omega,leaf:=fun h=>by omega,enum:=fun h=>by omega,kids:=fun _=>⟨hlen,hf⟩,tag:=fun _=>⟨e,ht,ht2,hr.2.1,hr.2.2,?_⟩,opt:=fun h=>by omega }⟩
     rw [hkl] at hlen
     constructor
     ·intro hb
      rw [if_pos hb] at hlen
      exact List.eq_nil_of_length_eq_zero hlen.symm
     ·intro hnil
      rw [hnil] at hlen
      cases hb:e.bare
      ·rw [hb] at hlen;simp at hlen
      ·rfl
    ·cases ht2
theorem fitVs_at {ND:List Nd}:∀ {ks:List Val} {l:List Int} {e:Nat} {x:Val} {i:Int},fitVs ND ks l=true→ks[e]? = some x→l[e]? = some i→fitV ND x i=true
 | [],_,e,x,i,_,h,_=>by simp at h
 | _ :: _,[],e,x,i,_,_,h=>by simp at h
 | v :: r,j :: l,0,x,i,h,h1,h2=>by
  simp only [List.getElem?_cons_zero,Option.some.injEq] at h1 h2
  subst h1 h2
  rw [fitVs,Bool.and_eq_true] at h
  exact h.1
 | v :: r,j :: l,e + 1,x,i,h,h1,h2=>by
  simp only [List.getElem?_cons_succ] at h1 h2
  rw [fitVs,Bool.and_eq_true] at h
  exact fitVs_at h.2 h1 h2
end Go.Proofs.YtdeaicofhmkebaaGreat
set_option maxRecDepth 100000
namespace Go.Proofs.YtdeaicofhmkebaaGreat
open Go Go.RowKit Dv Tryz
theorem truth_spec (z:Int):EvP Tryz.prog 229 [.v (.int .i64 z)] (.v (.string (if z=1 then trueB else falseB))):=by
 refine ev_go (P:=Tryz.prog) tt tt_ok 5000 5 [.tmp 2] Tryz.func229 rfl Tryz.ntmps229 rfl (Nat.le_of_ble_eq_true rfl) (fun E9 w9 hn9 hm9=>?_)
 refine br (fun c=>?_) (fun c=>?_)
 ·have c:z=1:=by simpa using c
  rw [if_pos c]
  exact (rfl:_=_)
 ·have c:¬ z=1:=by simpa using c
  rw [if_neg c]
  exact (rfl:_=_)
abbrev zRw:List DV:=[.v (.int .i64 0),.v (.int .i64 0),.v (.int .i64 0),.v (.string emptyB),.v (.slice none 0 0),.v (.slice none 0 0)]
abbrev oRw (k:Int) (s:ByteArray) (ky kd:DV):List DV:=[.v (.int .i64 k),.v (.int .i64 0),.v (.int .i64 0),.v (.string s),ky,kd]
abbrev wrSt (PC:List DV) (v:Val) (d:Nd) (l:List Int) (rs:List Rw) (q e:Nat):St:=
 ⟨[(0,⟨[],.pt PC 0⟩),(5,⟨[],.loc 0 0⟩),(6,⟨[],.loc 1 0⟩),(7,⟨[],.loc 2 0⟩),(9,⟨[],.sl 1 (dZs l) none⟩),(11,⟨[],.loc 3 0⟩),(58,⟨[],.sl 4 (dVals v.ks) none⟩),(59,⟨[],.v (.int .i64 (dVals v.ks).length)⟩),(60,⟨[],.v (.int .i64 e)⟩)],
  [dVal v,zRw,dNd d,oRw 4 emptyB (.v (.slice none 0 0)) (.sl 6 (dRws rs) (some 0))],[⟨q,161,6,none⟩]⟩
abbrev kySt (v:Val) (d:Nd) (rs:List Rw) (n e:Nat):St:=
 ⟨[(6,⟨[],.loc 1 0⟩),(11,⟨[],.loc 3 0⟩),(87,⟨[],.sl 10 (dEds d.edges) none⟩),(88,⟨[],.v (.int .i64 (dEds d.edges).length)⟩),(89,⟨[],.v (.int .i64 e)⟩)],
  [dVal v,zRw,dNd d,oRw 5 emptyB (.sl 2 (dWds ((d.edges.take e).map fun x=>⟨x.name,0⟩)) (some 1)) (.sl 6 (dRws rs) (some 0))],[⟨n,161,6,none⟩,⟨e,27,2,none⟩]⟩
theorem twrite_spec {S:Sch} {ND:List Nd} {PC:List DV} (hP:PlanR S ND PC):∀ (k:Nat) (v:Val),v.wt≤k→v.wt≤1099511627776→∀ i:Int,fitV ND v i=true→EvP Tryz.prog 162 [.pt PC 0,.v (.int .i64 i),.agg (dVal v)] (.agg (dRw (rawV ND v i)))
 | 0,v,h,_=>by have:=v.wt_pos;omega
 | k + 1,v,h,hb=>fun i hfit=>by
  have ih:=twrite_spec hP k
  obtain ⟨d,hF⟩:=fit_facts hP.ok hfit
  have hraw:rawV ND v i=wrF d v (rawVs ND v.ks (kidsL d v)):=by
   obtain ⟨q,z,s,ks⟩:=v
   rw [rawV,hF.node]
   rfl
  obtain ⟨h0,hg⟩:=nodeA_some hF.node
  obtain ⟨j,rfl⟩:∃ j:Nat,i=j:=⟨i.toNat,by omega⟩
  have hg:ND[j]? = some d:=by simpa using hg
  have hN:=hP.ok d (List.mem_of_getElem? hg)
  have hk1:=hN.k1
  have hk8:=hN.k8
  have hkd:=fun h5=>kids_spec hN h5 v hb
  have hnode:=hP.node j d hg
  have hkk:=hF.k
  have hkids:=hF.kids
  have henum:=hF.enum
  have htag:=hF.tag
  have hopt:=hF.opt
  have hmany:=hN.many
  rw [hraw]
  obtain ⟨q,z,s,ks⟩:=v
  have hkl:=wtVs_len ks
  have hdl:=dVals_len ks
  rw [Val.wt] at h hb
  simp only [Val.k,Val.n,Val.ks] at hkk hkids henum htag hopt
  generalize kidsL d (.mk q z s ks)=l at hkd hkids ⊢
  generalize hB:kidsB d (.mk q z s ks)=kb at hkd
  have hel:=dEds_len d.edges
  have hbl:=dBs_len d.names
  have hwr:wrF d (.mk q z s ks) (rawVs ND ks l)=if q=1 then .mk 1 0 0 (if z=1 then trueB else falseB) [] []
   else if q=2 then .mk 2 0 z emptyB [] []
   else if q=3 then .mk 3 0 0 s [] []
   else if q=4 then .mk 1 0 0 (d.names[z.toNat]?.getD emptyB) [] []
   else if q=5 then .mk 4 0 0 emptyB [] (rawVs ND ks l)
   else if q=7 then .mk 5 0 0 emptyB (d.edges.map fun e=>⟨e.name,0⟩) (rawVs ND ks l)
   else .mk (if 0 < ks.length then 6 else 1) 0 0 (if q=8 then tagN d (.mk q z s ks) else if 0 < ks.length then someB else noneB) [] (rawVs ND ks l):=rfl
  simp only [Val.ks] at *
  rw [hwr]
  generalize hR:rawVs ND ks l=R
  obtain ⟨kind,at',lo,hi,most,names,es⟩:=d
  simp only at hkk hk1 hk8 hkd hkids henum htag hopt hmany hel hbl
  refine ev_go (P:=Tryz.prog) tt tt_ok 5000 127 [.cell 6 161] Tryz.func162 rfl Tryz.ntmps162 rfl (Nat.le_of_ble_eq_true rfl) (fun E9 w9 hn9 hm9=>?_)
  refine call_p en19 (hnode) ax rfl ?_
  refine br (fun c=>?_) (fun c=>?_)
  ·have c:q=1:=by simpa using c
   refine call_p en229 (truth_spec z) ax rfl ?_
   rw [if_pos c]
   exact ⟨_,ax,rfl⟩
  have c1:¬ q=1:=by simpa using c
  rw [if_neg c1]
  refine br (fun c=>?_) (fun c=>?_)
  ·have c:q=2:=by simpa using c
   rw [if_pos c]
   exact ⟨_,ax,rfl⟩
  have c2:¬ q=2:=by simpa using c
  rw [if_neg c2]
  refine br (fun c=>?_) (fun c=>?_)
  ·have c:q=3:=by simpa using c
   rw [if_pos c]
   exact ⟨_,ax,rfl⟩
  have c3:¬ q=3:=by simpa using c
  rw [if_neg c3]
  refine br (fun c=>?_) (fun c=>?_)
  ·have c:q=4:=by simpa using c
   obtain ⟨z0,z1⟩:=henum (by omega)
   obtain ⟨x,hx⟩:∃ x,names[z.toNat]? = some x:=⟨_,List.getElem?_eq_getElem (by omega)⟩
   rw [if_pos c]
   simp only [hx,Option.getD_some]
   refine ⟨_,⟨by omega,dBs_get hx⟩,?_⟩
   exact ⟨_,ax,rfl⟩
  have c4:¬ q=4:=by simpa using c
  rw [if_neg c4]
  obtain ⟨hll,hfs⟩:=hkids (by omega)
  refine call_p en118 (hkd (by omega)) ax rfl ?_
  refine loop_i (fun j st=>∃ e:Nat,st=wrSt PC (.mk q z s ks) ⟨kind,at',lo,hi,most,names,es⟩ l (rawVs ND (ks.take e) (l.take e)) e e∧e≤ks.length∧j=ks.length - e) ks.length (wrSt PC (.mk q z s ks) ⟨kind,at',lo,hi,most,names,es⟩ l [] 0 0) (weak_bt 4 ⟨0,161,6,none⟩ rfl rfl rfl (by repeat' (first | exact rfl | exact we_rfl rfl | exact we_tok (Nat.le_refl _) rfl | exact we_tok (Nat.le_refl _) rfl | refine ⟨_,_,rfl,?_,?_⟩)) rfl rfl (by repeat' (first | exact trivial | exact we_rfl rfl | exact we_tok (Nat.le_refl _) rfl | refine ⟨⟨_,rfl,?_⟩,?_⟩))) ⟨0,rfl,by omega,by omega⟩ ?_
  rintro _ st ⟨e,rfl,he,rfl⟩
  refine br (fun hL=>?_) (fun hL=>?_)
  ·have hlt:e < ks.length:=by simpa [hdl,Val.ks] using hL
   obtain ⟨x,hx⟩:∃ x,ks[e]? = some x:=⟨_,List.getElem?_eq_getElem hlt⟩
   obtain ⟨i',hi'⟩:∃ i',l[e]? = some i':=⟨_,List.getElem?_eq_getElem (by omega)⟩
   have hxw:=wtVs_mem (List.mem_of_getElem? hx)
   have hw:=ih x (by omega) (by omega) i' (fitVs_at hfs hx hi')
   have hsn:=rawVs_snoc (ND:=ND) hx hi'
   generalize rawV ND x i'=r at hw hsn
   obtain ⟨xk,xn,xs,xl⟩:=x
   refine ⟨_,⟨by omega,dVals_get (by simpa [Val.ks] using hx)⟩,?_⟩
   have hRl:(rawVs ND (ks.take e) (l.take e)).length=e:=by
    rw [rawVs_len]
    ·rw [List.length_take];omega
    ·rw [List.length_take,List.length_take];omega
   obtain ⟨rk,ra,rn,rs,rky,rks⟩:=r
   refine drawG_s mo (by decide +kernel) ?_
   refine ⟨_,⟨by omega,dZs_get hi'⟩,?_⟩
   refine callD_p en162 (hw) ax rfl ?_
   refine ⟨by rw [dRws_len,hRl],⟨by rw [dRws_len,hRl];simp [maxLen];omega,by rw [dRws_len,hRl];simp;omega⟩,?_⟩
   exact ⟨wrSt PC (.mk q z s ks) ⟨kind,at',lo,hi,most,names,es⟩ l (rawVs ND (ks.take (e + 1)) (l.take (e + 1))) (e + 1) (e + 1),(weak_b 4 rfl (by repeat' (first | exact rfl | exact we_rfl rfl | exact we_int (nxt hlt (by omega)) | exact we_sl ((dRws_snoc _ _).trans (congrArg dRws hsn.symm)) rfl | refine ⟨_,_,rfl,?_,?_⟩)) rfl rfl rfl (by repeat' (first | exact trivial | exact we_rfl rfl | exact we_int (nxt hlt (by omega)) | exact we_sl ((dRws_snoc _ _).trans (congrArg dRws hsn.symm)) rfl | refine ⟨⟨_,rfl,?_⟩,?_⟩))),ks.length - (e + 1),by omega,e + 1,rfl,by omega,rfl⟩
  ·have hge:e=ks.length:=by
    have:=hL;simp [hdl,Val.ks] at this;omega
   have ht:rawVs ND (ks.take e) (l.take e)=R:=by rw [hge,List.take_length,← hll,List.take_length,hR]
   rw [ht]
   refine br (fun c=>?_) (fun c=>?_)
   ·have c:q=5:=by simpa using c
    rw [if_pos c]
    exact ⟨_,ax,rfl⟩
   have c5:¬ q=5:=by simpa using c
   rw [if_neg c5]
   refine br (fun c=>?_) (fun c=>?_)
   ·have c:q=7:=by simpa using c
    rw [if_pos c]
    have hm64:=(hmany (.inl (by omega))).1
    refine loop_i (fun j st=>∃ u:Nat,st=kySt (.mk q z s ks) ⟨kind,at',lo,hi,most,names,es⟩ R e u∧u≤es.length∧j=es.length - u) es.length (kySt (.mk q z s ks) ⟨kind,at',lo,hi,most,names,es⟩ R e 0) (weak_bt 4 ⟨0,27,2,none⟩ rfl rfl rfl (by repeat' (first | exact rfl | exact we_rfl rfl | exact we_tok (Nat.le_refl _) rfl | exact we_tok (Nat.le_refl _) rfl | refine ⟨_,_,rfl,?_,?_⟩)) rfl rfl (by repeat' (first | exact trivial | exact we_rfl rfl | exact we_tok (Nat.le_refl _) rfl | refine ⟨⟨_,rfl,?_⟩,?_⟩))) ⟨0,rfl,by omega,by omega⟩ ?_
    rintro _ st ⟨u,rfl,hu,rfl⟩
    refine br (fun hL=>?_) (fun hL=>?_)
    ·have hlt:u < es.length:=by simpa [hel] using hL
     obtain ⟨x,hx⟩:∃ x,es[u]? = some x:=⟨_,List.getElem?_eq_getElem hlt⟩
     have hml:(dWds ((es.take u).map fun x=>⟨x.name,0⟩)).length=u:=by simp [dWds];omega
     have hsn:dWds ((es.take u).map fun x=>⟨x.name,0⟩) ++ [dWd ⟨x.name,0⟩]=dWds ((es.take (u + 1)).map fun x=>⟨x.name,0⟩):=by rw [List.take_add_one,hx];simp [dWds]
     refine ⟨_,⟨by omega,dEds_get hx⟩,?_⟩
     refine ⟨hml,⟨by rw [hml];simp [maxLen];omega,by rw [hml];simp;omega⟩,?_⟩
     exact ⟨kySt (.mk q z s ks) ⟨kind,at',lo,hi,most,names,es⟩ R e (u + 1),(weak_b 4 rfl (by repeat' (first | exact rfl | exact we_rfl rfl | exact we_int (nxt hlt (by omega)) | exact we_sl hsn rfl | refine ⟨_,_,rfl,?_,?_⟩)) rfl rfl rfl (by repeat' (first | exact trivial | exact we_rfl rfl | exact we_int (nxt hlt (by omega)) | exact we_sl hsn rfl | refine ⟨⟨_,rfl,?_⟩,?_⟩))),es.length - (u + 1),by omega,u + 1,rfl,by omega,rfl⟩
    ·have hge:u=es.length:=by
      have:=hL;simp [hel] at this;omega
     have ht:es.take u=es:=by rw [hge,List.take_length]
     rw [ht]
     exact ⟨_,ax,rfl⟩
   have c7:¬ q=7:=by simpa using c
   rw [if_neg c7]
   refine br (fun c=>?_) (fun c=>?_)
   ·have c:q=8:=by simpa using c
    obtain ⟨x,htg,hx,z0,z1,hbr⟩:=htag (by omega)
    rw [if_pos c]
    have hn:tagN ⟨kind,at',lo,hi,most,names,es⟩ (.mk q z s ks)=x.name:=by unfold tagN;rw [htg]
    rw [hn]
    refine ⟨_,⟨by omega,dEds_get hx⟩,?_⟩
    refine br (fun c=>?_) (fun c=>?_)
    ·have c:0 < ks.length:=by simpa [hdl] using c
     rw [if_pos c]
     exact ⟨_,ax,rfl⟩
    ·have c:¬ 0 < ks.length:=by simpa [hdl] using c
     rw [if_neg c]
     exact ⟨_,ax,rfl⟩
   have c8:¬ q=8:=by simpa using c
   rw [if_neg c8]
   refine br (fun c=>?_) (fun c=>?_)
   ·refine br (fun c=>?_) (fun c=>?_)
    ·have c:0 < ks.length:=by simpa [hdl,Val.ks] using c
     rw [if_pos c,if_pos c]
     refine br (fun _=>?_) (fun c'=>?_)
     ·exact ⟨_,ax,rfl⟩
     ·exact absurd c (by simpa [hdl,Val.ks] using c')
    ·have c:¬ 0 < ks.length:=by simpa [hdl,Val.ks] using c
     rw [if_neg c,if_neg c]
     refine br (fun c'=>?_) (fun _=>?_)
     ·exact absurd (by simpa [hdl,Val.ks] using c') c
     ·exact ⟨_,ax,rfl⟩
   ·have c:¬ q=6:=by simpa using c
    omega
abbrev zeroR:Rw:=.mk 0 0 0 emptyB [] []
theorem traw_spec {S:Sch} {ND:List Nd} {PC:List DV} (hP:PlanR S ND PC) (v:Val) (hv:v.wt≤1099511627776) (i:Int) :
  EvP Tryz.prog 89 [.pt PC 0,.v (.int .i64 i),.agg (dVal v)] (.tup [.agg (dRw (if fitV ND v i=true then rawV ND v i else zeroR)),.v (.bool (fitV ND v i))]):=by
 have hf:=tfits_spec hP v.wt v (Nat.le_refl _) hv i
 have hw:=twrite_spec hP v.wt v (Nat.le_refl _) hv i
 cases hc:fitV ND v i with
 | false=>
  rw [hc] at hf
  rw [if_neg (by simp)]
  obtain ⟨q,z,s,ks⟩:=v
  refine ev_go (P:=Tryz.prog) tt tt_ok 5000 18 [.cell 6 161,.tmp 7] Tryz.func89 rfl Tryz.ntmps89 rfl (Nat.le_of_ble_eq_true rfl) (fun E9 w9 hn9 hm9=>?_)
  refine call_p en51 (hf) ax rfl ?_
  exact ⟨_,ax,rfl⟩
 | true=>
  rw [hc] at hf
  have hw:=hw hc
  rw [if_pos rfl]
  generalize rawV ND v i=r at hw ⊢
  obtain ⟨rk,ra,rn,rs,rky,rks⟩:=r
  obtain ⟨q,z,s,ks⟩:=v
  refine ev_go (P:=Tryz.prog) tt tt_ok 5000 18 [.cell 6 161,.tmp 7] Tryz.func89 rfl Tryz.ntmps89 rfl (Nat.le_of_ble_eq_true rfl) (fun E9 w9 hn9 hm9=>?_)
  refine call_p en51 (hf) ax rfl ?_
  refine call_p en162 (hw) ax rfl ?_
  exact ⟨_,ax,rfl⟩
end Go.Proofs.YtdeaicofhmkebaaGreat
set_option maxRecDepth 100000
namespace Go.Proofs.YtdeaicofhmkebaaGreat
open Go Go.RowKit Dv Tryz
end Go.Proofs.YtdeaicofhmkebaaGreat
set_option maxRecDepth 100000
namespace Go.Proofs.YtdeaicofhmkebaaGreat
open Go Go.RowKit Dv Tryz
end Go.Proofs.YtdeaicofhmkebaaGreat
set_option maxRecDepth 100000
namespace Go.Proofs.YtdeaicofhmkebaaGreat
open Go Go.RowKit Dv Tryz
abbrev wG (a b:Nat) (A B:List (List DV)) (ND:List Nd) (z:Int):List DV:=[.sl a A none,.sl b B none,.sl 7 (dNds ND) none,.v (.int .i64 z)]
end Go.Proofs.YtdeaicofhmkebaaGreat
set_option maxRecDepth 100000
namespace Go.Proofs.YtdeaicofhmkebaaGreat
open Go Go.RowKit Dv Tryz
end Go.Proofs.YtdeaicofhmkebaaGreat
set_option maxRecDepth 100000
namespace Go.Proofs.YtdeaicofhmkebaaGreat
open Go Go.RowKit Dv Tryz
def exH (k:Int):Hd:=⟨k,0,0,0,0,[],⟨emptyB,0⟩⟩
def FineΦ (S:Sch) (r:DV):Prop:=∃ b:Bool,r = .v (.bool b)∧(b=true→(resF S).1=0)
end Go.Proofs.YtdeaicofhmkebaaGreat
set_option maxRecDepth 100000
namespace Go.Proofs.YtdeaicofhmkebaaGreat
open Go Go.RowKit Dv Tryz
theorem refVs_drop {ND:List Nd} {ks:List Val} {f:Nat→Int} {e:Nat} {x:Val} (h:ks[e]? = some x):refVs ND (ks.drop e) f e=(refV ND x (f e) && refVs ND (ks.drop (e + 1)) f (e + 1)):=by
 rw [drop_cons h,refVs]
abbrev rfSt (W:List DV) (v:Val) (d:Nd) (ok:Bool) (e:Nat):St:=
 ⟨[(3,⟨[],.loc 0 0⟩),(5,⟨[],.loc 1 0⟩),(7,⟨[],.loc 2 0⟩),(8,⟨[],.v (.bool ok)⟩),(9,⟨[],.v (.int .i64 e)⟩)],[W,dVal v,dNd d],[]⟩
set_option maxHeartbeats 4000000 in
theorem fits25_spec (a b:Nat) (A B:List (List DV)) (rt:Int) {ND:List Nd} {L:Nat} (hok:∀ n∈ND,NdOK L ND.length n):∀ (k:Nat) (v:Val),v.wt≤k→v.wt≤1099511627776→∀ i:Int,EvP Tryz.prog 31 [.agg (wG a b A B ND rt),.v (.int .i64 i),.agg (dVal v)] (.v (.bool (refV ND v i)))
 | 0,v,h,_=>by have:=v.wt_pos;omega
 | k + 1,.mk q z s ks,h,hb=>fun i=>by
  have ih:=fits25_spec a b A B rt hok k
  have hkl:=wtVs_len ks
  have hdl:=dVals_len ks
  have hb':=hb
  rw [Val.wt] at h hb
  rw [refV]
  have hNl:=dNds_len ND
  cases hd:nodeA ND i with
  | none=>
   have hn:=nodeA_none hd
   refine ev_go (P:=Tryz.prog) tt tt_ok 5000 164 [.tmp 6] Tryz.func31 rfl Tryz.ntmps31 rfl (Nat.le_of_ble_eq_true rfl) (fun E9 w9 hn9 hm9=>?_)
   refine br (fun _=>?_) (fun c=>?_)
   ·exact (rfl:_=_)
   ·exfalso
    have:=c
    simp [pickB_or,hNl] at this
    omega
  | some d=>
   obtain ⟨h0,hg⟩:=nodeA_some hd
   obtain ⟨j,rfl⟩:∃ j:Nat,i=j:=⟨i.toNat,by omega⟩
   have hg:ND[j]? = some d:=by simpa using hg
   have hjl:=(List.getElem?_eq_some_iff.1 hg).1
   have hN:=hok d (List.mem_of_getElem? hg)
   have hk1:=hN.k1
   have hk8:=hN.k8
   have hmany:=hN.many
   have hto:=fun m=>to25_spec hN (.mk q z s ks) m
   simp only
   have hel:=dEds_len d.edges
   have hbl:=dBs_len d.names
   generalize hf:toR d (.mk q z s ks)=f at hto
   have hF:okR d (.mk q z s ks)=okR d (.mk q z s ks):=rfl
   obtain ⟨kind,at',lo,hi,most,names,es⟩:=d
   simp only at hk1 hk8 hmany hel hbl
   have hkc:((ks.length:Int)=(es.length:Int))↔ks.length=es.length:=by omega
   have hbad:∀ b:Bool,b=pickB (pickB (!decide (q=kind)) true (pickB (!decide (q=3)) (!decide (s=⟨#[]⟩)) false)) true (pickB (decide (0 < (s.size:Int))) (decide (most < (s.size:Int))) false)→b=badR ⟨kind,at',lo,hi,most,names,es⟩ (.mk q z s ks):=fun b h=>by
    rw [h,emptyB_eq,Bool.eq_iff_iff]
    have hB:badR ⟨kind,at',lo,hi,most,names,es⟩ (.mk q z s ks)=(decide (q≠kind) || (decide (q≠3) && decide (s≠emptyB)) || (decide (0 < s.size) && decide (most < (s.size:Int)))):=rfl
    rw [hB]
    simp [pickB_or,pickB_and,or_assoc]
   refine ev_go (P:=Tryz.prog) tt tt_ok 5000 164 [.tmp 6] Tryz.func31 rfl Tryz.ntmps31 rfl (Nat.le_of_ble_eq_true rfl) (fun E9 w9 hn9 hm9=>?_)
   refine br (fun c=>?_) (fun _=>?_)
   ·exfalso
    have:=c
    simp [pickB_or,hNl] at this
    omega
   refine ⟨_,⟨by omega,dNds_get hg⟩,?_⟩
   refine br (fun c=>?_) (fun c=>?_)
   ·have c:=(hbad _ rfl).symm.trans c
    rw [if_pos c]
    exact (rfl:_=_)
   have c:=(hbad _ rfl).symm.trans c
   rw [if_neg (by rw [c];simp)]
   rcases (show kind=1∨kind=2∨kind=3∨kind=4∨kind=5∨kind=6∨kind=7∨kind=8 by omega) with c | c | c | c | c | c | c | c
   all_goals
    repeat (first | (refine br (fun h=>?_) (fun _=>?_);focus (simp [c] at h;done)) | (refine br (fun _=>?_) (fun h=>?_);rotate_left;focus (simp [c] at h;done)))
   all_goals
    try
     refine drawG_i (fun _=>false) mo (by decide +kernel) ?_
     have hc:∀ b:Bool,b=pickB (decide (0≤z)) (decide (z < ((dEds es).length:Int))) false→b=decide (0≤z∧z < es.length):=fun b h=>by
      rw [h,hel,pickB_and,Bool.eq_iff_iff]
      simp
     refine br (fun g=>?pp) (fun g=>?nn)
     case' pp=>
      have g8:=of_decide_eq_true ((hc _ rfl).symm.trans (by simpa using g))
      obtain ⟨x,hx8⟩:∃ x,es[z.toNat]? = some x:=⟨_,List.getElem?_eq_getElem (by omega)⟩
      have hm64:=(hmany (.inr c)).1
      have hw:max 0 (min z (IntKind.i64.wrap (((dEds es).length:Int) - 1)))=z:=by rw [hel,wrap64 (by omega) (by omega)];omega
      refine ⟨_,⟨Int.le_max_left _ _,by rw [hw];exact dEds_get hx8⟩,?_⟩
      show LoopG _ _ _ _
     case' nn=>
      have g8:=of_decide_eq_false ((hc _ rfl).symm.trans (by simpa using g))
      show LoopG _ _ _ _
   all_goals
    refine loop_i (fun j st=>∃ (e:Nat) (ok:Bool),st=rfSt (wG a b A B ND rt) (.mk q z s ks) ⟨kind,at',lo,hi,most,names,es⟩ ok e∧e≤ks.length∧(okR ⟨kind,at',lo,hi,most,names,es⟩ (.mk q z s ks) && refVs ND ks f 0)=(ok && refVs ND (ks.drop e) f e)∧j=ks.length - e) ks.length (rfSt (wG a b A B ND rt) (.mk q z s ks) ⟨kind,at',lo,hi,most,names,es⟩ _ 0) (weak_mk ⟨_,rfl⟩ wA rfl rfl rfl wB) ⟨0,_,rfl,by omega,congrArg (fun b=>b && refVs ND ks f 0) ?_,by omega⟩ ?_
    ·first
      | (simp [okR,c,pickB_or,pickB_and,Val.n,Val.ks,hel,hbl,hdl,hkc,g8,hx8];rw [(List.getElem?_eq_some_iff.1 hx8).2];cases x.bare<;>simp;done)
      | (simp [okR,c,pickB_or,pickB_and,Val.n,Val.ks,hel,hbl,hdl,hkc,g8];try rfl;done)
      | (simp [okR,c,pickB_or,pickB_and,Val.n,Val.ks,hel,hbl,hdl,hkc];try rfl;done)
    ·rintro _ st ⟨e,ok,rfl,he,heq,rfl⟩
     refine br (fun hL=>?_) (fun hL=>?_)
     ·have hL:e < ks.length∧ok=true:=by
       have:=hL
       simp [pickB_and,hdl] at this
       exact this
      obtain ⟨hlt,hok1⟩:=hL
      obtain ⟨x,hx⟩:∃ x,ks[e]? = some x:=⟨_,List.getElem?_eq_getElem hlt⟩
      have hxw:=wtVs_mem (List.mem_of_getElem? hx)
      rw [hok1,Bool.true_and,refVs_drop hx] at heq
      have hi':=ih x (by omega) (by omega) (f e)
      obtain ⟨xk,xn,xs,xl⟩:=x
      refine drawG_i (fun _=>false) mo (by decide +kernel) ?_
      refine callD_p en96 (hto e) ax rfl ?_
      refine ⟨_,⟨by omega,dVals_get hx⟩,?_⟩
      refine callD_p en31 (hi') ax rfl ?_
      exact ⟨rfSt (wG a b A B ND rt) (.mk q z s ks) ⟨kind,at',lo,hi,most,names,es⟩ _ (e + 1),(weak_mk ⟨_,rfl⟩ wA rfl rfl rfl (by repeat' (first | exact trivial | exact we_rfl rfl | exact we_int (nxt hlt (by omega)) | refine ⟨⟨_,rfl,?_⟩,?_⟩))),ks.length - (e + 1),by omega,e + 1,_,rfl,by omega,heq,rfl⟩
     ·have hL:¬ (e < ks.length∧ok=true):=by
       have:=hL
       simp [pickB_and,hdl] at this
       simpa using this
      refine (congrArg (fun b=>DV.v (.bool b)) ?_:_=_)
      rw [heq]
      cases ok with
      | false=>rfl
      | true=>rw [List.drop_of_length_le (by simp at hL;omega),refVs];rfl
end Go.Proofs.YtdeaicofhmkebaaGreat
set_option maxRecDepth 100000
namespace Go.Proofs.YtdeaicofhmkebaaGreat
open Go Go.RowKit Dv Tryz
theorem toR_kids {ND:List Nd} {d:Nd} {v:Val} {i:Int} (hd:nodeA ND i=some d) (hf:fitV ND v i=true) (h5:5≤d.kind) (h8:d.kind≤8) {e:Nat} {x:Int} (h:(kidsL d v)[e]? = some x):toR d v e=x:=by
 have hB:kidsB d v=true:=by
  obtain ⟨q,z,s,ks⟩:=v
  rw [fitV,hd] at hf
  simp only at hf
  rw [if_neg (by omega),Bool.and_eq_true] at hf
  exact hf.1
 unfold kidsB at hB
 unfold kidsL at h
 unfold toR
 by_cases c:d.kind=5∨d.kind=6
 ·rw [if_pos c] at hB h
  simp only [Bool.and_eq_true,decide_eq_true_eq] at hB
  have hlt:e < v.ks.length:=by have:=(List.getElem?_eq_some_iff.1 h).1;simpa using this
  rw [List.getElem?_replicate,if_pos hlt] at h
  simp only [Option.some.injEq] at h
  have h2:=hB.2
  by_cases c5:d.kind=5
  ·rw [if_neg (by omega)] at h2
   rw [if_pos c5,if_pos (by omega),h]
  ·rw [if_pos (by omega)] at h2
   rw [if_neg c5,if_pos (by omega),if_pos (by omega),h]
 ·rw [if_neg c] at hB h
  rw [if_neg (by omega),if_neg (by omega)]
  by_cases c7:d.kind=7
  ·rw [if_pos c7] at h
   rw [if_pos c7]
   rw [List.getElem?_map] at h
   cases hx:d.edges[e]? with
   | none=>rw [hx] at h;cases h
   | some y=>rw [hx] at h;simpa using h
  ·rw [if_neg c7] at h hB
   rw [if_neg c7]
   cases ht:tagE d v with
   | none=>rw [ht] at hB;cases hB
   | some y=>
    rw [ht] at h
    have ht2:=ht
    unfold tagE at ht2
    split at ht2
    ·rename_i hr
     have hk8:d.kind=8:=by omega
     simp only at h
     split at h
     ·simp at h
     ·have he:e=0:=by have:=(List.getElem?_eq_some_iff.1 h).1;simp at this;omega
      subst he
      rw [if_pos hk8,if_pos ⟨by omega,hr.2⟩,ht2]
      simpa using h
    ·cases ht2
end Go.Proofs.YtdeaicofhmkebaaGreat
set_option maxRecDepth 100000
namespace Go.Proofs.YtdeaicofhmkebaaGreat
open Go Go.RowKit Dv Tryz
end Go.Proofs.YtdeaicofhmkebaaGreat
set_option maxRecDepth 100000
namespace Go.Proofs.YtdeaicofhmkebaaGreat
open Go Go.RowKit Dv Tryz
def exS25:Sch:=⟨[⟨⟨#[97]⟩,0⟩],[],[],.mk (exH 1) .nil⟩
def exV25:Val:=.mk 1 1 emptyB []
theorem ex25_fine:(resF exS25).1=0:=by decide +kernel
theorem ex25_fit:fitV (resNds exS25) exV25 0=true:=by decide +kernel
theorem ex25_raw:rawV (resNds exS25) exV25 0 = .mk 1 0 0 trueB [] []:=by kernel_rfl
theorem lives25_spec:EvP Tryz.prog 28 [] (.v (.bool true)):=by
 have hwt:exS25.wt≤1099511627776:=by decide +kernel
 have hwv:exV25.wt≤1099511627776:=by decide +kernel
 have hb:=(build_spec exS25 hwt).mono (Ψ:=fun r _ _=>BuiltΦ exS25 r) fun _ _ _ h=>builtΦ_of hwt h
 refine ev_go (P:=Tryz.prog) tt tt_ok 5000 30 [.tmp 0] Tryz.func28 rfl Tryz.ntmps28 rfl (Nat.le_of_ble_eq_true rfl) (fun E9 w9 hn9 hm9=>?_)
 refine call_e en17 rfl hb ax (fun r hr=>?_)
 rcases hr with ⟨hr,_⟩ | ⟨_,PC,hP,rfl⟩
 ·exact (hr ex25_fine).elim
 have hr:=traw_spec hP exV25 hwv 0
 rw [if_pos ex25_fit,ex25_fit,ex25_raw] at hr
 refine call_p en89 (hr) ax rfl ?_
 exact (rfl:_=_)
theorem fine25_spec (S:Sch) (hS:S.wt≤1099511627776) (v:Val) (hv:v.wt≤1099511627776):Ev Tryz.prog 27 [.agg (dSch S),.agg (dVal v)] [] [] (fun r _ _=>FineΦ S r):=by
 have ga:=great17_spec S hS
 have hwr:=wrong18_spec S hS
 have hsz:=size25_spec v.wt v (Nat.le_refl _) hv
 unfold FineΦ
 generalize resF S=R at hwr ⊢
 obtain ⟨levels,order,types,⟨rh,rp⟩⟩:=S
 obtain ⟨q,z,s,ks⟩:=v
 refine ev_go (P:=Tryz.prog) tt tt_ok 5000 25 [.tmp 4] Tryz.func27 rfl Tryz.ntmps27 rfl (Nat.le_of_ble_eq_true rfl) (fun E9 w9 hn9 hm9=>?_)
 refine call_p en26 (hsz) ax rfl ?_
 refine br (fun c=>?_) (fun c=>?_)
 ·refine call_e en15 rfl ga ax (fun r hr=>?_)
  obtain ⟨g,rfl⟩:=hr
  cases g with
  | true=>
   refine ⟨false,?_,fun h=>by cases h⟩
   rfl
  | false=>
   refine call_p en88 (hwr) ax rfl ?_
   refine ⟨_,ft_cmp _ _ R (0,0),?_⟩
   refine ⟨_,rfl,fun h=>?_⟩
   simp [pickB] at h
   exact h.1
 ·have c:decide (((cntV (Val.mk q z s ks):Nat):Int)≤3000)=false:=by simpa using c
  refine ⟨false,?_,fun h=>by cases h⟩
  refine (congrArg (fun b=>DV.v (.bool b)) ?_:_=_)
  rfl
end Go.Proofs.YtdeaicofhmkebaaGreat
set_option maxRecDepth 100000
namespace Go.Proofs.YtdeaicofhmkebaaGreat
open Go Go.RowKit Dv Tryz
structure Stp where
 k:Int
 n:Int
 s:ByteArray
def dStp (x:Stp):List DV:=[.v (.int .i64 x.k),.v (.int .i64 x.n),.v (.string x.s)]
def dStps (l:List Stp):List (List DV):=l.map dStp
def dPths (l:List (List Stp)):List (List DV):=l.map fun p=>[.sl 3 (dStps p) none]
theorem dStps_len (l:List Stp):(dStps l).length=l.length:=by simp [dStps]
theorem dPths_len (l:List (List Stp)):(dPths l).length=l.length:=by simp [dPths]
theorem dStps_get {l:List Stp} {e:Nat} {x:Stp} (h:l[e]? = some x):(dStps l)[e]? = some (dStp x):=by simp [dStps,h]
theorem dPths_get {l:List (List Stp)} {e:Nat} {x:List Stp} (h:l[e]? = some x):(dPths l)[e]? = some [.sl 3 (dStps x) none]:=by simp [dPths,h]
def stpE (a b:Stp):Bool:=decide (a.k=b.k) && (decide (a.n=b.n) && decide (a.s=b.s))
theorem stpE_iff {a b:Stp}:stpE a b=true↔a=b:=by
 obtain ⟨k,n,s⟩:=a
 obtain ⟨k',n',s'⟩:=b
 simp only [stpE,Bool.and_eq_true,decide_eq_true_eq,Stp.mk.injEq]
theorem stpE_refl (a:Stp):stpE a a=true:=stpE_iff.2 rfl
def stpA (a:Stp):Array Value:=#[.int .i64 a.k,.int .i64 a.n,.string a.s]
theorem stp_equal (a b:Stp) (w:World):(Op.equal 173 (.agg (stpA a)) (.agg (stpA b))).run Tryz.prog w = .ok (stpE a b) w:=by
 have hf:Tryz.prog.underlying 173=some (.struct (Tryz.prog.fieldsOf 173)):=by simp [Program.fieldsOf,Tryz.underlying173]
 have hf2:(Tryz.prog.fieldsOf 173).toList=[⟨ "Kind",3,0,false, "", "",0⟩,⟨ "N",3,1,false, "", "",8⟩,⟨ "Name",9,2,false, "", "",16⟩]:=by simp [Program.fieldsOf,Tryz.underlying173]
 have hs:Tryz.prog.stoodInHeld 173=false:=by kernel_rfl
 obtain ⟨d,hm⟩:∃ d,Op.maxDepth=d + 1 + 1:=⟨Op.maxDepth - 2,by decide⟩
 have q9:∀ cs:Array Value,∀ off v,cs[off]? = some v→(part 9 cs off).run Tryz.prog w = .ok v w:=fun cs off v h=>by
  simp [part,Tryz.isAgg9,h]
 have q3:∀ cs:Array Value,∀ off v,cs[off]? = some v→(part 3 cs off).run Tryz.prog w = .ok v w:=fun cs off v h=>by
  simp [part,Tryz.isAgg3,h]
 have g0:=fun x:Stp=>q3 (stpA x) 0 (.int .i64 x.k) rfl
 have g1:=fun x:Stp=>q3 (stpA x) 1 (.int .i64 x.n) rfl
 have g2:=fun x:Stp=>q9 (stpA x) 2 (.string x.s) rfl
 have r9:=fun a b=>run_equalIn_string w d 9 a b Tryz.underlying9
 have r3:=fun a b=>run_equalIn_int w d 3 .i64 .i64 a b Tryz.underlying3
 have e1:(a.s.toList == b.s.toList)=decide (a.s=b.s):=by
  rw [ByteArray.toList_eq,ByteArray.toList_eq]
  by_cases h:a.s=b.s
  ·rw [h];simp
  ·have:¬ a.s.data=b.s.data:=fun e=>h (ByteArray.ext e)
   simp [h,this]
 unfold Op.equal
 rw [hm,run_equalIn_struct w (d + 1) 173 _ _ hf hs,hf2]
 simp only [Op.eqFields,ne_eq,String.reduceEq,not_false_eq_true,if_true,Sem.run_bind,g0,g1,g2,r9,r3,Result.andThen_ok]
 by_cases h1:a.k=b.k
 ·by_cases h2:a.n=b.n
  ·by_cases h3:a.s=b.s
   ·simp [h1,h2,h3,stpE,Sem.run_pure,r3,r9,g1,g2]
   ·simp [h1,h2,h3,stpE,Sem.run_pure,r3,r9,g1,g2,e1]
  ·simp [h1,h2,stpE,Sem.run_pure,r3,g1]
 ·simp [h1,stpE,Sem.run_pure]
theorem stp_guard (o:BinOp) (ho:o = .eql∨o = .neq) (w:World) (x y:Operand) (vs vs':Array Value):(eqGuard o 173 x y (.agg vs) (.agg vs')).run Tryz.prog w = .ok () w:=by
 have h:Tryz.prog.eqGuardType Tryz.prog.depth 173=false:=by kernel_rfl
 rcases ho with rfl | rfl<;>simp [eqGuard,run_program,h]
theorem stp_neq (x y:Operand) (a b:Stp):AggCmp Tryz.prog .neq x y 173 (dStp a) (dStp b) (!stpE a b):=
 ⟨[.int .i64 a.k,.int .i64 a.n,.string a.s],[.int .i64 b.k,.int .i64 b.n,.string b.s],rfl,rfl,fun w=>⟨stp_guard _ (.inr rfl) w x y _ _,by
  show ((do let r ← Op.equal 173 (.agg (stpA a)) (.agg (stpA b));pure (Value.bool !r)):Sem Value).run Tryz.prog w=_
  simp only [Sem.run_bind,stp_equal,Result.andThen_ok,Sem.run_pure]⟩⟩
def begF:List Stp→List Stp→Bool
 | _,[]=>true
 | [],_ :: _=>false
 | a :: r,b :: q=>stpE a b && begF r q
theorem begF_refl:∀ l:List Stp,begF l l=true
 | []=>rfl
 | a :: r=>by rw [begF,stpE_refl,begF_refl r];rfl
theorem begF_at {a b:List Stp} {e:Nat} {y:Stp} (h:b[e]? = some y):begF (a.drop e) (b.drop e)=match a[e]? with | none=>false | some x=>stpE x y && begF (a.drop (e + 1)) (b.drop (e + 1)):=by
 have hb:b.drop e=y :: b.drop (e + 1):=by
  obtain ⟨h1,h2⟩:=List.getElem?_eq_some_iff.1 h
  rw [List.drop_eq_getElem_cons h1,h2]
 rw [hb]
 cases ha:a[e]? with
 | none=>
  rw [List.drop_eq_nil_of_le (List.getElem?_eq_none_iff.1 ha)];rfl
 | some x=>
  obtain ⟨h1,h2⟩:=List.getElem?_eq_some_iff.1 ha
  rw [List.drop_eq_getElem_cons h1,h2];rfl
abbrev bg09St (a b:List Stp) (e:Nat):St:=⟨[(0,⟨[],.sl 3 (dStps a) none⟩),(1,⟨[],.sl 3 (dStps b) none⟩),(5,⟨[],.v (.int .i64 e)⟩)],[],[]⟩
theorem begins09_spec (a b:List Stp) (hl:b.length≤1099511627776):EvP Tryz.prog 52 [.sl 3 (dStps a) none,.sl 3 (dStps b) none] (.v (.bool (begF a b))):=by
 have hda:=dStps_len a
 have hdb:=dStps_len b
 refine ev_go (P:=Tryz.prog) tt tt_ok 5000 27 [.tmp 4] Tryz.func52 rfl Tryz.ntmps52 rfl (Nat.le_of_ble_eq_true rfl) (fun E9 w9 hn9 hm9=>?_)
 refine loop_i (fun j st=>∃ e:Nat,st=bg09St a b e∧e≤b.length∧begF a b=begF (a.drop e) (b.drop e)∧j=b.length - e) b.length (bg09St a b 0) (weak_mk ⟨_,rfl⟩ wA rfl rfl rfl wB) ⟨0,rfl,by omega,rfl,by omega⟩ ?_
 rintro j st ⟨e,rfl,he,hb,rfl⟩
 refine br (fun hL=>?_) (fun hL=>?_)
 ·have hlt:e < b.length:=by have:=hL;simp [hdb] at this;exact this
  obtain ⟨y,hy⟩:∃ y,b[e]? = some y:=⟨_,List.getElem?_eq_getElem hlt⟩
  rw [begF_at hy] at hb
  refine drawG_i (fun _=>false) mo (by decide +kernel) ?_
  refine br (fun g=>?_) (fun g=>?_)
  ·have g:e < a.length:=by have:=g;simp [hda] at this;omega
   obtain ⟨x,hx⟩:∃ x,a[e]? = some x:=⟨_,List.getElem?_eq_getElem g⟩
   rw [hx] at hb
   simp only at hb
   refine ⟨_,⟨by omega,dStps_get hx⟩,_,⟨by omega,dStps_get hy⟩,_,stp_neq _ _ x y,?_⟩
   cases hc:stpE x y with
   | true=>
    rw [hc] at hb
    exact ⟨bg09St a b (e + 1),(weak_mk ⟨_,rfl⟩ wA rfl rfl rfl (by repeat' (first | exact trivial | exact we_rfl rfl | exact we_int (nxt hlt (by omega)) | refine ⟨⟨_,rfl,?_⟩,?_⟩))),b.length - (e + 1),by omega,e + 1,rfl,by omega,by simpa using hb,rfl⟩
   | false=>
    rw [hc] at hb
    exact congrArg (fun b=>DV.v (.bool b)) hb.symm
  ·have g:a[e]? = none:=List.getElem?_eq_none (by have:=g;simp [hda] at this;omega)
   rw [g] at hb
   exact congrArg (fun b=>DV.v (.bool b)) hb.symm
 ·have hge:e=b.length:=by have:=hL;simp [hdb] at this;omega
  subst hge
  rw [List.drop_length] at hb
  have:begF (a.drop b.length) []=true:=by cases a.drop b.length<;>rfl
  rw [this] at hb
  exact congrArg (fun b=>DV.v (.bool b)) hb.symm
theorem same09_spec (l:List Stp) (hl:l.length≤1099511627776):EvP Tryz.prog 33 [.sl 3 (dStps l) none,.sl 3 (dStps l) none] (.v (.bool true)):=by
 have hb:=begins09_spec l l hl
 rw [begF_refl] at hb
 refine ev_go (P:=Tryz.prog) tt tt_ok 5000 15 [.tmp 4] Tryz.func33 rfl Tryz.ntmps33 rfl (Nat.le_of_ble_eq_true rfl) (fun E9 w9 hn9 hm9=>?_)
 refine br (fun _=>?_) (fun g=>absurd g (by simp))
 refine call_p en52 (hb) ax rfl ?_
 refine (congrArg (fun b=>DV.v (.bool b)) ?_:_=_)
 simp [pickB_and]
def stpR (d:Nd) (v:Val) (j:Nat):Stp:=
 if d.kind=5 then ⟨2,j,emptyB⟩
 else if d.kind=6 then ⟨4,0,emptyB⟩
 else if d.kind=7 then ⟨1,0,match d.edges[j]? with | some e=>e.name | none=>emptyB⟩
 else ⟨5,0,match d.edges[v.n.toNat]? with | some e=>e.name | none=>emptyB⟩
theorem step25_spec (d:Nd) (v:Val) (j:Nat) (h7:d.kind=7→j < d.edges.length) (h8:d.kind≠5→d.kind≠6→d.kind≠7→0≤v.n∧v.n < d.edges.length) :
  EvP Tryz.prog 97 [.agg (dNd d),.agg (dVal v),.v (.int .i64 j)] (.agg (dStp (stpR d v j))):=by
 obtain ⟨kind,at',lo,hi,most,names,es⟩:=d
 obtain ⟨q,z,s,ks⟩:=v
 have hel:=dEds_len es
 simp only [Val.n] at h7 h8
 have hS:stpR ⟨kind,at',lo,hi,most,names,es⟩ (.mk q z s ks) j=if kind=5 then ⟨2,j,emptyB⟩
  else if kind=6 then ⟨4,0,emptyB⟩
  else if kind=7 then ⟨1,0,match es[j]? with | some e=>e.name | none=>emptyB⟩
  else ⟨5,0,match es[z.toNat]? with | some e=>e.name | none=>emptyB⟩:=rfl
 rw [hS]
 refine ev_go (P:=Tryz.prog) tt tt_ok 5000 33 [.cell 6 173] Tryz.func97 rfl Tryz.ntmps97 rfl (Nat.le_of_ble_eq_true rfl) (fun E9 w9 hn9 hm9=>?_)
 refine br (fun c=>?_) (fun c=>?_)
 ·have c:kind=5:=by simpa using c
  rw [if_pos c]
  exact ⟨_,ax,rfl⟩
 have c5:¬ kind=5:=by simpa using c
 rw [if_neg c5]
 refine br (fun c=>?_) (fun c=>?_)
 ·have c:kind=6:=by simpa using c
  rw [if_pos c]
  exact ⟨_,ax,rfl⟩
 have c6:¬ kind=6:=by simpa using c
 rw [if_neg c6]
 refine br (fun c=>?_) (fun c=>?_)
 ·have c:kind=7:=by simpa using c
  rw [if_pos c]
  obtain ⟨x,hx⟩:∃ x,es[j]? = some x:=⟨_,List.getElem?_eq_getElem (h7 c)⟩
  simp only [hx]
  refine ⟨_,⟨by omega,dEds_get hx⟩,?_⟩
  exact ⟨_,ax,rfl⟩
 have c7:¬ kind=7:=by simpa using c
 rw [if_neg c7]
 obtain ⟨z0,z1⟩:=h8 c5 c6 c7
 obtain ⟨x,hx⟩:∃ x,es[z.toNat]? = some x:=⟨_,List.getElem?_eq_getElem (by omega)⟩
 simp only [hx]
 refine ⟨_,⟨by omega,dEds_get hx⟩,?_⟩
 exact ⟨_,ax,rfl⟩
end Go.Proofs.YtdeaicofhmkebaaGreat
set_option maxRecDepth 100000
namespace Go.Proofs.YtdeaicofhmkebaaGreat
open Go Go.RowKit Dv Tryz
mutual
def pathV (ND:List Nd):Val→Int→List Stp→List (List Stp)
 | .mk q z s ks,i,p=>p :: match nodeA ND i with
  | none=>[]
  | some d=>pathVs ND ks (kidsL d (.mk q z s ks)) (fun e=>p ++ [stpR d (.mk q z s ks) e]) 0
def pathVs (ND:List Nd):List Val→List Int→(Nat→List Stp)→Nat→List (List Stp)
 | v :: r,i :: l,f,e=>pathV ND v i (f e) ++ pathVs ND r l f (e + 1)
 | _,_,_,_=>[]
end
theorem pathVs_snoc {ND:List Nd} {f:Nat→List Stp}:∀ {ks:List Val} {l:List Int} {e b:Nat} {x:Val} {i:Int},ks[e]? = some x→l[e]? = some i→pathVs ND (ks.take (e + 1)) (l.take (e + 1)) f b=pathVs ND (ks.take e) (l.take e) f b ++ pathV ND x i (f (b + e))
 | [],_,e,b,x,i,h,_=>by simp at h
 | _ :: _,[],e,b,x,i,_,h=>by simp at h
 | v :: r,j :: l,0,b,x,i,h1,h2=>by
  simp only [List.getElem?_cons_zero,Option.some.injEq] at h1 h2
  subst h1 h2
  simp [pathVs]
 | v :: r,j :: l,e + 1,b,x,i,h1,h2=>by
  simp only [List.getElem?_cons_succ] at h1 h2
  simp only [List.take_succ_cons,pathVs]
  rw [pathVs_snoc h1 h2,List.append_assoc,Nat.add_right_comm,Nat.add_assoc]
mutual
theorem pathV_len {ND:List Nd}:∀ (v:Val) (i:Int) (p:List Stp),(pathV ND v i p).length≤cntV v
 | .mk q z s ks,i,p=>by
  rw [pathV,cntV,List.length_cons]
  split
  ·simp
  ·rename_i d _
   have:=pathVs_len (ND:=ND) ks (kidsL d (.mk q z s ks)) (fun e=>p ++ [stpR d (.mk q z s ks) e]) 0
   omega
theorem pathVs_len {ND:List Nd}:∀ (ks:List Val) (l:List Int) (f:Nat→List Stp) (e:Nat),(pathVs ND ks l f e).length≤cntVs ks
 | v :: r,i :: l,f,e=>by
  have h1:=pathV_len (ND:=ND) v i (f e)
  have h2:=pathVs_len (ND:=ND) r l f (e + 1)
  rw [pathVs,cntVs,List.length_append];omega
 | [],_,_,_=>by simp [pathVs]
 | _ :: _,[],_,_=>by simp [pathVs]
end
mutual
theorem pathV_sz {ND:List Nd}:∀ (v:Val) (i:Int) (p:List Stp),∀ x∈pathV ND v i p,x.length≤p.length + v.wt
 | .mk q z s ks,i,p,x,h=>by
  rw [pathV] at h
  rw [Val.wt]
  rcases List.mem_cons.1 h with h | h
  ·rw [h];omega
  ·split at h
   ·cases h
   ·rename_i d _
    have:=pathVs_sz (ND:=ND) ks (kidsL d (.mk q z s ks)) (fun e=>p ++ [stpR d (.mk q z s ks) e]) 0 (p.length + 1) (fun e=>by simp) x h
    omega
theorem pathVs_sz {ND:List Nd}:∀ (ks:List Val) (l:List Int) (f:Nat→List Stp) (e n:Nat),(∀ e,(f e).length≤n)→∀ x∈pathVs ND ks l f e,x.length≤n + wtVs ks
 | v :: r,i :: l,f,e,n,hf,x,h=>by
  rw [pathVs] at h
  rw [wtVs]
  rcases List.mem_append.1 h with h | h
  ·have:=pathV_sz (ND:=ND) v i (f e) x h
   have:=hf e
   omega
  ·have:=pathVs_sz (ND:=ND) r l f (e + 1) n hf x h
   omega
 | [],_,_,_,_,_,x,h=>by simp [pathVs] at h
 | _ :: _,[],_,_,_,_,x,h=>by simp [pathVs] at h
end
def stpL (d:Nd) (v:Val):List Stp:=(List.range v.ks.length).map (stpR d v)
theorem stpL_snoc (d:Nd) (v:Val) (e:Nat):dStps ((List.range e).map (stpR d v)) ++ [dStp (stpR d v e)]=dStps ((List.range (e + 1)).map (stpR d v)):=by
 rw [List.range_succ];simp [dStps]
abbrev stsSt (d:Nd) (v:Val) (q e:Nat):St:=
 ⟨[(2,⟨[],.loc 0 0⟩),(3,⟨[],.loc 1 0⟩),(5,⟨[],.sl 3 (dStps ((List.range e).map (stpR d v))) (some 0)⟩),(9,⟨[],.v (.int .i64 (dVals v.ks).length)⟩),(10,⟨[],.v (.int .i64 e)⟩)],[dNd d,dVal v],[⟨q,173,3,none⟩]⟩
theorem steps_spec (d:Nd) (v:Val) (hv:v.wt≤1099511627776) (hk:v.k=d.kind) (h5:5≤d.kind) (hk8:d.kind≤8) (h7:d.kind=7→v.ks.length=d.edges.length) (h8:d.kind=8→0≤v.n∧v.n < d.edges.length) :
  EvP Tryz.prog 168 [.agg (dNd d),.agg (dVal v)] (.sl 3 (dStps (stpL d v)) none):=by
 obtain ⟨kind,at',lo,hi,most,names,es⟩:=d
 obtain ⟨q,z,s,ks⟩:=v
 have hel:=dEds_len es
 have hdl:=dVals_len ks
 have hkl:=wtVs_len ks
 rw [Val.wt] at hv
 simp only [Val.k,Val.n,Val.ks] at hk h5 hk8 h7 h8
 subst hk
 refine ev_go (P:=Tryz.prog) tt tt_ok 5000 55 [.tmp 4] Tryz.func168 rfl Tryz.ntmps168 rfl (Nat.le_of_ble_eq_true rfl) (fun E9 w9 hn9 hm9=>?_)
 refine loop_i (fun j st=>∃ e:Nat,st=stsSt ⟨q,at',lo,hi,most,names,es⟩ (.mk q z s ks) e e∧e≤ks.length∧j=ks.length - e) ks.length (stsSt ⟨q,at',lo,hi,most,names,es⟩ (.mk q z s ks) 0 0) (weak_bt 2 ⟨0,173,3,none⟩ rfl rfl rfl (by repeat' (first | exact rfl | exact we_rfl rfl | exact we_tok (Nat.le_refl _) rfl | exact we_tok (Nat.le_refl _) rfl | refine ⟨_,_,rfl,?_,?_⟩)) rfl rfl (by repeat' (first | exact trivial | exact we_rfl rfl | exact we_tok (Nat.le_refl _) rfl | refine ⟨⟨_,rfl,?_⟩,?_⟩))) ⟨0,rfl,by omega,by omega⟩ ?_
 rintro j st ⟨e,rfl,he,rfl⟩
 refine br (fun hL=>?_) (fun hL=>?_)
 ·have hlt:e < ks.length:=by simpa [hdl,Val.ks] using hL
  have hml:(dStps ((List.range e).map (stpR ⟨q,at',lo,hi,most,names,es⟩ (.mk q z s ks)))).length=e:=by simp [dStps]
  have hsn:=stpL_snoc ⟨q,at',lo,hi,most,names,es⟩ (.mk q z s ks) e
  have hS:stpR ⟨q,at',lo,hi,most,names,es⟩ (.mk q z s ks) e=if q=5 then ⟨2,e,emptyB⟩
   else if q=6 then ⟨4,0,emptyB⟩
   else if q=7 then ⟨1,0,match es[e]? with | some e=>e.name | none=>emptyB⟩
   else ⟨5,0,match es[z.toNat]? with | some e=>e.name | none=>emptyB⟩:=rfl
  refine br (fun c=>?_) (fun c=>?_)
  ·have c:q=7:=by simpa using c
   obtain ⟨x,hx⟩:∃ x,es[e]? = some x:=⟨_,List.getElem?_eq_getElem (by have:=h7 c;omega)⟩
   rw [if_neg (by omega),if_neg (by omega),if_pos c] at hS
   simp only [hx] at hS
   rw [hS] at hsn
   refine ⟨_,⟨by omega,dEds_get hx⟩,?_⟩
   refine ⟨hml,⟨by rw [hml];simp [maxLen];omega,by rw [hml];simp;omega⟩,?_⟩
   exact ⟨stsSt ⟨q,at',lo,hi,most,names,es⟩ (.mk q z s ks) (e + 1) (e + 1),(weak_b 2 rfl (by repeat' (first | exact rfl | exact we_rfl rfl | exact we_int (nxt hlt (by omega)) | exact we_sl hsn rfl | refine ⟨_,_,rfl,?_,?_⟩)) rfl rfl rfl (by repeat' (first | exact trivial | exact we_rfl rfl | exact we_int (nxt hlt (by omega)) | exact we_sl hsn rfl | refine ⟨⟨_,rfl,?_⟩,?_⟩))),ks.length - (e + 1),by omega,e + 1,rfl,by omega,rfl⟩
  have c7:¬ q=7:=by simpa using c
  refine br (fun c=>?_) (fun c=>?_)
  ·have c:q=5:=by simpa using c
   rw [if_pos c] at hS
   rw [hS] at hsn
   refine ⟨hml,⟨by rw [hml];simp [maxLen];omega,by rw [hml];simp;omega⟩,?_⟩
   exact ⟨stsSt ⟨q,at',lo,hi,most,names,es⟩ (.mk q z s ks) (e + 1) (e + 1),(weak_b 2 rfl (by repeat' (first | exact rfl | exact we_rfl rfl | exact we_int (nxt hlt (by omega)) | exact we_sl hsn rfl | refine ⟨_,_,rfl,?_,?_⟩)) rfl rfl rfl (by repeat' (first | exact trivial | exact we_rfl rfl | exact we_int (nxt hlt (by omega)) | exact we_sl hsn rfl | refine ⟨⟨_,rfl,?_⟩,?_⟩))),ks.length - (e + 1),by omega,e + 1,rfl,by omega,rfl⟩
  have c5:¬ q=5:=by simpa using c
  refine br (fun c=>?_) (fun c=>?_)
  ·have c:q=6:=by simpa using c
   rw [if_neg c5,if_pos c] at hS
   rw [hS] at hsn
   refine ⟨hml,⟨by rw [hml];simp [maxLen];omega,by rw [hml];simp;omega⟩,?_⟩
   exact ⟨stsSt ⟨q,at',lo,hi,most,names,es⟩ (.mk q z s ks) (e + 1) (e + 1),(weak_b 2 rfl (by repeat' (first | exact rfl | exact we_rfl rfl | exact we_int (nxt hlt (by omega)) | exact we_sl hsn rfl | refine ⟨_,_,rfl,?_,?_⟩)) rfl rfl rfl (by repeat' (first | exact trivial | exact we_rfl rfl | exact we_int (nxt hlt (by omega)) | exact we_sl hsn rfl | refine ⟨⟨_,rfl,?_⟩,?_⟩))),ks.length - (e + 1),by omega,e + 1,rfl,by omega,rfl⟩
  have c6:¬ q=6:=by simpa using c
  refine br (fun c=>?_) (fun c=>?_)
  ·have c:q=8:=by simpa using c
   obtain ⟨z0,z1⟩:=h8 c
   obtain ⟨x,hx⟩:∃ x,es[z.toNat]? = some x:=⟨_,List.getElem?_eq_getElem (by omega)⟩
   rw [if_neg c5,if_neg c6,if_neg c7] at hS
   simp only [hx] at hS
   rw [hS] at hsn
   refine ⟨_,⟨by omega,dEds_get hx⟩,?_⟩
   refine ⟨hml,⟨by rw [hml];simp [maxLen];omega,by rw [hml];simp;omega⟩,?_⟩
   exact ⟨stsSt ⟨q,at',lo,hi,most,names,es⟩ (.mk q z s ks) (e + 1) (e + 1),(weak_b 2 rfl (by repeat' (first | exact rfl | exact we_rfl rfl | exact we_int (nxt hlt (by omega)) | exact we_sl hsn rfl | refine ⟨_,_,rfl,?_,?_⟩)) rfl rfl rfl (by repeat' (first | exact trivial | exact we_rfl rfl | exact we_int (nxt hlt (by omega)) | exact we_sl hsn rfl | refine ⟨⟨_,rfl,?_⟩,?_⟩))),ks.length - (e + 1),by omega,e + 1,rfl,by omega,rfl⟩
  ·have c:¬ q=8:=by simpa using c
   omega
 ·have hge:e=ks.length:=by
   have:=hL;simp [hdl,Val.ks] at this;omega
  rw [hge]
  exact ⟨_,ax,rfl⟩
end Go.Proofs.YtdeaicofhmkebaaGreat
set_option maxRecDepth 100000
namespace Go.Proofs.YtdeaicofhmkebaaGreat
open Go Go.RowKit Dv Tryz
section
variable {L:Nat} {ND:List Nd} (hok:∀ n∈ND,NdOK L ND.length n)
include hok
end
section
variable {L:Nat} {ND:List Nd} (hok:∀ n∈ND,NdOK L ND.length n)
include hok
end
end Go.Proofs.YtdeaicofhmkebaaGreat
namespace Go.Proofs.YtdeaicofhmkebaaGreat
namespace Dv
open Go Go.RowKit
mutual
def shD (m:Nat):DV→DV
 | .agg l=>.agg (shL m l)
 | .tup l=>.tup (shL m l)
 | .sl e es tk=>.sl e es (match tk with | some k=>some (m + k) | none=>none)
 | .fn f a b=>.fn f (shL m a) (shL m b)
 | .ifc t x=>.ifc t (shD m x)
 | .v x=>.v x
 | .ud=>.ud
 | .pt cs o=>.pt cs o
 | .loc i o=>.loc i o
 | .el i o=>.el i o
 | .ms i e o l c=>.ms i e o l c
def shL (m:Nat):List DV→List DV
 | []=>[]
 | d :: r=>shD m d :: shL m r
end
mutual
theorem shD_sound {m:Nat} {E2 E:En} (hβ:E2.β=[]) (hc:E.c=E2.c) (ht:∀ (k:Nat) q,E2.tk[k]? = some q→E.tk[m + k]? = some q∧E.τ[m + k]? = E2.τ[k]?):∀ {d:DV} {v:Value},Rv E2 d v→Rv E (shD m d) v
 | .v x,v,h=>by simpa only [Rv,shD] using h
 | .ud,v,h=>by simpa only [Rv,shD] using h
 | .agg l,v,h=>by
  simp only [Rv,shD] at h ⊢
  obtain ⟨vs,h1,h2,h3⟩:=h
  exact ⟨vs,h1,shL_sound hβ hc ht h2,h3⟩
 | .tup l,v,h=>by
  simp only [Rv,shD] at h ⊢
  obtain ⟨vs,h1,h2⟩:=h
  exact ⟨vs,h1,shL_sound hβ hc ht h2⟩
 | .sl e es tk,v,h=>by
  have he:E.cl=E2.cl:=by simp [En.cl,hc]
  simp only [Rv,shD] at h ⊢
  obtain ⟨b,n,cap,h1,h2,h3,h4⟩:=h
  refine ⟨b,n,cap,h1,h2,fun hn=>⟨(h3 hn).1,by rw [he];exact (h3 hn).2⟩,?_⟩
  intro k' hk'
  cases tk with
  | none=>cases hk'
  | some k=>
   simp only [Option.some.injEq] at hk'
   subst hk'
   obtain ⟨q,g1,g2,g3⟩:=h4 k rfl
   obtain ⟨g4,g5⟩:=ht k q g1
   exact ⟨q,g4,g2,fun hn=>by rw [g5];exact g3 hn⟩
 | .pt cs off,v,h=>by
  have he:E.cl=E2.cl:=by simp [En.cl,hc]
  simp only [Rv,shD] at h ⊢
  rw [he]
  exact h
 | .loc i off,v,h=>by
  simp only [Rv] at h
  obtain ⟨b,h1,_⟩:=h
  rw [hβ] at h1;simp at h1
 | .el i off,v,h=>by
  simp only [Rv] at h
  obtain ⟨b,h1,_⟩:=h
  rw [hβ] at h1;simp at h1
 | .ms i e off len cap,v,h=>by
  simp only [Rv] at h
  obtain ⟨b,_,h1,_⟩:=h
  rw [hβ] at h1;simp at h1
 | .fn f a b,v,h=>by
  simp only [Rv,shD] at h ⊢
  obtain ⟨l,r,h1,h2,h3⟩:=h
  exact ⟨l,r,h1,shL_sound hβ hc ht h2,shL_sound hβ hc ht h3⟩
 | .ifc t x,v,h=>by
  simp only [Rv,shD] at h ⊢
  obtain ⟨z,h1,h2⟩:=h
  exact ⟨z,h1,shD_sound hβ hc ht h2⟩
theorem shL_sound {m:Nat} {E2 E:En} (hβ:E2.β=[]) (hc:E.c=E2.c) (ht:∀ (k:Nat) q,E2.tk[k]? = some q→E.tk[m + k]? = some q∧E.τ[m + k]? = E2.τ[k]?):∀ {l:List DV} {vs:List Value},RvL E2 l vs→RvL E (shL m l) vs
 | [],vs,h=>by simpa only [RvL,shL] using h
 | d :: r,vs,h=>by
  simp only [RvL,shL] at h ⊢
  obtain ⟨v,s,h1,h2,h3⟩:=h
  exact ⟨v,s,h1,shD_sound hβ hc ht h2,shL_sound hβ hc ht h3⟩
end
section
variable {X:Ctx} {st:St} {k:List It} {E:En} {a:Act} {w:World}
theorem quiet_relF (h:Rel X E st a w) (hst:X.still=false) {E2:En} {w':World} (hm:Modd (E.cl).S w w') (he:Env E2 [] w') (hn:Nw E.cl E2 w):Rel X ⟨E2.c,E.β,E.tk ++ E2.tk,E.τ ++ E2.τ⟩ ⟨st.sl,st.bx,st.tk ++ E2.tk⟩ a w':=by
 have hq:=quiet_rel h hst hm he hn
 have hfr:∀ (j:Nat) y g,E2.τ[j]? = some y→y.ownBlock=some g→w.heap.size≤g:=fun j y g hy hg=>hn.tn j y g (Nat.zero_le _) hy hg
 have hold:∀ (k:Nat) y g,E.τ[k]? = some y→y.ownBlock=some g→g < w.heap.size:=fun k y g hy hg=>(h.env.own (List.mem_of_getElem? hy) hg).1
 have htl:E.τ.length=E.tk.length:=h.env.tl
 have hτ:∀ (k:Nat) y,(E.τ ++ E2.τ)[k]? = some y→(k < E.τ.length∧E.τ[k]? = some y)∨(E.τ.length≤k∧E2.τ[k - E.τ.length]? = some y):=fun k y hy=>by
  rw [List.getElem?_append] at hy
  split at hy
  ·rename_i hk;exact .inl ⟨hk,hy⟩
  ·rename_i hk;exact .inr ⟨by omega,hy⟩
 have hx:Ext ⟨E2.c,E.β,E.tk,E.τ⟩ ⟨E2.c,E.β,E.tk ++ E2.tk,E.τ ++ E2.τ⟩:=⟨fun _ _ h=>h,fun _ _ h=>h,fun j q hj=>by
  have hj:E.tk[j]? = some q:=hj
  have hlt:=(List.getElem?_eq_some_iff.1 hj).1
  refine ⟨q,by show (E.tk ++ _)[j]? = _;rw [List.getElem?_append_left hlt];exact hj,.inl ⟨rfl,?_⟩⟩
  show (E.τ ++ _)[j]? = _
  rw [List.getElem?_append_left (by rw [htl];exact hlt)]⟩
 refine rel_env hq hx ?_ (by show E.tk ++ _=_;rw [h.tk]) ?_ hq.fr (noSt hst) hq.bt
 ·exact {
   len:=h.env.len
   tl:=by show (E.τ ++ _).length=(E.tk ++ _).length;simp [htl,he.tl]
   bxs:=fun i cs hi=>by
    obtain ⟨b,t,arr,hb,hw,hc⟩:=hq.env.bxs i cs hi
    exact ⟨b,t,arr,hb,hw,hc.mono hx⟩
   inj:=h.env.inj
   sub:=he.sub
   pc:=hq.env.pc
   tks:=fun j q y hqj hy=>by
    have hqj:(E.tk ++ E2.tk)[j]? = some q:=hqj
    rcases hτ j y hy with ⟨hlt,hy'⟩ | ⟨hle,hy'⟩
    ·rw [List.getElem?_append_left (by rw [← htl];exact hlt)] at hqj
     exact hq.env.tks j q y hqj hy'
    ·rw [List.getElem?_append_right (by rw [← htl];exact hle),← htl] at hqj
     rcases he.tks _ q y hqj hy' with h1 | ⟨g,cap,cur,rfl,h1,h2,h3,h4,_,h6⟩
     ·exact .inl h1
     ·refine .inr ⟨g,cap,cur,rfl,h1,h2,h3,h4,fun hm'=>?_,h6⟩
      have:=hfr _ _ g hy' rfl
      have:=h.env.block_lt hm'
      omega
   tkd:=fun i j y y' g hij hy hy' hg hg'=>by
    rcases hτ i y hy with ⟨_,h1⟩ | ⟨h0,h1⟩
    ·rcases hτ j y' hy' with ⟨_,h2⟩ | ⟨_,h2⟩
     ·exact h.env.tkd i j y y' g hij h1 h2 hg hg'
     ·have:=hold i y g h1 hg
      have:=hfr _ y' g h2 hg'
      omega
    ·rcases hτ j y' hy' with ⟨_,h2⟩ | ⟨h00,h2⟩
     ·have:=hold j y' g h2 hg'
      have:=hfr _ y g h1 hg
      omega
     ·exact he.tkd _ _ y y' g (by omega) h1 h2 hg hg' }
 ·exact {
   c:=hq.nw.c
   cn:=hq.nw.cn
   β:=h.nw.β
   tk:=fun j q0 y0 hq0 hy0=>by
    obtain ⟨q',y',h1,h2,h3⟩:=h.nw.tk j q0 y0 hq0 hy0
    exact ⟨q',y',by show (E.tk ++ _)[j]? = _;rw [List.getElem?_append_left (List.getElem?_eq_some_iff.1 h1).1];exact h1,by show (E.τ ++ _)[j]? = _;rw [List.getElem?_append_left (List.getElem?_eq_some_iff.1 h2).1];exact h2,h3⟩
   tn:=fun j y g hj hy hg=>by
    rcases hτ j y hy with ⟨_,h1⟩ | ⟨_,h1⟩
    ·exact h.nw.tn j y g hj h1 hg
    ·exact Nat.le_trans h.fr.size (hfr _ y g h1 hg)
   l0:=h.nw.l0 }
theorem calls_f {P:Program} (h:Rel X E st a w) (hst:X.still=false) {f:FuncId} {args args':List DV} {vs:List Value} {Φ:DV→List (List DV)→List TkE→Prop} (hc:EvF P f args' [] [] Φ) (ha:CcL [] 0 0 0 args' args) (hv:RvL E args vs) :
  Calls P f vs.toArray w fun e w'=>∃ v E' d tks,e = .returned v∧Rel X E' ⟨st.sl,st.bx,st.tk ++ tks⟩ a w' ∧ Rv E' (shD st.tk.length d) v∧Φ d [] tks∧Modd E.cl.S w w' ∧ Ext E E' ∧ E'.β=E.β:=by
 have hv':RvL E.cl args' vs:=CcL.sound (E:=E) (E':=E.cl) ⟨fun _ _ h=>h,fun i cs _ hi=>by simp at hi⟩ (Low.zero _ _) ha hv
 refine (hc E.cl w vs (env_cl h.env) rfl hv').mono ?_
 rintro e w' ⟨v,rfl,hm,_,d,os,E2,he,hβ,_,hn,hvd,hΦ⟩
 have hβ:E2.β=[]:=hβ
 have hos:os=[]:=by
  have:=he.len
  rw [hβ] at this
  exact List.eq_nil_of_length_eq_zero this.symm
 subst hos
 have htl:E.τ.length=E.tk.length:=h.env.tl
 have hx:Ext E ⟨E2.c,E.β,E.tk ++ E2.tk,E.τ ++ E2.τ⟩:=⟨hn.c,fun _ _ h=>h,fun j q hj=>by
  have hlt:=(List.getElem?_eq_some_iff.1 hj).1
  refine ⟨q,by show (E.tk ++ _)[j]? = _;rw [List.getElem?_append_left hlt];exact hj,.inl ⟨rfl,?_⟩⟩
  show (E.τ ++ _)[j]? = _
  rw [List.getElem?_append_left (by rw [htl];exact hlt)]⟩
 refine ⟨v,_,d,E2.tk,rfl,quiet_relF h hst hm he hn,shD_sound (E2:=E2) (E:=⟨E2.c,E.β,E.tk ++ E2.tk,E.τ ++ E2.τ⟩) (m:=st.tk.length) hβ rfl (fun k q hq=>?_) hvd,hΦ,hm,hx,rfl⟩
 rw [← h.tk]
 constructor
 ·show (E.tk ++ E2.tk)[_]? = _
  rw [List.getElem?_append_right (by omega)]
  simpa using hq
 ·show (E.τ ++ E2.τ)[_]? = _
  rw [List.getElem?_append_right (by omega),htl]
  simp
theorem callD_f {D:Dr} {c:Bool} {i:Nat} {s0:List (Nat × Sl)} {f:FuncId} {args args':List DV} {d:Nat} {r:List (Nat × Oper)} (hen:Enters X.P f) (hd:(okD X.nt st.sl (some d) && okD X.nt s0 (some d))=true) {Φ:DV→List (List DV)→List TkE→Prop} (hc:EvF X.P f args' [] [] Φ) (ha:CcL [] 0 0 0 args' args)
  (hk:∀ res tks,Φ res [] tks→put2 s0 ⟨st.sl,st.bx,st.tk ++ tks⟩ (some d) false [] (shD st.tk.length res) (goD X D 3000 c r)) (hst:X.still=false:=by exact rfl):CallD X D c i r f args (some d) s0 st:=by
 refine ⟨hen,fun hl E0 wr hD E a w vs h hv=>(calls_f h.rel hst hc ha hv).mono ?_⟩
 rintro e w' ⟨v,E',res,tks,rfl,hrel,hr,hΦ,hm,hx,hβ⟩
 have hh:∀ b,b < w.heap.size→w'.heap[b]? = w.heap[b]?:=fun b hb=>hm.block b hb (by
  rintro (h1 | ⟨y,h1,_⟩)
  ·simp [En.cl] at h1
  ·simp [En.cl] at h1)
 have hs:Stp none E w E' w':=⟨hx,⟨[],by rw [hβ];simp⟩,fun j b hb _=>hh b (h.rel.env.block_lt (List.mem_of_getElem? hb))⟩
 have hC:=stp_C h hs hrel (fun j hj=>by cases hj)
 refine ⟨v,rfl,fun _=>hC,?_⟩
 have hrelD:RelD X ⟨D,E0,wr⟩ c E' s0 ⟨st.sl,st.bx,st.tk ++ tks⟩ (a.put none v) w':=stp_relD h hs hrel (fun h1=>hC (h.cc h1)) (fun i x hx=>.inr ⟨hx,fun d hd=>by cases hd⟩) rfl
 obtain ⟨s1,st1,hk1,hrel1⟩:=put2_rel hrelD hd false [] _ v (fun _ _ p hp=>by cases hp) (fun _=>hr) (fun hb=>by cases hb) (fun hn=>(hn (holds_nil _)).elim) (hk res tks hΦ)
 exact goD_sound (D:=⟨D,E0,wr⟩) hD 3000 c r _ _ hk1 hl E' _ w' hrel1
theorem weak_bd {n0 m0:Nat} {st st':St} (n:Nat) (hn:Nat.ble n st.bx.length=true) (h2:WeLL n st'.tk.length st'.tk (st.bx.take n) st'.bx) (h3:∃ dr,st.tk=st'.tk ++ dr) (h4:Nat.ble n0 n=true) (h5:Nat.ble m0 st'.tk.length=true)
  (h:sameW n st'.tk.length st'.tk st.sl st'.sl):Weak n0 m0 st st':=by
 have hl:(st.bx.take n).length=n:=by
  have:=Nat.le_of_ble_eq_true hn
  rw [List.length_take];omega
 obtain ⟨dr,h3⟩:=h3
 exact ⟨st'.tk,dr,[],st.bx.take n,st.bx.drop n,by simpa using h5,by rw [hl];simpa using h4,h3,by simp,by simp,(List.take_append_drop n st.bx).symm,by rw [hl];exact h2,by rw [hl];exact h⟩
theorem op_nilv {o:Oper} {t d et e' by' n:Nat} {x:Operand} {bb:Bool} {z:List Value} (hop:∃ t',o.op = .binOp .eql t x (.const (.slice none 0 0)) t') (hdst:o.dst=some d) (hx:rv st [] x=some (.v (.slice none 0 0))) (hT:X.T.find t=some ⟨n,bb,.sl et e' by',z⟩) (hd:okD X.nt st.sl (some d)=true)
  (hk:go X 4000 k ⟨(d,⟨[],.v (.bool true)⟩) :: st.sl,st.bx,st.tk⟩):OpG X o k st:=by
 intro E a w h
 obtain ⟨t',hop⟩:=hop
 have e1:=sl_val h.rl hx
 unfold Rv at e1
 obtain ⟨hu,_⟩:=und_sl X.hT hT
 have heq:=equal_sl hu none 0 0 w
 have hrun:(execOp a.eval o).run X.P w = .ok (.value (.bool true)) w:=by
  have hc:a.eval (.const (.slice none 0 0)) = .slice none 0 0:=rfl
  simp [execOp,hop,e1.1,hc,eqGuard,binOp,heq]
 refine wp_value hrun ?_
 rw [hdst]
 exact go_sound 4000 _ _ hk E _ w (put_rel h hd (.v (.bool true)) _ (by unfold Rv;exact ⟨rfl,rfl⟩))
end
end Dv
end Go.Proofs.YtdeaicofhmkebaaGreat
namespace Go.Proofs.YtdeaicofhmkebaaGreat
namespace Dv
open Go Go.RowKit
section
variable {X:Ctx} {st:St} {k:List It} {E:En} {a:Act} {w:World}
end
end Dv
end Go.Proofs.YtdeaicofhmkebaaGreat
set_option maxRecDepth 100000
namespace Go.Proofs.YtdeaicofhmkebaaGreat
open Go Go.RowKit Dv Tryz
theorem steps0_spec (d:Nd) (q z:Int) (s:ByteArray):EvP Tryz.prog 168 [.agg (dNd d),.agg (dVal (.mk q z s []))] (.sl 3 [] none):=by
 obtain ⟨kind,at',lo,hi,most,names,es⟩:=d
 refine ev_go (P:=Tryz.prog) tt tt_ok 5000 55 [.tmp 4] Tryz.func168 rfl Tryz.ntmps168 rfl (Nat.le_of_ble_eq_true rfl) (fun E9 w9 hn9 hm9=>?_)
 refine loop_i (fun j st=>st=stsSt ⟨kind,at',lo,hi,most,names,es⟩ (.mk q z s []) 0 0) 0 (stsSt ⟨kind,at',lo,hi,most,names,es⟩ (.mk q z s []) 0 0) (weak_bt 2 ⟨0,173,3,none⟩ rfl rfl rfl (by repeat' (first | exact rfl | exact we_rfl rfl | exact we_tok (Nat.le_refl _) rfl | exact we_tok (Nat.le_refl _) rfl | refine ⟨_,_,rfl,?_,?_⟩)) rfl rfl (by repeat' (first | exact trivial | exact we_rfl rfl | exact we_tok (Nat.le_refl _) rfl | refine ⟨⟨_,rfl,?_⟩,?_⟩))) rfl ?_
 rintro _ st rfl
 exact ⟨_,ax,rfl⟩
theorem tsteps_spec {L:Nat} {ND:List Nd} (hok:∀ n∈ND,NdOK L ND.length n) {v:Val} (hv:v.wt≤1099511627776) {i:Int} {d:Nd} (hF:FitF ND v i d):EvP Tryz.prog 168 [.agg (dNd d),.agg (dVal v)] (.sl 3 (dStps (stpL d v)) none):=by
 have hN:=hok d (List.mem_of_getElem? (nodeA_some hF.node).2)
 rcases Int.lt_or_le d.kind 5 with h5 | h5
 ·have h:=hF.leaf h5
  obtain ⟨q,z,s,ks⟩:=v
  simp only [Val.ks] at h
  subst h
  exact steps0_spec d q z s
 ·refine steps_spec d v hv hF.k h5 hN.k8 (fun c=>?_) (fun c=>?_)
  ·have:=(hF.kids h5).1
   rw [← this]
   unfold kidsL;rw [if_neg (by omega),if_pos c,List.length_map]
  ·obtain ⟨_,_,_,h3,h4,_⟩:=hF.tag c
   exact ⟨h3,h4⟩
end Go.Proofs.YtdeaicofhmkebaaGreat
set_option maxRecDepth 100000
namespace Go.Proofs.YtdeaicofhmkebaaGreat
open Go Go.RowKit Dv Tryz
abbrev p25St (W:List DV) (v:Val) (d:Nd) (p:List Stp) (L:List (List Stp)) (n e:Nat):St:=
 ⟨[(3,⟨[],.sl 3 (dStps p) none⟩),(4,⟨[],.loc 0 0⟩),(6,⟨[],.loc 1 0⟩),(9,⟨[],.sl 1 (dPths L) (some 0)⟩),(10,⟨[],.loc 2 0⟩),(11,⟨[],.v (.int .i64 e)⟩)],[W,dVal v,dNd d],[⟨n,74,1,none⟩]⟩
theorem dStps_snoc (l:List Stp) (x:Stp):dStps l ++ [dStp x]=dStps (l ++ [x]):=by simp [dStps]
theorem dPths_app (a b:List (List Stp)):dPths a ++ dPths b=dPths (a ++ b):=by simp [dPths]
theorem paths25_spec (a b:Nat) (A B:List (List DV)) (rt:Int) {ND:List Nd} {L:Nat} (hok:∀ n∈ND,NdOK L ND.length n):∀ (k:Nat) (v:Val),v.wt≤k→∀ (i:Int) (p:List Stp),p.length + v.wt≤1099511627776→fitV ND v i=true→EvP Tryz.prog 32 [.agg (wG a b A B ND rt),.v (.int .i64 i),.agg (dVal v),.sl 3 (dStps p) none] (.sl 1 (dPths (pathV ND v i p)) none)
 | 0,v,h=>by have:=v.wt_pos;omega
 | k + 1,v,h=>fun i p hb hfit=>by
  have ih:=paths25_spec a b A B rt hok k
  obtain ⟨d,hF⟩:=fit_facts hok hfit
  have hpV:pathV ND v i p=p :: pathVs ND v.ks (kidsL d v) (fun e=>p ++ [stpR d v e]) 0:=by
   obtain ⟨q,z,s,ks⟩:=v
   rw [pathV,hF.node]
   rfl
  have hnd:=hF.node
  obtain ⟨h0,hg⟩:=nodeA_some hF.node
  obtain ⟨j,rfl⟩:∃ j:Nat,i=j:=⟨i.toNat,by omega⟩
  have hg:ND[j]? = some d:=by simpa using hg
  have hN:=hok d (List.mem_of_getElem? hg)
  have hk1:=hN.k1
  have hk8:=hN.k8
  have hkk:=hF.k
  have hkids:=hF.kids
  have htag:=hF.tag
  have hleaf:=hF.leaf
  have htoK:=fun h5=>@toR_kids ND d v j hnd hfit h5 hk8
  have hto:=fun m=>to25_spec hN v m
  have hkl7:d.kind=7→(kidsL d v).length=d.edges.length:=fun c=>by unfold kidsL;rw [if_neg (by omega),if_pos c,List.length_map]
  have hste:=fun m (hm:m < v.ks.length)=>step25_spec d v m (fun c=>by have:=hkl7 c;have:=(hkids (by omega)).1;omega) (fun c5 c6 c7=>by
   have:d.kind=8:=by
    rcases Int.lt_or_le d.kind 5 with h5 | h5
    ·rw [hleaf h5] at hm;simp at hm
    ·omega
   obtain ⟨_,_,_,h3,h4,_⟩:=htag this
   exact ⟨h3,h4⟩)
  rw [hpV]
  generalize hfs:(fun e=>p ++ [stpR d v e])=fS
  have hfS:∀ e,fS e=p ++ [stpR d v e]:=fun e=>by rw [← hfs]
  have hpl:=fun a b=>pathVs_len (ND:=ND) a b fS 0
  have hpc:=fun x i' e=>pathV_len (ND:=ND) x i' (fS e)
  generalize hst:stpR d v=sR at hste hfS
  have hNl:=dNds_len ND
  have hWd:wG a b A B ND rt=wG a b A B ND rt:=rfl
  obtain ⟨q,z,s,ks⟩:=v
  have hdl:=dVals_len ks
  have hkl:=wtVs_len ks
  have hdp:=dStps_len p
  have hcw:=(cntVs_wt ks).1
  rw [Val.wt] at h hb
  simp only [Val.k,Val.n,Val.ks] at hkk hkids htag hleaf hste ⊢
  generalize hkL:kidsL d (.mk q z s ks)=l at hkids htoK ⊢
  generalize hf:toR d (.mk q z s ks)=f at hto htoK
  obtain ⟨kind,at',lo,hi,most,names,es⟩:=d
  simp only at hkk hk1 hk8 hkids htag hleaf htoK
  subst hkk
  refine evB_gom (s:=false) (bt:=[]) (mu:=[14]) (hbt:=fun p hp=>by cases hp) (fr:=false) (P:=Tryz.prog) tt tt_ok 5000 51 [.tmp 8] Tryz.func32 rfl Tryz.ntmps32 rfl (Nat.le_of_ble_eq_true rfl) (fun E9 w9 hn9 hm9=>?_)
  refine op_lit rfl rfl rfl rfl rfl rfl rfl rfl ?_
  refine ⟨_,⟨by omega,dNds_get hg⟩,?_⟩
  refine loop_i (fun j st=>∃ (e n:Nat),st=p25St (wG a b A B ND rt) (.mk q z s ks) ⟨q,at',lo,hi,most,names,es⟩ p (p :: pathVs ND (ks.take e) (l.take e) fS 0) n e∧n=(p :: pathVs ND (ks.take e) (l.take e) fS 0).length∧e≤ks.length∧j=ks.length - e) ks.length
   (p25St (wG a b A B ND rt) (.mk q z s ks) ⟨q,at',lo,hi,most,names,es⟩ p [p] 1 0) (weak_b 3 rfl (by repeat' (first | exact rfl | exact we_rfl rfl | exact we_rfl rfl | refine ⟨_,_,rfl,?_,?_⟩)) rfl rfl rfl (by repeat' (first | exact trivial | exact we_rfl rfl | exact we_rfl rfl | refine ⟨⟨_,rfl,?_⟩,?_⟩))) ⟨0,1,rfl,rfl,by omega,by omega⟩ ?_
  rintro _ st ⟨e,n,rfl,hn,he,rfl⟩
  refine br (fun hL=>?_) (fun hL=>?_)
  ·have hlt:e < ks.length:=by simpa [hdl] using hL
   have h5:5≤q:=by
    rcases Int.lt_or_le q 5 with h5 | h5
    ·rw [hleaf h5] at hlt;simp at hlt
    ·exact h5
   obtain ⟨hll,hfs⟩:=hkids h5
   obtain ⟨x,hx⟩:∃ x,ks[e]? = some x:=⟨_,List.getElem?_eq_getElem hlt⟩
   obtain ⟨i',hi'⟩:∃ i',l[e]? = some i':=⟨_,List.getElem?_eq_getElem (by omega)⟩
   have hxw:=wtVs_mem (List.mem_of_getElem? hx)
   have hw:=ih x (by omega) i' (p ++ [sR e]) (by simp;omega) (fitVs_at hfs hx hi')
   have hsn:=pathVs_snoc (ND:=ND) (f:=fS) (b:=0) hx hi'
   rw [Nat.zero_add,hfS] at hsn
   have hl1:=hpl (ks.take e) (l.take e)
   have hl2:=hpc x i' e
   rw [hfS] at hl2
   have hl3:=(cntVs_take ks e).1
   have hl4:=(cntV_wt x).1
   have htk:=hto e
   rw [htoK h5 hi'] at htk
   have hse:=hste e hlt
   have hsn2:dPths (p :: pathVs ND (ks.take e) (l.take e) fS 0) ++ dPths (pathV ND x i' (p ++ [sR e]))=dPths (p :: pathVs ND (ks.take (e + 1)) (l.take (e + 1)) fS 0):=by
    rw [dPths_app,hsn];rfl
   have hdl1:=dPths_len (p :: pathVs ND (ks.take e) (l.take e) fS 0)
   rw [List.length_cons] at hdl1 hn
   generalize pathVs ND (ks.take e) (l.take e) fS 0=P1 at hsn hl1 hsn2 hdl1 hn ⊢
   have hdl2:=dPths_len (pathV ND x i' (p ++ [sR e]))
   have hsl:(pathVs ND (ks.take (e + 1)) (l.take (e + 1)) fS 0).length=P1.length + (pathV ND x i' (p ++ [sR e])).length:=by rw [hsn,List.length_append]
   generalize pathV ND x i' (p ++ [sR e])=P2 at hw hsn2 hdl2 hl2 hsl
   obtain ⟨xk,xn,xs,xl⟩:=x
   have hss:=dStps_snoc p (sR e)
   generalize hsr:sR e=sr at hse hw hss
   refine drawG_i (fun _=>false) mo (by decide +kernel) ?_
   refine op_emptyD rfl rfl rfl rfl ?_
   refine ⟨rfl,⟨by rw [hdp];simp [maxLen];omega,by rw [hdp];simp;omega⟩,?_⟩
   refine callD_p en97 (hse) ax rfl ?_
   refine ⟨by simp,⟨by simp [maxLen,hdp];omega,by simp [hdp];omega⟩,?_⟩
   refine drawG_i (fun _=>false) mo (by decide +kernel) ?_
   refine callD_p en96 (htk) ax rfl ?_
   refine ⟨_,⟨by omega,dVals_get hx⟩,?_⟩
   refine callD_p en32 (hw) (by repeat' (first | exact rfl | exact trivial | exact Or.inr (Or.inl ⟨_,rfl⟩) | exact Or.inr ⟨_,rfl⟩ | exact Or.inl ⟨rfl,rfl⟩ | exact Or.inl rfl | refine Or.inr ⟨_,_,rfl,Nat.zero_le _,rfl,?_⟩ | refine ⟨_,_,rfl,?_,?_⟩ | refine ⟨_,rfl,?_⟩ | exact Or.inr (Or.inl ⟨_,congrArg (fun l=>DV.sl 3 l _) hss⟩)| refine Or.inr (Or.inr (Or.inr ⟨_,_,rfl,?_⟩)) | exact Or.inl rfl | refine Or.inr ?_)) rfl ?_
   refine ⟨by rw [hdl1,hn],⟨by rw [hdl1,hdl2];simp [maxLen];omega,by rw [hdl1,hdl2];omega⟩,?_⟩
   exact ⟨p25St (wG a b A B ND rt) (.mk q z s ks) ⟨q,at',lo,hi,most,names,es⟩ p (p :: pathVs ND (ks.take (e + 1)) (l.take (e + 1)) fS 0) (n + (dPths P2).length) (e + 1),(weak_bd 3 rfl (by repeat' (first | exact rfl | exact we_rfl rfl | exact we_int (nxt hlt (by omega)) | exact we_sl hsn2 rfl | refine ⟨_,_,rfl,?_,?_⟩)) ⟨_,rfl⟩ rfl rfl (by repeat' (first | exact trivial | exact we_rfl rfl | exact we_int (nxt hlt (by omega)) | exact we_sl hsn2 rfl | refine ⟨⟨_,rfl,?_⟩,?_⟩))),ks.length - (e + 1),by omega,e + 1,_,rfl,by rw [hdl2,List.length_cons,hsl,hn];omega,by omega,rfl⟩
  ·have hge:e=ks.length:=by
    have:=hL;simp [hdl] at this;omega
   subst hge
   have h1:pathVs ND (ks.take ks.length) (l.take ks.length) fS 0=pathVs ND ks l fS 0:=by
    rw [List.take_length]
    rcases Int.lt_or_le q 5 with h5 | h5
    ·rw [hleaf h5];simp [pathVs]
    ·rw [← (hkids h5).1,List.take_length]
   rw [h1]
   exact ⟨_,ax,rfl⟩
end Go.Proofs.YtdeaicofhmkebaaGreat
set_option maxRecDepth 100000
namespace Go.Proofs.YtdeaicofhmkebaaGreat
open Go Go.RowKit Dv Tryz
def dP:List Stp→DV
 | []=>.v (.slice none 0 0)
 | s :: p=>.sl 3 (dStps (s :: p)) none
theorem clonep_spec (p:List Stp) (hl:p.length≤1099511627776):EvP Tryz.prog 167 [dP p] (.sl 3 (dStps p) none):=by
 cases p with
 | nil=>
  refine evp_nil ?_
  refine ev_go (P:=Tryz.prog) tt tt_ok 5000 8 [.tmp 2] Tryz.func167 rfl Tryz.ntmps167 rfl (Nat.le_of_ble_eq_true rfl) (fun E9 w9 hn9 hm9=>?_)
  refine op_nilv ⟨_,rfl⟩ rfl rfl rfl rfl ?_
  exact Or.inr ⟨rfl,rfl⟩
 | cons s p=>
  have hdl:=dStps_len (s :: p)
  have hne:dStps (s :: p) ≠ []:=by simp [dStps]
  refine ev_go (P:=Tryz.prog) tt tt_ok 5000 8 [.tmp 2] Tryz.func167 rfl Tryz.ntmps167 rfl (Nat.le_of_ble_eq_true rfl) (fun E9 w9 hn9 hm9=>?_)
  refine op_nil ⟨_,rfl⟩ rfl rfl rfl rfl (fun b hb=>?_)
  rw [hb hne]
  refine op_empty rfl rfl rfl rfl (hk:=?_)
  refine ⟨rfl,⟨by simp [maxLen,hdl];simp at hl;omega,by simp [hdl];simp at hl;omega⟩,?_⟩
  exact ⟨_,ax,rfl⟩
theorem clonep_n:EvP Tryz.prog 167 [.v (.slice none 0 0)] (.v (.slice none 0 0)):=by
 refine ev_go (P:=Tryz.prog) tt tt_ok 5000 8 [.tmp 2] Tryz.func167 rfl Tryz.ntmps167 rfl (Nat.le_of_ble_eq_true rfl) (fun E9 w9 hn9 hm9=>?_)
 refine op_nilv ⟨_,rfl⟩ rfl rfl rfl rfl ?_
 exact (rfl:_=_)
theorem clonep_f (s:Stp) (p:List Stp) (hl:(s :: p).length≤1099511627776):EvF Tryz.prog 167 [.sl 3 (dStps (s :: p)) none] [] [] (fun r _ tks=>r = .sl 3 (dStps (s :: p)) (some 0)∧tks=[⟨(s :: p).length,173,3,none⟩]):=by
 have hdl:=dStps_len (s :: p)
 have hne:dStps (s :: p) ≠ []:=by simp [dStps]
 refine evB_gom (s:=false) (bt:=[]) (mu:=[]) (hbt:=fun p hp=>by cases hp) (fr:=true) (P:=Tryz.prog) tt tt_ok 5000 8 [.tmp 2] Tryz.func167 rfl Tryz.ntmps167 rfl (Nat.le_of_ble_eq_true rfl) (fun E9 w9 hn9 hm9=>?_)
 refine op_nil ⟨_,rfl⟩ rfl rfl rfl rfl (fun b hb=>?_)
 rw [hb hne]
 refine op_empty rfl rfl rfl rfl (hk:=?_)
 refine ⟨rfl,⟨by simp [maxLen,hdl];simp at hl;omega,by simp [hdl];simp at hl;omega⟩,?_⟩
 refine ⟨_,[],(by repeat' (first | exact rfl | exact trivial | exact Or.inr (Or.inl ⟨_,rfl⟩) | exact Or.inr ⟨_,rfl⟩ | exact Or.inl ⟨rfl,rfl⟩ | exact Or.inl rfl | refine Or.inr ⟨_,_,rfl,Nat.zero_le _,rfl,?_⟩ | refine ⟨_,_,rfl,?_,?_⟩ | refine ⟨_,rfl,?_⟩ | exact ⟨Nat.le_of_ble_eq_true rfl,rfl⟩ | refine Or.inr (Or.inr (Or.inr ⟨_,_,rfl,?_⟩)) | exact Or.inl rfl | refine Or.inr ?_)),rfl,rfl,?_⟩
 show [(⟨0 + (dStps (s :: p)).length,_,3,none⟩:TkE)]=_
 rw [hdl,Nat.zero_add]
abbrev twkSt (PC:List DV) (v:Val) (d:Nd) (p:List Stp) (L:List (List Stp)) (l:List Int) (SL:List Stp) (n e:Nat):St:=
 ⟨[(0,⟨[],.pt PC 0⟩),(3,⟨[],dP p⟩),(6,⟨[],.loc 0 0⟩),(9,⟨[],.sl 1 (dPths L) (some 0)⟩),(10,⟨[],.loc 1 0⟩),(12,⟨[],.sl 1 (dZs l) none⟩),(38,⟨[],.sl 3 (dStps SL) none⟩),(39,⟨[],.v (.int .i64 (dStps SL).length)⟩),(40,⟨[],.v (.int .i64 e)⟩)],[dVal v,dNd d],[⟨n,74,1,none⟩]⟩
theorem walk_spec {S:Sch} {ND:List Nd} {PC:List DV} (hP:PlanR S ND PC):∀ (k:Nat) (v:Val),v.wt≤k→∀ (i:Int) (p:List Stp),p.length + v.wt≤1099511627776→fitV ND v i=true →
  EvP Tryz.prog 95 [.pt PC 0,.v (.int .i64 i),.agg (dVal v),dP p] (.sl 1 (dPths (pathV ND v i p)) none)
 | 0,v,h=>by have:=v.wt_pos;omega
 | k + 1,v,h=>fun i p hb hfit=>by
  have ih:=walk_spec hP k
  obtain ⟨d,hF⟩:=fit_facts hP.ok hfit
  have hpV:pathV ND v i p=p :: pathVs ND v.ks (kidsL d v) (fun e=>p ++ [stpR d v e]) 0:=by
   obtain ⟨q,z,s,ks⟩:=v
   rw [pathV,hF.node]
   rfl
  have hsts:=tsteps_spec hP.ok (by omega) hF
  have hstg:∀ e,e < v.ks.length→(stpL d v)[e]? = some (stpR d v e):=fun e he=>by
   unfold stpL
   rw [List.getElem?_map,List.getElem?_range he];rfl
  have hstl:(stpL d v).length=v.ks.length:=by simp [stpL]
  obtain ⟨h0,hg⟩:=nodeA_some hF.node
  have hN:=hP.ok d (List.mem_of_getElem? hg)
  have hkd:=fun h5=>kids_spec hN h5 v (by omega)
  obtain ⟨j,rfl⟩:∃ j:Nat,i=j:=⟨i.toNat,by omega⟩
  have hg:ND[j]? = some d:=by simpa using hg
  have hnode:=hP.node j d hg
  have hkids:=hF.kids
  have hleaf:=hF.leaf
  rw [hpV]
  generalize hfs:(fun e=>p ++ [stpR d v e])=fS
  have hfS:∀ e,fS e=p ++ [stpR d v e]:=fun e=>by rw [← hfs]
  have hpl:=fun a b=>pathVs_len (ND:=ND) a b fS 0
  have hpc:=fun x i' e=>pathV_len (ND:=ND) x i' (fS e)
  generalize hst:stpR d v=sR at hfS hstg
  generalize stpL d v=SL at hsts hstg hstl
  have hcl:=clonep_spec p (by omega)
  have hcf:=fun s q (h:p=s :: q)=>clonep_f s q (by rw [← h];omega)
  have hccP:∀ bx N n0 m0,Cc bx N n0 m0 (dP p) (dP p):=fun bx N n0 m0=>by
   cases p with
   | nil=>simp only [dP,Cc]
   | cons s p=>simp only [dP,Cc];exact .inr (.inl ⟨_,rfl⟩)
  have hclP:∀ n m tk,We n m tk (dP p) (dP p):=fun n m tk=>.inl ⟨rfl,by cases p<;>rfl⟩
  obtain ⟨q,z,s,ks⟩:=v
  have hdl:=dVals_len ks
  have hkl:=wtVs_len ks
  have hdp:=dStps_len p
  have hsl:=dStps_len SL
  have hcw:=(cntVs_wt ks).1
  rw [Val.wt] at h hb
  simp only [Val.ks] at hkids hleaf hstg hstl ⊢
  generalize kidsL d (.mk q z s ks)=l at hkids hkd ⊢
  generalize kidsB d (.mk q z s ks)=lb at hkd
  obtain ⟨kind,at',lo,hi,most,names,es⟩:=d
  simp only at hkids hleaf
  refine evB_gom (s:=false) (bt:=[]) (mu:=[18]) (hbt:=fun p hp=>by cases hp) (fr:=false) (P:=Tryz.prog) tt tt_ok 5000 65 [.tmp 8] Tryz.func95 rfl Tryz.ntmps95 rfl (Nat.le_of_ble_eq_true rfl) (fun E9 w9 hn9 hm9=>?_)
  refine call_p en167 (hcl) (by repeat' (first | exact rfl | exact trivial | exact Or.inr (Or.inl ⟨_,rfl⟩) | exact Or.inr ⟨_,rfl⟩ | exact Or.inl ⟨rfl,rfl⟩ | exact Or.inl rfl | refine Or.inr ⟨_,_,rfl,Nat.zero_le _,rfl,?_⟩ | refine ⟨_,_,rfl,?_,?_⟩ | refine ⟨_,rfl,?_⟩ | exact hccP _ _ _ _| refine Or.inr (Or.inr (Or.inr ⟨_,_,rfl,?_⟩)) | exact Or.inl rfl | refine Or.inr ?_)) rfl ?_
  refine op_lit rfl rfl rfl rfl rfl rfl rfl rfl ?_
  refine call_p en19 (hnode) ax rfl ?_
  refine br (fun hz=>?_) (fun hz=>?_)
  ·have hz:ks=[]:=by
    have:=hz;simp [hdl] at this;exact this
   subst hz
   exact ⟨_,ax,rfl⟩
  have hz:0 < ks.length:=by
   have:=hz;simp [hdl] at this;exact List.length_pos_iff.2 this
  have h5:5≤kind:=by
   rcases Int.lt_or_le kind 5 with h5 | h5
   ·rw [hleaf h5] at hz;simp at hz
   ·exact h5
  obtain ⟨hll,hfs2⟩:=hkids h5
  have hkd:=hkd h5
  refine call_p en118 (hkd) ax rfl ?_
  refine call_p en168 (hsts) ax rfl ?_
  refine loop_i (fun j st=>∃ (e n:Nat),st=twkSt PC (.mk q z s ks) ⟨kind,at',lo,hi,most,names,es⟩ p (p :: pathVs ND (ks.take e) (l.take e) fS 0) l SL n e∧n=(p :: pathVs ND (ks.take e) (l.take e) fS 0).length∧e≤ks.length∧j=ks.length - e) ks.length
   (twkSt PC (.mk q z s ks) ⟨kind,at',lo,hi,most,names,es⟩ p [p] l SL 1 0) (weak_b 2 rfl (by repeat' (first | exact rfl | exact we_rfl rfl | exact hclP _ _ _ | refine ⟨_,_,rfl,?_,?_⟩)) rfl rfl rfl (by repeat' (first | exact trivial | exact we_rfl rfl | exact hclP _ _ _ | refine ⟨⟨_,rfl,?_⟩,?_⟩))) ⟨0,1,rfl,rfl,by omega,by omega⟩ ?_
  rintro _ st ⟨e,n,rfl,hn,he,rfl⟩
  refine br (fun hL=>?_) (fun hL=>?_)
  ·have hlt:e < ks.length:=by simpa [hsl,hstl] using hL
   obtain ⟨x,hx⟩:∃ x,ks[e]? = some x:=⟨_,List.getElem?_eq_getElem hlt⟩
   obtain ⟨i',hi'⟩:∃ i',l[e]? = some i':=⟨_,List.getElem?_eq_getElem (by omega)⟩
   have hxw:=wtVs_mem (List.mem_of_getElem? hx)
   have hw:=ih x (by omega) i' (p ++ [sR e]) (by simp;omega) (fitVs_at hfs2 hx hi')
   have hsn:=pathVs_snoc (ND:=ND) (f:=fS) (b:=0) hx hi'
   rw [Nat.zero_add,hfS] at hsn
   have hl1:=hpl (ks.take e) (l.take e)
   have hl2:=hpc x i' e
   rw [hfS] at hl2
   have hl3:=(cntVs_take ks e).1
   have hl4:=(cntV_wt x).1
   have hsg:=hstg e hlt
   have hsn2:dPths (p :: pathVs ND (ks.take e) (l.take e) fS 0) ++ dPths (pathV ND x i' (p ++ [sR e]))=dPths (p :: pathVs ND (ks.take (e + 1)) (l.take (e + 1)) fS 0):=by
    rw [dPths_app,hsn];rfl
   have hdl1:=dPths_len (p :: pathVs ND (ks.take e) (l.take e) fS 0)
   rw [List.length_cons] at hdl1 hn
   generalize pathVs ND (ks.take e) (l.take e) fS 0=P1 at hsn hl1 hsn2 hdl1 hn ⊢
   have hdl2:=dPths_len (pathV ND x i' (p ++ [sR e]))
   have hsl2:(pathVs ND (ks.take (e + 1)) (l.take (e + 1)) fS 0).length=P1.length + (pathV ND x i' (p ++ [sR e])).length:=by rw [hsn,List.length_append]
   generalize pathV ND x i' (p ++ [sR e])=P2 at hw hsn2 hdl2 hl2 hsl2
   obtain ⟨xk,xn,xs,xl⟩:=x
   have hss:=dStps_snoc p (sR e)
   generalize hsr:sR e=sr at hw hss hsg
   have hdP:dP (p ++ [sr]) = .sl 3 (dStps (p ++ [sr])) none:=by cases p<;>rfl
   rw [hdP] at hw
   refine ⟨_,⟨by omega,dStps_get hsg⟩,?_⟩
   rcases p with _ | ⟨s0,p⟩
   ·apply drawG_two (fun _=>false) 12 14 [0,1,2,3,4,5,6,7,8,9,10,11,12,13,14,15,16,17,18] [0,1,2,3,4,5,6,7,8,9,10,11,13,14,12,15,16,17,18] 0 0 mo (by decide +kernel)
    ·refine ⟨_,⟨by omega,dZs_get hi'⟩,?_⟩
     refine ⟨_,⟨by omega,dVals_get hx⟩,?_⟩
     refine callD_p en167 (clonep_n) ax rfl ?_
     refine ⟨by simp [maxLen],?_⟩
     refine callD_p en95 (hw) (by repeat' (first | exact rfl | exact trivial | exact Or.inr (Or.inl ⟨_,rfl⟩) | exact Or.inr ⟨_,rfl⟩ | exact Or.inl ⟨rfl,rfl⟩ | exact Or.inl rfl | refine Or.inr ⟨_,_,rfl,Nat.zero_le _,rfl,?_⟩ | refine ⟨_,_,rfl,?_,?_⟩ | refine ⟨_,rfl,?_⟩ | exact Or.inr (Or.inl ⟨_,congrArg (fun l=>DV.sl 3 l _) hss⟩)| refine Or.inr (Or.inr (Or.inr ⟨_,_,rfl,?_⟩)) | exact Or.inl rfl | refine Or.inr ?_)) rfl ?_
     refine ⟨by rw [hdl1,hn],⟨by rw [hdl1,hdl2];simp [maxLen];omega,by rw [hdl1,hdl2];omega⟩,?_⟩
     refine (?_:@Eq St _ _)
     exact rfl
    ·refine ⟨_,⟨by omega,dZs_get hi'⟩,?_⟩
     refine ⟨_,⟨by omega,dVals_get hx⟩,?_⟩
     refine callD_p en167 (clonep_n) ax rfl ?_
     refine ⟨by simp [maxLen],?_⟩
     refine callD_p en95 (hw) (by repeat' (first | exact rfl | exact trivial | exact Or.inr (Or.inl ⟨_,rfl⟩) | exact Or.inr ⟨_,rfl⟩ | exact Or.inl ⟨rfl,rfl⟩ | exact Or.inl rfl | refine Or.inr ⟨_,_,rfl,Nat.zero_le _,rfl,?_⟩ | refine ⟨_,_,rfl,?_,?_⟩ | refine ⟨_,rfl,?_⟩ | exact Or.inr (Or.inl ⟨_,congrArg (fun l=>DV.sl 3 l _) hss⟩)| refine Or.inr (Or.inr (Or.inr ⟨_,_,rfl,?_⟩)) | exact Or.inl rfl | refine Or.inr ?_)) rfl ?_
     refine ⟨by rw [hdl1,hn],⟨by rw [hdl1,hdl2];simp [maxLen];omega,by rw [hdl1,hdl2];omega⟩,?_⟩
     refine (⟨rfl,rfl,?_⟩:_∧_∧_)
     repeat' (first | exact trivial | refine ⟨rfl,?_⟩)
    ·rfl
    exact ⟨twkSt PC (.mk q z s ks) ⟨kind,at',lo,hi,most,names,es⟩ [] ([] :: pathVs ND (ks.take (e + 1)) (l.take (e + 1)) fS 0) l SL (n + (dPths P2).length) (e + 1),(weak_bd 2 rfl (by repeat' (first | exact rfl | exact we_rfl rfl | exact we_int (nxt hlt (by omega)) | exact we_sl hsn2 rfl | refine ⟨_,_,rfl,?_,?_⟩)) ⟨_,rfl⟩ rfl rfl (by repeat' (first | exact trivial | exact we_rfl rfl | exact we_int (nxt hlt (by omega)) | exact we_sl hsn2 rfl | refine ⟨⟨_,rfl,?_⟩,?_⟩))),ks.length - (e + 1),by omega,e + 1,_,rfl,by rw [hdl2,List.length_cons,hsl2,hn];omega,by omega,rfl⟩
   ·apply drawG_two (fun _=>false) 12 14 [0,1,2,3,4,5,6,7,8,9,10,11,12,13,14,15,16,17,18] [0,1,2,3,4,5,6,7,8,9,10,11,13,14,12,15,16,17,18] 0 0 mo (by decide +kernel)
    ·refine ⟨_,⟨by omega,dZs_get hi'⟩,?_⟩
     refine ⟨_,⟨by omega,dVals_get hx⟩,?_⟩
     refine callD_f en167 rfl (hcf s0 p rfl) ax (fun res tks hr=>?_)
     obtain ⟨rfl,rfl⟩:=hr
     refine ⟨by rw [hdp],⟨by rw [hdp];simp [maxLen];simp at hb;omega,by rw [hdp];simp;simp at hb;omega⟩,?_⟩
     refine callD_p en95 (hw) (by repeat' (first | exact rfl | exact trivial | exact Or.inr (Or.inl ⟨_,rfl⟩) | exact Or.inr ⟨_,rfl⟩ | exact Or.inl ⟨rfl,rfl⟩ | exact Or.inl rfl | refine Or.inr ⟨_,_,rfl,Nat.zero_le _,rfl,?_⟩ | refine ⟨_,_,rfl,?_,?_⟩ | refine ⟨_,rfl,?_⟩ | exact Or.inr (Or.inl ⟨_,congrArg (fun l=>DV.sl 3 l _) hss⟩)| refine Or.inr (Or.inr (Or.inr ⟨_,_,rfl,?_⟩)) | exact Or.inl rfl | refine Or.inr ?_)) rfl ?_
     refine ⟨by rw [hdl1,hn],⟨by rw [hdl1,hdl2];simp [maxLen];omega,by rw [hdl1,hdl2];omega⟩,?_⟩
     refine (?_:@Eq St _ _)
     exact rfl
    ·refine ⟨_,⟨by omega,dZs_get hi'⟩,?_⟩
     refine ⟨_,⟨by omega,dVals_get hx⟩,?_⟩
     refine callD_f en167 rfl (hcf s0 p rfl) ax (fun res tks hr=>?_)
     obtain ⟨rfl,rfl⟩:=hr
     refine ⟨by rw [hdp],⟨by rw [hdp];simp [maxLen];simp at hb;omega,by rw [hdp];simp;simp at hb;omega⟩,?_⟩
     refine callD_p en95 (hw) (by repeat' (first | exact rfl | exact trivial | exact Or.inr (Or.inl ⟨_,rfl⟩) | exact Or.inr ⟨_,rfl⟩ | exact Or.inl ⟨rfl,rfl⟩ | exact Or.inl rfl | refine Or.inr ⟨_,_,rfl,Nat.zero_le _,rfl,?_⟩ | refine ⟨_,_,rfl,?_,?_⟩ | refine ⟨_,rfl,?_⟩ | exact Or.inr (Or.inl ⟨_,congrArg (fun l=>DV.sl 3 l _) hss⟩)| refine Or.inr (Or.inr (Or.inr ⟨_,_,rfl,?_⟩)) | exact Or.inl rfl | refine Or.inr ?_)) rfl ?_
     refine ⟨by rw [hdl1,hn],⟨by rw [hdl1,hdl2];simp [maxLen];omega,by rw [hdl1,hdl2];omega⟩,?_⟩
     refine (⟨rfl,rfl,?_⟩:_∧_∧_)
     repeat' (first | exact trivial | refine ⟨rfl,?_⟩)
    ·rfl
    exact ⟨twkSt PC (.mk q z s ks) ⟨kind,at',lo,hi,most,names,es⟩ (s0 :: p) ((s0 :: p) :: pathVs ND (ks.take (e + 1)) (l.take (e + 1)) fS 0) l SL (n + (dPths P2).length) (e + 1),(weak_bd 2 rfl (by repeat' (first | exact rfl | exact we_rfl rfl | exact we_int (nxt hlt (by omega)) | exact we_sl hsn2 rfl | refine ⟨_,_,rfl,?_,?_⟩)) ⟨_,rfl⟩ rfl rfl (by repeat' (first | exact trivial | exact we_rfl rfl | exact we_int (nxt hlt (by omega)) | exact we_sl hsn2 rfl | refine ⟨⟨_,rfl,?_⟩,?_⟩))),ks.length - (e + 1),by omega,e + 1,_,rfl,by rw [hdl2,List.length_cons,hsl2,hn];omega,by omega,rfl⟩
  ·have hge:e=ks.length:=by
    have:=hL;simp [hsl,hstl] at this;omega
   subst hge
   have h1:pathVs ND (ks.take ks.length) (l.take ks.length) fS 0=pathVs ND ks l fS 0:=by
    rw [List.take_length,← hll,List.take_length]
   rw [h1]
   exact ⟨_,ax,rfl⟩
def resP (o:Option (List (List Stp))):DV:=match o with
 | some l=>.sl 1 (dPths l) none
 | none=>.v (.slice none 0 0)
theorem tpaths_spec {S:Sch} {ND:List Nd} {PC:List DV} (hP:PlanR S ND PC) {v:Val} (hv:v.wt≤1099511627776) (i:Int) :
  EvP Tryz.prog 30 [.pt PC 0,.v (.int .i64 i),.agg (dVal v)] (resP (if fitV ND v i=true then some (pathV ND v i []) else none)):=by
 have hfit:=tfits_spec hP _ v (Nat.le_refl _) hv i
 have hw:=walk_spec hP _ v (Nat.le_refl _) i [] (by simpa using hv)
 generalize fitV ND v i=b at hfit hw ⊢
 obtain ⟨q,z,s,ks⟩:=v
 refine ev_go (P:=Tryz.prog) tt tt_ok 5000 16 [.tmp 6] Tryz.func30 rfl Tryz.ntmps30 rfl (Nat.le_of_ble_eq_true rfl) (fun E9 w9 hn9 hm9=>?_)
 refine call_p en51 (hfit) ax rfl ?_
 cases b with
 | false=>exact (rfl:_=_)
 | true=>
  refine call_p en95 (hw rfl) ax rfl ?_
  exact ⟨_,ax,rfl⟩
end Go.Proofs.YtdeaicofhmkebaaGreat
set_option maxRecDepth 100000
namespace Go.Proofs.YtdeaicofhmkebaaGreat
open Go Go.RowKit Dv Tryz
abbrev tpSt (L:List (List Stp)) (e:Nat):St:=⟨[(10,⟨[],.sl 1 (dPths L) none⟩),(11,⟨[],.sl 1 (dPths L) none⟩),(12,⟨[],.v (.int .i64 e)⟩)],[],[]⟩
theorem paths25_law (S:Sch) (hS:S.wt≤1099511627776) (_:rngS S) (v:Val) (hv:v.wt≤1099511627776):EvP Tryz.prog 4 [.agg (dSch S),.agg (dVal v)] (.v (.bool true)):=by
 have hf:=fine25_spec S hS v hv
 have hb:=(build_spec S hS).mono (Ψ:=fun r _ _=>BuiltΦ S r) fun _ _ _ h=>builtΦ_of hS h
 have hw:=fun h=>build18_spec S hS h
 have hsz:=size25_spec v.wt v (Nat.le_refl _) hv
 have hplen:=fun ND i=>pathV_len (ND:=ND) v i []
 have hpsz:=fun ND i=>pathV_sz (ND:=ND) v i []
 have hcw:=(cntV_wt v).1
 generalize cntV v=ct at hsz hplen hcw
 generalize depV v=dp at hsz
 refine ev_go (P:=Tryz.prog) tt tt_ok 5000 78 [.tmp 4] Tryz.func4 rfl Tryz.ntmps4 rfl (Nat.le_of_ble_eq_true rfl) (fun E9 w9 hn9 hm9=>?_)
 obtain ⟨levels,order,types,⟨rh,rp⟩⟩:=S
 obtain ⟨q,z,s,ks⟩:=v
 refine call_p en26 (hsz) ax rfl ?_
 refine br (fun c=>?_) (fun c=>?_)
 rotate_left
 ·refine call_p en28 (lives25_spec) ax rfl ?_
  exact (rfl:_=_)
 refine call_e en27 rfl hf ax (fun r hr=>?_)
 obtain ⟨b,rfl,h0⟩:=hr
 cases b with
 | false=>
  refine call_p en28 (lives25_spec) ax rfl ?_
  exact (rfl:_=_)
 | true=>
  have h0:=h0 rfl
  have hw:=hw h0
  refine call_e en17 rfl hb ax (fun r hr=>?_)
  rcases hr with ⟨hr,_⟩ | ⟨_,PC,hP,rfl⟩
  ·exact (hr h0).elim
  have hpt:=tpaths_spec hP hv (resRoot ⟨levels,order,types,.mk rh rp⟩)
  have hft:=fun A B=>fits25_spec 2 1 A B (resRoot ⟨levels,order,types,.mk rh rp⟩) hP.ok (Val.mk q z s ks).wt (.mk q z s ks) (Nat.le_refl _) hv (resRoot ⟨levels,order,types,.mk rh rp⟩)
  have hp25:=fun A B=>paths25_spec 2 1 A B (resRoot ⟨levels,order,types,.mk rh rp⟩) hP.ok (Val.mk q z s ks).wt (.mk q z s ks) (Nat.le_refl _) (resRoot ⟨levels,order,types,.mk rh rp⟩) [] (by simpa using hv)
  have heq:=fit_eq hP.ok (.mk q z s ks) (resRoot ⟨levels,order,types,.mk rh rp⟩)
  rw [← heq] at hft
  have hplen:=hplen (resNds ⟨levels,order,types,.mk rh rp⟩) (resRoot ⟨levels,order,types,.mk rh rp⟩)
  have hpsz:=hpsz (resNds ⟨levels,order,types,.mk rh rp⟩) (resRoot ⟨levels,order,types,.mk rh rp⟩)
  generalize pathV (resNds ⟨levels,order,types,.mk rh rp⟩) (.mk q z s ks) (resRoot ⟨levels,order,types,.mk rh rp⟩) []=L at hpt hp25 hplen hpsz
  generalize fitV (resNds ⟨levels,order,types,.mk rh rp⟩) (.mk q z s ks) (resRoot ⟨levels,order,types,.mk rh rp⟩)=F at hpt hft hp25
  generalize resNds ⟨levels,order,types,.mk rh rp⟩=ND at hw hft hp25
  generalize resRoot ⟨levels,order,types,.mk rh rp⟩=rt at hw hft hp25 hpt
  have hdl:=dPths_len L
  refine call_p en29 (hw) ax rfl ?_
  cases F with
  | false=>
   rw [if_neg (by simp)] at hpt
   refine call_p en30 (hpt) ax rfl ?_
   refine call_p en31 (hft _ _) ax rfl ?_
   refine call_p en28 (lives25_spec) ax rfl ?_
   exact (rfl:_=_)
  | true=>
   rw [if_pos rfl] at hpt
   have hp25:=fun A B=>hp25 A B rfl
   refine call_p en30 (hpt) ax rfl ?_
   refine call_p en31 (hft _ _) ax rfl ?_
   refine call_p en32 (hp25 _ _) ax rfl ?_
   refine br (fun g=>absurd g (by simp)) (fun _=>?_)
   refine loop_i (fun j st=>∃ e:Nat,st=tpSt L e∧e≤L.length∧j=L.length - e) L.length (tpSt L 0) (weak_mk ⟨_,rfl⟩ wA rfl rfl rfl wB) ⟨0,rfl,by omega,by omega⟩ ?_
   rintro _ st ⟨e,rfl,he,rfl⟩
   refine br (fun hL=>?_) (fun hL=>?_)
   ·have hlt:e < L.length:=by simpa [hdl] using hL
    obtain ⟨x,hx⟩:∃ x,L[e]? = some x:=⟨_,List.getElem?_eq_getElem hlt⟩
    have hxs:=hpsz x (List.mem_of_getElem? hx)
    rw [List.length_nil] at hxs
    have hsm:=same09_spec x (by omega)
    refine drawG_i (fun _=>false) mo (by decide +kernel) ?_
    refine ⟨_,⟨by omega,dPths_get hx⟩,_,⟨by omega,dPths_get hx⟩,?_⟩
    refine callD_p en33 (hsm) ax rfl ?_
    exact ⟨tpSt L (e + 1),(weak_mk ⟨_,rfl⟩ wA rfl rfl rfl (by repeat' (first | exact trivial | exact we_rfl rfl | exact we_int (nxt hlt (by omega)) | refine ⟨⟨_,rfl,?_⟩,?_⟩))),L.length - (e + 1),by omega,e + 1,rfl,by omega,rfl⟩
   ·refine call_p en28 (lives25_spec) ax rfl ?_
    exact (rfl:_=_)
end Go.Proofs.YtdeaicofhmkebaaGreat
