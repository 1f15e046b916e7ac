/- Part 5 of the proof: The program's nodes, least depths; The document's least depths; fine; the chapter's example; The program's Depths; The law of least depths: fine, the example, the call returns true; The law of checks: the call returns true; The law of what leads to values: the call returns true. No condition. -/
import Derived.Test.YtmphiikdhifhjaaGreatMg3
import Derived.Test.YtmphiikdhifhjaaGreatMg4
set_option linter.all false
set_option maxRecDepth 100000
namespace Go.Proofs.YtmphiikdhifhjaaGreat
open Go Go.RowKit Dv Tryz
def cN (l:List Nat):List DV:=l.map fun (z:Nat)=>DV.v (.int .i64 (z:Int))
theorem cN_len (l:List Nat):(cN l).length=l.length:=by simp [cN]
theorem cN_get {l:List Nat} {i z:Nat} (h:l[i]? = some z):(cN l)[i]? = some (DV.v (.int .i64 (z:Int))):=by simp [cN,h]
theorem cN_set (l:List Nat) (i z:Nat):(cN l).set i (DV.v (.int .i64 (z:Int)))=cN (l.set i z):=by simp [cN,List.map_set]
theorem dInts_flat (l:List Nat):(dInts l).flatten=cN l:=by
 induction l with
 | nil=>rfl
 | cons b r ih=>simp only [dInts,cN,List.map_cons,List.flatten_cons] at ih ⊢;rw [ih];rfl
theorem repN (n:Nat):(List.replicate n (vL [Value.int .i64 0])).flatten=cN (List.replicate n 0):=by
 induction n with
 | zero=>rfl
 | succ n ih=>simp only [List.replicate_succ,List.flatten_cons,ih];rfl
theorem weL_cN {n m:Nat} {tk:List TkE} {l:List DV} {r:List Nat} (h:l=cN r):WeL n m tk l (cN r):=by
 subst h
 refine weL_sc _ fun x hx=>?_
 obtain ⟨z,_,rfl⟩:=List.mem_map.1 hx
 exact ⟨_,rfl⟩
theorem ms_n {bx:List (List DV)} {N n0 m0 n i:Nat} {r:List Nat} (hr:r.length=n) (hN:N≤i) (hb:bx[i]? = some (cN r)):Cc bx N n0 m0 (.sl 1 (dInts r) none) (.ms i 1 0 n n):=by
 simp only [Cc]
 refine Or.inr (Or.inr (Or.inl ⟨i,0,n,_,by rw [dInts_len,hr],hN,hb,?_,?_,?_⟩))
 ·rw [dInts_flat,List.drop_zero,List.take_of_length_le (by rw [cN_len,dInts_len];omega)]
 ·intro x hx
  simp only [dInts,List.mem_map] at hx
  obtain ⟨_,_,rfl⟩:=hx
  rfl
 ·intro x hx
  rw [dInts_flat] at hx
  obtain ⟨_,_,rfl⟩:=List.mem_map.1 hx
  exact ⟨_,rfl⟩
abbrev ndsSt (PC:List DV) (ND:List Nd) (q e:Nat):St:=
 ⟨[(0,⟨[],.pt PC 0⟩),(3,⟨[],.sl 7 (dNds (ND.take e)) (some 0)⟩),(8,⟨[],.v (.int .i64 ND.length)⟩),(9,⟨[],.v (.int .i64 e)⟩)],[],[⟨q,60,7,none⟩]⟩
theorem dNds_snoc {l:List Nd} {e:Nat} {n:Nd} (h:l[e]? = some n):dNds (l.take e) ++ [dNd n]=dNds (l.take (e + 1)):=by
 rw [List.take_add_one,h];simp [dNds]
theorem nodes19_spec {S:Sch} {ND:List Nd} {PC:List DV} (hP:PlanR S ND PC) :
  EvP Tryz.prog 104 [.pt PC 0] (.sl 7 (dNds ND) none):=by
 have h1:=hP.len
 have h2:=hP.node
 have hnl:=hP.nl
 refine ev_go (P:=Tryz.prog) tt tt_ok 5000 24 [.tmp 2] Tryz.func104 rfl Tryz.ntmps104 rfl (Nat.le_of_ble_eq_true rfl) (fun E9 w9 hn9 hm9=>?_)
 refine call_p en28 (h1) ax rfl ?_
 refine loop_i (fun j st=>∃ e:Nat,st=ndsSt PC ND e e∧e≤ND.length∧j=ND.length - e) ND.length (ndsSt PC ND 0 0) (weak_tok ⟨0,60,7,none⟩ rfl ⟨_,rfl⟩ rfl wA rfl rfl (by repeat' (first | exact trivial | exact we_rfl rfl | exact we_rfl rfl | exact we_tok (Nat.le_refl _) rfl | refine ⟨⟨_,rfl,?_⟩,?_⟩))) ⟨0,rfl,by omega,by omega⟩ ?_
 rintro j st ⟨e,rfl,he,rfl⟩
 refine br (fun hL=>?_) (fun hL=>?_)
 ·have hlt:e < ND.length:=by have:=hL;simp at this;exact this
  obtain ⟨n,hn⟩:∃ n,ND[e]? = some n:=⟨_,List.getElem?_eq_getElem hlt⟩
  have hml:(dNds (ND.take e)).length=e:=by rw [dNds_len,List.length_take];omega
  refine call_p en32 (h2 e n hn) ax rfl ?_
  refine ⟨hml,⟨by rw [hml];simp [maxLen];omega,by rw [hml];simp;omega⟩,?_⟩
  exact ⟨ndsSt PC ND (e + 1) (e + 1),(weak_mk ⟨_,rfl⟩ wA rfl rfl rfl (by repeat' (first | exact trivial | exact we_rfl rfl | exact we_int (nxt hlt (by omega)) | exact we_sl (dNds_snoc hn) rfl | refine ⟨⟨_,rfl,?_⟩,?_⟩))),ND.length - (e + 1),by omega,e + 1,rfl,by omega,rfl⟩
 ·have hge:e=ND.length:=by have:=hL;simp at this;omega
  subst hge
  rw [List.take_length]
  exact ⟨_,ax,rfl⟩
abbrev le7St (K:List Nat) (es:List Ed) (m e:Nat):St:=
 ⟨[(1,⟨[],.sl 1 (dInts K) none⟩),(5,⟨[],.v (.int .i64 m)⟩),(16,⟨[],.sl 10 (dEds es) none⟩),(17,⟨[],.v (.int .i64 (dEds es).length)⟩),(18,⟨[],.v (.int .i64 e)⟩)],[],[]⟩
abbrev le8St (K:List Nat) (es:List Ed) (m e:Nat):St:=
 ⟨[(1,⟨[],.sl 1 (dInts K) none⟩),(8,⟨[],.v (.int .i64 m)⟩),(41,⟨[],.sl 10 (dEds es) none⟩),(42,⟨[],.v (.int .i64 (dEds es).length)⟩),(43,⟨[],.v (.int .i64 e)⟩)],[],[]⟩
theorem least19_spec {L:Nat} {n:Nd} (K:List Nat) (hK:K.length≤1099511627776) (hn:NdOK L K.length n) (hz:∀ z∈K,z≤1099511627776) (hel:n.edges.length≤1099511627776) :
  EvP Tryz.prog 105 [.agg (dNd n),.sl 1 (dInts K) none] (.v (.int .i64 (leastF n K:Nat))):=by
 have hedge:=hn.edge
 have hbare:=hn.bare
 obtain ⟨kind,at',lo,hi,most,names,es⟩:=n
 simp only at hedge hbare hel
 refine ev_go (P:=Tryz.prog) tt tt_ok 5000 80 [.tmp 4] Tryz.func105 rfl Tryz.ntmps105 rfl (Nat.le_of_ble_eq_true rfl) (fun E9 w9 hn9 hm9=>?_)
 refine br (fun h7=>?_) (fun h7=>?_)
 ·have h7:kind=7:=by simpa using h7
  have hF:leastF ⟨kind,at',lo,hi,most,names,es⟩ K=leastR K es 0:=by simp [leastF,h7]
  rw [hF]
  refine loop_i (fun j st=>∃ e m:Nat,st=le7St K es m e∧e≤es.length∧m≤1099511627776∧leastR K es 0=leastR K (es.drop e) m∧j=es.length - e) es.length (le7St K es 0 0) (weak_mk ⟨_,rfl⟩ wA rfl rfl rfl wB) ⟨0,0,rfl,by omega,by omega,rfl,by omega⟩ ?_
  rintro j st ⟨e,m,rfl,he,hm,heq,rfl⟩
  refine br (fun hL=>?_) (fun hL=>?_)
  ·have hlt:e < es.length:=by have:=hL;simp [dEds_len] at this;exact this
   obtain ⟨x,hx⟩:∃ x,es[e]? = some x:=⟨_,List.getElem?_eq_getElem hlt⟩
   rw [drop_cons hx,leastR] at heq
   have hxe:=hedge x (List.mem_of_getElem? hx)
   have hxb:x.bare=false:=by
    cases hb:x.bare
    ·rfl
    ·have:=hbare x (List.mem_of_getElem? hx) hb;omega
   obtain ⟨k,hk,hkl⟩:=hxe.to1 hxb
   obtain ⟨z,hz1⟩:∃ z,K[k]? = some z:=⟨_,List.getElem?_eq_getElem hkl⟩
   have hzl:=hz z (List.mem_of_getElem? hz1)
   have hed:edN K x=z:=by simp [edN,hk,List.getD_eq_getElem?_getD,hz1]
   have hg:(dInts K)[x.to.toNat]? = some [DV.v (.int .i64 (z:Int))]:=by rw [hk];exact dInts_get hz1
   rw [hed] at heq
   refine ⟨_,⟨by omega,dEds_get hx⟩,?_⟩
   refine ⟨_,⟨by omega,hg⟩,?_⟩
   refine br (fun g=>?_) (fun g=>?_)
   ·have g:z=0:=by simpa using g
    rw [heq,if_pos g]
    exact (rfl:_=_)
   ·have g:¬ z=0:=by simpa using g
    rw [if_neg g] at heq
    refine ⟨_,⟨by omega,hg⟩,?_⟩
    exact ⟨le7St K es (max m z) (e + 1),(weak_mk ⟨_,rfl⟩ wA rfl rfl rfl (by repeat' (first | exact trivial | exact we_rfl rfl | exact we_int (show max (m:Int) z=((max m z:Nat):Int) by omega) | exact we_int (nxt hlt (by omega)) | refine ⟨⟨_,rfl,?_⟩,?_⟩))),es.length - (e + 1),by omega,e + 1,_,rfl,by omega,by omega,heq,rfl⟩
  ·have hge:e=es.length:=by have:=hL;simp [dEds_len] at this;omega
   subst hge
   rw [List.drop_length,leastR] at heq
   have hw:IntKind.i64.wrap ((m:Int) + 1)=((m + 1:Nat):Int):=by rw [wrap64 (by omega) (by omega)];omega
   rw [heq]
   refine (congrArg (fun z=>DV.v (.int .i64 z)) ?_:_=_)
   exact hw
 have h7:¬ kind=7:=by simpa using h7
 refine br (fun h8=>?_) (fun h8=>?_)
 ·have h8:kind=8:=by simpa using h8
  have hF:leastF ⟨kind,at',lo,hi,most,names,es⟩ K=leastU K es 0:=by simp [leastF,h8]
  rw [hF]
  refine loop_i (fun j st=>∃ e m:Nat,st=le8St K es m e∧e≤es.length∧m≤1099511627776∧leastU K es 0=leastU K (es.drop e) m∧j=es.length - e) es.length (le8St K es 0 0) (weak_mk ⟨_,rfl⟩ wA rfl rfl rfl wB) ⟨0,0,rfl,by omega,by omega,rfl,by omega⟩ ?_
  rintro j st ⟨e,m,rfl,he,hm,heq,rfl⟩
  refine br (fun hL=>?_) (fun hL=>?_)
  ·have hlt:e < es.length:=by have:=hL;simp [dEds_len] at this;exact this
   obtain ⟨x,hx⟩:∃ x,es[e]? = some x:=⟨_,List.getElem?_eq_getElem hlt⟩
   rw [drop_cons hx,leastU] at heq
   have hxe:=hedge x (List.mem_of_getElem? hx)
   refine ⟨_,⟨by omega,dEds_get hx⟩,?_⟩
   refine br (fun hb=>?_) (fun hb=>?_)
   ·have hb:x.bare=true:=hb
    rw [heq,if_pos hb]
    exact (rfl:_=_)
   have hb:x.bare=false:=hb
   rw [if_neg (by rw [hb];decide)] at heq
   obtain ⟨k,hk,hkl⟩:=hxe.to1 hb
   obtain ⟨z,hz1⟩:∃ z,K[k]? = some z:=⟨_,List.getElem?_eq_getElem hkl⟩
   have hzl:=hz z (List.mem_of_getElem? hz1)
   have hed:edN K x=z:=by simp [edN,hk,List.getD_eq_getElem?_getD,hz1]
   have hg:(dInts K)[x.to.toNat]? = some [DV.v (.int .i64 (z:Int))]:=by rw [hk];exact dInts_get hz1
   rw [hed] at heq
   refine ⟨_,⟨by omega,hg⟩,?_⟩
   have keep:¬ (0 < z∧(m=0∨z < m))→leastU K es 0=leastU K (es.drop (e + 1)) m:=fun h=>by rw [heq,if_neg h]
   have take:(0 < z∧(m=0∨z < m))→leastU K es 0=leastU K (es.drop (e + 1)) z:=fun h=>by rw [heq,if_pos h]
   refine br (fun g1=>?_) (fun g1=>?_)
   ·have g1:0 < z:=by simpa [lastG] using g1
    refine br (fun g2=>?_) (fun g2=>?_)
    ·have g2:¬ m=0:=by simpa using g2
     refine ⟨_,⟨by omega,hg⟩,?_⟩
     refine br (fun g3=>?_) (fun g3=>?_)
     ·have g3:z < m:=by simpa [pickB,pickD,lastG] using g3
      refine ⟨_,⟨by omega,hg⟩,?_⟩
      exact ⟨le8St K es z (e + 1),(weak_mk ⟨_,rfl⟩ wA rfl rfl rfl (by repeat' (first | exact trivial | exact we_rfl rfl | exact we_int (nxt hlt (by omega)) | refine ⟨⟨_,rfl,?_⟩,?_⟩))),es.length - (e + 1),by omega,e + 1,_,rfl,by omega,by omega,take ⟨g1,.inr g3⟩,rfl⟩
     ·have g3:¬ z < m:=by simpa [pickB,pickD,lastG] using g3
      exact ⟨le8St K es m (e + 1),(weak_mk ⟨_,rfl⟩ wA rfl rfl rfl (by repeat' (first | exact trivial | exact we_rfl rfl | exact we_int (nxt hlt (by omega)) | refine ⟨⟨_,rfl,?_⟩,?_⟩))),es.length - (e + 1),by omega,e + 1,_,rfl,by omega,by omega,keep (by omega),rfl⟩
    ·have g2:m=0:=by simpa using g2
     refine ⟨_,⟨by omega,hg⟩,?_⟩
     exact ⟨le8St K es z (e + 1),(weak_mk ⟨_,rfl⟩ wA rfl rfl rfl (by repeat' (first | exact trivial | exact we_rfl rfl | exact we_int (nxt hlt (by omega)) | refine ⟨⟨_,rfl,?_⟩,?_⟩))),es.length - (e + 1),by omega,e + 1,_,rfl,by omega,by omega,take ⟨g1,.inl g2⟩,rfl⟩
   ·have g1:¬ 0 < z:=by simpa [lastG] using g1
    exact ⟨le8St K es m (e + 1),(weak_mk ⟨_,rfl⟩ wA rfl rfl rfl (by repeat' (first | exact trivial | exact we_rfl rfl | exact we_int (nxt hlt (by omega)) | refine ⟨⟨_,rfl,?_⟩,?_⟩))),es.length - (e + 1),by omega,e + 1,_,rfl,by omega,by omega,keep (by omega),rfl⟩
  ·have hge:e=es.length:=by have:=hL;simp [dEds_len] at this;omega
   subst hge
   rw [List.drop_length,leastU] at heq
   refine br (fun g=>?_) (fun g=>?_)
   ·have g:m=0:=by simpa using g
    rw [heq,if_pos g]
    exact (rfl:_=_)
   ·have g:¬ m=0:=by simpa using g
    rw [if_neg g] at heq
    have hw:IntKind.i64.wrap ((m:Int) + 1)=((m + 1:Nat):Int):=by rw [wrap64 (by omega) (by omega)];omega
    rw [heq]
    refine (congrArg (fun z=>DV.v (.int .i64 z)) ?_:_=_)
    exact hw
 ·have h8:¬ kind=8:=by simpa using h8
  have hF:leastF ⟨kind,at',lo,hi,most,names,es⟩ K=1:=by simp [leastF,h7,h8]
  rw [hF]
  exact (rfl:_=_)
end Go.Proofs.YtmphiikdhifhjaaGreat
set_option maxRecDepth 100000
namespace Go.Proofs.YtmphiikdhifhjaaGreat
open Go Go.RowKit Dv Tryz
end Go.Proofs.YtmphiikdhifhjaaGreat
set_option maxRecDepth 100000
namespace Go.Proofs.YtmphiikdhifhjaaGreat
open Go Go.RowKit Dv Tryz
def chgB (ND:List Nd) (d e:Nat):Bool:=(List.range e).any fun i=>decide (¬ (depN ND (d + 1)).getD i 0=(depN ND d).getD i 0)
theorem chgB_succ (ND:List Nd) (d e:Nat):chgB ND d (e + 1)=(chgB ND d e || decide (¬ (depN ND (d + 1)).getD e 0=(depN ND d).getD e 0)):=by
 simp [chgB,List.range_succ]
theorem chgB_all {ND:List Nd} {d:Nat}:chgB ND d ND.length=false↔depN ND (d + 1)=depN ND d:=by
 constructor
 ·intro h
  refine getD_ext (by rw [depN_len,depN_len]) fun j=>?_
  unfold chgB at h
  rw [List.any_eq_false] at h
  rcases Nat.lt_or_ge j ND.length with hj | hj
  ·have:=h j (by simpa using hj)
   simpa using this
  ·simp only [List.getD_eq_getElem?_getD]
   rw [List.getElem?_eq_none (by rw [depN_len];exact hj),List.getElem?_eq_none (by rw [depN_len];exact hj)]
 ·intro h
  unfold chgB
  rw [h,List.any_eq_false]
  simp
theorem depN_small {ND:List Nd} {d:Nat} (hd:d≤1099511627776):∀ z∈depN ND d,z≤1099511627776:=fun z hz=>by
 obtain ⟨i,hi⟩:=List.mem_iff_getElem?.1 hz
 have:=depN_le ND d i
 rw [List.getD_eq_getElem?_getD,hi] at this
 simp only [Option.getD_some] at this
 omega
abbrev dp1St (ND:List Nd) (d:Nat) (c:Bool):St:=
 ⟨[(3,⟨[],.sl 7 (dNds ND) none⟩),(4,⟨[],.sl 1 (dInts (depN ND d)) none⟩),(5,⟨[],.v (.bool c)⟩)],[],[]⟩
abbrev dp2St (ND:List Nd) (d:Nat) (c:Bool) (L:List Nat) (e:Nat):St:=
 ⟨[(3,⟨[],.sl 7 (dNds ND) none⟩),(4,⟨[],.sl 1 (dInts (depN ND d)) none⟩),(5,⟨[],.v (.bool c)⟩),(6,⟨[],.ms 0 1 0 (dNds ND).length (dNds ND).length⟩),(18,⟨[],.sl 7 (dNds ND) none⟩),(19,⟨[],.v (.int .i64 (dNds ND).length)⟩),(20,⟨[],.v (.int .i64 e)⟩)],[cN L],[]⟩
theorem depths_gen {L:Nat} {ND:List Nd} {p:DV} (h0:EvP Tryz.prog 104 [p] (.sl 7 (dNds ND) none)) (hok:∀ n∈ND,NdOK L ND.length n) (hnl:ND.length≤1099511627776) (hsz:∀ n∈ND,n.edges.length≤1099511627776) (hcc:∀ bx N n m,Cc bx N n m p p) :
  EvP Tryz.prog 43 [p] (.sl 1 (dInts (depN ND ND.length)) none):=by
 have hdl:=dNds_len ND
 refine ev_go (P:=Tryz.prog) tt tt_ok 5000 46 [.tmp 2] Tryz.func43 rfl Tryz.ntmps43 rfl (Nat.le_of_ble_eq_true rfl) (fun E9 w9 hn9 hm9=>?_)
 refine call_p en104 (h0) (by repeat' (first | exact rfl | exact trivial | exact Or.inr (Or.inl ⟨_,rfl⟩) | exact Or.inr ⟨_,rfl⟩ | exact Or.inl ⟨rfl,rfl⟩ | exact Or.inl rfl | refine Or.inr ⟨_,_,rfl,Nat.zero_le _,rfl,?_⟩ | refine ⟨_,_,rfl,?_,?_⟩ | refine ⟨_,rfl,?_⟩ | exact hcc _ _ _ _| refine Or.inr (Or.inr (Or.inr ⟨_,_,rfl,?_⟩)) | exact Or.inl rfl | refine Or.inr ?_)) rfl ?_
 refine ⟨⟨rfl,by omega,by rw [hdl];omega,by rw [hdl];omega⟩,?_⟩
 refine loop_w (fun j st=>∃ (d:Nat) (c:Bool),st=dp1St ND d c∧(c=true→d≤ND.length)∧(c=false→depN ND d=depN ND ND.length)∧j=ND.length + 2 - d) (ND.length + 2) (dp1St ND 0 true) (.frz 0 rfl rfl rfl rfl ?_) ⟨0,true,rfl,by omega,by simp,by omega⟩ ?_
 ·refine ⟨⟨_,rfl,ax⟩,⟨_,rfl,ms_n (by rw [depN_len,hdl];omega) (by omega) ?_⟩,⟨_,rfl,ax⟩,trivial⟩
  refine congrArg some ?_
  rw [repN,hdl]
  rfl
 rintro j st ⟨d,c,rfl,hc1,hc2,rfl⟩
 refine br (fun hc=>?_) (fun hc=>?_)
 ·have hc:c=true:=hc
  have hd:=hc1 hc
  refine ⟨⟨rfl,by omega,by rw [hdl];omega,by rw [hdl];omega⟩,?_⟩
  refine loop_i (fun j st=>∃ (e:Nat) (L:List Nat),st=dp2St ND d (chgB ND d e) L e∧e≤ND.length∧L.length=ND.length∧(∀ i:Nat,i < e→L.getD i 0=(depN ND (d + 1)).getD i 0)∧j=ND.length - e) ND.length (dp2St ND d false (List.replicate ((dNds ND).length:Int).toNat 0) 0) (weak_b 1 rfl (by repeat' (first | exact rfl | exact we_rfl rfl | exact weL_cN (repN _) | refine ⟨_,_,rfl,?_,?_⟩)) rfl rfl rfl (by repeat' (first | exact trivial | exact we_rfl rfl | exact weL_cN (repN _) | refine ⟨⟨_,rfl,?_⟩,?_⟩))) ⟨0,_,rfl,by omega,by rw [List.length_replicate,hdl];omega,fun i hi=>by omega,by omega⟩ ?_
  rintro j st ⟨e,L,rfl,he,hL,hLv,rfl⟩
  refine br (fun hlt=>?_) (fun hlt=>?_)
  ·have hlt:e < ND.length:=by have:=hlt;simp [hdl] at this;exact this
   obtain ⟨n,hn⟩:∃ n,ND[e]? = some n:=⟨_,List.getElem?_eq_getElem hlt⟩
   have hnm:=List.mem_of_getElem? hn
   have hle:=least19_spec (depN ND d) (by rw [depN_len];exact hnl) (n:=n) (by rw [depN_len];exact hok n hnm) (depN_small (by omega)) (hsz n hnm)
   refine ⟨_,⟨by omega,dNds_get hn⟩,?_⟩
   refine call_p en105 (hle) ax rfl ?_
   refine ⟨⟨by omega,by rw [hdl];omega⟩,?_⟩
   refine ⟨by rw [cN_len];omega,?_⟩
   refine drawG_i (fun _=>false) mo (by decide +kernel) ?_
   have hv:=depN_get ND d e
   rw [hn] at hv
   have hv:(depN ND (d + 1)).getD e 0=leastF n (depN ND d):=hv
   obtain ⟨z,hz⟩:∃ z,(depN ND d)[e]? = some z:=⟨_,List.getElem?_eq_getElem (by rw [depN_len];exact hlt)⟩
   have hzd:(depN ND d).getD e 0=z:=by rw [List.getD_eq_getElem?_getD,hz];rfl
   have hcs:=chgB_succ ND d e
   rw [hv,hzd] at hcs
   have hst:(cN L).set (0 + (e:Int).toNat * 1) (DV.v (.int .i64 ((leastF n (depN ND d):Nat):Int)))=cN (L.set e (leastF n (depN ND d))):=by
    rw [show 0 + (e:Int).toNat * 1=e by omega,cN_set]
   have hLs:∀ i:Nat,i < e + 1→(L.set e (leastF n (depN ND d))).getD i 0=(depN ND (d + 1)).getD i 0:=fun i hi=>by
    by_cases hie:i=e
    ·subst hie
     rw [hv,List.getD_eq_getElem?_getD,List.getElem?_set_self (by omega)];rfl
    ·rw [List.getD_eq_getElem?_getD,List.getElem?_set_ne (Ne.symm hie),← List.getD_eq_getElem?_getD]
     exact hLv i (by omega)
   refine br (fun g=>?_) (fun g=>?_)
   ·have g:chgB ND d e=false:=by simpa using g
    rw [g,Bool.false_or] at hcs
    have hld:(cN (L.set e (leastF n (depN ND d))))[0 + (e:Int).toNat * 1]? = some (DV.v (.int .i64 ((leastF n (depN ND d):Nat):Int))):=by
     rw [show 0 + (e:Int).toNat * 1=e by omega]
     exact cN_get (List.getElem?_set_self (by omega))
    refine ⟨⟨by omega,by rw [hdl];omega⟩,?_⟩
    rw [hst]
    refine ⟨_,hld,?_⟩
    refine ⟨_,⟨by omega,dInts_get hz⟩,?_⟩
    have hbo:(!decide (((leastF n (depN ND d):Nat):Int)=(z:Int)))=chgB ND d (e + 1):=by
     rw [hcs,Bool.eq_iff_iff];simp;omega
    exact ⟨dp2St ND d (chgB ND d (e + 1)) (L.set e (leastF n (depN ND d))) (e + 1),(weak_b 1 rfl (by repeat' (first | exact rfl | exact we_rfl rfl | exact weL_cN rfl | exact we_bool hbo | exact we_int (nxt hlt (by omega)) | refine ⟨_,_,rfl,?_,?_⟩)) rfl rfl rfl (by repeat' (first | exact trivial | exact we_rfl rfl | exact weL_cN rfl | exact we_bool hbo | exact we_int (nxt hlt (by omega)) | refine ⟨⟨_,rfl,?_⟩,?_⟩))),ND.length - (e + 1),by omega,e + 1,_,rfl,by omega,by rw [List.length_set];exact hL,hLs,rfl⟩
   ·have g:chgB ND d e=true:=by simpa using g
    rw [g,Bool.true_or] at hcs
    exact ⟨dp2St ND d (chgB ND d (e + 1)) (L.set e (leastF n (depN ND d))) (e + 1),(weak_b 1 rfl (by repeat' (first | exact rfl | exact we_rfl rfl | exact weL_cN hst | exact we_bool hcs.symm | exact we_int (nxt hlt (by omega)) | refine ⟨_,_,rfl,?_,?_⟩)) rfl rfl rfl (by repeat' (first | exact trivial | exact we_rfl rfl | exact weL_cN hst | exact we_bool hcs.symm | exact we_int (nxt hlt (by omega)) | refine ⟨⟨_,rfl,?_⟩,?_⟩))),ND.length - (e + 1),by omega,e + 1,_,rfl,by omega,by rw [List.length_set];exact hL,hLs,rfl⟩
  ·have hge:e=ND.length:=by have:=hlt;simp [hdl] at this;omega
   subst hge
   have hLL:L=depN ND (d + 1):=getD_ext (by rw [hL,depN_len]) fun j=>by
    rcases Nat.lt_or_ge j ND.length with hj | hj
    ·exact hLv j hj
    ·simp only [List.getD_eq_getElem?_getD]
     rw [List.getElem?_eq_none (by omega),List.getElem?_eq_none (by rw [depN_len];omega)]
   subst hLL
   refine ⟨dp1St ND (d + 1) (chgB ND d ND.length),.frz 0 rfl rfl rfl rfl ⟨⟨_,rfl,ax⟩,⟨_,rfl,ms_n (by rw [depN_len,hdl]) (by omega) rfl⟩,⟨_,rfl,ax⟩,trivial⟩,ND.length + 2 - (d + 1),by omega,d + 1,_,rfl,fun hcc=>?_,fun hcc=>depN_all (chgB_all.1 hcc),rfl⟩
   have:depN ND (d + 1)≠depN ND d:=fun h=>by rw [chgB_all.2 h] at hcc;cases hcc
   have:=depN_lt this
   omega
 ·have hc:c=false:=hc
  rw [hc2 hc]
  exact ⟨_,ax,rfl⟩
theorem PlanR.esz {S:Sch} {ND:List Nd} {PC:List DV} (hP:PlanR S ND PC):∀ n∈ND,n.edges.length≤1099511627776:=fun n hn=>by
 have h1:=hP.wt
 rw [hP.nds] at hn
 exact (resNds_sz hn h1).2
theorem depths_spec {S:Sch} {ND:List Nd} {PC:List DV} (hP:PlanR S ND PC):EvP Tryz.prog 43 [.pt PC 0] (.sl 1 (dInts (depN ND ND.length)) none):=
 depths_gen (nodes19_spec hP) hP.ok hP.nl hP.esz fun _ _ _ _=>ax
end Go.Proofs.YtmphiikdhifhjaaGreat
set_option maxRecDepth 100000
namespace Go.Proofs.YtmphiikdhifhjaaGreat
open Go Go.RowKit Dv Tryz
def exH (k:Int):Hd:=⟨k,0,0,0,0,[],⟨emptyB,0⟩⟩
def exR (c:UInt8):Ty:=.mk ⟨9,0,0,0,0,[],⟨⟨#[c]⟩,0⟩⟩ .nil
def exP (c:UInt8):Ph:=⟨⟨⟨#[c]⟩,0⟩,false,[],0,0,0,0,[]⟩
def exS19:Sch:=⟨[⟨⟨#[97]⟩,0⟩],[],[(⟨⟨#[116]⟩,0⟩,.mk (exH 7) (.cons (exP 120) (exR 116) .nil)),(⟨⟨#[117]⟩,0⟩,.mk (exH 7) (.cons (exP 120) (.mk (exH 6) (.cons zeroPh (exR 117) .nil)) .nil))],.mk (exH 1) .nil⟩
theorem ex19_fine:(resF exS19).1=0:=by decide +kernel
theorem ex19_dep:depN (resNds exS19) (resNds exS19).length=[0,2,1,1]:=by decide +kernel
abbrev sm12St (l:List Nat) (e:Nat):St:=⟨[(0,⟨[],.sl 1 (dInts l) none⟩),(1,⟨[],.sl 1 (dInts l) none⟩),(5,⟨[],.v (.int .i64 e)⟩)],[],[]⟩
theorem same12_spec (l:List Nat) (hl:l.length≤1099511627776):EvP Tryz.prog 42 [.sl 1 (dInts l) none,.sl 1 (dInts l) none] (.v (.bool true)):=by
 have hdl:=dInts_len l
 refine ev_go (P:=Tryz.prog) tt tt_ok 5000 26 [.tmp 4] Tryz.func42 rfl Tryz.ntmps42 rfl (Nat.le_of_ble_eq_true rfl) (fun E9 w9 hn9 hm9=>?_)
 refine br (fun g=>absurd g (by simp)) (fun _=>?_)
 refine loop_i (fun j st=>∃ e:Nat,st=sm12St l e∧e≤l.length∧j=l.length - e) l.length (sm12St l 0) (weak_mk ⟨_,rfl⟩ wA rfl rfl rfl wB) ⟨0,rfl,by omega,by omega⟩ ?_
 rintro j st ⟨e,rfl,he,rfl⟩
 refine br (fun hL=>?_) (fun hL=>?_)
 ·have hlt:e < l.length:=by have:=hL;simp [hdl] at this;exact this
  obtain ⟨x,hx⟩:∃ x,l[e]? = some x:=⟨_,List.getElem?_eq_getElem hlt⟩
  refine drawG_i (fun _=>false) mo (by decide +kernel) ?_
  refine ⟨_,⟨by omega,dInts_get hx⟩,_,⟨by omega,dInts_get hx⟩,?_⟩
  refine br (fun g=>absurd g (by simp)) (fun _=>?_)
  exact ⟨sm12St l (e + 1),(weak_mk ⟨_,rfl⟩ wA rfl rfl rfl (by repeat' (first | exact trivial | exact we_rfl rfl | exact we_int (nxt hlt (by omega)) | refine ⟨⟨_,rfl,?_⟩,?_⟩))),l.length - (e + 1),by omega,e + 1,rfl,by omega,rfl⟩
 exact (rfl:_=_)
theorem lives19_spec:EvP Tryz.prog 41 [] (.v (.bool true)):=by
 have hwt:exS19.wt≤1099511627776:=by decide +kernel
 have hb:=(build_spec exS19 hwt).mono (Ψ:=fun r _ _=>BuiltΦ exS19 r) fun _ _ _ h=>builtΦ_of hwt h
 refine ev_go (P:=Tryz.prog) tt tt_ok 5000 41 [.tmp 0] Tryz.func41 rfl Tryz.ntmps41 rfl (Nat.le_of_ble_eq_true rfl) (fun E9 w9 hn9 hm9=>?_)
 refine call_e en26 rfl hb ax (fun r hr=>?_)
 rcases hr with ⟨hr,_⟩ | ⟨_,PC,hP,rfl⟩
 ·exact (hr ex19_fine).elim
 have hd:=depths_spec hP
 rw [ex19_dep] at hd
 have hs:=same12_spec [0,2,1,1] (by decide)
 refine call_p en43 (hd) ax rfl ?_
 refine call_p en42 (hs) ax rfl ?_
 exact (rfl:_=_)
end Go.Proofs.YtmphiikdhifhjaaGreat
set_option maxRecDepth 100000
namespace Go.Proofs.YtmphiikdhifhjaaGreat
open Go Go.RowKit Dv Tryz
def chkA:List Nat→List Nd→Ft
 | k :: r,n :: s=>if k=0 then (11,n.at') else chkA r s
 | _,_=>(0,0)
theorem chkA_drop {D:List Nat} {ND:List Nd} {e k:Nat} {n:Nd} (h1:D[e]? = some k) (h2:ND[e]? = some n):chkA (D.drop e) (ND.drop e)=if k=0 then (11,n.at') else chkA (D.drop (e + 1)) (ND.drop (e + 1)):=by
 rw [drop_cons h1,drop_cons h2,chkA]
theorem chkA_end (D:List Nat) (ND:List Nd) {e:Nat} (h:D.length≤e):chkA (D.drop e) (ND.drop e)=(0,0):=by
 rw [List.drop_of_length_le h]
 simp [chkA]
abbrev ck19St (D:List Nat) (ND:List Nd) (e:Nat):St:=
 ⟨[(3,⟨[],.sl 7 (dNds ND) none⟩),(2,⟨[],.loc 0 0⟩),(12,⟨[],.sl 1 (dInts D) none⟩),(13,⟨[],.v (.int .i64 D.length)⟩),(14,⟨[],.v (.int .i64 e)⟩)],[[.v (.int .i64 0),.v (.int .i64 0)]],[]⟩
theorem check19_spec {S:Sch} {ND:List Nd} {PC:List DV} (hP:PlanR S ND PC):EvP Tryz.prog 45 [.pt PC 0] (chkA (depN ND ND.length) ND).d:=by
 have h0:=nodes19_spec hP
 have h1:=depths_spec hP
 have hl:=depN_len ND ND.length
 have hnl:=hP.nl
 generalize depN ND ND.length=D at h1 hl ⊢
 have hdl:=dNds_len ND
 have hdi:=dInts_len D
 refine ev_go (P:=Tryz.prog) tt tt_ok 5000 29 [.cell 2 33] Tryz.func45 rfl Tryz.ntmps45 rfl (Nat.le_of_ble_eq_true rfl) (fun E9 w9 hn9 hm9=>?_)
 refine call_p en104 (h0) ax rfl ?_
 refine call_p en43 (h1) ax rfl ?_
 refine loop_i (fun j st=>∃ e:Nat,st=ck19St D ND e∧e≤ND.length∧chkA D ND=chkA (D.drop e) (ND.drop e)∧j=ND.length - e) ND.length (ck19St D ND 0) (weak_mk ⟨_,rfl⟩ wA rfl rfl rfl (by repeat' (first | exact trivial | exact we_rfl rfl | exact we_int (congrArg Nat.cast hdi) | refine ⟨⟨_,rfl,?_⟩,?_⟩))) ⟨0,rfl,by omega,rfl,by omega⟩ ?_
 rintro j st ⟨e,rfl,he,heq,rfl⟩
 refine br (fun hL=>?_) (fun hL=>?_)
 ·have hlt:e < ND.length:=by have:=hL;simp [hl] at this;exact this
  obtain ⟨n,hn⟩:∃ n,ND[e]? = some n:=⟨_,List.getElem?_eq_getElem hlt⟩
  obtain ⟨k,hk⟩:∃ k,D[e]? = some k:=⟨_,List.getElem?_eq_getElem (by omega)⟩
  rw [chkA_drop hk hn] at heq
  refine ⟨_,⟨by omega,dInts_get hk⟩,?_⟩
  refine br (fun g=>?_) (fun g=>?_)
  ·have g:k=0:=by simpa using g
   rw [if_pos g] at heq
   refine ⟨_,⟨by omega,dNds_get hn⟩,?_⟩
   rw [heq]
   exact ⟨_,ax,rfl⟩
  ·have g:¬ k=0:=by simpa using g
   rw [if_neg g] at heq
   exact ⟨ck19St D ND (e + 1),(weak_mk ⟨_,rfl⟩ wA rfl rfl rfl (by repeat' (first | exact trivial | exact we_rfl rfl | exact we_int (nxt hlt (by omega)) | refine ⟨⟨_,rfl,?_⟩,?_⟩))),ND.length - (e + 1),by omega,e + 1,rfl,by omega,heq,rfl⟩
 ·have hge:e=ND.length:=by have:=hL;simp [hl] at this;omega
  rw [heq,chkA_end D ND (by omega)]
  exact ⟨_,ax,rfl⟩
end Go.Proofs.YtmphiikdhifhjaaGreat
set_option maxRecDepth 100000
namespace Go.Proofs.YtmphiikdhifhjaaGreat
open Go Go.RowKit Dv Tryz
def edX (D:List Nat) (e:Ed):Nat:=if e.bare=true then 0 else edN D e
def mostL (D:List Nat):List Ed→Nat→Nat
 | [],m=>m
 | e :: r,m=>mostL D r (max m (edX D e))
def bestL (D:List Nat):List Ed→Nat→Nat
 | [],b=>b
 | e :: r,b=>if (e.bare=true∨0 < edX D e)∧(b=0∨edX D e + 1 < b) then bestL D r (edX D e + 1) else bestL D r b
def noneL (D:List Nat) (es:List Ed):Bool:=es.any fun e=>!e.bare && decide (edX D e=0)
theorem bestL_one (D:List Nat):∀ es:List Ed,bestL D es 1=1
 | []=>rfl
 | e :: r=>by rw [bestL,if_neg (by omega)];exact bestL_one D r
theorem bestL_eq (D:List Nat):∀ (es:List Ed) (b:Nat),leastU D es b=bestL D es (if b=0 then 0 else b + 1)
 | [],b=>by rw [leastU,bestL]
 | e :: r,b=>by
  rw [leastU,bestL]
  by_cases hb:e.bare=true
  ·have hx:edX D e=0:=by simp [edX,hb]
   rw [if_pos hb,hx,if_pos ⟨.inl hb,by split<;>omega⟩,bestL_one]
  ·have hx:edX D e=edN D e:=by simp [edX,hb]
   rw [if_neg hb,hx]
   by_cases hc:0 < edN D e∧(b=0∨edN D e < b)
   ·rw [if_pos hc,if_pos ⟨.inr hc.1,by split<;>omega⟩,bestL_eq D r,if_neg (by omega)]
   ·rw [if_neg hc,bestL_eq D r,if_neg (c:=(e.bare=true∨0 < edN D e)∧_)]
    ·rintro ⟨h1,h2⟩
     have h1:=h1.resolve_left hb
     refine hc ⟨h1,?_⟩
     split at h2<;>omega
theorem leastR_eq {D:List Nat}:∀ {es:List Ed} {m:Nat},(∀ e∈es,e.bare=false)→leastR D es m=if noneL D es=true then 0 else mostL D es m + 1
 | [],m,_=>by rw [leastR,mostL];rfl
 | e :: r,m,h=>by
  have hb:=h e (by simp)
  have hx:edX D e=edN D e:=by simp [edX,hb]
  have ih:=leastR_eq (D:=D) (es:=r) (m:=max m (edN D e)) fun x hx=>h x (by simp [hx])
  rw [leastR,mostL,hx]
  by_cases h0:edN D e=0
  ·rw [if_pos h0,if_pos]
   simp [noneL,hb,hx,h0]
  ·rw [if_neg h0,ih]
   have:noneL D (e :: r)=noneL D r:=by simp [noneL,hb,hx,h0]
   rw [this]
theorem mostL_snoc (D:List Nat):∀ (es:List Ed) (m:Nat) (e:Ed),mostL D (es ++ [e]) m=max (mostL D es m) (edX D e)
 | [],m,e=>rfl
 | x :: r,m,e=>by rw [List.cons_append,mostL,mostL,mostL_snoc D r]
theorem bestL_snoc (D:List Nat):∀ (es:List Ed) (b:Nat) (e:Ed),bestL D (es ++ [e]) b=if (e.bare=true∨0 < edX D e)∧(bestL D es b=0∨edX D e + 1 < bestL D es b) then edX D e + 1 else bestL D es b
 | [],b,e=>by rw [List.nil_append,bestL,bestL,bestL,bestL]
 | x :: r,b,e=>by
  rw [List.cons_append,bestL,bestL]
  split
  ·exact bestL_snoc D r _ e
  ·exact bestL_snoc D r _ e
theorem noneL_snoc (D:List Nat) (es:List Ed) (e:Ed):noneL D (es ++ [e])=(noneL D es || (!e.bare && decide (edX D e=0))):=by simp [noneL]
theorem edX_le {D:List Nat} (hz:∀ z∈D,z≤1099511627776) (e:Ed):edX D e≤1099511627776:=by
 unfold edX edN
 split
 ·omega
 ·rw [List.getD_eq_getElem?_getD]
  cases h:D[e.to.toNat]? with
  | none=>simp
  | some z=>exact hz z (List.mem_of_getElem? h)
theorem mostL_le {D:List Nat} (hz:∀ z∈D,z≤1099511627776):∀ {es:List Ed} {m:Nat},m≤1099511627776→mostL D es m≤1099511627776
 | [],m,h=>h
 | e :: r,m,h=>by
  have:=edX_le hz e
  rw [mostL]
  exact mostL_le hz (by omega)
theorem bestL_le {D:List Nat} (hz:∀ z∈D,z≤1099511627776):∀ {es:List Ed} {m:Nat},m≤1099511627777→bestL D es m≤1099511627777
 | [],m,h=>h
 | e :: r,m,h=>by
  have:=edX_le hz e
  rw [bestL]
  split
  ·exact bestL_le hz (by omega)
  ·exact bestL_le hz h
abbrev ld9St (PC:List DV) (D:List Nat) (i:Nat):St:=
 ⟨[(3,⟨[],.pt PC 0⟩),(5,⟨[],.sl 1 (dInts D) none⟩),(6,⟨[],.v (.int .i64 i)⟩)],[],[]⟩
abbrev le9St (PC:List DV) (D:List Nat) (i:Nat) (n:Nd) (most best:Nat) (no:Bool) (e:Nat):St:=
 ⟨[(3,⟨[],.pt PC 0⟩),(5,⟨[],.sl 1 (dInts D) none⟩),(6,⟨[],.v (.int .i64 i)⟩),(7,⟨[],.loc 0 0⟩),(9,⟨[],.v (.int .i64 most)⟩),(10,⟨[],.v (.int .i64 best)⟩),(11,⟨[],.v (.bool no)⟩),(12,⟨[],.v (.int .i64 e)⟩)],[dNd n],[]⟩
theorem leads19_law (S:Sch) (hS:S.wt≤1099511627776) (_:rngS S):EvP Tryz.prog 10 [.agg (dSch S)] (.v (.bool true)):=by
 have ga:=great17_spec S hS
 have hb:=(build_spec S hS).mono (Ψ:=fun r _ _=>BuiltΦ S r) fun _ _ _ h=>builtΦ_of hS h
 obtain ⟨levels,order,types,⟨rh,rp⟩⟩:=S
 refine ev_go (P:=Tryz.prog) tt tt_ok 5000 171 [.tmp 2] Tryz.func10 rfl Tryz.ntmps10 rfl (Nat.le_of_ble_eq_true rfl) (fun E9 w9 hn9 hm9=>?_)
 refine call_e en19 rfl ga ax (fun r hr=>?_)
 obtain ⟨b,rfl⟩:=hr
 cases b with
 | true=>
  refine call_p en41 (lives19_spec) ax rfl ?_
  exact (rfl:_=_)
 | false=>
  refine call_e en26 rfl hb ax (fun r hr=>?_)
  rcases hr with ⟨hr,rfl⟩ | ⟨_,PC,hP,rfl⟩
  ·generalize resF _=R at hr
   refine br (fun _=>?_) (fun g=>?_)
   ·refine call_p en41 (lives19_spec) ax rfl ?_
    exact (rfl:_=_)
   ·exact (hr (by simpa using g)).elim
  have h1:=depths_spec hP
  have h2:=hP.len
  have h3:=check19_spec hP
  have hl:=depN_len (resNds ⟨levels,order,types,.mk rh rp⟩) (resNds ⟨levels,order,types,.mk rh rp⟩).length
  have hfix:=depN_end (resNds ⟨levels,order,types,.mk rh rp⟩)
  have hget:=depN_get (resNds ⟨levels,order,types,.mk rh rp⟩) (resNds ⟨levels,order,types,.mk rh rp⟩).length
  rw [hfix] at hget
  have hz:=depN_small (ND:=resNds ⟨levels,order,types,.mk rh rp⟩) hP.nl
  have hnl:=hP.nl
  have hok:=hP.ok
  have hesz:=hP.esz
  have hnode:=hP.node
  obtain ⟨kr,_,hkr⟩:=resRoot_ok hP.fine
  generalize depN (resNds ⟨levels,order,types,.mk rh rp⟩) (resNds ⟨levels,order,types,.mk rh rp⟩).length=D at h1 hl hget hz h3
  generalize resNds ⟨levels,order,types,.mk rh rp⟩=ND at h2 h3 hl hget hnl hok hesz hnode hkr
  have hdi:=dInts_len D
  refine call_p en43 (h1) ax rfl ?_
  refine call_p en28 (h2) ax rfl ?_
  refine br (fun g=>absurd g (by simp [hdi,hl])) (fun _=>?_)
  refine loop_i (fun j st=>∃ i:Nat,st=ld9St PC D i∧i≤ND.length∧j=ND.length - i) ND.length (ld9St PC D 0) (weak_mk ⟨_,rfl⟩ wA rfl rfl rfl wB) ⟨0,rfl,by omega,by omega⟩ ?_
  rintro j st ⟨i,rfl,hi,rfl⟩
  refine br (fun hL=>?_) (fun hL=>?_)
  ·have hlt:i < ND.length:=by have:=hL;simp [hdi,hl] at this;exact this
   obtain ⟨n,hn⟩:∃ n,ND[i]? = some n:=⟨_,List.getElem?_eq_getElem hlt⟩
   obtain ⟨k,hk⟩:∃ k,D[i]? = some k:=⟨_,List.getElem?_eq_getElem (by omega)⟩
   have hkn:=hget i
   rw [hn,List.getD_eq_getElem?_getD,hk] at hkn
   have hkn:k=leastF n D:=hkn
   have hno:=hok n (List.mem_of_getElem? hn)
   have hes:=hesz n (List.mem_of_getElem? hn)
   refine call_p en32 (hnode i n hn) ax rfl ?_
   have hkind:(dNd n)[0]? = some (.v (.int .i64 n.kind)):=rfl
   obtain ⟨kind,at',lo,hi',most',names,es⟩:=n
   have hedge:=hno.edge
   have hbare:=hno.bare
   simp only at hes hedge hbare
   refine br (fun g=>?_) (fun g=>?_)
   ·have g:¬ (kind=7∨kind=8):=by simpa [pickB_and] using g
    have hk1:k=1:=by rw [hkn];simp [leastF,show ¬ kind=7 by omega,show ¬ kind=8 by omega]
    refine ⟨_,⟨by omega,dInts_get hk⟩,?_⟩
    refine br (fun h=>absurd h (by simp [hk1])) (fun _=>?_)
    exact ⟨ld9St PC D (i + 1),(weak_mk ⟨_,rfl⟩ wA rfl rfl rfl (by repeat' (first | exact trivial | exact we_rfl rfl | exact we_int (nxt hlt (by omega)) | refine ⟨⟨_,rfl,?_⟩,?_⟩))),ND.length - (i + 1),by omega,i + 1,rfl,by omega,rfl⟩
   ·have g:kind=7∨kind=8:=by
     have:=g
     simp [pickB_and] at this
     omega
    have hle:∀ m,mostL D (es.take m) 0≤1099511627776∧bestL D (es.take m) 0≤1099511627777:=fun m=>⟨mostL_le hz (by omega),bestL_le hz (by omega)⟩
    refine loop_i (fun j st=>∃ e:Nat,st=le9St PC D i ⟨kind,at',lo,hi',most',names,es⟩ (mostL D (es.take e) 0) (bestL D (es.take e) 0) (noneL D (es.take e)) e∧e≤es.length∧j=es.length - e) es.length (le9St PC D i ⟨kind,at',lo,hi',most',names,es⟩ 0 0 false 0) (weak_mk ⟨_,rfl⟩ wA rfl rfl rfl wB) ⟨0,rfl,by omega,by omega⟩ ?_
    rintro j st ⟨e,rfl,he,rfl⟩
    refine br (fun hL2=>?_) (fun hL2=>?_)
    ·have hlt2:e < es.length:=by have:=hL2;simp [dEds_len] at this;exact this
     obtain ⟨x,hx⟩:∃ x,es[e]? = some x:=⟨_,List.getElem?_eq_getElem hlt2⟩
     have hm:=mostL_snoc D (es.take e) 0 x
     have hbs:=bestL_snoc D (es.take e) 0 x
     have hns:=noneL_snoc D (es.take e) x
     have htk:es.take e ++ [x]=es.take (e + 1):=by rw [List.take_add_one,hx];rfl
     rw [htk] at hm hbs hns
     have hxl:=edX_le hz x
     obtain ⟨hl1,hl2⟩:=hle e
     refine ⟨_,⟨by omega,dEds_get hx⟩,?_⟩
     refine br (fun hb=>?_) (fun hb=>?_)
     ·have hb:x.bare=false:=by simpa using hb
      obtain ⟨q,hq,hql⟩:=(hedge x (List.mem_of_getElem? hx)).to1 hb
      obtain ⟨y,hy⟩:∃ y,D[q]? = some y:=⟨_,List.getElem?_eq_getElem (by omega)⟩
      have hxe:edX D x=y:=by simp [edX,hb,edN,hq,List.getD_eq_getElem?_getD,hy]
      rw [hxe] at hm hbs hns hxl
      rw [hb] at hbs hns
      refine br (fun h=>?_) (fun _=>?_)
      ·exfalso
       have:=h
       simp [pickB_or,hdi,hq,hl] at this
       omega
      refine ⟨_,⟨by omega,by rw [hq];exact dInts_get hy⟩,?_⟩
      have hwy:IntKind.i64.wrap ((y:Int) + 1)=((y + 1:Nat):Int):=by rw [wrap64 (by omega) (by omega)];omega
      have hn1:pickB (noneL D (es.take e)) true (decide ((y:Int)=0))=noneL D (es.take (e + 1)):=by rw [hns,pickB_or];simp
      refine br (fun g1=>?_) (fun g1=>?_)
      ·have g1:mostL D (es.take e) 0 < y:=by simpa using g1
       have hm1:(y:Int)=((mostL D (es.take (e + 1)) 0:Nat):Int):=by omega
       refine br (fun g2=>?_) (fun g2=>?_)
       ·have g2:=g2
        rw [hb,hwy] at g2
        simp [pickB_or,pickB_and] at g2
        rw [if_pos (by refine ⟨by simp;omega,by omega⟩)] at hbs
        have hb1:IntKind.i64.wrap ((y:Int) + 1)=((bestL D (es.take (e + 1)) 0:Nat):Int):=by rw [hwy,hbs]
        exact ⟨le9St PC D i ⟨kind,at',lo,hi',most',names,es⟩ (mostL D (es.take (e + 1)) 0) (bestL D (es.take (e + 1)) 0) (noneL D (es.take (e + 1))) (e + 1),(weak_mk ⟨_,rfl⟩ wA rfl rfl rfl (by repeat' (first | exact trivial | exact we_rfl rfl | exact we_int hm1 | exact we_int hb1 | exact we_bool hn1 | exact we_int (nxt hlt2 (by omega)) | refine ⟨⟨_,rfl,?_⟩,?_⟩))),es.length - (e + 1),by omega,e + 1,rfl,by omega,rfl⟩
       ·have g2:=g2
        rw [hb,hwy] at g2
        simp [pickB_or,pickB_and] at g2
        rw [if_neg (by simp;omega)] at hbs
        have hb1:((bestL D (es.take e) 0:Nat):Int)=((bestL D (es.take (e + 1)) 0:Nat):Int):=by rw [hbs]
        exact ⟨le9St PC D i ⟨kind,at',lo,hi',most',names,es⟩ (mostL D (es.take (e + 1)) 0) (bestL D (es.take (e + 1)) 0) (noneL D (es.take (e + 1))) (e + 1),(weak_mk ⟨_,rfl⟩ wA rfl rfl rfl (by repeat' (first | exact trivial | exact we_rfl rfl | exact we_int hm1 | exact we_int hb1 | exact we_bool hn1 | exact we_int (nxt hlt2 (by omega)) | refine ⟨⟨_,rfl,?_⟩,?_⟩))),es.length - (e + 1),by omega,e + 1,rfl,by omega,rfl⟩
      ·have g1:¬ mostL D (es.take e) 0 < y:=by simpa using g1
       have hm1:((mostL D (es.take e) 0:Nat):Int)=((mostL D (es.take (e + 1)) 0:Nat):Int):=by omega
       refine br (fun g2=>?_) (fun g2=>?_)
       ·have g2:=g2
        rw [hb,hwy] at g2
        simp [pickB_or,pickB_and] at g2
        rw [if_pos (by refine ⟨by simp;omega,by omega⟩)] at hbs
        have hb1:IntKind.i64.wrap ((y:Int) + 1)=((bestL D (es.take (e + 1)) 0:Nat):Int):=by rw [hwy,hbs]
        exact ⟨le9St PC D i ⟨kind,at',lo,hi',most',names,es⟩ (mostL D (es.take (e + 1)) 0) (bestL D (es.take (e + 1)) 0) (noneL D (es.take (e + 1))) (e + 1),(weak_mk ⟨_,rfl⟩ wA rfl rfl rfl (by repeat' (first | exact trivial | exact we_rfl rfl | exact we_int hm1 | exact we_int hb1 | exact we_bool hn1 | exact we_int (nxt hlt2 (by omega)) | refine ⟨⟨_,rfl,?_⟩,?_⟩))),es.length - (e + 1),by omega,e + 1,rfl,by omega,rfl⟩
       ·have g2:=g2
        rw [hb,hwy] at g2
        simp [pickB_or,pickB_and] at g2
        rw [if_neg (by simp;omega)] at hbs
        have hb1:((bestL D (es.take e) 0:Nat):Int)=((bestL D (es.take (e + 1)) 0:Nat):Int):=by rw [hbs]
        exact ⟨le9St PC D i ⟨kind,at',lo,hi',most',names,es⟩ (mostL D (es.take (e + 1)) 0) (bestL D (es.take (e + 1)) 0) (noneL D (es.take (e + 1))) (e + 1),(weak_mk ⟨_,rfl⟩ wA rfl rfl rfl (by repeat' (first | exact trivial | exact we_rfl rfl | exact we_int hm1 | exact we_int hb1 | exact we_bool hn1 | exact we_int (nxt hlt2 (by omega)) | refine ⟨⟨_,rfl,?_⟩,?_⟩))),es.length - (e + 1),by omega,e + 1,rfl,by omega,rfl⟩
     ·have hb:x.bare=true:=by simpa using hb
      have hxe:edX D x=0:=by simp [edX,hb]
      rw [hxe] at hm hbs hns
      rw [hb] at hbs hns
      have hm1:((mostL D (es.take e) 0:Nat):Int)=((mostL D (es.take (e + 1)) 0:Nat):Int):=by omega
      have hn1:noneL D (es.take e)=noneL D (es.take (e + 1)):=by rw [hns];simp
      have hwy:IntKind.i64.wrap ((0:Int) + 1)=((1:Nat):Int):=by rw [wrap64 (by omega) (by omega)];rfl
      refine br (fun g2=>?_) (fun g2=>?_)
      ·have g2:=g2
       rw [hb,hwy] at g2
       simp [pickB_or,pickB_and] at g2
       rw [if_pos (by refine ⟨by simp,by omega⟩)] at hbs
       have hb1:IntKind.i64.wrap ((0:Int) + 1)=((bestL D (es.take (e + 1)) 0:Nat):Int):=by rw [hwy,hbs]
       exact ⟨le9St PC D i ⟨kind,at',lo,hi',most',names,es⟩ (mostL D (es.take (e + 1)) 0) (bestL D (es.take (e + 1)) 0) (noneL D (es.take (e + 1))) (e + 1),(weak_mk ⟨_,rfl⟩ wA rfl rfl rfl (by repeat' (first | exact trivial | exact we_rfl rfl | exact we_int hm1 | exact we_int hb1 | exact we_bool hn1 | exact we_int (nxt hlt2 (by omega)) | refine ⟨⟨_,rfl,?_⟩,?_⟩))),es.length - (e + 1),by omega,e + 1,rfl,by omega,rfl⟩
      ·have g2:=g2
       rw [hb,hwy] at g2
       simp [pickB_or,pickB_and] at g2
       rw [if_neg (by simp;omega)] at hbs
       have hb1:((bestL D (es.take e) 0:Nat):Int)=((bestL D (es.take (e + 1)) 0:Nat):Int):=by rw [hbs]
       exact ⟨le9St PC D i ⟨kind,at',lo,hi',most',names,es⟩ (mostL D (es.take (e + 1)) 0) (bestL D (es.take (e + 1)) 0) (noneL D (es.take (e + 1))) (e + 1),(weak_mk ⟨_,rfl⟩ wA rfl rfl rfl (by repeat' (first | exact trivial | exact we_rfl rfl | exact we_int hm1 | exact we_int hb1 | exact we_bool hn1 | exact we_int (nxt hlt2 (by omega)) | refine ⟨⟨_,rfl,?_⟩,?_⟩))),es.length - (e + 1),by omega,e + 1,rfl,by omega,rfl⟩
    ·have hge:e=es.length:=by have:=hL2;simp [dEds_len] at this;omega
     subst hge
     rw [List.take_length]
     obtain ⟨hl1,hl2⟩:=hle es.length
     rw [List.take_length] at hl1 hl2
     refine br (fun k8=>?_) (fun k8=>?_)
     ·have k8:kind=8:=by simpa using k8
      have hkb:k=bestL D es 0:=by rw [hkn];simp [leastF,k8,bestL_eq]
      refine ⟨_,⟨by omega,dInts_get hk⟩,?_⟩
      have hke:(k:Int)=((bestL D es 0:Nat):Int):=by rw [hkb]
      refine br (fun _=>?_) (fun h=>absurd h (by simp [hke,pickB,lastG]))
      refine br (fun h=>absurd h (by simp [k8])) (fun _=>?_)
      refine br (fun h=>absurd h (by simp [k8,pickB])) (fun _=>?_)
      exact ⟨ld9St PC D (i + 1),(weak_mk ⟨_,rfl⟩ wA rfl rfl rfl (by repeat' (first | exact trivial | exact we_rfl rfl | exact we_int (nxt hlt (by omega)) | refine ⟨⟨_,rfl,?_⟩,?_⟩))),ND.length - (i + 1),by omega,i + 1,rfl,by omega,rfl⟩
     ·have k7:kind=7:=by
       have:=k8
       simp at this
       omega
      have hkb:k=if noneL D es=true then 0 else mostL D es 0 + 1:=by
       rw [hkn]
       simp only [leastF,k7,if_true]
       exact leastR_eq fun x hx=>by
        cases hb:x.bare
        ·rfl
        ·have:=hbare x hx hb;omega
      refine br (fun _=>?_) (fun h=>absurd h (by simp [k7]))
      refine ⟨_,⟨by omega,dInts_get hk⟩,?_⟩
      have hkz:decide ((k:Int)=0)=noneL D es:=by
       rw [hkb]
       cases noneL D es
       ·simp;omega
       ·simp
      refine br (fun _=>?_) (fun h=>absurd h (by simp only [hkz,lastG];cases noneL D es<;>simp [pickB]))
      refine br (fun g1=>?_) (fun g1=>?_)
      ·have g1:noneL D es=false:=by
        have:=g1
        simpa [k7,pickB] using this
       rw [g1] at hkb
       have hw2:IntKind.i64.wrap (((mostL D es 0:Nat):Int) + 1)=(k:Int):=by rw [hkb,wrap64 (by omega) (by omega)];simp
       refine ⟨_,⟨by omega,dInts_get hk⟩,?_⟩
       refine br (fun h=>absurd h (by simp [hw2,lastG,pickB])) (fun _=>?_)
       exact ⟨ld9St PC D (i + 1),(weak_mk ⟨_,rfl⟩ wA rfl rfl rfl (by repeat' (first | exact trivial | exact we_rfl rfl | exact we_int (nxt hlt (by omega)) | refine ⟨⟨_,rfl,?_⟩,?_⟩))),ND.length - (i + 1),by omega,i + 1,rfl,by omega,rfl⟩
      ·exact ⟨ld9St PC D (i + 1),(weak_mk ⟨_,rfl⟩ wA rfl rfl rfl (by repeat' (first | exact trivial | exact we_rfl rfl | exact we_int (nxt hlt (by omega)) | refine ⟨⟨_,rfl,?_⟩,?_⟩))),ND.length - (i + 1),by omega,i + 1,rfl,by omega,rfl⟩
  ·refine call_p en45 (h3) ax rfl ?_
   have hd0:(0:Int) < ((dInts D).length:Int):=by rw [hdi,hl];omega
   have hpk:pickB (decide ((chkA D ND).1=0)) true (decide ((0:Int) < ((dInts D).length:Int)))=true:=by rw [pickB_or,decide_eq_true hd0,Bool.or_true]
   refine br (fun _=>?_) (fun h=>?_)
   ·refine call_p en41 (lives19_spec) ax rfl ?_
    exact (rfl:_=_)
   ·exfalso
    have h:=h
    rw [hpk] at h;cases h
end Go.Proofs.YtmphiikdhifhjaaGreat
