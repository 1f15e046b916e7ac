/- Part 6 of the proof: The program's nodes, least depths; The document's least depths; fine; the chapter's example; The program's Depths; The law of least depths: fine, the example, the call returns true; The program's several, Several; The document's count, Many; the law of several values: the call returns true; The document's Many; the law of several values: the call returns true. No condition. -/
import Derived.Test.YtmphiikdhifhjaaGreatMg3
import Derived.Test.YtmphiikdhifhjaaGreatMg5
set_option linter.all false
set_option maxRecDepth 100000
namespace Go.Proofs.YtmphiikdhifhjaaGreat
open Go Go.RowKit Dv Tryz
def cN (l:List Nat):List DV:=l.map fun (z:Nat)=>DV.v (.int .i64 (z:Int))
theorem cN_len (l:List Nat):(cN l).length=l.length:=by simp [cN]
theorem cN_get {l:List Nat} {i z:Nat} (h:l[i]? = some z):(cN l)[i]? = some (DV.v (.int .i64 (z:Int))):=by simp [cN,h]
theorem cN_set (l:List Nat) (i z:Nat):(cN l).set i (DV.v (.int .i64 (z:Int)))=cN (l.set i z):=by simp [cN,List.map_set]
theorem dInts_flat (l:List Nat):(dInts l).flatten=cN l:=by
 induction l with
 | nil=>rfl
 | cons b r ih=>simp only [dInts,cN,List.map_cons,List.flatten_cons] at ih ⊢;rw [ih];rfl
theorem repN (n:Nat):(List.replicate n (vL [Value.int .i64 0])).flatten=cN (List.replicate n 0):=by
 induction n with
 | zero=>rfl
 | succ n ih=>simp only [List.replicate_succ,List.flatten_cons,ih];rfl
theorem weL_cN {n m:Nat} {tk:List TkE} {l:List DV} {r:List Nat} (h:l=cN r):WeL n m tk l (cN r):=by
 subst h
 refine weL_sc _ fun x hx=>?_
 obtain ⟨z,_,rfl⟩:=List.mem_map.1 hx
 exact ⟨_,rfl⟩
theorem ms_n {bx:List (List DV)} {N n0 m0 n i:Nat} {r:List Nat} (hr:r.length=n) (hN:N≤i) (hb:bx[i]? = some (cN r)):Cc bx N n0 m0 (.sl 1 (dInts r) none) (.ms i 1 0 n n):=by
 simp only [Cc]
 refine Or.inr (Or.inr (Or.inl ⟨i,0,n,_,by rw [dInts_len,hr],hN,hb,?_,?_,?_⟩))
 ·rw [dInts_flat,List.drop_zero,List.take_of_length_le (by rw [cN_len,dInts_len];omega)]
 ·intro x hx
  simp only [dInts,List.mem_map] at hx
  obtain ⟨_,_,rfl⟩:=hx
  rfl
 ·intro x hx
  rw [dInts_flat] at hx
  obtain ⟨_,_,rfl⟩:=List.mem_map.1 hx
  exact ⟨_,rfl⟩
abbrev ndsSt (PC:List DV) (ND:List Nd) (q e:Nat):St:=
 ⟨[(0,⟨[],.pt PC 0⟩),(3,⟨[],.sl 7 (dNds (ND.take e)) (some 0)⟩),(8,⟨[],.v (.int .i64 ND.length)⟩),(9,⟨[],.v (.int .i64 e)⟩)],[],[⟨q,60,7,none⟩]⟩
theorem dNds_snoc {l:List Nd} {e:Nat} {n:Nd} (h:l[e]? = some n):dNds (l.take e) ++ [dNd n]=dNds (l.take (e + 1)):=by
 rw [List.take_add_one,h];simp [dNds]
theorem nodes19_spec {S:Sch} {ND:List Nd} {PC:List DV} (hP:PlanR S ND PC) :
  EvP Tryz.prog 104 [.pt PC 0] (.sl 7 (dNds ND) none):=by
 have h1:=hP.len
 have h2:=hP.node
 have hnl:=hP.nl
 refine ev_go (P:=Tryz.prog) tt tt_ok 5000 24 [.tmp 2] Tryz.func104 rfl Tryz.ntmps104 rfl (Nat.le_of_ble_eq_true rfl) (fun E9 w9 hn9 hm9=>?_)
 refine call_p en28 (h1) ax rfl ?_
 refine loop_i (fun j st=>∃ e:Nat,st=ndsSt PC ND e e∧e≤ND.length∧j=ND.length - e) ND.length (ndsSt PC ND 0 0) (weak_tok ⟨0,60,7,none⟩ rfl ⟨_,rfl⟩ rfl wA rfl rfl (by repeat' (first | exact trivial | exact we_rfl rfl | exact we_rfl rfl | exact we_tok (Nat.le_refl _) rfl | refine ⟨⟨_,rfl,?_⟩,?_⟩))) ⟨0,rfl,by omega,by omega⟩ ?_
 rintro j st ⟨e,rfl,he,rfl⟩
 refine br (fun hL=>?_) (fun hL=>?_)
 ·have hlt:e < ND.length:=by have:=hL;simp at this;exact this
  obtain ⟨n,hn⟩:∃ n,ND[e]? = some n:=⟨_,List.getElem?_eq_getElem hlt⟩
  have hml:(dNds (ND.take e)).length=e:=by rw [dNds_len,List.length_take];omega
  refine call_p en32 (h2 e n hn) ax rfl ?_
  refine ⟨hml,⟨by rw [hml];simp [maxLen];omega,by rw [hml];simp;omega⟩,?_⟩
  exact ⟨ndsSt PC ND (e + 1) (e + 1),(weak_mk ⟨_,rfl⟩ wA rfl rfl rfl (by repeat' (first | exact trivial | exact we_rfl rfl | exact we_int (nxt hlt (by omega)) | exact we_sl (dNds_snoc hn) rfl | refine ⟨⟨_,rfl,?_⟩,?_⟩))),ND.length - (e + 1),by omega,e + 1,rfl,by omega,rfl⟩
 ·have hge:e=ND.length:=by have:=hL;simp at this;omega
  subst hge
  rw [List.take_length]
  exact ⟨_,ax,rfl⟩
abbrev le7St (K:List Nat) (es:List Ed) (m e:Nat):St:=
 ⟨[(1,⟨[],.sl 1 (dInts K) none⟩),(5,⟨[],.v (.int .i64 m)⟩),(16,⟨[],.sl 10 (dEds es) none⟩),(17,⟨[],.v (.int .i64 (dEds es).length)⟩),(18,⟨[],.v (.int .i64 e)⟩)],[],[]⟩
abbrev le8St (K:List Nat) (es:List Ed) (m e:Nat):St:=
 ⟨[(1,⟨[],.sl 1 (dInts K) none⟩),(8,⟨[],.v (.int .i64 m)⟩),(41,⟨[],.sl 10 (dEds es) none⟩),(42,⟨[],.v (.int .i64 (dEds es).length)⟩),(43,⟨[],.v (.int .i64 e)⟩)],[],[]⟩
theorem least19_spec {L:Nat} {n:Nd} (K:List Nat) (hK:K.length≤1099511627776) (hn:NdOK L K.length n) (hz:∀ z∈K,z≤1099511627776) (hel:n.edges.length≤1099511627776) :
  EvP Tryz.prog 105 [.agg (dNd n),.sl 1 (dInts K) none] (.v (.int .i64 (leastF n K:Nat))):=by
 have hedge:=hn.edge
 have hbare:=hn.bare
 obtain ⟨kind,at',lo,hi,most,names,es⟩:=n
 simp only at hedge hbare hel
 refine ev_go (P:=Tryz.prog) tt tt_ok 5000 80 [.tmp 4] Tryz.func105 rfl Tryz.ntmps105 rfl (Nat.le_of_ble_eq_true rfl) (fun E9 w9 hn9 hm9=>?_)
 refine br (fun h7=>?_) (fun h7=>?_)
 ·have h7:kind=7:=by simpa using h7
  have hF:leastF ⟨kind,at',lo,hi,most,names,es⟩ K=leastR K es 0:=by simp [leastF,h7]
  rw [hF]
  refine loop_i (fun j st=>∃ e m:Nat,st=le7St K es m e∧e≤es.length∧m≤1099511627776∧leastR K es 0=leastR K (es.drop e) m∧j=es.length - e) es.length (le7St K es 0 0) (weak_mk ⟨_,rfl⟩ wA rfl rfl rfl wB) ⟨0,0,rfl,by omega,by omega,rfl,by omega⟩ ?_
  rintro j st ⟨e,m,rfl,he,hm,heq,rfl⟩
  refine br (fun hL=>?_) (fun hL=>?_)
  ·have hlt:e < es.length:=by have:=hL;simp [dEds_len] at this;exact this
   obtain ⟨x,hx⟩:∃ x,es[e]? = some x:=⟨_,List.getElem?_eq_getElem hlt⟩
   rw [drop_cons hx,leastR] at heq
   have hxe:=hedge x (List.mem_of_getElem? hx)
   have hxb:x.bare=false:=by
    cases hb:x.bare
    ·rfl
    ·have:=hbare x (List.mem_of_getElem? hx) hb;omega
   obtain ⟨k,hk,hkl⟩:=hxe.to1 hxb
   obtain ⟨z,hz1⟩:∃ z,K[k]? = some z:=⟨_,List.getElem?_eq_getElem hkl⟩
   have hzl:=hz z (List.mem_of_getElem? hz1)
   have hed:edN K x=z:=by simp [edN,hk,List.getD_eq_getElem?_getD,hz1]
   have hg:(dInts K)[x.to.toNat]? = some [DV.v (.int .i64 (z:Int))]:=by rw [hk];exact dInts_get hz1
   rw [hed] at heq
   refine ⟨_,⟨by omega,dEds_get hx⟩,?_⟩
   refine ⟨_,⟨by omega,hg⟩,?_⟩
   refine br (fun g=>?_) (fun g=>?_)
   ·have g:z=0:=by simpa using g
    rw [heq,if_pos g]
    exact (rfl:_=_)
   ·have g:¬ z=0:=by simpa using g
    rw [if_neg g] at heq
    refine ⟨_,⟨by omega,hg⟩,?_⟩
    exact ⟨le7St K es (max m z) (e + 1),(weak_mk ⟨_,rfl⟩ wA rfl rfl rfl (by repeat' (first | exact trivial | exact we_rfl rfl | exact we_int (show max (m:Int) z=((max m z:Nat):Int) by omega) | exact we_int (nxt hlt (by omega)) | refine ⟨⟨_,rfl,?_⟩,?_⟩))),es.length - (e + 1),by omega,e + 1,_,rfl,by omega,by omega,heq,rfl⟩
  ·have hge:e=es.length:=by have:=hL;simp [dEds_len] at this;omega
   subst hge
   rw [List.drop_length,leastR] at heq
   have hw:IntKind.i64.wrap ((m:Int) + 1)=((m + 1:Nat):Int):=by rw [wrap64 (by omega) (by omega)];omega
   rw [heq]
   refine (congrArg (fun z=>DV.v (.int .i64 z)) ?_:_=_)
   exact hw
 have h7:¬ kind=7:=by simpa using h7
 refine br (fun h8=>?_) (fun h8=>?_)
 ·have h8:kind=8:=by simpa using h8
  have hF:leastF ⟨kind,at',lo,hi,most,names,es⟩ K=leastU K es 0:=by simp [leastF,h8]
  rw [hF]
  refine loop_i (fun j st=>∃ e m:Nat,st=le8St K es m e∧e≤es.length∧m≤1099511627776∧leastU K es 0=leastU K (es.drop e) m∧j=es.length - e) es.length (le8St K es 0 0) (weak_mk ⟨_,rfl⟩ wA rfl rfl rfl wB) ⟨0,0,rfl,by omega,by omega,rfl,by omega⟩ ?_
  rintro j st ⟨e,m,rfl,he,hm,heq,rfl⟩
  refine br (fun hL=>?_) (fun hL=>?_)
  ·have hlt:e < es.length:=by have:=hL;simp [dEds_len] at this;exact this
   obtain ⟨x,hx⟩:∃ x,es[e]? = some x:=⟨_,List.getElem?_eq_getElem hlt⟩
   rw [drop_cons hx,leastU] at heq
   have hxe:=hedge x (List.mem_of_getElem? hx)
   refine ⟨_,⟨by omega,dEds_get hx⟩,?_⟩
   refine br (fun hb=>?_) (fun hb=>?_)
   ·have hb:x.bare=true:=hb
    rw [heq,if_pos hb]
    exact (rfl:_=_)
   have hb:x.bare=false:=hb
   rw [if_neg (by rw [hb];decide)] at heq
   obtain ⟨k,hk,hkl⟩:=hxe.to1 hb
   obtain ⟨z,hz1⟩:∃ z,K[k]? = some z:=⟨_,List.getElem?_eq_getElem hkl⟩
   have hzl:=hz z (List.mem_of_getElem? hz1)
   have hed:edN K x=z:=by simp [edN,hk,List.getD_eq_getElem?_getD,hz1]
   have hg:(dInts K)[x.to.toNat]? = some [DV.v (.int .i64 (z:Int))]:=by rw [hk];exact dInts_get hz1
   rw [hed] at heq
   refine ⟨_,⟨by omega,hg⟩,?_⟩
   have keep:¬ (0 < z∧(m=0∨z < m))→leastU K es 0=leastU K (es.drop (e + 1)) m:=fun h=>by rw [heq,if_neg h]
   have take:(0 < z∧(m=0∨z < m))→leastU K es 0=leastU K (es.drop (e + 1)) z:=fun h=>by rw [heq,if_pos h]
   refine br (fun g1=>?_) (fun g1=>?_)
   ·have g1:0 < z:=by simpa [lastG] using g1
    refine br (fun g2=>?_) (fun g2=>?_)
    ·have g2:¬ m=0:=by simpa using g2
     refine ⟨_,⟨by omega,hg⟩,?_⟩
     refine br (fun g3=>?_) (fun g3=>?_)
     ·have g3:z < m:=by simpa [pickB,pickD,lastG] using g3
      refine ⟨_,⟨by omega,hg⟩,?_⟩
      exact ⟨le8St K es z (e + 1),(weak_mk ⟨_,rfl⟩ wA rfl rfl rfl (by repeat' (first | exact trivial | exact we_rfl rfl | exact we_int (nxt hlt (by omega)) | refine ⟨⟨_,rfl,?_⟩,?_⟩))),es.length - (e + 1),by omega,e + 1,_,rfl,by omega,by omega,take ⟨g1,.inr g3⟩,rfl⟩
     ·have g3:¬ z < m:=by simpa [pickB,pickD,lastG] using g3
      exact ⟨le8St K es m (e + 1),(weak_mk ⟨_,rfl⟩ wA rfl rfl rfl (by repeat' (first | exact trivial | exact we_rfl rfl | exact we_int (nxt hlt (by omega)) | refine ⟨⟨_,rfl,?_⟩,?_⟩))),es.length - (e + 1),by omega,e + 1,_,rfl,by omega,by omega,keep (by omega),rfl⟩
    ·have g2:m=0:=by simpa using g2
     refine ⟨_,⟨by omega,hg⟩,?_⟩
     exact ⟨le8St K es z (e + 1),(weak_mk ⟨_,rfl⟩ wA rfl rfl rfl (by repeat' (first | exact trivial | exact we_rfl rfl | exact we_int (nxt hlt (by omega)) | refine ⟨⟨_,rfl,?_⟩,?_⟩))),es.length - (e + 1),by omega,e + 1,_,rfl,by omega,by omega,take ⟨g1,.inl g2⟩,rfl⟩
   ·have g1:¬ 0 < z:=by simpa [lastG] using g1
    exact ⟨le8St K es m (e + 1),(weak_mk ⟨_,rfl⟩ wA rfl rfl rfl (by repeat' (first | exact trivial | exact we_rfl rfl | exact we_int (nxt hlt (by omega)) | refine ⟨⟨_,rfl,?_⟩,?_⟩))),es.length - (e + 1),by omega,e + 1,_,rfl,by omega,by omega,keep (by omega),rfl⟩
  ·have hge:e=es.length:=by have:=hL;simp [dEds_len] at this;omega
   subst hge
   rw [List.drop_length,leastU] at heq
   refine br (fun g=>?_) (fun g=>?_)
   ·have g:m=0:=by simpa using g
    rw [heq,if_pos g]
    exact (rfl:_=_)
   ·have g:¬ m=0:=by simpa using g
    rw [if_neg g] at heq
    have hw:IntKind.i64.wrap ((m:Int) + 1)=((m + 1:Nat):Int):=by rw [wrap64 (by omega) (by omega)];omega
    rw [heq]
    refine (congrArg (fun z=>DV.v (.int .i64 z)) ?_:_=_)
    exact hw
 ·have h8:¬ kind=8:=by simpa using h8
  have hF:leastF ⟨kind,at',lo,hi,most,names,es⟩ K=1:=by simp [leastF,h7,h8]
  rw [hF]
  exact (rfl:_=_)
end Go.Proofs.YtmphiikdhifhjaaGreat
set_option maxRecDepth 100000
namespace Go.Proofs.YtmphiikdhifhjaaGreat
open Go Go.RowKit Dv Tryz
abbrev on1St (n:Nd) (K:List Bool) (s v:Bool) (e:Nat):St:=
 ⟨[(1,⟨[],.sl 1 (dBo K) none⟩),(2,⟨[],.loc 0 0⟩),(5,⟨[],.v (.bool s)⟩),(6,⟨[],.v (.bool v)⟩),(7,⟨[],.v (.int .i64 e)⟩)],[dNd n],[]⟩
theorem one19_spec {L:Nat} {n:Nd} (K:List Bool) (hK:K.length≤1099511627776) (hn:NdOK L K.length n) (hel:n.edges.length≤1099511627776) :
  EvP Tryz.prog 106 [.agg (dNd n),.sl 1 (dBo K) none] (.v (.bool (hvB n K))):=by
 have hedge:=hn.edge
 have hbare:=hn.bare
 have hk8:=hn.k8
 obtain ⟨kind,at',lo,hi,most,names,es⟩:=n
 simp only at hedge hbare hel hk8
 refine ev_go (P:=Tryz.prog) tt tt_ok 5000 50 [.tmp 4] Tryz.func106 rfl Tryz.ntmps106 rfl (Nat.le_of_ble_eq_true rfl) (fun E9 w9 hn9 hm9=>?_)
 refine br (fun h7=>?_) (fun h7=>?_)
 ·have h7:kind < 7:=by simpa using h7
  refine (congrArg (fun b=>DV.v (.bool b)) ?_:_=_)
  simp [hvB,h7]
 have h7:¬ kind < 7:=by simpa using h7
 refine loop_i (fun j st=>∃ e:Nat,st=on1St ⟨kind,at',lo,hi,most,names,es⟩ K ((es.take e).any (inK K)) ((es.take e).all (inK K)) e∧e≤es.length∧j=es.length - e) es.length (on1St ⟨kind,at',lo,hi,most,names,es⟩ K false true 0) (weak_mk ⟨_,rfl⟩ wA rfl rfl rfl wB) ⟨0,by simp,by omega,by omega⟩ ?_
 rintro j st ⟨e,rfl,he,rfl⟩
 refine br (fun hL=>?_) (fun hL=>?_)
 ·have hlt:e < es.length:=by have:=hL;simp [dEds_len] at this;exact this
  obtain ⟨x,hx⟩:∃ x,es[e]? = some x:=⟨_,List.getElem?_eq_getElem hlt⟩
  refine ⟨_,⟨by omega,dEds_get hx⟩,?_⟩
  have hs:(es.take (e + 1)).any (inK K)=((es.take e).any (inK K) || inK K x):=by rw [List.take_add_one,hx];simp
  have hv:(es.take (e + 1)).all (inK K)=((es.take e).all (inK K) && inK K x):=by rw [List.take_add_one,hx];simp
  generalize (es.take e).any (inK K)=s at hs ⊢
  generalize (es.take e).all (inK K)=v at hv ⊢
  refine br (fun hb=>?_) (fun hb=>?_)
  ·have hb:x.bare=false:=by simpa using hb
   obtain ⟨k,hk,hkl⟩:=(hedge x (List.mem_of_getElem? hx)).to1 hb
   obtain ⟨b,hb1⟩:∃ b,K[k]? = some b:=⟨_,List.getElem?_eq_getElem hkl⟩
   have hg:(dBo K)[(max x.to 0).toNat]? = some [DV.v (.bool b)]:=by rw [show (max x.to 0).toNat=k by omega];exact dBo_get hb1
   have hik:inK K x=b:=by unfold inK;rw [hb,hk];simp [List.getD_eq_getElem?_getD,hb1]
   rw [hik] at hs hv
   refine ⟨_,⟨by omega,dEds_get hx⟩,?_⟩
   refine ⟨_,⟨by omega,hg⟩,?_⟩
   have e5:pickB s true b=(es.take (e + 1)).any (inK K):=by rw [hs,pickB_or]
   have e6:pickB v b false=(es.take (e + 1)).all (inK K):=by rw [hv,pickB_and]
   exact ⟨on1St ⟨kind,at',lo,hi,most,names,es⟩ K ((es.take (e + 1)).any (inK K)) ((es.take (e + 1)).all (inK K)) (e + 1),(weak_mk ⟨_,rfl⟩ wA rfl rfl rfl (by repeat' (first | exact trivial | exact we_rfl rfl | exact we_bool e5 | exact we_bool e6 | exact we_int (nxt hlt (by omega)) | refine ⟨⟨_,rfl,?_⟩,?_⟩))),es.length - (e + 1),by omega,e + 1,rfl,by omega,rfl⟩
  ·have hb:x.bare=true:=by simpa using hb
   have hik:inK K x=true:=by unfold inK;rw [hb];rfl
   rw [hik] at hs hv
   have e5:pickB s true true=(es.take (e + 1)).any (inK K):=by rw [hs,pickB_or]
   have e6:pickB v true false=(es.take (e + 1)).all (inK K):=by rw [hv,pickB_and]
   exact ⟨on1St ⟨kind,at',lo,hi,most,names,es⟩ K ((es.take (e + 1)).any (inK K)) ((es.take (e + 1)).all (inK K)) (e + 1),(weak_mk ⟨_,rfl⟩ wA rfl rfl rfl (by repeat' (first | exact trivial | exact we_rfl rfl | exact we_bool e5 | exact we_bool e6 | exact we_int (nxt hlt (by omega)) | refine ⟨⟨_,rfl,?_⟩,?_⟩))),es.length - (e + 1),by omega,e + 1,rfl,by omega,rfl⟩
 ·have hge:e=es.length:=by have:=hL;simp [dEds_len] at this;omega
  subst hge
  rw [List.take_length]
  refine br (fun g=>?_) (fun g=>?_)
  ·have g:kind=7:=by simpa using g
   refine (congrArg (fun b=>DV.v (.bool b)) ?_:_=_)
   simp [hvB,g]
  ·have g:¬ kind=7:=by simpa using g
   refine (congrArg (fun b=>DV.v (.bool b)) ?_:_=_)
   simp [hvB,g,h7]
theorem ms_b {bx:List (List DV)} {N n0 m0 n i:Nat} {r:List Bool} (hr:r.length=n) (hN:N≤i) (hb:bx[i]? = some (cB r)):Cc bx N n0 m0 (.sl 1 (dBo r) none) (.ms i 1 0 n n):=by
 simp only [Cc]
 refine Or.inr (Or.inr (Or.inl ⟨i,0,n,_,by rw [dBo_len,hr],hN,hb,?_,?_,?_⟩))
 ·rw [dBo_flat,List.drop_zero,List.take_of_length_le (by rw [cB_len,dBo_len];omega)]
 ·intro x hx
  simp only [dBo,List.mem_map] at hx
  obtain ⟨_,_,rfl⟩:=hx
  rfl
 ·intro x hx
  rw [dBo_flat] at hx
  obtain ⟨_,_,rfl⟩:=List.mem_map.1 hx
  exact ⟨_,rfl⟩
theorem ccL_cN (l:List Nat) (bx:List (List DV)) (N n m:Nat):CcL bx N n m (cN l) (cN l):=by
 induction l with
 | nil=>rfl
 | cons a r ih=>exact ⟨_,_,rfl,rfl,ih⟩
abbrev wG (a b:Nat) (A B:List (List DV)) (ND:List Nd) (z:Int):List DV:=[.sl a A none,.sl b B none,.sl 7 (dNds ND) none,.v (.int .i64 z)]
abbrev rd1St (W:List DV) (O:List Nat) (K:List Bool) (n d:Nat):St:=
 ⟨[(1,⟨[],.loc 0 0⟩),(3,⟨[],.ms 1 1 0 n n⟩),(4,⟨[],.sl 1 (dBo K) none⟩),(5,⟨[],.v (.int .i64 d)⟩)],[W,cN O],[]⟩
abbrev rd2St (W:List DV) (O:List Nat) (K:List Bool) (M:List Bool) (n d e:Nat):St:=
 ⟨[(1,⟨[],.loc 0 0⟩),(3,⟨[],.ms 1 1 0 n n⟩),(4,⟨[],.sl 1 (dBo K) none⟩),(5,⟨[],.v (.int .i64 d)⟩),(6,⟨[],.ms 2 1 0 n n⟩),(7,⟨[],.v (.int .i64 e)⟩)],[W,cN O,cB M],[]⟩
theorem depths19_spec (a b:Nat) (A B:List (List DV)) {ND:List Nd} {L:Nat} (z:Int) (hok:∀ n∈ND,NdOK L ND.length n) (hnl:ND.length≤1099511627776) (hsz:∀ n∈ND,n.edges.length≤1099511627776) :
  EvP Tryz.prog 44 [.agg (wG a b A B ND z)] (.sl 1 (dInts (depN ND ND.length)) none):=by
 have hdl:=dNds_len ND
 refine ev_go (P:=Tryz.prog) tt tt_ok 5000 61 [.tmp 2] Tryz.func44 rfl Tryz.ntmps44 rfl (Nat.le_of_ble_eq_true rfl) (fun E9 w9 hn9 hm9=>?_)
 refine ⟨⟨rfl,by omega,by rw [hdl];omega,by rw [hdl];omega⟩,?_⟩
 refine ⟨⟨rfl,by omega,by rw [hdl];omega,by rw [hdl];omega⟩,?_⟩
 refine loop_w (fun j st=>∃ d:Nat,st=rd1St (wG a b A B ND z) (depN ND d) (posL (depN ND d)) (dNds ND).length (d + 1)∧d≤ND.length∧j=ND.length - d) ND.length (rd1St (wG a b A B ND z) (depN ND 0) (posL (depN ND 0)) (dNds ND).length 1) (.frz 2 rfl rfl ?_ rfl ?_) ⟨0,rfl,by omega,by omega⟩ ?_
 ·refine ⟨_,_,rfl,ax,_,_,rfl,?_,rfl⟩
  rw [repN,hdl]
  exact ccL_cN _ _ _ _ _
 ·refine ⟨⟨_,rfl,(by repeat' (first | exact rfl | exact trivial | exact Or.inr (Or.inl ⟨_,rfl⟩) | exact Or.inr ⟨_,rfl⟩ | exact Or.inl ⟨rfl,rfl⟩ | exact Or.inl rfl | refine Or.inr ⟨_,_,rfl,Nat.zero_le _,rfl,?_⟩ | refine ⟨_,_,rfl,?_,?_⟩ | refine ⟨_,rfl,?_⟩ | exact ⟨Nat.le_of_ble_eq_true rfl,rfl⟩ | refine Or.inr (Or.inr (Or.inr ⟨_,_,rfl,?_⟩)) | exact Or.inl rfl | refine Or.inr ?_))⟩,⟨_,rfl,(by repeat' (first | exact rfl | exact trivial | exact Or.inr (Or.inl ⟨_,rfl⟩) | exact Or.inr ⟨_,rfl⟩ | exact Or.inl ⟨rfl,rfl⟩ | exact Or.inl rfl | refine Or.inr ⟨_,_,rfl,Nat.zero_le _,rfl,?_⟩ | refine ⟨_,_,rfl,?_,?_⟩ | refine ⟨_,rfl,?_⟩ | exact ⟨Nat.le_of_ble_eq_true rfl,rfl⟩ | refine Or.inr (Or.inr (Or.inr ⟨_,_,rfl,?_⟩)) | exact Or.inl rfl | refine Or.inr ?_))⟩,⟨_,rfl,ms_b (by rw [posL_len,depN_len,hdl];omega) (Nat.le_refl _) ?_⟩,⟨_,rfl,ax⟩,trivial⟩
  refine congrArg some ?_
  rw [repB,hdl]
  simp [posL,depN]
 rintro j st ⟨d,rfl,hd,rfl⟩
 have hpl:(posL (depN ND d)).length=ND.length:=by rw [posL_len,depN_len]
 refine br (fun hc=>?_) (fun hc=>?_)
 ·have hlt:d < ND.length:=by have:=hc;simp [hdl] at this;omega
  refine ⟨⟨rfl,by omega,by rw [hdl];omega,by rw [hdl];omega⟩,?_⟩
  refine loop_i (fun j st=>∃ (e:Nat) (O:List Nat) (M:List Bool),st=rd2St (wG a b A B ND z) O (posL (depN ND d)) M (dNds ND).length (d + 1) e∧e≤ND.length∧O.length=ND.length∧M.length=ND.length∧(∀ i:Nat,i < e→O.getD i 0=(depN ND (d + 1)).getD i 0∧M.getD i false=(posL (depN ND (d + 1))).getD i false)∧(∀ i:Nat,e≤i→O.getD i 0=(depN ND d).getD i 0)∧j=ND.length - e) ND.length (rd2St (wG a b A B ND z) (depN ND d) (posL (depN ND d)) (List.replicate ((dNds ND).length:Int).toNat false) (dNds ND).length (d + 1) 0) (weak_b 3 rfl (by repeat' (first | exact rfl | exact we_rfl rfl | exact weL_cN rfl | exact weL_cB (repB _) | refine ⟨_,_,rfl,?_,?_⟩)) rfl rfl rfl (by repeat' (first | exact trivial | exact we_rfl rfl | exact weL_cN rfl | exact weL_cB (repB _) | refine ⟨⟨_,rfl,?_⟩,?_⟩))) ⟨0,_,_,rfl,by omega,by rw [depN_len],by rw [List.length_replicate,hdl];omega,fun i hi=>by omega,fun i _=>rfl,by omega⟩ ?_
  rintro j st ⟨e,O,M,rfl,he,hO,hM,hv1,hv2,rfl⟩
  refine br (fun hL=>?_) (fun hL=>?_)
  ·have hle:e < ND.length:=by have:=hL;simp [hdl] at this;exact this
   obtain ⟨n,hn⟩:∃ n,ND[e]? = some n:=⟨_,List.getElem?_eq_getElem hle⟩
   have hnm:=List.mem_of_getElem? hn
   have h1:=one19_spec (posL (depN ND d)) (by rw [hpl];exact hnl) (n:=n) (by rw [hpl];exact hok n hnm) (hsz n hnm)
   obtain ⟨r1,r2⟩:=depN_ref (fun m hm=>⟨(hok m hm).k8,(hok m hm).bare⟩) d hn
   refine ⟨_,⟨by omega,dNds_get hn⟩,?_⟩
   refine call_p en106 (h1) ax rfl ?_
   have hst:(cB M).set (0 + (e:Int).toNat * 1) (DV.v (.bool (hvB n (posL (depN ND d)))))=cB (M.set e (hvB n (posL (depN ND d)))):=by
    rw [show 0 + (e:Int).toNat * 1=e by omega,cB_set]
   have hld:(cB (M.set e (hvB n (posL (depN ND d)))))[0 + (e:Int).toNat * 1]? = some (DV.v (.bool (hvB n (posL (depN ND d))))):=by
    rw [show 0 + (e:Int).toNat * 1=e by omega]
    exact cB_get (List.getElem?_set_self (by omega))
   obtain ⟨q,hq⟩:∃ q,O[e]? = some q:=⟨_,List.getElem?_eq_getElem (by omega)⟩
   have hqd:(depN ND d).getD e 0=q:=by rw [← hv2 e (Nat.le_refl _),List.getD_eq_getElem?_getD,hq];rfl
   rw [hqd] at r1
   have hMs:∀ i:Nat,i < e + 1→(M.set e (hvB n (posL (depN ND d)))).getD i false=(posL (depN ND (d + 1))).getD i false:=fun i hi=>by
    by_cases hie:i=e
    ·subst hie
     rw [r2,List.getD_eq_getElem?_getD,List.getElem?_set_self (by omega)];rfl
    ·rw [List.getD_eq_getElem?_getD,List.getElem?_set_ne (Ne.symm hie),← List.getD_eq_getElem?_getD]
     exact (hv1 i (by omega)).2
   generalize hvB n (posL (depN ND d))=h at hst hld r1 hMs ⊢
   refine ⟨⟨by omega,by rw [hdl];omega⟩,?_⟩
   refine ⟨by rw [cB_len];omega,?_⟩
   refine ⟨⟨by omega,by rw [hdl];omega⟩,?_⟩
   refine ⟨DV.v (.bool h),(by rw [hst];exact hld),?_⟩
   have hOs:∀ v,v=(depN ND (d + 1)).getD e 0→∀ i:Nat,i < e + 1→(O.set e v).getD i 0=(depN ND (d + 1)).getD i 0:=fun v hv i hi=>by
    by_cases hie:i=e
    ·subst hie
     rw [← hv,List.getD_eq_getElem?_getD,List.getElem?_set_self (by omega)];rfl
    ·rw [List.getD_eq_getElem?_getD,List.getElem?_set_ne (Ne.symm hie),← List.getD_eq_getElem?_getD]
     exact (hv1 i (by omega)).1
   have hOr:∀ v:Nat,∀ i:Nat,e + 1≤i→(O.set e v).getD i 0=(depN ND d).getD i 0:=fun v i hi=>by
    rw [List.getD_eq_getElem?_getD,List.getElem?_set_ne (by omega),← List.getD_eq_getElem?_getD]
    exact hv2 i (by omega)
   have hOq:O.set e q=O:=List.ext_getElem? fun i=>by
    by_cases hie:e=i
    ·subst hie
     rw [List.getElem?_set_self (by omega),hq]
    ·rw [List.getElem?_set_ne hie]
   refine br (fun g=>?_) (fun g=>?_)
   ·have g:h=true:=by simpa using g
    refine ⟨⟨by omega,by rw [hdl];omega⟩,?_⟩
    refine ⟨DV.v (.int .i64 (q:Int)),(by rw [show 0 + (e:Int).toNat * 1=e by omega];exact cN_get hq),?_⟩
    refine br (fun g2=>?_) (fun g2=>?_)
    ·have g2:q=0:=by simpa [pickB,pickD] using g2
     rw [if_pos ⟨g,g2⟩] at r1
     refine ⟨⟨by omega,by rw [hdl];omega⟩,?_⟩
     refine ⟨by rw [cN_len];omega,?_⟩
     have hso:(cN O).set (0 + (e:Int).toNat * 1) (DV.v (.int .i64 ((d + 1:Nat):Int)))=cN (O.set e (d + 1)):=by
      rw [show 0 + (e:Int).toNat * 1=e by omega,cN_set]
     exact ⟨rd2St (wG a b A B ND z) (O.set e (d + 1)) (posL (depN ND d)) (M.set e h) (dNds ND).length (d + 1) (e + 1),(weak_b 3 rfl (by repeat' (first | exact rfl | exact we_rfl rfl | exact weL_cN hso | exact weL_cB hst | exact we_int (nxt hle (by omega)) | refine ⟨_,_,rfl,?_,?_⟩)) rfl rfl rfl (by repeat' (first | exact trivial | exact we_rfl rfl | exact weL_cN hso | exact weL_cB hst | exact we_int (nxt hle (by omega)) | refine ⟨⟨_,rfl,?_⟩,?_⟩))),ND.length - (e + 1),by omega,e + 1,_,_,rfl,by omega,by simp [hO],by rw [List.length_set];exact hM,fun i hi=>⟨hOs _ r1.symm i hi,hMs i hi⟩,hOr (d + 1),rfl⟩
    ·have g2:¬ q=0:=by simpa [pickB,pickD] using g2
     rw [if_neg (fun h=>g2 h.2)] at r1
     exact ⟨rd2St (wG a b A B ND z) (O.set e q) (posL (depN ND d)) (M.set e h) (dNds ND).length (d + 1) (e + 1),(weak_b 3 rfl (by repeat' (first | exact rfl | exact we_rfl rfl | exact weL_cN (by rw [hOq]) | exact weL_cB hst | exact we_int (nxt hle (by omega)) | refine ⟨_,_,rfl,?_,?_⟩)) rfl rfl rfl (by repeat' (first | exact trivial | exact we_rfl rfl | exact weL_cN (by rw [hOq]) | exact weL_cB hst | exact we_int (nxt hle (by omega)) | refine ⟨⟨_,rfl,?_⟩,?_⟩))),ND.length - (e + 1),by omega,e + 1,_,_,rfl,by omega,by simp [hO],by rw [List.length_set];exact hM,fun i hi=>⟨hOs _ r1.symm i hi,hMs i hi⟩,hOr q,rfl⟩
   ·have g:h=false:=by simpa using g
    rw [if_neg (by rw [g];simp)] at r1
    exact ⟨rd2St (wG a b A B ND z) (O.set e q) (posL (depN ND d)) (M.set e h) (dNds ND).length (d + 1) (e + 1),(weak_b 3 rfl (by repeat' (first | exact rfl | exact we_rfl rfl | exact weL_cN (by rw [hOq]) | exact weL_cB hst | exact we_int (nxt hle (by omega)) | refine ⟨_,_,rfl,?_,?_⟩)) rfl rfl rfl (by repeat' (first | exact trivial | exact we_rfl rfl | exact weL_cN (by rw [hOq]) | exact weL_cB hst | exact we_int (nxt hle (by omega)) | refine ⟨⟨_,rfl,?_⟩,?_⟩))),ND.length - (e + 1),by omega,e + 1,_,_,rfl,by omega,by simp [hO],by rw [List.length_set];exact hM,fun i hi=>⟨hOs _ r1.symm i hi,hMs i hi⟩,hOr q,rfl⟩
  ·have hge:e=ND.length:=by have:=hL;simp [hdl] at this;omega
   subst hge
   have hO2:O=depN ND (d + 1):=getD_ext (by rw [hO,depN_len]) fun j=>by
    rcases Nat.lt_or_ge j ND.length with hj | hj
    ·exact (hv1 j hj).1
    ·simp only [List.getD_eq_getElem?_getD]
     rw [List.getElem?_eq_none (by omega),List.getElem?_eq_none (by rw [depN_len];omega)]
   have hM2:M=posL (depN ND (d + 1)):=leB_anti (by rw [hM,posL_len,depN_len]) (fun j hj=>by
     rcases Nat.lt_or_ge j ND.length with h | h
     ·rw [← (hv1 j h).2];exact hj
     ·rw [List.getD_eq_getElem?_getD,List.getElem?_eq_none (by omega)] at hj;cases hj) (fun j hj=>by
     rcases Nat.lt_or_ge j ND.length with h | h
     ·rw [(hv1 j h).2];exact hj
     ·rw [List.getD_eq_getElem?_getD,List.getElem?_eq_none (by rw [posL_len,depN_len];omega)] at hj;cases hj)
   subst hO2 hM2
   refine ⟨rd1St (wG a b A B ND z) (depN ND (d + 1)) (posL (depN ND (d + 1))) (dNds ND).length (d + 1 + 1),.frz 2 rfl rfl ⟨_,_,rfl,ax,_,_,rfl,ccL_cN _ _ _ _ _,rfl⟩ rfl ⟨⟨_,rfl,(by repeat' (first | exact rfl | exact trivial | exact Or.inr (Or.inl ⟨_,rfl⟩) | exact Or.inr ⟨_,rfl⟩ | exact Or.inl ⟨rfl,rfl⟩ | exact Or.inl rfl | refine Or.inr ⟨_,_,rfl,Nat.zero_le _,rfl,?_⟩ | refine ⟨_,_,rfl,?_,?_⟩ | refine ⟨_,rfl,?_⟩ | exact ⟨Nat.le_of_ble_eq_true rfl,rfl⟩ | refine Or.inr (Or.inr (Or.inr ⟨_,_,rfl,?_⟩)) | exact Or.inl rfl | refine Or.inr ?_))⟩,⟨_,rfl,(by repeat' (first | exact rfl | exact trivial | exact Or.inr (Or.inl ⟨_,rfl⟩) | exact Or.inr ⟨_,rfl⟩ | exact Or.inl ⟨rfl,rfl⟩ | exact Or.inl rfl | refine Or.inr ⟨_,_,rfl,Nat.zero_le _,rfl,?_⟩ | refine ⟨_,_,rfl,?_,?_⟩ | refine ⟨_,rfl,?_⟩ | exact ⟨Nat.le_of_ble_eq_true rfl,rfl⟩ | refine Or.inr (Or.inr (Or.inr ⟨_,_,rfl,?_⟩)) | exact Or.inl rfl | refine Or.inr ?_))⟩,⟨_,rfl,ms_b (by rw [posL_len,depN_len,hdl]) (Nat.le_refl _) rfl⟩,⟨_,rfl,?_⟩,trivial⟩,ND.length - (d + 1),by omega,d + 1,rfl,by omega,rfl⟩
   exact congrArg (fun z=>DV.v (Value.int .i64 z)) (nxt (n:=1099511627777) (by omega) (by omega))
 ·have hge:d=ND.length:=by have:=hc;simp [hdl] at this;omega
  subst hge
  exact ⟨_,ms_n (by rw [depN_len,hdl]) (Nat.zero_le _) rfl,rfl⟩
end Go.Proofs.YtmphiikdhifhjaaGreat
set_option maxRecDepth 100000
namespace Go.Proofs.YtmphiikdhifhjaaGreat
open Go Go.RowKit Dv Tryz
def chgB (ND:List Nd) (d e:Nat):Bool:=(List.range e).any fun i=>decide (¬ (depN ND (d + 1)).getD i 0=(depN ND d).getD i 0)
theorem chgB_succ (ND:List Nd) (d e:Nat):chgB ND d (e + 1)=(chgB ND d e || decide (¬ (depN ND (d + 1)).getD e 0=(depN ND d).getD e 0)):=by
 simp [chgB,List.range_succ]
theorem chgB_all {ND:List Nd} {d:Nat}:chgB ND d ND.length=false↔depN ND (d + 1)=depN ND d:=by
 constructor
 ·intro h
  refine getD_ext (by rw [depN_len,depN_len]) fun j=>?_
  unfold chgB at h
  rw [List.any_eq_false] at h
  rcases Nat.lt_or_ge j ND.length with hj | hj
  ·have:=h j (by simpa using hj)
   simpa using this
  ·simp only [List.getD_eq_getElem?_getD]
   rw [List.getElem?_eq_none (by rw [depN_len];exact hj),List.getElem?_eq_none (by rw [depN_len];exact hj)]
 ·intro h
  unfold chgB
  rw [h,List.any_eq_false]
  simp
theorem depN_small {ND:List Nd} {d:Nat} (hd:d≤1099511627776):∀ z∈depN ND d,z≤1099511627776:=fun z hz=>by
 obtain ⟨i,hi⟩:=List.mem_iff_getElem?.1 hz
 have:=depN_le ND d i
 rw [List.getD_eq_getElem?_getD,hi] at this
 simp only [Option.getD_some] at this
 omega
abbrev dp1St (ND:List Nd) (d:Nat) (c:Bool):St:=
 ⟨[(3,⟨[],.sl 7 (dNds ND) none⟩),(4,⟨[],.sl 1 (dInts (depN ND d)) none⟩),(5,⟨[],.v (.bool c)⟩)],[],[]⟩
abbrev dp2St (ND:List Nd) (d:Nat) (c:Bool) (L:List Nat) (e:Nat):St:=
 ⟨[(3,⟨[],.sl 7 (dNds ND) none⟩),(4,⟨[],.sl 1 (dInts (depN ND d)) none⟩),(5,⟨[],.v (.bool c)⟩),(6,⟨[],.ms 0 1 0 (dNds ND).length (dNds ND).length⟩),(18,⟨[],.sl 7 (dNds ND) none⟩),(19,⟨[],.v (.int .i64 (dNds ND).length)⟩),(20,⟨[],.v (.int .i64 e)⟩)],[cN L],[]⟩
theorem depths_gen {L:Nat} {ND:List Nd} {p:DV} (h0:EvP Tryz.prog 104 [p] (.sl 7 (dNds ND) none)) (hok:∀ n∈ND,NdOK L ND.length n) (hnl:ND.length≤1099511627776) (hsz:∀ n∈ND,n.edges.length≤1099511627776) (hcc:∀ bx N n m,Cc bx N n m p p) :
  EvP Tryz.prog 43 [p] (.sl 1 (dInts (depN ND ND.length)) none):=by
 have hdl:=dNds_len ND
 refine ev_go (P:=Tryz.prog) tt tt_ok 5000 46 [.tmp 2] Tryz.func43 rfl Tryz.ntmps43 rfl (Nat.le_of_ble_eq_true rfl) (fun E9 w9 hn9 hm9=>?_)
 refine call_p en104 (h0) (by repeat' (first | exact rfl | exact trivial | exact Or.inr (Or.inl ⟨_,rfl⟩) | exact Or.inr ⟨_,rfl⟩ | exact Or.inl ⟨rfl,rfl⟩ | exact Or.inl rfl | refine Or.inr ⟨_,_,rfl,Nat.zero_le _,rfl,?_⟩ | refine ⟨_,_,rfl,?_,?_⟩ | refine ⟨_,rfl,?_⟩ | exact hcc _ _ _ _| refine Or.inr (Or.inr (Or.inr ⟨_,_,rfl,?_⟩)) | exact Or.inl rfl | refine Or.inr ?_)) rfl ?_
 refine ⟨⟨rfl,by omega,by rw [hdl];omega,by rw [hdl];omega⟩,?_⟩
 refine loop_w (fun j st=>∃ (d:Nat) (c:Bool),st=dp1St ND d c∧(c=true→d≤ND.length)∧(c=false→depN ND d=depN ND ND.length)∧j=ND.length + 2 - d) (ND.length + 2) (dp1St ND 0 true) (.frz 0 rfl rfl rfl rfl ?_) ⟨0,true,rfl,by omega,by simp,by omega⟩ ?_
 ·refine ⟨⟨_,rfl,ax⟩,⟨_,rfl,ms_n (by rw [depN_len,hdl];omega) (by omega) ?_⟩,⟨_,rfl,ax⟩,trivial⟩
  refine congrArg some ?_
  rw [repN,hdl]
  rfl
 rintro j st ⟨d,c,rfl,hc1,hc2,rfl⟩
 refine br (fun hc=>?_) (fun hc=>?_)
 ·have hc:c=true:=hc
  have hd:=hc1 hc
  refine ⟨⟨rfl,by omega,by rw [hdl];omega,by rw [hdl];omega⟩,?_⟩
  refine loop_i (fun j st=>∃ (e:Nat) (L:List Nat),st=dp2St ND d (chgB ND d e) L e∧e≤ND.length∧L.length=ND.length∧(∀ i:Nat,i < e→L.getD i 0=(depN ND (d + 1)).getD i 0)∧j=ND.length - e) ND.length (dp2St ND d false (List.replicate ((dNds ND).length:Int).toNat 0) 0) (weak_b 1 rfl (by repeat' (first | exact rfl | exact we_rfl rfl | exact weL_cN (repN _) | refine ⟨_,_,rfl,?_,?_⟩)) rfl rfl rfl (by repeat' (first | exact trivial | exact we_rfl rfl | exact weL_cN (repN _) | refine ⟨⟨_,rfl,?_⟩,?_⟩))) ⟨0,_,rfl,by omega,by rw [List.length_replicate,hdl];omega,fun i hi=>by omega,by omega⟩ ?_
  rintro j st ⟨e,L,rfl,he,hL,hLv,rfl⟩
  refine br (fun hlt=>?_) (fun hlt=>?_)
  ·have hlt:e < ND.length:=by have:=hlt;simp [hdl] at this;exact this
   obtain ⟨n,hn⟩:∃ n,ND[e]? = some n:=⟨_,List.getElem?_eq_getElem hlt⟩
   have hnm:=List.mem_of_getElem? hn
   have hle:=least19_spec (depN ND d) (by rw [depN_len];exact hnl) (n:=n) (by rw [depN_len];exact hok n hnm) (depN_small (by omega)) (hsz n hnm)
   refine ⟨_,⟨by omega,dNds_get hn⟩,?_⟩
   refine call_p en105 (hle) ax rfl ?_
   refine ⟨⟨by omega,by rw [hdl];omega⟩,?_⟩
   refine ⟨by rw [cN_len];omega,?_⟩
   refine drawG_i (fun _=>false) mo (by decide +kernel) ?_
   have hv:=depN_get ND d e
   rw [hn] at hv
   have hv:(depN ND (d + 1)).getD e 0=leastF n (depN ND d):=hv
   obtain ⟨z,hz⟩:∃ z,(depN ND d)[e]? = some z:=⟨_,List.getElem?_eq_getElem (by rw [depN_len];exact hlt)⟩
   have hzd:(depN ND d).getD e 0=z:=by rw [List.getD_eq_getElem?_getD,hz];rfl
   have hcs:=chgB_succ ND d e
   rw [hv,hzd] at hcs
   have hst:(cN L).set (0 + (e:Int).toNat * 1) (DV.v (.int .i64 ((leastF n (depN ND d):Nat):Int)))=cN (L.set e (leastF n (depN ND d))):=by
    rw [show 0 + (e:Int).toNat * 1=e by omega,cN_set]
   have hLs:∀ i:Nat,i < e + 1→(L.set e (leastF n (depN ND d))).getD i 0=(depN ND (d + 1)).getD i 0:=fun i hi=>by
    by_cases hie:i=e
    ·subst hie
     rw [hv,List.getD_eq_getElem?_getD,List.getElem?_set_self (by omega)];rfl
    ·rw [List.getD_eq_getElem?_getD,List.getElem?_set_ne (Ne.symm hie),← List.getD_eq_getElem?_getD]
     exact hLv i (by omega)
   refine br (fun g=>?_) (fun g=>?_)
   ·have g:chgB ND d e=false:=by simpa using g
    rw [g,Bool.false_or] at hcs
    have hld:(cN (L.set e (leastF n (depN ND d))))[0 + (e:Int).toNat * 1]? = some (DV.v (.int .i64 ((leastF n (depN ND d):Nat):Int))):=by
     rw [show 0 + (e:Int).toNat * 1=e by omega]
     exact cN_get (List.getElem?_set_self (by omega))
    refine ⟨⟨by omega,by rw [hdl];omega⟩,?_⟩
    rw [hst]
    refine ⟨_,hld,?_⟩
    refine ⟨_,⟨by omega,dInts_get hz⟩,?_⟩
    have hbo:(!decide (((leastF n (depN ND d):Nat):Int)=(z:Int)))=chgB ND d (e + 1):=by
     rw [hcs,Bool.eq_iff_iff];simp;omega
    exact ⟨dp2St ND d (chgB ND d (e + 1)) (L.set e (leastF n (depN ND d))) (e + 1),(weak_b 1 rfl (by repeat' (first | exact rfl | exact we_rfl rfl | exact weL_cN rfl | exact we_bool hbo | exact we_int (nxt hlt (by omega)) | refine ⟨_,_,rfl,?_,?_⟩)) rfl rfl rfl (by repeat' (first | exact trivial | exact we_rfl rfl | exact weL_cN rfl | exact we_bool hbo | exact we_int (nxt hlt (by omega)) | refine ⟨⟨_,rfl,?_⟩,?_⟩))),ND.length - (e + 1),by omega,e + 1,_,rfl,by omega,by rw [List.length_set];exact hL,hLs,rfl⟩
   ·have g:chgB ND d e=true:=by simpa using g
    rw [g,Bool.true_or] at hcs
    exact ⟨dp2St ND d (chgB ND d (e + 1)) (L.set e (leastF n (depN ND d))) (e + 1),(weak_b 1 rfl (by repeat' (first | exact rfl | exact we_rfl rfl | exact weL_cN hst | exact we_bool hcs.symm | exact we_int (nxt hlt (by omega)) | refine ⟨_,_,rfl,?_,?_⟩)) rfl rfl rfl (by repeat' (first | exact trivial | exact we_rfl rfl | exact weL_cN hst | exact we_bool hcs.symm | exact we_int (nxt hlt (by omega)) | refine ⟨⟨_,rfl,?_⟩,?_⟩))),ND.length - (e + 1),by omega,e + 1,_,rfl,by omega,by rw [List.length_set];exact hL,hLs,rfl⟩
  ·have hge:e=ND.length:=by have:=hlt;simp [hdl] at this;omega
   subst hge
   have hLL:L=depN ND (d + 1):=getD_ext (by rw [hL,depN_len]) fun j=>by
    rcases Nat.lt_or_ge j ND.length with hj | hj
    ·exact hLv j hj
    ·simp only [List.getD_eq_getElem?_getD]
     rw [List.getElem?_eq_none (by omega),List.getElem?_eq_none (by rw [depN_len];omega)]
   subst hLL
   refine ⟨dp1St ND (d + 1) (chgB ND d ND.length),.frz 0 rfl rfl rfl rfl ⟨⟨_,rfl,ax⟩,⟨_,rfl,ms_n (by rw [depN_len,hdl]) (by omega) rfl⟩,⟨_,rfl,ax⟩,trivial⟩,ND.length + 2 - (d + 1),by omega,d + 1,_,rfl,fun hcc=>?_,fun hcc=>depN_all (chgB_all.1 hcc),rfl⟩
   have:depN ND (d + 1)≠depN ND d:=fun h=>by rw [chgB_all.2 h] at hcc;cases hcc
   have:=depN_lt this
   omega
 ·have hc:c=false:=hc
  rw [hc2 hc]
  exact ⟨_,ax,rfl⟩
theorem PlanR.esz {S:Sch} {ND:List Nd} {PC:List DV} (hP:PlanR S ND PC):∀ n∈ND,n.edges.length≤1099511627776:=fun n hn=>by
 have h1:=hP.wt
 rw [hP.nds] at hn
 exact (resNds_sz hn h1).2
theorem depths_spec {S:Sch} {ND:List Nd} {PC:List DV} (hP:PlanR S ND PC):EvP Tryz.prog 43 [.pt PC 0] (.sl 1 (dInts (depN ND ND.length)) none):=
 depths_gen (nodes19_spec hP) hP.ok hP.nl hP.esz fun _ _ _ _=>ax
theorem nodes19_nil:EvP Tryz.prog 104 [.v (.pointer none)] (.sl 7 (dNds []) none):=by
 refine evp_nil ?_
 refine ev_go (P:=Tryz.prog) tt tt_ok 5000 24 [.tmp 2] Tryz.func104 rfl Tryz.ntmps104 rfl (Nat.le_of_ble_eq_true rfl) (fun E9 w9 hn9 hm9=>?_)
 refine call_p en28 (plen_nil) ax rfl ?_
 refine loop_i (fun j st=>st=⟨[(3,⟨[],.v (.slice none 0 0)⟩),(8,⟨[],.v (.int .i64 0)⟩),(9,⟨[],.v (.int .i64 0)⟩)],[],[]⟩) 0 ⟨[(3,⟨[],.v (.slice none 0 0)⟩),(8,⟨[],.v (.int .i64 0)⟩),(9,⟨[],.v (.int .i64 0)⟩)],[],[]⟩ (weak_mk ⟨_,rfl⟩ wA rfl rfl rfl wB) rfl ?_
 rintro j st rfl
 exact Or.inr ⟨rfl,rfl⟩
theorem depths_nil:EvP Tryz.prog 43 [.v (.pointer none)] (.sl 1 [] none):=
 depths_gen (L:=0) nodes19_nil (fun _ h=>by cases h) (by decide) (fun _ h=>by cases h) fun _ _ _ _=>ax
end Go.Proofs.YtmphiikdhifhjaaGreat
set_option maxRecDepth 100000
namespace Go.Proofs.YtmphiikdhifhjaaGreat
open Go Go.RowKit Dv Tryz
def exH (k:Int):Hd:=⟨k,0,0,0,0,[],⟨emptyB,0⟩⟩
def exR (c:UInt8):Ty:=.mk ⟨9,0,0,0,0,[],⟨⟨#[c]⟩,0⟩⟩ .nil
def exP (c:UInt8):Ph:=⟨⟨⟨#[c]⟩,0⟩,false,[],0,0,0,0,[]⟩
def exS19:Sch:=⟨[⟨⟨#[97]⟩,0⟩],[],[(⟨⟨#[116]⟩,0⟩,.mk (exH 7) (.cons (exP 120) (exR 116) .nil)),(⟨⟨#[117]⟩,0⟩,.mk (exH 7) (.cons (exP 120) (.mk (exH 6) (.cons zeroPh (exR 117) .nil)) .nil))],.mk (exH 1) .nil⟩
theorem ex19_fine:(resF exS19).1=0:=by decide +kernel
theorem ex19_dep:depN (resNds exS19) (resNds exS19).length=[0,2,1,1]:=by decide +kernel
abbrev sm12St (l:List Nat) (e:Nat):St:=⟨[(0,⟨[],.sl 1 (dInts l) none⟩),(1,⟨[],.sl 1 (dInts l) none⟩),(5,⟨[],.v (.int .i64 e)⟩)],[],[]⟩
theorem same12_spec (l:List Nat) (hl:l.length≤1099511627776):EvP Tryz.prog 42 [.sl 1 (dInts l) none,.sl 1 (dInts l) none] (.v (.bool true)):=by
 have hdl:=dInts_len l
 refine ev_go (P:=Tryz.prog) tt tt_ok 5000 26 [.tmp 4] Tryz.func42 rfl Tryz.ntmps42 rfl (Nat.le_of_ble_eq_true rfl) (fun E9 w9 hn9 hm9=>?_)
 refine br (fun g=>absurd g (by simp)) (fun _=>?_)
 refine loop_i (fun j st=>∃ e:Nat,st=sm12St l e∧e≤l.length∧j=l.length - e) l.length (sm12St l 0) (weak_mk ⟨_,rfl⟩ wA rfl rfl rfl wB) ⟨0,rfl,by omega,by omega⟩ ?_
 rintro j st ⟨e,rfl,he,rfl⟩
 refine br (fun hL=>?_) (fun hL=>?_)
 ·have hlt:e < l.length:=by have:=hL;simp [hdl] at this;exact this
  obtain ⟨x,hx⟩:∃ x,l[e]? = some x:=⟨_,List.getElem?_eq_getElem hlt⟩
  refine drawG_i (fun _=>false) mo (by decide +kernel) ?_
  refine ⟨_,⟨by omega,dInts_get hx⟩,_,⟨by omega,dInts_get hx⟩,?_⟩
  refine br (fun g=>absurd g (by simp)) (fun _=>?_)
  exact ⟨sm12St l (e + 1),(weak_mk ⟨_,rfl⟩ wA rfl rfl rfl (by repeat' (first | exact trivial | exact we_rfl rfl | exact we_int (nxt hlt (by omega)) | refine ⟨⟨_,rfl,?_⟩,?_⟩))),l.length - (e + 1),by omega,e + 1,rfl,by omega,rfl⟩
 exact (rfl:_=_)
def FineΦ (S:Sch) (r:DV):Prop:=∃ b:Bool,r = .v (.bool b)∧(b=true→(resF S).1=0)
theorem fine19_spec (S:Sch) (hS:S.wt≤1099511627776):Ev Tryz.prog 40 [.agg (dSch S)] [] [] (fun r _ _=>FineΦ S r):=by
 have ga:=great17_spec S hS
 have hwr:=wrong18_spec S hS
 unfold FineΦ
 generalize resF S=R at hwr ⊢
 obtain ⟨levels,order,types,⟨rh,rp⟩⟩:=S
 refine ev_go (P:=Tryz.prog) tt tt_ok 5000 12 [.tmp 2] Tryz.func40 rfl Tryz.ntmps40 rfl (Nat.le_of_ble_eq_true rfl) (fun E9 w9 hn9 hm9=>?_)
 refine call_e en19 rfl ga ax (fun r hr=>?_)
 obtain ⟨g,rfl⟩:=hr
 cases g with
 | true=>
  exact ⟨false,rfl,fun h=>by cases h⟩
 | false=>
  refine call_p en24 (hwr) ax rfl ?_
  refine ⟨_,ft_cmp _ _ R (0,0),?_⟩
  refine ⟨_,rfl,fun h=>?_⟩
  simp [pickB] at h
  exact h.1
theorem lives19_spec:EvP Tryz.prog 41 [] (.v (.bool true)):=by
 have hwt:exS19.wt≤1099511627776:=by decide +kernel
 have hb:=(build_spec exS19 hwt).mono (Ψ:=fun r _ _=>BuiltΦ exS19 r) fun _ _ _ h=>builtΦ_of hwt h
 refine ev_go (P:=Tryz.prog) tt tt_ok 5000 41 [.tmp 0] Tryz.func41 rfl Tryz.ntmps41 rfl (Nat.le_of_ble_eq_true rfl) (fun E9 w9 hn9 hm9=>?_)
 refine call_e en26 rfl hb ax (fun r hr=>?_)
 rcases hr with ⟨hr,_⟩ | ⟨_,PC,hP,rfl⟩
 ·exact (hr ex19_fine).elim
 have hd:=depths_spec hP
 rw [ex19_dep] at hd
 have hs:=same12_spec [0,2,1,1] (by decide)
 refine call_p en43 (hd) ax rfl ?_
 refine call_p en42 (hs) ax rfl ?_
 exact (rfl:_=_)
end Go.Proofs.YtmphiikdhifhjaaGreat
set_option maxRecDepth 100000
namespace Go.Proofs.YtmphiikdhifhjaaGreat
open Go Go.RowKit Dv Tryz
theorem there_spec {L:Nat} (D:List Nat) {x:Ed} (hx:EdOK L D.length x) :
  EvP Tryz.prog 159 [.agg (dEd x),.pt [.sl 1 (dInts D) none] 0] (.v (.bool (thB D x))):=by
 refine ev_go (P:=Tryz.prog) tt tt_ok 5000 14 [.tmp 3] Tryz.func159 rfl Tryz.ntmps159 rfl (Nat.le_of_ble_eq_true rfl) (fun E9 w9 hn9 hm9=>?_)
 refine br (fun hb=>?_) (fun hb=>?_)
 ·have hb:x.bare=false:=by simpa using hb
  obtain ⟨k,hk,hkl⟩:=hx.to1 hb
  obtain ⟨z,hz⟩:∃ z,D[k]? = some z:=⟨_,List.getElem?_eq_getElem hkl⟩
  refine ⟨_,⟨by omega,by rw [hk];exact dInts_get hz⟩,?_⟩
  refine (congrArg (fun b=>DV.v (.bool b)) ?_:_=_)
  simp [thB,hb,edN,hk,List.getD_eq_getElem?_getD,hz,pickB]
 ·have hb:x.bare=true:=by simpa using hb
  refine (congrArg (fun b=>DV.v (.bool b)) ?_:_=_)
  simp [thB,hb,pickB]
abbrev svSt (D:List Nat) (K:List Bool) (n:Nd) (m:Nat) (b:Bool) (e:Nat):St:=
 ⟨[(2,⟨[],.sl 1 (dBo K) none⟩),(3,⟨[],.loc 0 0⟩),(7,⟨[],.fn 159 [] [.loc 1 0]⟩),(8,⟨[],.v (.int .i64 m)⟩),(9,⟨[],.v (.bool b)⟩),(14,⟨[],.sl 10 (dEds n.edges) none⟩),(15,⟨[],.v (.int .i64 (dEds n.edges).length)⟩),(16,⟨[],.v (.int .i64 e)⟩)],[dNd n,[.sl 1 (dInts D) none]],[]⟩
theorem several_spec {L:Nat} {n:Nd} (D:List Nat) (K:List Bool) (hl:K.length=D.length) (hD:D.length≤1099511627776) (hn:NdOK L D.length n) (hel:n.edges.length≤1099511627776) :
  EvP Tryz.prog 107 [.agg (dNd n),.sl 1 (dInts D) none,.sl 1 (dBo K) none] (.v (.bool (sevF n D K))):=by
 have hedge:=hn.edge
 have hk1:=hn.k1
 have hk8:=hn.k8
 obtain ⟨kind,at',lo,hi,most,names,es⟩:=n
 simp only at hedge hel hk1 hk8
 refine ev_go (P:=Tryz.prog) tt tt_ok 5000 89 [.tmp 6] Tryz.func107 rfl Tryz.ntmps107 rfl (Nat.le_of_ble_eq_true rfl) (fun E9 w9 hn9 hm9=>?_)
 refine loop_i (fun j st=>∃ e:Nat,st=svSt D K ⟨kind,at',lo,hi,most,names,es⟩ (manyN D (es.take e)) (moreB D K (es.take e)) e∧e≤es.length∧j=es.length - e) es.length (svSt D K ⟨kind,at',lo,hi,most,names,es⟩ 0 false 0) (weak_mk ⟨_,rfl⟩ wA rfl rfl rfl wB) ⟨0,by simp [manyN,moreB],by omega,by omega⟩ ?_
 rintro j st ⟨e,rfl,he,rfl⟩
 refine br (fun hL=>?_) (fun hL=>?_)
 ·have hlt:e < es.length:=by have:=hL;simp [dEds_len] at this;exact this
  obtain ⟨x,hx⟩:∃ x,es[e]? = some x:=⟨_,List.getElem?_eq_getElem hlt⟩
  have hxo:=hedge x (List.mem_of_getElem? hx)
  have hth:=there_spec D hxo
  have hm:manyN D (es.take (e + 1))=manyN D (es.take e) + if thB D x=true then 1 else 0:=by
   rw [List.take_add_one,hx];simp [manyN,List.countP_cons]
  have hmo:moreB D K (es.take (e + 1))=(moreB D K (es.take e) || moB D K x):=by
   rw [List.take_add_one,hx];simp [moreB]
  have hml:manyN D (es.take e)≤e:=by
   have:manyN D (es.take e)≤(es.take e).length:=List.countP_le_length
   rw [List.length_take] at this;omega
  refine ⟨_,⟨by omega,dEds_get hx⟩,?_⟩
  refine call_bf en159 hth ax rfl rfl ?_
  refine br (fun ht=>?_) (fun ht=>?_)
  ·have ht:thB D x=true:=ht
   rw [if_pos ht] at hm
   have hw:IntKind.i64.wrap (((manyN D (es.take e):Nat):Int) + 1)=((manyN D (es.take (e + 1)):Nat):Int):=by rw [hm,wrap64 (by omega) (by omega)];omega
   have hb2:moB D K x=(!x.bare && K.getD x.to.toNat false):=by unfold moB;rw [ht,Bool.true_and]
   rw [hb2] at hmo
   refine br (fun g1=>?_) (fun g1=>?_)
   ·have g1:moreB D K (es.take e)=false:=by simpa [lastG] using g1
    refine br (fun g2=>?_) (fun g2=>?_)
    ·have g2:x.bare=false:=by simpa using g2
     obtain ⟨k,hk,hkl⟩:=hxo.to1 g2
     obtain ⟨z,hz⟩:∃ z,K[k]? = some z:=⟨_,List.getElem?_eq_getElem (by omega)⟩
     refine ⟨_,⟨by omega,by rw [hk];exact dBo_get hz⟩,?_⟩
     have e9:z=moreB D K (es.take (e + 1)):=by rw [hmo,g1,g2,hk];simp [List.getD_eq_getElem?_getD,hz]
     exact ⟨svSt D K ⟨kind,at',lo,hi,most,names,es⟩ (manyN D (es.take (e + 1))) (moreB D K (es.take (e + 1))) (e + 1),(weak_mk ⟨_,rfl⟩ wA rfl rfl rfl (by repeat' (first | exact trivial | exact we_rfl rfl | exact we_int hw | exact we_bool e9 | exact we_int (nxt hlt (by omega)) | refine ⟨⟨_,rfl,?_⟩,?_⟩))),es.length - (e + 1),by omega,e + 1,rfl,by omega,rfl⟩
    ·have g2:x.bare=true:=by simpa using g2
     have e9:false=moreB D K (es.take (e + 1)):=by rw [hmo,g1,g2];rfl
     exact ⟨svSt D K ⟨kind,at',lo,hi,most,names,es⟩ (manyN D (es.take (e + 1))) (moreB D K (es.take (e + 1))) (e + 1),(weak_mk ⟨_,rfl⟩ wA rfl rfl rfl (by repeat' (first | exact trivial | exact we_rfl rfl | exact we_int hw | exact we_bool e9 | exact we_int (nxt hlt (by omega)) | refine ⟨⟨_,rfl,?_⟩,?_⟩))),es.length - (e + 1),by omega,e + 1,rfl,by omega,rfl⟩
   ·have g1:moreB D K (es.take e)=true:=by simpa [lastG] using g1
    have e9:true=moreB D K (es.take (e + 1)):=by rw [hmo,g1];rfl
    exact ⟨svSt D K ⟨kind,at',lo,hi,most,names,es⟩ (manyN D (es.take (e + 1))) (moreB D K (es.take (e + 1))) (e + 1),(weak_mk ⟨_,rfl⟩ wA rfl rfl rfl (by repeat' (first | exact trivial | exact we_rfl rfl | exact we_int hw | exact we_bool e9 | exact we_int (nxt hlt (by omega)) | refine ⟨⟨_,rfl,?_⟩,?_⟩))),es.length - (e + 1),by omega,e + 1,rfl,by omega,rfl⟩
  ·have ht:thB D x=false:=ht
   rw [if_neg (by rw [ht];simp),Nat.add_zero] at hm
   have hb2:moB D K x=false:=by unfold moB;rw [ht];rfl
   rw [hb2,Bool.or_false] at hmo
   exact ⟨svSt D K ⟨kind,at',lo,hi,most,names,es⟩ (manyN D (es.take (e + 1))) (moreB D K (es.take (e + 1))) (e + 1),(weak_mk ⟨_,rfl⟩ wA rfl rfl rfl (by repeat' (first | exact trivial | exact we_rfl rfl | exact we_int (congrArg Nat.cast hm.symm) | exact we_bool hmo.symm | exact we_int (nxt hlt (by omega)) | refine ⟨⟨_,rfl,?_⟩,?_⟩))),es.length - (e + 1),by omega,e + 1,rfl,by omega,rfl⟩
 ·have hge:e=es.length:=by have:=hL;simp [dEds_len] at this;omega
  subst hge
  rw [List.take_length]
  refine br (fun c1=>?_) (fun c1=>?_)
  ·have c1:kind=1:=by simpa using c1
   refine (congrArg (fun b=>DV.v (.bool b)) ?_:_=_)
   simp [sevF,c1]
  have c1:¬ kind=1:=by simpa using c1
  refine br (fun c2=>?_) (fun c2=>?_)
  ·have c2:kind=2:=by simpa using c2
   refine (congrArg (fun b=>DV.v (.bool b)) ?_:_=_)
   simp [sevF,c2]
  have c2:¬ kind=2:=by simpa using c2
  refine br (fun c3=>?_) (fun c3=>?_)
  ·have c3:kind=3:=by simpa using c3
   refine (congrArg (fun b=>DV.v (.bool b)) ?_:_=_)
   simp [sevF,c3]
  have c3:¬ kind=3:=by simpa using c3
  refine br (fun c4=>?_) (fun c4=>?_)
  ·have c4:kind=4:=by simpa using c4
   refine (congrArg (fun b=>DV.v (.bool b)) ?_:_=_)
   simp [sevF,c4,dBs_len]
   omega
  have c4:¬ kind=4:=by simpa using c4
  refine br (fun c5=>?_) (fun c5=>?_)
  ·have c5:kind=5:=by simpa using c5
   refine (congrArg (fun b=>DV.v (.bool b)) ?_:_=_)
   simp [sevF,c5,pickB_and]
  have c5:¬ kind=5:=by simpa using c5
  refine br (fun c6=>?_) (fun c6=>?_)
  ·have c6:kind=6:=by simpa using c6
   refine (congrArg (fun b=>DV.v (.bool b)) ?_:_=_)
   simp [sevF,c6]
  have c6:¬ kind=6:=by simpa using c6
  refine br (fun c7=>?_) (fun c7=>?_)
  ·have c7:kind=7:=by simpa using c7
   refine (congrArg (fun b=>DV.v (.bool b)) ?_:_=_)
   rw [Bool.eq_iff_iff]
   simp [sevF,c7,pickB_and,dEds_len]
   omega
  have c7:¬ kind=7:=by simpa using c7
  refine (congrArg (fun b=>DV.v (.bool b)) ?_:_=_)
  rw [Bool.eq_iff_iff]
  have hc1:(1 < ((manyN D es:Nat):Int))↔1 < manyN D es:=by omega
  simp [sevF,c1,c2,c3,c4,c5,c6,c7,pickB_or,hc1]
abbrev sv1St (ND:List Nd) (D:List Nat) (K:List Bool) (c:Bool):St:=
 ⟨[(3,⟨[],.sl 7 (dNds ND) none⟩),(4,⟨[],.sl 1 (dInts D) none⟩),(5,⟨[],.ms 0 1 0 (dNds ND).length (dNds ND).length⟩),(6,⟨[],.v (.bool c)⟩)],[cB K],[]⟩
abbrev sv2St (ND:List Nd) (D:List Nat) (K:List Bool) (c:Bool) (e:Nat):St:=
 ⟨[(3,⟨[],.sl 7 (dNds ND) none⟩),(4,⟨[],.sl 1 (dInts D) none⟩),(5,⟨[],.ms 0 1 0 (dNds ND).length (dNds ND).length⟩),(6,⟨[],.v (.bool c)⟩),(17,⟨[],.sl 7 (dNds ND) none⟩),(18,⟨[],.v (.int .i64 (dNds ND).length)⟩),(19,⟨[],.v (.int .i64 e)⟩)],[cB K],[]⟩
theorem severals_gen {L:Nat} {ND:List Nd} {p:DV} (h0:EvP Tryz.prog 104 [p] (.sl 7 (dNds ND) none)) (h1:EvP Tryz.prog 43 [p] (.sl 1 (dInts (depN ND ND.length)) none)) (hok:∀ n∈ND,NdOK L ND.length n) (hnl:ND.length≤1099511627776) (hsz:∀ n∈ND,n.edges.length≤1099511627776) (hcc:∀ bx N n m,Cc bx N n m p p) :
  EvP Tryz.prog 46 [p] (.sl 1 (dBo (sevS ND (depN ND ND.length))) none):=by
 have hdl:=dNds_len ND
 have hl:=depN_len ND ND.length
 generalize depN ND ND.length=D at h1 hl ⊢
 refine ev_go (P:=Tryz.prog) tt tt_ok 5000 40 [.tmp 2] Tryz.func46 rfl Tryz.ntmps46 rfl (Nat.le_of_ble_eq_true rfl) (fun E9 w9 hn9 hm9=>?_)
 refine call_p en104 (h0) (by repeat' (first | exact rfl | exact trivial | exact Or.inr (Or.inl ⟨_,rfl⟩) | exact Or.inr ⟨_,rfl⟩ | exact Or.inl ⟨rfl,rfl⟩ | exact Or.inl rfl | refine Or.inr ⟨_,_,rfl,Nat.zero_le _,rfl,?_⟩ | refine ⟨_,_,rfl,?_,?_⟩ | refine ⟨_,rfl,?_⟩ | exact hcc _ _ _ _| refine Or.inr (Or.inr (Or.inr ⟨_,_,rfl,?_⟩)) | exact Or.inl rfl | refine Or.inr ?_)) rfl ?_
 refine call_p en43 (h1) (by repeat' (first | exact rfl | exact trivial | exact Or.inr (Or.inl ⟨_,rfl⟩) | exact Or.inr ⟨_,rfl⟩ | exact Or.inl ⟨rfl,rfl⟩ | exact Or.inl rfl | refine Or.inr ⟨_,_,rfl,Nat.zero_le _,rfl,?_⟩ | refine ⟨_,_,rfl,?_,?_⟩ | refine ⟨_,rfl,?_⟩ | exact hcc _ _ _ _| refine Or.inr (Or.inr (Or.inr ⟨_,_,rfl,?_⟩)) | exact Or.inl rfl | refine Or.inr ?_)) rfl ?_
 refine ⟨⟨rfl,by omega,by rw [hdl];omega,by rw [hdl];omega⟩,?_⟩
 refine loop_i (fun j st=>∃ (K:List Bool) (c:Bool),st=sv1St ND D K c∧K.length=ND.length∧LeB K (sevS ND D)∧(c=false→∀ j n,ND[j]? = some n→sevF n D K=true→K.getD j false=true)∧j=ND.length - cntB K + if c=true then 1 else 0) (ND.length + 1) (sv1St ND D (List.replicate ((dNds ND).length:Int).toNat false) true) (weak_b 1 rfl (by repeat' (first | exact rfl | exact we_rfl rfl | exact weL_cB (repB _) | refine ⟨_,_,rfl,?_,?_⟩)) rfl rfl rfl (by repeat' (first | exact trivial | exact we_rfl rfl | exact weL_cB (repB _) | refine ⟨⟨_,rfl,?_⟩,?_⟩))) ⟨_,_,rfl,?_,?_,by simp,?_⟩ ?_
 ·rw [List.length_replicate,hdl];omega
 ·intro j hj
  rw [List.getD_eq_getElem?_getD,List.getElem?_replicate] at hj
  split at hj<;>cases hj
 ·have:cntB (List.replicate ((dNds ND).length:Int).toNat false)=0:=by unfold cntB;rw [List.countP_replicate];simp
  rw [this];simp
 rintro j st ⟨K,c,rfl,hK,hle,hcl,rfl⟩
 refine br (fun hc=>?_) (fun hc=>?_)
 ·have hc:c=true:=hc
  subst hc
  refine loop_i (fun j st=>∃ (e:Nat) (K':List Bool) (c':Bool),st=sv2St ND D K' c' e∧e≤ND.length∧K'.length=ND.length∧LeB K' (sevS ND D)∧(c'=true→cntB K < cntB K')∧(c'=false→K'=K∧∀ i n,i < e→ND[i]? = some n→sevF n D K=true→K.getD i false=true)∧j=ND.length - e) ND.length (sv2St ND D K false 0) (weak_b 1 rfl (by repeat' (first | exact rfl | exact we_rfl rfl | exact weL_cB rfl | refine ⟨_,_,rfl,?_,?_⟩)) rfl rfl rfl (by repeat' (first | exact trivial | exact we_rfl rfl | exact weL_cB rfl | refine ⟨⟨_,rfl,?_⟩,?_⟩))) ⟨0,K,false,rfl,by omega,hK,hle,by simp,fun _=>⟨rfl,fun i _ hi=>by omega⟩,by omega⟩ ?_
  rintro j st ⟨e,K',c',rfl,he,hK',hle',ht,hf,rfl⟩
  refine br (fun hL=>?_) (fun hL=>?_)
  ·have hlt:e < ND.length:=by have:=hL;simp [hdl] at this;exact this
   obtain ⟨n,hn⟩:∃ n,ND[e]? = some n:=⟨_,List.getElem?_eq_getElem hlt⟩
   have hnm:=List.mem_of_getElem? hn
   obtain ⟨b,hb⟩:∃ b,K'[e]? = some b:=⟨_,List.getElem?_eq_getElem (by omega)⟩
   have hsv:=several_spec D K' (by omega) (by omega) (n:=n) (by rw [hl];exact hok n hnm) (hsz n hnm)
   refine ⟨_,⟨by omega,dNds_get hn⟩,?_⟩
   refine ⟨⟨by omega,by rw [hdl];omega⟩,?_⟩
   refine ⟨DV.v (.bool b),(by rw [show 0 + (e:Int).toNat * 1=e by omega];exact cB_get hb),?_⟩
   have hgd:K'.getD e false=b:=by rw [List.getD_eq_getElem?_getD,hb];rfl
   have hcd:cntB K≤cntB K':=by
    cases c' with
    | true=>have:=ht rfl;omega
    | false=>rw [(hf rfl).1];omega
   refine br (fun g=>?_) (fun g=>?_)
   ·have g:b=false:=by simpa using g
    refine call_bf en107 hsv ⟨_,_,rfl,ax,_,_,rfl,ax,_,_,rfl,ms_b (by rw [hK',hdl]) (Nat.le_refl _) rfl,rfl⟩ rfl rfl ?_
    refine br (fun g2=>?_) (fun g2=>?_)
    ·have g2:sevF n D K'=true:=by simpa [pickB,pickD] using g2
     refine ⟨⟨by omega,by rw [hdl];omega⟩,?_⟩
     refine ⟨by rw [cB_len];omega,?_⟩
     have hst:(cB K').set (0 + (e:Int).toNat * 1) (DV.v (.bool true))=cB (K'.set e true):=by
      rw [show 0 + (e:Int).toNat * 1=e by omega,cB_set]
     have hcs:=cntB_set (K:=K') (i:=e) (by omega) (by rw [hgd];exact g)
     exact ⟨sv2St ND D (K'.set e true) true (e + 1),(weak_b 1 rfl (by repeat' (first | exact rfl | exact we_rfl rfl | exact weL_cB hst | exact we_int (nxt hlt (by omega)) | refine ⟨_,_,rfl,?_,?_⟩)) rfl rfl rfl (by repeat' (first | exact trivial | exact we_rfl rfl | exact weL_cB hst | exact we_int (nxt hlt (by omega)) | refine ⟨⟨_,rfl,?_⟩,?_⟩))),ND.length - (e + 1),by omega,e + 1,_,true,rfl,by omega,by rw [List.length_set];exact hK',sevS_set hle' hn g2,fun _=>by omega,fun h=>(by cases h),rfl⟩
    ·have g2:sevF n D K'=false:=by simpa [pickB,pickD] using g2
     refine ⟨sv2St ND D K' c' (e + 1),(weak_b 1 rfl (by repeat' (first | exact rfl | exact we_rfl rfl | exact weL_cB rfl | exact we_int (nxt hlt (by omega)) | refine ⟨_,_,rfl,?_,?_⟩)) rfl rfl rfl (by repeat' (first | exact trivial | exact we_rfl rfl | exact weL_cB rfl | exact we_int (nxt hlt (by omega)) | refine ⟨⟨_,rfl,?_⟩,?_⟩))),ND.length - (e + 1),by omega,e + 1,K',c',rfl,by omega,hK',hle',ht,fun hc=>⟨(hf hc).1,fun i m hi hm hs=>?_⟩,rfl⟩
     rcases Nat.lt_succ_iff_lt_or_eq.1 hi with hi | rfl
     ·exact (hf hc).2 i m hi hm hs
     ·rw [hn] at hm
      cases hm
      rw [(hf hc).1] at g2
      rw [g2] at hs;cases hs
   ·have g:b=true:=by simpa using g
    refine ⟨sv2St ND D K' c' (e + 1),(weak_b 1 rfl (by repeat' (first | exact rfl | exact we_rfl rfl | exact weL_cB rfl | exact we_int (nxt hlt (by omega)) | refine ⟨_,_,rfl,?_,?_⟩)) rfl rfl rfl (by repeat' (first | exact trivial | exact we_rfl rfl | exact weL_cB rfl | exact we_int (nxt hlt (by omega)) | refine ⟨⟨_,rfl,?_⟩,?_⟩))),ND.length - (e + 1),by omega,e + 1,K',c',rfl,by omega,hK',hle',ht,fun hc=>⟨(hf hc).1,fun i m hi hm hs=>?_⟩,rfl⟩
    rcases Nat.lt_succ_iff_lt_or_eq.1 hi with hi | rfl
    ·exact (hf hc).2 i m hi hm hs
    ·rw [← (hf hc).1,hgd];exact g
  ·have hge:e=ND.length:=by have:=hL;simp [hdl] at this;omega
   subst hge
   have hcn:=cntB_le K'
   refine ⟨sv1St ND D K' c',(weak_mk ⟨_,rfl⟩ (by repeat' (first | exact rfl | exact we_rfl rfl | exact weL_cB rfl | refine ⟨_,_,rfl,?_,?_⟩)) rfl rfl rfl (by repeat' (first | exact trivial | exact we_rfl rfl | exact weL_cB rfl | refine ⟨⟨_,rfl,?_⟩,?_⟩))),ND.length - cntB K' + (if c'=true then 1 else 0),?_,K',c',rfl,hK',hle',?_,rfl⟩
   ·cases c' with
    | true=>have:=ht rfl;simp;omega
    | false=>rw [(hf rfl).1];simp
   ·intro hcf j n hn hs
    obtain ⟨h2,h3⟩:=hf hcf
    subst h2
    exact h3 j n (List.getElem?_eq_some_iff.1 hn).1 hn hs
 ·have hc:c=false:=hc
  rw [← sevS_eq hK hle (hcl hc)]
  exact ⟨_,ms_b (by rw [hK,hdl]) (Nat.zero_le _) rfl,rfl⟩
theorem severals_spec {S:Sch} {ND:List Nd} {PC:List DV} (hP:PlanR S ND PC):EvP Tryz.prog 46 [.pt PC 0] (.sl 1 (dBo (sevS ND (depN ND ND.length))) none):=
 severals_gen (nodes19_spec hP) (depths_spec hP) hP.ok hP.nl hP.esz fun _ _ _ _=>ax
theorem severals_nil:EvP Tryz.prog 46 [.v (.pointer none)] (.sl 1 [] none):=
 severals_gen (L:=0) nodes19_nil depths_nil (fun _ h=>by cases h) (by decide) (fun _ h=>by cases h) fun _ _ _ _=>ax
end Go.Proofs.YtmphiikdhifhjaaGreat
set_option maxRecDepth 100000
namespace Go.Proofs.YtmphiikdhifhjaaGreat
open Go Go.RowKit Dv Tryz
theorem cut_spec (z:Nat):EvP Tryz.prog 160 [.v (.int .i64 z)] (.v (.int .i64 (cutN z:Nat))):=by
 refine ev_go (P:=Tryz.prog) tt tt_ok 5000 6 [.tmp 2] Tryz.func160 rfl Tryz.ntmps160 rfl (Nat.le_of_ble_eq_true rfl) (fun E9 w9 hn9 hm9=>?_)
 refine br (fun h=>?_) (fun h=>?_)
 ·have h:2 < z:=by have:=h;simp at this;omega
  refine (congrArg (fun z=>DV.v (.int .i64 z)) ?_:_=_)
  unfold cutN
  rw [if_pos h];rfl
 ·have h:¬ 2 < z:=by have:=h;simp at this;omega
  refine (congrArg (fun z=>DV.v (.int .i64 z)) ?_:_=_)
  unfold cutN
  rw [if_neg h]
theorem sumC_snoc (K:List Nat):∀ (es:List Ed) (a:Nat) (e:Ed),sumC K (es ++ [e]) a=cutN (sumC K es a + valE K e)
 | [],a,e=>rfl
 | x :: r,a,e=>by rw [List.cons_append,sumC,sumC,sumC_snoc K r]
theorem allC_snoc (K:List Nat):∀ (es:List Ed) (a:Nat) (e:Ed),allC K (es ++ [e]) a=cutN (allC K es a * valE K e)
 | [],a,e=>rfl
 | x :: r,a,e=>by rw [List.cons_append,allC,allC,allC_snoc K r]
theorem cutN_le (n:Nat):cutN n≤2:=by unfold cutN;split<;>omega
theorem sumC_le (K:List Nat):∀ (es:List Ed) (a:Nat),a≤2→sumC K es a≤2
 | [],a,h=>h
 | e :: r,a,_=>by rw [sumC];exact sumC_le K r _ (cutN_le _)
theorem allC_le (K:List Nat):∀ (es:List Ed) (a:Nat),a≤2→allC K es a≤2
 | [],a,h=>h
 | e :: r,a,_=>by rw [allC];exact allC_le K r _ (cutN_le _)
abbrev coSt (K:List Nat) (n:Nd) (s a e:Nat):St:=
 ⟨[(1,⟨[],.sl 1 (dInts K) none⟩),(2,⟨[],.loc 0 0⟩),(5,⟨[],.v (.int .i64 s)⟩),(6,⟨[],.v (.int .i64 a)⟩),(7,⟨[],.v (.int .i64 e)⟩)],[dNd n],[]⟩
theorem count19_spec {L:Nat} {n:Nd} (K:List Nat) (hK:K.length≤1099511627776) (hz:∀ z∈K,z≤2) (hn:NdOK L K.length n) (hel:n.edges.length≤1099511627776) (hnl:n.names.length≤1099511627776) :
  EvP Tryz.prog 108 [.agg (dNd n),.sl 1 (dInts K) none] (.v (.int .i64 (countF n K:Nat))):=by
 have hedge:=hn.edge
 have hm3:=hn.most3
 have hm5:=hn.most5
 obtain ⟨kind,at',lo,hi,most,names,es⟩:=n
 simp only at hedge hel hm3 hm5 hnl
 have hbl:=dBs_len names
 refine ev_go (P:=Tryz.prog) tt tt_ok 5000 80 [.tmp 4] Tryz.func108 rfl Tryz.ntmps108 rfl (Nat.le_of_ble_eq_true rfl) (fun E9 w9 hn9 hm9=>?_)
 refine loop_i (fun j st=>∃ e:Nat,st=coSt K ⟨kind,at',lo,hi,most,names,es⟩ (sumC K (es.take e) 0) (allC K (es.take e) 1) e∧e≤es.length∧j=es.length - e) es.length (coSt K ⟨kind,at',lo,hi,most,names,es⟩ 0 1 0) (weak_mk ⟨_,rfl⟩ wA rfl rfl rfl wB) ⟨0,rfl,by omega,by omega⟩ ?_
 rintro j st ⟨e,rfl,he,rfl⟩
 have hs2:=sumC_le K (es.take e) 0 (by omega)
 have ha2:=allC_le K (es.take e) 1 (by omega)
 refine br (fun hL=>?_) (fun hL=>?_)
 ·have hlt:e < es.length:=by have:=hL;simp [dEds_len] at this;exact this
  obtain ⟨x,hx⟩:∃ x,es[e]? = some x:=⟨_,List.getElem?_eq_getElem hlt⟩
  have hxo:=hedge x (List.mem_of_getElem? hx)
  have htk:es.take (e + 1)=es.take e ++ [x]:=by rw [List.take_add_one,hx];rfl
  have hs:=sumC_snoc K (es.take e) 0 x
  have ha:=allC_snoc K (es.take e) 1 x
  rw [← htk] at hs ha
  generalize sumC K (es.take e) 0=s at hs hs2 ⊢
  generalize allC K (es.take e) 1=a at ha ha2 ⊢
  refine ⟨_,⟨by omega,dEds_get hx⟩,?_⟩
  refine br (fun hb=>?_) (fun hb=>?_)
  ·have hb:x.bare=false:=by simpa using hb
   obtain ⟨k,hk,hkl⟩:=hxo.to1 hb
   obtain ⟨z,hz1⟩:∃ z,K[k]? = some z:=⟨_,List.getElem?_eq_getElem hkl⟩
   have hv:valE K x=z:=by simp [valE,hb,edN,hk,List.getD_eq_getElem?_getD,hz1]
   have hz2:=hz z (List.mem_of_getElem? hz1)
   rw [hv] at hs ha
   refine ⟨_,⟨by omega,dEds_get hx⟩,?_⟩
   refine ⟨_,⟨by omega,by rw [hk];exact dInts_get hz1⟩,?_⟩
   have hw1:IntKind.i64.wrap ((s:Int) + (z:Int))=((s + z:Nat):Int):=by rw [wrap64 (by omega) (by omega)];omega
   have hm2:a * z≤4:=Nat.le_trans (Nat.mul_le_mul ha2 hz2) (by omega)
   have hc2:(a:Int) * (z:Int)=((a * z:Nat):Int):=by push_cast;rfl
   have hw2:IntKind.i64.wrap ((a:Int) * (z:Int))=((a * z:Nat):Int):=by rw [hc2,wrap64 (by omega) (by omega)]
   have e1:((cutN (s + z):Nat):Int)=((sumC K (es.take (e + 1)) 0:Nat):Int):=by rw [hs]
   have e2:((cutN (a * z):Nat):Int)=((allC K (es.take (e + 1)) 1:Nat):Int):=by rw [ha]
   refine call_p en160 (cut_spec (s + z)) (by repeat' (first | exact rfl | exact trivial | exact Or.inr (Or.inl ⟨_,rfl⟩) | exact Or.inr ⟨_,rfl⟩ | exact Or.inl ⟨rfl,rfl⟩ | exact Or.inl rfl | refine Or.inr ⟨_,_,rfl,Nat.zero_le _,rfl,?_⟩ | refine ⟨_,_,rfl,?_,?_⟩ | refine ⟨_,rfl,?_⟩ | exact congrArg (fun z=>DV.v (.int .i64 z)) hw1| refine Or.inr (Or.inr (Or.inr ⟨_,_,rfl,?_⟩)) | exact Or.inl rfl | refine Or.inr ?_)) rfl ?_
   refine call_p en160 (cut_spec (a * z)) (by repeat' (first | exact rfl | exact trivial | exact Or.inr (Or.inl ⟨_,rfl⟩) | exact Or.inr ⟨_,rfl⟩ | exact Or.inl ⟨rfl,rfl⟩ | exact Or.inl rfl | refine Or.inr ⟨_,_,rfl,Nat.zero_le _,rfl,?_⟩ | refine ⟨_,_,rfl,?_,?_⟩ | refine ⟨_,rfl,?_⟩ | exact congrArg (fun z=>DV.v (.int .i64 z)) hw2| refine Or.inr (Or.inr (Or.inr ⟨_,_,rfl,?_⟩)) | exact Or.inl rfl | refine Or.inr ?_)) rfl ?_
   exact ⟨coSt K ⟨kind,at',lo,hi,most,names,es⟩ (sumC K (es.take (e + 1)) 0) (allC K (es.take (e + 1)) 1) (e + 1),(weak_mk ⟨_,rfl⟩ wA rfl rfl rfl (by repeat' (first | exact trivial | exact we_rfl rfl | exact we_int e1 | exact we_int e2 | exact we_int (nxt hlt (by omega)) | refine ⟨⟨_,rfl,?_⟩,?_⟩))),es.length - (e + 1),by omega,e + 1,rfl,by omega,rfl⟩
  ·have hb:x.bare=true:=by simpa using hb
   have hv:valE K x=1:=by simp [valE,hb]
   rw [hv] at hs ha
   have hw1:IntKind.i64.wrap ((s:Int) + 1)=((s + 1:Nat):Int):=by rw [wrap64 (by omega) (by omega)];omega
   have hm2:a * 1≤4:=Nat.le_trans (Nat.mul_le_mul ha2 (show 1≤2 by omega)) (by omega)
   have hc2:(a:Int) * 1=((a * 1:Nat):Int):=by push_cast;rfl
   have hw2:IntKind.i64.wrap ((a:Int) * 1)=((a * 1:Nat):Int):=by rw [hc2,wrap64 (by omega) (by omega)]
   have e1:((cutN (s + 1):Nat):Int)=((sumC K (es.take (e + 1)) 0:Nat):Int):=by rw [hs]
   have e2:((cutN (a * 1):Nat):Int)=((allC K (es.take (e + 1)) 1:Nat):Int):=by rw [ha]
   refine call_p en160 (cut_spec (s + 1)) (by repeat' (first | exact rfl | exact trivial | exact Or.inr (Or.inl ⟨_,rfl⟩) | exact Or.inr ⟨_,rfl⟩ | exact Or.inl ⟨rfl,rfl⟩ | exact Or.inl rfl | refine Or.inr ⟨_,_,rfl,Nat.zero_le _,rfl,?_⟩ | refine ⟨_,_,rfl,?_,?_⟩ | refine ⟨_,rfl,?_⟩ | exact congrArg (fun z=>DV.v (.int .i64 z)) hw1| refine Or.inr (Or.inr (Or.inr ⟨_,_,rfl,?_⟩)) | exact Or.inl rfl | refine Or.inr ?_)) rfl ?_
   refine call_p en160 (cut_spec (a * 1)) (by repeat' (first | exact rfl | exact trivial | exact Or.inr (Or.inl ⟨_,rfl⟩) | exact Or.inr ⟨_,rfl⟩ | exact Or.inl ⟨rfl,rfl⟩ | exact Or.inl rfl | refine Or.inr ⟨_,_,rfl,Nat.zero_le _,rfl,?_⟩ | refine ⟨_,_,rfl,?_,?_⟩ | refine ⟨_,rfl,?_⟩ | exact congrArg (fun z=>DV.v (.int .i64 z)) hw2| refine Or.inr (Or.inr (Or.inr ⟨_,_,rfl,?_⟩)) | exact Or.inl rfl | refine Or.inr ?_)) rfl ?_
   exact ⟨coSt K ⟨kind,at',lo,hi,most,names,es⟩ (sumC K (es.take (e + 1)) 0) (allC K (es.take (e + 1)) 1) (e + 1),(weak_mk ⟨_,rfl⟩ wA rfl rfl rfl (by repeat' (first | exact trivial | exact we_rfl rfl | exact we_int e1 | exact we_int e2 | exact we_int (nxt hlt (by omega)) | refine ⟨⟨_,rfl,?_⟩,?_⟩))),es.length - (e + 1),by omega,e + 1,rfl,by omega,rfl⟩
 ·have hge:e=es.length:=by have:=hL;simp [dEds_len] at this;omega
  subst hge
  rw [List.take_length] at hs2 ha2 ⊢
  refine br (fun c1=>?_) (fun c1=>?_)
  ·have c1:kind=1:=by simpa using c1
   refine (congrArg (fun z=>DV.v (.int .i64 z)) ?_:_=_)
   simp [countF,c1]
  have c1:¬ kind=1:=by simpa using c1
  refine br (fun c2=>?_) (fun c2=>?_)
  ·have c2:kind=2:=by simpa using c2
   refine br (fun g=>?_) (fun g=>?_)
   ·have g:lo < hi:=by simpa using g
    refine (congrArg (fun z=>DV.v (.int .i64 z)) ?_:_=_)
    simp [countF,c2,g]
   ·have g:¬ lo < hi:=by simpa using g
    refine (congrArg (fun z=>DV.v (.int .i64 z)) ?_:_=_)
    simp [countF,c2,g]
  have c2:¬ kind=2:=by simpa using c2
  refine br (fun c3=>?_) (fun c3=>?_)
  ·have c3:kind=3:=by simpa using c3
   have hm:=hm3 c3
   have hw:IntKind.i64.wrap (1 + most)=((1 + most.toNat:Nat):Int):=by rw [wrap64 (by omega) (by omega)];omega
   refine call_p en160 (cut_spec (1 + most.toNat)) (by repeat' (first | exact rfl | exact trivial | exact Or.inr (Or.inl ⟨_,rfl⟩) | exact Or.inr ⟨_,rfl⟩ | exact Or.inl ⟨rfl,rfl⟩ | exact Or.inl rfl | refine Or.inr ⟨_,_,rfl,Nat.zero_le _,rfl,?_⟩ | refine ⟨_,_,rfl,?_,?_⟩ | refine ⟨_,rfl,?_⟩ | exact congrArg (fun z=>DV.v (.int .i64 z)) hw| refine Or.inr (Or.inr (Or.inr ⟨_,_,rfl,?_⟩)) | exact Or.inl rfl | refine Or.inr ?_)) rfl ?_
   refine (congrArg (fun z=>DV.v (.int .i64 z)) ?_:_=_)
   simp [countF,c3]
  have c3:¬ kind=3:=by simpa using c3
  refine br (fun c4=>?_) (fun c4=>?_)
  ·have c4:kind=4:=by simpa using c4
   refine call_p en160 (cut_spec names.length) (by repeat' (first | exact rfl | exact trivial | exact Or.inr (Or.inl ⟨_,rfl⟩) | exact Or.inr ⟨_,rfl⟩ | exact Or.inl ⟨rfl,rfl⟩ | exact Or.inl rfl | refine Or.inr ⟨_,_,rfl,Nat.zero_le _,rfl,?_⟩ | refine ⟨_,_,rfl,?_,?_⟩ | refine ⟨_,rfl,?_⟩ | exact congrArg (fun z=>DV.v (.int .i64 z)) (congrArg Nat.cast hbl)| refine Or.inr (Or.inr (Or.inr ⟨_,_,rfl,?_⟩)) | exact Or.inl rfl | refine Or.inr ?_)) rfl ?_
   refine (congrArg (fun z=>DV.v (.int .i64 z)) ?_:_=_)
   simp [countF,c4]
  have c4:¬ kind=4:=by simpa using c4
  refine br (fun c5=>?_) (fun c5=>?_)
  ·have c5:kind=5:=by simpa using c5
   have hw:IntKind.i64.wrap (1 + ((sumC K es 0:Nat):Int))=((1 + sumC K es 0:Nat):Int):=by rw [wrap64 (by omega) (by omega)];omega
   refine br (fun g=>?_) (fun g=>?_)
   ·have g:most=0:=by simpa using g
    refine (congrArg (fun z=>DV.v (.int .i64 z)) ?_:_=_)
    simp [countF,c5,g]
   ·have g:¬ most=0:=by simpa using g
    refine call_p en160 (cut_spec (1 + sumC K es 0)) (by repeat' (first | exact rfl | exact trivial | exact Or.inr (Or.inl ⟨_,rfl⟩) | exact Or.inr ⟨_,rfl⟩ | exact Or.inl ⟨rfl,rfl⟩ | exact Or.inl rfl | refine Or.inr ⟨_,_,rfl,Nat.zero_le _,rfl,?_⟩ | refine ⟨_,_,rfl,?_,?_⟩ | refine ⟨_,rfl,?_⟩ | exact congrArg (fun z=>DV.v (.int .i64 z)) hw| refine Or.inr (Or.inr (Or.inr ⟨_,_,rfl,?_⟩)) | exact Or.inl rfl | refine Or.inr ?_)) rfl ?_
    refine (congrArg (fun z=>DV.v (.int .i64 z)) ?_:_=_)
    simp [countF,c5,g]
  have c5:¬ kind=5:=by simpa using c5
  refine br (fun c6=>?_) (fun c6=>?_)
  ·have c6:kind=6:=by simpa using c6
   have hw:IntKind.i64.wrap (1 + ((sumC K es 0:Nat):Int))=((1 + sumC K es 0:Nat):Int):=by rw [wrap64 (by omega) (by omega)];omega
   refine call_p en160 (cut_spec (1 + sumC K es 0)) (by repeat' (first | exact rfl | exact trivial | exact Or.inr (Or.inl ⟨_,rfl⟩) | exact Or.inr ⟨_,rfl⟩ | exact Or.inl ⟨rfl,rfl⟩ | exact Or.inl rfl | refine Or.inr ⟨_,_,rfl,Nat.zero_le _,rfl,?_⟩ | refine ⟨_,_,rfl,?_,?_⟩ | refine ⟨_,rfl,?_⟩ | exact congrArg (fun z=>DV.v (.int .i64 z)) hw| refine Or.inr (Or.inr (Or.inr ⟨_,_,rfl,?_⟩)) | exact Or.inl rfl | refine Or.inr ?_)) rfl ?_
   refine (congrArg (fun z=>DV.v (.int .i64 z)) ?_:_=_)
   simp [countF,c6]
  have c6:¬ kind=6:=by simpa using c6
  refine br (fun c7=>?_) (fun c7=>?_)
  ·have c7:kind=7:=by simpa using c7
   refine (congrArg (fun z=>DV.v (.int .i64 z)) ?_:_=_)
   simp [countF,c7]
  have c7:¬ kind=7:=by simpa using c7
  refine (congrArg (fun z=>DV.v (.int .i64 z)) ?_:_=_)
  simp [countF,c1,c2,c3,c4,c5,c6,c7]
end Go.Proofs.YtmphiikdhifhjaaGreat
set_option maxRecDepth 100000
namespace Go.Proofs.YtmphiikdhifhjaaGreat
open Go Go.RowKit Dv Tryz
theorem qL_zero (D:List Nat) (ND:List Nd) (i:Nat):(qL D (sevN ND D 0)).getD i 0=if D.getD i 0=0 then 0 else 1:=by
 have h0:(sevN ND D 0).getD i false=false:=by
  rw [sevN,List.getD_eq_getElem?_getD,List.getElem?_replicate]
  split<;>rfl
 rw [qL_get,h0]
 unfold qF
 simp
theorem qL_small (D:List Nat) (S:List Bool):∀ z∈qL D S,z≤2:=fun z hz=>by
 unfold qL at hz
 obtain ⟨i,_,rfl⟩:=List.mem_map.1 hz
 unfold qF
 split
 ·omega
 ·split<;>omega
abbrev mn1St (W:List DV) (D L:List Nat) (n i:Nat):St:=
 ⟨[(1,⟨[],.loc 0 0⟩),(3,⟨[],.sl 1 (dInts D) none⟩),(4,⟨[],.ms 1 1 0 n n⟩),(5,⟨[],.v (.int .i64 i)⟩)],[W,cN L],[]⟩
abbrev mn2St (W:List DV) (D K:List Nat) (t:Nat):St:=
 ⟨[(1,⟨[],.loc 0 0⟩),(3,⟨[],.sl 1 (dInts D) none⟩),(4,⟨[],.sl 1 (dInts K) none⟩),(6,⟨[],.v (.int .i64 t)⟩)],[W],[]⟩
abbrev mn3St (W:List DV) (D K M:List Nat) (n t i:Nat):St:=
 ⟨[(1,⟨[],.loc 0 0⟩),(3,⟨[],.sl 1 (dInts D) none⟩),(4,⟨[],.sl 1 (dInts K) none⟩),(6,⟨[],.v (.int .i64 t)⟩),(7,⟨[],.ms 1 1 0 n n⟩),(8,⟨[],.v (.int .i64 i)⟩)],[W,cN M],[]⟩
theorem getD_set {L:List Nat} {i e v:Nat} (he:e < L.length):(L.set e v).getD i 0=if i=e then v else L.getD i 0:=by
 by_cases h:i=e
 ·subst h
  rw [if_pos rfl,List.getD_eq_getElem?_getD,List.getElem?_set_self he];rfl
 ·rw [if_neg h,List.getD_eq_getElem?_getD,List.getElem?_set_ne (Ne.symm h),← List.getD_eq_getElem?_getD]
theorem many19_spec (a b:Nat) (A B:List (List DV)) {ND:List Nd} {L:Nat} (z:Int) (hok:∀ n∈ND,NdOK L ND.length n) (hnl:ND.length≤1099511627776) (hsz:∀ n∈ND,n.edges.length≤1099511627776) (hsn:∀ n∈ND,n.names.length≤1099511627776) :
  EvP Tryz.prog 47 [.agg (wG a b A B ND z)] (.sl 1 (dInts (qL (depN ND ND.length) (sevS ND (depN ND ND.length)))) none):=by
 have hdl:=dNds_len ND
 have h0:=depths19_spec a b A B z hok hnl hsz
 have hl:=depN_len ND ND.length
 have hget:=depN_get ND ND.length
 rw [depN_end] at hget
 generalize depN ND ND.length=D at h0 hl hget ⊢
 have hql:=qL_len D
 have hstep:=fun t i n (h:ND[i]? = some n)=>qL_step hok hl hget t h
 refine ev_go (P:=Tryz.prog) tt tt_ok 5000 66 [.tmp 2] Tryz.func47 rfl Tryz.ntmps47 rfl (Nat.le_of_ble_eq_true rfl) (fun E9 w9 hn9 hm9=>?_)
 refine call_p en44 (h0) ax rfl ?_
 refine ⟨⟨rfl,by omega,by rw [hdl];omega,by rw [hdl];omega⟩,?_⟩
 refine loop_i (fun j st=>∃ (i:Nat) (L:List Nat),st=mn1St (wG a b A B ND z) D L (dNds ND).length i∧i≤ND.length∧L.length=ND.length∧(∀ k:Nat,k < i→L.getD k 0=(qL D (sevN ND D 0)).getD k 0)∧(∀ k:Nat,i≤k→L.getD k 0=0)∧j=ND.length - i) ND.length (mn1St (wG a b A B ND z) D (List.replicate ((dNds ND).length:Int).toNat 0) (dNds ND).length 0) (weak_b 2 rfl (by repeat' (first | exact rfl | exact we_rfl rfl | exact weL_cN (repN _) | refine ⟨_,_,rfl,?_,?_⟩)) rfl rfl rfl (by repeat' (first | exact trivial | exact we_rfl rfl | exact weL_cN (repN _) | refine ⟨⟨_,rfl,?_⟩,?_⟩))) ⟨0,_,rfl,by omega,by rw [List.length_replicate,hdl];omega,fun _ h=>by omega,fun k _=>by rw [List.getD_eq_getElem?_getD,List.getElem?_replicate];split<;>rfl,by omega⟩ ?_
 rintro j st ⟨i,L,rfl,hi,hL,hv1,hv2,rfl⟩
 refine br (fun hlt=>?_) (fun hlt=>?_)
 ·have hlt:i < ND.length:=by have:=hlt;simp [hdl] at this;exact this
  obtain ⟨k,hk⟩:∃ k,D[i]? = some k:=⟨_,List.getElem?_eq_getElem (by omega)⟩
  have hkd:D.getD i 0=k:=by rw [List.getD_eq_getElem?_getD,hk];rfl
  have hq:=qL_zero D ND i
  rw [hkd] at hq
  refine ⟨_,⟨by omega,dInts_get hk⟩,?_⟩
  refine br (fun g=>?_) (fun g=>?_)
  ·have g:0 < k:=by simpa using g
   rw [if_neg (by omega)] at hq
   refine ⟨⟨by omega,by rw [hdl];omega⟩,?_⟩
   refine ⟨by rw [cN_len];omega,?_⟩
   have hst:(cN L).set (0 + (i:Int).toNat * 1) (DV.v (.int .i64 1))=cN (L.set i 1):=by
    rw [show 0 + (i:Int).toNat * 1=i by omega];exact cN_set L i 1
   refine ⟨mn1St (wG a b A B ND z) D (L.set i 1) (dNds ND).length (i + 1),(weak_b 2 rfl (by repeat' (first | exact rfl | exact we_rfl rfl | exact weL_cN hst | exact we_int (nxt hlt (by omega)) | refine ⟨_,_,rfl,?_,?_⟩)) rfl rfl rfl (by repeat' (first | exact trivial | exact we_rfl rfl | exact weL_cN hst | exact we_int (nxt hlt (by omega)) | refine ⟨⟨_,rfl,?_⟩,?_⟩))),ND.length - (i + 1),by omega,i + 1,_,rfl,by omega,by rw [List.length_set];exact hL,fun j hj=>?_,fun j hj=>?_,rfl⟩
   ·rw [getD_set (by omega)]
    split
    ·rename_i h;rw [h,hq]
    ·exact hv1 j (by omega)
   ·rw [getD_set (by omega),if_neg (by omega)]
    exact hv2 j (by omega)
  ·have g:k=0:=by have:=g;simp at this;omega
   rw [if_pos g] at hq
   refine ⟨mn1St (wG a b A B ND z) D L (dNds ND).length (i + 1),(weak_b 2 rfl (by repeat' (first | exact rfl | exact we_rfl rfl | exact weL_cN rfl | exact we_int (nxt hlt (by omega)) | refine ⟨_,_,rfl,?_,?_⟩)) rfl rfl rfl (by repeat' (first | exact trivial | exact we_rfl rfl | exact weL_cN rfl | exact we_int (nxt hlt (by omega)) | refine ⟨⟨_,rfl,?_⟩,?_⟩))),ND.length - (i + 1),by omega,i + 1,_,rfl,by omega,hL,fun j hj=>?_,fun j hj=>hv2 j (by omega),rfl⟩
   rcases Nat.lt_succ_iff_lt_or_eq.1 hj with hj | rfl
   ·exact hv1 j hj
   ·rw [hq,hv2 j (Nat.le_refl _)]
 have hge:i=ND.length:=by have:=hlt;simp [hdl] at this;omega
 subst hge
 have hLq:L=qL D (sevN ND D 0):=getD_ext (by rw [hL,hql,hl]) fun j=>by
  rcases Nat.lt_or_ge j ND.length with hj | hj
  ·exact hv1 j hj
  ·rw [hv2 j hj,List.getD_eq_getElem?_getD,List.getElem?_eq_none (by rw [hql,hl];exact hj)];rfl
 subst hLq
 refine loop_w (fun j st=>∃ t:Nat,st=mn2St (wG a b A B ND z) D (qL D (sevN ND D t)) t∧t≤ND.length + 1∧j=ND.length + 1 - t) (ND.length + 1) (mn2St (wG a b A B ND z) D (qL D (sevN ND D 0)) 0) (.frz 1 rfl rfl ⟨_,_,rfl,ax,rfl⟩ rfl ⟨⟨_,rfl,(by repeat' (first | exact rfl | exact trivial | exact Or.inr (Or.inl ⟨_,rfl⟩) | exact Or.inr ⟨_,rfl⟩ | exact Or.inl ⟨rfl,rfl⟩ | exact Or.inl rfl | refine Or.inr ⟨_,_,rfl,Nat.zero_le _,rfl,?_⟩ | refine ⟨_,_,rfl,?_,?_⟩ | refine ⟨_,rfl,?_⟩ | exact ⟨Nat.le_of_ble_eq_true rfl,rfl⟩ | refine Or.inr (Or.inr (Or.inr ⟨_,_,rfl,?_⟩)) | exact Or.inl rfl | refine Or.inr ?_))⟩,⟨_,rfl,ax⟩,⟨_,rfl,ms_n (by rw [hql,hl,hdl]) (Nat.le_refl _) rfl⟩,⟨_,rfl,ax⟩,trivial⟩) ⟨0,rfl,by omega,by omega⟩ ?_
 rintro j st ⟨t,rfl,ht,rfl⟩
 refine br (fun hlt=>?_) (fun hlt=>?_)
 ·have hlt:t≤ND.length:=by have:=hlt;simp [hdl] at this;omega
  refine ⟨⟨rfl,by omega,by rw [hdl];omega,by rw [hdl];omega⟩,?_⟩
  refine loop_i (fun j st=>∃ (i:Nat) (M:List Nat),st=mn3St (wG a b A B ND z) D (qL D (sevN ND D t)) M (dNds ND).length t i∧i≤ND.length∧M.length=ND.length∧(∀ k:Nat,k < i→M.getD k 0=(qL D (sevN ND D (t + 1))).getD k 0)∧j=ND.length - i) ND.length (mn3St (wG a b A B ND z) D (qL D (sevN ND D t)) (List.replicate ((dNds ND).length:Int).toNat 0) (dNds ND).length t 0) (weak_b 2 rfl (by repeat' (first | exact rfl | exact we_rfl rfl | exact weL_cN (repN _) | refine ⟨_,_,rfl,?_,?_⟩)) rfl rfl rfl (by repeat' (first | exact trivial | exact we_rfl rfl | exact weL_cN (repN _) | refine ⟨⟨_,rfl,?_⟩,?_⟩))) ⟨0,_,rfl,by omega,by rw [List.length_replicate,hdl];omega,fun _ h=>by omega,by omega⟩ ?_
  rintro j st ⟨i,M,rfl,hi,hM,hv,rfl⟩
  have hqt:=hql (sevN ND D t)
  have hqi:=dInts_len (qL D (sevN ND D t))
  refine br (fun hlt2=>?_) (fun hlt2=>?_)
  ·have hlt2:i < ND.length:=by have:=hlt2;simp [hqi,hqt,hl] at this;exact this
   obtain ⟨n,hn⟩:∃ n,ND[i]? = some n:=⟨_,List.getElem?_eq_getElem hlt2⟩
   have hnm:=List.mem_of_getElem? hn
   obtain ⟨k,hk⟩:∃ k,D[i]? = some k:=⟨_,List.getElem?_eq_getElem (by omega)⟩
   have hkd:D.getD i 0=k:=by rw [List.getD_eq_getElem?_getD,hk];rfl
   have hs:=hstep t i n hn
   rw [hkd] at hs
   have hc:=count19_spec (qL D (sevN ND D t)) (by omega) (qL_small _ _) (n:=n) (by rw [hqt,hl];exact hok n hnm) (hsz n hnm) (hsn n hnm)
   refine ⟨_,⟨by omega,dNds_get hn⟩,?_⟩
   refine call_p en108 (hc) ax rfl ?_
   generalize countF n (qL D (sevN ND D t))=q at hs ⊢
   refine ⟨⟨by omega,by rw [hdl];omega⟩,?_⟩
   refine ⟨by rw [cN_len];omega,?_⟩
   have hst:(cN M).set (0 + (i:Int).toNat * 1) (DV.v (.int .i64 (q:Int)))=cN (M.set i q):=by
    rw [show 0 + (i:Int).toNat * 1=i by omega];exact cN_set M i q
   refine ⟨_,⟨by omega,dInts_get hk⟩,?_⟩
   refine br (fun g=>?_) (fun g=>?_)
   ·have g:k=0:=by simpa using g
    rw [if_pos g] at hs
    refine ⟨⟨by omega,by rw [hdl];omega⟩,?_⟩
    refine ⟨by rw [List.length_set,cN_len];omega,?_⟩
    have hst2:((cN M).set (0 + (i:Int).toNat * 1) (DV.v (.int .i64 (q:Int)))).set (0 + (i:Int).toNat * 1) (DV.v (.int .i64 0))=cN ((M.set i q).set i 0):=by
     rw [hst,show 0 + (i:Int).toNat * 1=i by omega];exact cN_set (M.set i q) i 0
    refine ⟨mn3St (wG a b A B ND z) D (qL D (sevN ND D t)) ((M.set i q).set i 0) (dNds ND).length t (i + 1),(weak_b 2 rfl (by repeat' (first | exact rfl | exact we_rfl rfl | exact weL_cN hst2 | exact we_int (nxt hlt2 (by omega)) | refine ⟨_,_,rfl,?_,?_⟩)) rfl rfl rfl (by repeat' (first | exact trivial | exact we_rfl rfl | exact weL_cN hst2 | exact we_int (nxt hlt2 (by omega)) | refine ⟨⟨_,rfl,?_⟩,?_⟩))),ND.length - (i + 1),by omega,i + 1,_,rfl,by omega,by simp [hM],fun j hj=>?_,rfl⟩
    rw [getD_set (by rw [List.length_set];omega)]
    split
    ·rename_i h;rw [h,hs]
    ·rename_i h
     rw [getD_set (by omega),if_neg h]
     exact hv j (by omega)
   ·have g:¬ k=0:=by simpa using g
    rw [if_neg g] at hs
    refine ⟨mn3St (wG a b A B ND z) D (qL D (sevN ND D t)) (M.set i q) (dNds ND).length t (i + 1),(weak_b 2 rfl (by repeat' (first | exact rfl | exact we_rfl rfl | exact weL_cN hst | exact we_int (nxt hlt2 (by omega)) | refine ⟨_,_,rfl,?_,?_⟩)) rfl rfl rfl (by repeat' (first | exact trivial | exact we_rfl rfl | exact weL_cN hst | exact we_int (nxt hlt2 (by omega)) | refine ⟨⟨_,rfl,?_⟩,?_⟩))),ND.length - (i + 1),by omega,i + 1,_,rfl,by omega,by simp [hM],fun j hj=>?_,rfl⟩
    rw [getD_set (by omega)]
    split
    ·rename_i h;rw [h,hs]
    ·exact hv j (by omega)
  ·have hge:i=ND.length:=by have:=hlt2;simp [hqi,hqt,hl] at this;omega
   subst hge
   have hMq:M=qL D (sevN ND D (t + 1)):=getD_ext (by rw [hM,hql,hl]) fun j=>by
    rcases Nat.lt_or_ge j ND.length with hj | hj
    ·exact hv j hj
    ·simp only [List.getD_eq_getElem?_getD]
     rw [List.getElem?_eq_none (by omega),List.getElem?_eq_none (by rw [hql,hl];exact hj)]
   subst hMq
   refine ⟨mn2St (wG a b A B ND z) D (qL D (sevN ND D (t + 1))) (t + 1),.frz 1 rfl rfl ⟨_,_,rfl,ax,rfl⟩ rfl ⟨⟨_,rfl,(by repeat' (first | exact rfl | exact trivial | exact Or.inr (Or.inl ⟨_,rfl⟩) | exact Or.inr ⟨_,rfl⟩ | exact Or.inl ⟨rfl,rfl⟩ | exact Or.inl rfl | refine Or.inr ⟨_,_,rfl,Nat.zero_le _,rfl,?_⟩ | refine ⟨_,_,rfl,?_,?_⟩ | refine ⟨_,rfl,?_⟩ | exact ⟨Nat.le_of_ble_eq_true rfl,rfl⟩ | refine Or.inr (Or.inr (Or.inr ⟨_,_,rfl,?_⟩)) | exact Or.inl rfl | refine Or.inr ?_))⟩,⟨_,rfl,ax⟩,⟨_,rfl,ms_n (by rw [hql,hl,hdl]) (Nat.le_refl _) rfl⟩,⟨_,rfl,?_⟩,trivial⟩,ND.length + 1 - (t + 1),by omega,t + 1,rfl,by omega,rfl⟩
   exact congrArg (fun z=>DV.v (Value.int .i64 z)) (nxt (n:=1099511627777) (by omega) (by omega))
 ·have hge:t=ND.length + 1:=by have:=hlt;simp [hdl] at this;omega
  subst hge
  have:=sevN_top ND D 1
  rw [this]
  exact ⟨_,ax,rfl⟩
theorem sevS_q {L:Nat} {ND:List Nd} {D:List Nat} (hok:∀ n∈ND,NdOK L ND.length n) (hget:∀ j,D.getD j 0=match ND[j]? with | none=>0 | some n=>leastF n D) (i:Nat):(sevS ND D).getD i false=decide (1 < (qL D (sevS ND D)).getD i 0):=by
 rw [qL_get]
 have hs:(sevS ND D).getD i false=match ND[i]? with | none=>false | some n=>sevF n D (sevS ND D):=by
  have:=sevN_get ND D ND.length i
  rw [sevN_top ND D 1] at this
  exact this
 have hd:=hget i
 cases hn:ND[i]? with
 | none=>
  rw [hn] at hs
  have hs:(sevS ND D).getD i false=false:=hs
  rw [hs]
  unfold qF
  simp
  split<;>omega
 | some n=>
  rw [hn] at hs hd
  have hd:D.getD i 0=leastF n D:=hd
  unfold qF
  cases hb:(sevS ND D).getD i false
  ·simp;split<;>omega
  ·have hs:(sevS ND D).getD i false=sevF n D (sevS ND D):=hs
   rw [hb] at hs
   have:=sevF_dep (hok n (List.mem_of_getElem? hn)) hs.symm
   rw [if_neg (by omega)]
   simp
abbrev ls10St (A:List Bool) (B:List Nat) (i:Nat):St:=
 ⟨[(5,⟨[],.sl 1 (dBo A) none⟩),(6,⟨[],.sl 1 (dInts B) none⟩),(7,⟨[],.v (.int .i64 i)⟩)],[],[]⟩
theorem several19_law (S:Sch) (hS:S.wt≤1099511627776) (_:rngS S):EvP Tryz.prog 11 [.agg (dSch S)] (.v (.bool true)):=by
 have hf:=fine19_spec S hS
 have hb:=(build_spec S hS).mono (Ψ:=fun r _ _=>BuiltΦ S r) fun _ _ _ h=>builtΦ_of hS h
 have hw:=fun h=>build18_spec S hS h
 obtain ⟨levels,order,types,⟨rh,rp⟩⟩:=S
 refine ev_go (P:=Tryz.prog) tt tt_ok 5000 49 [.tmp 2] Tryz.func11 rfl Tryz.ntmps11 rfl (Nat.le_of_ble_eq_true rfl) (fun E9 w9 hn9 hm9=>?_)
 refine call_e en40 rfl hf ax (fun r hr=>?_)
 obtain ⟨b,rfl,h0⟩:=hr
 cases b with
 | false=>
  refine call_p en41 (lives19_spec) ax rfl ?_
  exact (rfl:_=_)
 | true=>
  have h0:=h0 rfl
  have hw:=hw h0
  refine call_e en26 rfl hb ax (fun r hr=>?_)
  rcases hr with ⟨hr,_⟩ | ⟨_,PC,hP,rfl⟩
  ·exact (hr h0).elim
  have h1:=severals_spec hP
  have hsn:∀ n∈resNds ⟨levels,order,types,.mk rh rp⟩,n.names.length≤1099511627776:=fun n hn=>(resNds_sz hn hS).1
  have h2:=fun A B=>many19_spec 2 1 A B (resRoot ⟨levels,order,types,.mk rh rp⟩) hP.ok hP.nl hP.esz hsn
  have hl:=depN_len (resNds ⟨levels,order,types,.mk rh rp⟩) (resNds ⟨levels,order,types,.mk rh rp⟩).length
  have hget:=depN_get (resNds ⟨levels,order,types,.mk rh rp⟩) (resNds ⟨levels,order,types,.mk rh rp⟩).length
  rw [depN_end] at hget
  have hq:=sevS_q hP.ok hget
  have hnl:=hP.nl
  have hsl:(sevS (resNds ⟨levels,order,types,.mk rh rp⟩) (depN (resNds ⟨levels,order,types,.mk rh rp⟩) (resNds ⟨levels,order,types,.mk rh rp⟩).length)).length=(resNds ⟨levels,order,types,.mk rh rp⟩).length:=sevN_len _ _ _
  have hql:=qL_len (depN (resNds ⟨levels,order,types,.mk rh rp⟩) (resNds ⟨levels,order,types,.mk rh rp⟩).length) (sevS (resNds ⟨levels,order,types,.mk rh rp⟩) (depN (resNds ⟨levels,order,types,.mk rh rp⟩) (resNds ⟨levels,order,types,.mk rh rp⟩).length))
  generalize sevS (resNds ⟨levels,order,types,.mk rh rp⟩) (depN (resNds ⟨levels,order,types,.mk rh rp⟩) (resNds ⟨levels,order,types,.mk rh rp⟩).length)=V at h1 h2 hq hsl hql
  generalize depN (resNds ⟨levels,order,types,.mk rh rp⟩) (resNds ⟨levels,order,types,.mk rh rp⟩).length=D at h2 hq hl hql
  generalize qL D V=Q at h2 hq hql
  generalize resNds ⟨levels,order,types,.mk rh rp⟩=ND at hw h2 hl hnl hsl
  generalize resRoot ⟨levels,order,types,.mk rh rp⟩=z at hw h2
  generalize leqN _ _=f at hw
  have hvl:=dBo_len V
  have hQl:=dInts_len Q
  refine call_p en46 (h1) ax rfl ?_
  refine call_p en27 (hw) ax rfl ?_
  refine call_p en47 (h2 _ _) ax rfl ?_
  refine br (fun g=>absurd g (by simp [hvl,hQl,hsl,hql,hl])) (fun _=>?_)
  refine loop_i (fun j st=>∃ i:Nat,st=ls10St V Q i∧i≤ND.length∧j=ND.length - i) ND.length (ls10St V Q 0) (weak_mk ⟨_,rfl⟩ wA rfl rfl rfl wB) ⟨0,rfl,by omega,by omega⟩ ?_
  rintro j st ⟨i,rfl,hi,rfl⟩
  refine br (fun hL=>?_) (fun hL=>?_)
  ·have hlt:i < ND.length:=by have:=hL;simp [hvl,hsl] at this;exact this
   obtain ⟨x,hx⟩:∃ x,V[i]? = some x:=⟨_,List.getElem?_eq_getElem (by omega)⟩
   obtain ⟨y,hy⟩:∃ y,Q[i]? = some y:=⟨_,List.getElem?_eq_getElem (by omega)⟩
   have hxy:x=decide (1 < y):=by
    have:=hq i
    simpa [List.getD_eq_getElem?_getD,hx,hy] using this
   refine drawG_i (fun _=>false) mo (by decide +kernel) ?_
   refine ⟨_,⟨by omega,dBo_get hx⟩,_,⟨by omega,dInts_get hy⟩,?_⟩
   have hcz:decide ((1:Int) < (y:Int))=decide (1 < y):=decide_eq_decide.2 (by omega)
   refine br (fun g=>absurd g (by rw [hxy,hcz];simp)) (fun _=>?_)
   exact ⟨ls10St V Q (i + 1),(weak_mk ⟨_,rfl⟩ wA rfl rfl rfl (by repeat' (first | exact trivial | exact we_rfl rfl | exact we_int (nxt hlt (by omega)) | refine ⟨⟨_,rfl,?_⟩,?_⟩))),ND.length - (i + 1),by omega,i + 1,rfl,by omega,rfl⟩
  ·refine call_p en46 (severals_nil) ax rfl ?_
   refine call_p en41 (lives19_spec) ax rfl ?_
   exact (rfl:_=_)
end Go.Proofs.YtmphiikdhifhjaaGreat
