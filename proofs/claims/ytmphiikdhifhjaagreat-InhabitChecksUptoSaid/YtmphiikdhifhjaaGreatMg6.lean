/- Part 6 of the proof: The document's least depths; fine; the chapter's example; The program's Depths; The law of least depths: fine, the example, the call returns true; The law of checks: the call returns true. No condition. -/
import Derived.Test.YtmphiikdhifhjaaGreatMg3
import Derived.Test.YtmphiikdhifhjaaGreatMg5
set_option linter.all false
set_option maxRecDepth 100000
namespace Go.Proofs.YtmphiikdhifhjaaGreat
open Go Go.RowKit Dv Tryz
abbrev on1St (n:Nd) (K:List Bool) (s v:Bool) (e:Nat):St:=
 ⟨[(1,⟨[],.sl 1 (dBo K) none⟩),(2,⟨[],.loc 0 0⟩),(5,⟨[],.v (.bool s)⟩),(6,⟨[],.v (.bool v)⟩),(7,⟨[],.v (.int .i64 e)⟩)],[dNd n],[]⟩
theorem one19_spec {L:Nat} {n:Nd} (K:List Bool) (hK:K.length≤1099511627776) (hn:NdOK L K.length n) (hel:n.edges.length≤1099511627776) :
  EvP Tryz.prog 106 [.agg (dNd n),.sl 1 (dBo K) none] (.v (.bool (hvB n K))):=by
 have hedge:=hn.edge
 have hbare:=hn.bare
 have hk8:=hn.k8
 obtain ⟨kind,at',lo,hi,most,names,es⟩:=n
 simp only at hedge hbare hel hk8
 refine ev_go (P:=Tryz.prog) tt tt_ok 5000 50 [.tmp 4] Tryz.func106 rfl Tryz.ntmps106 rfl (Nat.le_of_ble_eq_true rfl) (fun E9 w9 hn9 hm9=>?_)
 refine br (fun h7=>?_) (fun h7=>?_)
 ·have h7:kind < 7:=by simpa using h7
  refine (congrArg (fun b=>DV.v (.bool b)) ?_:_=_)
  simp [hvB,h7]
 have h7:¬ kind < 7:=by simpa using h7
 refine loop_i (fun j st=>∃ e:Nat,st=on1St ⟨kind,at',lo,hi,most,names,es⟩ K ((es.take e).any (inK K)) ((es.take e).all (inK K)) e∧e≤es.length∧j=es.length - e) es.length (on1St ⟨kind,at',lo,hi,most,names,es⟩ K false true 0) (weak_mk ⟨_,rfl⟩ wA rfl rfl rfl wB) ⟨0,by simp,by omega,by omega⟩ ?_
 rintro j st ⟨e,rfl,he,rfl⟩
 refine br (fun hL=>?_) (fun hL=>?_)
 ·have hlt:e < es.length:=by have:=hL;simp [dEds_len] at this;exact this
  obtain ⟨x,hx⟩:∃ x,es[e]? = some x:=⟨_,List.getElem?_eq_getElem hlt⟩
  refine ⟨_,⟨by omega,dEds_get hx⟩,?_⟩
  have hs:(es.take (e + 1)).any (inK K)=((es.take e).any (inK K) || inK K x):=by rw [List.take_add_one,hx];simp
  have hv:(es.take (e + 1)).all (inK K)=((es.take e).all (inK K) && inK K x):=by rw [List.take_add_one,hx];simp
  generalize (es.take e).any (inK K)=s at hs ⊢
  generalize (es.take e).all (inK K)=v at hv ⊢
  refine br (fun hb=>?_) (fun hb=>?_)
  ·have hb:x.bare=false:=by simpa using hb
   obtain ⟨k,hk,hkl⟩:=(hedge x (List.mem_of_getElem? hx)).to1 hb
   obtain ⟨b,hb1⟩:∃ b,K[k]? = some b:=⟨_,List.getElem?_eq_getElem hkl⟩
   have hg:(dBo K)[(max x.to 0).toNat]? = some [DV.v (.bool b)]:=by rw [show (max x.to 0).toNat=k by omega];exact dBo_get hb1
   have hik:inK K x=b:=by unfold inK;rw [hb,hk];simp [List.getD_eq_getElem?_getD,hb1]
   rw [hik] at hs hv
   refine ⟨_,⟨by omega,dEds_get hx⟩,?_⟩
   refine ⟨_,⟨by omega,hg⟩,?_⟩
   have e5:pickB s true b=(es.take (e + 1)).any (inK K):=by rw [hs,pickB_or]
   have e6:pickB v b false=(es.take (e + 1)).all (inK K):=by rw [hv,pickB_and]
   exact ⟨on1St ⟨kind,at',lo,hi,most,names,es⟩ K ((es.take (e + 1)).any (inK K)) ((es.take (e + 1)).all (inK K)) (e + 1),(weak_mk ⟨_,rfl⟩ wA rfl rfl rfl (by repeat' (first | exact trivial | exact we_rfl rfl | exact we_bool e5 | exact we_bool e6 | exact we_int (nxt hlt (by omega)) | refine ⟨⟨_,rfl,?_⟩,?_⟩))),es.length - (e + 1),by omega,e + 1,rfl,by omega,rfl⟩
  ·have hb:x.bare=true:=by simpa using hb
   have hik:inK K x=true:=by unfold inK;rw [hb];rfl
   rw [hik] at hs hv
   have e5:pickB s true true=(es.take (e + 1)).any (inK K):=by rw [hs,pickB_or]
   have e6:pickB v true false=(es.take (e + 1)).all (inK K):=by rw [hv,pickB_and]
   exact ⟨on1St ⟨kind,at',lo,hi,most,names,es⟩ K ((es.take (e + 1)).any (inK K)) ((es.take (e + 1)).all (inK K)) (e + 1),(weak_mk ⟨_,rfl⟩ wA rfl rfl rfl (by repeat' (first | exact trivial | exact we_rfl rfl | exact we_bool e5 | exact we_bool e6 | exact we_int (nxt hlt (by omega)) | refine ⟨⟨_,rfl,?_⟩,?_⟩))),es.length - (e + 1),by omega,e + 1,rfl,by omega,rfl⟩
 ·have hge:e=es.length:=by have:=hL;simp [dEds_len] at this;omega
  subst hge
  rw [List.take_length]
  refine br (fun g=>?_) (fun g=>?_)
  ·have g:kind=7:=by simpa using g
   refine (congrArg (fun b=>DV.v (.bool b)) ?_:_=_)
   simp [hvB,g]
  ·have g:¬ kind=7:=by simpa using g
   refine (congrArg (fun b=>DV.v (.bool b)) ?_:_=_)
   simp [hvB,g,h7]
theorem ms_b {bx:List (List DV)} {N n0 m0 n i:Nat} {r:List Bool} (hr:r.length=n) (hN:N≤i) (hb:bx[i]? = some (cB r)):Cc bx N n0 m0 (.sl 1 (dBo r) none) (.ms i 1 0 n n):=by
 simp only [Cc]
 refine Or.inr (Or.inr (Or.inl ⟨i,0,n,_,by rw [dBo_len,hr],hN,hb,?_,?_,?_⟩))
 ·rw [dBo_flat,List.drop_zero,List.take_of_length_le (by rw [cB_len,dBo_len];omega)]
 ·intro x hx
  simp only [dBo,List.mem_map] at hx
  obtain ⟨_,_,rfl⟩:=hx
  rfl
 ·intro x hx
  rw [dBo_flat] at hx
  obtain ⟨_,_,rfl⟩:=List.mem_map.1 hx
  exact ⟨_,rfl⟩
theorem ccL_cN (l:List Nat) (bx:List (List DV)) (N n m:Nat):CcL bx N n m (cN l) (cN l):=by
 induction l with
 | nil=>rfl
 | cons a r ih=>exact ⟨_,_,rfl,rfl,ih⟩
abbrev wG (a b:Nat) (A B:List (List DV)) (ND:List Nd) (z:Int):List DV:=[.sl a A none,.sl b B none,.sl 7 (dNds ND) none,.v (.int .i64 z)]
abbrev rd1St (W:List DV) (O:List Nat) (K:List Bool) (n d:Nat):St:=
 ⟨[(1,⟨[],.loc 0 0⟩),(3,⟨[],.ms 1 1 0 n n⟩),(4,⟨[],.sl 1 (dBo K) none⟩),(5,⟨[],.v (.int .i64 d)⟩)],[W,cN O],[]⟩
abbrev rd2St (W:List DV) (O:List Nat) (K:List Bool) (M:List Bool) (n d e:Nat):St:=
 ⟨[(1,⟨[],.loc 0 0⟩),(3,⟨[],.ms 1 1 0 n n⟩),(4,⟨[],.sl 1 (dBo K) none⟩),(5,⟨[],.v (.int .i64 d)⟩),(6,⟨[],.ms 2 1 0 n n⟩),(7,⟨[],.v (.int .i64 e)⟩)],[W,cN O,cB M],[]⟩
theorem depths19_spec (a b:Nat) (A B:List (List DV)) {ND:List Nd} {L:Nat} (z:Int) (hok:∀ n∈ND,NdOK L ND.length n) (hnl:ND.length≤1099511627776) (hsz:∀ n∈ND,n.edges.length≤1099511627776) :
  EvP Tryz.prog 44 [.agg (wG a b A B ND z)] (.sl 1 (dInts (depN ND ND.length)) none):=by
 have hdl:=dNds_len ND
 refine ev_go (P:=Tryz.prog) tt tt_ok 5000 61 [.tmp 2] Tryz.func44 rfl Tryz.ntmps44 rfl (Nat.le_of_ble_eq_true rfl) (fun E9 w9 hn9 hm9=>?_)
 refine ⟨⟨rfl,by omega,by rw [hdl];omega,by rw [hdl];omega⟩,?_⟩
 refine ⟨⟨rfl,by omega,by rw [hdl];omega,by rw [hdl];omega⟩,?_⟩
 refine loop_w (fun j st=>∃ d:Nat,st=rd1St (wG a b A B ND z) (depN ND d) (posL (depN ND d)) (dNds ND).length (d + 1)∧d≤ND.length∧j=ND.length - d) ND.length (rd1St (wG a b A B ND z) (depN ND 0) (posL (depN ND 0)) (dNds ND).length 1) (.frz 2 rfl rfl ?_ rfl ?_) ⟨0,rfl,by omega,by omega⟩ ?_
 ·refine ⟨_,_,rfl,ax,_,_,rfl,?_,rfl⟩
  rw [repN,hdl]
  exact ccL_cN _ _ _ _ _
 ·refine ⟨⟨_,rfl,(by repeat' (first | exact rfl | exact trivial | exact Or.inr (Or.inl ⟨_,rfl⟩) | exact Or.inr ⟨_,rfl⟩ | exact Or.inl ⟨rfl,rfl⟩ | exact Or.inl rfl | refine Or.inr ⟨_,_,rfl,Nat.zero_le _,rfl,?_⟩ | refine ⟨_,_,rfl,?_,?_⟩ | refine ⟨_,rfl,?_⟩ | exact ⟨Nat.le_of_ble_eq_true rfl,rfl⟩ | refine Or.inr (Or.inr (Or.inr ⟨_,_,rfl,?_⟩)) | exact Or.inl rfl | refine Or.inr ?_))⟩,⟨_,rfl,(by repeat' (first | exact rfl | exact trivial | exact Or.inr (Or.inl ⟨_,rfl⟩) | exact Or.inr ⟨_,rfl⟩ | exact Or.inl ⟨rfl,rfl⟩ | exact Or.inl rfl | refine Or.inr ⟨_,_,rfl,Nat.zero_le _,rfl,?_⟩ | refine ⟨_,_,rfl,?_,?_⟩ | refine ⟨_,rfl,?_⟩ | exact ⟨Nat.le_of_ble_eq_true rfl,rfl⟩ | refine Or.inr (Or.inr (Or.inr ⟨_,_,rfl,?_⟩)) | exact Or.inl rfl | refine Or.inr ?_))⟩,⟨_,rfl,ms_b (by rw [posL_len,depN_len,hdl];omega) (Nat.le_refl _) ?_⟩,⟨_,rfl,ax⟩,trivial⟩
  refine congrArg some ?_
  rw [repB,hdl]
  simp [posL,depN]
 rintro j st ⟨d,rfl,hd,rfl⟩
 have hpl:(posL (depN ND d)).length=ND.length:=by rw [posL_len,depN_len]
 refine br (fun hc=>?_) (fun hc=>?_)
 ·have hlt:d < ND.length:=by have:=hc;simp [hdl] at this;omega
  refine ⟨⟨rfl,by omega,by rw [hdl];omega,by rw [hdl];omega⟩,?_⟩
  refine loop_i (fun j st=>∃ (e:Nat) (O:List Nat) (M:List Bool),st=rd2St (wG a b A B ND z) O (posL (depN ND d)) M (dNds ND).length (d + 1) e∧e≤ND.length∧O.length=ND.length∧M.length=ND.length∧(∀ i:Nat,i < e→O.getD i 0=(depN ND (d + 1)).getD i 0∧M.getD i false=(posL (depN ND (d + 1))).getD i false)∧(∀ i:Nat,e≤i→O.getD i 0=(depN ND d).getD i 0)∧j=ND.length - e) ND.length (rd2St (wG a b A B ND z) (depN ND d) (posL (depN ND d)) (List.replicate ((dNds ND).length:Int).toNat false) (dNds ND).length (d + 1) 0) (weak_b 3 rfl (by repeat' (first | exact rfl | exact we_rfl rfl | exact weL_cN rfl | exact weL_cB (repB _) | refine ⟨_,_,rfl,?_,?_⟩)) rfl rfl rfl (by repeat' (first | exact trivial | exact we_rfl rfl | exact weL_cN rfl | exact weL_cB (repB _) | refine ⟨⟨_,rfl,?_⟩,?_⟩))) ⟨0,_,_,rfl,by omega,by rw [depN_len],by rw [List.length_replicate,hdl];omega,fun i hi=>by omega,fun i _=>rfl,by omega⟩ ?_
  rintro j st ⟨e,O,M,rfl,he,hO,hM,hv1,hv2,rfl⟩
  refine br (fun hL=>?_) (fun hL=>?_)
  ·have hle:e < ND.length:=by have:=hL;simp [hdl] at this;exact this
   obtain ⟨n,hn⟩:∃ n,ND[e]? = some n:=⟨_,List.getElem?_eq_getElem hle⟩
   have hnm:=List.mem_of_getElem? hn
   have h1:=one19_spec (posL (depN ND d)) (by rw [hpl];exact hnl) (n:=n) (by rw [hpl];exact hok n hnm) (hsz n hnm)
   obtain ⟨r1,r2⟩:=depN_ref (fun m hm=>⟨(hok m hm).k8,(hok m hm).bare⟩) d hn
   refine ⟨_,⟨by omega,dNds_get hn⟩,?_⟩
   refine call_p en106 (h1) ax rfl ?_
   have hst:(cB M).set (0 + (e:Int).toNat * 1) (DV.v (.bool (hvB n (posL (depN ND d)))))=cB (M.set e (hvB n (posL (depN ND d)))):=by
    rw [show 0 + (e:Int).toNat * 1=e by omega,cB_set]
   have hld:(cB (M.set e (hvB n (posL (depN ND d)))))[0 + (e:Int).toNat * 1]? = some (DV.v (.bool (hvB n (posL (depN ND d))))):=by
    rw [show 0 + (e:Int).toNat * 1=e by omega]
    exact cB_get (List.getElem?_set_self (by omega))
   obtain ⟨q,hq⟩:∃ q,O[e]? = some q:=⟨_,List.getElem?_eq_getElem (by omega)⟩
   have hqd:(depN ND d).getD e 0=q:=by rw [← hv2 e (Nat.le_refl _),List.getD_eq_getElem?_getD,hq];rfl
   rw [hqd] at r1
   have hMs:∀ i:Nat,i < e + 1→(M.set e (hvB n (posL (depN ND d)))).getD i false=(posL (depN ND (d + 1))).getD i false:=fun i hi=>by
    by_cases hie:i=e
    ·subst hie
     rw [r2,List.getD_eq_getElem?_getD,List.getElem?_set_self (by omega)];rfl
    ·rw [List.getD_eq_getElem?_getD,List.getElem?_set_ne (Ne.symm hie),← List.getD_eq_getElem?_getD]
     exact (hv1 i (by omega)).2
   generalize hvB n (posL (depN ND d))=h at hst hld r1 hMs ⊢
   refine ⟨⟨by omega,by rw [hdl];omega⟩,?_⟩
   refine ⟨by rw [cB_len];omega,?_⟩
   refine ⟨⟨by omega,by rw [hdl];omega⟩,?_⟩
   refine ⟨DV.v (.bool h),(by rw [hst];exact hld),?_⟩
   have hOs:∀ v,v=(depN ND (d + 1)).getD e 0→∀ i:Nat,i < e + 1→(O.set e v).getD i 0=(depN ND (d + 1)).getD i 0:=fun v hv i hi=>by
    by_cases hie:i=e
    ·subst hie
     rw [← hv,List.getD_eq_getElem?_getD,List.getElem?_set_self (by omega)];rfl
    ·rw [List.getD_eq_getElem?_getD,List.getElem?_set_ne (Ne.symm hie),← List.getD_eq_getElem?_getD]
     exact (hv1 i (by omega)).1
   have hOr:∀ v:Nat,∀ i:Nat,e + 1≤i→(O.set e v).getD i 0=(depN ND d).getD i 0:=fun v i hi=>by
    rw [List.getD_eq_getElem?_getD,List.getElem?_set_ne (by omega),← List.getD_eq_getElem?_getD]
    exact hv2 i (by omega)
   have hOq:O.set e q=O:=List.ext_getElem? fun i=>by
    by_cases hie:e=i
    ·subst hie
     rw [List.getElem?_set_self (by omega),hq]
    ·rw [List.getElem?_set_ne hie]
   refine br (fun g=>?_) (fun g=>?_)
   ·have g:h=true:=by simpa using g
    refine ⟨⟨by omega,by rw [hdl];omega⟩,?_⟩
    refine ⟨DV.v (.int .i64 (q:Int)),(by rw [show 0 + (e:Int).toNat * 1=e by omega];exact cN_get hq),?_⟩
    refine br (fun g2=>?_) (fun g2=>?_)
    ·have g2:q=0:=by simpa [pickB,pickD] using g2
     rw [if_pos ⟨g,g2⟩] at r1
     refine ⟨⟨by omega,by rw [hdl];omega⟩,?_⟩
     refine ⟨by rw [cN_len];omega,?_⟩
     have hso:(cN O).set (0 + (e:Int).toNat * 1) (DV.v (.int .i64 ((d + 1:Nat):Int)))=cN (O.set e (d + 1)):=by
      rw [show 0 + (e:Int).toNat * 1=e by omega,cN_set]
     exact ⟨rd2St (wG a b A B ND z) (O.set e (d + 1)) (posL (depN ND d)) (M.set e h) (dNds ND).length (d + 1) (e + 1),(weak_b 3 rfl (by repeat' (first | exact rfl | exact we_rfl rfl | exact weL_cN hso | exact weL_cB hst | exact we_int (nxt hle (by omega)) | refine ⟨_,_,rfl,?_,?_⟩)) rfl rfl rfl (by repeat' (first | exact trivial | exact we_rfl rfl | exact weL_cN hso | exact weL_cB hst | exact we_int (nxt hle (by omega)) | refine ⟨⟨_,rfl,?_⟩,?_⟩))),ND.length - (e + 1),by omega,e + 1,_,_,rfl,by omega,by simp [hO],by rw [List.length_set];exact hM,fun i hi=>⟨hOs _ r1.symm i hi,hMs i hi⟩,hOr (d + 1),rfl⟩
    ·have g2:¬ q=0:=by simpa [pickB,pickD] using g2
     rw [if_neg (fun h=>g2 h.2)] at r1
     exact ⟨rd2St (wG a b A B ND z) (O.set e q) (posL (depN ND d)) (M.set e h) (dNds ND).length (d + 1) (e + 1),(weak_b 3 rfl (by repeat' (first | exact rfl | exact we_rfl rfl | exact weL_cN (by rw [hOq]) | exact weL_cB hst | exact we_int (nxt hle (by omega)) | refine ⟨_,_,rfl,?_,?_⟩)) rfl rfl rfl (by repeat' (first | exact trivial | exact we_rfl rfl | exact weL_cN (by rw [hOq]) | exact weL_cB hst | exact we_int (nxt hle (by omega)) | refine ⟨⟨_,rfl,?_⟩,?_⟩))),ND.length - (e + 1),by omega,e + 1,_,_,rfl,by omega,by simp [hO],by rw [List.length_set];exact hM,fun i hi=>⟨hOs _ r1.symm i hi,hMs i hi⟩,hOr q,rfl⟩
   ·have g:h=false:=by simpa using g
    rw [if_neg (by rw [g];simp)] at r1
    exact ⟨rd2St (wG a b A B ND z) (O.set e q) (posL (depN ND d)) (M.set e h) (dNds ND).length (d + 1) (e + 1),(weak_b 3 rfl (by repeat' (first | exact rfl | exact we_rfl rfl | exact weL_cN (by rw [hOq]) | exact weL_cB hst | exact we_int (nxt hle (by omega)) | refine ⟨_,_,rfl,?_,?_⟩)) rfl rfl rfl (by repeat' (first | exact trivial | exact we_rfl rfl | exact weL_cN (by rw [hOq]) | exact weL_cB hst | exact we_int (nxt hle (by omega)) | refine ⟨⟨_,rfl,?_⟩,?_⟩))),ND.length - (e + 1),by omega,e + 1,_,_,rfl,by omega,by simp [hO],by rw [List.length_set];exact hM,fun i hi=>⟨hOs _ r1.symm i hi,hMs i hi⟩,hOr q,rfl⟩
  ·have hge:e=ND.length:=by have:=hL;simp [hdl] at this;omega
   subst hge
   have hO2:O=depN ND (d + 1):=getD_ext (by rw [hO,depN_len]) fun j=>by
    rcases Nat.lt_or_ge j ND.length with hj | hj
    ·exact (hv1 j hj).1
    ·simp only [List.getD_eq_getElem?_getD]
     rw [List.getElem?_eq_none (by omega),List.getElem?_eq_none (by rw [depN_len];omega)]
   have hM2:M=posL (depN ND (d + 1)):=leB_anti (by rw [hM,posL_len,depN_len]) (fun j hj=>by
     rcases Nat.lt_or_ge j ND.length with h | h
     ·rw [← (hv1 j h).2];exact hj
     ·rw [List.getD_eq_getElem?_getD,List.getElem?_eq_none (by omega)] at hj;cases hj) (fun j hj=>by
     rcases Nat.lt_or_ge j ND.length with h | h
     ·rw [(hv1 j h).2];exact hj
     ·rw [List.getD_eq_getElem?_getD,List.getElem?_eq_none (by rw [posL_len,depN_len];omega)] at hj;cases hj)
   subst hO2 hM2
   refine ⟨rd1St (wG a b A B ND z) (depN ND (d + 1)) (posL (depN ND (d + 1))) (dNds ND).length (d + 1 + 1),.frz 2 rfl rfl ⟨_,_,rfl,ax,_,_,rfl,ccL_cN _ _ _ _ _,rfl⟩ rfl ⟨⟨_,rfl,(by repeat' (first | exact rfl | exact trivial | exact Or.inr (Or.inl ⟨_,rfl⟩) | exact Or.inr ⟨_,rfl⟩ | exact Or.inl ⟨rfl,rfl⟩ | exact Or.inl rfl | refine Or.inr ⟨_,_,rfl,Nat.zero_le _,rfl,?_⟩ | refine ⟨_,_,rfl,?_,?_⟩ | refine ⟨_,rfl,?_⟩ | exact ⟨Nat.le_of_ble_eq_true rfl,rfl⟩ | refine Or.inr (Or.inr (Or.inr ⟨_,_,rfl,?_⟩)) | exact Or.inl rfl | refine Or.inr ?_))⟩,⟨_,rfl,(by repeat' (first | exact rfl | exact trivial | exact Or.inr (Or.inl ⟨_,rfl⟩) | exact Or.inr ⟨_,rfl⟩ | exact Or.inl ⟨rfl,rfl⟩ | exact Or.inl rfl | refine Or.inr ⟨_,_,rfl,Nat.zero_le _,rfl,?_⟩ | refine ⟨_,_,rfl,?_,?_⟩ | refine ⟨_,rfl,?_⟩ | exact ⟨Nat.le_of_ble_eq_true rfl,rfl⟩ | refine Or.inr (Or.inr (Or.inr ⟨_,_,rfl,?_⟩)) | exact Or.inl rfl | refine Or.inr ?_))⟩,⟨_,rfl,ms_b (by rw [posL_len,depN_len,hdl]) (Nat.le_refl _) rfl⟩,⟨_,rfl,?_⟩,trivial⟩,ND.length - (d + 1),by omega,d + 1,rfl,by omega,rfl⟩
   exact congrArg (fun z=>DV.v (Value.int .i64 z)) (nxt (n:=1099511627777) (by omega) (by omega))
 ·have hge:d=ND.length:=by have:=hc;simp [hdl] at this;omega
  subst hge
  exact ⟨_,ms_n (by rw [depN_len,hdl]) (Nat.zero_le _) rfl,rfl⟩
end Go.Proofs.YtmphiikdhifhjaaGreat
set_option maxRecDepth 100000
namespace Go.Proofs.YtmphiikdhifhjaaGreat
open Go Go.RowKit Dv Tryz
def chgB (ND:List Nd) (d e:Nat):Bool:=(List.range e).any fun i=>decide (¬ (depN ND (d + 1)).getD i 0=(depN ND d).getD i 0)
theorem chgB_succ (ND:List Nd) (d e:Nat):chgB ND d (e + 1)=(chgB ND d e || decide (¬ (depN ND (d + 1)).getD e 0=(depN ND d).getD e 0)):=by
 simp [chgB,List.range_succ]
theorem chgB_all {ND:List Nd} {d:Nat}:chgB ND d ND.length=false↔depN ND (d + 1)=depN ND d:=by
 constructor
 ·intro h
  refine getD_ext (by rw [depN_len,depN_len]) fun j=>?_
  unfold chgB at h
  rw [List.any_eq_false] at h
  rcases Nat.lt_or_ge j ND.length with hj | hj
  ·have:=h j (by simpa using hj)
   simpa using this
  ·simp only [List.getD_eq_getElem?_getD]
   rw [List.getElem?_eq_none (by rw [depN_len];exact hj),List.getElem?_eq_none (by rw [depN_len];exact hj)]
 ·intro h
  unfold chgB
  rw [h,List.any_eq_false]
  simp
theorem depN_small {ND:List Nd} {d:Nat} (hd:d≤1099511627776):∀ z∈depN ND d,z≤1099511627776:=fun z hz=>by
 obtain ⟨i,hi⟩:=List.mem_iff_getElem?.1 hz
 have:=depN_le ND d i
 rw [List.getD_eq_getElem?_getD,hi] at this
 simp only [Option.getD_some] at this
 omega
abbrev dp1St (ND:List Nd) (d:Nat) (c:Bool):St:=
 ⟨[(3,⟨[],.sl 7 (dNds ND) none⟩),(4,⟨[],.sl 1 (dInts (depN ND d)) none⟩),(5,⟨[],.v (.bool c)⟩)],[],[]⟩
abbrev dp2St (ND:List Nd) (d:Nat) (c:Bool) (L:List Nat) (e:Nat):St:=
 ⟨[(3,⟨[],.sl 7 (dNds ND) none⟩),(4,⟨[],.sl 1 (dInts (depN ND d)) none⟩),(5,⟨[],.v (.bool c)⟩),(6,⟨[],.ms 0 1 0 (dNds ND).length (dNds ND).length⟩),(18,⟨[],.sl 7 (dNds ND) none⟩),(19,⟨[],.v (.int .i64 (dNds ND).length)⟩),(20,⟨[],.v (.int .i64 e)⟩)],[cN L],[]⟩
theorem depths_gen {L:Nat} {ND:List Nd} {p:DV} (h0:EvP Tryz.prog 104 [p] (.sl 7 (dNds ND) none)) (hok:∀ n∈ND,NdOK L ND.length n) (hnl:ND.length≤1099511627776) (hsz:∀ n∈ND,n.edges.length≤1099511627776) (hcc:∀ bx N n m,Cc bx N n m p p) :
  EvP Tryz.prog 43 [p] (.sl 1 (dInts (depN ND ND.length)) none):=by
 have hdl:=dNds_len ND
 refine ev_go (P:=Tryz.prog) tt tt_ok 5000 46 [.tmp 2] Tryz.func43 rfl Tryz.ntmps43 rfl (Nat.le_of_ble_eq_true rfl) (fun E9 w9 hn9 hm9=>?_)
 refine call_p en104 (h0) (by repeat' (first | exact rfl | exact trivial | exact Or.inr (Or.inl ⟨_,rfl⟩) | exact Or.inr ⟨_,rfl⟩ | exact Or.inl ⟨rfl,rfl⟩ | exact Or.inl rfl | refine Or.inr ⟨_,_,rfl,Nat.zero_le _,rfl,?_⟩ | refine ⟨_,_,rfl,?_,?_⟩ | refine ⟨_,rfl,?_⟩ | exact hcc _ _ _ _| refine Or.inr (Or.inr (Or.inr ⟨_,_,rfl,?_⟩)) | exact Or.inl rfl | refine Or.inr ?_)) rfl ?_
 refine ⟨⟨rfl,by omega,by rw [hdl];omega,by rw [hdl];omega⟩,?_⟩
 refine loop_w (fun j st=>∃ (d:Nat) (c:Bool),st=dp1St ND d c∧(c=true→d≤ND.length)∧(c=false→depN ND d=depN ND ND.length)∧j=ND.length + 2 - d) (ND.length + 2) (dp1St ND 0 true) (.frz 0 rfl rfl rfl rfl ?_) ⟨0,true,rfl,by omega,by simp,by omega⟩ ?_
 ·refine ⟨⟨_,rfl,ax⟩,⟨_,rfl,ms_n (by rw [depN_len,hdl];omega) (by omega) ?_⟩,⟨_,rfl,ax⟩,trivial⟩
  refine congrArg some ?_
  rw [repN,hdl]
  rfl
 rintro j st ⟨d,c,rfl,hc1,hc2,rfl⟩
 refine br (fun hc=>?_) (fun hc=>?_)
 ·have hc:c=true:=hc
  have hd:=hc1 hc
  refine ⟨⟨rfl,by omega,by rw [hdl];omega,by rw [hdl];omega⟩,?_⟩
  refine loop_i (fun j st=>∃ (e:Nat) (L:List Nat),st=dp2St ND d (chgB ND d e) L e∧e≤ND.length∧L.length=ND.length∧(∀ i:Nat,i < e→L.getD i 0=(depN ND (d + 1)).getD i 0)∧j=ND.length - e) ND.length (dp2St ND d false (List.replicate ((dNds ND).length:Int).toNat 0) 0) (weak_b 1 rfl (by repeat' (first | exact rfl | exact we_rfl rfl | exact weL_cN (repN _) | refine ⟨_,_,rfl,?_,?_⟩)) rfl rfl rfl (by repeat' (first | exact trivial | exact we_rfl rfl | exact weL_cN (repN _) | refine ⟨⟨_,rfl,?_⟩,?_⟩))) ⟨0,_,rfl,by omega,by rw [List.length_replicate,hdl];omega,fun i hi=>by omega,by omega⟩ ?_
  rintro j st ⟨e,L,rfl,he,hL,hLv,rfl⟩
  refine br (fun hlt=>?_) (fun hlt=>?_)
  ·have hlt:e < ND.length:=by have:=hlt;simp [hdl] at this;exact this
   obtain ⟨n,hn⟩:∃ n,ND[e]? = some n:=⟨_,List.getElem?_eq_getElem hlt⟩
   have hnm:=List.mem_of_getElem? hn
   have hle:=least19_spec (depN ND d) (by rw [depN_len];exact hnl) (n:=n) (by rw [depN_len];exact hok n hnm) (depN_small (by omega)) (hsz n hnm)
   refine ⟨_,⟨by omega,dNds_get hn⟩,?_⟩
   refine call_p en105 (hle) ax rfl ?_
   refine ⟨⟨by omega,by rw [hdl];omega⟩,?_⟩
   refine ⟨by rw [cN_len];omega,?_⟩
   refine drawG_i (fun _=>false) mo (by decide +kernel) ?_
   have hv:=depN_get ND d e
   rw [hn] at hv
   have hv:(depN ND (d + 1)).getD e 0=leastF n (depN ND d):=hv
   obtain ⟨z,hz⟩:∃ z,(depN ND d)[e]? = some z:=⟨_,List.getElem?_eq_getElem (by rw [depN_len];exact hlt)⟩
   have hzd:(depN ND d).getD e 0=z:=by rw [List.getD_eq_getElem?_getD,hz];rfl
   have hcs:=chgB_succ ND d e
   rw [hv,hzd] at hcs
   have hst:(cN L).set (0 + (e:Int).toNat * 1) (DV.v (.int .i64 ((leastF n (depN ND d):Nat):Int)))=cN (L.set e (leastF n (depN ND d))):=by
    rw [show 0 + (e:Int).toNat * 1=e by omega,cN_set]
   have hLs:∀ i:Nat,i < e + 1→(L.set e (leastF n (depN ND d))).getD i 0=(depN ND (d + 1)).getD i 0:=fun i hi=>by
    by_cases hie:i=e
    ·subst hie
     rw [hv,List.getD_eq_getElem?_getD,List.getElem?_set_self (by omega)];rfl
    ·rw [List.getD_eq_getElem?_getD,List.getElem?_set_ne (Ne.symm hie),← List.getD_eq_getElem?_getD]
     exact hLv i (by omega)
   refine br (fun g=>?_) (fun g=>?_)
   ·have g:chgB ND d e=false:=by simpa using g
    rw [g,Bool.false_or] at hcs
    have hld:(cN (L.set e (leastF n (depN ND d))))[0 + (e:Int).toNat * 1]? = some (DV.v (.int .i64 ((leastF n (depN ND d):Nat):Int))):=by
     rw [show 0 + (e:Int).toNat * 1=e by omega]
     exact cN_get (List.getElem?_set_self (by omega))
    refine ⟨⟨by omega,by rw [hdl];omega⟩,?_⟩
    rw [hst]
    refine ⟨_,hld,?_⟩
    refine ⟨_,⟨by omega,dInts_get hz⟩,?_⟩
    have hbo:(!decide (((leastF n (depN ND d):Nat):Int)=(z:Int)))=chgB ND d (e + 1):=by
     rw [hcs,Bool.eq_iff_iff];simp;omega
    exact ⟨dp2St ND d (chgB ND d (e + 1)) (L.set e (leastF n (depN ND d))) (e + 1),(weak_b 1 rfl (by repeat' (first | exact rfl | exact we_rfl rfl | exact weL_cN rfl | exact we_bool hbo | exact we_int (nxt hlt (by omega)) | refine ⟨_,_,rfl,?_,?_⟩)) rfl rfl rfl (by repeat' (first | exact trivial | exact we_rfl rfl | exact weL_cN rfl | exact we_bool hbo | exact we_int (nxt hlt (by omega)) | refine ⟨⟨_,rfl,?_⟩,?_⟩))),ND.length - (e + 1),by omega,e + 1,_,rfl,by omega,by rw [List.length_set];exact hL,hLs,rfl⟩
   ·have g:chgB ND d e=true:=by simpa using g
    rw [g,Bool.true_or] at hcs
    exact ⟨dp2St ND d (chgB ND d (e + 1)) (L.set e (leastF n (depN ND d))) (e + 1),(weak_b 1 rfl (by repeat' (first | exact rfl | exact we_rfl rfl | exact weL_cN hst | exact we_bool hcs.symm | exact we_int (nxt hlt (by omega)) | refine ⟨_,_,rfl,?_,?_⟩)) rfl rfl rfl (by repeat' (first | exact trivial | exact we_rfl rfl | exact weL_cN hst | exact we_bool hcs.symm | exact we_int (nxt hlt (by omega)) | refine ⟨⟨_,rfl,?_⟩,?_⟩))),ND.length - (e + 1),by omega,e + 1,_,rfl,by omega,by rw [List.length_set];exact hL,hLs,rfl⟩
  ·have hge:e=ND.length:=by have:=hlt;simp [hdl] at this;omega
   subst hge
   have hLL:L=depN ND (d + 1):=getD_ext (by rw [hL,depN_len]) fun j=>by
    rcases Nat.lt_or_ge j ND.length with hj | hj
    ·exact hLv j hj
    ·simp only [List.getD_eq_getElem?_getD]
     rw [List.getElem?_eq_none (by omega),List.getElem?_eq_none (by rw [depN_len];omega)]
   subst hLL
   refine ⟨dp1St ND (d + 1) (chgB ND d ND.length),.frz 0 rfl rfl rfl rfl ⟨⟨_,rfl,ax⟩,⟨_,rfl,ms_n (by rw [depN_len,hdl]) (by omega) rfl⟩,⟨_,rfl,ax⟩,trivial⟩,ND.length + 2 - (d + 1),by omega,d + 1,_,rfl,fun hcc=>?_,fun hcc=>depN_all (chgB_all.1 hcc),rfl⟩
   have:depN ND (d + 1)≠depN ND d:=fun h=>by rw [chgB_all.2 h] at hcc;cases hcc
   have:=depN_lt this
   omega
 ·have hc:c=false:=hc
  rw [hc2 hc]
  exact ⟨_,ax,rfl⟩
theorem PlanR.esz {S:Sch} {ND:List Nd} {PC:List DV} (hP:PlanR S ND PC):∀ n∈ND,n.edges.length≤1099511627776:=fun n hn=>by
 have h1:=hP.wt
 rw [hP.nds] at hn
 exact (resNds_sz hn h1).2
theorem depths_spec {S:Sch} {ND:List Nd} {PC:List DV} (hP:PlanR S ND PC):EvP Tryz.prog 43 [.pt PC 0] (.sl 1 (dInts (depN ND ND.length)) none):=
 depths_gen (nodes19_spec hP) hP.ok hP.nl hP.esz fun _ _ _ _=>ax
end Go.Proofs.YtmphiikdhifhjaaGreat
set_option maxRecDepth 100000
namespace Go.Proofs.YtmphiikdhifhjaaGreat
open Go Go.RowKit Dv Tryz
def exH (k:Int):Hd:=⟨k,0,0,0,0,[],⟨emptyB,0⟩⟩
def exR (c:UInt8):Ty:=.mk ⟨9,0,0,0,0,[],⟨⟨#[c]⟩,0⟩⟩ .nil
def exP (c:UInt8):Ph:=⟨⟨⟨#[c]⟩,0⟩,false,[],0,0,0,0,[]⟩
def exS19:Sch:=⟨[⟨⟨#[97]⟩,0⟩],[],[(⟨⟨#[116]⟩,0⟩,.mk (exH 7) (.cons (exP 120) (exR 116) .nil)),(⟨⟨#[117]⟩,0⟩,.mk (exH 7) (.cons (exP 120) (.mk (exH 6) (.cons zeroPh (exR 117) .nil)) .nil))],.mk (exH 1) .nil⟩
theorem ex19_fine:(resF exS19).1=0:=by decide +kernel
theorem ex19_dep:depN (resNds exS19) (resNds exS19).length=[0,2,1,1]:=by decide +kernel
abbrev sm12St (l:List Nat) (e:Nat):St:=⟨[(0,⟨[],.sl 1 (dInts l) none⟩),(1,⟨[],.sl 1 (dInts l) none⟩),(5,⟨[],.v (.int .i64 e)⟩)],[],[]⟩
theorem same12_spec (l:List Nat) (hl:l.length≤1099511627776):EvP Tryz.prog 42 [.sl 1 (dInts l) none,.sl 1 (dInts l) none] (.v (.bool true)):=by
 have hdl:=dInts_len l
 refine ev_go (P:=Tryz.prog) tt tt_ok 5000 26 [.tmp 4] Tryz.func42 rfl Tryz.ntmps42 rfl (Nat.le_of_ble_eq_true rfl) (fun E9 w9 hn9 hm9=>?_)
 refine br (fun g=>absurd g (by simp)) (fun _=>?_)
 refine loop_i (fun j st=>∃ e:Nat,st=sm12St l e∧e≤l.length∧j=l.length - e) l.length (sm12St l 0) (weak_mk ⟨_,rfl⟩ wA rfl rfl rfl wB) ⟨0,rfl,by omega,by omega⟩ ?_
 rintro j st ⟨e,rfl,he,rfl⟩
 refine br (fun hL=>?_) (fun hL=>?_)
 ·have hlt:e < l.length:=by have:=hL;simp [hdl] at this;exact this
  obtain ⟨x,hx⟩:∃ x,l[e]? = some x:=⟨_,List.getElem?_eq_getElem hlt⟩
  refine drawG_i (fun _=>false) mo (by decide +kernel) ?_
  refine ⟨_,⟨by omega,dInts_get hx⟩,_,⟨by omega,dInts_get hx⟩,?_⟩
  refine br (fun g=>absurd g (by simp)) (fun _=>?_)
  exact ⟨sm12St l (e + 1),(weak_mk ⟨_,rfl⟩ wA rfl rfl rfl (by repeat' (first | exact trivial | exact we_rfl rfl | exact we_int (nxt hlt (by omega)) | refine ⟨⟨_,rfl,?_⟩,?_⟩))),l.length - (e + 1),by omega,e + 1,rfl,by omega,rfl⟩
 exact (rfl:_=_)
def FineΦ (S:Sch) (r:DV):Prop:=∃ b:Bool,r = .v (.bool b)∧(b=true→(resF S).1=0)
theorem fine19_spec (S:Sch) (hS:S.wt≤1099511627776):Ev Tryz.prog 40 [.agg (dSch S)] [] [] (fun r _ _=>FineΦ S r):=by
 have ga:=great17_spec S hS
 have hwr:=wrong18_spec S hS
 unfold FineΦ
 generalize resF S=R at hwr ⊢
 obtain ⟨levels,order,types,⟨rh,rp⟩⟩:=S
 refine ev_go (P:=Tryz.prog) tt tt_ok 5000 12 [.tmp 2] Tryz.func40 rfl Tryz.ntmps40 rfl (Nat.le_of_ble_eq_true rfl) (fun E9 w9 hn9 hm9=>?_)
 refine call_e en19 rfl ga ax (fun r hr=>?_)
 obtain ⟨g,rfl⟩:=hr
 cases g with
 | true=>
  exact ⟨false,rfl,fun h=>by cases h⟩
 | false=>
  refine call_p en24 (hwr) ax rfl ?_
  refine ⟨_,ft_cmp _ _ R (0,0),?_⟩
  refine ⟨_,rfl,fun h=>?_⟩
  simp [pickB] at h
  exact h.1
theorem lives19_spec:EvP Tryz.prog 41 [] (.v (.bool true)):=by
 have hwt:exS19.wt≤1099511627776:=by decide +kernel
 have hb:=(build_spec exS19 hwt).mono (Ψ:=fun r _ _=>BuiltΦ exS19 r) fun _ _ _ h=>builtΦ_of hwt h
 refine ev_go (P:=Tryz.prog) tt tt_ok 5000 41 [.tmp 0] Tryz.func41 rfl Tryz.ntmps41 rfl (Nat.le_of_ble_eq_true rfl) (fun E9 w9 hn9 hm9=>?_)
 refine call_e en26 rfl hb ax (fun r hr=>?_)
 rcases hr with ⟨hr,_⟩ | ⟨_,PC,hP,rfl⟩
 ·exact (hr ex19_fine).elim
 have hd:=depths_spec hP
 rw [ex19_dep] at hd
 have hs:=same12_spec [0,2,1,1] (by decide)
 refine call_p en43 (hd) ax rfl ?_
 refine call_p en42 (hs) ax rfl ?_
 exact (rfl:_=_)
end Go.Proofs.YtmphiikdhifhjaaGreat
set_option maxRecDepth 100000
namespace Go.Proofs.YtmphiikdhifhjaaGreat
open Go Go.RowKit Dv Tryz
def chkA:List Nat→List Nd→Ft
 | k :: r,n :: s=>if k=0 then (11,n.at') else chkA r s
 | _,_=>(0,0)
theorem chkA_drop {D:List Nat} {ND:List Nd} {e k:Nat} {n:Nd} (h1:D[e]? = some k) (h2:ND[e]? = some n):chkA (D.drop e) (ND.drop e)=if k=0 then (11,n.at') else chkA (D.drop (e + 1)) (ND.drop (e + 1)):=by
 rw [drop_cons h1,drop_cons h2,chkA]
theorem chkA_end (D:List Nat) (ND:List Nd) {e:Nat} (h:D.length≤e):chkA (D.drop e) (ND.drop e)=(0,0):=by
 rw [List.drop_of_length_le h]
 simp [chkA]
abbrev ck19St (D:List Nat) (ND:List Nd) (e:Nat):St:=
 ⟨[(3,⟨[],.sl 7 (dNds ND) none⟩),(2,⟨[],.loc 0 0⟩),(12,⟨[],.sl 1 (dInts D) none⟩),(13,⟨[],.v (.int .i64 D.length)⟩),(14,⟨[],.v (.int .i64 e)⟩)],[[.v (.int .i64 0),.v (.int .i64 0)]],[]⟩
theorem check19_spec {S:Sch} {ND:List Nd} {PC:List DV} (hP:PlanR S ND PC):EvP Tryz.prog 45 [.pt PC 0] (chkA (depN ND ND.length) ND).d:=by
 have h0:=nodes19_spec hP
 have h1:=depths_spec hP
 have hl:=depN_len ND ND.length
 have hnl:=hP.nl
 generalize depN ND ND.length=D at h1 hl ⊢
 have hdl:=dNds_len ND
 have hdi:=dInts_len D
 refine ev_go (P:=Tryz.prog) tt tt_ok 5000 29 [.cell 2 33] Tryz.func45 rfl Tryz.ntmps45 rfl (Nat.le_of_ble_eq_true rfl) (fun E9 w9 hn9 hm9=>?_)
 refine call_p en104 (h0) ax rfl ?_
 refine call_p en43 (h1) ax rfl ?_
 refine loop_i (fun j st=>∃ e:Nat,st=ck19St D ND e∧e≤ND.length∧chkA D ND=chkA (D.drop e) (ND.drop e)∧j=ND.length - e) ND.length (ck19St D ND 0) (weak_mk ⟨_,rfl⟩ wA rfl rfl rfl (by repeat' (first | exact trivial | exact we_rfl rfl | exact we_int (congrArg Nat.cast hdi) | refine ⟨⟨_,rfl,?_⟩,?_⟩))) ⟨0,rfl,by omega,rfl,by omega⟩ ?_
 rintro j st ⟨e,rfl,he,heq,rfl⟩
 refine br (fun hL=>?_) (fun hL=>?_)
 ·have hlt:e < ND.length:=by have:=hL;simp [hl] at this;exact this
  obtain ⟨n,hn⟩:∃ n,ND[e]? = some n:=⟨_,List.getElem?_eq_getElem hlt⟩
  obtain ⟨k,hk⟩:∃ k,D[e]? = some k:=⟨_,List.getElem?_eq_getElem (by omega)⟩
  rw [chkA_drop hk hn] at heq
  refine ⟨_,⟨by omega,dInts_get hk⟩,?_⟩
  refine br (fun g=>?_) (fun g=>?_)
  ·have g:k=0:=by simpa using g
   rw [if_pos g] at heq
   refine ⟨_,⟨by omega,dNds_get hn⟩,?_⟩
   rw [heq]
   exact ⟨_,ax,rfl⟩
  ·have g:¬ k=0:=by simpa using g
   rw [if_neg g] at heq
   exact ⟨ck19St D ND (e + 1),(weak_mk ⟨_,rfl⟩ wA rfl rfl rfl (by repeat' (first | exact trivial | exact we_rfl rfl | exact we_int (nxt hlt (by omega)) | refine ⟨⟨_,rfl,?_⟩,?_⟩))),ND.length - (e + 1),by omega,e + 1,rfl,by omega,heq,rfl⟩
 ·have hge:e=ND.length:=by have:=hL;simp [hl] at this;omega
  rw [heq,chkA_end D ND (by omega)]
  exact ⟨_,ax,rfl⟩
theorem check19_nil:EvP Tryz.prog 45 [.v (.pointer none)] (Ft.d (1,0)):=by
 refine ev_go (P:=Tryz.prog) tt tt_ok 5000 29 [.cell 2 33] Tryz.func45 rfl Tryz.ntmps45 rfl (Nat.le_of_ble_eq_true rfl) (fun E9 w9 hn9 hm9=>?_)
 exact ⟨_,ax,rfl⟩
abbrev cw19St (S:Sch) (W:List DV) (PC:List DV) (D:List Nat) (ND:List Nd) (e:Nat) (f:Ft):St:=
 ⟨[(1,⟨[],.loc 0 0⟩),(3,⟨[],.pt PC 0⟩),(5,⟨[],.loc 2 0⟩),(6,⟨[],.sl 1 (dInts D) none⟩),(7,⟨[],.loc 3 0⟩),(8,⟨[],.v (.int .i64 ((e:Int) - 1))⟩)],[dSch S,[.v (.int .i64 0),.v (.int .i64 0)],W,[.v (.int .i64 f.1),.v (.int .i64 f.2)]],[]⟩
theorem checks19_law (S:Sch) (hS:S.wt≤1099511627776) (_:rngS S):EvP Tryz.prog 9 [.agg (dSch S)] (.v (.bool true)):=by
 have hf:=fine19_spec S hS
 have hb:=(build_spec S hS).mono (Ψ:=fun r _ _=>BuiltΦ S r) fun _ _ _ h=>builtΦ_of hS h
 have hw:=fun h=>build18_spec S hS h
 obtain ⟨levels,order,types,⟨rh,rp⟩⟩:=S
 refine ev_go (P:=Tryz.prog) tt tt_ok 5000 52 [.tmp 2] Tryz.func9 rfl Tryz.ntmps9 rfl (Nat.le_of_ble_eq_true rfl) (fun E9 w9 hn9 hm9=>?_)
 refine call_p en45 (check19_nil) ax rfl ?_
 refine ⟨_,ft_ncmp _ _ (1,0) (1,0),?_⟩
 refine call_e en40 rfl hf ax (fun r hr=>?_)
 obtain ⟨b,rfl,h0⟩:=hr
 cases b with
 | false=>
  refine call_p en41 (lives19_spec) ax rfl ?_
  exact (rfl:_=_)
 | true=>
  have h0:=h0 rfl
  have hw:=hw h0
  refine call_e en26 rfl hb ax (fun r hr=>?_)
  rcases hr with ⟨hr,_⟩ | ⟨_,PC,hP,rfl⟩
  ·exact (hr h0).elim
  have h1:=check19_spec hP
  have h2:=fun A B=>depths19_spec 2 1 A B (resRoot ⟨levels,order,types,.mk rh rp⟩) hP.ok hP.nl hP.esz
  have hl:=depN_len (resNds ⟨levels,order,types,.mk rh rp⟩) (resNds ⟨levels,order,types,.mk rh rp⟩).length
  have hnl:=hP.nl
  generalize depN (resNds ⟨levels,order,types,.mk rh rp⟩) (resNds ⟨levels,order,types,.mk rh rp⟩).length=D at h1 h2 hl
  generalize resNds ⟨levels,order,types,.mk rh rp⟩=ND at hw h1 h2 hl hnl
  generalize resRoot ⟨levels,order,types,.mk rh rp⟩=z at hw h2
  generalize leqN _ _=f at hw
  have hdi:=dInts_len D
  refine call_p en27 (hw) ax rfl ?_
  refine call_p en44 (h2 _ _) ax rfl ?_
  have hw0:IntKind.i64.wrap (((dInts D).length:Int) - 1)=(ND.length:Int) - 1:=by rw [hdi,hl,wrap64 (by omega) (by omega)]
  refine loop_i (fun j st=>∃ e:Nat,st=cw19St ⟨levels,order,types,.mk rh rp⟩ (wC ⟨levels,order,types,.mk rh rp⟩ f (.sl 7 (dNds ND) none) z) PC D ND e (chkA (D.drop e) (ND.drop e))∧e≤ND.length∧j=e) ND.length (cw19St ⟨levels,order,types,.mk rh rp⟩ (wC ⟨levels,order,types,.mk rh rp⟩ f (.sl 7 (dNds ND) none) z) PC D ND ND.length (0,0)) (weak_mk ⟨_,rfl⟩ wA rfl rfl rfl (by repeat' (first | exact trivial | exact we_rfl rfl | exact we_int hw0 | refine ⟨⟨_,rfl,?_⟩,?_⟩))) ⟨ND.length,by rw [chkA_end D ND (by omega)],by omega,rfl⟩ ?_
  rintro j st ⟨e,rfl,he,hj⟩
  subst j
  refine br (fun hL=>?_) (fun hL=>?_)
  ·have hlt:0 < e:=by have:=hL;simp at this;omega
   obtain ⟨e,rfl⟩:∃ k,e=k + 1:=⟨e - 1,by omega⟩
   obtain ⟨n,hn⟩:∃ n,ND[e]? = some n:=⟨_,List.getElem?_eq_getElem (by omega)⟩
   obtain ⟨k,hk⟩:∃ k,D[e]? = some k:=⟨_,List.getElem?_eq_getElem (by omega)⟩
   have hst:=chkA_drop hk hn
   have hx:(((e + 1:Nat):Int) - 1).toNat=e:=by omega
   refine ⟨_,⟨by omega,by rw [hx];exact dInts_get hk⟩,?_⟩
   have hwe:IntKind.i64.wrap (((e + 1:Nat):Int) - 1 - 1)=(e:Int) - 1:=by rw [wrap64 (by omega) (by omega)];omega
   refine br (fun g=>?_) (fun g=>?_)
   ·have g:k=0:=by simpa using g
    rw [if_pos g] at hst
    refine ⟨_,⟨by omega,by rw [hx];exact dNds_get hn⟩,?_⟩
    have h1:(11:Int)=(chkA (D.drop e) (ND.drop e)).1:=by rw [hst]
    have h2:n.at'=(chkA (D.drop e) (ND.drop e)).2:=by rw [hst]
    exact ⟨cw19St ⟨levels,order,types,.mk rh rp⟩ (wC ⟨levels,order,types,.mk rh rp⟩ f (.sl 7 (dNds ND) none) z) PC D ND e (chkA (D.drop e) (ND.drop e)),(weak_b 4 rfl (by repeat' (first | exact rfl | exact we_rfl rfl | exact we_int h1 | exact we_int h2 | exact we_int hwe | refine ⟨_,_,rfl,?_,?_⟩)) rfl rfl rfl (by repeat' (first | exact trivial | exact we_rfl rfl | exact we_int h1 | exact we_int h2 | exact we_int hwe | refine ⟨⟨_,rfl,?_⟩,?_⟩))),e,by omega,e,rfl,by omega,rfl⟩
   ·have g:¬ k=0:=by simpa using g
    rw [if_neg g] at hst
    have h1:(chkA (D.drop (e + 1)) (ND.drop (e + 1))).1=(chkA (D.drop e) (ND.drop e)).1:=by rw [hst]
    have h2:(chkA (D.drop (e + 1)) (ND.drop (e + 1))).2=(chkA (D.drop e) (ND.drop e)).2:=by rw [hst]
    exact ⟨cw19St ⟨levels,order,types,.mk rh rp⟩ (wC ⟨levels,order,types,.mk rh rp⟩ f (.sl 7 (dNds ND) none) z) PC D ND e (chkA (D.drop e) (ND.drop e)),(weak_b 4 rfl (by repeat' (first | exact rfl | exact we_rfl rfl | exact we_int h1 | exact we_int h2 | exact we_int hwe | refine ⟨_,_,rfl,?_,?_⟩)) rfl rfl rfl (by repeat' (first | exact trivial | exact we_rfl rfl | exact we_int h1 | exact we_int h2 | exact we_int hwe | refine ⟨⟨_,rfl,?_⟩,?_⟩))),e,by omega,e,rfl,by omega,rfl⟩
  ·have hge:e=0:=by have:=hL;simp at this;omega
   subst hge
   refine drawG_i (fun _=>false) mo (by decide +kernel) ?_
   refine callD_p en45 (h1) ax rfl ?_
   refine ⟨_,ft_cmp _ _ (chkA D ND) (chkA D ND),?_⟩
   refine br (fun _=>?_) (fun g=>absurd g (by simp))
   refine callD_p en41 (lives19_spec) ax rfl ?_
   refine (congrArg (fun b=>DV.v (.bool b)) ?_:_=_)
   simp [pickB]
end Go.Proofs.YtmphiikdhifhjaaGreat
