/- Part 6 of the proof: Sample: make1: all sizes; Regions that draw their order, in which several new objects may come in any order; First and second values, the document's: Make; Rules for the evaluator: calls that hand back fresh rows; Rules for the evaluator: elements of rows whose cells nobody else knows, read and written whole; Rules for the evaluator: a slice literal without elements, its cells known; Rules for the evaluator: a slice literal, its cells known; A contract that hands back a fresh row is one of data alone, too; Paths of a value: plain; tree.steps; Where steps lead in a value, and that value with another one there: plain; tree: slices.Index of steps, kid, clone, Get; tree: put, Set; Sample: one: first values; Sample: two: second values; Sample: fits, First, Second; no plan; First and second values, the document's: First, tagged, Second; Second values, the document's; First and second values: how great they are; tree.write, Raw; The document's Fits; Written values: well formed; the document's Same on the same value; its Raw; The document's Kid, Get, Set of a value that fits; The document's Same of values, Set; The numbers of a plan's nodes are ints; The law of first and second values: fine, the example, the call returns true; A lattice, as its readers know it; Leq; joins are the document's; Where steps lead in a plan, and how places are seen, plain; The first edge of a name; Values along paths: what stands beside, what is alive, the value itself: plain; The document's Bottom, Right of paths; the program's Right of paths; Where steps lead: the document's Edge, Walk; the program's; The program's way along steps: fits, step, Walk; Sample: what stands beside, the nodes and edges of a path, what is alive; With which schemas nothing is wrong: the document's Wrong of chapters 20, 21; the law's fine; Which levels see a place: the program's Who; Sample: the nodes and edges of a path, what is alive; Sample: a value with another one in it; Sample: the root's value along a path; Sample: Along, Pair; the weight of a value along a path. No condition. -/
import Derived.Test.YtadhpeooehkklaaGreatMg2
import Derived.Test.YtadhpeooehkklaaGreatMg3
import Derived.Test.YtadhpeooehkklaaGreatMg4
import Derived.Test.YtadhpeooehkklaaGreatMg5
set_option linter.all false
set_option maxRecDepth 100000
namespace Go.Proofs.YtadhpeooehkklaaGreat
open Go Go.RowKit Dv Tryz
theorem renL_cN (f:Nat->Nat) (l:List Nat):renL f (cN l)=cN l:=by
 induction l with
 | nil=>rfl
 | cons z r ih=>exact congrArg (DV.v (.int .i64 (z:Int)) :: ·) ih
theorem rep_ren (f:Nat->Nat) (n:Nat):renL f (List.replicate n (vL [Value.int .i64 0])).flatten=(List.replicate n (vL [Value.int .i64 0])).flatten:=by rw [repN];exact renL_cN f _
theorem countP_one {α:Type} {p:α->Bool}:∀ {l:List α} {c:Nat},(∀ i x,l[i]? = some x->p x=true->i=c)->l.countP p<=1
 | [],_,_=>Nat.zero_le _
 | x :: r,c,h=>by
  rw [List.countP_cons];by_cases hx:p x=true
  ·have h0:=h 0 x rfl hx
   have:r.countP p=0:=List.countP_eq_zero.2 fun y hy hp=>by
    obtain ⟨i,hi,rfl⟩:=List.getElem_of_mem hy;have:=h (i + 1) r[i] (by simp [hi]) hp;omega
   rw [this,if_pos hx];exact Nat.le_refl _
  ·rw [if_neg hx];exact countP_one (c:=c - 1) fun i y hy hp=>by have:=h (i + 1) y (by simpa using hy) hp;omega
theorem secOK_of {L N:Nat} {n:Nd} {D:List Nat} {K:List Bool} (hn:NdOK L N n) (h:sevF n D K=true):SecOK D K n:=by
 have hmo:∀ {x:Ed},moB D K x=true->thB D x=true/\x.bare=false/\K.getD x.to.toNat false=true:=fun {x} h=>by
  unfold moB at h;simp only [Bool.and_eq_true,Bool.not_eq_true'] at h;exact ⟨h.1,h.2.1,h.2.2⟩
 refine ⟨fun h7=>?_,fun h8 ht=>?_⟩
 ·simp only [sevF,h7] at h;simp at h;obtain ⟨x,hx,hmx⟩:=List.any_eq_true.1 h.1;obtain ⟨_,hb,hK⟩:=hmo hmx;obtain ⟨j,hj,rfl⟩:=List.getElem_of_mem hx
  cases hc:chgF K n.edges with
  | none=>
   have:=firstN_none_iff hc j hj;unfold chgP at this;rw [gE hj] at this;simp only at this;rw [hK] at this;cases this
  | some c=>
   have hcl:=(firstN_spec hc).1;refine ⟨c,_,rfl,gE hcl,?_⟩
   cases hb:n.edges[c].bare with
   | false=>rfl
   | true=>have:=hn.bare _ (List.getElem_mem hcl) hb;omega
 ·have hone:∀ {i x},n.edges[i]? = some x->thB D x=true->chooseF D n.edges=some i:=fun hx h=>turn_none ht hx h
  have hmany:manyN D n.edges<=1:=by
   cases hc:chooseF D n.edges with
   | none=>exact countP_one (c:=0) fun i x hx hp=>by rw [hone hx hp] at hc;cases hc
   | some c=>exact countP_one (c:=c) fun i x hx hp=>by rw [hone hx hp] at hc;exact Option.some.inj hc
  simp only [sevF,h8] at h;simp at h;rcases h with h | h
  ·obtain ⟨x,hx,hmx⟩:=List.any_eq_true.1 h;obtain ⟨h1,hb,_⟩:=hmo hmx;obtain ⟨j,hj,rfl⟩:=List.getElem_of_mem hx;exact ⟨j,_,hone (gE hj) h1,gE hj,hb⟩
  ·omega
theorem cntN_set {l:List Nat} {i v:Nat} (hi:i < l.length) (h0:l.getD i 0=0) (hv:v≠0):cntN l < cntN (l.set i v):=by
 have hle:LeN l (l.set i v):=fun j hj=>by rw [getD_set hi,if_neg (fun h=>by subst h;exact hj h0)]
 rcases (leN_cnt List.length_set.symm hle).1 with h | h
 ·have h1:(l.set i v).getD i 0=v:=by rw [getD_set hi,if_pos rfl]
  rw [<- h,h0] at h1;exact (hv h1.symm).elim
 ·exact h
theorem ot_small {kf:Nat->Option (Nat × Option Nat)} (hk:∀ i k,kf i=some k->k.1<=4097) {t:List Nat} (h:OtOK kf t):∀ z∈t,z<=4097:=fun z hz=>by
 obtain ⟨i,hi,rfl⟩:=List.getElem_of_mem hz;by_cases h0:t[i]=0
 ·omega
 ·have hg:t.getD i 0=t[i]:=by rw [List.getD_eq_getElem?_getD,gE hi];all_goals rfl
  obtain ⟨k,hk1,hv⟩:=h i (by rw [hg];exact h0);rw [<- hg,hv];unfold othE;split
  ·exact hk i k hk1
  ·split
   ·omega
   ·exact cutM_le _
theorem othK_small (sz D:List Nat) (K:List Bool) (ND:List Nd):∀ i k,othK sz D K ND i=some k->k.1<=4097:=fun i k h=>by
 unfold othK at h;split at h
 ·split at h
  ·cases h;exact (othS_pos _ _ _ _).2
  ·cases h
 ·cases h
section
variable (PC:List DV) (ND:List Nd) (D:List Nat) (K:List Bool)
abbrev mk0 (e:Nat):List DV:=[.pt PC 0,.sl 7 (dNds (ND.take e)) (some 0),.sl 1 (dInts D) none,.sl 1 (dBo K) none,.v (.slice none 0 0),.v (.slice none 0 0)]
abbrev mk1St (m e:Nat):St:=
 ⟨[(0,⟨[],.pt PC 0⟩),(3,⟨[],.loc 0 0⟩),(4,⟨[],.v (.int .i64 m)⟩),(22,⟨[],.v (.int .i64 ND.length)⟩),(23,⟨[],.v (.int .i64 e)⟩)],[mk0 PC ND D K e],[⟨e,105,7,none⟩]⟩
abbrev mkO:List DV:=[.pt PC 0,.sl 7 (dNds ND) (some 0),.sl 1 (dInts D) none,.sl 1 (dBo K) none,.ms 1 1 0 ND.length ND.length,.ms 2 1 0 ND.length ND.length]
theorem mk_cc {t o:List Nat} {bx:List (List DV)} (ht:t.length=ND.length) (ho:o.length=ND.length) (h1:bx[1]? = some (cN t)) (h2:bx[2]? = some (cN o)):CcL bx 0 0 0 (mkD PC ND D K t o) (mkO PC ND D K):=
 ⟨_,_,rfl,ax,_,_,rfl,ax,_,_,rfl,ax,_,_,rfl,ax,_,_,rfl,ms_n ht (Nat.zero_le _) h1,_,_,rfl,ms_n ho (Nat.zero_le _) h2,rfl⟩
abbrev mkT:List TkE:=[⟨ND.length,105,7,none⟩]
abbrev mk2St (m d:Nat) (t o:List Nat):St:=
 ⟨[(0,⟨[],.pt PC 0⟩),(3,⟨[],.loc 0 0⟩),(65,⟨[],.v (.int .i64 (m + 1:Nat))⟩),(66,⟨[],.v (.int .i64 d)⟩)],[mkO PC ND D K,cN t,cN o],mkT ND⟩
abbrev mk3St (m d:Nat) (t o:List Nat) (e:Nat):St:=
 ⟨[(0,⟨[],.pt PC 0⟩),(3,⟨[],.loc 0 0⟩),(65,⟨[],.v (.int .i64 (m + 1:Nat))⟩),(66,⟨[],.v (.int .i64 d)⟩),(8,⟨[],.v (.int .i64 d)⟩),(72,⟨[],.sl 7 (dNds ND) (some 0)⟩),(73,⟨[],.v (.int .i64 (dNds ND).length)⟩),(74,⟨[],.v (.int .i64 e)⟩)],[mkO PC ND D K,cN t,cN o],mkT ND⟩
def szQ (d e:Nat):List Nat:=if d=0 then szR ND D 0 else szL ND D d e (szR ND D (d - 1))
theorem szQ_len (d e:Nat):(szQ ND D d e).length=ND.length:=by
 unfold szQ;split
 ·exact szR_len ND D 0
 ·rw [szL_len];exact szR_len ND D _
theorem szQ_succ {d e:Nat} {n:Nd} (hn:ND[e]? = some n):szQ ND D d (e + 1)=if 0 < d/\D.getD e 0=d then (szQ ND D d e).set e (sizeF (szQ ND D d e) D n) else szQ ND D d e:=by
 unfold szQ;by_cases h:d=0
 ·rw [if_pos h,if_pos h,if_neg (by omega)]
 ·rw [if_neg h,if_neg h,szL,hn];simp only;by_cases h2:D.getD e 0=d
  ·rw [if_pos h2,if_pos ⟨by omega,h2⟩]
  ·rw [if_neg h2,if_neg (by omega)]
theorem szQ_end (d:Nat):szQ ND D d ND.length=szR ND D d:=by
 unfold szQ;split
 ·rename_i h;rw [h]
 ·obtain ⟨k,rfl⟩:∃ k,d=k + 1:=⟨d - 1,by omega⟩;rfl
theorem szQ_zero (d:Nat):szQ ND D d 0=szR ND D (d - 1):=by
 unfold szQ;split
 ·rename_i h;rw [h]
 ·rfl
theorem szR_small:∀ d,∀ z∈szR ND D d,z<=4097:=by
 have key:∀ d e t,(∀ z∈t,z<=4097)->∀ z∈szL ND D d e t,z<=4097:=fun d e t ht=>by
  induction e with
  | zero=>exact ht
  | succ e ih=>
   rw [szL];split
   ·exact ih
   ·split
    ·intro z hz;rcases List.mem_or_eq_of_mem_set hz with h | rfl
     ·exact ih z h
     ·exact (sizeF_pos _ _ _).2
    ·exact ih
 intro d
 induction d with
 | zero=>intro z hz;rw [szR] at hz;rw [(List.mem_replicate.1 hz).2];omega
 | succ d ih=>exact key _ _ _ ih
theorem szQ_small (d e:Nat):∀ z∈szQ ND D d e,z<=4097:=by
 have key:∀ d e t,(∀ z∈t,z<=4097)->∀ z∈szL ND D d e t,z<=4097:=fun d e t ht=>by
  induction e with
  | zero=>exact ht
  | succ e ih=>
   rw [szL];split
   ·exact ih
   ·split
    ·intro z hz;rcases List.mem_or_eq_of_mem_set hz with h | rfl
     ·exact ih z h
     ·exact (sizeF_pos _ _ _).2
    ·exact ih
 unfold szQ;split
 ·exact szR_small ND D 0
 ·exact key _ _ _ (szR_small ND D _)
abbrev mk4St (c:Bool) (t o:List Nat):St:=
 ⟨[(0,⟨[],.pt PC 0⟩),(3,⟨[],.loc 0 0⟩),(11,⟨[],.v (.bool c)⟩)],[mkO PC ND D K,cN t,cN o],mkT ND⟩
abbrev mk5St (c:Bool) (t o:List Nat) (e:Nat):St:=
 ⟨[(0,⟨[],.pt PC 0⟩),(3,⟨[],.loc 0 0⟩),(11,⟨[],.v (.bool c)⟩),(107,⟨[],.sl 7 (dNds ND) (some 0)⟩),(108,⟨[],.v (.int .i64 (dNds ND).length)⟩),(109,⟨[],.v (.int .i64 e)⟩)],[mkO PC ND D K,cN t,cN o],mkT ND⟩
set_option maxHeartbeats 4000000 in
theorem smake_spec {S:Sch} (hP:PlanR S ND PC):EvP Tryz.prog 61 [.pt PC 0] (.pt (mkD PC ND (depN ND ND.length) (sevS ND (depN ND ND.length)) (szT ND (depN ND ND.length)) (otT (szT ND (depN ND ND.length)) (depN ND ND.length) (sevS ND (depN ND ND.length)) ND)) 0):=by
 have h1:=hP.len;have h2:=hP.node;have hnl:=hP.nl;have hd:=depths_spec hP;have hsv:=severals_spec hP;have hDO:=depOK ND;have hlD:=hDO.len;generalize depN ND ND.length=D at hd hsv hDO hlD ⊢
 have hsec:∀ i n,ND[i]? = some n->(sevS ND D).getD i false=true->SecOK D (sevS ND D) n:=fun i n hn h=>by
  rw [<- sevS_fix,List.getD_eq_getElem?_getD,List.getElem?_map,hn] at h;exact secOK_of (hP.ok n (mG hn)) h
 have hlK:(sevS ND D).length=ND.length:=sevN_len ND D _;generalize sevS ND D=K at hsv hsec hlK ⊢;refine ev_go (P:=Tryz.prog) tt tt_ok 5000 153 [.tmp 2] Tryz.func61 rfl Tryz.ntmps61 rfl (nL rfl) (fun E9 w9 hn9 hm9=>?_);refine call_p en120 (hd) ax rfl ?_;refine call_p en121 (hsv) ax rfl ?_;refine call_p en103 (h1) ax rfl ?_;refine loop_i (fun j st=>∃ e m:Nat,st=mk1St PC ND D K m e/\e<=ND.length/\m<=ND.length/\(∀ i,i < e->D.getD i 0<=m)/\j=ND.length - e) ND.length (mk1St PC ND D K 0 0) (weak_bt 1 ⟨0,105,7,none⟩ rfl rfl rfl wTA rfl rfl wB) ⟨0,0,rfl,by omega,by omega,fun _ h=>by omega,by omega⟩ ?_;rintro j st ⟨e,m,rfl,he,hm,hmx,rfl⟩;refine br (fun hL=>?_) (fun hL=>?_)
 ·have hlt:e < ND.length:=by simpa using hL
  obtain ⟨n,hn⟩:∃ n,ND[e]? = some n:=⟨_,gE hlt⟩;obtain ⟨z,hz⟩:∃ z,D[e]? = some z:=⟨_,gE (by omega)⟩;have hzd:D.getD e 0=z:=by rw [List.getD_eq_getElem?_getD,hz];all_goals rfl
  have hzl:=hDO.le e;have hml:(dNds (ND.take e)).length=e:=by rw [dNds_len,List.length_take];omega
  refine call_p en44 (h2 e n hn) ax rfl ?_;refine drawG_s mo (by decide +kernel) ?_;refine ⟨hml,⟨by rw [hml];simp [maxLen];omega,by rw [hml];simp;omega⟩,?_⟩;refine ⟨_,⟨by omega,dInts_get hz⟩,?_⟩
  exact ⟨mk1St PC ND D K (max m z) (e + 1),(weak_b 1 rfl (by repeat' (first | exact rfl | exact we_rfl rfl | exact we_sl (dNds_snoc hn) rfl | exact we_int (show max (m:Int) z=((max m z:Nat):Int) by omega) | exact we_int (nxt hlt (by omega)) | refine ⟨_,_,rfl,?_,?_⟩)) rfl rfl rfl (by repeat' (first | exact trivial | exact we_rfl rfl | exact we_sl (dNds_snoc hn) rfl | exact we_int (show max (m:Int) z=((max m z:Nat):Int) by omega) | exact we_int (nxt hlt (by omega)) | refine ⟨⟨_,rfl,?_⟩,?_⟩))),ND.length - (e + 1),by omega,e + 1,max m z,rfl,by omega,by omega,fun i hi=>by
   rcases Nat.lt_succ_iff_lt_or_eq.1 hi with h | rfl
   ·have:=hmx i h;omega
   ·rw [hzd];omega,rfl⟩
 ·have hge:e=ND.length:=by have:=hL;simp at this;omega
  subst hge;apply drawG_rs (.op 0 (.op 1 (.op 2 (.op 5 (.ev 3 (.ev 4 (.ev 6 (.op 8 (.op 9 (.ev 7 (.ev 10 (.op 11 (.op 12 (.ev 13 .fin .stop))) .stop) (.ev 10 (.ev 7 (.op 11 (.op 12 (.ev 13 .fin .stop))) .stop) .stop)))) .stop) (.ev 6 (.ev 4 (.op 8 (.op 9 (.ev 7 (.ev 10 (.op 11 (.op 12 (.ev 13 .fin .stop))) .stop) (.ev 10 (.ev 7 (.op 11 (.op 12 (.ev 13 .fin .stop))) .stop) .stop)))) (.ev 7 (.ev 4 (.op 8 (.op 9 (.ev 10 (.op 11 (.op 12 (.ev 13 .fin .stop))) .stop))) .stop) .stop)) .stop)) .stop))))) 1 2 mo (by decide +kernel);·repeat' (first | refine callD_p en103 (h1) ax rfl ?_ | exact ⟨rfl,by omega,by omega,by omega⟩ | exact Or.inr ⟨congrArg (fun z=>[_,z,z]) (rep_ren _ _).symm,rfl,by repeat' (first | exact trivial | refine ⟨rfl,?_⟩)⟩ | exact trivial | exact Or.inl (Or.inl rfl) | exact Or.inl endS | exact endR | refine ⟨?_,?_⟩)
  ·exact (rfl:_=_)
  have hrep:(List.replicate (ND.length:Int).toNat (vL [Value.int .i64 0])).flatten=cN (szR ND D 0):=by rw [repN];all_goals rfl
  refine loop_i (fun j st=>∃ d:Nat,st=mk2St PC ND D K m d (szR ND D (d - 1)) (List.replicate ND.length 0)/\d<=m + 1/\j=m + 1 - d) (m + 1) (mk2St PC ND D K m 0 (szR ND D 0) (List.replicate ND.length 0)) (weak_b 3 rfl (by repeat' (first | exact rfl | exact we_rfl rfl | exact weL_cN hrep | exact we_sl (congrArg dNds (List.take_length)) rfl | exact we_int (wrapN (a:=m) (b:=1) (by omega) (by omega)) | refine ⟨_,_,rfl,?_,?_⟩)) rfl rfl rfl (by repeat' (first | exact trivial | exact we_rfl rfl | exact weL_cN hrep | exact we_sl (congrArg dNds (List.take_length)) rfl | exact we_int (wrapN (a:=m) (b:=1) (by omega) (by omega)) | refine ⟨⟨_,rfl,?_⟩,?_⟩))) ⟨0,rfl,by omega,by omega⟩ ?_;rintro j st ⟨d,rfl,hdm,rfl⟩;refine br (fun hL=>?_) (fun hL=>?_)
  ·have hdl:d < m + 1:=by have:=hL;simp at this;omega
   refine loop_i (fun j st=>∃ e:Nat,st=mk3St PC ND D K m d (szQ ND D d e) (List.replicate ND.length 0) e/\e<=ND.length/\j=ND.length - e) ND.length (mk3St PC ND D K m d (szQ ND D d 0) (List.replicate ND.length 0) 0) (weak_b 3 rfl (by repeat' (first | exact rfl | exact we_rfl rfl | exact weL_cN (congrArg cN (szQ_zero ND D d).symm) | exact weL_cN rfl | refine ⟨_,_,rfl,?_,?_⟩)) rfl rfl rfl (by repeat' (first | exact trivial | exact we_rfl rfl | exact weL_cN (congrArg cN (szQ_zero ND D d).symm) | exact weL_cN rfl | refine ⟨⟨_,rfl,?_⟩,?_⟩))) ⟨0,rfl,by omega,by omega⟩ ?_;rintro j st ⟨e,rfl,he,rfl⟩;refine br (fun hL2=>?_) (fun hL2=>?_)
   ·have hlt:e < ND.length:=by have:=hL2;simp [dNds_len] at this;exact this
    obtain ⟨n,hn⟩:∃ n,ND[e]? = some n:=⟨_,gE hlt⟩;obtain ⟨z,hz⟩:∃ z,D[e]? = some z:=⟨_,gE (by omega)⟩;have hzd:D.getD e 0=z:=by rw [List.getD_eq_getElem?_getD,hz];all_goals rfl
    have hnx:=szQ_succ ND D (d:=d) hn;have hql:=szQ_len ND D d e;have hqs:=szQ_small ND D d e;have hnm:=mG hn;have hfs:=fun h8=>sfirst_spec PC ND D K (szQ ND D d e) (List.replicate ND.length 0) hlD hql hqs (hP.ok n hnm) (hP.esz n hnm) h8
    have h8:0 < d/\D.getD e 0=d->n.kind=8->∃ c e,chooseF D n.edges=some c/\n.edges[c]? = some e:=fun h h8=>by
     obtain ⟨c,x,hc,hx,_⟩:=hDO.uni hn (by omega) h8;exact ⟨c,x,hc,hx⟩
    generalize szQ ND D d e=t at hnx hql hqs hfs;have hno:¬ (0 < d/\D.getD e 0=d)->t=szQ ND D d (e + 1):=fun h=>by rw [hnx,if_neg h]
    have hyes:0 < d/\D.getD e 0=d->t.set e (sizeF t D n)=szQ ND D d (e + 1):=fun h=>by rw [hnx,if_pos h]
    refine ⟨_,⟨by omega,dNds_get hn⟩,?_⟩;refine br (fun c1=>?_) (fun c1=>?_)
    ·have c1:0 < d:=by simpa [lastG] using c1
     refine ⟨_,⟨by omega,dInts_get hz⟩,?_⟩;refine br (fun c2=>?_) (fun c2=>?_)
     ·have c2:D.getD e 0=d:=Decidable.byContradiction fun h=>by simp [lastG,pickB] at c2;omega
      have hset:=hyes ⟨c1,c2⟩;have hfs:=hfs (h8 ⟨c1,c2⟩);refine drawG_s mo (by decide +kernel) ?_;refine callD_b en122 hfs ⟨_,_,rfl,.inr ⟨0,_,rfl,Nat.zero_le _,rfl,mk_cc PC ND D K hql List.length_replicate rfl rfl⟩,_,_,rfl,ax,rfl⟩ rfl rfl ?_;refine ⟨⟨by omega,by omega⟩,?_⟩;refine ⟨by rw [cN_len];omega,?_⟩
      have hst:(cN t).set (0 + (e:Int).toNat * 1) (DV.v (.int .i64 (sizeF t D n:Nat)))=cN (szQ ND D d (e + 1)):=by
       rw [show 0 + (e:Int).toNat * 1=e by omega,cN_set,hset]
      exact ⟨mk3St PC ND D K m d (szQ ND D d (e + 1)) (List.replicate ND.length 0) (e + 1),(weak_b 3 rfl (by repeat' (first | exact rfl | exact we_rfl rfl | exact weL_cN hst | exact weL_cN rfl | exact we_int (nxt hlt (by omega)) | refine ⟨_,_,rfl,?_,?_⟩)) rfl rfl rfl (by repeat' (first | exact trivial | exact we_rfl rfl | exact weL_cN hst | exact weL_cN rfl | exact we_int (nxt hlt (by omega)) | refine ⟨⟨_,rfl,?_⟩,?_⟩))),ND.length - (e + 1),by omega,e + 1,rfl,by omega,rfl⟩
     ·have c2:¬ D.getD e 0=d:=fun h=>by simp [lastG,pickB] at c2;omega
      exact ⟨mk3St PC ND D K m d (szQ ND D d (e + 1)) (List.replicate ND.length 0) (e + 1),(weak_b 3 rfl (by repeat' (first | exact rfl | exact we_rfl rfl | exact weL_cN (congrArg cN (hno (fun h=>c2 h.2))) | exact weL_cN rfl | exact we_int (nxt hlt (by omega)) | refine ⟨_,_,rfl,?_,?_⟩)) rfl rfl rfl (by repeat' (first | exact trivial | exact we_rfl rfl | exact weL_cN (congrArg cN (hno (fun h=>c2 h.2))) | exact weL_cN rfl | exact we_int (nxt hlt (by omega)) | refine ⟨⟨_,rfl,?_⟩,?_⟩))),ND.length - (e + 1),by omega,e + 1,rfl,by omega,rfl⟩
    ·have c1:¬ 0 < d:=by simpa [lastG] using c1
     exact ⟨mk3St PC ND D K m d (szQ ND D d (e + 1)) (List.replicate ND.length 0) (e + 1),(weak_b 3 rfl (by repeat' (first | exact rfl | exact we_rfl rfl | exact weL_cN (congrArg cN (hno (fun h=>c1 h.1))) | exact weL_cN rfl | exact we_int (nxt hlt (by omega)) | refine ⟨_,_,rfl,?_,?_⟩)) rfl rfl rfl (by repeat' (first | exact trivial | exact we_rfl rfl | exact weL_cN (congrArg cN (hno (fun h=>c1 h.1))) | exact weL_cN rfl | exact we_int (nxt hlt (by omega)) | refine ⟨⟨_,rfl,?_⟩,?_⟩))),ND.length - (e + 1),by omega,e + 1,rfl,by omega,rfl⟩
   ·have hge:e=ND.length:=by have:=hL2;simp [dNds_len] at this;omega
    subst hge;exact ⟨mk2St PC ND D K m (d + 1) (szR ND D (d + 1 - 1)) (List.replicate ND.length 0),(weak_b 3 rfl (by repeat' (first | exact rfl | exact we_rfl rfl | exact weL_cN (congrArg cN (szQ_end ND D d)) | exact weL_cN rfl | exact we_int (wrapN (a:=d) (b:=1) (by omega) (by omega)) | refine ⟨_,_,rfl,?_,?_⟩)) rfl rfl rfl (by repeat' (first | exact trivial | exact we_rfl rfl | exact weL_cN (congrArg cN (szQ_end ND D d)) | exact weL_cN rfl | exact we_int (wrapN (a:=d) (b:=1) (by omega) (by omega)) | refine ⟨⟨_,rfl,?_⟩,?_⟩))),m + 1 - (d + 1),by omega,d + 1,rfl,by omega,rfl⟩
  ·have hde:d=m + 1:=by have:=hL;simp at this;omega
   subst hde
   have hall:∀ i,D.getD i 0<=m:=fun i=>by
    rcases Nat.lt_or_ge i ND.length with h | h
    ·exact hmx i h
    ·rw [List.getD_eq_getElem?_getD,List.getElem?_eq_none (by omega)];exact Nat.zero_le _
   have hT:szR ND D (m + 1 - 1)=szT ND D:=by
    have:=szR_top (ND:=ND) hall (ND.length - m);rw [show m + (ND.length - m)=ND.length by omega] at this;exact this.symm
   have hTl:=szT_len ND D;have hTs:∀ z∈szT ND D,z<=4097:=szR_small ND D _;have hks:=othK_small (szT ND D) D K ND;have hok:∀ r,OtOK (othK (szT ND D) D K ND) (otR (othK (szT ND D) D K ND) ND.length r):=fun r=>otR_ok r;have hrl:∀ r,(otR (othK (szT ND D) D K ND) ND.length r).length=ND.length:=fun r=>otR_len r;have hll:∀ e r,(otL (othK (szT ND D) D K ND) e (otR (othK (szT ND D) D K ND) ND.length r)).length=ND.length:=fun e r=>by rw [otL_len];exact hrl r
   have hkf:∀ i n,ND[i]? = some n->othK (szT ND D) D K ND i=if K.getD i false=true then some (othS (szT ND D) D K n) else none:=fun i n h=>by unfold othK;rw [h]
   have hF:otT (szT ND D) D K ND=otR (othK (szT ND D) D K ND) ND.length ND.length:=rfl;rw [hF];rw [hT];generalize szT ND D=t at hTl hTs hks hok hrl hll hkf ⊢;refine loop_i (fun j st=>∃ (r:Nat) (c:Bool),st=mk4St PC ND D K c t (otR (othK t D K ND) ND.length r)/\(c=true->r<=cntN (otR (othK t D K ND) ND.length r))/\(c=false->otR (othK t D K ND) ND.length (r + 1)=otR (othK t D K ND) ND.length r)/\j=if c=true then ND.length + 1 - r else 0) (ND.length + 1) (mk4St PC ND D K true t (otR (othK t D K ND) ND.length 0)) (weak_b 3 rfl (by repeat' (first | exact rfl | exact we_rfl rfl | exact weL_cN rfl | refine ⟨_,_,rfl,?_,?_⟩)) rfl rfl rfl (by repeat' (first | exact trivial | exact we_rfl rfl | exact weL_cN rfl | refine ⟨⟨_,rfl,?_⟩,?_⟩))) ⟨0,true,rfl,fun _=>Nat.zero_le _,fun h=>(by cases h),by simp⟩ ?_;rintro j st ⟨r,c,rfl,hct,hcf,rfl⟩;refine br (fun hc=>?_) (fun hc=>?_)
   ·have hc:c=true:=hc;subst hc;have hcr:=hct rfl;have hcn:=cntN_le (otR (othK t D K ND) ND.length r);rw [hrl] at hcn;refine loop_i (fun j st=>∃ (e:Nat) (c':Bool),st=mk5St PC ND D K c' t (otL (othK t D K ND) e (otR (othK t D K ND) ND.length r)) e/\e<=ND.length/\(c'=true->cntN (otR (othK t D K ND) ND.length r) < cntN (otL (othK t D K ND) e (otR (othK t D K ND) ND.length r)))/\(c'=false->otL (othK t D K ND) e (otR (othK t D K ND) ND.length r)=otR (othK t D K ND) ND.length r)/\j=ND.length - e) ND.length (mk5St PC ND D K false t (otR (othK t D K ND) ND.length r) 0) (weak_b 3 rfl (by repeat' (first | exact rfl | exact we_rfl rfl | exact weL_cN rfl | refine ⟨_,_,rfl,?_,?_⟩)) rfl rfl rfl (by repeat' (first | exact trivial | exact we_rfl rfl | exact weL_cN rfl | refine ⟨⟨_,rfl,?_⟩,?_⟩))) ⟨0,false,rfl,by omega,fun h=>(by cases h),fun _=>rfl,by omega⟩ ?_;rintro j st ⟨e,c',rfl,he,ht',hf',rfl⟩;refine br (fun hL2=>?_) (fun hL2=>?_)
    ·have hlt:e < ND.length:=by have:=hL2;simp [dNds_len] at this;exact this
     obtain ⟨n,hn⟩:∃ n,ND[e]? = some n:=⟨_,gE hlt⟩;obtain ⟨b,hb⟩:∃ b,K[e]? = some b:=⟨_,gE (by omega)⟩;have hbd:K.getD e false=b:=by rw [List.getD_eq_getElem?_getD,hb];all_goals rfl
     have hol:=hll e r;have hoo:=(otL_ok (kf:=othK t D K ND) e (by rw [hrl];omega) (hok r)).1;have hos:=ot_small hks hoo;have hk:=hkf e n hn;have hnm:=mG hn;have hsd:=fun hS=>ssecond_spec PC ND D K t (otL (othK t D K ND) e (otR (othK t D K ND) ND.length r)) hlD hlK hTl hol hTs hos (hP.ok n hnm) (hP.esz n hnm) hS;have hsc:=hsec e n hn;have hnx:otL (othK t D K ND) (e + 1) (otR (othK t D K ND) ND.length r)=otI (othK t D K ND) e (otL (othK t D K ND) e (otR (othK t D K ND) ND.length r)):=rfl;have hkn:=@otI_known (othK t D K ND) e _ hoo;generalize otL (othK t D K ND) e (otR (othK t D K ND) ND.length r)=o at ht' hf' hol hoo hos hsd hnx hkn ⊢;obtain ⟨z,hz⟩:∃ z,o[e]? = some z:=⟨_,gE (by omega)⟩;have hzd:o.getD e 0=z:=by rw [List.getD_eq_getElem?_getD,hz];all_goals rfl
     refine ⟨_,⟨by omega,dNds_get hn⟩,?_⟩;refine ⟨_,⟨by omega,dBo_get hb⟩,?_⟩;refine br (fun c1=>?_) (fun c1=>?_)
     ·have c1:b=true:=by simpa [lastG] using c1
      refine ⟨⟨by omega,by omega⟩,?_⟩;refine ⟨DV.v (.int .i64 (z:Int)),(by rw [show 0 + (e:Int).toNat * 1=e by omega];exact cN_get hz),?_⟩;refine br (fun c2=>?_) (fun c2=>?_)
      ·have c2:z=0:=by simpa [lastG,pickB] using c2
       rw [hbd,c1,if_pos rfl] at hk;have hset:otL (othK t D K ND) (e + 1) (otR (othK t D K ND) ND.length r)=o.set e (othE o (othS t D K n)):=by rw [hnx];unfold otI;rw [hk]
       have hle:=(otI_ok (kf:=othK t D K ND) (i:=e) (by omega) hoo).2;rw [<- hnx,hset] at hle;have hcs:=fun hv=>cntN_set (l:=o) (i:=e) (v:=othE o (othS t D K n)) (by omega) (by rw [hzd];exact c2) hv;have hcl:=(leN_cnt List.length_set.symm hle).2;have hs0:othE o (othS t D K n)=0->o.set e (othE o (othS t D K n))=o:=fun h=>set_self _ (by rw [hzd,c2,h]);have hsd:=hsd (hsc (by rw [hbd];exact c1));generalize othE o (othS t D K n)=v at hset hle hcs hcl hs0 hsd;refine drawG_s mo (by decide +kernel) ?_;refine callD_b en123 hsd ⟨_,_,rfl,.inr ⟨0,_,rfl,Nat.zero_le _,rfl,mk_cc PC ND D K hTl hol rfl rfl⟩,_,_,rfl,ax,rfl⟩ rfl rfl ?_;refine ⟨⟨by omega,by omega⟩,?_⟩;refine ⟨by rw [cN_len];omega,?_⟩
       have hst:(cN o).set (0 + (e:Int).toNat * 1) (DV.v (.int .i64 (v:Nat)))=cN (o.set e v):=by
        rw [show 0 + (e:Int).toNat * 1=e by omega,cN_set]
       have hvg:(cN (o.set e v))[e]? = some (DV.v (.int .i64 (v:Nat))):=cN_get (by rw [List.getElem?_set_self (by omega)]);refine br (fun c3=>?_) (fun c3=>?_)
       ·have c3:c'=false:=by simpa [lastG] using c3
        have hf':=hf' c3;refine ⟨⟨by omega,by omega⟩,?_⟩;refine ⟨DV.v (.int .i64 (v:Nat)),(by rw [hst,show 0 + (e:Int).toNat * 1=e by omega];exact hvg),?_⟩;have hnew:v≠0->cntN (otR (othK t D K ND) ND.length r) < cntN (otL (othK t D K ND) (e + 1) (otR (othK t D K ND) ND.length r)):=fun h=>by rw [hset,<- hf'];exact hcs h
        have hold:v=0->otL (othK t D K ND) (e + 1) (otR (othK t D K ND) ND.length r)=otR (othK t D K ND) ND.length r:=fun h=>by rw [hset,hs0 h,hf']
        have hstt:=weL_cN (n:=3) (m:=1) (tk:=mkT ND) (hst.trans (congrArg cN hset.symm));clear hset hle hcl hs0 hcs hst hvg hsd
        cases v with
        | zero=>exact ⟨mk5St PC ND D K false t (otL (othK t D K ND) (e + 1) (otR (othK t D K ND) ND.length r)) (e + 1),(weak_b 3 rfl (by repeat' (first | exact rfl | exact we_rfl rfl | exact weL_cN rfl | exact hstt | exact we_int (nxt hlt (by omega)) | refine ⟨_,_,rfl,?_,?_⟩)) rfl rfl rfl (by repeat' (first | exact trivial | exact we_rfl rfl | exact weL_cN rfl | exact hstt | exact we_int (nxt hlt (by omega)) | refine ⟨⟨_,rfl,?_⟩,?_⟩))),ND.length - (e + 1),by omega,e + 1,false,rfl,by omega,fun h=>(by cases h),fun _=>hold rfl,rfl⟩
        | succ v=>
         have hp:DV.v (.bool (decide ((0:Int) < ((v + 1:Nat):Int))))=DV.v (.bool true):=congrArg (fun b=>DV.v (.bool b)) (decide_eq_true (by omega));exact ⟨mk5St PC ND D K true t (otL (othK t D K ND) (e + 1) (otR (othK t D K ND) ND.length r)) (e + 1),(weak_b 3 rfl (by repeat' (first | exact rfl | exact we_rfl rfl | exact weL_cN rfl | exact hstt | exact Or.inl ⟨hp,rfl⟩ | exact we_int (nxt hlt (by omega)) | refine ⟨_,_,rfl,?_,?_⟩)) rfl rfl rfl (by repeat' (first | exact trivial | exact we_rfl rfl | exact weL_cN rfl | exact hstt | exact Or.inl ⟨hp,rfl⟩ | exact we_int (nxt hlt (by omega)) | refine ⟨⟨_,rfl,?_⟩,?_⟩))),ND.length - (e + 1),by omega,e + 1,true,rfl,by omega,fun _=>hnew (Nat.succ_ne_zero v),fun h=>(by cases h),rfl⟩
       ·have c3:c'=true:=by simpa [lastG] using c3
        have ht':=ht' c3;exact ⟨mk5St PC ND D K true t (otL (othK t D K ND) (e + 1) (otR (othK t D K ND) ND.length r)) (e + 1),(weak_b 3 rfl (by repeat' (first | exact rfl | exact we_rfl rfl | exact weL_cN rfl | exact weL_cN (hst.trans (congrArg cN hset.symm)) | exact we_int (nxt hlt (by omega)) | exact we_bool c3 | refine ⟨_,_,rfl,?_,?_⟩)) rfl rfl rfl (by repeat' (first | exact trivial | exact we_rfl rfl | exact weL_cN rfl | exact weL_cN (hst.trans (congrArg cN hset.symm)) | exact we_int (nxt hlt (by omega)) | exact we_bool c3 | refine ⟨⟨_,rfl,?_⟩,?_⟩))),ND.length - (e + 1),by omega,e + 1,true,rfl,by omega,fun _=>by rw [hset];omega,fun h=>(by cases h),rfl⟩
      ·have c2:¬ z=0:=by simpa [lastG,pickB] using c2
       have hsk:=hnx.trans (hkn (by rw [hzd];exact c2));exact ⟨mk5St PC ND D K c' t (otL (othK t D K ND) (e + 1) (otR (othK t D K ND) ND.length r)) (e + 1),(weak_b 3 rfl (by repeat' (first | exact rfl | exact we_rfl rfl | exact weL_cN rfl | exact weL_cN (congrArg cN hsk.symm) | exact we_int (nxt hlt (by omega)) | refine ⟨_,_,rfl,?_,?_⟩)) rfl rfl rfl (by repeat' (first | exact trivial | exact we_rfl rfl | exact weL_cN rfl | exact weL_cN (congrArg cN hsk.symm) | exact we_int (nxt hlt (by omega)) | refine ⟨⟨_,rfl,?_⟩,?_⟩))),ND.length - (e + 1),by omega,e + 1,c',rfl,by omega,by rw [hsk];exact ht',by rw [hsk];exact hf',rfl⟩
     ·have c1:b=false:=by simpa [lastG] using c1
      have hsk:otL (othK t D K ND) (e + 1) (otR (othK t D K ND) ND.length r)=o:=by rw [hnx];unfold otI;rw [hk,hbd,c1];all_goals rfl
      exact ⟨mk5St PC ND D K c' t (otL (othK t D K ND) (e + 1) (otR (othK t D K ND) ND.length r)) (e + 1),(weak_b 3 rfl (by repeat' (first | exact rfl | exact we_rfl rfl | exact weL_cN rfl | exact weL_cN (congrArg cN hsk.symm) | exact we_int (nxt hlt (by omega)) | refine ⟨_,_,rfl,?_,?_⟩)) rfl rfl rfl (by repeat' (first | exact trivial | exact we_rfl rfl | exact weL_cN rfl | exact weL_cN (congrArg cN hsk.symm) | exact we_int (nxt hlt (by omega)) | refine ⟨⟨_,rfl,?_⟩,?_⟩))),ND.length - (e + 1),by omega,e + 1,c',rfl,by omega,by rw [hsk];exact ht',by rw [hsk];exact hf',rfl⟩
    ·have hge:e=ND.length:=by have:=hL2;simp [dNds_len] at this;omega
     subst hge;have hR:otL (othK t D K ND) ND.length (otR (othK t D K ND) ND.length r)=otR (othK t D K ND) ND.length (r + 1):=rfl;rw [hR] at ht' hf';refine ⟨mk4St PC ND D K c' t (otR (othK t D K ND) ND.length (r + 1)),(weak_b 3 rfl (by repeat' (first | exact rfl | exact we_rfl rfl | exact weL_cN rfl | refine ⟨_,_,rfl,?_,?_⟩)) rfl rfl rfl (by repeat' (first | exact trivial | exact we_rfl rfl | exact weL_cN rfl | refine ⟨⟨_,rfl,?_⟩,?_⟩))),if c'=true then ND.length + 1 - (r + 1) else 0,?_,r + 1,c',rfl,fun h=>by have:=ht' h;omega,fun h=>?_,rfl⟩
     ·rw [if_pos rfl];split<;>omega
     ·show otL _ _ (otR (othK t D K ND) ND.length (r + 1))=_;rw [hf' h,hR,hf' h]
   ·have hc:c=false:=hc;rw [otR_all (hcf hc)];exact ⟨.pt (mkD PC ND D K t (otR (othK t D K ND) ND.length ND.length)) 0,Or.inr ⟨0,_,rfl,Nat.zero_le _,rfl,mk_cc PC ND D K hTl (hrl _) rfl rfl⟩,rfl⟩
end
end Go.Proofs.YtadhpeooehkklaaGreat
set_option maxRecDepth 100000
namespace Go.Proofs.YtadhpeooehkklaaGreat
open Go Go.RowKit
namespace Dv
section
variable {X:Ctx} {st:St}
end
end Dv
end Go.Proofs.YtadhpeooehkklaaGreat
set_option maxRecDepth 100000
namespace Go.Proofs.YtadhpeooehkklaaGreat
open Go Go.RowKit Dv Tryz
section
variable (a b:Nat) (A B:List (List DV)) (ND:List Nd) (z:Int)
abbrev z54:List DV:=[.v (.slice none 0 0),.v (.slice none 0 0),.v (.slice none 0 0),.v (.int .i64 0),.v (.slice none 0 0),.v (.slice none 0 0),.v (.slice none 0 0),.v (.slice none 0 0)]
end
end Go.Proofs.YtadhpeooehkklaaGreat
namespace Go.Proofs.YtadhpeooehkklaaGreat
namespace Dv
open Go Go.RowKit
mutual
def shD (m:Nat):DV->DV
 | .agg l=>.agg (shL m l)
 | .tup l=>.tup (shL m l)
 | .sl e es tk=>.sl e es (match tk with | some k=>some (m + k) | none=>none)
 | .fn f a b=>.fn f (shL m a) (shL m b)
 | .ifc t x=>.ifc t (shD m x)
 | .v x=>.v x
 | .ud=>.ud
 | .pt cs o=>.pt cs o
 | .loc i o=>.loc i o
 | .el i o=>.el i o
 | .ms i e o l c=>.ms i e o l c
def shL (m:Nat):List DV->List DV
 | []=>[]
 | d :: r=>shD m d :: shL m r
end
mutual
theorem shD_sound {m:Nat} {E2 E:En} (hβ:E2.β=[]) (hc:E.c=E2.c) (ht:∀ (k:Nat) q,E2.tk[k]? = some q->E.tk[m + k]? = some q/\E.τ[m + k]? = E2.τ[k]?):∀ {d:DV} {v:Value},Rv E2 d v->Rv E (shD m d) v
 | .v x,v,h=>by simpa only [Rv,shD] using h
 | .ud,v,h=>by simpa only [Rv,shD] using h
 | .agg l,v,h=>by
  simp only [Rv,shD] at h ⊢;obtain ⟨vs,h1,h2,h3⟩:=h;exact ⟨vs,h1,shL_sound hβ hc ht h2,h3⟩
 | .tup l,v,h=>by
  simp only [Rv,shD] at h ⊢;obtain ⟨vs,h1,h2⟩:=h;exact ⟨vs,h1,shL_sound hβ hc ht h2⟩
 | .sl e es tk,v,h=>by
  have he:E.cl=E2.cl:=by simp [En.cl,hc]
  simp only [Rv,shD] at h ⊢;obtain ⟨b,n,cap,h1,h2,h3,h4⟩:=h;refine ⟨b,n,cap,h1,h2,fun hn=>⟨(h3 hn).1,by rw [he];exact (h3 hn).2⟩,?_⟩;intro k' hk'
  cases tk with
  | none=>cases hk'
  | some k=>
   simp only [oI] at hk';subst hk';obtain ⟨q,g1,g2,g3⟩:=h4 k rfl;obtain ⟨g4,g5⟩:=ht k q g1;exact ⟨q,g4,g2,fun hn=>by rw [g5];exact g3 hn⟩
 | .pt cs off,v,h=>by
  have he:E.cl=E2.cl:=by simp [En.cl,hc]
  simp only [Rv,shD] at h ⊢;rw [he];exact h
 | .loc i off,v,h=>by
  simp only [Rv] at h;obtain ⟨b,h1,_⟩:=h;rw [hβ] at h1;simp at h1
 | .el i off,v,h=>by
  simp only [Rv] at h;obtain ⟨b,h1,_⟩:=h;rw [hβ] at h1;simp at h1
 | .ms i e off len cap,v,h=>by
  simp only [Rv] at h;obtain ⟨b,_,h1,_⟩:=h;rw [hβ] at h1;simp at h1
 | .fn f a b,v,h=>by
  simp only [Rv,shD] at h ⊢;obtain ⟨l,r,h1,h2,h3⟩:=h;exact ⟨l,r,h1,shL_sound hβ hc ht h2,shL_sound hβ hc ht h3⟩
 | .ifc t x,v,h=>by
  simp only [Rv,shD] at h ⊢;obtain ⟨z,h1,h2⟩:=h;exact ⟨z,h1,shD_sound hβ hc ht h2⟩
theorem shL_sound {m:Nat} {E2 E:En} (hβ:E2.β=[]) (hc:E.c=E2.c) (ht:∀ (k:Nat) q,E2.tk[k]? = some q->E.tk[m + k]? = some q/\E.τ[m + k]? = E2.τ[k]?):∀ {l:List DV} {vs:List Value},RvL E2 l vs->RvL E (shL m l) vs
 | [],vs,h=>by simpa only [RvL,shL] using h
 | d :: r,vs,h=>by
  simp only [RvL,shL] at h ⊢;obtain ⟨v,s,h1,h2,h3⟩:=h;exact ⟨v,s,h1,shD_sound hβ hc ht h2,shL_sound hβ hc ht h3⟩
end
section
variable {X:Ctx} {st:St} {k:List It} {E:En} {a:Act} {w:World}
theorem quiet_relF (h:Rel X E st a w) (hst:X.still=false) {E2:En} {w':World} (hm:Modd (E.cl).S w w') (he:Env E2 [] w') (hn:Nw E.cl E2 w):Rel X ⟨E2.c,E.β,E.tk ++ E2.tk,E.τ ++ E2.τ⟩ ⟨st.sl,st.bx,st.tk ++ E2.tk⟩ a w':=by
 have hq:=quiet_rel h hst hm he hn;have hfr:∀ (j:Nat) y g,E2.τ[j]? = some y->y.ownBlock=some g->w.heap.size<=g:=fun j y g hy hg=>hn.tn j y g (Nat.zero_le _) hy hg;have hold:∀ (k:Nat) y g,E.τ[k]? = some y->y.ownBlock=some g->g < w.heap.size:=fun k y g hy hg=>(h.env.own (mG hy) hg).1;have htl:E.τ.length=E.tk.length:=h.env.tl
 have hτ:∀ (k:Nat) y,(E.τ ++ E2.τ)[k]? = some y->(k < E.τ.length/\E.τ[k]? = some y)∨(E.τ.length<=k/\E2.τ[k - E.τ.length]? = some y):=fun k y hy=>by
  rw [List.getElem?_append] at hy;split at hy
  ·rename_i hk;exact .inl ⟨hk,hy⟩
  ·rename_i hk;exact .inr ⟨by omega,hy⟩
 have hx:Ext ⟨E2.c,E.β,E.tk,E.τ⟩ ⟨E2.c,E.β,E.tk ++ E2.tk,E.τ ++ E2.τ⟩:=⟨fun _ _ h=>h,fun _ _ h=>h,fun j q hj=>by
  have hj:E.tk[j]? = some q:=hj;have hlt:=(gS hj).1;refine ⟨q,by show (E.tk ++ _)[j]? = _;rw [List.getElem?_append_left hlt];exact hj,.inl ⟨rfl,?_⟩⟩;show (E.τ ++ _)[j]? = _
  rw [List.getElem?_append_left (by rw [htl];exact hlt)]⟩
 refine rel_env hq hx ?_ (by show E.tk ++ _=_;rw [h.tk]) ?_ hq.fr (noSt hst) hq.bt
 ·exact {
   len:=h.env.len
   tl:=by show (E.τ ++ _).length=(E.tk ++ _).length;simp [htl,he.tl]
   bxs:=fun i cs hi=>by
    obtain ⟨b,t,arr,hb,hw,hc⟩:=hq.env.bxs i cs hi;exact ⟨b,t,arr,hb,hw,hc.mono hx⟩
   inj:=h.env.inj
   sub:=he.sub
   pc:=hq.env.pc
   tks:=fun j q y hqj hy=>by
    have hqj:(E.tk ++ E2.tk)[j]? = some q:=hqj;rcases hτ j y hy with ⟨hlt,hy'⟩ | ⟨hle,hy'⟩
    ·rw [List.getElem?_append_left (by rw [<- htl];exact hlt)] at hqj;exact hq.env.tks j q y hqj hy'
    ·rw [List.getElem?_append_right (by rw [<- htl];exact hle),<- htl] at hqj;rcases he.tks _ q y hqj hy' with h1 | ⟨g,cap,cur,rfl,h1,h2,h3,h4,_,h6⟩
     ·exact .inl h1
     ·refine .inr ⟨g,cap,cur,rfl,h1,h2,h3,h4,fun hm'=>?_,h6⟩;have:=hfr _ _ g hy' rfl;have:=h.env.block_lt hm';omega
   tkd:=fun i j y y' g hij hy hy' hg hg'=>by
    rcases hτ i y hy with ⟨_,h1⟩ | ⟨h0,h1⟩
    ·rcases hτ j y' hy' with ⟨_,h2⟩ | ⟨_,h2⟩
     ·exact h.env.tkd i j y y' g hij h1 h2 hg hg'
     ·have:=hold i y g h1 hg;have:=hfr _ y' g h2 hg';omega
    ·rcases hτ j y' hy' with ⟨_,h2⟩ | ⟨h00,h2⟩
     ·have:=hold j y' g h2 hg';have:=hfr _ y g h1 hg;omega
     ·exact he.tkd _ _ y y' g (by omega) h1 h2 hg hg' }
 ·exact {
   c:=hq.nw.c
   cn:=hq.nw.cn
   β:=h.nw.β
   tk:=fun j q0 y0 hq0 hy0=>by
    obtain ⟨q',y',h1,h2,h3⟩:=h.nw.tk j q0 y0 hq0 hy0;exact ⟨q',y',by show (E.tk ++ _)[j]? = _;rw [List.getElem?_append_left (gS h1).1];exact h1,by show (E.τ ++ _)[j]? = _;rw [List.getElem?_append_left (gS h2).1];exact h2,h3⟩
   tn:=fun j y g hj hy hg=>by
    rcases hτ j y hy with ⟨_,h1⟩ | ⟨_,h1⟩
    ·exact h.nw.tn j y g hj h1 hg
    ·exact Nat.le_trans h.fr.size (hfr _ y g h1 hg)
   l0:=h.nw.l0 }
theorem calls_f {P:Program} (h:Rel X E st a w) (hst:X.still=false) {f:FuncId} {args args':List DV} {vs:List Value} {Φ:DV->List (List DV)->List TkE->Prop} (hc:EvF P f args' [] [] Φ) (ha:CcL [] 0 0 0 args' args) (hv:RvL E args vs) :
  Calls P f vs.toArray w fun e w'=>∃ v E' d tks,e = .returned v/\Rel X E' ⟨st.sl,st.bx,st.tk ++ tks⟩ a w' /\ Rv E' (shD st.tk.length d) v/\Φ d [] tks/\Modd E.cl.S w w' /\ Ext E E' /\ E'.β=E.β:=by
 have hv':RvL E.cl args' vs:=CcL.sound (E:=E) (E':=E.cl) ⟨fun _ _ h=>h,fun i cs _ hi=>by simp at hi⟩ (Low.zero _ _) ha hv;refine (hc E.cl w vs (env_cl h.env) rfl hv').mono ?_;rintro e w' ⟨v,rfl,hm,_,d,os,E2,he,hβ,_,hn,hvd,hΦ⟩;have hβ:E2.β=[]:=hβ
 have hos:os=[]:=by
  have:=he.len;rw [hβ] at this;exact List.eq_nil_of_length_eq_zero this.symm
 subst hos;have htl:E.τ.length=E.tk.length:=h.env.tl
 have hx:Ext E ⟨E2.c,E.β,E.tk ++ E2.tk,E.τ ++ E2.τ⟩:=⟨hn.c,fun _ _ h=>h,fun j q hj=>by
  have hlt:=(gS hj).1;refine ⟨q,by show (E.tk ++ _)[j]? = _;rw [List.getElem?_append_left hlt];exact hj,.inl ⟨rfl,?_⟩⟩;show (E.τ ++ _)[j]? = _
  rw [List.getElem?_append_left (by rw [htl];exact hlt)]⟩
 refine ⟨v,_,d,E2.tk,rfl,quiet_relF h hst hm he hn,shD_sound (E2:=E2) (E:=⟨E2.c,E.β,E.tk ++ E2.tk,E.τ ++ E2.τ⟩) (m:=st.tk.length) hβ rfl (fun k q hq=>?_) hvd,hΦ,hm,hx,rfl⟩;rw [<- h.tk];constructor
 ·show (E.tk ++ E2.tk)[_]? = _;rw [List.getElem?_append_right (by omega)];simpa using hq
 ·show (E.τ ++ E2.τ)[_]? = _;rw [List.getElem?_append_right (by omega),htl];simp
theorem call_f {f:FuncId} {args args':List DV} {d:Nat} (hen:Enters X.P f) (hd:okD X.nt st.sl (some d)=true) {Φ:DV->List (List DV)->List TkE->Prop} (hc:EvF X.P f args' [] [] Φ) (ha:CcL [] 0 0 0 args' args)
  (hk:∀ r tks,Φ r [] tks->go X 4000 k ⟨(d,⟨[],shD st.tk.length r⟩) :: st.sl,st.bx,st.tk ++ tks⟩) (hst:X.still=false:=by exact rfl):CallG X f args (some d) k st:=by
 refine ⟨hen,hst,fun E a w vs h hv=>(calls_f h hst hc ha hv).mono ?_⟩;rintro e w' ⟨v,E',r,tks,rfl,hrel,hr,hΦ,_⟩;exact go_sound 4000 _ _ (hk r tks hΦ) E' _ w' (put_rel hrel hd _ v hr)
end
end Dv
end Go.Proofs.YtadhpeooehkklaaGreat
namespace Go.Proofs.YtadhpeooehkklaaGreat
namespace Dv
open Go Go.RowKit
section
variable {X:Ctx} {st:St} {k:List It} {E:En} {a:Act} {w:World}
theorem own_row (h:Rel X E st a w) {es:List (List DV)} {cs:List DV} {kt m ety e:Nat} {v:Value} (hv:Rv E (.sl 0 es (some kt)) v) (hq:st.tk[kt]? = some ⟨m,ety,e,some cs⟩) (hes:es.length=m) (hm:0 < m) :
  ∃ g cap,∃ cur:Array Value,v = .slice (some ⟨g,0,none⟩) m cap/\E.tk[kt]? = some ⟨m,ety,e,some cs⟩/\E.τ[kt]? = some v/\w.heap[g]? = some (.cells cur ety (0,0))/\cur.size=cap * e/\cs.length=m * e/\RvC E.cl cs (cur.toList.take (m * e))/\m<=cap/\cap<=maxLen/\g ∉ E.β/\∀ x u,E.c x=some u->x.block=g->x.off < 0:=by
 unfold Rv at hv;obtain ⟨bs,ns,caps,e1,⟨hns,hsc⟩,hsr,hstk⟩:=hv;subst hns;obtain ⟨q',hq',_,hτk⟩:=hstk kt rfl;have hq2:E.tk[kt]? = some ⟨m,ety,e,some cs⟩:=by rw [h.tk];exact hq
 rw [hq2] at hq';simp only [oI] at hq';subst hq';have hy:=hτk hes;rcases h.env.tks kt _ _ hq2 hy with ⟨_,hn0,_⟩ | ⟨g,cap,cur,hv0,hw0,⟨hs0,hown0⟩,hnc0,hcm0,hb0,hc0⟩
 ·simp only at hn0;omega
 obtain ⟨h5,h6⟩:=hown0 cs rfl;exact ⟨g,cap,cur,hv0,hq2,hy,hw0,hs0,h5,h6,hnc0,hcm0,hb0,hc0⟩
theorem own_idx {o1:Oper} {t et e by' nn m g cap:Nat} {bb:Bool} {zz:List Value} {z:Int} {kd:IntKind} {s ix:Operand} (h1:o1.op = .indexAddr t s ix) (e1:a.eval s = .slice (some ⟨g,0,none⟩) m cap) (e2:a.eval ix = .int kd z)
  (hT:X.T.find t=some ⟨nn,bb,.sl et e by',zz⟩) (hz:0<=z/\z < m) (w:World):(execOp a.eval o1).run X.P w = .ok (.value (.pointer (some ⟨g,z.toNat * e,none⟩))) w:=by
 obtain ⟨hu,ii,zv,hi2,_,hsz2,_,_⟩:=und_sl X.hT hT;have hsz':szOf X.P et=some e:=by rw [size_of_info hi2,hsz2]
 have hrun:(Instr.indexAt t (.slice (some ⟨g,0,none⟩) m cap) (.int kd z)).run X.P w = .ok (.pointer (some ⟨g,z.toNat * e,none⟩)) w:=by
  simp [Instr.indexAt,asIntOf,run_underlying hu,hz.1,hz.2,run_sizeOf' hsz',Addr.add_lit]
 simp only [execOp,h1,e1,e2,Sem.run_bind,hrun,Result.andThen_ok,Sem.run_pure]
theorem own_sto {o2:Oper} {d1 kt ty e m ety:Nat} {z:Int} {es:List (List DV)} {cs cs':List DV} {v:Value} {x:Operand} {dv:DV} {g cap:Nat}
  (hr1:Rel X E st a w) (h2:o2.op = .store ty (.tmp d1) x) (ht1:a.eval (.tmp d1) = .pointer (some ⟨g,z.toNat * e,none⟩)) (hv:Rv E (.sl 0 es (some kt)) v) (hvg:v = .slice (some ⟨g,0,none⟩) m cap)
  (hx:rv st [] x=some dv) (hdv:eraL dv.cells (fun l=>some l)=some cs') (hdc:dv.cells.length=e) (he0:0 < e)
  (hsz:X.T.sz ty=some e) (hq:st.tk[kt]? = some ⟨m,ety,e,some cs⟩) (hes:es.length=m) (hz:0<=z/\z < m) (hst:X.still=false) :
  ∃ w' E',(execOp a.eval o2).run X.P w = .ok .skip w' /\ Rel X E' ⟨st.sl,st.bx,st.tk.set kt ⟨m,ety,e,some (cs.take (z.toNat * e) ++ cs' ++ cs.drop (z.toNat * e + e))⟩⟩ a w':=by
 obtain ⟨g',caps,cur,e1,hq2,hy,hw0,hs0,h5,h6,hnc0,hcm0,hb0,hc0⟩:=own_row hr1 hv hq hes (by omega);rw [hvg] at e1;injection e1 with i1 i2 i3
 injection i1 with i1
 injection i1 with i1
 subst i1 i3;rw [hvg] at hy;have e3:=sl_val hr1.rl hx;have hcl:RvC E dv.cells (a.eval x).cells.toList:=e3.cells (fills_len (n:=e) hdc (by omega));have hvl:(a.eval x).cells.toList.length=e:=by rw [hcl.1.length];exact hdc
 obtain ⟨l',hl1,hx1,_⟩:=eraL_sound hdv hcl;simp only [oI] at hl1;rw [hl1] at hx1;have hme:m * e<=cap * e:=Nat.mul_le_mul_right _ hnc0
 have hpos:z.toNat * e + e<=m * e:=by
  have:(z.toNat + 1) * e<=m * e:=Nat.mul_le_mul_right _ (by omega);rw [Nat.add_mul] at this;omega
 have hcurl:cur.toList.length=cap * e:=by simpa using hs0
 have hsv:=storeVar_blk (P:=X.P) (t:=ty) (off:=z.toNat * e) (n:=e) hw0 (sz_ok X.hT hsz) hvl (by rw [hs0];omega) (List.all_eq_true.2 hcl.2);generalize hN:cur.toList.take (z.toNat * e) ++ (a.eval x).cells.toList ++ cur.toList.drop (z.toNat * e + e)=N at hsv
 have hNl:N.length=cap * e:=by
  subst hN;simp only [List.length_append,List.length_take,List.length_drop,hvl,hcurl];omega
 have hNt:N.take (m * e)=(cur.toList.take (m * e)).take (z.toNat * e) ++ (a.eval x).cells.toList ++ (cur.toList.take (m * e)).drop (z.toNat * e + e):=by
  subst hN;rw [List.take_append,List.take_append,List.take_take,List.take_take];have h1:(cur.toList.take (z.toNat * e)).length=z.toNat * e:=by rw [List.length_take];omega
  rw [List.length_append,h1,hvl,Nat.min_eq_right (by omega),Nat.min_eq_left (by omega),List.take_of_length_le (l:=(a.eval x).cells.toList) (by rw [hvl];omega),List.drop_take]
 have hat:TkAt (World.setBlk w g (.cells N.toArray ety (0,0))) E.c E.β ⟨m,ety,e,some (cs.take (z.toNat * e) ++ cs' ++ cs.drop (z.toNat * e + e))⟩ (.slice (some ⟨g,0,none⟩) m cap):=by
  refine .inr ⟨g,cap,_,rfl,setBlk_same hw0,⟨by simpa using hNl,fun cs2 hc'=>?_⟩,hnc0,hcm0,hb0,hc0⟩;simp only [oI] at hc';subst hc';simp only;have h8:=((RvC.take (z.toNat * e) h6).append hx1).append (RvC.drop (z.toNat * e + e) h6);rw [<- hNt] at h8;have hl8:=h8.1.length;refine ⟨?_,by show RvC E.cl _ (N.toArray.toList.take (m * e));simpa using h8⟩;rw [<- hl8,List.length_take,hNl];omega
 obtain ⟨hrel,_⟩:=own_rel (q':=⟨m,ety,e,some (cs.take (z.toNat * e) ++ cs' ++ cs.drop (z.toNat * e + e))⟩) (w':=World.setBlk w g (.cells N.toArray ety (0,0))) hr1 hst hq2 hy rfl rfl rfl (.inl ⟨rfl,rfl⟩) hat (.inl rfl) rfl rfl rfl (by rw [setBlk_size];exact Nat.le_refl _) (fun j _ hne=>setBlk_other (by
  rintro rfl
  exact hne rfl))
 refine ⟨_,_,?_,hrel⟩;simp only [execOp,h2,ht1,Instr.storeAt,Instr.sureAddr,Sem.run_bind,Sem.run_pure,Result.andThen_ok,hsv]
theorem callD_own {D:Dr} {c:Bool} {i i1 i2:Nat} {s0:List (Nat × Sl)} {o1 o2:Oper} {f:FuncId} {args args':List DV} {d d1 kt t ty et e by' m ety nn:Nat} {bb:Bool} {zz:List Value} {z:Int} {kd:IntKind} {es:List (List DV)} {cs cs':List DV} {s ix x:Operand} {res dv:DV}
  (hen:Enters X.P f) (hd:okD X.nt st.sl (some d)=true) (hc:EvP X.P f args' res) (ha:CcL [] 0 0 0 args' args)
  (h1:o1.op = .indexAddr t s ix/\o1.dst=some d1/\o1.guard=none) (h2:o2.op = .store ty (.tmp d1) x/\o2.dst=none/\o2.guard=none) (hd1:okD X.nt ((d,⟨[],res⟩) :: st.sl) (some d1)=true)
  (hs:rv ⟨(d,⟨[],res⟩) :: st.sl,st.bx,st.tk⟩ [] s=some (.sl 0 es (some kt))) (hi:rv ⟨(d,⟨[],res⟩) :: st.sl,st.bx,st.tk⟩ [] ix=some (.v (.int kd z)))
  (hx:rv ⟨(d1,⟨[],.pt [] 0⟩) :: (d,⟨[],res⟩) :: st.sl,st.bx,st.tk⟩ [] x=some dv) (hdv:eraL dv.cells (fun l=>some l)=some cs') (hdc:dv.cells.length=e) (he0:0 < e)
  (hT:X.T.find t=some ⟨nn,bb,.sl et e by',zz⟩) (hsz:X.T.sz ty=some e) (hq:st.tk[kt]? = some ⟨m,ety,e,some cs⟩) (hes:es.length=m) (hz:0<=z/\z < m) (hW2:D.W i2=true)
  (hk:∃ st2,Wk X ⟨(d1,⟨[],.pt [] 0⟩) :: (d,⟨[],res⟩) :: st.sl,st.bx,st.tk.set kt ⟨m,ety,e,some (cs.take (z.toNat * e) ++ cs' ++ cs.drop (z.toNat * e + e))⟩⟩ st2/\go X 4000 D.k st2)
  (hst:X.still=false:=by exact rfl) (hf:D.fin=none:=by exact rfl):CallD X D c i [(i1,o1),(i2,o2)] f args (some d) s0 st:=by
 refine ⟨hen,fun hl E0 wr hD E a w vs h hv=>(calls_quiet h.rel hst hc ha hv).mono ?_⟩;rintro e9 w' ⟨v,E',r,rfl,hrel,hr,rfl,hm9,hx9,hβ9⟩
 have hh9:∀ b,b < w.heap.size->w'.heap[b]? = w.heap[b]?:=fun b hb=>hm9.block b hb (by
  rintro (h1 | ⟨y,h1,_⟩)
  ·simp [En.cl] at h1
  ·simp [En.cl] at h1)
 have hs9:Stp none E w E' w':=⟨hx9,⟨[],by rw [hβ9];simp⟩,fun j b hb _=>hh9 b (h.rel.env.block_lt (mG hb))⟩;refine ⟨v,rfl,(fun _=>stp_C h hs9 hrel (fun j hj=>by cases hj)),?_⟩;have hr0:=put_rel hrel hd r v hr;generalize ha0:a.put (some d) v=a0 at hr0;have hrl:=hr0.rl;have e2:=rv_int_eq (sl_val hrl hi);have hv:=sl_val hrl hs;obtain ⟨g,cap,cur,e1,_⟩:=own_row hr0 hv hq hes (by omega);have hE1:isE o1.op=false:=by rw [h1.1];all_goals rfl
 have hL1:isL o1.op=false:=by rw [h1.1];all_goals rfl
 have hE2:isE o2.op=true:=by rw [h2.1];all_goals rfl
 have g1:D.ops[i1]? = some o1:=hl (i1,o1) (by simp);have g2:D.ops[i2]? = some o2:=hl (i2,o2) (by simp);show runT X.P D.ops D.W _ (Dw.Q ⟨D,E0,wr⟩ X) [i1,i2] a0 w';have hr1:Rel X E' ⟨(d1,⟨[],.pt [] 0⟩) :: (d,⟨[],r⟩) :: st.sl,st.bx,st.tk⟩ (a0.put (some d1) (.pointer (some ⟨g,z.toNat * e,none⟩))) w':=put_rel hr0 hd1 (.pt [] 0) _ (by unfold Rv;exact ⟨g,z.toNat * e,rfl,by simp only [RvAt]⟩)
 have ht1:(a0.put (some d1) (.pointer (some ⟨g,z.toNat * e,none⟩))).eval (.tmp d1) = .pointer (some ⟨g,z.toNat * e,none⟩):=by
  simp only [okD,Bool.and_eq_true,Nat.blt_eq] at hd1;simp [Act.eval,Act.put,hr0.sz,hd1.1]
 simp only [runT,g1,hE1,Bool.false_eq_true,if_false];refine ⟨.pointer (some ⟨g,z.toNat * e,none⟩),.inl ⟨wanted_none h1.2.2,fun w9 _=>own_idx h1.1 e1 e2 hT hz w9⟩,fun h9=>(by rw [hL1] at h9;cases h9),?_⟩;rw [h1.2.1];generalize a0.put (some d1) (.pointer (some ⟨g,z.toNat * e,none⟩))=a1 at hr1 ht1;have hwn:=wanted_none (ops:=D.ops) (a:=a1) h2.2.2;simp only [g2,hE2,if_true,stepX,hwn];obtain ⟨w2,E2,hrun,hrel2⟩:=own_sto hr1 h2.1 ht1 hv e1 hx hdv hdc he0 hsz hq hes hz hst;refine wq_unit hrun ?_;rw [h2.2.1];refine ⟨(fun hw=>by rw [hW2] at hw;cases hw),?_⟩;obtain ⟨st2,hwk,hgo⟩:=hk;obtain ⟨E3,hr3⟩:=hwk _ _ _ hrel2;show Dw.Q ⟨D,E0,wr⟩ X _ _;unfold Dw.Q;simp only [hf];exact go_sound 4000 _ _ hgo _ _ _ hr3
end
end Dv
end Go.Proofs.YtadhpeooehkklaaGreat
namespace Go.Proofs.YtadhpeooehkklaaGreat
namespace Dv
open Go Go.RowKit
section
variable {X:Ctx} {st:St} {k:List It} {E:En} {a:Act} {w:World} {o:Oper}
end
end Dv
end Go.Proofs.YtadhpeooehkklaaGreat
namespace Go.Proofs.YtadhpeooehkklaaGreat
namespace Dv
open Go Go.RowKit
section
variable {X:Ctx} {st:St} {k:List It} {E:En} {a:Act} {w:World} {o:Oper}
theorem lit_sO {t d et e by' n len:Nat} {bb:Bool} {z:List Value} {parts:Array (Nat × Operand)} {es:List (List DV)} (hop:o.op = .buildSlice t len parts) (hdst:o.dst=some d) (hT:X.T.find t=some ⟨n,bb,.sl et e by',z⟩) (hes:litL e st parts.toList 0=some es)
  (hc:(Nat.beq es.length len && (Nat.blt 0 len && Nat.blt 0 e && Nat.ble (len * e) 16777216))=true) (hd:okD X.nt st.sl (some d)=true) (hst:X.still=false:=by exact rfl) (hX:X.bt=[]:=by exact rfl) :
  OpS X o st ⟨(d,⟨[],.sl 0 (List.replicate len []) (some st.tk.length)⟩) :: st.sl,st.bx,st.tk ++ [⟨len,et,e,some es.flatten⟩]⟩:=by
 intro E a w h;simp only [Bool.and_eq_true,Nat.beq_eq,Nat.ble_eq,Nat.blt_eq] at hc;obtain ⟨hlen,⟨hpos,hep⟩,hsm⟩:=hc;obtain ⟨hu,ii,zv,hi2,hz,hsz,hby,hzs⟩:=und_sl X.hT hT;obtain ⟨xs,vs,hp,hvs,hvl,hcl,hrc,hel⟩:=litL_sound h.rl hep hes;subst hsz
 have hzc:len * ii.size≠0:=by
  have:=Nat.mul_pos hpos hep;omega
 have hfill:Instr.fill (fun i=>some (i * ii.size,ii.size)) ((Array.range (len * ii.size)).map (zv.cells[·% zv.cells.size]!)) (parts.map fun (i,x)=>(i,a.eval x)).toList=some (cellsL vs).toArray:=by
  have h0:=fill_seq ii.size vs 0 ((Array.range (len * ii.size)).map (zv.cells[·% zv.cells.size]!)).toList hcl (by simp [hvl,hlen])
  have h1:(parts.map fun (i,x)=>(i,a.eval x)).toList=enumF 0 vs:=by
   rw [Array.toList_map,hp,hvs,<- enumF_map]
  rw [h1];simp only [Array.toArray_toList] at h0;rw [h0];simp [hvl,hlen]
 have hrun:(execOp a.eval o).run X.P w = .ok (.value (.slice (some ⟨w.heap.size,0,none⟩) len len)) (w.alloc (.cells (cellsL vs).toArray et)):=by
  simp only [execOp,hop,Sem.run_bind,run_buildSlice w t et len _ _ ii zv hu hi2 hz (by omega) hzc hfill,Result.andThen_ok,Sem.run_pure]
 have hvlen:(cellsL vs).length=len * ii.size:=by
  have:∀ l:List Value,(∀ v∈l,v.cells.toList.length=ii.size)->(cellsL l).length=l.length * ii.size:=by
   intro l
   induction l with
   | nil=>intro _;simp [cellsL]
   | cons v l ih=>
    intro hl;simp only [cellsL,List.length_append,List.length_cons];rw [ih fun x hx=>hl x (List.mem_cons_of_mem _ hx),hl v List.mem_cons_self,Nat.succ_mul];omega
  rw [this vs hcl,hvl,hlen]
 refine wq_value hrun ?_;rw [hdst]
 have hfl:es.flatten.length=len * ii.size:=by
  have h1:=hrc.1.length;rw [<- h1,hvlen]
 have hown2:RvC ⟨E.c,[],[],[]⟩ es.flatten ((cellsL vs).toArray.toList.take (len * ii.size)):=by
  rw [List.take_of_length_le (by simp [hvlen])];exact hrc
 have hlm:len<=maxLen:=by
  have:len<=len * ii.size:=Nat.le_mul_of_pos_right _ hep;unfold maxLen;omega
 have hk1:=h.env.keep (w':=w.alloc (.cells (cellsL vs).toArray et)) fun i hi=>alloc_old w _ hi
 let E2:En:=⟨E.c,E.β,E.tk ++ [⟨len,et,ii.size,some es.flatten⟩],E.τ ++ [.slice (some ⟨w.heap.size,0,none⟩) len len]⟩
 have hext:Ext E E2:=⟨fun _ _ h=>h,fun _ _ h=>h,fun k q' hk=>by
  have hlt:=(gS hk).1;refine ⟨q',by show (E.tk ++ _)[k]? = _;rw [List.getElem?_append_left hlt];exact hk,.inl ⟨rfl,?_⟩⟩;show (E.τ ++ _)[k]? = _
  rw [List.getElem?_append_left (by rw [h.env.tl];exact hlt)]⟩
 have hτ:∀ (k:Nat) y,E2.τ[k]? = some y->(k < E.τ.length/\E.τ[k]? = some y)∨(k=E.τ.length/\y = .slice (some ⟨w.heap.size,0,none⟩) len len):=fun k y hy=>by
  have hy:(E.τ ++ [Value.slice (some ⟨w.heap.size,0,none⟩) len len])[k]? = some y:=hy;rw [List.getElem?_append] at hy;split at hy
  ·rename_i hk;exact .inl ⟨hk,hy⟩
  ·rename_i hk
   have h0:k - E.τ.length=0:=by
    rcases Nat.eq_zero_or_pos (k - E.τ.length) with h0 | h0
    ·exact h0
    ·rw [List.getElem?_eq_none (by simp;omega)] at hy;cases hy
   rw [h0] at hy;simp only [List.getElem?_cons_zero,oI] at hy;exact .inr ⟨by omega,hy.symm⟩
 have hown:∀ (k:Nat) y g,E.τ[k]? = some y->y.ownBlock=some g->g < w.heap.size:=fun k y g hy hg=>(h.env.own (mG hy) hg).1
 have hrel:Rel X E2 ⟨st.sl,st.bx,st.tk ++ [⟨len,et,ii.size,some es.flatten⟩]⟩ a (w.alloc (.cells (cellsL vs).toArray et)):=by
  refine rel_env h hext ?_ (by show E.tk ++ _=_;rw [h.tk]) ?_ (h.fr.alloc _) (noSt hst) (.nil hX)
  ·exact {
    len:=h.env.len
    tl:=by show (E.τ ++ _).length=(E.tk ++ _).length;simp [h.env.tl]
    bxs:=fun i cs hi=>by
     obtain ⟨b,t,arr,hb,hw,hc⟩:=hk1.bxs i cs hi;exact ⟨b,t,arr,hb,hw,hc.mono hext⟩
    inj:=h.env.inj
    sub:=hk1.sub
    pc:=h.env.pc
    tks:=fun k q' y hkq hy=>by
     rcases hτ k y hy with ⟨hlt,hy'⟩ | ⟨rfl,rfl⟩
     ·have hk':(E.tk ++ [⟨len,et,ii.size,some es.flatten⟩])[k]? = some q':=hkq;rw [List.getElem?_append_left (by rw [<- h.env.tl];exact hlt)] at hk';exact hk1.tks k q' y hk' hy'
     ·have hk':(E.tk ++ [⟨len,et,ii.size,some es.flatten⟩])[E.τ.length]? = some q':=hkq;rw [List.getElem?_append_right (by rw [h.env.tl];exact Nat.le_refl _),h.env.tl] at hk';simp only [Nat.sub_self,List.getElem?_cons_zero,oI] at hk';subst hk';refine .inr ⟨w.heap.size,len,(cellsL vs).toArray,rfl,alloc_new w _,⟨by simp [hvlen],fun cs hc=>by cases hc;exact ⟨hfl,hown2⟩⟩,Nat.le_refl _,hlm,fun hm=>?_,fun x v hx hxg=>?_⟩
      ·have:=h.env.block_lt hm;omega
      ·have:=World.block_lt_of_cell? w x (h.env.sub x v hx);omega
    tkd:=fun k k' y y' g hkk hy hy' hg hg'=>by
     rcases hτ k y hy with ⟨_,hy1⟩ | ⟨rfl,rfl⟩
     ·rcases hτ k' y' hy' with ⟨_,hy2⟩ | ⟨rfl,rfl⟩
      ·exact h.env.tkd k k' y y' g hkk hy1 hy2 hg hg'
      ·have:=hown k y g hy1 hg;simp only [Value.ownBlock,oI] at hg';omega
     ·rcases hτ k' y' hy' with ⟨_,hy2⟩ | ⟨rfl,rfl⟩
      ·have:=hown k' y' g hy2 hg';simp only [Value.ownBlock,oI] at hg;omega
      ·exact hkk rfl }
  ·exact {
    c:=h.nw.c
    cn:=h.nw.cn
    β:=h.nw.β
    tk:=fun j q0 y0 hq0 hy0=>by
     obtain ⟨q',y',h1,h2,h3⟩:=h.nw.tk j q0 y0 hq0 hy0;exact ⟨q',y',by show (E.tk ++ _)[j]? = _;rw [List.getElem?_append_left (gS h1).1];exact h1,by show (E.τ ++ _)[j]? = _;rw [List.getElem?_append_left (gS h2).1];exact h2,h3⟩
    tn:=fun j y g hj hy hg=>by
     rcases hτ j y hy with ⟨_,hy1⟩ | ⟨_,rfl⟩
     ·exact h.nw.tn j y g hj hy1 hg
     ·simp only [Value.ownBlock,oI] at hg;have:=h.fr.size;omega
    l0:=h.nw.l0 }
 refine ⟨E2,put_rel hrel hd (.sl 0 (List.replicate len []) (some st.tk.length)) _ ?_,hext,⟨[],by simp [E2]⟩,fun i b hb _=>alloc_old w _ (h.env.block_lt (mG hb))⟩;unfold Rv;refine ⟨_,_,_,rfl,⟨by rw [List.length_replicate],Nat.le_refl _⟩,fun hne=>⟨rfl,rvEs_none _ _ _ _⟩,fun k' hk'=>?_⟩;cases hk';refine ⟨⟨len,et,ii.size,some es.flatten⟩,?_,Nat.le_refl _,fun _=>?_⟩
 ·show (E.tk ++ _)[st.tk.length]? = _;rw [h.tk];simp
 ·show (E.τ ++ _)[st.tk.length]? = _;rw [<- h.tk,<- h.env.tl];simp
theorem op_litO {t d et e by' n len:Nat} {bb:Bool} {z:List Value} {parts:Array (Nat × Operand)} {es:List (List DV)} (hop:o.op = .buildSlice t len parts) (hdst:o.dst=some d) (hT:X.T.find t=some ⟨n,bb,.sl et e by',z⟩) (hes:litL e st parts.toList 0=some es)
  (hc:(Nat.beq es.length len && (Nat.blt 0 len && Nat.blt 0 e && Nat.ble (len * e) 16777216))=true) (hd:okD X.nt st.sl (some d)=true) (hst:X.still=false:=by exact rfl) (hX:X.bt=[]:=by exact rfl)
  (hk:go X 4000 k ⟨(d,⟨[],.sl 0 (List.replicate len []) (some st.tk.length)⟩) :: st.sl,st.bx,st.tk ++ [⟨len,et,e,some es.flatten⟩]⟩):OpG X o k st:=(lit_sO hop hdst hT hes hc hd hst hX).g hk
end
end Dv
end Go.Proofs.YtadhpeooehkklaaGreat
namespace Go.Proofs.YtadhpeooehkklaaGreat
namespace Dv
open Go Go.RowKit
theorem rvL_last {E E':En} {x x':DV} (h:∀ z,Rv E x z->Rv E' x' z):∀ {l:List DV} {vs:List Value},(∀ d∈l,∃ v,d = .v v)->RvL E (l ++ [x]) vs->RvL E' (l ++ [x']) vs
 | [],vs,_,hv=>by
  simp only [List.nil_append,RvL] at hv ⊢;obtain ⟨v,s,rfl,h1,h2⟩:=hv;exact ⟨v,s,rfl,h v h1,h2⟩
 | d :: r,vs,hl,hv=>by
  simp only [List.cons_append,RvL] at hv ⊢;obtain ⟨v,s,rfl,h1,h2⟩:=hv;refine ⟨v,s,rfl,?_,rvL_last h (fun d hd=>hl d (List.mem_cons_of_mem _ hd)) h2⟩;obtain ⟨u,rfl⟩:=hl d List.mem_cons_self;unfold Rv at h1 ⊢;exact h1
theorem endd_frz {E:En} {w w':World} {v:Value} {l:List DV} {es ns:List (List DV)} {n ty e:Nat} (henv:Env E [] w) (htk:E.tk=[]) (hl:∀ d∈l,∃ v,d = .v v) (hns:∀ x∈ns,x.length=e) (hnl:ns.length=n) (hes:es.length=n)
  (hc:Endd false E w (fun r _ tks=>r = .agg (l ++ [.sl 0 es (some 0)])/\tks=[⟨n,ty,e,some ns.flatten⟩]) v w' true):Endd false E w (fun d _ _=>d = .agg (l ++ [.sl e ns none])) v w':=by
 obtain ⟨hm,hs,d,os,E2,he,hβ,htl,hn,hvd,rfl,htk2⟩:=hc
 have hos:os=[]:=by
  have h1:=he.len;have h2:=henv.len;rw [hβ] at h1;rw [h1] at h2;exact List.eq_nil_of_length_eq_zero h2
 subst hos;have hτl:E2.τ.length=1:=by rw [he.tl,htk2];all_goals rfl
 obtain ⟨y,hy⟩:∃ y,E2.τ[0]? = some y:=⟨_,gE (by omega)⟩;have hq:E2.tk[0]? = some ⟨n,ty,e,some ns.flatten⟩:=by rw [htk2];all_goals rfl
 have hot:=he.tks 0 _ y hq hy
 have hle:∀ x u,E2.c x=some u->ownC E2 w' y (n * e) x=some u:=fun x u hx=>by
  unfold ownC;split
  ·exact he.sub x u hx
  ·exact hx
 refine ⟨hm,hs,.agg (l ++ [.sl e ns none]),[],⟨ownC E2 w' y (n * e),E2.β,[],[]⟩,?_,hβ,?_,?_,?_,rfl⟩
 ·exact {
   len:=he.len
   tl:=rfl
   bxs:=fun i cs hi=>by simp at hi
   inj:=he.inj
   sub:=fun x u hx=>by
    rcases ownC_cases hx with ⟨_,_,_,h1⟩ | h1
    ·exact h1
    ·exact he.sub x u h1
   pc:=fun x u hx hm=>by
    rcases ownC_cases hx with ⟨h1,_⟩ | h1
    ·exact (own_at hot h1).2 hm
    ·exact he.pc x u h1 hm
   tks:=fun j q y hj _=>by simp at hj
   tkd:=fun j j' y y' g _ hj _ _=>by simp at hj }
 ·show 0=_;rw [htk];all_goals rfl
 ·exact {
   c:=fun x u hx=>hle x u (hn.c x u hx)
   cn:=fun x u hx=>by
    rcases ownC_cases hx with ⟨h1,_⟩ | h1
    ·exact .inr (.inl (hn.tn 0 y _ (by rw [htk];exact Nat.le_refl _) hy h1))
    ·exact hn.cn x u h1
   β:=hn.β
   tk:=fun j q0 y0 hq0 _=>by rw [htk] at hq0;simp at hq0
   tn:=fun j y g _ hj _=>by simp at hj
   l0:=hn.l0 }
 ·unfold Rv at hvd ⊢;obtain ⟨vs',rfl,hL,h1c⟩:=hvd;refine ⟨vs',rfl,rvL_last (fun z hz=>?_) hl hL,h1c⟩;unfold Rv at hz ⊢;obtain ⟨b,m,cap,rfl,⟨rfl,hmc⟩,hr,hst⟩:=hz;obtain ⟨q',hq',_,hτ⟩:=hst 0 rfl;rw [hq] at hq';simp only [oI] at hq';subst hq';have hy2:=hτ hes;rw [hy] at hy2;simp only [oI] at hy2;subst hy2;refine ⟨b,es.length,cap,rfl,⟨by omega,hmc⟩,fun hne=>?_,fun k' hk'=>by cases hk'⟩;rcases hot with ⟨h1,h2,h3⟩ | ⟨g,cap',cur,h0,h1,h2,h3,h4,h5,h6⟩
  ·simp only at h2;exact (hne (List.eq_nil_of_length_eq_zero (by omega))).elim
  ·injection h0 with i1 i2 i3
   subst i1;refine ⟨rfl,?_⟩;obtain ⟨h7,h8⟩:=h2.2 _ rfl;refine rvEs_flat (h8.mono (E:=⟨E2.c,[],[],[]⟩) ⟨hle,fun _ _ h=>by simp at h,fun _ _ h=>by simp at h⟩) hns fun j u hj=>?_;rw [List.getElem?_take] at hj;split at hj
   ·rename_i hjl;show ownC E2 w' _ (n * e) _=_;unfold ownC;rw [if_pos ⟨rfl,rfl,by simpa [ao] using hjl⟩];simp only [ab,ao,Nat.zero_add];rw [cell_blk h1];simpa using hj
   ·cases hj
theorem endd_none {E:En} {w w':World} {v:Value} {d:DV} (htk:E.tk=[]) (hc:Endd false E w (fun r _ tks=>r=d/\tks=[]) v w' true):Endd false E w (fun r _ _=>r=d) v w':=by
 obtain ⟨hm,hs,d,os,E2,he,hβ,htl,hn,hvd,rfl,htk2⟩:=hc;exact ⟨hm,hs,d,os,E2,he,hβ,by rw [htk2,htk];exact (rfl:(0:Nat)=0),hn,hvd,rfl⟩
theorem endd_or {s:Bool} {E:En} {w w':World} {v:Value} {fr:Bool} {A B:DV->List (List DV)->List TkE->Prop} (h:Endd s E w (fun r o t=>A r o t∨B r o t) v w' fr):Endd s E w A v w' fr∨Endd s E w B v w' fr:=by
 obtain ⟨hm,hs,d,os,E2,he,hβ,htl,hn,hvd,h1 | h1⟩:=h
 ·exact .inl ⟨hm,hs,d,os,E2,he,hβ,htl,hn,hvd,h1⟩
 ·exact .inr ⟨hm,hs,d,os,E2,he,hβ,htl,hn,hvd,h1⟩
theorem endd_mono {s:Bool} {E:En} {w w':World} {v:Value} {fr:Bool} {A B:DV->List (List DV)->List TkE->Prop} (h:Endd s E w A v w' fr) (hAB:∀ r o t,A r o t->B r o t):Endd s E w B v w' fr:=by
 obtain ⟨hm,hs,d,os,E2,he,hβ,htl,hn,hvd,h1⟩:=h;exact ⟨hm,hs,d,os,E2,he,hβ,htl,hn,hvd,hAB _ _ _ h1⟩
end Dv
end Go.Proofs.YtadhpeooehkklaaGreat
set_option maxRecDepth 100000
namespace Go.Proofs.YtadhpeooehkklaaGreat
open Go Go.RowKit Dv Tryz
def stpL (d:Nd) (v:Val):List Stp:=(List.range v.ks.length).map (stpR d v)
theorem stpL_snoc (d:Nd) (v:Val) (e:Nat):dStps ((List.range e).map (stpR d v)) ++ [dStp (stpR d v e)]=dStps ((List.range (e + 1)).map (stpR d v)):=by
 rw [List.range_succ];simp [dStps]
abbrev stsSt (d:Nd) (v:Val) (q e:Nat):St:=
 ⟨[(2,⟨[],.loc 0 0⟩),(3,⟨[],.loc 1 0⟩),(5,⟨[],.sl 3 (dStps ((List.range e).map (stpR d v))) (some 0)⟩),(9,⟨[],.v (.int .i64 (dVals v.ks).length)⟩),(10,⟨[],.v (.int .i64 e)⟩)],[dNd d,dVal v],[⟨q,117,3,none⟩]⟩
theorem steps_spec (d:Nd) (v:Val) (hv:v.wt<=1099511627776) (hk:v.k=d.kind) (h5:5<=d.kind) (hk8:d.kind<=8) (h7:d.kind=7->v.ks.length=d.edges.length) (h8:d.kind=8->0<=v.n/\v.n < d.edges.length) :
  EvP Tryz.prog 113 [.agg (dNd d),.agg (dVal v)] (.sl 3 (dStps (stpL d v)) none):=by
 obtain ⟨kind,at',lo,hi,most,names,es⟩:=d;obtain ⟨q,z,s,ks⟩:=v;have hel:=dEds_len es;have hdl:=dVals_len ks;have hkl:=wtVs_len ks;rw [Val.wt] at hv;simp only [Val.k,Val.n,Val.ks] at hk h5 hk8 h7 h8;subst hk;refine ev_go (P:=Tryz.prog) tt tt_ok 5000 55 [.tmp 4] Tryz.func113 rfl Tryz.ntmps113 rfl (nL rfl) (fun E9 w9 hn9 hm9=>?_);refine loop_i (fun j st=>∃ e:Nat,st=stsSt ⟨q,at',lo,hi,most,names,es⟩ (.mk q z s ks) e e/\e<=ks.length/\j=ks.length - e) ks.length (stsSt ⟨q,at',lo,hi,most,names,es⟩ (.mk q z s ks) 0 0) (weak_bt 2 ⟨0,117,3,none⟩ rfl rfl rfl (by repeat' (first | exact rfl | exact we_rfl rfl | exact we_tok (Nat.le_refl _) rfl | exact we_tok (Nat.le_refl _) rfl | refine ⟨_,_,rfl,?_,?_⟩)) rfl rfl wTB) ⟨0,rfl,by omega,by omega⟩ ?_;rintro j st ⟨e,rfl,he,rfl⟩;refine br (fun hL=>?_) (fun hL=>?_)
 ·have hlt:e < ks.length:=by simpa [hdl,Val.ks] using hL
  have hml:(dStps ((List.range e).map (stpR ⟨q,at',lo,hi,most,names,es⟩ (.mk q z s ks)))).length=e:=by simp [dStps]
  have hsn:=stpL_snoc ⟨q,at',lo,hi,most,names,es⟩ (.mk q z s ks) e
  have hS:stpR ⟨q,at',lo,hi,most,names,es⟩ (.mk q z s ks) e=if q=5 then ⟨2,e,emptyB⟩
   else if q=6 then ⟨4,0,emptyB⟩
   else if q=7 then ⟨1,0,match es[e]? with | some e=>e.name | none=>emptyB⟩
   else ⟨5,0,match es[z.toNat]? with | some e=>e.name | none=>emptyB⟩:=rfl
  refine br (fun c=>?_) (fun c=>?_)
  ·have c:q=7:=by simpa using c
   obtain ⟨x,hx⟩:∃ x,es[e]? = some x:=⟨_,gE (by have:=h7 c;omega)⟩;rw [if_neg (by omega),if_neg (by omega),if_pos c] at hS;simp only [hx] at hS;rw [hS] at hsn;refine ⟨_,⟨by omega,dEds_get hx⟩,?_⟩;refine ⟨hml,⟨by rw [hml];simp [maxLen];omega,by rw [hml];simp;omega⟩,?_⟩;exact ⟨stsSt ⟨q,at',lo,hi,most,names,es⟩ (.mk q z s ks) (e + 1) (e + 1),(weak_b 2 rfl (wSA hlt hsn) rfl rfl rfl (wSB hlt hsn)),ks.length - (e + 1),by omega,e + 1,rfl,by omega,rfl⟩
  have c7:¬ q=7:=by simpa using c
  refine br (fun c=>?_) (fun c=>?_)
  ·have c:q=5:=by simpa using c
   rw [if_pos c] at hS;rw [hS] at hsn;refine ⟨hml,⟨by rw [hml];simp [maxLen];omega,by rw [hml];simp;omega⟩,?_⟩;exact ⟨stsSt ⟨q,at',lo,hi,most,names,es⟩ (.mk q z s ks) (e + 1) (e + 1),(weak_b 2 rfl (wSA hlt hsn) rfl rfl rfl (wSB hlt hsn)),ks.length - (e + 1),by omega,e + 1,rfl,by omega,rfl⟩
  have c5:¬ q=5:=by simpa using c
  refine br (fun c=>?_) (fun c=>?_)
  ·have c:q=6:=by simpa using c
   rw [if_neg c5,if_pos c] at hS;rw [hS] at hsn;refine ⟨hml,⟨by rw [hml];simp [maxLen];omega,by rw [hml];simp;omega⟩,?_⟩;exact ⟨stsSt ⟨q,at',lo,hi,most,names,es⟩ (.mk q z s ks) (e + 1) (e + 1),(weak_b 2 rfl (wSA hlt hsn) rfl rfl rfl (wSB hlt hsn)),ks.length - (e + 1),by omega,e + 1,rfl,by omega,rfl⟩
  have c6:¬ q=6:=by simpa using c
  refine br (fun c=>?_) (fun c=>?_)
  ·have c:q=8:=by simpa using c
   obtain ⟨z0,z1⟩:=h8 c;obtain ⟨x,hx⟩:∃ x,es[z.toNat]? = some x:=⟨_,gE (by omega)⟩;rw [if_neg c5,if_neg c6,if_neg c7] at hS;simp only [hx] at hS;rw [hS] at hsn;refine ⟨_,⟨by omega,dEds_get hx⟩,?_⟩;refine ⟨hml,⟨by rw [hml];simp [maxLen];omega,by rw [hml];simp;omega⟩,?_⟩;exact ⟨stsSt ⟨q,at',lo,hi,most,names,es⟩ (.mk q z s ks) (e + 1) (e + 1),(weak_b 2 rfl (wSA hlt hsn) rfl rfl rfl (wSB hlt hsn)),ks.length - (e + 1),by omega,e + 1,rfl,by omega,rfl⟩
  ·have c:¬ q=8:=by simpa using c
   omega
 ·have hge:e=ks.length:=by
   have:=hL;simp [hdl,Val.ks] at this;omega
  rw [hge];exact ⟨_,ax,rfl⟩
def kidI (d:Nd) (v:Val) (s:Stp):Option Nat:=(List.range v.ks.length).find? fun e=>stpE (stpR d v e) s
def stepV (ND:List Nd) (v:Val) (i:Int) (s:Stp):Option (Nat × Val × Int):=
 match nodeA ND i with
 | none=>none
 | some d=>match kidI d v s with
  | none=>none
  | some e=>match v.ks[e]?,(kidsL d v)[e]? with
   | some x,some j=>some (e,x,j)
   | _,_=>none
def getV (ND:List Nd):List Stp->Val->Int->Option (Val × Int)
 | [],v,i=>some (v,i)
 | s :: p,v,i=>match stepV ND v i s with
  | none=>none
  | some (_,x,j)=>getV ND p x j
def vset (v:Val) (e:Nat) (y:Val):Val:=.mk v.k v.n v.s (v.ks.set e y)
def setV (ND:List Nd):List Stp->Val->Int->Val->Val
 | [],_,_,x=>x
 | s :: p,v,i,x=>match stepV ND v i s with
  | none=>v
  | some (e,y,j)=>vset v e (setV ND p y j x)
theorem find_some {f:Nat->Bool} {n e:Nat} (h:(List.range n).find? f=some e):e < n/\f e=true:=by
 have h1:=List.find?_some h;have h2:=List.mem_of_find?_eq_some h;exact ⟨by simpa using h2,h1⟩
theorem stepV_some {ND:List Nd} {v:Val} {i:Int} {s:Stp} {e:Nat} {x:Val} {j:Int} (h:stepV ND v i s=some (e,x,j)) :
  ∃ d,nodeA ND i=some d/\kidI d v s=some e/\v.ks[e]? = some x/\(kidsL d v)[e]? = some j:=by
 unfold stepV at h;split at h
 ·cases h
 ·rename_i d hd;split at h
  ·cases h
  ·rename_i e' he;split at h
   ·rename_i x' j' hx hj;simp only [oI,Prod.mk.injEq] at h;obtain ⟨rfl,rfl,rfl⟩:=h;exact ⟨d,hd,he,hx,hj⟩
   ·cases h
theorem stepV_of {ND:List Nd} {v:Val} {i:Int} {s:Stp} {e:Nat} {x:Val} {j:Int} {d:Nd} (h1:nodeA ND i=some d) (h2:kidI d v s=some e) (h3:v.ks[e]? = some x) (h4:(kidsL d v)[e]? = some j):stepV ND v i s=some (e,x,j):=by
 unfold stepV;rw [h1];simp only;rw [h2];simp only;rw [h3,h4]
theorem fitVs_set {ND:List Nd} {y:Val} {j:Int} (hy:fitV ND y j=true):∀ {ks:List Val} {l:List Int} {e:Nat},fitVs ND ks l=true->l[e]? = some j->fitVs ND (ks.set e y) l=true
 | [],l,e,_,_=>by simp [fitVs]
 | v :: r,[],e,_,h=>by simp at h
 | v :: r,i :: l,0,h,hj=>by
  simp only [List.getElem?_cons_zero,oI] at hj;subst hj;rw [fitVs,Bool.and_eq_true] at h;rw [List.set_cons_zero,fitVs,hy,h.2];all_goals rfl
 | v :: r,i :: l,e + 1,h,hj=>by
  simp only [List.getElem?_cons_succ] at hj;rw [fitVs,Bool.and_eq_true] at h;rw [List.set_cons_succ,fitVs,h.1,fitVs_set hy h.2 hj];all_goals rfl
section
variable {L:Nat} {ND:List Nd} (hok:∀ n∈ND,NdOK L ND.length n)
include hok
theorem kind5_of {v:Val} {i:Int} {d:Nd} (hF:FitF ND v i d) {e:Nat} {x:Val} (hx:v.ks[e]? = some x):5<=d.kind/\d.kind<=8:=by
 have hN:=hok d (mG (nodeA_some hF.node).2);refine ⟨?_,hN.k8⟩;have h1:=hN.k1;rcases Int.lt_or_le d.kind 5 with h | h
 ·rw [hF.leaf h] at hx;simp at hx
 ·exact h
theorem step_fit {v:Val} {i:Int} (hf:fitV ND v i=true) {s:Stp} {e:Nat} {x:Val} {j:Int} (h:stepV ND v i s=some (e,x,j)):fitV ND x j=true:=by
 obtain ⟨d,hF⟩:=fit_facts hok hf;obtain ⟨d',h1,h2,h3,h4⟩:=stepV_some h;rw [hF.node] at h1;cases h1;exact fitVs_at (hF.kids (kind5_of hok hF h3).1).2 h3 h4
end
section
variable {L:Nat} {ND:List Nd} (hok:∀ n∈ND,NdOK L ND.length n)
include hok
end
theorem find_is {p:Nat->Bool}:∀ {n e:Nat},e < n->p e=true->(∀ e' < e,p e'=false)->(List.range n).find? p=some e
 | 0,e,h,_,_=>by omega
 | n + 1,e,h,h1,h2=>by
  rw [List.range_succ,List.find?_append];by_cases he:e < n
  ·rw [find_is he h1 h2];all_goals rfl
  ·have:e=n:=by omega
   subst this;have h3:(List.range e).find? p=none:=List.find?_eq_none.2 fun x hx=>by rw [h2 x (by simpa using hx)];simp
   rw [h3];simp [h1]
theorem find_no {p:Nat->Bool} {n:Nat} (h:∀ e < n,p e=false):(List.range n).find? p=none:=List.find?_eq_none.2 fun x hx=>by rw [h x (by simpa using hx)];simp
theorem stpE_comm (a b:Stp):stpE a b=stpE b a:=by
 rw [Bool.eq_iff_iff,stpE_iff,stpE_iff];exact eq_comm
abbrev ixSt (l:List Stp) (s:Stp) (e:Nat):St:=⟨[(0,⟨[],.sl 3 (dStps l) none⟩),(3,⟨[],.loc 0 0⟩),(6,⟨[],.sl 3 (dStps l) none⟩),(7,⟨[],.v (.int .i64 (dStps l).length)⟩),(8,⟨[],.v (.int .i64 e)⟩)],[dStp s],[]⟩
theorem index_spec (f:Nat->Stp) (n:Nat) (s:Stp) (hn:n<=1099511627776) :
  EvP Tryz.prog 114 [.sl 3 (dStps ((List.range n).map f)) none,.agg (dStp s)] (.v (.int .i64 (oz ((List.range n).find? fun e=>stpE (f e) s)))):=by
 have hdl:(dStps ((List.range n).map f)).length=n:=by rw [dStps_len];simp
 refine ev_go (P:=Tryz.prog) tt tt_ok 5000 19 [.tmp 4] Tryz.func114 rfl Tryz.ntmps114 rfl (nL rfl) (fun E9 w9 hn9 hm9=>?_);refine loop_i (fun j st=>∃ e:Nat,st=ixSt ((List.range n).map f) s e/\e<=n/\(∀ e' < e,stpE (f e') s=false)/\j=n - e) n (ixSt ((List.range n).map f) s 0) (weak_mk ⟨_,rfl⟩ wA rfl rfl rfl wB) ⟨0,rfl,by omega,(fun _ h=>by omega),by omega⟩ ?_;rintro _ st ⟨e,rfl,he,hno,rfl⟩;refine br (fun hL=>?_) (fun hL=>?_)
 ·have hlt:e < n:=by simpa [hdl] using hL
  have hx:((List.range n).map f)[e]? = some (f e):=by rw [List.getElem?_map,List.getElem?_range hlt];all_goals rfl
  refine drawG_i (fun _=>false) mo (by decide +kernel) ?_;refine ⟨_,⟨by omega,dStps_get hx⟩,_,stp_eql _ _ s (f e),?_⟩;refine br (fun c=>?_) (fun c=>?_)
  ·have c:stpE s (f e)=true:=c;have:=find_is (p:=fun e=>stpE (f e) s) hlt (by show stpE (f e) s=true;rw [stpE_comm];exact c) hno;rw [this];exact (rfl:_=_)
  ·have c:stpE s (f e)=false:=c
   exact ⟨ixSt ((List.range n).map f) s (e + 1),(weak_mk ⟨_,rfl⟩ wA rfl rfl rfl (wNB hlt)),n - (e + 1),by omega,e + 1,rfl,by omega,(fun e' h=>by
    rcases Nat.lt_or_ge e' e with h1 | h1
    ·exact hno e' h1
    ·have:e'=e:=by omega
     subst this
     rw [stpE_comm];exact c),rfl⟩
 ·have hge:n<=e:=by simpa [hdl] using hL
  have:=find_no (p:=fun e=>stpE (f e) s) (n:=n) fun e' h=>hno e' (by omega);rw [this];exact (rfl:_=_)
theorem steps0_spec (d:Nd) (q z:Int) (s:ByteArray):EvP Tryz.prog 113 [.agg (dNd d),.agg (dVal (.mk q z s []))] (.sl 3 [] none):=by
 obtain ⟨kind,at',lo,hi,most,names,es⟩:=d;refine ev_go (P:=Tryz.prog) tt tt_ok 5000 55 [.tmp 4] Tryz.func113 rfl Tryz.ntmps113 rfl (nL rfl) (fun E9 w9 hn9 hm9=>?_);refine loop_i (fun j st=>st=stsSt ⟨kind,at',lo,hi,most,names,es⟩ (.mk q z s []) 0 0) 0 (stsSt ⟨kind,at',lo,hi,most,names,es⟩ (.mk q z s []) 0 0) (weak_bt 2 ⟨0,117,3,none⟩ rfl rfl rfl (by repeat' (first | exact rfl | exact we_rfl rfl | exact we_tok (Nat.le_refl _) rfl | exact we_tok (Nat.le_refl _) rfl | refine ⟨_,_,rfl,?_,?_⟩)) rfl rfl wTB) rfl ?_;rintro _ st rfl;exact ⟨_,ax,rfl⟩
def kidR (o:Option (Nat × Val × Int)):DV:=match o with
 | some (e,_,j)=>.tup [.v (.int .i64 (e:Nat)),.v (.int .i64 j)]
 | none=>.tup [.v (.int .i64 (-1)),.v (.int .i64 (-1))]
theorem tsteps_spec {L:Nat} {ND:List Nd} (hok:∀ n∈ND,NdOK L ND.length n) {v:Val} (hv:v.wt<=1099511627776) {i:Int} {d:Nd} (hF:FitF ND v i d):EvP Tryz.prog 113 [.agg (dNd d),.agg (dVal v)] (.sl 3 (dStps (stpL d v)) none):=by
 have hN:=hok d (mG (nodeA_some hF.node).2);rcases Int.lt_or_le d.kind 5 with h5 | h5
 ·have h:=hF.leaf h5;obtain ⟨q,z,s,ks⟩:=v;simp only [Val.ks] at h;subst h;exact steps0_spec d q z s
 ·refine steps_spec d v hv hF.k h5 hN.k8 (fun c=>?_) (fun c=>?_)
  ·have:=(hF.kids h5).1;rw [<- this];unfold kidsL;rw [if_neg (by omega),if_pos c,List.length_map]
  ·obtain ⟨_,_,_,h3,h4,_⟩:=hF.tag c;exact ⟨h3,h4⟩
theorem kid_spec {S:Sch} {ND:List Nd} {PC:List DV} (hP:PlanR S ND PC) {v:Val} (hv:v.wt<=1099511627776) {i:Int} (hf:fitV ND v i=true) (s:Stp) :
  EvP Tryz.prog 57 [.pt PC 0,.v (.int .i64 i),.agg (dVal v),.agg (dStp s)] (kidR (stepV ND v i s)):=by
 obtain ⟨d,hF⟩:=fit_facts hP.ok hf
 have hsv:stepV ND v i s=match kidI d v s with | none=>none | some e=>match v.ks[e]?,(kidsL d v)[e]? with | some x,some j=>some (e,x,j) | _,_=>none:=by
  unfold stepV;rw [hF.node];all_goals rfl
 have hks:∀ e,kidI d v s=some e->∃ x j,v.ks[e]? = some x/\(kidsL d v)[e]? = some j/\5<=d.kind:=fun e he=>by
  have hlt:=(find_some he).1;have hx:v.ks[e]? = some v.ks[e]:=gE hlt;have h5:=kind5_of hP.ok hF hx;exact ⟨_,_,hx,gE (by rw [(hF.kids h5.1).1];exact hlt),h5.1⟩
 have hix:kidI d v s=(List.range v.ks.length).find? fun e=>stpE (stpR d v e) s:=rfl;have h1:=tsteps_spec hP.ok hv hF;have hkl:=wtVs_len v.ks;have hvw:v.wt=64 + v.s.size + wtVs v.ks:=by cases v;rw [Val.wt];all_goals rfl
 have h2:=index_spec (stpR d v) v.ks.length s (by omega);obtain ⟨h0,hg⟩:=nodeA_some hF.node;have hN:=hP.ok d (mG hg);have h3:=fun h5=>kids_spec hN h5 v hv;obtain ⟨j0,rfl⟩:∃ j:Nat,i=j:=⟨i.toNat,by omega⟩;have hg:ND[j0]? = some d:=by simpa using hg
 have hnode:=hP.node j0 d hg;rw [<- hix] at h2;rw [hsv];have hstl:stpL d v=(List.range v.ks.length).map (stpR d v):=rfl;rw [hstl] at h1;generalize (List.range v.ks.length).map (stpR d v)=SL at h1 h2;generalize kidI d v s=o at h2 hks ⊢;clear hsv;obtain ⟨q,z,t,ks⟩:=v;obtain ⟨kind,at',lo,hi,most,names,es⟩:=d;obtain ⟨sk,sn,ss⟩:=s;refine ev_go (P:=Tryz.prog) tt tt_ok 5000 38 [.tmp 8,.tmp 9] Tryz.func57 rfl Tryz.ntmps57 rfl (nL rfl) (fun E9 w9 hn9 hm9=>?_);refine call_p en44 (hnode) ax rfl ?_;refine drawG_i (fun _=>false) mo (by decide +kernel) ?_;refine callD_p en113 (h1) ax rfl ?_;refine callD_p en114 (h2) ax rfl ?_
 cases o with
 | none=>
  exact ⟨_,ax,rfl⟩
 | some e=>
  obtain ⟨x,j,hx,hj,h5⟩:=hks e rfl;refine call_p en54 (h3 h5) ax rfl ?_;refine drawG_i (fun _=>false) mo (by decide +kernel) ?_;refine ⟨_,⟨by simp [oz],by simp [oz];exact dZs_get hj⟩,?_⟩;simp only [hx,hj];exact ⟨_,ax,rfl⟩
abbrev zVal:List DV:=[.v (.int .i64 0),.v (.int .i64 0),.v (.string emptyB),.v (.slice none 0 0)]
abbrev zeroV:Val:=.mk 0 0 emptyB []
abbrev tcSt (v:Val) (n e:Nat):St:=
 ⟨[(1,⟨[],.loc 0 0⟩),(2,⟨[],.loc 1 0⟩),(3,⟨[],.sl 4 (dVals (v.ks.take e)) (some 0)⟩),(7,⟨[],.sl 4 (dVals v.ks) none⟩),(8,⟨[],.v (.int .i64 (dVals v.ks).length)⟩),(9,⟨[],.v (.int .i64 e)⟩)],[dVal v,zVal],[⟨n,34,4,none⟩]⟩
theorem clone_spec:∀ (k:Nat) (v:Val),v.wt<=k->v.wt<=1099511627776->EvP Tryz.prog 58 [.agg (dVal v)] (.agg (dVal v))
 | 0,v,h,_=>by have:=v.wt_pos;omega
 | k + 1,.mk q z s ks,h,hb=>by
  have hkl:=wtVs_len ks;have hdl:=dVals_len ks;rw [Val.wt] at h hb;refine ev_go (P:=Tryz.prog) tt tt_ok 5000 22 [.cell 2 34] Tryz.func58 rfl Tryz.ntmps58 rfl (nL rfl) (fun E9 w9 hn9 hm9=>?_);refine loop_i (fun j st=>∃ e n:Nat,st=tcSt (.mk q z s ks) n e/\n=e/\e<=ks.length/\j=ks.length - e) ks.length (tcSt (.mk q z s ks) 0 0) (weak_bt 2 ⟨0,34,4,none⟩ rfl rfl rfl (by repeat' (first | exact rfl | exact we_rfl rfl | exact we_tok (Nat.le_refl _) rfl | exact we_tok (Nat.le_refl _) rfl | refine ⟨_,_,rfl,?_,?_⟩)) rfl rfl wTB) ⟨0,0,rfl,rfl,by omega,by omega⟩ ?_;rintro _ st ⟨e,n,rfl,rfl,he,rfl⟩;refine br (fun hL=>?_) (fun hL=>?_)
  ·have hlt:n < ks.length:=by simpa [hdl,Val.ks] using hL
   obtain ⟨x,hx⟩:∃ x,ks[n]? = some x:=⟨_,gE hlt⟩;have hxw:=wtVs_mem (mG hx);have hw:=clone_spec k x (by omega) (by omega);have hsn:=dVals_snoc hx;have hml:(dVals (ks.take n)).length=n:=by rw [dVals_len,List.length_take];omega
   obtain ⟨xk,xn,xs,xl⟩:=x;refine ⟨_,⟨by omega,dVals_get hx⟩,?_⟩;refine call_p en58 (hw) ax rfl ?_;refine ⟨hml,⟨by simp only [Val.ks];rw [hml];simp [maxLen];omega,by simp only [Val.ks];rw [hml];simp;omega⟩,?_⟩;exact ⟨tcSt (.mk q z s ks) (n + 1) (n + 1),(weak_b 2 rfl (wSA hlt hsn) rfl rfl rfl (wSB hlt hsn)),ks.length - (n + 1),by omega,n + 1,n + 1,rfl,rfl,by omega,rfl⟩
  ·have hge:n=ks.length:=by
    have:=hL;simp [hdl,Val.ks] at this;omega
   subst hge;have h1:dVals (Val.mk q z s ks).ks=dVals ks:=rfl;have h2:ks.take ks.length=ks:=List.take_length;have h3:(Val.mk q z s ks).ks.take ks.length=ks:=h2;rw [h3];exact ⟨_,ax,rfl⟩
abbrev coSt (v:Val) (cs:List DV) (n e:Nat):St:=
 ⟨[(1,⟨[],.loc 0 0⟩),(2,⟨[],.loc 1 0⟩),(3,⟨[],.sl 0 (List.replicate e []) (some 0)⟩),(7,⟨[],.sl 4 (dVals v.ks) none⟩),(8,⟨[],.v (.int .i64 (dVals v.ks).length)⟩),(9,⟨[],.v (.int .i64 e)⟩)],[dVal v,zVal],[⟨n,34,4,some cs⟩]⟩
theorem clone_own (v:Val) (hv:v.wt<=1099511627776):EvF Tryz.prog 58 [.agg (dVal v)] [] [] (fun r _ tks=>r = .agg [.v (.int .i64 v.k),.v (.int .i64 v.n),.v (.string v.s),.sl 0 (List.replicate v.ks.length []) (some 0)]/\tks=[⟨v.ks.length,34,4,some (dVals v.ks).flatten⟩]):=by
 obtain ⟨q,z,s,ks⟩:=v;have hkl:=wtVs_len ks;have hdl:=dVals_len ks;rw [Val.wt] at hv;refine evB_gom (s:=false) (bt:=[]) (mu:=[]) (hbt:=fun p hp=>by cases hp) (fr:=true) (P:=Tryz.prog) tt tt_ok 5000 22 [.cell 2 34] Tryz.func58 rfl Tryz.ntmps58 rfl (nL rfl) (fun E9 w9 hn9 hm9=>?_);refine loop_i (fun j st=>∃ (e:Nat) (cs:List DV),st=coSt (.mk q z s ks) cs e e/\cs=(dVals (ks.take e)).flatten/\e<=ks.length/\j=ks.length - e) ks.length (coSt (.mk q z s ks) [] 0 0) (weak_bt 2 ⟨0,34,4,some []⟩ rfl rfl rfl (by repeat' (first | exact rfl | exact we_rfl rfl | exact we_tok (Nat.le_refl _) rfl | exact we_tok (Nat.le_refl _) rfl | refine ⟨_,_,rfl,?_,?_⟩)) rfl rfl wTB) ⟨0,[],rfl,rfl,by omega,by omega⟩ ?_;rintro _ st ⟨e,cs,rfl,hcs,he,rfl⟩;refine br (fun hL=>?_) (fun hL=>?_)
 ·have hlt:e < ks.length:=by simpa [hdl,Val.ks] using hL
  obtain ⟨x,hx⟩:∃ x,ks[e]? = some x:=⟨_,gE hlt⟩;have hxw:=wtVs_mem (mG hx);have hw:=clone_spec _ x (Nat.le_refl _) (by omega);have hsn:=congrArg List.flatten (dVals_snoc hx);rw [List.flatten_append,<- hcs] at hsn;obtain ⟨xk,xn,xs,xl⟩:=x;refine ⟨_,⟨by omega,dVals_get hx⟩,?_⟩;refine call_p en58 (hw) ax rfl ?_;refine ⟨⟨⟨List.length_replicate,by simp⟩,by simp [maxLen];omega,by simp;omega⟩,?_⟩;exact ⟨coSt (.mk q z s ks) _ (e + 1) (e + 1),(weak_b 2 rfl (wNA hlt) rfl rfl rfl (wNB hlt)),ks.length - (e + 1),by omega,e + 1,_,rfl,hsn,by omega,rfl⟩
 ·have hge:e=ks.length:=by
   have:=hL;simp [hdl,Val.ks] at this;omega
  subst hge;rw [List.take_length] at hcs;subst hcs;exact ⟨_,[],aL,rfl,rfl,rfl⟩
def resG (o:Option (Val × Int)):DV:=match o with
 | some (x,j)=>.tup [.agg (dVal x),.v (.int .i64 j),.v (.bool true)]
 | none=>.tup [.agg (dVal zeroV),.v (.int .i64 (-1)),.v (.bool false)]
theorem sl_tail (s:Stp) (p:List Stp):DV.sl 3 (((dStps (s :: p)).take (((dStps (s :: p)).length:Nat):Int).toNat).drop (1:Int).toNat) none = .sl 3 (dStps p) none:=by
 rw [Int.toNat_natCast,List.take_length];all_goals rfl
abbrev gtSt (PC:List DV) (p:List Stp) (v:Val) (i:Int) (e:Nat):St:=
 ⟨[(0,⟨[],.pt PC 0⟩),(1,⟨[],.v (.int .i64 i)⟩),(6,⟨[],.loc 0 0⟩),(8,⟨[],.loc 1 0⟩),(21,⟨[],.sl 3 (dStps p) none⟩),(22,⟨[],.v (.int .i64 (dStps p).length)⟩),(23,⟨[],.v (.int .i64 e)⟩)],[dVal v,zVal],[]⟩
theorem tget_spec {S:Sch} {ND:List Nd} {PC:List DV} (hP:PlanR S ND PC) {v:Val} (hv:v.wt<=1099511627776) (i:Int) (p:List Stp) (hp:p.length<=1099511627776) :
  EvP Tryz.prog 17 [.pt PC 0,.v (.int .i64 i),.agg (dVal v),.sl 3 (dStps p) none] (resG (if fitV ND v i=true then getV ND p v i else none)):=by
 have hfit:=tfits_spec hP _ v (Nat.le_refl _) hv i;have hdp:=dStps_len p
 have hgo:∀ e vc ic,e<=p.length->getV ND (p.drop e) vc ic=match p[e]? with | none=>some (vc,ic) | some s=>match stepV ND vc ic s with | none=>none | some (_,x,j)=>getV ND (p.drop (e + 1)) x j:=fun e vc ic he=>by
  cases hs:p[e]? with
  | none=>rw [List.drop_eq_nil_of_le (List.getElem?_eq_none_iff.1 hs)];all_goals rfl
  | some s=>
   obtain ⟨h1,h2⟩:=List.getElem?_eq_some_iff.1 hs;rw [List.drop_eq_getElem_cons h1,h2,getV];all_goals rfl
 generalize hR:(if fitV ND v i=true then getV ND p v i else none)=R;have hvq:dVal v=dVal v:=rfl;generalize hvV:v=V at *;obtain ⟨q,z,s,ks⟩:=V;refine ev_go (P:=Tryz.prog) tt tt_ok 5000 48 [.cell 8 34,.tmp 9,.tmp 10] Tryz.func17 rfl Tryz.ntmps17 rfl (nL rfl) (fun E9 w9 hn9 hm9=>?_);refine call_p en14 (hfit) ax rfl ?_;refine br (fun c=>?_) (fun c=>?_)
 ·have c:fitV ND (.mk q z s ks) i=false:=by simpa using c
  rw [c] at hR;subst hR;exact ⟨_,ax,rfl⟩
 have c:fitV ND (.mk q z s ks) i=true:=by simpa using c
 rw [if_pos c] at hR;refine loop_i (fun j st=>∃ (e:Nat) (vc:Val) (ic:Int),st=gtSt PC p vc ic e/\e<=p.length/\getV ND (p.drop e) vc ic=R/\fitV ND vc ic=true/\vc.wt<=1099511627776/\j=p.length - e) p.length (gtSt PC p (.mk q z s ks) i 0) (weak_b 2 rfl (by repeat' (first | exact rfl | exact we_rfl rfl | exact we_rfl rfl | refine ⟨_,_,rfl,?_,?_⟩)) rfl rfl rfl (by repeat' (first | exact trivial | exact we_rfl rfl | exact we_rfl rfl | refine ⟨⟨_,rfl,?_⟩,?_⟩))) ⟨0,_,_,rfl,by omega,hR,c,hv,by omega⟩ ?_;rintro _ st ⟨e,vc,ic,rfl,he,hg,hfc,hvc,rfl⟩;have hgo:=hgo e vc ic he;rw [hg] at hgo;refine br (fun hL=>?_) (fun hL=>?_)
 ·have hlt:e < p.length:=by simpa [hdp] using hL
  obtain ⟨y,hy⟩:∃ y,p[e]? = some y:=⟨_,gE hlt⟩;rw [hy] at hgo;simp only at hgo;have hk:=kid_spec hP hvc hfc y;have hsf:=@step_fit _ _ hP.ok vc ic hfc y;have hss:=@stepV_some ND vc ic y;generalize stepV ND vc ic y=o at hk hgo hsf hss;obtain ⟨yk,yn,ys⟩:=y;obtain ⟨ck,cn,cs,cks⟩:=vc;refine ⟨_,⟨by omega,dStps_get hy⟩,?_⟩;refine call_p en57 (hk) ax rfl ?_
  cases o with
  | none=>
   simp only at hgo;subst hgo;exact ⟨_,ax,rfl⟩
  | some o=>
   obtain ⟨e2,x,j⟩:=o;obtain ⟨d,_,_,hx,_⟩:=hss rfl;have hxf:=hsf rfl;simp only [Val.ks] at hx;have hxw:=wtVs_mem (mG hx);rw [Val.wt] at hvc;simp only at hgo;refine ⟨_,⟨by omega,by simpa using dVals_get hx⟩,?_⟩;obtain ⟨xk,xn,xs,xl⟩:=x;exact ⟨gtSt PC p (.mk xk xn xs xl) j (e + 1),(weak_b 2 rfl (wNA hlt) rfl rfl rfl (wNB hlt)),p.length - (e + 1),by omega,e + 1,_,_,rfl,by omega,hgo.symm,hxf,by omega,rfl⟩
 ·have hge:e=p.length:=by
   have:=hL;simp [hdp] at this;omega
  have:p[e]? = none:=List.getElem?_eq_none (by omega);rw [this] at hgo;simp only at hgo;subst hgo;have hw:=clone_spec _ vc (Nat.le_refl _) hvc;obtain ⟨ck,cn,cs,cks⟩:=vc;refine call_p en58 (hw) ax rfl ?_;exact ⟨_,ax,rfl⟩
theorem flat_setU {α:Type} {c:Nat} {x:List α}:∀ {l:List (List α)} {e:Nat},(∀ y∈l,y.length=c)->e < l.length->(l.set e x).flatten=l.flatten.take (e * c) ++ x ++ l.flatten.drop (e * c + c)
 | [],e,_,h=>by simp at h
 | y :: r,0,hl,h=>by
  have hy:=hl y (by simp);subst hy;simp
 | y :: r,e + 1,hl,h=>by
  have hy:=hl y (by simp);have ih:=flat_setU (x:=x) (l:=r) (e:=e) (fun z hz=>hl z (by simp [hz])) (by simpa using h);have h1:(e + 1) * c=y.length + e * c:=by rw [hy,Nat.add_mul,Nat.one_mul,Nat.add_comm]
  have h2:(e + 1) * c + c=y.length + (e * c + c):=by rw [h1];omega
  rw [List.set_cons_succ,List.flatten_cons,List.flatten_cons,ih,h2,h1,List.take_length_add_append,List.drop_length_add_append];simp
theorem dVals_cells:∀ (l:List Val),∀ x∈dVals l,x.length=4
 | [],x,h=>by simp [dVals] at h
 | .mk _ _ _ _ :: r,x,h=>by
  rw [dVals] at h;rcases List.mem_cons.1 h with h | h
  ·rw [h];all_goals rfl
  ·exact dVals_cells r x h
theorem dVals_set (l:List Val) (e:Nat) (y:Val):dVals (l.set e y)=(dVals l).set e (dVal y):=by rw [dVals_map,dVals_map,List.map_set]
theorem tput_spec {S:Sch} {ND:List Nd} {PC:List DV} (hP:PlanR S ND PC) (x:Val) (hx:x.wt<=1099511627776):∀ (p:List Stp),p.length<=1099511627776->∀ (v:Val),v.wt<=1099511627776->∀ (i:Int),fitV ND v i=true->∀ r,getV ND p v i=some r ->
  EvP Tryz.prog 85 [.pt PC 0,.v (.int .i64 i),.agg (dVal v),.sl 3 (dStps p) none,.agg (dVal x)] (.agg (dVal (setV ND p v i x)))
 | [],_,v,hv,i,hf,r,hg=>by
  have hw:=clone_spec _ x (Nat.le_refl _) hx;rw [setV];obtain ⟨q,z,s,ks⟩:=v;obtain ⟨xk,xn,xs,xl⟩:=x;refine ev_go (P:=Tryz.prog) tt tt_ok 5000 47 [.cell 10 34] Tryz.func85 rfl Tryz.ntmps85 rfl (nL rfl) (fun E9 w9 hn9 hm9=>?_);refine call_p en58 (hw) ax rfl ?_;exact ⟨_,ax,rfl⟩
 | s :: p,hp,v,hv,i,hf,r,hg=>by
  have hkid:=kid_spec hP hv hf s;have hsf:=@step_fit _ _ hP.ok v i hf s;have hss:=@stepV_some ND v i s;rw [getV] at hg;rw [setV];rw [List.length_cons] at hp;have htail:=sl_tail s p;have hco:=clone_own v hv;generalize stepV ND v i s=o at hkid hsf hss hg ⊢
  cases o with
  | none=>cases hg
  | some o=>
   obtain ⟨e,y,j⟩:=o;obtain ⟨d,_,_,hy,_⟩:=hss rfl;have hyf:=hsf rfl;have hyw:=wtVs_mem (mG hy);have hlt:=(gS hy).1;have hvw:v.wt=64 + v.s.size + wtVs v.ks:=by cases v;rw [Val.wt];all_goals rfl
   have hw:=tput_spec hP x hx p (by omega) y (by omega) j hyf r hg;simp only;generalize setV ND p y j x=u at hw;obtain ⟨q,z,t,ks⟩:=v;obtain ⟨xk,xn,xs,xl⟩:=x;obtain ⟨uk,un,us,ul⟩:=u;obtain ⟨yk,yn,ys,yl⟩:=y;have hflat:=flat_setU (x:=dVal (.mk uk un us ul)) (dVals_cells ks) (e:=e) (by rw [dVals_len];exact hlt);rw [<- dVals_set] at hflat;have hsc:=dVals_cells (ks.set e (.mk uk un us ul));have hsl:(dVals (ks.set e (.mk uk un us ul))).length=ks.length:=by rw [dVals_len,List.length_set]
   have hdl:=dVals_len ks;have hds:=dStps_get (l:=s :: p) (e:=0) rfl;have hdsl:=dStps_len (s :: p);rw [List.length_cons] at hdsl;obtain ⟨sk,sn,ss⟩:=s;simp only [Val.ks] at hlt hy hco;simp only [vset,Val.k,Val.n,Val.s,Val.ks] at hco ⊢;refine ev_go (P:=Tryz.prog) tt tt_ok 5000 47 [.cell 10 34] Tryz.func85 rfl Tryz.ntmps85 rfl (nL rfl) (fun E9 w9 hn9 hm9=>?_);refine drawG_i (fun _=>false) mo (by decide +kernel) ?_;refine ⟨_,⟨by omega,hds⟩,?_⟩;refine callD_p en57 (hkid) ax rfl ?_;refine call_f en58 rfl hco ax (fun r1 tks hr=>?_);obtain ⟨rfl,rfl⟩:=hr;refine drawG_s mo (by decide +kernel) ?_;refine ⟨_,⟨by omega,by simpa using dVals_get hy⟩,?_⟩;refine ⟨⟨by omega,by omega,by omega⟩,?_⟩;refine callD_own (e:=4) (es:=List.replicate ks.length []) (m:=ks.length) en85 rfl hw (by repeat' (first | exact rfl | exact trivial | exact Or.inr (Or.inl ⟨_,rfl⟩) | exact Or.inr ⟨_,rfl⟩ | exact Or.inl ⟨rfl,rfl⟩ | exact Or.inl rfl | refine Or.inr ⟨_,_,rfl,Nat.zero_le _,rfl,?_⟩ | refine ⟨_,_,rfl,?_,?_⟩ | refine ⟨_,rfl,?_⟩ | exact Or.inr (Or.inl ⟨_,htail⟩) | refine Or.inr (Or.inr (Or.inr ⟨_,_,rfl,?_⟩)) | exact Or.inl rfl | refine Or.inr ?_)) ⟨rfl,rfl,rfl⟩ ⟨rfl,rfl,rfl⟩ rfl rfl rfl rfl rfl rfl (by decide) rfl rfl rfl List.length_replicate ⟨by omega,by omega⟩ rfl ?_;refine ⟨_,wk_own (j:=3) (o:=3) (k:=0) (ty:=34) (e:=4) (ocs:=[.v (.int .i64 q),.v (.int .i64 z),.v (.string t),.sl 0 (List.replicate ks.length []) (some 0)]) (n:=ks.length) (es:=List.replicate ks.length []) (ns:=dVals (ks.set e (.mk uk un us ul))) ?_ hsc hsl rfl rfl List.length_replicate,?_⟩
   ·rw [hflat];rfl
   ·exact ⟨_,ax,rfl⟩
def resS (o:Option Val):DV:=match o with
 | some y=>.tup [.agg (dVal y),.v (.bool true)]
 | none=>.tup [.agg (dVal zeroV),.v (.bool false)]
theorem tset_spec {S:Sch} {ND:List Nd} {PC:List DV} (hP:PlanR S ND PC) {v x:Val} (hv:v.wt<=1099511627776) (hx:x.wt<=1099511627776) (i:Int) (p:List Stp) (hp:p.length<=1099511627776) :
  EvP Tryz.prog 34 [.pt PC 0,.v (.int .i64 i),.agg (dVal v),.sl 3 (dStps p) none,.agg (dVal x)]
   (resS (match (if fitV ND v i=true then getV ND p v i else none) with | none=>none | some (_,j)=>if fitV ND x j=true then some (setV ND p v i x) else none)):=by
 have hget:=tget_spec hP hv i p hp;have hfx:=fun j=>tfits_spec hP _ x (Nat.le_refl _) hx j;have hput:=fun hf r hr=>tput_spec hP x hx p hp v hv i hf r hr;by_cases hf:fitV ND v i=true
 ·rw [if_pos hf] at hget ⊢;have hput:=hput hf;generalize getV ND p v i=o at hget hput ⊢
  cases o with
  | none=>
   obtain ⟨q,z,s,ks⟩:=v;obtain ⟨xk,xn,xs,xl⟩:=x;refine ev_go (P:=Tryz.prog) tt tt_ok 5000 40 [.cell 10 34,.tmp 11] Tryz.func34 rfl Tryz.ntmps34 rfl (nL rfl) (fun E9 w9 hn9 hm9=>?_);refine call_p en17 (hget) ax rfl ?_;exact ⟨_,ax,rfl⟩
  | some r=>
   obtain ⟨y,j⟩:=r;have hput2:=hput _ rfl;clear hput;have hfx:=hfx j;generalize setV ND p v i x=u at hput2 ⊢;simp only;obtain ⟨q,z,s,ks⟩:=v;obtain ⟨xk,xn,xs,xl⟩:=x;obtain ⟨uk,un,us,ul⟩:=u;obtain ⟨yk,yn,ys,yl⟩:=y;refine ev_go (P:=Tryz.prog) tt tt_ok 5000 40 [.cell 10 34,.tmp 11] Tryz.func34 rfl Tryz.ntmps34 rfl (nL rfl) (fun E9 w9 hn9 hm9=>?_);refine call_p en17 (hget) ax rfl ?_;refine call_p en14 (hfx) ax rfl ?_
   cases hc:fitV ND (.mk xk xn xs xl) j with
   | false=>exact ⟨_,ax,rfl⟩
   | true=>
    refine call_p en85 (hput2) ax rfl ?_;exact ⟨_,ax,rfl⟩
 ·rw [if_neg hf] at hget ⊢;obtain ⟨q,z,s,ks⟩:=v;obtain ⟨xk,xn,xs,xl⟩:=x;refine ev_go (P:=Tryz.prog) tt tt_ok 5000 40 [.cell 10 34,.tmp 11] Tryz.func34 rfl Tryz.ntmps34 rfl (nL rfl) (fun E9 w9 hn9 hm9=>?_);refine call_p en17 (hget) ax rfl ?_;exact ⟨_,ax,rfl⟩
def ownΦ (v:Val) (r:DV) (tks:List TkE):Prop:=
 (r = .agg ([.v (.int .i64 v.k),.v (.int .i64 v.n),.v (.string v.s)] ++ [.sl 0 (List.replicate v.ks.length []) (some 0)])/\tks=[⟨v.ks.length,34,4,some (dVals v.ks).flatten⟩])∨(v.ks=[]/\r = .agg (dVal v)/\tks=[])
theorem evp_val {P:Program} {f:FuncId} {args:List DV} {v:Val} (hc:EvF P f args [] [] (fun r _ tks=>ownΦ v r tks)):EvP P f args (.agg (dVal v)):=by
 intro E w vs henv htk hv;refine (hc E w vs henv htk hv).mono ?_;rintro ex w' ⟨x,rfl,h⟩;obtain ⟨k,n,s,ks⟩:=v;rcases endd_or h with h | h
 ·exact ⟨x,rfl,endd_frz (l:=[.v (.int .i64 k),.v (.int .i64 n),.v (.string s)]) henv htk (by simp) (dVals_cells ks) (dVals_len ks) List.length_replicate h⟩
 ·refine ⟨x,rfl,endd_none htk (endd_mono h fun r o t ht=>ht.2)⟩
section
variable (PC:List DV) (ND:List Nd) (D:List Nat) (K:List Bool) (sz ot:List Nat) {L:Nat}
abbrev on26St (n:Nd) (cs:List DV) (e:Nat):St:=
 ⟨[(0,⟨[],.pt (mkD PC ND D K sz ot) 0⟩),(4,⟨[],.loc 0 0⟩),(6,⟨[],.loc 2 0⟩),(30,⟨[],.sl 10 (dEds n.edges) none⟩),(31,⟨[],.v (.int .i64 (dEds n.edges).length)⟩),(32,⟨[],.v (.int .i64 e)⟩)],[zVal,dNd n,[.v (.int .i64 7),.v (.int .i64 0),.v (.string .empty),.sl 0 (List.replicate e []) (some 0)]],[⟨e,34,4,some cs⟩]⟩
theorem one_f (hO:DepOK ND D) (hok:∀ n∈ND,NdOK L ND.length n) (hsz:∀ n∈ND,n.edges.length<=1099511627776):∀ (f i:Nat),i < ND.length->0 < D.getD i 0->D.getD i 0<=f->EvF Tryz.prog 78 [.pt (mkD PC ND D K sz ot) 0,.v (.int .i64 i)] [] [] (fun r _ tks=>ownΦ (firstV ND D f i) r tks)
 | 0,i,_,h0,h1=>by omega
 | f + 1,i,hi,h0,h1=>by
  have ih:=fun j hj h0 h1=>evp_val (one_f hO hok hsz f j hj h0 h1);obtain ⟨n,hn⟩:∃ n,ND[i]? = some n:=⟨_,gE hi⟩;have hnm:=mG hn;have hN:=hok n hnm;have hrc:=hO.rcd hn h0;have hun:=hO.uni hn h0;have hch:=choose_spec PC ND D K sz ot hO.len hN (hsz n hnm);have hel:=hsz n hnm;have hedge:=hN.edge;have hbare:=hN.bare
  have hF:firstV ND D (f + 1) i=if n.kind=2 then valN 2 n.lo
   else if n.kind=7 then .mk 7 0 emptyB (n.edges.map fun e=>firstV ND D f e.to.toNat)
   else if n.kind=8 then (match chooseF D n.edges with | some c=>tagV (firstV ND D f) n.edges c | none=>valN 8 0)
   else valN n.kind 0:=by rw [firstV,hn];all_goals rfl
  generalize firstV ND D (f + 1) i=F at hF;generalize D.getD i 0=di at hrc hun h1;obtain ⟨kind,at',lo,hi',most,names,es⟩:=n;simp only at hrc hun hch hedge hel hF hbare;have hdl:=dEds_len es;refine evB_gom (s:=false) (bt:=[]) (mu:=[65]) (hbt:=fun p hp=>by cases hp) (fr:=true) (P:=Tryz.prog) tt tt_ok 5000 68 [.cell 4 34] Tryz.func78 rfl Tryz.ntmps78 rfl (nL rfl) (fun E9 w9 hn9 hm9=>?_);refine ⟨_,⟨by omega,dNds_get hn⟩,?_⟩;refine br (fun c2=>?_) (fun c2=>?_)
  ·have c2:kind=2:=by simpa using c2
   rw [if_pos c2] at hF;have hΦ:ownΦ F (.agg (dVal (valN kind lo))) []:=by rw [hF,c2];exact .inr ⟨rfl,rfl,rfl⟩
   exact ⟨.agg (dVal (valN kind lo)),[],ax,rfl,hΦ⟩
  have c2:¬ kind=2:=by simpa using c2
  rw [if_neg c2] at hF;refine br (fun c7=>?_) (fun c7=>?_)
  ·have c7:kind=7:=by simpa using c7
   rw [if_pos c7] at hF;have hrc:=hrc c7;refine loop_i (fun j st=>∃ (e:Nat) (cs:List DV),st=on26St PC ND D K sz ot ⟨kind,at',lo,hi',most,names,es⟩ cs e/\cs=(dVals ((es.take e).map fun e=>firstV ND D f e.to.toNat)).flatten/\e<=es.length/\j=es.length - e) es.length (on26St PC ND D K sz ot ⟨kind,at',lo,hi',most,names,es⟩ [] 0) (weak_bt 3 ⟨0,34,4,some []⟩ rfl rfl rfl (by repeat' (first | exact rfl | exact we_rfl rfl | exact we_int c7 | exact we_tok (Nat.le_refl _) rfl | exact we_tok (Nat.le_refl _) rfl | refine ⟨_,_,rfl,?_,?_⟩)) rfl rfl (by repeat' (first | exact trivial | exact we_rfl rfl | exact we_int c7 | exact we_tok (Nat.le_refl _) rfl | refine ⟨⟨_,rfl,?_⟩,?_⟩))) ⟨0,[],rfl,rfl,by omega,by omega⟩ ?_;rintro j st ⟨e,cs,rfl,hcs,he,rfl⟩;refine br (fun hL=>?_) (fun hL=>?_)
   ·have hlt:e < es.length:=by simpa [hdl] using hL
    obtain ⟨x,hx⟩:∃ x,es[e]? = some x:=⟨_,gE hlt⟩;obtain ⟨hx0,hx1⟩:=hrc x (mG hx)
    have hxb:x.bare=false:=by
     cases hb:x.bare with
     | false=>rfl
     | true=>have:=hbare x (mG hx) hb;omega
    obtain ⟨k,hk,hkl⟩:=(hedge x (mG hx)).to1 hxb;have hek:edN D x=D.getD k 0:=by unfold edN;rw [hk,Int.toNat_natCast]
    have hone:=ih k hkl (by omega) (by omega)
    have hsn:(dVals ((es.take (e + 1)).map fun e=>firstV ND D f e.to.toNat)).flatten=cs ++ dVal (firstV ND D f k):=by
     rw [hcs,take_snoc hx,List.map_append,dVals_map,dVals_map];simp [hk]
    generalize firstV ND D f k=u at hone hsn;obtain ⟨uk,un,us,ul⟩:=u;obtain ⟨en,eb,ea,et,elb,ew,eck,ecn,ese,eca⟩:=x;simp only at hk;subst hk;refine ⟨_,⟨by omega,dEds_get hx⟩,?_⟩;refine drawG_s mo (by decide +kernel) ?_;refine callD_p en78 (hone) ax rfl ?_;refine ⟨⟨⟨List.length_replicate,by simp⟩,by simp [maxLen];omega,by simp;omega⟩,?_⟩;exact ⟨on26St PC ND D K sz ot ⟨kind,at',lo,hi',most,names,es⟩ _ (e + 1),(weak_b 3 rfl (wNA hlt) rfl rfl rfl (wNB hlt)),es.length - (e + 1),by omega,e + 1,_,rfl,hsn.symm,by omega,rfl⟩
   ·have hge:e=es.length:=by have:=hL;simp [hdl] at this;omega
    subst hge;rw [List.take_length] at hcs
    have hΦ:ownΦ F (.agg [.v (.int .i64 7),.v (.int .i64 0),.v (.string .empty),.sl 0 (List.replicate es.length []) (some 0)]) [⟨es.length,34,4,some cs⟩]:=by
     rw [hF,hcs];refine .inl ⟨?_,?_⟩
     ·simp [Val.k,Val.n,Val.s,Val.ks];rfl
     ·simp [Val.ks]
    exact ⟨.agg [.v (.int .i64 7),.v (.int .i64 0),.v (.string .empty),.sl 0 (List.replicate es.length []) (some 0)],[],aL,rfl,hΦ⟩
  have c7:¬ kind=7:=by simpa using c7
  rw [if_neg c7] at hF;refine br (fun c8=>?_) (fun c8=>?_)
  ·have c8:kind=8:=by simpa using c8
   subst c8;obtain ⟨c,x,hc,hx,hp⟩:=hun rfl;rw [if_pos rfl,hc] at hF;rw [hc] at hch;refine call_p en143 (hch) ax rfl ?_;refine ⟨_,⟨Int.natCast_nonneg _,dEds_get hx⟩,?_⟩;refine br (fun cb=>?_) (fun cb=>?_)
   ·have cb:x.bare=false:=by simpa using cb
    obtain ⟨hx0,hx1⟩:=hp cb;obtain ⟨k,hk,hkl⟩:=(hedge x (mG hx)).to1 cb;have hek:edN D x=D.getD k 0:=by unfold edN;rw [hk,Int.toNat_natCast]
    have hone:=ih k hkl (by omega) (by omega);have hF2:F = .mk 8 c emptyB [firstV ND D f k]:=by rw [hF];simp only [tagV,hx,cb];rw [hk];all_goals rfl
    generalize firstV ND D f k=u at hone hF2;obtain ⟨uk,un,us,ul⟩:=u;obtain ⟨en,eb,ea,et,elb,ew,eck,ecn,ese,eca⟩:=x;simp only at hk;subst hk;refine call_p en78 (hone) ax rfl ?_;refine op_litO rfl rfl rfl rfl rfl rfl (hk:=?_)
    have hΦ:ownΦ F (.agg [.v (.int .i64 8),.v (.int .i64 (c:Nat)),.v (.string .empty),.sl 0 (List.replicate 1 []) (some 0)]) [⟨1,34,4,some (dVal (.mk uk un us ul) ++ [])⟩]:=by
     rw [hF2];exact .inl ⟨rfl,rfl⟩
    exact ⟨.agg [.v (.int .i64 8),.v (.int .i64 (c:Nat)),.v (.string .empty),.sl 0 (List.replicate 1 []) (some 0)],[],aL,rfl,hΦ⟩
   ·have cb:x.bare=true:=by simpa using cb
    have hΦ:ownΦ F (.agg (dVal (valN 8 c))) []:=by
     rw [hF];simp only [tagV,hx,cb,if_true];exact .inr ⟨rfl,rfl,rfl⟩
    exact ⟨.agg (dVal (valN 8 c)),[],ax,rfl,hΦ⟩
  ·have c8:¬ kind=8:=by simpa using c8
   rw [if_neg c8] at hF;have hΦ:ownΦ F (.agg (dVal (valN kind 0))) []:=by rw [hF];exact .inr ⟨rfl,rfl,rfl⟩
   exact ⟨.agg (dVal (valN kind 0)),[],ax,rfl,hΦ⟩
end
theorem thB_pos {D:List Nat} {e:Ed} (h:thB D e=true) (hb:e.bare=false):0 < edN D e:=by
 unfold thB at h;rw [hb,Bool.false_or] at h;exact of_decide_eq_true h
theorem fstV_eq {ND:List Nd} {D:List Nat} (h:DepOK ND D) {i:Nat} {n:Nd} (hn:ND[i]? = some n) (h0:0 < D.getD i 0):fstV ND D i=if n.kind=2 then valN 2 n.lo
   else if n.kind=7 then .mk 7 0 emptyB (n.edges.map fun e=>fstV ND D e.to.toNat)
   else if n.kind=8 then (match chooseF D n.edges with | some c=>tagV (fstV ND D) n.edges c | none=>valN 8 0)
   else valN n.kind 0:=by
 obtain ⟨d,hd⟩:∃ d,D.getD i 0=d + 1:=⟨D.getD i 0 - 1,by omega⟩;rw [<- firstV_any h h0 (Nat.le_refl _),hd,firstV,hn];simp only;split
 ·rfl
 ·split
  ·rename_i h7;refine congrArg (Val.mk 7 0 emptyB) (List.map_congr_left fun e he=>?_);obtain ⟨h2,h3⟩:=h.rcd hn h0 h7 e he;exact firstV_any h h2 (by unfold edN at h3;omega)
  ·split
   ·rename_i h8;obtain ⟨c,e,hc,he,hp⟩:=h.uni hn h0 h8;rw [hc];refine tagV_congr fun e' he' hb=>?_;rw [he] at he';cases he';obtain ⟨h2,h3⟩:=hp hb;exact firstV_any h h2 (by unfold edN at h3;omega)
   ·rfl
section
variable (PC:List DV) (ND:List Nd) (D:List Nat) (K:List Bool) (sz T:List Nat) {L:Nat}
theorem two_spec (hO:DepOK ND D) (hok:∀ n∈ND,NdOK L ND.length n) (hsz:∀ n∈ND,n.edges.length<=1099511627776) (hrn:∀ n∈ND,n.kind=2 -> -9223372036854775808<=n.lo/\n.hi<=9223372036854775807) (hlK:K.length=ND.length) (hKs:∀ i n,ND[i]? = some n->K.getD i false=true->sevF n D K=true)
  (hT:∀ i,T.getD i 0≠0->∃ n,ND[i]? = some n/\K.getD i false=true/\T.getD i 0=othE T (othS sz D K n)):∀ (f i:Nat),T.getD i 0≠0->T.getD i 0<=f->T.getD i 0 < 4097->EvP Tryz.prog 79 [.pt (mkD PC ND D K sz T) 0,.v (.int .i64 i)] (.agg (dVal (secondV ND D K f i)))
 | 0,i,h0,h1,_=>by omega
 | f + 1,i,h0,h1,h2=>by
  obtain ⟨n,hn,hKi,hv⟩:=hT i h0;have hi:=(gS hn).1;have hnm:=mG hn;have hN:=hok n hnm;have hsv:=hKs i n hn hKi;have hSec:=secOK_of hN hsv;have hDi:0 < D.getD i 0:=by rw [hO.get i n hn];exact sevF_dep hN hsv
  have hone:=fun k hk hp=>one_f PC ND D K sz T hO hok hsz ND.length k hk hp (hO.le k)
  have hrec:∀ s j,1<=s->T.getD i 0=othE T (s,some j)->EvP Tryz.prog 79 [.pt (mkD PC ND D K sz T) 0,.v (.int .i64 j)] (.agg (dVal (secondV ND D K f j))):=fun s j hs h=>by
   have hj0:T.getD j 0≠0:=fun hj=>h0 (by rw [h];simp only [othE];rw [if_pos hj])
   have hlt:T.getD j 0 < T.getD i 0:=by
    have h':=h;simp only [othE] at h';rw [if_neg hj0] at h';unfold cutM at h';omega
   exact two_spec hO hok hsz hrn hlK hKs hT f j hj0 (by omega) (by omega)
  have hch:=choose_spec PC ND D K sz T hO.len hN (hsz n hnm);have htn:=sturn_spec PC ND D K sz T hO.len hN (hsz n hnm);have hcg:=fun h=>schanged_spec PC ND D K sz T hlK hN h (hsz n hnm);have hun:=hO.uni hn hDi;have hel:=hsz n hnm;have hedge:=hN.edge;have hbare:=hN.bare;have honeE:=hN.one;have hp:=othS_pos sz D K n;have hF:secondV ND D K (f + 1) i=secB (fstV ND D) (secondV ND D K f) D K n:=by rw [secondV,hn]
  have hF1:=fstV_eq hO hn hDi;have hone':=hone i hi hDi;rw [show firstV ND D ND.length i=fstV ND D i from rfl,hF1] at hone'
  have honek:∀ {x:Ed},x∈n.edges->x.bare=false->0 < edN D x->∃ k:Nat,x.to=k/\k < ND.length/\EvP Tryz.prog 78 [.pt (mkD PC ND D K sz T) 0,.v (.int .i64 k)] (.agg (dVal (fstV ND D k))):=fun {x} hx hb h=>by
   obtain ⟨k,hk,hkl⟩:=(hedge x hx).to1 hb;exact ⟨k,hk,hkl,evp_val (hone k hkl (by unfold edN at h;rw [hk,Int.toNat_natCast] at h;exact h))⟩
  rw [hF];clear hF hF1;obtain ⟨kind,at',lo,hi',most,names,es⟩:=n;simp only at hv hun hch htn hcg hel hedge hbare honeE hone' honek;have h7:=hSec.c7;have h8:=hSec.c8;simp only at h7 h8;refine ev_go (P:=Tryz.prog) tt tt_ok 5000 105 [.cell 4 34] Tryz.func79 rfl Tryz.ntmps79 rfl (nL rfl) (fun E9 w9 hn9 hm9=>?_);refine ⟨_,⟨by omega,dNds_get hn⟩,?_⟩;refine br (fun c2=>?_) (fun c2=>?_)
  ·have c2:kind=2:=by simpa using c2
   subst c2;have hlo:lo < hi':=by simpa [sevF] using hsv
   have hr:=hrn _ hnm rfl;simp only at hr;have hw:IntKind.i64.wrap (lo + 1)=lo + 1:=wrap64 (by omega) (by omega);exact ⟨.agg (dVal (valN 2 (lo + 1))),(aI hw),rfl⟩
  have c2:¬ kind=2:=by simpa using c2
  refine br (fun c3=>?_) (fun c3=>?_)
  ·have c3:kind=3:=by simpa using c3
   subst c3;exact ⟨.agg (dVal (.mk 3 0 ⟨#[97]⟩ [])),ax,rfl⟩
  have c3:¬ kind=3:=by simpa using c3
  refine br (fun d5=>?_) (fun c5=>?_)
  ·have c5:kind=5:=by simpa using d5
   subst c5;obtain ⟨x,hx,hxb,_⟩:=honeE (.inl rfl);subst hx
   have hth:thB D x=true:=by
    cases h:thB D x with
    | true=>rfl
    | false=>simp [sevF,manyN,h] at hsv
   obtain ⟨k,hk,hkl,hon⟩:=honek List.mem_cons_self hxb (thB_pos hth hxb)
   have hG:secB (fstV ND D) (secondV ND D K f) D K ⟨5,at',lo,hi',most,names,[x]⟩ = .mk 5 0 emptyB [fstV ND D k]:=by
    show Val.mk 5 0 emptyB [fstV ND D x.to.toNat]=_;rw [hk,Int.toNat_natCast]
   rw [hG];generalize fstV ND D k=u at hon;obtain ⟨uk,un,us,ul⟩:=u;obtain ⟨en,eb,ea,et,elb,ew,eck,ecn,ese,eca⟩:=x;simp only at hk;subst hk;refine ⟨_,⟨by omega,rfl⟩,?_⟩;refine call_p en78 (hon) ax rfl ?_;exact ⟨.agg (dVal (.mk 5 0 emptyB [.mk uk un us ul])),ax,rfl⟩
  have c5:¬ kind=5:=by simpa using c5
  refine br (fun c6=>?_) (fun c6=>?_)
  ·have c6:kind=6:=by simpa using c6
   subst c6;obtain ⟨x,hx,hxb,_⟩:=honeE (.inr rfl);subst hx
   have hth:thB D x=true:=by
    cases h:thB D x with
    | true=>rfl
    | false=>simp [sevF,manyN,h] at hsv
   obtain ⟨k,hk,hkl,hon⟩:=honek List.mem_cons_self hxb (thB_pos hth hxb)
   have hG:secB (fstV ND D) (secondV ND D K f) D K ⟨6,at',lo,hi',most,names,[x]⟩ = .mk 6 0 emptyB [fstV ND D k]:=by
    show Val.mk 6 0 emptyB [fstV ND D x.to.toNat]=_;rw [hk,Int.toNat_natCast]
   rw [hG];generalize fstV ND D k=u at hon;obtain ⟨uk,un,us,ul⟩:=u;obtain ⟨en,eb,ea,et,elb,ew,eck,ecn,ese,eca⟩:=x;simp only at hk;subst hk;refine ⟨_,⟨by omega,rfl⟩,?_⟩;refine call_p en78 (hon) ax rfl ?_;exact ⟨.agg (dVal (.mk 6 0 emptyB [.mk uk un us ul])),ax,rfl⟩
  have c6:¬ kind=6:=by simpa using c6
  refine br (fun c7=>?_) (fun c7=>?_)
  ·have c7:kind=7:=by simpa using c7
   subst c7;have hcg:=hcg rfl;obtain ⟨c,x,hc,hx,hxb⟩:=h7 rfl;rw [hc] at hcg;rw [show othS sz D K ⟨7,at',lo,hi',most,names,es⟩=(sumX sz c es 0 1,some x.to.toNat) by simp [othS,hc,hx]] at hv;have htwo:=hrec _ _ (sumX_ge (by omega)) hv;obtain ⟨k,hk,hkl⟩:=(hedge x (mG hx)).to1 hxb;have hcl:=(gS hx).1
   have hG:secB (fstV ND D) (secondV ND D K f) D K ⟨7,at',lo,hi',most,names,es⟩ = .mk 7 0 emptyB ((es.map fun e=>fstV ND D e.to.toNat).set c (secondV ND D K f k)):=by
    show (match chgF K es with | some c=>(match es[c]? with | some e=>Val.mk 7 0 emptyB ((es.map fun e:Ed=>fstV ND D e.to.toNat).set c (secondV ND D K f e.to.toNat)) | none=>valN 7 0) | none=>valN 7 0)=_;rw [hc];simp only [hx];rw [hk,Int.toNat_natCast]
   rw [hG];rw [hk,Int.toNat_natCast] at htwo;have hone7:EvF Tryz.prog 78 [.pt (mkD PC ND D K sz T) 0,.v (.int .i64 i)] [] [] (fun r _ tks=>ownΦ (.mk 7 0 emptyB (es.map fun e=>fstV ND D e.to.toNat)) r tks):=hone';have hkl:(es.map fun e=>fstV ND D e.to.toNat).length=es.length:=List.length_map _;generalize (es.map fun e=>fstV ND D e.to.toNat)=ks at hone7 hkl;generalize secondV ND D K f k=u at htwo;have hflat:=flat_setU (x:=dVal u) (dVals_cells ks) (e:=c) (by rw [dVals_len];omega);rw [<- dVals_set] at hflat;have hsc:=dVals_cells (ks.set c u);have hsl:(dVals (ks.set c u)).length=ks.length:=by rw [dVals_len,List.length_set]
   obtain ⟨uk,un,us,ul⟩:=u;obtain ⟨en,eb,ea,et,elb,ew,eck,ecn,ese,eca⟩:=x;simp only at hk;subst hk;refine call_f en78 rfl hone7 ax (fun r1 tks hr=>?_);rcases hr with ⟨rfl,rfl⟩ | ⟨h,_⟩
   ·refine call_p en144 (hcg) ax rfl ?_;refine drawG_s mo (by decide +kernel) ?_;refine ⟨_,⟨Int.natCast_nonneg _,dEds_get hx⟩,?_⟩;refine callD_own (e:=4) (es:=List.replicate ks.length []) (m:=ks.length) en79 rfl htwo ax ⟨rfl,rfl,rfl⟩ ⟨rfl,rfl,rfl⟩ rfl rfl rfl rfl rfl rfl (by decide) rfl rfl rfl List.length_replicate ⟨Int.natCast_nonneg _,by show (c:Int) < _;omega⟩ rfl ?_;refine ⟨_,wk_own (j:=2) (o:=3) (k:=0) (ty:=34) (e:=4) (ocs:=[.v (.int .i64 7),.v (.int .i64 0),.v (.string emptyB),.sl 0 (List.replicate ks.length []) (some 0)]) (n:=ks.length) (es:=List.replicate ks.length []) (ns:=dVals (ks.set c (.mk uk un us ul))) ?_ hsc hsl rfl rfl List.length_replicate,?_⟩
    ·rw [hflat];rfl
    ·exact ⟨.agg (dVal (.mk 7 0 emptyB (ks.set c (.mk uk un us ul)))),ax,rfl⟩
   ·have h:ks=[]:=h;rw [h] at hkl;simp only [List.length_nil] at hkl;omega
  have c7:¬ kind=7:=by simpa using c7
  refine br (fun c8=>?_) (fun c8=>?_)
  ·have c8:kind=8:=by simpa using c8
   subst c8
   cases ht:turnF D es with
   | some c=>
    rw [ht] at htn;obtain ⟨x,hx,hth⟩:=turn_some ht
    have hG:secB (fstV ND D) (secondV ND D K f) D K ⟨8,at',lo,hi',most,names,es⟩=tagV (fstV ND D) es c:=by
     show (match turnF D es with | some c=>tagV (fstV ND D) es c | none=>(match chooseF D es with | some c=>(match es[c]? with | some e=>Val.mk 8 c emptyB [secondV ND D K f e.to.toNat] | none=>valN 8 c) | none=>valN 8 0))=_;rw [ht]
    rw [hG];refine call_p en145 (htn) ax rfl ?_;refine ⟨_,⟨Int.natCast_nonneg _,dEds_get hx⟩,?_⟩;refine br (fun cb=>?_) (fun cb=>?_)
    ·have cb:x.bare=false:=by simpa using cb
     obtain ⟨k,hk,hkl,hon⟩:=honek (mG hx) cb (thB_pos hth cb);rw [show tagV (fstV ND D) es c = .mk 8 c emptyB [fstV ND D k] by simp only [tagV,hx,cb];rw [hk];rfl];generalize fstV ND D k=u at hon;obtain ⟨uk,un,us,ul⟩:=u;obtain ⟨en,eb,ea,et,elb,ew,eck,ecn,ese,eca⟩:=x;simp only at hk;subst hk;refine call_p en78 (hon) ax rfl ?_;exact ⟨.agg (dVal (.mk 8 c emptyB [.mk uk un us ul])),ax,rfl⟩
    ·have cb:x.bare=true:=by simpa using cb
     rw [show tagV (fstV ND D) es c=valN 8 c by simp only [tagV,hx,cb];rfl];exact ⟨.agg (dVal (valN 8 c)),ax,rfl⟩
   | none=>
    rw [ht] at htn;obtain ⟨c,x,hc,hx,hxb⟩:=h8 rfl ht;rw [show othS sz D K ⟨8,at',lo,hi',most,names,es⟩=(1,some x.to.toNat) by simp [othS,ht,hc,hx]] at hv;have htwo:=hrec _ _ (Nat.le_refl 1) hv;obtain ⟨k,hk,hkl⟩:=(hedge x (mG hx)).to1 hxb
    have hG:secB (fstV ND D) (secondV ND D K f) D K ⟨8,at',lo,hi',most,names,es⟩ = .mk 8 c emptyB [secondV ND D K f k]:=by
     show (match turnF D es with | some c=>tagV (fstV ND D) es c | none=>(match chooseF D es with | some c=>(match es[c]? with | some e=>Val.mk 8 c emptyB [secondV ND D K f e.to.toNat] | none=>valN 8 c) | none=>valN 8 0))=_;rw [ht];simp only [hc,hx];rw [hk,Int.toNat_natCast]
    rw [hG];rw [hk,Int.toNat_natCast] at htwo;have hone8:EvF Tryz.prog 78 [.pt (mkD PC ND D K sz T) 0,.v (.int .i64 i)] [] [] (fun r _ tks=>ownΦ (match chooseF D es with | some c=>tagV (fstV ND D) es c | none=>valN 8 0) r tks):=hone';rw [hc] at hone8;simp only at hone8;rw [show tagV (fstV ND D) es c = .mk 8 c emptyB [fstV ND D k] by simp only [tagV,hx,hxb];rw [hk];rfl] at hone8;generalize fstV ND D k=u0 at hone8;generalize secondV ND D K f k=u at htwo;have hflat:=flat_setU (x:=dVal u) (dVals_cells [u0]) (e:=0) (by rw [dVals_len];simp);rw [<- dVals_set] at hflat;have hsc:=dVals_cells ([u0].set 0 u);have hsl:(dVals ([u0].set 0 u)).length=1:=by rw [dVals_len,List.length_set];all_goals rfl
    obtain ⟨uk,un,us,ul⟩:=u;obtain ⟨en,eb,ea,et,elb,ew,eck,ecn,ese,eca⟩:=x;simp only at hk;subst hk;refine call_p en145 (htn) ax rfl ?_;refine call_f en78 rfl hone8 ax (fun r1 tks hr=>?_);rcases hr with ⟨rfl,rfl⟩ | ⟨h,_⟩
    ·refine drawG_s mo (by decide +kernel) ?_;refine ⟨_,⟨Int.natCast_nonneg _,dEds_get hx⟩,?_⟩;refine callD_own (e:=4) (es:=List.replicate 1 []) (m:=1) en79 rfl htwo ax ⟨rfl,rfl,rfl⟩ ⟨rfl,rfl,rfl⟩ rfl rfl rfl rfl rfl rfl (by decide) rfl rfl rfl List.length_replicate ⟨by omega,by omega⟩ rfl ?_;refine ⟨_,wk_own (j:=2) (o:=3) (k:=0) (ty:=34) (e:=4) (ocs:=[.v (.int .i64 8),.v (.int .i64 (c:Nat)),.v (.string emptyB),.sl 0 (List.replicate 1 []) (some 0)]) (n:=1) (es:=List.replicate 1 []) (ns:=dVals ([u0].set 0 (.mk uk un us ul))) ?_ hsc hsl rfl rfl List.length_replicate,?_⟩
     ·rw [hflat];rfl
     ·exact ⟨.agg (dVal (.mk 8 c emptyB [.mk uk un us ul])),ax,rfl⟩
    ·have h : [u0]=[]:=h;cases h
  ·have c8:¬ kind=8:=by simpa using c8
   have hG:secB (fstV ND D) (secondV ND D K f) D K ⟨kind,at',lo,hi',most,names,es⟩=valN kind 1:=by
    unfold secB;simp only;rw [if_neg c2,if_neg c3,if_neg (by omega),if_neg c7,if_neg c8]
   rw [hG];exact ⟨.agg (dVal (valN kind 1)),ax,rfl⟩
end
def okN (l:List Nat) (i:Int):Bool:=decide (0<=i) && (decide (0 < l.getD i.toNat 0) && decide (l.getD i.toNat 0 < 4097))
theorem okN_iff {l:List Nat} {i:Int}:okN l i=true↔∃ j:Nat,i=j/\l.getD j 0≠0/\l.getD j 0 < 4097:=by
 unfold okN;rw [Bool.and_eq_true,Bool.and_eq_true];constructor
 ·rintro ⟨h1,h2,h3⟩;have h1:=of_decide_eq_true h1;have h2:=of_decide_eq_true h2;exact ⟨i.toNat,by omega,by omega,of_decide_eq_true h3⟩
 ·rintro ⟨j,rfl,h2,h3⟩;rw [Int.toNat_natCast];exact ⟨decide_eq_true (by omega),decide_eq_true (by omega),decide_eq_true h3⟩
theorem sfits_spec (l:List Nat) (i:Int) (hl:l.length<=1099511627776):EvP Tryz.prog 77 [.sl 1 (dInts l) none,.v (.int .i64 i)] (.v (.bool (okN l i))):=by
 have hdl:=dInts_len l;by_cases h:0<=i/\i < l.length
 ·obtain ⟨j,rfl⟩:∃ j:Nat,i=j:=⟨i.toNat,by omega⟩;obtain ⟨z,hz⟩:∃ z,l[j]? = some z:=⟨_,gE (by omega)⟩
  have hE:okN l j=(decide (0 < z) && decide (z < 4097)):=by
   unfold okN;rw [Int.toNat_natCast,List.getD_eq_getElem?_getD,hz,decide_eq_true (by omega),Bool.true_and];rfl
  rw [hE];refine ev_go (P:=Tryz.prog) tt tt_ok 5000 27 [.tmp 4] Tryz.func77 rfl Tryz.ntmps77 rfl (nL rfl) (fun E9 w9 hn9 hm9=>?_);refine br (fun c=>?_) (fun c=>?_)
  ·refine ⟨_,⟨Int.natCast_nonneg _,dInts_get hz⟩,?_⟩;refine br (fun c2=>?_) (fun c2=>?_)
   ·have c2:0 < z:=by simpa [lastG,pickB] using c2
    refine ⟨_,⟨Int.natCast_nonneg _,dInts_get hz⟩,?_⟩;refine (congrArg (fun b=>DV.v (.bool b)) ?_:_=_);rw [decide_eq_true c2];simp [pickB];omega
   ·have c2:¬ 0 < z:=by simpa [lastG,pickB] using c2
    refine (congrArg (fun b=>DV.v (.bool b)) ?_:_=_);rw [decide_eq_false c2];simp [pickB]
  ·exfalso;have:(j:Int) < l.length:=by omega
   simp [hdl,pickB_and] at c;omega
 ·have hE:okN l i=false:=by
   cases hk:okN l i with
   | false=>rfl
   | true=>
    obtain ⟨j,rfl,h2,_⟩:=okN_iff.1 hk;rw [List.getD_eq_getElem?_getD,List.getElem?_eq_none (by omega)] at h2;exact (h2 rfl).elim
  rw [hE];refine ev_go (P:=Tryz.prog) tt tt_ok 5000 27 [.tmp 4] Tryz.func77 rfl Tryz.ntmps77 rfl (nL rfl) (fun E9 w9 hn9 hm9=>?_);refine br (fun c=>?_) (fun c=>?_)
  ·exfalso;simp [hdl,pickB_and] at c;omega
  ·exact (rfl:_=_)
theorem dep_in {ND:List Nd} {D:List Nat} (h:DepOK ND D) {j:Nat} (h0:0 < D.getD j 0):j < ND.length:=by
 rcases Nat.lt_or_ge j ND.length with h1 | h1
 ·exact h1
 ·rw [List.getD_eq_getElem?_getD,List.getElem?_eq_none (by rw [h.len];exact h1)] at h0;simp at h0
abbrev depT (ND:List Nd):List Nat:=depN ND ND.length
abbrev sevT (ND:List Nd):List Bool:=sevS ND (depT ND)
abbrev fszT (ND:List Nd):List Nat:=szT ND (depT ND)
abbrev sszT (ND:List Nd):List Nat:=otT (fszT ND) (depT ND) (sevT ND) ND
theorem sone_spec {S:Sch} {ND:List Nd} {PC:List DV} (hP:PlanR S ND PC) (sz ot:List Nat) (K:List Bool) {j:Nat} (h:(fszT ND).getD j 0≠0):EvP Tryz.prog 78 [.pt (mkD PC ND (depT ND) K sz ot) 0,.v (.int .i64 j)] (.agg (dVal (fstV ND (depT ND) j))):=by
 have h0:=(szT_pos (depOK ND)).1.1 (Nat.pos_of_ne_zero h);exact evp_val (one_f PC ND (depT ND) K sz ot (depOK ND) hP.ok hP.esz ND.length j (dep_in (depOK ND) h0) h0 ((depOK ND).le j))
theorem sevT_fix {ND:List Nd} {i:Nat} {n:Nd} (hn:ND[i]? = some n) (h:(sevT ND).getD i false=true):sevF n (depT ND) (sevT ND)=true:=by
 have h:(sevS ND (depT ND)).getD i false=true:=h;rw [<- sevS_fix,List.getD_eq_getElem?_getD,List.getElem?_map,hn] at h;exact h
theorem stwo_spec {S:Sch} {ND:List Nd} {PC:List DV} (hP:PlanR S ND PC) (hrn:∀ n∈ND,n.kind=2 -> -9223372036854775808<=n.lo/\n.hi<=9223372036854775807) {j:Nat} (h:(sszT ND).getD j 0≠0) (h2:(sszT ND).getD j 0 < 4097) :
  EvP Tryz.prog 79 [.pt (mkD PC ND (depT ND) (sevT ND) (fszT ND) (sszT ND)) 0,.v (.int .i64 j)] (.agg (dVal (secV ND (depT ND) (sevT ND) j))):=
 two_spec PC ND (depT ND) (sevT ND) (fszT ND) (sszT ND) (depOK ND) hP.ok hP.esz hrn (sevN_len ND _ _) (fun i n hn h=>sevT_fix hn h) (fun i h=>otT_get h) 4096 j h (by omega) h2
theorem sFirst_spec {S:Sch} {ND:List Nd} {PC:List DV} (hP:PlanR S ND PC) (i:Int) :
  EvP Tryz.prog 32 [.pt PC 0,.v (.int .i64 i)] (.tup [.agg (dVal (if okN (fszT ND) i=true then fstV ND (depT ND) i.toNat else zeroV)),.v (.bool (okN (fszT ND) i))]):=by
 have hm:=smake_spec PC ND hP;have hnl:=hP.nl;have hf:=sfits_spec (fszT ND) i (by rw [szT_len];exact hnl);have hone:=fun (j:Nat) h=>sone_spec hP (fszT ND) (sszT ND) (sevT ND) (j:=j) h
 cases hk:okN (fszT ND) i with
 | false=>
  rw [hk] at hf;refine ev_go (P:=Tryz.prog) tt tt_ok 5000 20 [.cell 4 34,.tmp 5] Tryz.func32 rfl Tryz.ntmps32 rfl (nL rfl) (fun E9 w9 hn9 hm9=>?_);refine call_p en61 (hm) ax rfl ?_;refine call_p en77 (hf) ax rfl ?_;exact ⟨.tup [.agg (dVal zeroV),.v (.bool false)],ax,rfl⟩
 | true=>
  rw [hk] at hf;obtain ⟨j,rfl,h1,h2⟩:=okN_iff.1 hk;have hone:=hone j h1;rw [if_pos rfl,Int.toNat_natCast];generalize fstV ND (depT ND) j=u at hone;obtain ⟨uk,un,us,ul⟩:=u;refine ev_go (P:=Tryz.prog) tt tt_ok 5000 20 [.cell 4 34,.tmp 5] Tryz.func32 rfl Tryz.ntmps32 rfl (nL rfl) (fun E9 w9 hn9 hm9=>?_);refine call_p en61 (hm) ax rfl ?_;refine call_p en77 (hf) ax rfl ?_;refine call_p en78 (hone) ax rfl ?_;exact ⟨.tup [.agg (dVal (.mk uk un us ul)),.v (.bool true)],ax,rfl⟩
theorem sSecond_spec {S:Sch} {ND:List Nd} {PC:List DV} (hP:PlanR S ND PC) (hrn:∀ n∈ND,n.kind=2 -> -9223372036854775808<=n.lo/\n.hi<=9223372036854775807) (i:Int) :
  EvP Tryz.prog 33 [.pt PC 0,.v (.int .i64 i)] (.tup [.agg (dVal (if okN (sszT ND) i=true then secV ND (depT ND) (sevT ND) i.toNat else zeroV)),.v (.bool (okN (sszT ND) i))]):=by
 have hm:=smake_spec PC ND hP;have hnl:=hP.nl;have hf:=sfits_spec (sszT ND) i (by rw [otT_len];exact hnl);have htwo:=fun (j:Nat) h h2=>stwo_spec hP hrn (j:=j) h h2
 cases hk:okN (sszT ND) i with
 | false=>
  rw [hk] at hf;refine ev_go (P:=Tryz.prog) tt tt_ok 5000 20 [.cell 4 34,.tmp 5] Tryz.func33 rfl Tryz.ntmps33 rfl (nL rfl) (fun E9 w9 hn9 hm9=>?_);refine call_p en61 (hm) ax rfl ?_;refine call_p en77 (hf) ax rfl ?_;exact ⟨.tup [.agg (dVal zeroV),.v (.bool false)],ax,rfl⟩
 | true=>
  rw [hk] at hf;obtain ⟨j,rfl,h1,h2⟩:=okN_iff.1 hk;have htwo:=htwo j h1 h2;rw [if_pos rfl,Int.toNat_natCast];generalize secV ND (depT ND) (sevT ND) j=u at htwo;obtain ⟨uk,un,us,ul⟩:=u;refine ev_go (P:=Tryz.prog) tt tt_ok 5000 20 [.cell 4 34,.tmp 5] Tryz.func33 rfl Tryz.ntmps33 rfl (nL rfl) (fun E9 w9 hn9 hm9=>?_);refine call_p en61 (hm) ax rfl ?_;refine call_p en77 (hf) ax rfl ?_;refine call_p en79 (htwo) ax rfl ?_;exact ⟨.tup [.agg (dVal (.mk uk un us ul)),.v (.bool true)],ax,rfl⟩
section
variable (a b:Nat) (A B:List (List DV)) (ND:List Nd) (z:Int) (D M S O:List Nat) (K:List Bool) {L:Nat}
end
section
variable (a b:Nat) (A B:List (List DV)) (ND:List Nd) (z:Int) (D M sz T:List Nat) (K:List Bool) {L:Nat}
end
def sumP (sz:List Nat):List Ed->Nat
 | []=>0
 | e :: r=>prtF sz e + sumP sz r
theorem sumX_all {sz:List Nat}:∀ {es:List Ed} {i n:Nat},n<=4097->sumX sz (-1) es i n < 4097->sumX sz (-1) es i n=n + sumP sz es
 | [],i,n,_,_=>rfl
 | e :: r,i,n,hn,h=>by
  rw [sumX,if_neg (by omega)] at h ⊢;have h1:=sumX_ge (sz:=sz) (c:=-1) (es:=r) (i:=i + 1) (cutM_le (n + prtF sz e));have h2:cutM (n + prtF sz e)=n + prtF sz e∨cutM (n + prtF sz e)=4097:=by unfold cutM;omega
  rw [sumX_all (cutM_le _) h,sumP];omega
theorem sumX_part {sz:List Nat} {c:Int}:∀ {es:List Ed} {i n j:Nat} {x:Ed},n<=4097->sumX sz c es i n < 4097->es[j]? = some x->((i + j:Nat):Int)≠c->prtF sz x < 4097
 | e :: r,i,n,0,x,hn,h,hx,hc=>by
  simp only [List.getElem?_cons_zero,oI] at hx;subst hx;rw [sumX,if_neg (by simpa using hc)] at h;have h1:=sumX_ge (sz:=sz) (c:=c) (es:=r) (i:=i + 1) (cutM_le (n + prtF sz e));have h2:cutM (n + prtF sz e)=n + prtF sz e∨cutM (n + prtF sz e)=4097:=by unfold cutM;omega
  omega
 | e :: r,i,n,j + 1,x,hn,h,hx,hc=>by
  rw [sumX] at h;refine sumX_part (j:=j) ?_ h (by simpa using hx) (by rw [show i + 1 + j=i + (j + 1) by omega];exact hc);split
  ·exact hn
  ·exact cutM_le _
theorem wtVs_map {sz:List Nat} {F:Ed->Val}:∀ {es:List Ed},(∀ e∈es,(F e).wt<=64 * prtF sz e)->wtVs (es.map F)<=64 * sumP sz es
 | [],_=>by simp [wtVs]
 | e :: r,h=>by
  have h1:=h e List.mem_cons_self;have h2:=wtVs_map (es:=r) fun x hx=>h x (List.mem_cons_of_mem _ hx);rw [List.map_cons,wtVs,sumP];omega
theorem valN_wt (k n:Int):(valN k n).wt=64:=rfl
theorem fstV_wt {ND:List Nd} {D:List Nat} (hO:DepOK ND D) {L:Nat} (hok:∀ n∈ND,NdOK L ND.length n):∀ (f i:Nat),D.getD i 0<=f->0 < D.getD i 0->(szT ND D).getD i 0 < 4097->(fstV ND D i).wt<=64 * (szT ND D).getD i 0
 | 0,i,h,h0,_=>by omega
 | f + 1,i,h,h0,hs=>by
  have hi:=dep_in hO h0;have hn:ND[i]? = some ND[i]:=gE hi;have hN:=hok _ (mG hn);generalize ND[i]=n at hn hN;have hsz:=szT_get hO hn h0;rw [fstV_eq hO hn h0];rw [hsz] at hs ⊢;have hone:=sizeF_pos (szT ND D) D n
  have hkid:∀ {e:Ed},0 < edN D e->edN D e < D.getD i 0->prtF (szT ND D) e < 4097->e.bare=false->(fstV ND D e.to.toNat).wt<=64 * prtF (szT ND D) e:=fun {e} h2 h3 h4 hb=>by
   have hp:prtF (szT ND D) e=(szT ND D).getD e.to.toNat 0:=by unfold prtF edN;rw [hb];all_goals rfl
   rw [hp] at h4 ⊢;unfold edN at h2 h3;exact fstV_wt hO hok f _ (by omega) h2 h4
  split
  ·rw [valN_wt];omega
  ·split
   ·rename_i h7;unfold sizeF at hs ⊢;rw [if_pos h7] at hs ⊢;have hall:=sumX_all (by omega) hs
    have hw:wtVs (n.edges.map fun e=>fstV ND D e.to.toNat)<=64 * sumP (szT ND D) n.edges:=wtVs_map fun e he=>by
     obtain ⟨h2,h3⟩:=hO.rcd hn h0 h7 e he;obtain ⟨j,hj,rfl⟩:=List.getElem_of_mem he;refine hkid h2 h3 (sumX_part (n:=1) (by omega) hs (gE hj) (by omega)) ?_
     cases hb:n.edges[j].bare with
     | false=>rfl
     | true=>have:=hN.bare _ he hb;omega
    rw [Val.wt,hall];show 64 + 0 + _<=_;omega
   ·split
    ·rename_i h7 h8;obtain ⟨c,e,hc,he,hp⟩:=hO.uni hn h0 h8;unfold sizeF at hs ⊢;rw [if_neg h7,if_pos h8,hc] at hs ⊢;simp only [he] at hs ⊢;simp only [tagV,he]
     cases hb:e.bare with
     | true=>
      rw [Val.wt];show 64 + 0 + 0<=_;unfold cutM;omega
     | false=>
      obtain ⟨h2,h3⟩:=hp hb;have hlt:prtF (szT ND D) e < 4097:=by unfold cutM at hs;omega
      have:=hkid h2 h3 hlt hb;rw [Val.wt];show 64 + 0 + ((fstV ND D e.to.toNat).wt + 0)<=_;unfold cutM at hs ⊢;omega
    ·rw [valN_wt];omega
theorem wtVs_bound {m:Nat}:∀ {l:List Val},(∀ v∈l,v.wt<=m)->wtVs l<=l.length * m
 | [],_=>by simp [wtVs]
 | v :: r,h=>by
  have h1:=h v List.mem_cons_self;have h2:=wtVs_bound (l:=r) fun x hx=>h x (List.mem_cons_of_mem _ hx);rw [wtVs,List.length_cons,Nat.add_mul,Nat.one_mul];omega
theorem wtVs_put {u:Val}:∀ {l:List Val} {c:Nat} {m:Nat},(∀ (j:Nat) v,j≠c->l[j]? = some v->v.wt<=m)->wtVs (l.set c u)<=l.length * m + u.wt
 | [],_,_,_=>by simp [wtVs]
 | v :: r,0,m,h=>by
  have h2:=wtVs_bound (l:=r) (m:=m) fun x hx=>by
   obtain ⟨j,hj,rfl⟩:=List.getElem_of_mem hx;exact h (j + 1) _ (by omega) (by simp [hj])
  rw [List.set_cons_zero,wtVs,List.length_cons,Nat.add_mul,Nat.one_mul];omega
 | v :: r,c + 1,m,h=>by
  have h1:=h 0 v (by omega) rfl;have h2:=wtVs_put (u:=u) (l:=r) (c:=c) (m:=m) fun j x hj hx=>h (j + 1) x (by omega) (by simpa using hx);rw [List.set_cons_succ,wtVs,List.length_cons,Nat.add_mul,Nat.one_mul];omega
theorem secondV_wt {ND:List Nd} {L:Nat} (hok:∀ n∈ND,NdOK L ND.length n):∀ (f i:Nat),(sszT ND).getD i 0≠0->(sszT ND).getD i 0<=f->(sszT ND).getD i 0 < 4097->(secondV ND (depT ND) (sevT ND) f i).wt<=(sszT ND).getD i 0 * 33554432
 | 0,i,h0,h1,_=>by omega
 | f + 1,i,h0,h1,h2=>by
  obtain ⟨n,hn,hKi,hv⟩:=otT_get h0;have hO:=depOK ND;have hN:=hok n (mG hn);have hsv:=sevT_fix hn hKi;have hSec:=secOK_of hN hsv
  have hrec:∀ s j,1<=s->(sszT ND).getD i 0=othE (sszT ND) (s,some j)->(secondV ND (depT ND) (sevT ND) f j).wt + 33554432<=(sszT ND).getD i 0 * 33554432:=fun s j hs h=>by
   have hj0:(sszT ND).getD j 0≠0:=fun hj=>h0 (by rw [h];simp only [othE];rw [if_pos hj])
   have hlt:(sszT ND).getD j 0 < (sszT ND).getD i 0:=by
    have h':=h;simp only [othE] at h';rw [if_neg hj0] at h';unfold cutM at h';omega
   have:=secondV_wt hok f j hj0 (by omega) (by omega);omega
  have hfw:∀ {e:Ed},thB (depT ND) e=true->prtF (fszT ND) e < 4097->e.bare=false->(fstV ND (depT ND) e.to.toNat).wt<=262208:=fun {e} ht hp hb=>by
   have hp':prtF (fszT ND) e=(fszT ND).getD e.to.toNat 0:=by unfold prtF edN;rw [hb];all_goals rfl
   rw [hp'] at hp;have h0:=thB_pos ht hb;unfold edN at h0;have:(fstV ND (depT ND) e.to.toNat).wt<=64 * (fszT ND).getD e.to.toNat 0:=fstV_wt hO hok _ _ (Nat.le_refl _) h0 hp;omega
  have hcut:∀ {e:Ed},cutM (1 + prtF (fszT ND) e) < 4097->prtF (fszT ND) e < 4097:=fun {e} h=>by unfold cutM at h;omega
  have htag:∀ {c:Nat} {e:Ed},n.edges[c]? = some e->thB (depT ND) e=true->prtF (fszT ND) e < 4097->(tagV (fstV ND (depT ND)) n.edges c).wt<=33554432:=fun {c e} he ht hp=>by
   simp only [tagV,he]
   cases hb:e.bare with
   | true=>rw [Val.wt];show 64 + 0 + 0<=_;omega
   | false=>
    have:=hfw ht hp hb;rw [Val.wt];show 64 + 0 + ((fstV ND (depT ND) e.to.toNat).wt + 0)<=_;omega
  have h1':1 * 33554432<=(sszT ND).getD i 0 * 33554432:=Nat.mul_le_mul_right _ (by omega);have hE:∀ s,othE (sszT ND) (s,none)=s:=fun _=>rfl;rw [show secondV ND (depT ND) (sevT ND) (f + 1) i=secB (fstV ND (depT ND)) (secondV ND (depT ND) (sevT ND) f) (depT ND) (sevT ND) n by rw [secondV,hn]];have hv2:=hv;unfold secB;unfold othS at hv;split
  ·rw [valN_wt];omega
  ·split
   ·show 64 + 1 + 0<=_;omega
   ·split
    ·rename_i h56;obtain ⟨x,hx,hxb,_⟩:=hN.one h56;rw [hx] at hv ⊢;rw [if_pos h56] at hv;simp only [List.getElem?_cons_zero] at hv ⊢
     have hth:thB (depT ND) x=true:=by
      cases h:thB (depT ND) x with
      | true=>rfl
      | false=>rcases h56 with h5 | h5<;>simp [sevF,manyN,h,h5,hx] at hsv
     have hv:(sszT ND).getD i 0=cutM (1 + prtF (fszT ND) x):=hv;have:=hfw hth (hcut (by omega)) hxb;rw [Val.wt];show 64 + 0 + ((fstV ND (depT ND) x.to.toNat).wt + 0)<=_;omega
    ·split
     ·rename_i h56 h7;rw [if_neg h56,if_pos h7] at hv;obtain ⟨c,x,hc,hx,hxb⟩:=hSec.c7 h7;rw [hc] at hv ⊢;simp only [hx] at hv ⊢
      have hS:sumX (fszT ND) c n.edges 0 1 < 4097:=by
       have hv':(sszT ND).getD i 0=othE (sszT ND) (sumX (fszT ND) c n.edges 0 1,some x.to.toNat):=hv;simp only [othE] at hv';split at hv'
       ·exact (h0 hv').elim
       ·have:=sumX_le (sz:=fszT ND) (c:=c) (es:=n.edges) (i:=0) (n:=1) (by omega);unfold cutM at hv';omega
      have hr:=hrec _ _ (sumX_ge (by omega)) hv;have hDi:0 < (depT ND).getD i 0:=by rw [hO.get i n hn];exact sevF_dep hN hsv
      have hl64:=(hN.many (.inl h7)).1
      have hw:=wtVs_put (u:=secondV ND (depT ND) (sevT ND) f x.to.toNat) (l:=n.edges.map fun e=>fstV ND (depT ND) e.to.toNat) (c:=c) (m:=262208) fun j v hj hv=>by
       rw [List.getElem?_map] at hv
       cases he:n.edges[j]? with
       | none=>rw [he] at hv;cases hv
       | some e=>
        rw [he] at hv;cases hv;have hem:=mG he
        have hb:e.bare=false:=by
         cases hb:e.bare with
         | false=>rfl
         | true=>have:=hN.bare _ hem hb;omega
        refine hfw ?_ (sumX_part (n:=1) (by omega) hS he (by omega)) hb;have:=(hO.rcd hn hDi h7 e hem).1;unfold thB;rw [hb,Bool.false_or];exact decide_eq_true this
      rw [List.length_map] at hw;have hm:n.edges.length * 262208<=64 * 262208:=Nat.mul_le_mul_right _ hl64;rw [Val.wt];show 64 + 0 + _<=_;omega
     ·split
      ·rename_i h56 h7 h8;rw [if_neg h56,if_neg h7,if_pos h8] at hv
       cases ht:turnF (depT ND) n.edges with
       | some c=>
        rw [ht] at hv;obtain ⟨x,hx,hth⟩:=turn_some ht;simp only [hx] at hv;have hv:(sszT ND).getD i 0=cutM (1 + prtF (fszT ND) x):=hv;have:=htag hx hth (hcut (by omega));simp only;omega
       | none=>
        rw [ht] at hv;obtain ⟨c,x,hc,hx,hxb⟩:=hSec.c8 h8 ht;rw [hc] at hv;simp only [hx] at hv;have hr:=hrec _ _ (Nat.le_refl 1) hv;simp only [hc,hx];rw [Val.wt];show 64 + 0 + ((secondV ND (depT ND) (sevT ND) f x.to.toNat).wt + 0)<=_;omega
      ·rw [valN_wt];omega
end Go.Proofs.YtadhpeooehkklaaGreat
set_option maxRecDepth 100000
namespace Go.Proofs.YtadhpeooehkklaaGreat
open Go Go.RowKit Dv Tryz
end Go.Proofs.YtadhpeooehkklaaGreat
set_option maxRecDepth 100000
namespace Go.Proofs.YtadhpeooehkklaaGreat
open Go Go.RowKit Dv Tryz
end Go.Proofs.YtadhpeooehkklaaGreat
set_option maxRecDepth 100000
namespace Go.Proofs.YtadhpeooehkklaaGreat
open Go Go.RowKit Dv Tryz
end Go.Proofs.YtadhpeooehkklaaGreat
set_option maxRecDepth 100000
namespace Go.Proofs.YtadhpeooehkklaaGreat
open Go Go.RowKit Dv Tryz
section
variable (a b:Nat) (A B:List (List DV)) (rt:Int) {ND:List Nd} {L:Nat} (hok:∀ n∈ND,NdOK L ND.length n)
include hok
end
section
variable (a b:Nat) (A B:List (List DV)) (rt:Int) {ND:List Nd} {L:Nat} (hok:∀ n∈ND,NdOK L ND.length n)
include hok
end
mutual
theorem flatT_rng:∀ (t:Ty),rngT t->∀ u∈flatT t,rngT u
 | .mk h ps,hr,u,hu=>by
  rw [flatT] at hu;split at hu
  ·cases hu
  ·rcases List.mem_cons.1 hu with rfl | hu
   ·exact hr
   ·rw [rngT] at hr;exact flatP_rng ps hr.2.2.2 u hu
theorem flatP_rng:∀ (ps:Pts),rngP ps->∀ u∈flatP ps,rngT u
 | .nil,_,u,hu=>by cases hu
 | .cons p v r,hr,u,hu=>by
  rw [flatP] at hu;rw [rngP] at hr;rcases List.mem_append.1 hu with hu | hu
  ·split at hu
   ·cases hu
   ·exact flatT_rng v hr.2.2.1 u hu
  ·exact flatP_rng r hr.2.2.2 u hu
end
theorem edsP_rng {lev:List Wd->Int} {s:Sch}:∀ (ps:Pts) (k:Nat),rngP ps->∀ e∈edsP lev s ps k,I64 e.cn
 | .nil,_,_,e,he=>by cases he
 | .cons p v r,k,hr,e,he=>by
  rw [edsP] at he;rw [rngP] at hr;rcases List.mem_cons.1 he with rfl | he
  ·exact hr.2.1
  ·exact edsP_rng r _ hr.2.2.2 e he
def rngN (n:Nd):Prop:=I64 n.lo/\I64 n.hi/\∀ e∈n.edges,I64 e.cn
theorem resNds_rng {S:Sch} (hr:rngS S) {n:Nd} (h:n∈resNds S):rngN n:=by
 rw [resNds_eq] at h;obtain ⟨t,ht,u,hu,k,rfl⟩:=ndsA_mem h
 have h1:rngT t:=by
  rcases List.mem_append.1 ht with h | h
  ·obtain ⟨x,hx,rfl⟩:=List.mem_map.1 h;exact hr.1 x hx
  ·simp only [List.mem_singleton] at h;subst h;exact hr.2
 have h2:=flatT_rng t h1 u hu;obtain ⟨uh,us⟩:=u;rw [rngT] at h2;exact ⟨h2.1,h2.2.1,edsP_rng us _ h2.2.2.2⟩
def exS26:Sch:=⟨[⟨⟨#[97]⟩,0⟩],[],[],.mk ⟨2,0,3,9,0,[],⟨emptyB,0⟩⟩ .nil⟩
theorem ex26_fine:(resF exS26).1=0:=by decide +kernel
theorem ex26_ok1:okN (fszT (resNds exS26)) 0=true:=by decide +kernel
theorem ex26_ok2:okN (sszT (resNds exS26)) 0=true:=by decide +kernel
theorem ex26_v1:fstV (resNds exS26) (depT (resNds exS26)) (0:Int).toNat=valN 2 3:=by kernel_rfl
theorem ex26_v2:secV (resNds exS26) (depT (resNds exS26)) (sevT (resNds exS26)) (0:Int).toNat=valN 2 4:=by kernel_rfl
theorem nds_i64 {S:Sch} (hr:rngS S):∀ n∈resNds S,n.kind=2 -> -9223372036854775808<=n.lo/\n.hi<=9223372036854775807:=fun n hn _=>by
 have h:=resNds_rng hr hn;exact ⟨h.1.1,h.2.1.2⟩
theorem ex26_rng:∀ n∈resNds exS26,n.kind=2 -> -9223372036854775808<=n.lo/\n.hi<=9223372036854775807:=by
 have h:(resNds exS26).all (fun n=>decide (-9223372036854775808<=n.lo) && decide (n.hi<=9223372036854775807))=true:=by decide +kernel
 intro n hn _;have:=List.all_eq_true.1 h n hn;rw [Bool.and_eq_true] at this;exact ⟨of_decide_eq_true this.1,of_decide_eq_true this.2⟩
theorem lives26_spec:EvP Tryz.prog 21 [] (.v (.bool true)):=by
 have hwt:exS26.wt<=1099511627776:=by decide +kernel
 have hb:=(build_spec exS26 hwt).mono (Ψ:=fun r _ _=>BuiltΦ exS26 r) fun _ _ _ h=>builtΦ_of hwt h;refine ev_go (P:=Tryz.prog) tt tt_ok 5000 44 [.tmp 0] Tryz.func21 rfl Tryz.ntmps21 rfl (nL rfl) (fun E9 w9 hn9 hm9=>?_);refine call_e en10 rfl hb ax (fun r hr=>?_);rcases hr with ⟨hr,_⟩ | ⟨_,PC,hP,rfl⟩
 ·exact (hr ex26_fine).elim
 have h1:=sFirst_spec hP 0;rw [ex26_ok1,if_pos rfl,ex26_v1] at h1;have h2:=sSecond_spec hP ex26_rng 0;rw [ex26_ok2,if_pos rfl,ex26_v2] at h2;refine call_p en32 (h1) ax rfl ?_;refine call_p en33 (h2) ax rfl ?_;exact (rfl:_=_)
def jnF (f:Nat->Nat->Bool) (n a b:Nat):Nat:=(joinN f n a b).getD 0
def botF (f:Nat->Nat->Bool) (n:Nat):Nat:=(leastN f n []).getD 0
theorem jnF_some {f:Nat->Nat->Bool} {n a b:Nat} (h:LatOK f n) (ha:a < n) (hb:b < n):joinN f n a b=some (jnF f n a b):=by
 obtain ⟨k,hk⟩:=h.jn a b ha hb;simp [jnF,hk]
theorem jnF_lt {f:Nat->Nat->Bool} {n a b:Nat} (h:LatOK f n) (ha:a < n) (hb:b < n):jnF f n a b < n:=(joinN_spec (jnF_some h ha hb)).1
theorem botF_some {f:Nat->Nat->Bool} {n:Nat} (h:LatOK f n):leastN f n []=some (botF f n):=by
 obtain ⟨c,hc⟩:=leastN_some h [] (fun _ h=>by cases h);simp [botF,hc]
theorem botF_lt {f:Nat->Nat->Bool} {n:Nat} (h:LatOK f n):botF f n < n:=leastN_lt (botF_some h)
section
variable (names:List ByteArray) (tc:List DV) (rows:List Nat) (js:List Int)
end
structure LatR (n:Nat) (f:Nat->Nat->Bool) (names:List ByteArray) (LC:List DV):Prop where
 ok:LatOK f n
 n32:n<=32
 nl:names.length=n
 len:EvP Tryz.prog 187 [.pt LC 0] (.v (.int .i64 n))
 join:∀ a b:Nat,a < n->b < n->EvP Tryz.prog 164 [.pt LC 0,.v (.int .i64 a),.v (.int .i64 b)] (.v (.int .i64 (jnF f n a b:Nat)))
 bot:EvP Tryz.prog 140 [.pt LC 0] (.v (.int .i64 (botF f n:Nat)))
abbrev leqS (S:Sch):Nat->Nat->Bool:=leqN S.levels.length (numL (nmTx S.levels) S.order)
theorem PlanR.latR {S:Sch} {ND:List Nd} {PC:List DV} (hP:PlanR S ND PC):∃ LC,EvP Tryz.prog 139 [.pt PC 0] (.pt LC 0)/\LatR S.levels.length (leqS S) (nmTx S.levels) LC:=by
 obtain ⟨ord,js,hX,hl⟩:=hP.lat;have hnl:=nmTx_len S.levels;have hlf:=(hP.fine).lat;obtain ⟨hL,h32⟩:=latOK_of hlf;have hpr:∀ p∈numL (nmTx S.levels) S.order,p.1 < S.levels.length/\p.2 < S.levels.length:=by have:=numF_ok (latF_parts hlf).2.2.1;rwa [nmTx_len] at this
 have hrl:(lxOf S ord js).rows.length=S.levels.length:=by
  show (closeR (relN S.levels.length (numL (nmTx S.levels) S.order)) S.levels.length).length=_;rw [closeR_len,relN_len]
 have hr:RelOK (lxOf S ord js).rows:=closeR_ok (relN_ok (by omega) _ hpr) _ (by omega)
 refine ⟨_,hl,{
  ok:=hL,n32:=h32,nl:=hnl
  len:=?_
  join:=fun a b ha hb=>?_
  bot:=?_
  }⟩
 ·have:=llen_spec (lxOf S ord js).names (dTbl (lxOf S ord js).names (lxOf S ord js).ord) (lxOf S ord js).rows (lxOf S ord js).js
  rwa [show (lxOf S ord js).names.length=S.levels.length from hnl] at this
 ·have hz:=(hX.hj a b (by rw [show (lxOf S ord js).names.length=S.levels.length from hnl];exact ha) (by rw [show (lxOf S ord js).names.length=S.levels.length from hnl];exact hb)).1;rw [show (lxOf S ord js).names.length=S.levels.length from hnl,show (lxOf S ord js).f=leqS S from rfl,jnF_some hL ha hb] at hz;exact ljoin_spec (lxOf S ord js).names (dTbl (lxOf S ord js).names (lxOf S ord js).ord) (lxOf S ord js).rows (lxOf S ord js).js a b _ (by rw [show (lxOf S ord js).names.length=S.levels.length from hnl];exact ha) (by rw [show (lxOf S ord js).names.length=S.levels.length from hnl];exact hb) hX.hn hz
 ·have:=lbottom_spec (lxOf S ord js).names (dTbl (lxOf S ord js).names (lxOf S ord js).ord) (lxOf S ord js).rows (lxOf S ord js).js hX.hL hX.hn hX.hj
  rwa [show (lxOf S ord js).names.length=S.levels.length from hnl,show (lxOf S ord js).f=leqS S from rfl,botF_some hL] at this
def rightS (s:Stp):Bool:=
 if s.k=1∨s.k=5 then decide (s.n=0) && nameOK s.s
 else if s.k=2 then decide (0<=s.n) && decide (s.s=⟨#[]⟩)
 else if s.k=3∨s.k=4 then decide (s.n=0) && decide (s.s=⟨#[]⟩) else false
def rightP (l:List Stp):Bool:=decide (l.length<=64) && l.all rightS
theorem rightP_one (s:Stp):rightP [s]=rightS s:=by simp [rightP]
def edgeB (d:Nd) (s:Stp) (e:Ed):Bool:=
 (decide (s.k=1) && decide (d.kind=7) && (decide (e.name=s.s) && !e.bare)) || (decide (s.k=5) && decide (d.kind=8) && (decide (e.name=s.s) && !e.bare)) ||
  ((decide (s.k=2) || decide (s.k=3)) && decide (d.kind=5) && decide (s.n < d.most)) || (decide (s.k=4) && decide (d.kind=6))
def fitE (d:Nd) (s:Stp) (e:Ed):Bool:=
 if s.k=1 then decide (d.kind=7) && decide (e.name=s.s)
 else if s.k=5 then decide (d.kind=8) && decide (e.name=s.s) && !e.bare
 else if s.k=2 then decide (d.kind=5) && decide (s.n < d.most)
 else if s.k=3 then decide (d.kind=5) && decide (0 < d.most)
 else decide (d.kind=6)
theorem rightS_k {s:Stp} (h:rightS s=true):s.k=1∨s.k=2∨s.k=3∨s.k=4∨s.k=5:=by
 unfold rightS at h;split at h
 ·omega
 ·split at h
  ·omega
  ·split at h
   ·omega
   ·cases h
theorem fitE_eq {L N:Nat} {d:Nd} (hN:NdOK L N d) {s:Stp} (hr:rightS s=true) {e:Ed} (he:e∈d.edges):fitE d s e=edgeB d s e:=by
 have hk:=rightS_k hr;have hb:=hN.bare e he;unfold fitE edgeB;rcases hk with h | h | h | h | h
 ·simp only [h];by_cases h7:d.kind=7
  ·have:e.bare=false:=by
    cases hx:e.bare
    ·rfl
    ·have:=hb hx;omega
   simp [h7,this]
  ·simp [h7]
 ·simp [h]
 ·have hn:s.n=0:=by
   unfold rightS at hr;rw [h] at hr;simp at hr;exact hr.1
  simp [h,hn]
 ·simp [h]
 ·simp [h,Bool.and_assoc]
def edgeP (d:Nd) (s:Stp) (k:Nat):Bool:=match d.edges[k]? with | some e=>edgeB d s e | none=>false
def edgeI (d:Nd) (s:Stp):Option Nat:=if rightS s=true then firstN (edgeP d s) d.edges.length else none
theorem edgeI_some {d:Nd} {s:Stp} {k:Nat} (h:edgeI d s=some k):∃ e,d.edges[k]? = some e/\edgeB d s e=true/\rightS s=true:=by
 unfold edgeI at h;split at h
 ·rename_i hr;obtain ⟨h1,h2,_⟩:=firstN_spec h;refine ⟨d.edges[k],gE h1,?_,hr⟩;unfold edgeP at h2;rw [gE h1] at h2;exact h2
 ·cases h
def walkV (ND:List Nd) (f:Nat->Nat->Bool) (n:Nat):List Stp->Nat->Nat->Option (Nat × Nat)
 | [],i,a=>some (i,a)
 | s :: p,i,a=>match ND[i]? with
  | none=>none
  | some d=>match edgeI d s with
   | none=>none
   | some k=>match d.edges[k]? with
    | none=>none
    | some e=>walkV ND f n p e.to.toNat (jnF f n a e.label.toNat)
theorem edgeB_bare {L N:Nat} {d:Nd} (hN:NdOK L N d) {s:Stp} {e:Ed} (he:e∈d.edges) (h:edgeB d s e=true):e.bare=false:=by
 cases hb:e.bare
 ·rfl
 ·have h8:=hN.bare e he hb;unfold edgeB at h;simp [hb,h8] at h
theorem edge_nums {L:Nat} {ND:List Nd} {d:Nd} (hN:NdOK L ND.length d) {e:Ed} (he:e∈d.edges):(e.bare=false->e.to=(e.to.toNat:Nat)/\e.to.toNat < ND.length)/\(e.label=(e.label.toNat:Nat)/\e.label.toNat < L)/\(e.seen=(e.seen.toNat:Nat)/\e.seen.toNat < L):=by
 have hE:=hN.edge e he;refine ⟨fun hb=>?_,?_,?_⟩
 ·obtain ⟨k,h1,h2⟩:=hE.to1 hb;rw [h1];exact ⟨by simp,by simpa using h2⟩
 ·obtain ⟨k,h1,h2⟩:=hE.lab;rw [h1];exact ⟨by simp,by simpa using h2⟩
 ·obtain ⟨k,h1,h2⟩:=hE.seen;rw [h1];exact ⟨by simp,by simpa using h2⟩
theorem walkV_ok {f:Nat->Nat->Bool} {L:Nat} (hL:LatOK f L) {ND:List Nd} (hok:∀ n∈ND,NdOK L ND.length n):∀ (p:List Stp) (i a:Nat) {j b:Nat},i < ND.length->a < L->walkV ND f L p i a=some (j,b)->j < ND.length/\b < L
 | [],i,a,j,b,hi,ha,h=>by
  rw [walkV] at h;simp only [oI,Prod.mk.injEq] at h;omega
 | s :: p,i,a,j,b,hi,ha,h=>by
  rw [walkV,gE hi] at h;simp only at h;split at h
  ·cases h
  ·rename_i k hk;obtain ⟨e,he,hB,_⟩:=edgeI_some hk;rw [he] at h;simp only at h;have hm:=mG he;have hd:=hok _ (List.getElem_mem hi);obtain ⟨h1,h2,_⟩:=edge_nums hd hm;exact walkV_ok hL hok p _ _ (h1 (edgeB_bare hd hm hB)).2 (jnF_lt hL ha h2.2) h
section
variable (ND:List Nd) (f:Nat->Nat->Bool) (n obs dep:Nat)
end
def nameP (es:List Ed) (s:ByteArray) (k:Nat):Bool:=match es[k]? with | some e=>decide (e.name=s) | none=>false
theorem edge_name {L:Nat} {ND:List Nd} {d:Nd} (hN:NdOK L ND.length d) {s:Stp} {k:Nat} (h:edgeI d s=some k):firstN (nameP d.edges s.s) d.edges.length=some k:=by
 obtain ⟨e,he,hB,hr⟩:=edgeI_some h;have hk:=(gS he).1
 have hsk:s.s=e.name/\(d.kind=5∨d.kind=6∨d.kind=7∨d.kind=8):=by
  have hone:=hN.one;unfold edgeB at hB;unfold rightS at hr;simp only [Bool.or_eq_true,Bool.and_eq_true,decide_eq_true_eq] at hB;rcases hB with ((h | h) | h) | h
  ·exact ⟨h.2.1.symm,by omega⟩
  ·exact ⟨h.2.1.symm,by omega⟩
  ·obtain ⟨e',h1,_,h3⟩:=hone (.inl h.1.2);rw [h1] at he
   have:e=e':=by
    rw [h1,List.length_singleton] at hk;obtain rfl:k=0:=by omega
    simpa using he.symm
   subst this;rw [h3];refine ⟨?_,by omega⟩;rcases h.1.1 with h | h<;>rw [h] at hr<;>simp at hr<;>exact hr.2
  ·obtain ⟨e',h1,_,h3⟩:=hone (.inr h.2);rw [h1] at he
   have:e=e':=by
    rw [h1,List.length_singleton] at hk;obtain rfl:k=0:=by omega
    simpa using he.symm
   subst this;rw [h3];refine ⟨?_,by omega⟩;rw [h.1] at hr;simp at hr;exact hr.2
 refine firstN_some hk (by unfold nameP;rw [he];exact decide_eq_true hsk.1.symm) fun c hc=>?_
 cases hp:nameP d.edges s.s c with
 | false=>rfl
 | true=>
  exfalso;have hcl:c < d.edges.length:=by omega
  unfold nameP at hp;rw [gE hcl] at hp;have hp:=of_decide_eq_true hp;rcases hsk.2 with h5 | h6 | h78
  ·obtain ⟨e',h1,_⟩:=hN.one (.inl h5);rw [h1,List.length_singleton] at hk;omega
  ·obtain ⟨e',h1,_⟩:=hN.one (.inr h6);rw [h1,List.length_singleton] at hk;omega
  ·have hnd:=(hN.many h78).2.2.1;have he2:=(gS he).2;have:=List.pairwise_iff_getElem.1 (List.nodup_iff_pairwise_ne.1 hnd) c k (by simpa using hcl) (by simpa using hk) hc;rw [List.getElem_map,List.getElem_map,he2] at this;exact this (hp.trans hsk.1)
structure Pl where
 i:Nat
 d:Nd
 k:Nat
 s:Stp
def stpsV (ND:List Nd):List Stp->Nat->List Pl
 | [],_=>[]
 | s :: p,i=>match ND[i]? with
  | none=>[]
  | some d=>match edgeI d s with
   | none=>[]
   | some k=>match d.edges[k]? with
    | none=>[]
    | some x=>⟨i,d,k,s⟩ :: stpsV ND p x.to.toNat
def sumE (sz:List Nat) (k:Nat):List Ed->Nat->Nat
 | [],_=>0
 | e :: r,i=>(if i=k then 0 else edN sz e) + sumE sz k r (i + 1)
theorem sumE_snoc (sz:List Nat) (k:Nat):∀ (es:List Ed) (e:Ed) (i:Nat),sumE sz k (es ++ [e]) i=sumE sz k es i + (if i + es.length=k then 0 else edN sz e)
 | [],e,i=>by simp [sumE]
 | x :: r,e,i=>by
  rw [List.cons_append,sumE,sumE_snoc sz k r,sumE,List.length_cons,show i + 1 + r.length=i + (r.length + 1) by omega,Nat.add_assoc]
theorem sumE_take {sz:List Nat} {k:Nat} {es:List Ed} {e:Nat} {x:Ed} (h:es[e]? = some x):sumE sz k (es.take (e + 1)) 0=sumE sz k (es.take e) 0 + (if e=k then 0 else edN sz x):=by
 have hl:=(gS h).1;rw [take_snoc h,sumE_snoc,List.length_take,Nat.min_eq_left (by omega),Nat.zero_add]
def exF (sz:List Nat) (q:Pl):Nat:=1 + (if q.s.k=2 then q.s.n.toNat * sz.getD (to0 q.d).toNat 0 else if q.s.k=1 then sumE sz q.k q.d.edges 0 else 0)
def totF (sz:List Nat):List Pl->Nat
 | []=>0
 | q :: l=>exF sz q + totF sz l
theorem totF_snoc (sz:List Nat) (q:Pl):∀ l:List Pl,totF sz (l ++ [q])=totF sz l + exF sz q
 | []=>by simp [totF]
 | x :: l=>by rw [List.cons_append,totF,totF,totF_snoc sz q l,Nat.add_assoc]
theorem cutM_l (a b:Nat):cutM (cutM a + b)=cutM (a + b):=by unfold cutM;omega
theorem cutM_r (a b:Nat):cutM (a + cutM b)=cutM (a + b):=by unfold cutM;omega
def othA (D:List Nat) (k:Nat):List Ed->Nat->Bool
 | [],_=>true
 | e :: r,i=>(decide (i=k) || decide (edN D e≠0)) && othA D k r (i + 1)
theorem othA_snoc (D:List Nat) (k:Nat):∀ (es:List Ed) (e:Ed) (i:Nat),othA D k (es ++ [e]) i=(othA D k es i && (decide (i + es.length=k) || decide (edN D e≠0)))
 | [],e,i=>by simp [othA]
 | x :: r,e,i=>by
  rw [List.cons_append,othA,othA_snoc D k r,othA,List.length_cons,show i + 1 + r.length=i + (r.length + 1) by omega,Bool.and_assoc]
theorem othA_iff {D:List Nat} {k:Nat}:∀ {es:List Ed} {i:Nat},othA D k es i=true↔∀ (j:Nat) x,es[j]? = some x->i + j≠k->edN D x≠0
 | [],i=>by simp [othA]
 | e :: r,i=>by
  rw [othA,Bool.and_eq_true,othA_iff];constructor
  ·rintro ⟨h1,h2⟩ j x hx hj
   cases j with
   | zero=>
    simp at hx;subst hx;simpa [show ¬ i=k by omega] using h1
   | succ j=>exact h2 j x (by simpa using hx) (by omega)
  ·intro h;refine ⟨?_,fun j x hx hj=>h (j + 1) x (by simpa using hx) (by omega)⟩;by_cases hi:i=k
   ·simp [hi]
   ·simp [h 0 e rfl (by omega)]
def aliF (D:List Nat) (q:Pl):Bool:=decide (q.s.k≠3) && (decide (q.s.k≠1) || othA D q.k q.d.edges 0)
def arnV (F:Nat->Val) (q:Pl) (x:Val):Val:=
 if q.s.k=2 then .mk q.d.kind 0 emptyB (List.replicate q.s.n.toNat (F (to0 q.d).toNat) ++ [x])
 else if q.s.k=1 then .mk q.d.kind 0 emptyB ((q.d.edges.map fun e=>F e.to.toNat).set q.k x)
 else .mk q.d.kind (if q.s.k=5 then q.k else 0) emptyB [x]
def alnV (F:Nat->Val):List Pl->Val->Val
 | [],x=>x
 | q :: l,x=>arnV F q (alnV F l x)
structure PlOK (ND:List Nd) (q:Pl):Prop where
 node:ND[q.i]? = some q.d
 edge:edgeI q.d q.s=some q.k
theorem stpsV_cons {ND:List Nd} {s:Stp} {p:List Stp} {i:Nat} {d:Nd} {k:Nat} {x:Ed} (h1:ND[i]? = some d) (h2:edgeI d s=some k) (h3:d.edges[k]? = some x):stpsV ND (s :: p) i=⟨i,d,k,s⟩ :: stpsV ND p x.to.toNat:=by
 rw [stpsV,h1];simp only;rw [h2];simp only;rw [h3]
theorem walkV_cons {ND:List Nd} {f:Nat->Nat->Bool} {n:Nat} {s:Stp} {p:List Stp} {i a:Nat} {r:Nat × Nat} (h:walkV ND f n (s :: p) i a=some r) :
  ∃ d k x,ND[i]? = some d/\edgeI d s=some k/\d.edges[k]? = some x/\walkV ND f n p x.to.toNat (jnF f n a x.label.toNat)=some r:=by
 rw [walkV] at h;split at h
 ·cases h
 ·rename_i d hd;split at h
  ·cases h
  ·rename_i k hk;split at h
   ·cases h
   ·rename_i x hx;exact ⟨d,k,x,hd,hk,hx,h⟩
theorem walkV_of {ND:List Nd} {f:Nat->Nat->Bool} {n:Nat} {s:Stp} {p:List Stp} {i a:Nat} {d:Nd} {k:Nat} {x:Ed} (h1:ND[i]? = some d) (h2:edgeI d s=some k) (h3:d.edges[k]? = some x) :
  walkV ND f n (s :: p) i a=walkV ND f n p x.to.toNat (jnF f n a x.label.toNat):=by
 rw [walkV,h1];simp only;rw [h2];simp only;rw [h3]
theorem plc_walk {ND:List Nd} {f:Nat->Nat->Bool} {n:Nat}:∀ (p:List Stp) (i a:Nat) {r:Nat × Nat},walkV ND f n p i a=some r ->
  (stpsV ND p i).length=p.length/\∀ (e:Nat) s,p[e]? = some s->∃ q b,(stpsV ND p i)[e]? = some q/\q.s=s/\PlOK ND q/\walkV ND f n (p.take e) i a=some (q.i,b)
 | [],i,a,r,h=>⟨rfl,fun e s h=>by simp at h⟩
 | s :: p,i,a,r,h=>by
  obtain ⟨d,k,x,hd,hk,hx,hw⟩:=walkV_cons h;obtain ⟨h1,h2⟩:=plc_walk p _ _ hw;rw [stpsV_cons hd hk hx];refine ⟨by rw [List.length_cons,List.length_cons,h1],fun e y hy=>?_⟩
  cases e with
  | zero=>
   simp at hy;subst hy;exact ⟨_,a,rfl,rfl,⟨hd,hk⟩,by rw [List.take_zero,walkV]⟩
  | succ e=>
   obtain ⟨q,b,hq,hs,hok,hwq⟩:=h2 e y (by simpa using hy);exact ⟨q,b,by simpa using hq,hs,hok,by rw [List.take_succ_cons,walkV_of hd hk hx];exact hwq⟩
theorem pl_edge {L:Nat} {ND:List Nd} {q:Pl} (hN:NdOK L ND.length q.d) (hq:PlOK ND q):if q.s.k=1∨q.s.k=5 then firstN (nameP q.d.edges q.s.s) q.d.edges.length=some q.k else q.k=0:=by
 split
 ·exact edge_name hN hq.edge
 ·rename_i h;obtain ⟨e,he,hB,_⟩:=edgeI_some hq.edge;have hk:=(gS he).1;unfold edgeB at hB;simp only [Bool.or_eq_true,Bool.and_eq_true,decide_eq_true_eq] at hB
  have h56:q.d.kind=5∨q.d.kind=6:=by
   rcases hB with ((hB | hB) | hB) | hB
   ·exact (h (.inl hB.1.1)).elim
   ·exact (h (.inr hB.1.1)).elim
   ·exact .inl hB.1.2
   ·exact .inr hB.2
  obtain ⟨e',h1,_⟩:=hN.one h56;rw [h1,List.length_singleton] at hk;omega
theorem pl_kind {ND:List Nd} {q:Pl} (hq:PlOK ND q):(q.s.k=1->q.d.kind=7/\q.s.n=0)/\(q.s.k=5->q.d.kind=8/\q.s.n=0)/\(q.s.k=2->q.d.kind=5/\0<=q.s.n/\q.s.n < q.d.most)/\(q.s.k=3->q.d.kind=5/\q.s.n=0)/\(q.s.k=4->q.d.kind=6/\q.s.n=0)/\(q.s.k=1∨q.s.k=2∨q.s.k=3∨q.s.k=4∨q.s.k=5):=by
 obtain ⟨e,he,hB,hr⟩:=edgeI_some hq.edge;have hk5:=rightS_k hr;unfold edgeB at hB;unfold rightS at hr;simp only [Bool.or_eq_true,Bool.and_eq_true,decide_eq_true_eq] at hB;refine ⟨fun h=>?_,fun h=>?_,fun h=>?_,fun h=>?_,fun h=>?_,hk5⟩
 all_goals
  rw [h] at hr hB;simp at hr hB
  first
   | exact ⟨hB.1,hr.1⟩
   | exact ⟨hB.1,hr.1,hB.2⟩
   | exact ⟨hB,hr.1⟩
theorem leastF_7 {n:Nd} {D:List Nat} (h:n.kind=7) (h2:∀ e∈n.edges,edN D e≠0):0 < leastF n D:=by
 rw [leastF,if_pos h];refine Nat.pos_of_ne_zero fun h0=>?_;obtain ⟨e,he,hz⟩:=leastR_zero.1 h0;exact h2 e he hz
theorem leastF_8 {n:Nd} {D:List Nat} (h:n.kind=8) {e:Ed} (he:e∈n.edges) (h2:e.bare=true∨edN D e≠0):0 < leastF n D:=by
 rw [leastF,if_neg (by omega),if_pos h];refine leastU_pos.2 (.inr (List.any_eq_true.2 ⟨e,he,?_⟩));unfold inK;rw [posL_get];rcases h2 with h2 | h2
 ·rw [h2];all_goals rfl
 ·unfold edN at h2;rw [decide_eq_true (by omega),Bool.or_true]
theorem leastF_x {n:Nd} {D:List Nat} (h7:n.kind≠7) (h8:n.kind≠8):0 < leastF n D:=by
 rw [leastF,if_neg h7,if_neg h8];omega
mutual
theorem fit_dep {L:Nat} {ND:List Nd} {D:List Nat} (hok:∀ n∈ND,NdOK L ND.length n) (hO:DepOK ND D):∀ (v:Val) (i:Int),fitV ND v i=true->0 < D.getD i.toNat 0
 | .mk k n s ks,i,h=>by
  obtain ⟨d,hF⟩:=fit_facts hok h;have hks:=fit_deps hok hO ks;have hn:=(nodeA_some hF.node).2;rw [hO.get _ _ hn];have hkids:=hF.kids;have htag:=hF.tag;simp only [Val.ks] at hkids htag;by_cases h7:d.kind=7
  ·refine leastF_7 h7 fun e he=>?_;obtain ⟨h1,h2⟩:=hkids (by omega);have:=hks _ h2 (by omega) e.to (by unfold kidsL;rw [if_neg (by omega),if_pos h7];exact List.mem_map_of_mem he);unfold edN;omega
  ·by_cases h8:d.kind=8
   ·obtain ⟨e,h1,h2,_⟩:=htag h8;refine leastF_8 h8 (mG h2) ?_
    cases hb:e.bare with
    | true=>exact .inl rfl
    | false=>
     obtain ⟨h3,h4⟩:=hkids (by omega);have:=hks _ h4 (by omega) e.to (by unfold kidsL;rw [if_neg (by omega),if_neg h7,h1];simp [hb]);unfold edN;exact .inr (by omega)
   ·exact leastF_x h7 h8
theorem fit_deps {L:Nat} {ND:List Nd} {D:List Nat} (hok:∀ n∈ND,NdOK L ND.length n) (hO:DepOK ND D):∀ (ks:List Val) (l:List Int),fitVs ND ks l=true->l.length<=ks.length->∀ j∈l,0 < D.getD j.toNat 0
 | [],l,h,hl=>by
  cases l with
  | nil=>intro j hj;cases hj
  | cons a b=>simp at hl
 | v :: r,[],h,hl=>by intro j hj;cases hj
 | v :: r,i :: l,h,hl=>by
  rw [fitVs,Bool.and_eq_true] at h;have h1:=fit_dep hok hO v i h.1;have h2:=fit_deps hok hO r l h.2 (by simpa using hl);intro j hj;rcases List.mem_cons.1 hj with rfl | hj
  ·exact h1
  ·exact h2 j hj
end
theorem dep_along {L:Nat} {ND:List Nd} {D:List Nat} (hok:∀ n∈ND,NdOK L ND.length n) (hO:DepOK ND D) {f:Nat->Nat->Bool} {m:Nat}:∀ (p:List Stp) (i a:Nat) {j b:Nat},walkV ND f m p i a=some (j,b)->(stpsV ND p i).all (aliF D)=true->0 < D.getD j 0 ->
  0 < D.getD i 0/\∀ q∈stpsV ND p i,∃ x,q.d.edges[q.k]? = some x/\edN D x≠0
 | [],i,a,j,b,h,_,h0=>by
  rw [walkV] at h;simp only [oI,Prod.mk.injEq] at h;rw [h.1];exact ⟨h0,fun q hq=>by simp [stpsV] at hq⟩
 | s :: p,i,a,j,b,h,hal,h0=>by
  obtain ⟨d,k,x,hd,hk,hx,hw⟩:=walkV_cons h;rw [stpsV_cons hd hk hx] at hal ⊢;rw [List.all_cons,Bool.and_eq_true] at hal;obtain ⟨h1,h2⟩:=dep_along hok hO p _ _ hw hal.2 h0;have hxn:edN D x≠0:=by unfold edN;omega
  refine ⟨?_,fun q hq=>?_⟩
  ·rw [hO.get _ _ hd];have hq:PlOK ND ⟨i,d,k,s⟩:=⟨hd,hk⟩;have hkd:=pl_kind hq;by_cases h7:d.kind=7
   ·refine leastF_7 h7 fun e he=>?_
    have hs1:s.k=1:=by
     have:=hkd;simp only at this;omega
    have ha:=hal.1;unfold aliF at ha;simp only [hs1,Bool.and_eq_true] at ha;have ha:=othA_iff.1 (by simpa using ha.2);obtain ⟨c,hc,rfl⟩:=List.getElem_of_mem he;by_cases hck:c=k
    ·subst hck;rw [gE hc] at hx;cases hx;exact hxn
    ·exact ha c _ (gE hc) (by omega)
   ·by_cases h8:d.kind=8
    ·exact leastF_8 h8 (mG hx) (.inr hxn)
    ·exact leastF_x h7 h8
  ·rcases List.mem_cons.1 hq with rfl | hq
   ·exact ⟨x,hx,hxn⟩
   ·exact h2 q hq
theorem pl_one {L:Nat} {ND:List Nd} (hok:∀ n∈ND,NdOK L ND.length n) {q:Pl} (hq:PlOK ND q) {x:Ed} (hx:q.d.edges[q.k]? = some x) (h56:q.d.kind=5∨q.d.kind=6):q.d.edges=[x]/\q.k=0/\to0 q.d=x.to:=by
 have hN:=hok _ (mG hq.node);obtain ⟨e,he,_⟩:=hN.one h56;have hk:=(gS hx).1;rw [he,List.length_singleton] at hk;have hk0:q.k=0:=by omega
 rw [he,hk0] at hx;simp at hx;subst hx;exact ⟨he,hk0,by unfold to0;rw [he];rfl⟩
def fillF (ND:List Nd) (sz D:List Nat) (o:Option (Nat × Nat)) (l:List Pl) (x:Val):Option Val:=match o with
 | none=>none
 | some (j,_)=>if fitV ND x j=true/\l.all (aliF D)=true/\cntV x + totF sz l < 4097 then some (alnV (fstV ND D) l x) else none
theorem all_drop {α:Type} {l:List α} {e:Nat} {x:α} {p:α->Bool} (h:l[e]? = some x):(l.drop e).all p=(p x && (l.drop (e + 1)).all p):=by
 obtain ⟨h1,h2⟩:=List.getElem?_eq_some_iff.1 h;rw [List.drop_eq_getElem_cons h1,h2,List.all_cons]
theorem pright1_spec (s:Stp) (hs:s.s.size<=4611686018427387904):EvP Tryz.prog 189 [.agg (dStp s)] (.v (.bool (rightS s))):=by
 have hr:=right_spec s.s hs;obtain ⟨k,n,t⟩:=s;have hF:rightS ⟨k,n,t⟩=if k=1∨k=5 then decide (n=0) && nameOK t else if k=2 then decide (0<=n) && decide (t=⟨#[]⟩) else if k=3∨k=4 then decide (n=0) && decide (t=⟨#[]⟩) else false:=rfl
 generalize rightS ⟨k,n,t⟩=F at hF ⊢;refine ev_go (P:=Tryz.prog) tt tt_ok 5000 39 [.tmp 2] Tryz.func189 rfl Tryz.ntmps189 rfl (nL rfl) (fun E9 w9 hn9 hm9=>?_);refine br (fun c=>?_) (fun c=>?_)
 ·have c:k=1:=by simpa using c
  rw [if_pos (.inl c)] at hF;refine br (fun _=>?_) (fun g=>absurd g (by simp [c]));refine br (fun g=>?_) (fun g=>?_)
  ·have g:n=0:=by simpa using g
   refine call_p en94 (hr) ax rfl ?_;refine (congrArg (fun b=>DV.v (.bool b)) ?_:_=_);rw [hF];simp [g,pickB]
  ·have g:¬ n=0:=by simpa using g
   refine (congrArg (fun b=>DV.v (.bool b)) ?_:_=_);rw [hF];simp [g,pickB]
 have c1:¬ k=1:=by simpa using c
 refine br (fun c=>?_) (fun c=>?_)
 ·have c:k=5:=by simpa using c
  rw [if_pos (.inr c)] at hF;refine br (fun g=>?_) (fun g=>?_)
  ·have g:n=0:=by simpa using g
   refine call_p en94 (hr) ax rfl ?_;refine (congrArg (fun b=>DV.v (.bool b)) ?_:_=_);rw [hF];simp [g,pickB]
  ·have g:¬ n=0:=by simpa using g
   refine (congrArg (fun b=>DV.v (.bool b)) ?_:_=_);rw [hF];simp [g,pickB]
 have c5:¬ k=5:=by simpa using c
 rw [if_neg (by omega)] at hF;refine br (fun c=>?_) (fun c=>?_)
 ·have c:k=2:=by simpa using c
  rw [if_pos c] at hF;refine (congrArg (fun b=>DV.v (.bool b)) ?_:_=_);rw [hF];cases decide (0<=n)<;>rfl
 have c2:¬ k=2:=by simpa using c
 rw [if_neg c2] at hF;refine br (fun c=>?_) (fun c=>?_)
 ·have c:k=3:=by simpa using c
  rw [if_pos (.inl c)] at hF;refine br (fun _=>?_) (fun g=>absurd g (by simp [c]));refine (congrArg (fun b=>DV.v (.bool b)) ?_:_=_);rw [hF];cases decide (n=0)<;>rfl
 have c3:¬ k=3:=by simpa using c
 refine br (fun c=>?_) (fun c=>?_)
 ·have c:k=4:=by simpa using c
  rw [if_pos (.inr c)] at hF;refine (congrArg (fun b=>DV.v (.bool b)) ?_:_=_);rw [hF];cases decide (n=0)<;>rfl
 have c4:¬ k=4:=by simpa using c
 rw [if_neg (by omega)] at hF;subst hF;exact (rfl:_=_)
abbrev prSt (l:List Stp) (e:Nat):St:=⟨[(8,⟨[],.sl 3 (dStps l) none⟩),(9,⟨[],.v (.int .i64 (dStps l).length)⟩),(10,⟨[],.v (.int .i64 e)⟩)],[],[]⟩
theorem pright_spec (l:List Stp) (hs:∀ s∈l,s.s.size<=4611686018427387904):EvP Tryz.prog 141 [.sl 3 (dStps l) none] (.v (.bool (rightP l))):=by
 have hdl:=dStps_len l;have hF:rightP l=(decide (l.length<=64) && l.all rightS):=rfl;generalize rightP l=F at hF ⊢;refine ev_go (P:=Tryz.prog) tt tt_ok 5000 18 [.tmp 2] Tryz.func141 rfl Tryz.ntmps141 rfl (nL rfl) (fun E9 w9 hn9 hm9=>?_);refine br (fun g=>?_) (fun g=>?_)
 ·have:¬ l.length<=64:=by simp [hdl] at g;omega
  rw [decide_eq_false this,Bool.false_and] at hF;subst hF;exact (rfl:_=_)
 have hle:l.length<=64:=by simp [hdl] at g;omega
 rw [decide_eq_true hle,Bool.true_and] at hF;refine loop_i (fun j st=>∃ e:Nat,st=prSt l e/\e<=l.length/\F=(l.drop e).all rightS/\j=l.length - e) l.length (prSt l 0) (weak_mk ⟨_,rfl⟩ wA rfl rfl rfl wB) ⟨0,rfl,by omega,hF,by omega⟩ ?_;rintro j st ⟨e,rfl,he,heq,rfl⟩;refine br (fun hL=>?_) (fun hL=>?_)
 ·have hlt:e < l.length:=by simpa [hdl] using hL
  obtain ⟨x,hx⟩:∃ x,l[e]? = some x:=⟨_,gE hlt⟩;have h1:=pright1_spec x (hs x (mG hx));rw [all_drop hx] at heq;obtain ⟨xk,xn,xs⟩:=x;refine ⟨_,⟨by omega,dStps_get hx⟩,?_⟩;refine call_p en189 (h1) ax rfl ?_;refine br (fun g=>?_) (fun g=>?_)
  ·have g:rightS ⟨xk,xn,xs⟩=false:=by simpa using g
   rw [g,Bool.false_and] at heq;subst heq;exact (rfl:_=_)
  ·have g:rightS ⟨xk,xn,xs⟩=true:=by simpa using g
   rw [g,Bool.true_and] at heq;exact ⟨prSt l (e + 1),(weak_mk ⟨_,rfl⟩ wA rfl rfl rfl (wNB hlt)),l.length - (e + 1),by omega,e + 1,rfl,by omega,heq,rfl⟩
 ·have hge:l.length<=e:=by simpa [hdl] using hL
  rw [List.drop_eq_nil_of_le hge] at heq;subst heq;exact (rfl:_=_)
end Go.Proofs.YtadhpeooehkklaaGreat
set_option maxRecDepth 100000
namespace Go.Proofs.YtadhpeooehkklaaGreat
open Go Go.RowKit Dv Tryz
end Go.Proofs.YtadhpeooehkklaaGreat
set_option maxRecDepth 100000
namespace Go.Proofs.YtadhpeooehkklaaGreat
open Go Go.RowKit Dv Tryz
theorem efits_spec (d:Nd) (e:Ed) (s:Stp):EvP Tryz.prog 190 [.agg (dNd d),.agg (dEd e),.agg (dStp s)] (.v (.bool (fitE d s e))):=by
 obtain ⟨kind,at',lo,hi,most,names,es⟩:=d;obtain ⟨en,eb,ea,et,elb,ew,eck,ecn,ese,eca⟩:=e;obtain ⟨k,n,t⟩:=s
 have hF:fitE ⟨kind,at',lo,hi,most,names,es⟩ ⟨k,n,t⟩ ⟨en,eb,ea,et,elb,ew,eck,ecn,ese,eca⟩=if k=1 then decide (kind=7) && decide (en=t)
  else if k=5 then decide (kind=8) && decide (en=t) && !eb
  else if k=2 then decide (kind=5) && decide (n < most)
  else if k=3 then decide (kind=5) && decide (0 < most)
  else decide (kind=6):=rfl
 generalize fitE ⟨kind,at',lo,hi,most,names,es⟩ ⟨k,n,t⟩ ⟨en,eb,ea,et,elb,ew,eck,ecn,ese,eca⟩=F at hF ⊢;refine ev_go (P:=Tryz.prog) tt tt_ok 5000 63 [.tmp 6] Tryz.func190 rfl Tryz.ntmps190 rfl (nL rfl) (fun E9 w9 hn9 hm9=>?_);refine br (fun c=>?_) (fun c=>?_)
 ·have c:k=1:=by simpa using c
  rw [if_pos c] at hF;refine (congrArg (fun b=>DV.v (.bool b)) ?_:_=_);rw [hF];simp only [pickB_and]
 have c1:¬ k=1:=by simpa using c
 rw [if_neg c1] at hF;refine br (fun c=>?_) (fun c=>?_)
 ·have c:k=5:=by simpa using c
  rw [if_pos c] at hF;refine (congrArg (fun b=>DV.v (.bool b)) ?_:_=_);rw [hF];simp only [pickB_and]
 have c5:¬ k=5:=by simpa using c
 rw [if_neg c5] at hF;refine br (fun c=>?_) (fun c=>?_)
 ·have c:k=2:=by simpa using c
  rw [if_pos c] at hF;refine (congrArg (fun b=>DV.v (.bool b)) ?_:_=_);rw [hF];simp only [pickB_and]
 have c2:¬ k=2:=by simpa using c
 rw [if_neg c2] at hF;refine br (fun c=>?_) (fun c=>?_)
 ·have c:k=3:=by simpa using c
  rw [if_pos c] at hF;refine (congrArg (fun b=>DV.v (.bool b)) ?_:_=_);rw [hF];simp only [pickB_and]
 have c3:¬ k=3:=by simpa using c
 rw [if_neg c3] at hF;refine (congrArg (fun b=>DV.v (.bool b)) ?_:_=_);rw [hF]
def estW (ND:List Nd) (f:Nat->Nat->Bool) (n:Nat) (s:Stp) (i a:Nat):Option (Nat × Nat):=match ND[i]? with
 | none=>none
 | some d=>match edgeI d s with
  | none=>none
  | some k=>match d.edges[k]? with
   | none=>none
   | some e=>some (e.to.toNat,jnF f n a e.label.toNat)
theorem walkV_drop (ND:List Nd) (f:Nat->Nat->Bool) (n:Nat) (p:List Stp) (e i a:Nat):walkV ND f n (p.drop e) i a=match p[e]? with
  | none=>some (i,a)
  | some s=>match estW ND f n s i a with
   | none=>none
   | some (j,b)=>walkV ND f n (p.drop (e + 1)) j b:=by
 cases hs:p[e]? with
 | none=>rw [List.drop_eq_nil_of_le (List.getElem?_eq_none_iff.1 hs)];all_goals rfl
 | some s=>
  obtain ⟨h1,h2⟩:=List.getElem?_eq_some_iff.1 hs;rw [List.drop_eq_getElem_cons h1,h2,walkV];simp only [estW]
  cases hd:ND[i]? with
  | none=>rfl
  | some d=>
   simp only
   cases hk:edgeI d s with
   | none=>rfl
   | some k=>
    simp only
    cases he:d.edges[k]? with
    | none=>rfl
    | some x=>rfl
theorem estW_ok {f:Nat->Nat->Bool} {L:Nat} (hL:LatOK f L) {ND:List Nd} (hok:∀ n∈ND,NdOK L ND.length n) {s:Stp} {i a j b:Nat} (hi:i < ND.length) (ha:a < L) (h:estW ND f L s i a=some (j,b)):j < ND.length/\b < L:=by
 have hw:=walkV_drop ND f L [s] 0 i a;simp only [List.getElem?_cons_zero,h] at hw;exact walkV_ok hL hok [s] i a hi ha hw
def stepD (o:Option (Nat × Nat)):DV:=match o with
 | some (j,b)=>.tup [.agg [.v (.int .i64 (j:Nat)),.v (.int .i64 (b:Nat))],.v (.bool true)]
 | none=>.tup [.agg [.v (.int .i64 0),.v (.int .i64 0)],.v (.bool false)]
abbrev estSt (PC:List DV) (i a:Nat) (s:Stp) (d:Nd) (e:Nat):St:=
 ⟨[(0,⟨[],.pt PC 0⟩),(4,⟨[],.loc 0 0⟩),(5,⟨[],.loc 1 0⟩),(6,⟨[],.loc 2 0⟩),(8,⟨[],.loc 3 0⟩),(20,⟨[],.sl 10 (dEds d.edges) none⟩),(21,⟨[],.v (.int .i64 (dEds d.edges).length)⟩),(22,⟨[],.v (.int .i64 e)⟩)],
  [[.v (.int .i64 i),.v (.int .i64 a)],dStp s,[.v (.int .i64 0),.v (.int .i64 0)],dNd d],[]⟩
theorem estep_spec {S:Sch} {ND:List Nd} {PC:List DV} (hP:PlanR S ND PC) (s:Stp) (hr:rightS s=true) (i a:Nat) (hi:i < ND.length) (ha:a < S.levels.length) :
  EvP Tryz.prog 142 [.pt PC 0,.agg [.v (.int .i64 i),.v (.int .i64 a)],.agg (dStp s)] (stepD (estW ND (leqS S) S.levels.length s i a)):=by
 obtain ⟨LC,hlat,hLR⟩:=hP.latR;obtain ⟨d,hd⟩:∃ d,ND[i]? = some d:=⟨_,gE hi⟩;have hN:=hP.ok d (mG hd);have hnode:=hP.node i d hd
 have hel:d.edges.length<=1099511627776:=by
  have:=resNds_sz (S:=S) (n:=d) (by rw [<- hP.nds];exact mG hd) hP.wt;exact this.2
 have hjn:=fun b hb=>hLR.join a b ha hb
 have hW:estW ND (leqS S) S.levels.length s i a=match firstN (edgeP d s) d.edges.length with
  | none=>none
  | some k=>match d.edges[k]? with
   | none=>none
   | some e=>some (e.to.toNat,jnF (leqS S) S.levels.length a e.label.toNat):=by
  unfold estW;simp only [hd,edgeI,if_pos hr]
 have hPe:∀ (e:Nat) x,d.edges[e]? = some x->edgeP d s e=fitE d s x:=fun e x h=>by
  rw [fitE_eq hN hr (mG h)];unfold edgeP;rw [h]
 have hfs:=fun x=>efits_spec d x s;have hnum:=fun (e:Ed) (he:e∈d.edges) (h:edgeB d s e=true)=>And.intro ((edge_nums hN he).1 (edgeB_bare hN he h)) (edge_nums hN he).2.1;have hfe:=fun x hx=>fitE_eq hN hr (e:=x) hx;generalize estW ND (leqS S) S.levels.length s i a=R at hW ⊢;generalize edgeP d s=pE at hW hPe;generalize jnF (leqS S) S.levels.length a=jn at hW hjn;obtain ⟨kind,at',lo,hi',most,names,es⟩:=d;obtain ⟨k,n,t⟩:=s;have hdl:=dEds_len es;simp only at hW hPe hel;refine ev_go (P:=Tryz.prog) tt tt_ok 5000 42 [.cell 6 214,.tmp 7] Tryz.func142 rfl Tryz.ntmps142 rfl (nL rfl) (fun E9 w9 hn9 hm9=>?_);refine call_p en44 (hnode) ax rfl ?_;refine loop_i (fun j st=>∃ e:Nat,st=estSt PC i a ⟨k,n,t⟩ ⟨kind,at',lo,hi',most,names,es⟩ e/\e<=es.length/\(∀ c,c < e->pE c=false)/\j=es.length - e) es.length (estSt PC i a ⟨k,n,t⟩ ⟨kind,at',lo,hi',most,names,es⟩ 0) (weak_mk ⟨_,rfl⟩ wA rfl rfl rfl wB) ⟨0,rfl,by omega,fun _ h=>by omega,by omega⟩ ?_;rintro j st ⟨e,rfl,he,hno,rfl⟩;refine br (fun hL=>?_) (fun hL=>?_)
 ·have hlt:e < es.length:=by simpa [hdl] using hL
  obtain ⟨x,hx⟩:∃ x,es[e]? = some x:=⟨_,gE hlt⟩;have hPx:=hPe e x hx;have hfx:=hfs x;have hmx:=mG hx;have hnx:=hnum x hmx;have hfex:=hfe x hmx
  cases hv:fitE ⟨kind,at',lo,hi',most,names,es⟩ ⟨k,n,t⟩ x with
  | true=>
   rw [hv] at hPx hfx hfex;obtain ⟨⟨h1,_⟩,h2,h3⟩:=hnx hfex.symm;rw [firstN_some hlt hPx hno] at hW;simp only [hx] at hW;clear hnum hfe hnx hfex hfs;obtain ⟨en,eb,ea,et,elb,ew,eck,ecn,ese,eca⟩:=x;simp only at h1 h2 h3;obtain ⟨lb,rfl⟩:∃ n:Nat,elb=n:=⟨_,h2⟩;obtain ⟨tn,rfl⟩:∃ n:Nat,et=n:=⟨_,h1⟩;simp only [Int.toNat_natCast] at h3 hW;have hj:=hjn lb h3;subst hW;refine ⟨_,⟨by omega,dEds_get hx⟩,?_⟩;refine call_p en190 (hfx) ax rfl ?_;refine drawG_s mo (by decide +kernel) ?_;refine callD_p en139 (hlat) ax rfl ?_;refine callD_p en164 (hj) ax rfl ?_;exact ⟨_,ax,rfl⟩
  | false=>
   rw [hv] at hPx hfx;obtain ⟨en,eb,ea,et,elb,ew,eck,ecn,ese,eca⟩:=x;refine ⟨_,⟨by omega,dEds_get hx⟩,?_⟩;refine call_p en190 (hfx) ax rfl ?_
   exact ⟨estSt PC i a ⟨k,n,t⟩ ⟨kind,at',lo,hi',most,names,es⟩ (e + 1),(weak_b 4 rfl (wNA hlt) rfl rfl rfl (wNB hlt)),es.length - (e + 1),by omega,e + 1,rfl,by omega,fun c hc=>by
    rcases Nat.lt_succ_iff_lt_or_eq.1 hc with h | h
    ·exact hno c h
    ·rw [h];exact hPx,rfl⟩
 ·have hge:e=es.length:=by have:=hL;simp [hdl] at this;omega
  subst hge;rw [firstN_none hno] at hW;simp only at hW;subst hW;exact ⟨_,ax,rfl⟩
def walkT (o:Option (Nat × Nat)):DV:=match o with
 | some (j,b)=>.tup [.v (.int .i64 (j:Nat)),.v (.int .i64 (b:Nat)),.v (.bool true)]
 | none=>.tup [.v (.int .i64 (-1)),.v (.int .i64 (-1)),.v (.bool false)]
abbrev ewkSt (PC:List DV) (p:List Stp) (i a e:Nat):St:=
 ⟨[(0,⟨[],.pt PC 0⟩),(7,⟨[],.loc 0 0⟩),(18,⟨[],.sl 3 (dStps p) none⟩),(19,⟨[],.v (.int .i64 (dStps p).length)⟩),(20,⟨[],.v (.int .i64 e)⟩)],[[.v (.int .i64 i),.v (.int .i64 a)]],[]⟩
theorem ewalk_spec {S:Sch} {ND:List Nd} {PC:List DV} (hP:PlanR S ND PC) (p:List Stp) (hp:p.length<=1099511627776) (hs:∀ s∈p,s.s.size<=4611686018427387904) (rt:Nat) (hrt:resRoot S=rt) (hrl:rt < ND.length) :
  EvP Tryz.prog 76 [.pt PC 0,.sl 3 (dStps p) none] (walkT (walkV ND (leqS S) S.levels.length p rt (botF (leqS S) S.levels.length))):=by
 obtain ⟨LC,hlat,hLR⟩:=hP.latR;have hroot:=hP.root;rw [hrt] at hroot;have hbot:=hLR.bot;have hbl:=botF_lt hLR.ok;have hst:=fun s hr i a hi ha=>estep_spec hP s hr i a hi ha;have hwd:=walkV_drop ND (leqS S) S.levels.length p;have hok:=fun {s i a j b}=>@estW_ok _ _ hLR.ok _ hP.ok s i a j b;have hdl:=dStps_len p
 have hsr:∀ s i a,rightS s=false->estW ND (leqS S) S.levels.length s i a=none:=fun s i a h=>by
  unfold estW
  cases ND[i]? with
  | none=>rfl
  | some d=>simp [edgeI,h]
 generalize hR:walkV ND (leqS S) S.levels.length p rt (botF (leqS S) S.levels.length)=R;have hR0:walkV ND (leqS S) S.levels.length (p.drop 0) rt (botF (leqS S) S.levels.length)=R:=by rw [List.drop_zero];exact hR
 clear hR;generalize botF (leqS S) S.levels.length=bt at hbot hbl hR0;refine ev_go (P:=Tryz.prog) tt tt_ok 5000 42 [.tmp 4,.tmp 5,.tmp 6] Tryz.func76 rfl Tryz.ntmps76 rfl (nL rfl) (fun E9 w9 hn9 hm9=>?_);refine call_p en13 (hroot) ax rfl ?_;refine call_p en139 (hlat) ax rfl ?_;refine call_p en140 (hbot) ax rfl ?_;refine loop_i (fun j st=>∃ e i a:Nat,st=ewkSt PC p i a e/\e<=p.length/\i < ND.length/\a < S.levels.length/\walkV ND (leqS S) S.levels.length (p.drop e) i a=R/\j=p.length - e) p.length (ewkSt PC p rt bt 0) (weak_mk ⟨_,rfl⟩ wA rfl rfl rfl wB) ⟨0,rt,bt,rfl,by omega,hrl,hbl,hR0,by omega⟩ ?_;rintro j st ⟨e,i,a,rfl,he,hi,ha,hw,rfl⟩;rw [hwd] at hw;refine br (fun hL=>?_) (fun hL=>?_)
 ·have hlt:e < p.length:=by simpa [hdl] using hL
  obtain ⟨x,hx⟩:∃ x,p[e]? = some x:=⟨_,gE hlt⟩;have hxs:=hs x (mG hx);have hr:=pright_spec [x] (by simpa using hxs);rw [rightP_one] at hr;rw [hx] at hw;simp only at hw
  cases hrx:rightS x with
  | false=>
   rw [hsr x i a hrx] at hw;simp only at hw;subst hw;rw [hrx] at hr;obtain ⟨xk,xn,xt⟩:=x;refine ⟨_,⟨by omega,dStps_get hx⟩,?_⟩;refine call_p en141 (hr) ax rfl ?_;exact ⟨_,ax,rfl⟩
  | true=>
   have hsx:=hst x hrx i a hi ha;have hkx:=@hok x i a;rw [hrx] at hr;generalize estW ND (leqS S) S.levels.length x i a=o at hw hsx hkx;obtain ⟨xk,xn,xt⟩:=x;refine ⟨_,⟨by omega,dStps_get hx⟩,?_⟩;refine call_p en141 (hr) ax rfl ?_;refine call_p en142 (hsx) ax rfl ?_
   cases o with
   | none=>
    simp only at hw;subst hw;exact ⟨_,ax,rfl⟩
   | some r=>
    obtain ⟨j,b⟩:=r;simp only at hw;obtain ⟨h1,h2⟩:=hkx hi ha rfl;exact ⟨ewkSt PC p j b (e + 1),(weak_b 1 rfl (wNA hlt) rfl rfl rfl (wNB hlt)),p.length - (e + 1),by omega,e + 1,j,b,rfl,by omega,h1,h2,hw,rfl⟩
 ·have hge:p.length<=e:=by simpa [hdl] using hL
  rw [List.getElem?_eq_none hge] at hw;simp only at hw;subst hw;refine drawG_i (fun _=>false) mo (by decide +kernel) ?_;exact ⟨_,ax,rfl⟩
theorem weak_b2 {n0 m0:Nat} {st st':St} (n:Nat) (q r:TkE) (hq:q.new=true) (hr:r.new=true) (hn:Nat.ble n st.bx.length=true) (h3:st.tk ++ [q,r]=st'.tk) (h2:WeLL n st.tk.length st'.tk (st.bx.take n) st'.bx) (h4:Nat.ble n0 n=true) (h5:Nat.ble m0 st.tk.length=true)
  (h:sameW n st.tk.length st'.tk st.sl st'.sl):Weak n0 m0 st st':=by
 have hl:(st.bx.take n).length=n:=by
  have:=nL hn;rw [List.length_take];omega
 exact ⟨st.tk,[],[q,r],st.bx.take n,st.bx.drop n,by simpa using h5,by rw [hl];simpa using h4,by simp,h3.symm,by simpa using ⟨hq,hr⟩,(List.take_append_drop n st.bx).symm,by rw [hl];exact h2,by rw [hl];exact h⟩
theorem ex_item {sz:List Nat} {q:Pl} (h:q.s.k=2):exF sz q=1 + q.s.n.toNat * sz.getD (to0 q.d).toNat 0:=by unfold exF;rw [if_pos h]
theorem ex_fld {sz:List Nat} {q:Pl} (h:q.s.k=1):exF sz q=1 + sumE sz q.k q.d.edges 0:=by unfold exF;rw [if_neg (by omega),if_pos h]
theorem ex_oth {sz:List Nat} {q:Pl} (h2:q.s.k≠2) (h1:q.s.k≠1):exF sz q=1:=by unfold exF;rw [if_neg h2,if_neg h1]
section
variable (PC:List DV) (ND:List Nd) (D:List Nat) (K:List Bool) (sz ot:List Nat) {L:Nat}
abbrev bs1St (s:Stp) (d:Nd) (m e:Nat):St:=
 ⟨[(0,⟨[],.pt (mkD PC ND D K sz ot) 0⟩),(9,⟨[],.loc 1 0⟩),(10,⟨[],.v (.int .i64 m)⟩),(25,⟨[],.v (.int .i64 s.n)⟩),(26,⟨[],.v (.int .i64 e)⟩)],[dStp s,dNd d],[]⟩
abbrev bs2St (s:Stp) (d:Nd) (k m e:Nat):St:=
 ⟨[(0,⟨[],.pt (mkD PC ND D K sz ot) 0⟩),(2,⟨[],.v (.int .i64 k)⟩),(10,⟨[],.v (.int .i64 m)⟩),(46,⟨[],.sl 10 (dEds d.edges) none⟩),(47,⟨[],.v (.int .i64 (dEds d.edges).length)⟩),(48,⟨[],.v (.int .i64 e)⟩)],[dStp s,dNd d],[]⟩
theorem sbeside_spec {q:Pl} (hq:PlOK ND q) (hs:sz.length=ND.length) (hz:∀ z∈sz,z<=4097) (hn:NdOK L ND.length q.d) (hel:q.d.edges.length<=1099511627776) :
  EvP Tryz.prog 127 [.pt (mkD PC ND D K sz ot) 0,.v (.int .i64 q.i),.v (.int .i64 q.k),.agg (dStp q.s)] (.v (.int .i64 (cutM (exF sz q):Nat))):=by
 obtain ⟨_,_,k2,_⟩:=pl_kind hq;have hnode:=hq.node;have hone:=hn.one;have hmany:=hn.many;have hedge:=hn.edge;have hbare:=hn.bare;have hmost:=hn.most5;have e2:=@ex_item sz q;have e1:=@ex_fld sz q;have e0:=@ex_oth sz q;have hk1:=(pl_kind hq).1;generalize hX:exF sz q=X at *;obtain ⟨i,d,k,s⟩:=q;obtain ⟨kind,at',lo,hi,most,names,es⟩:=d;obtain ⟨sk,sn,ss⟩:=s;simp only at *;have hdl:=dEds_len es;refine ev_go (P:=Tryz.prog) tt tt_ok 5000 69 [.tmp 8] Tryz.func127 rfl Tryz.ntmps127 rfl (nL rfl) (fun E9 w9 hn9 hm9=>?_);refine ⟨_,⟨by omega,dNds_get hnode⟩,?_⟩;refine br (fun c=>?_) (fun c=>?_)
 ·have c:sk=2:=by simpa using c
  obtain ⟨c5,hn0,hn1⟩:=k2 c;obtain ⟨x,hx,hxb,_⟩:=hone (.inl c5);have hx0:es[0]? = some x:=by rw [hx];all_goals rfl
  obtain ⟨t,ht,htl⟩:=(hedge x (by rw [hx];simp)).to1 hxb;obtain ⟨z,hzz⟩:∃ z,sz[t]? = some z:=⟨_,gE (by omega)⟩;have hzl:=hz z (mG hzz)
  have hto:sz.getD (to0 ⟨kind,at',lo,hi,most,names,es⟩).toNat 0=z:=by
   unfold to0;rw [hx0];simp only;rw [ht,Int.toNat_natCast,List.getD_eq_getElem?_getD,hzz];all_goals rfl
  have e2:=e2 c;rw [hto] at e2;rw [e2];have hmost:=hmost c5;refine loop_i (fun j st=>∃ e:Nat,st=bs1St PC ND D K sz ot ⟨sk,sn,ss⟩ ⟨kind,at',lo,hi,most,names,es⟩ (cutM (1 + e * z)) e/\e<=sn.toNat/\j=sn.toNat - e) sn.toNat (bs1St PC ND D K sz ot ⟨sk,sn,ss⟩ ⟨kind,at',lo,hi,most,names,es⟩ 1 0) (weak_b 2 rfl wA rfl rfl rfl wB) ⟨0,by rw [Nat.zero_mul];rfl,by omega,by omega⟩ ?_;rintro j st ⟨e,rfl,he,rfl⟩;refine br (fun hL=>?_) (fun hL=>?_)
  ·have hlt:e < sn.toNat:=by
    have:(e:Int) < sn:=by simpa using hL
    omega
   have hc:=cutM_le (1 + e * z);have hw:=wrapN (a:=cutM (1 + e * z)) (b:=z) (by omega) (by omega);have hnx:cutM (cutM (1 + e * z) + z)=cutM (1 + (e + 1) * z):=by rw [cutM_l,Nat.add_mul,Nat.one_mul,Nat.add_assoc]
   refine drawG_i (fun _=>false) mo (by decide +kernel) ?_;refine ⟨_,⟨by omega,dEds_get hx0⟩,?_⟩;refine ⟨_,⟨by rw [ht];exact Int.natCast_nonneg _,by rw [ht];exact dInts_get hzz⟩,?_⟩;refine callD_p en126 (scut_spec (cutM (1 + e * z) + z)) (by repeat' (first | exact rfl | exact trivial | exact Or.inr (Or.inl ⟨_,rfl⟩) | exact Or.inr ⟨_,rfl⟩ | exact Or.inl ⟨rfl,rfl⟩ | exact Or.inl rfl | refine Or.inr ⟨_,_,rfl,Nat.zero_le _,rfl,?_⟩ | refine ⟨_,_,rfl,?_,?_⟩ | refine ⟨_,rfl,?_⟩ | exact congrArg (fun z=>DV.v (.int .i64 z)) hw| refine Or.inr (Or.inr (Or.inr ⟨_,_,rfl,?_⟩)) | exact Or.inl rfl | refine Or.inr ?_)) rfl ?_;exact ⟨bs1St PC ND D K sz ot ⟨sk,sn,ss⟩ ⟨kind,at',lo,hi,most,names,es⟩ (cutM (1 + (e + 1) * z)) (e + 1),(weak_b 2 rfl (by repeat' (first | exact rfl | exact we_rfl rfl | exact we_int (nxt hlt (by omega)) | exact we_int (congrArg Nat.cast hnx) | refine ⟨_,_,rfl,?_,?_⟩)) rfl rfl rfl (by repeat' (first | exact trivial | exact we_rfl rfl | exact we_int (nxt hlt (by omega)) | exact we_int (congrArg Nat.cast hnx) | refine ⟨⟨_,rfl,?_⟩,?_⟩))),sn.toNat - (e + 1),by omega,e + 1,rfl,by omega,rfl⟩
  ·have hge:e=sn.toNat:=by
    have:¬ (e:Int) < sn:=by simpa using hL
    omega
   subst hge;exact (rfl:_=_)
 have c:¬ sk=2:=by simpa using c
 refine br (fun c1=>?_) (fun c1=>?_)
 ·have c1:sk=1:=by simpa using c1
  obtain ⟨c7,_⟩:=hk1 c1;rw [e1 c1];refine loop_i (fun j st=>∃ e:Nat,st=bs2St PC ND D K sz ot ⟨sk,sn,ss⟩ ⟨kind,at',lo,hi,most,names,es⟩ k (cutM (1 + sumE sz k (es.take e) 0)) e/\e<=es.length/\j=es.length - e) es.length (bs2St PC ND D K sz ot ⟨sk,sn,ss⟩ ⟨kind,at',lo,hi,most,names,es⟩ k 1 0) (weak_b 2 rfl wA rfl rfl rfl wB) ⟨0,rfl,by omega,by omega⟩ ?_;rintro j st ⟨e,rfl,he,rfl⟩;refine br (fun hL=>?_) (fun hL=>?_)
  ·have hlt:e < es.length:=by simpa [hdl] using hL
   obtain ⟨x,hx⟩:∃ x,es[e]? = some x:=⟨_,gE hlt⟩;have hnx:=sumE_take (sz:=sz) (k:=k) hx
   have hxb:x.bare=false:=by
    cases hb:x.bare with
    | false=>rfl
    | true=>have:=hbare x (mG hx) hb;omega
   obtain ⟨t,ht,htl⟩:=(hedge x (mG hx)).to1 hxb;obtain ⟨z,hzz⟩:∃ z,sz[t]? = some z:=⟨_,gE (by omega)⟩;have hzl:=hz z (mG hzz);have hed:edN sz x=z:=by unfold edN;rw [ht,Int.toNat_natCast,List.getD_eq_getElem?_getD,hzz];all_goals rfl
   have hc:=cutM_le (1 + sumE sz k (es.take e) 0);have hw:=wrapN (a:=cutM (1 + sumE sz k (es.take e) 0)) (b:=z) (by omega) (by omega);refine ⟨_,⟨by omega,dEds_get hx⟩,?_⟩;refine br (fun g=>?_) (fun g=>?_)
   ·have g:¬ e=k:=by
     intro hek;rw [hek] at g;simp at g
    have hnx2:cutM (cutM (1 + sumE sz k (es.take e) 0) + z)=cutM (1 + sumE sz k (es.take (e + 1)) 0):=by rw [cutM_l,hnx,if_neg g,hed,Nat.add_assoc]
    refine drawG_i (fun _=>false) mo (by decide +kernel) ?_;refine ⟨_,⟨by rw [ht];exact Int.natCast_nonneg _,by rw [ht];exact dInts_get hzz⟩,?_⟩;refine callD_p en126 (scut_spec (cutM (1 + sumE sz k (es.take e) 0) + z)) (by repeat' (first | exact rfl | exact trivial | exact Or.inr (Or.inl ⟨_,rfl⟩) | exact Or.inr ⟨_,rfl⟩ | exact Or.inl ⟨rfl,rfl⟩ | exact Or.inl rfl | refine Or.inr ⟨_,_,rfl,Nat.zero_le _,rfl,?_⟩ | refine ⟨_,_,rfl,?_,?_⟩ | refine ⟨_,rfl,?_⟩ | exact congrArg (fun z=>DV.v (.int .i64 z)) hw| refine Or.inr (Or.inr (Or.inr ⟨_,_,rfl,?_⟩)) | exact Or.inl rfl | refine Or.inr ?_)) rfl ?_;exact ⟨bs2St PC ND D K sz ot ⟨sk,sn,ss⟩ ⟨kind,at',lo,hi,most,names,es⟩ k (cutM (1 + sumE sz k (es.take (e + 1)) 0)) (e + 1),(weak_b 2 rfl (by repeat' (first | exact rfl | exact we_rfl rfl | exact we_int (nxt hlt (by omega)) | exact we_int (congrArg Nat.cast hnx2) | refine ⟨_,_,rfl,?_,?_⟩)) rfl rfl rfl (by repeat' (first | exact trivial | exact we_rfl rfl | exact we_int (nxt hlt (by omega)) | exact we_int (congrArg Nat.cast hnx2) | refine ⟨⟨_,rfl,?_⟩,?_⟩))),es.length - (e + 1),by omega,e + 1,rfl,by omega,rfl⟩
   ·have g:e=k:=by
     have:(e:Int)=k:=by simpa using g
     omega
    have hnx2:1 + sumE sz k (es.take e) 0=1 + sumE sz k (es.take (e + 1)) 0:=by rw [hnx,if_pos g,Nat.add_zero]
    exact ⟨bs2St PC ND D K sz ot ⟨sk,sn,ss⟩ ⟨kind,at',lo,hi,most,names,es⟩ k (cutM (1 + sumE sz k (es.take (e + 1)) 0)) (e + 1),(weak_b 2 rfl (by repeat' (first | exact rfl | exact we_rfl rfl | exact we_int (nxt hlt (by omega)) | exact we_int (congrArg (fun n:Nat=>((cutM n:Nat):Int)) hnx2) | refine ⟨_,_,rfl,?_,?_⟩)) rfl rfl rfl (by repeat' (first | exact trivial | exact we_rfl rfl | exact we_int (nxt hlt (by omega)) | exact we_int (congrArg (fun n:Nat=>((cutM n:Nat):Int)) hnx2) | refine ⟨⟨_,rfl,?_⟩,?_⟩))),es.length - (e + 1),by omega,e + 1,rfl,by omega,rfl⟩
  ·have hge:e=es.length:=by have:=hL;simp [hdl] at this;omega
   subst hge;rw [List.take_length];exact (rfl:_=_)
 ·have c1:¬ sk=1:=by simpa using c1
  rw [e0 c c1];exact (rfl:_=_)
end
end Go.Proofs.YtadhpeooehkklaaGreat
set_option maxRecDepth 100000
namespace Go.Proofs.YtadhpeooehkklaaGreat
open Go Go.RowKit Dv Tryz
end Go.Proofs.YtadhpeooehkklaaGreat
set_option maxRecDepth 100000
namespace Go.Proofs.YtadhpeooehkklaaGreat
open Go Go.RowKit Dv Tryz
theorem dInts_snoc (L:List Nat) (e:Nat):dInts L ++ [[DV.v (.int .i64 (e:Nat))]]=dInts (L ++ [e]):=by simp [dInts]
abbrev plI (l:List Pl):List Nat:=l.map Pl.i
abbrev plK (l:List Pl):List Nat:=l.map Pl.k
theorem plI_take {l:List Pl} {e:Nat} {q:Pl} (h:l[e]? = some q):dInts (plI (l.take e)) ++ [[DV.v (.int .i64 (q.i:Nat))]]=dInts (plI (l.take (e + 1))):=by
 rw [take_snoc h,plI,plI,List.map_append,dInts_snoc];all_goals rfl
theorem plK_take {l:List Pl} {e:Nat} {q:Pl} (h:l[e]? = some q):dInts (plK (l.take e)) ++ [[DV.v (.int .i64 (q.k:Nat))]]=dInts (plK (l.take (e + 1))):=by
 rw [take_snoc h,plK,plK,List.map_append,dInts_snoc];all_goals rfl
section
variable (PC:List DV) (p:List Stp) (l:List Pl)
abbrev splSt (e n m:Nat):St:=
 ⟨[(0,⟨[],.pt PC 0⟩),(1,⟨[],.sl 3 (dStps p) none⟩),(4,⟨[],.sl 1 (dInts (plI (l.take e))) (some 0)⟩),(5,⟨[],.sl 1 (dInts (plK (l.take e))) (some 1)⟩),(14,⟨[],.sl 3 (dStps p) none⟩),(15,⟨[],.v (.int .i64 (dStps p).length)⟩),(16,⟨[],.v (.int .i64 e)⟩)],[],[⟨n,3,1,none⟩,⟨m,3,1,none⟩]⟩
abbrev spl2St (q:Pl) (e c:Nat):St:=
 ⟨[(0,⟨[],.pt PC 0⟩),(1,⟨[],.sl 3 (dStps p) none⟩),(4,⟨[],.sl 1 (dInts (plI (l.take e))) (some 0)⟩),(5,⟨[],.sl 1 (dInts (plK (l.take e))) (some 1)⟩),(7,⟨[],.loc 0 0⟩),(8,⟨[],.v (.int .i64 q.i)⟩),(11,⟨[],.loc 1 0⟩),(13,⟨[],.v (.int .i64 c)⟩),(14,⟨[],.sl 3 (dStps p) none⟩),(15,⟨[],.v (.int .i64 (dStps p).length)⟩),(16,⟨[],.v (.int .i64 e)⟩)],[dStp q.s,dNd q.d],[⟨e,3,1,none⟩,⟨e,3,1,none⟩]⟩
end
theorem splaces_spec {S:Sch} {ND:List Nd} {PC:List DV} (hP:PlanR S ND PC) (hsz:∀ n∈ND,n.edges.length<=1099511627776) (p:List Stp) (hp:p.length<=1099511627776) (hs:∀ s∈p,s.s.size<=4611686018427387904) (rt:Nat) (hrt:resRoot S=rt) (hrl:rt < ND.length)
  {r:Nat × Nat} (hr:walkV ND (leqS S) S.levels.length p rt (botF (leqS S) S.levels.length)=some r) :
  EvP Tryz.prog 125 [.pt PC 0,.sl 3 (dStps p) none] (.tup [.sl 1 (dInts (plI (stpsV ND p rt))) none,.sl 1 (dInts (plK (stpsV ND p rt))) none]):=by
 have hw:=fun q hq hq'=>ewalk_spec hP q hq hq' rt hrt hrl;have hdp:=dStps_len p;obtain ⟨hll,hat⟩:=plc_walk p rt _ hr;generalize stpsV ND p rt=l at hll hat ⊢;generalize botF (leqS S) S.levels.length=bt at hat hw;refine ev_go (P:=Tryz.prog) tt tt_ok 5000 66 [.tmp 4,.tmp 5] Tryz.func125 rfl Tryz.ntmps125 rfl (nL rfl) (fun E9 w9 hn9 hm9=>?_);refine loop_i (fun j st=>∃ e:Nat,st=splSt PC p l e e e/\e<=p.length/\j=p.length - e) p.length (splSt PC p l 0 0 0) (weak_b2 0 ⟨0,3,1,none⟩ ⟨0,3,1,none⟩ rfl rfl rfl rfl (by repeat' (first | exact rfl | exact we_rfl rfl | exact we_tok (Nat.le_refl _) rfl | exact we_tok (Nat.le_succ _) rfl | refine ⟨_,_,rfl,?_,?_⟩)) rfl rfl (by repeat' (first | exact trivial | exact we_rfl rfl | exact we_tok (Nat.le_refl _) rfl | exact we_tok (Nat.le_succ _) rfl | refine ⟨⟨_,rfl,?_⟩,?_⟩))) ⟨0,rfl,by omega,by omega⟩ ?_;rintro j st ⟨e,rfl,he,rfl⟩;refine br (fun hL=>?_) (fun hL=>?_)
 ·have hlt:e < p.length:=by simpa [hdp] using hL
  obtain ⟨s,hs'⟩:∃ s,p[e]? = some s:=⟨_,gE hlt⟩;obtain ⟨q,b,hq,hqs,hok,hwq⟩:=hat e s hs';have hk1:=hw (p.take e) (by rw [List.length_take];omega) (fun x hx=>hs x (List.mem_of_mem_take hx));rw [hwq] at hk1;have hk1:EvP Tryz.prog 76 [.pt PC 0,.sl 3 (dStps (p.take e)) none] (.tup [.v (.int .i64 (q.i:Nat)),.v (.int .i64 (b:Nat)),.v (.bool true)]):=hk1
  have ht1:DV.sl 3 (((dStps p).take ((e:Nat):Int).toNat).drop (0:Int).toNat) none = .sl 3 (dStps (p.take e)) none:=by
   rw [Int.toNat_natCast];show DV.sl 3 ((dStps p).take e) none=_;unfold dStps;rw [List.map_take]
  have hN:=hP.ok _ (mG hok.node);have hds:=hsz _ (mG hok.node);have hnode:=hP.node _ _ hok.node;have hpe:=pl_edge hN hok
  have hkl:q.k < q.d.edges.length:=by
   obtain ⟨x,hx,_⟩:=edgeI_some hok.edge;exact (gS hx).1
  have hI:=plI_take hq;have hK:=plK_take hq;have hnl:(dInts (plI (l.take e))).length=e:=by rw [dInts_len,List.length_map,List.length_take];omega
  have hml:(dInts (plK (l.take e))).length=e:=by rw [dInts_len,List.length_map,List.length_take];omega
  have hnx:=nxt hlt (show p.length<=4611686018427387904 by omega);subst hqs;obtain ⟨i,d,k,s⟩:=q;obtain ⟨kind,at',lo,hi,most,names,es⟩:=d;obtain ⟨sk,sn,ss⟩:=s;simp only at hpe hkl hk1 hnode hds hs' hI hK;have hdl:=dEds_len es;refine ⟨_,⟨by omega,dStps_get hs'⟩,?_⟩;refine ⟨⟨by omega,by omega,by omega⟩,?_⟩;refine call_p en76 (hk1) (by repeat' (first | exact rfl | exact trivial | exact Or.inr (Or.inl ⟨_,rfl⟩) | exact Or.inr ⟨_,rfl⟩ | exact Or.inl ⟨rfl,rfl⟩ | exact Or.inl rfl | refine Or.inr ⟨_,_,rfl,Nat.zero_le _,rfl,?_⟩ | refine ⟨_,_,rfl,?_,?_⟩ | refine ⟨_,rfl,?_⟩ | exact Or.inr (Or.inl ⟨_,ht1⟩)| refine Or.inr (Or.inr (Or.inr ⟨_,_,rfl,?_⟩)) | exact Or.inl rfl | refine Or.inr ?_)) rfl ?_;refine call_p en44 (hnode) ax rfl ?_;refine br (fun c=>?_) (fun c=>?_)
  ·have c:sk=1∨sk=5:=by simpa [pickB_or] using c
   rw [if_pos c] at hpe;obtain ⟨_,hpk,hpb⟩:=firstN_spec hpe;refine loop_i (fun j st=>∃ c:Nat,st=spl2St PC p l ⟨i,⟨kind,at',lo,hi,most,names,es⟩,k,⟨sk,sn,ss⟩⟩ e c/\c<=k/\j=k - c) k (spl2St PC p l ⟨i,⟨kind,at',lo,hi,most,names,es⟩,k,⟨sk,sn,ss⟩⟩ e 0) (weak_b 2 rfl wA rfl rfl rfl wB) ⟨0,rfl,by omega,by omega⟩ ?_;rintro j st ⟨c,rfl,hc,rfl⟩;obtain ⟨x,hx⟩:∃ x,es[c]? = some x:=⟨_,gE (by omega)⟩;have hP2:nameP es ss c=decide (x.name=ss):=by unfold nameP;rw [hx]
   refine drawG_i (fun _=>false) mo (by decide +kernel) ?_;refine ⟨_,⟨by omega,dEds_get hx⟩,?_⟩;refine br (fun g=>?_) (fun g=>?_)
   ·have gn:¬ x.name=ss:=by simpa using g
    have hlt2:c < k:=by
     rcases Nat.lt_or_ge c k with h | h
     ·exact h
     ·have:c=k:=by omega
      subst this;rw [hP2] at hpk;exact (gn (of_decide_eq_true hpk)).elim
    exact ⟨spl2St PC p l ⟨i,⟨kind,at',lo,hi,most,names,es⟩,k,⟨sk,sn,ss⟩⟩ e (c + 1),(weak_b 2 rfl (wNA hlt2) rfl rfl rfl (wNB hlt2)),k - (c + 1),by omega,c + 1,rfl,by omega,rfl⟩
   ·have gn:x.name=ss:=by simpa using g
    have hck:c=k:=by
     rcases Nat.lt_or_ge c k with h | h
     ·have:=hpb c h;rw [hP2] at this;exact (of_decide_eq_false this gn).elim
     ·omega
    subst hck;refine ⟨hnl,⟨by rw [hnl];simp [maxLen];omega,by rw [hnl];simp;omega⟩,?_⟩;refine ⟨hml,⟨by rw [hml];simp [maxLen];omega,by rw [hml];simp;omega⟩,?_⟩;exact ⟨splSt PC p l (e + 1) (e + 1) (e + 1),(weak_b 0 rfl (by repeat' (first | exact rfl | exact we_rfl rfl | exact we_int hnx | exact we_sl hI rfl | exact we_sl hK rfl | refine ⟨_,_,rfl,?_,?_⟩)) rfl rfl rfl (by repeat' (first | exact trivial | exact we_rfl rfl | exact we_int hnx | exact we_sl hI rfl | exact we_sl hK rfl | refine ⟨⟨_,rfl,?_⟩,?_⟩))),p.length - (e + 1),by omega,e + 1,rfl,by omega,rfl⟩
  ·have c:¬ (sk=1∨sk=5):=by simpa [pickB_or] using c
   rw [if_neg c] at hpe;subst hpe;refine ⟨hnl,⟨by rw [hnl];simp [maxLen];omega,by rw [hnl];simp;omega⟩,?_⟩;refine ⟨hml,⟨by rw [hml];simp [maxLen];omega,by rw [hml];simp;omega⟩,?_⟩;exact ⟨splSt PC p l (e + 1) (e + 1) (e + 1),(weak_b 0 rfl (by repeat' (first | exact rfl | exact we_rfl rfl | exact we_int hnx | exact we_sl hI rfl | exact we_sl hK rfl | refine ⟨_,_,rfl,?_,?_⟩)) rfl rfl rfl (by repeat' (first | exact trivial | exact we_rfl rfl | exact we_int hnx | exact we_sl hI rfl | exact we_sl hK rfl | refine ⟨⟨_,rfl,?_⟩,?_⟩))),p.length - (e + 1),by omega,e + 1,rfl,by omega,rfl⟩
 ·have hge:e=p.length:=by have:=hL;simp [hdp] at this;omega
  subst hge;rw [<- hll,List.take_length];exact ⟨_,ax,rfl⟩
theorem all_false {α:Type} {f:α->Bool} {l:List α} {e:Nat} {x:α} (h:l[e]? = some x) (hf:f x=false):l.all f=false:=by
 rw [List.all_eq_false];exact ⟨x,mG h,by simp [hf]⟩
theorem othA_take {D:List Nat} {k:Nat} {es:List Ed} {e:Nat} {x:Ed} (h:es[e]? = some x):othA D k (es.take (e + 1)) 0=(othA D k (es.take e) 0 && (decide (e=k) || decide (edN D x≠0))):=by
 have hl:=(gS h).1;rw [take_snoc h,othA_snoc,List.length_take,Nat.min_eq_left (by omega),Nat.zero_add]
section
variable (PC:List DV) (ND:List Nd) (D:List Nat) (K:List Bool) (sz ot:List Nat) (p:List Stp) (l:List Pl)
abbrev alvSt (e:Nat):St:=
 ⟨[(0,⟨[],.pt (mkD PC ND D K sz ot) 0⟩),(5,⟨[],.sl 1 (dInts (plI l)) none⟩),(6,⟨[],.sl 1 (dInts (plK l)) none⟩),(20,⟨[],.sl 3 (dStps p) none⟩),(21,⟨[],.v (.int .i64 (dStps p).length)⟩),(22,⟨[],.v (.int .i64 e)⟩)],[],[]⟩
abbrev alv2St (q:Pl) (e c:Nat):St:=
 ⟨[(0,⟨[],.pt (mkD PC ND D K sz ot) 0⟩),(5,⟨[],.sl 1 (dInts (plI l)) none⟩),(6,⟨[],.sl 1 (dInts (plK l)) none⟩),(7,⟨[],.v (.int .i64 e)⟩),(8,⟨[],.loc 0 0⟩),(20,⟨[],.sl 3 (dStps p) none⟩),(21,⟨[],.v (.int .i64 (dStps p).length)⟩),(22,⟨[],.v (.int .i64 e)⟩),(40,⟨[],.sl 10 (dEds q.d.edges) none⟩),(41,⟨[],.v (.int .i64 (dEds q.d.edges).length)⟩),(42,⟨[],.v (.int .i64 c)⟩)],[dStp q.s],[]⟩
end
theorem salive_spec {S:Sch} {ND:List Nd} {PC:List DV} (D:List Nat) (K:List Bool) (sz ot:List Nat) (hP:PlanR S ND PC) (hD:D.length=ND.length) (hsz:∀ n∈ND,n.edges.length<=1099511627776) (p:List Stp) (hp:p.length<=1099511627776) (hs:∀ s∈p,s.s.size<=4611686018427387904) (rt:Nat) (hrt:resRoot S=rt) (hrl:rt < ND.length)
  {r:Nat × Nat} (hr:walkV ND (leqS S) S.levels.length p rt (botF (leqS S) S.levels.length)=some r) :
  EvP Tryz.prog 124 [.pt (mkD PC ND D K sz ot) 0,.sl 3 (dStps p) none] (.v (.bool ((stpsV ND p rt).all (aliF D)))):=by
 have hpl:=splaces_spec hP hsz p hp hs rt hrt hrl hr;have hdp:=dStps_len p;obtain ⟨hll,hat⟩:=plc_walk p rt _ hr;generalize stpsV ND p rt=l at hll hat hpl ⊢;have hilen:(dInts (plI l)).length=p.length:=by rw [dInts_len,List.length_map,hll]
 have hklen:(dInts (plK l)).length=p.length:=by rw [dInts_len,List.length_map,hll]
 refine ev_go (P:=Tryz.prog) tt tt_ok 5000 71 [.tmp 4] Tryz.func124 rfl Tryz.ntmps124 rfl (nL rfl) (fun E9 w9 hn9 hm9=>?_);refine call_p en125 (hpl) ax rfl ?_;refine loop_i (fun j st=>∃ e:Nat,st=alvSt PC ND D K sz ot p l e/\e<=p.length/\(l.take e).all (aliF D)=true/\j=p.length - e) p.length (alvSt PC ND D K sz ot p l 0) (weak_b 0 rfl wA rfl rfl rfl wB) ⟨0,rfl,by omega,rfl,by omega⟩ ?_;rintro j st ⟨e,rfl,he,hal,rfl⟩;refine br (fun hL=>?_) (fun hL=>?_)
 ·have hlt:e < p.length:=by simpa [hdp] using hL
  obtain ⟨s,hs'⟩:∃ s,p[e]? = some s:=⟨_,gE hlt⟩;obtain ⟨q,b,hq,hqs,hok,hwq⟩:=hat e s hs';have hnx:=nxt hlt (show p.length<=4611686018427387904 by omega);have hN:=hP.ok _ (mG hok.node);have hds:=hsz _ (mG hok.node);have hnode:=hok.node;have hedge:=hN.edge;have hbare:=hN.bare;have hk7:=(pl_kind hok).1;have hA:aliF D q=(decide (q.s.k≠3) && (decide (q.s.k≠1) || othA D q.k q.d.edges 0)):=rfl;have hfal:=fun h=>all_false (f:=aliF D) hq h;have htk:aliF D q=true->(l.take (e + 1)).all (aliF D)=true:=fun h=>by rw [take_snoc hq,List.all_append,hal,List.all_cons,h];all_goals rfl
  have hqi:(dInts (plI l))[e]? = some [.v (.int .i64 ((q.i:Nat):Int))]:=dInts_get (by rw [List.getElem?_map,hq];rfl);have hqk:(dInts (plK l))[e]? = some [.v (.int .i64 ((q.k:Nat):Int))]:=dInts_get (by rw [List.getElem?_map,hq];rfl);subst hqs;generalize hAg:aliF D q=A at hA hfal htk;obtain ⟨i,d,k,s⟩:=q;obtain ⟨kind,at',lo,hi,most,names,es⟩:=d;obtain ⟨sk,sn,ss⟩:=s;simp only at hA hnode hds hs' hqi hqk hedge hbare hk7;have hdl:=dEds_len es;refine ⟨_,⟨by omega,dStps_get hs'⟩,?_⟩;refine br (fun c=>?_) (fun c=>?_)
  ·have c:sk=3:=by simpa using c
   rw [hfal (by rw [hA];simp [c])];exact (rfl:_=_)
  have c3:¬ sk=3:=by simpa using c
  refine drawG_i (fun _=>false) mo (by decide +kernel) ?_;refine ⟨_,⟨by omega,hqi⟩,?_⟩;refine ⟨_,⟨by omega,dNds_get hnode⟩,?_⟩;refine loop_i (fun j st=>∃ c:Nat,st=alv2St PC ND D K sz ot p l ⟨i,⟨kind,at',lo,hi,most,names,es⟩,k,⟨sk,sn,ss⟩⟩ e c/\c<=es.length/\(sk=1->othA D k (es.take c) 0=true)/\j=es.length - c) es.length (alv2St PC ND D K sz ot p l ⟨i,⟨kind,at',lo,hi,most,names,es⟩,k,⟨sk,sn,ss⟩⟩ e 0) (weak_b 1 rfl wA rfl rfl rfl wB) ⟨0,rfl,by omega,fun _=>rfl,by omega⟩ ?_;rintro j st ⟨c,rfl,hc,hot,rfl⟩;refine br (fun hL2=>?_) (fun hL2=>?_)
  ·have hlt2:c < es.length:=by simpa [hdl] using hL2
   obtain ⟨x,hx⟩:∃ x,es[c]? = some x:=⟨_,gE hlt2⟩;have hotk:=othA_take (D:=D) (k:=k) hx;refine ⟨_,⟨by omega,dEds_get hx⟩,?_⟩;have hnext:(sk=1->(decide (c=k) || decide (edN D x≠0))=true)->(sk=1->othA D k (es.take (c + 1)) 0=true):=fun h h1=>by rw [hotk,hot h1,h h1];all_goals rfl
   have hxb:sk=1->x.bare=false:=fun h1=>by
    obtain ⟨h7,_⟩:=hk7 h1
    cases hb:x.bare with
    | false=>rfl
    | true=>have:=hbare x (mG hx) hb;omega
   refine drawG_i (fun _=>false) mo (by decide +kernel) ?_;refine br (fun c1=>?_) (fun c1=>?_)
   ·have c1:sk=1:=by simpa using c1
    obtain ⟨t,ht,htl⟩:=(hedge x (mG hx)).to1 (hxb c1);obtain ⟨z,hzz⟩:∃ z,D[t]? = some z:=⟨_,gE (by omega)⟩;have hed:edN D x=z:=by unfold edN;rw [ht,Int.toNat_natCast,List.getD_eq_getElem?_getD,hzz];all_goals rfl
    refine ⟨_,⟨by omega,hqk⟩,?_⟩;refine br (fun g=>?_) (fun g=>?_)
    ·have gn:¬ c=k:=by
      intro hck;rw [hck] at g;simp [pickB] at g
     refine ⟨_,⟨by rw [ht];exact Int.natCast_nonneg _,by rw [ht];exact dInts_get hzz⟩,?_⟩;refine br (fun g0=>?_) (fun g0=>?_)
     ·have g0:z=0:=by
       have:((z:Nat):Int)=0:=by simpa [pickB] using g0
       omega
      have hAf:A=false:=by
       rw [hA]
       cases ho:othA D k es 0 with
       | false=>simp [c1]
       | true=>exact (othA_iff.1 ho c x hx (by omega) (by rw [hed,g0])).elim
      rw [hfal hAf];exact (rfl:_=_)
     ·have g0:¬ z=0:=by
       intro hz0;rw [hz0] at g0;simp [pickB] at g0
      exact ⟨alv2St PC ND D K sz ot p l ⟨i,⟨kind,at',lo,hi,most,names,es⟩,k,⟨sk,sn,ss⟩⟩ e (c + 1),(weak_b 1 rfl (wNA hlt2) rfl rfl rfl (wNB hlt2)),es.length - (c + 1),by omega,c + 1,rfl,by omega,hnext (fun _=>by rw [hed];simp [g0]),rfl⟩
    ·have gn:c=k:=by
      have:(c:Int)=k:=by simpa [pickB] using g
      omega
     exact ⟨alv2St PC ND D K sz ot p l ⟨i,⟨kind,at',lo,hi,most,names,es⟩,k,⟨sk,sn,ss⟩⟩ e (c + 1),(weak_b 1 rfl (wNA hlt2) rfl rfl rfl (wNB hlt2)),es.length - (c + 1),by omega,c + 1,rfl,by omega,hnext (fun _=>by simp [gn]),rfl⟩
   ·have c1:¬ sk=1:=by simpa using c1
    exact ⟨alv2St PC ND D K sz ot p l ⟨i,⟨kind,at',lo,hi,most,names,es⟩,k,⟨sk,sn,ss⟩⟩ e (c + 1),(weak_b 1 rfl (wNA hlt2) rfl rfl rfl (wNB hlt2)),es.length - (c + 1),by omega,c + 1,rfl,by omega,hnext (fun h=>(c1 h).elim),rfl⟩
  ·have hge:c=es.length:=by have:=hL2;simp [hdl] at this;omega
   subst hge;rw [List.take_length] at hot
   have hAt:A=true:=by
    rw [hA];by_cases h1:sk=1
    ·simp [h1,hot h1]
    ·simp [h1,c3]
   exact ⟨alvSt PC ND D K sz ot p l (e + 1),(weak_b 0 rfl (by repeat' (first | exact rfl | exact we_rfl rfl | exact we_int hnx | refine ⟨_,_,rfl,?_,?_⟩)) rfl rfl rfl (by repeat' (first | exact trivial | exact we_rfl rfl | exact we_int hnx | refine ⟨⟨_,rfl,?_⟩,?_⟩))),p.length - (e + 1),by omega,e + 1,rfl,by omega,htk hAt,rfl⟩
 ·have hge:e=p.length:=by have:=hL;simp [hdp] at this;omega
  subst hge;rw [<- hll,List.take_length] at hal;rw [hal];exact (rfl:_=_)
theorem dVals_one {l:List Val} {e:Nat} {v:Val} (h:l[e]? = some v):dVals (l.take e) ++ [dVal v]=dVals (l.take (e + 1)):=by
 rw [take_snoc h,dVals_map,dVals_map,List.map_append];all_goals rfl
section
variable (PC:List DV) (ND:List Nd) (D:List Nat) (K:List Bool) (sz ot:List Nat) {L:Nat}
abbrev oVal (k:Int) (l:List Val):List DV:=[.v (.int .i64 k),.v (.int .i64 0),.v (.string .empty),.sl 4 (dVals l) (some 0)]
abbrev ar1St (s:Stp) (d:Nd) (x:Val) (l:List Val) (n e:Nat):St:=
 ⟨[(0,⟨[],.pt (mkD PC ND D K sz ot) 0⟩),(9,⟨[],.loc 1 0⟩),(10,⟨[],.loc 2 0⟩),(11,⟨[],.loc 3 0⟩),(12,⟨[],.loc 4 0⟩),(30,⟨[],.v (.int .i64 s.n)⟩),(31,⟨[],.v (.int .i64 e)⟩)],[dStp s,dVal x,zVal,dNd d,oVal d.kind l],[⟨n,34,4,none⟩]⟩
abbrev ar2St (s:Stp) (d:Nd) (k:Nat) (x:Val) (l:List Val) (n e:Nat):St:=
 ⟨[(0,⟨[],.pt (mkD PC ND D K sz ot) 0⟩),(2,⟨[],.v (.int .i64 k)⟩),(9,⟨[],.loc 1 0⟩),(10,⟨[],.loc 2 0⟩),(12,⟨[],.loc 4 0⟩),(49,⟨[],.sl 10 (dEds d.edges) none⟩),(50,⟨[],.v (.int .i64 (dEds d.edges).length)⟩),(51,⟨[],.v (.int .i64 e)⟩)],[dStp s,dVal x,zVal,dNd d,oVal d.kind l],[⟨n,34,4,none⟩]⟩
end
theorem saround_spec {S:Sch} {ND:List Nd} {PC:List DV} (hP:PlanR S ND PC) (K:List Bool) (sz ot:List Nat) {q:Pl} (hq:PlOK ND q) (hal:aliF (depT ND) q=true) (hD:∃ x,q.d.edges[q.k]? = some x/\edN (depT ND) x≠0) (x:Val) :
  EvP Tryz.prog 128 [.pt (mkD PC ND (depT ND) K sz ot) 0,.v (.int .i64 q.i),.v (.int .i64 q.k),.agg (dStp q.s),.agg (dVal x)] (.agg (dVal (arnV (fstV ND (depT ND)) q x))):=by
 have hN:=hP.ok _ (mG hq.node);have hel:=hP.esz _ (mG hq.node);obtain ⟨k1,k5,k2,k3,k4,hk5⟩:=pl_kind hq;have hone:=fun (j:Nat) h=>sone_spec hP sz ot K (j:=j) h
 have hpos:∀ {e:Ed},edN (depT ND) e≠0->(fszT ND).getD e.to.toNat 0≠0:=fun {e} h=>by
  have:=(szT_pos (depOK ND) (i:=e.to.toNat)).1.2 (Nat.pos_of_ne_zero h);exact Nat.ne_of_gt this
 obtain ⟨y,hy,hyD⟩:=hD;have h1x:=fun c=>pl_one hP.ok hq hy c
 have hR:arnV (fstV ND (depT ND)) q x=if q.s.k=2 then .mk q.d.kind 0 emptyB (List.replicate q.s.n.toNat (fstV ND (depT ND) (to0 q.d).toNat) ++ [x])
  else if q.s.k=1 then .mk q.d.kind 0 emptyB ((q.d.edges.map fun e=>fstV ND (depT ND) e.to.toNat).set q.k x)
  else .mk q.d.kind (if q.s.k=5 then q.k else 0) emptyB [x]:=rfl
 unfold aliF at hal;simp only [Bool.and_eq_true,decide_eq_true_eq] at hal;have hnode:=hq.node;have hedge:=hN.edge;have hbare:=hN.bare;have hmost:=hN.most5;generalize arnV (fstV ND (depT ND)) q x=R at hR ⊢;generalize fstV ND (depT ND)=F at hR hone;obtain ⟨i,d,k,s⟩:=q;obtain ⟨kind,at',lo,hi,most,names,es⟩:=d;obtain ⟨sk,sn,ss⟩:=s;obtain ⟨xk,xn,xs,xl⟩:=x;simp only at *;have hdl:=dEds_len es;refine ev_go (P:=Tryz.prog) tt tt_ok 5000 87 [.cell 10 34] Tryz.func128 rfl Tryz.ntmps128 rfl (nL rfl) (fun E9 w9 hn9 hm9=>?_);refine ⟨_,⟨by omega,dNds_get hnode⟩,?_⟩;refine br (fun c=>?_) (fun c=>?_)
 ·have c:sk=2:=by simpa using c
  obtain ⟨c5,hn0,hn1⟩:=k2 c;obtain ⟨hes,hk0,ht0⟩:=h1x (.inl c5);have hx0:es[0]? = some y:=by rw [hes];all_goals rfl
  rw [if_pos c,ht0] at hR;have hmost:=hmost c5
  have hyb:y.bare=false:=by
   cases hb:y.bare with
   | false=>rfl
   | true=>have:=hbare y (mG hx0) hb;omega
  obtain ⟨t,ht,htl⟩:=(hedge y (mG hx0)).to1 hyb;have hone:=hone y.to.toNat (hpos hyD);have htt:((y.to.toNat:Nat):Int)=y.to:=by rw [ht,Int.toNat_natCast]
  rw [htt] at hone;generalize F y.to.toNat=u at hone hR;obtain ⟨uk,un,us,ul⟩:=u;obtain ⟨en,eb,ea,et,elb,ew,eck,ecn,ese,eca⟩:=y;simp only at hone;refine loop_i (fun j st=>∃ e:Nat,st=ar1St PC ND (depT ND) K sz ot ⟨sk,sn,ss⟩ ⟨kind,at',lo,hi,most,names,es⟩ (.mk xk xn xs xl) (List.replicate e (.mk uk un us ul)) e e/\e<=sn.toNat/\j=sn.toNat - e) sn.toNat (ar1St PC ND (depT ND) K sz ot ⟨sk,sn,ss⟩ ⟨kind,at',lo,hi,most,names,es⟩ (.mk xk xn xs xl) [] 0 0) (weak_bt 5 ⟨0,34,4,none⟩ rfl rfl rfl (by repeat' (first | exact rfl | exact we_rfl rfl | exact we_tok (Nat.le_refl _) rfl | exact we_tok (Nat.le_refl _) rfl | refine ⟨_,_,rfl,?_,?_⟩)) rfl rfl wTB) ⟨0,rfl,by omega,by omega⟩ ?_;rintro j st ⟨e,rfl,he,rfl⟩;have hln:(dVals (List.replicate e (.mk uk un us ul))).length=e:=by rw [dVals_len,List.length_replicate]
  refine br (fun hL=>?_) (fun hL=>?_)
  ·have hlt:e < sn.toNat:=by
    have:(e:Int) < sn:=by simpa using hL
    omega
   have hsn:dVals (List.replicate e (.mk uk un us ul)) ++ [dVal (.mk uk un us ul)]=dVals (List.replicate (e + 1) (.mk uk un us ul)):=by
    rw [List.replicate_succ',dVals_map,dVals_map,List.map_append];all_goals rfl
   refine drawG_s mo (by decide +kernel) ?_;refine ⟨_,⟨by omega,dEds_get hx0⟩,?_⟩;refine callD_p en78 (hone) ax rfl ?_;refine ⟨hln,⟨by rw [hln];simp [maxLen];omega,by rw [hln];simp;omega⟩,?_⟩;exact ⟨ar1St PC ND (depT ND) K sz ot ⟨sk,sn,ss⟩ ⟨kind,at',lo,hi,most,names,es⟩ (.mk xk xn xs xl) (List.replicate (e + 1) (.mk uk un us ul)) (e + 1) (e + 1),(weak_b 5 rfl (wSA hlt hsn) rfl rfl rfl (wSB hlt hsn)),sn.toNat - (e + 1),by omega,e + 1,rfl,by omega,rfl⟩
  ·have hge:e=sn.toNat:=by
    have:¬ (e:Int) < sn:=by simpa using hL
    omega
   subst hge;refine ⟨hln,⟨by rw [hln];simp [maxLen];omega,by rw [hln];simp;omega⟩,?_⟩
   have hsn:dVals (List.replicate sn.toNat (.mk uk un us ul)) ++ [dVal (.mk xk xn xs xl)]=dVals (List.replicate sn.toNat (.mk uk un us ul) ++ [.mk xk xn xs xl]):=by
    rw [dVals_map,dVals_map,List.map_append];all_goals rfl
   have hE:DV.sl 4 (dVals (List.replicate sn.toNat (.mk uk un us ul)) ++ [dVal (.mk xk xn xs xl)]) (some 0) = .sl 4 (dVals (List.replicate sn.toNat (.mk uk un us ul) ++ [.mk xk xn xs xl])) (some 0):=by rw [hsn]
   rw [hR];exact ⟨_,(by repeat' (first | exact rfl | exact trivial | exact Or.inr (Or.inl ⟨_,rfl⟩) | exact Or.inr ⟨_,rfl⟩ | exact Or.inl ⟨rfl,rfl⟩ | exact Or.inl rfl | refine Or.inr ⟨_,_,rfl,Nat.zero_le _,rfl,?_⟩ | refine ⟨_,_,rfl,?_,?_⟩ | refine ⟨_,rfl,?_⟩ | exact Or.inr (Or.inl ⟨_,hE⟩) | refine Or.inr (Or.inr (Or.inr ⟨_,_,rfl,?_⟩)) | exact Or.inl rfl | refine Or.inr ?_)),rfl⟩
 have c:¬ sk=2:=by simpa using c
 rw [if_neg c] at hR;refine br (fun c1=>?_) (fun c1=>?_)
 ·have c1:sk=1:=by simpa using c1
  obtain ⟨c7,_⟩:=k1 c1;have hot:=hal.2;simp [c1] at hot;have hot:=othA_iff.1 hot;rw [if_pos c1] at hR;have hkl:=(gS hy).1;obtain ⟨W,hW⟩:∃ W,W=(es.map fun e=>F e.to.toNat).set k (.mk xk xn xs xl):=⟨_,rfl⟩;rw [<- hW] at hR;have hWl:W.length=es.length:=by rw [hW,List.length_set,List.length_map]
  have hWk:W[k]? = some (.mk xk xn xs xl):=by rw [hW];exact List.getElem?_set_self (by simpa using hkl)
  have hWo:∀ (j:Nat) z,j≠k->es[j]? = some z->W[j]? = some (F z.to.toNat):=fun j z hj hz=>by
   rw [hW,List.getElem?_set_ne (Ne.symm hj),List.getElem?_map,hz];all_goals rfl
  clear hW;refine loop_i (fun j st=>∃ e:Nat,st=ar2St PC ND (depT ND) K sz ot ⟨sk,sn,ss⟩ ⟨kind,at',lo,hi,most,names,es⟩ k (.mk xk xn xs xl) (W.take e) e e/\e<=es.length/\j=es.length - e) es.length (ar2St PC ND (depT ND) K sz ot ⟨sk,sn,ss⟩ ⟨kind,at',lo,hi,most,names,es⟩ k (.mk xk xn xs xl) [] 0 0) (weak_bt 5 ⟨0,34,4,none⟩ rfl rfl rfl (by repeat' (first | exact rfl | exact we_rfl rfl | exact we_tok (Nat.le_refl _) rfl | exact we_tok (Nat.le_refl _) rfl | refine ⟨_,_,rfl,?_,?_⟩)) rfl rfl wTB) ⟨0,rfl,by omega,by omega⟩ ?_;rintro j st ⟨e,rfl,he,rfl⟩;refine br (fun hL=>?_) (fun hL=>?_)
  ·have hlt:e < es.length:=by simpa [hdl] using hL
   have hln:(dVals (W.take e)).length=e:=by rw [dVals_len,List.length_take];omega
   obtain ⟨z,hz⟩:∃ z,es[e]? = some z:=⟨_,gE hlt⟩;refine ⟨_,⟨by omega,dEds_get hz⟩,?_⟩;refine br (fun g=>?_) (fun g=>?_)
   ·have gn:¬ e=k:=by
     intro hek;rw [hek] at g;simp at g
    have hzb:z.bare=false:=by
     cases hb:z.bare with
     | false=>rfl
     | true=>have:=hbare z (mG hz) hb;omega
    obtain ⟨t,ht,htl⟩:=(hedge z (mG hz)).to1 hzb;have hone:=hone z.to.toNat (hpos (hot e z hz (by omega)));have htt:((z.to.toNat:Nat):Int)=z.to:=by rw [ht,Int.toNat_natCast]
    rw [htt] at hone;have hsn:=dVals_one (hWo e z gn hz);generalize F z.to.toNat=u at hone hsn;obtain ⟨uk,un,us,ul⟩:=u;obtain ⟨en,eb,ea,et,elb,ew,eck,ecn,ese,eca⟩:=z;simp only at hone;refine drawG_s mo (by decide +kernel) ?_;refine callD_p en78 (hone) ax rfl ?_;refine ⟨hln,⟨by rw [hln];simp [maxLen];omega,by rw [hln];simp;omega⟩,?_⟩;exact ⟨ar2St PC ND (depT ND) K sz ot ⟨sk,sn,ss⟩ ⟨kind,at',lo,hi,most,names,es⟩ k (.mk xk xn xs xl) (W.take (e + 1)) (e + 1) (e + 1),(weak_b 5 rfl (wSA hlt hsn) rfl rfl rfl (wSB hlt hsn)),es.length - (e + 1),by omega,e + 1,rfl,by omega,rfl⟩
   ·have gn:e=k:=by
     have:(e:Int)=k:=by simpa using g
     omega
    have hsn:=dVals_one (l:=W) (e:=e) (by rw [gn];exact hWk);refine ⟨hln,⟨by rw [hln];simp [maxLen];omega,by rw [hln];simp;omega⟩,?_⟩;exact ⟨ar2St PC ND (depT ND) K sz ot ⟨sk,sn,ss⟩ ⟨kind,at',lo,hi,most,names,es⟩ k (.mk xk xn xs xl) (W.take (e + 1)) (e + 1) (e + 1),(weak_b 5 rfl (wSA hlt hsn) rfl rfl rfl (wSB hlt hsn)),es.length - (e + 1),by omega,e + 1,rfl,by omega,rfl⟩
  ·have hge:e=es.length:=by have:=hL;simp [hdl] at this;omega
   subst hge;rw [<- hWl,List.take_length,hR];exact ⟨_,ax,rfl⟩
 have c1:¬ sk=1:=by simpa using c1
 rw [if_neg c1] at hR;have c3:=hal.1;refine br (fun c5=>?_) (fun c5=>?_)
 ·have c5:sk=5:=by simpa using c5
  rw [if_pos c5] at hR;refine ⟨⟨by simp [maxLen],by simp⟩,?_⟩;rw [hR];exact ⟨_,ax,rfl⟩
 ·have c5:¬ sk=5:=by simpa using c5
  rw [if_neg c5] at hR;refine ⟨⟨by simp [maxLen],by simp⟩,?_⟩;rw [hR];exact ⟨_,ax,rfl⟩
def filD:Option Val->DV
 | some v=>.tup [.agg (dVal v),.v (.bool true)]
 | none=>.tup [.agg (dVal zeroV),.v (.bool false)]
theorem totF_take {sz:List Nat} {l:List Pl} {e:Nat} {q:Pl} (h:l[e]? = some q):totF sz (l.take (e + 1))=totF sz (l.take e) + exF sz q:=by
 rw [take_snoc h,totF_snoc]
section
variable (PC:List DV) (ND:List Nd) (D:List Nat) (K:List Bool) (sz ot:List Nat) (p:List Stp) (l:List Pl)
abbrev al1St (x:Val) (j m e:Nat):St:=
 ⟨[(0,⟨[],.pt (mkD PC ND D K sz ot) 0⟩),(1,⟨[],.sl 3 (dStps p) none⟩),(5,⟨[],.loc 0 0⟩),(6,⟨[],.loc 1 0⟩),(8,⟨[],.v (.int .i64 j)⟩),(11,⟨[],.sl 1 (dInts (plI l)) none⟩),(12,⟨[],.sl 1 (dInts (plK l)) none⟩),(13,⟨[],.v (.int .i64 m)⟩),(58,⟨[],.sl 3 (dStps p) none⟩),(59,⟨[],.v (.int .i64 (dStps p).length)⟩),(60,⟨[],.v (.int .i64 e)⟩)],[dVal x,zVal],[]⟩
abbrev al2St (x:Val) (j:Int):St:=
 ⟨[(0,⟨[],.pt (mkD PC ND D K sz ot) 0⟩),(1,⟨[],.sl 3 (dStps p) none⟩),(5,⟨[],.loc 0 0⟩),(6,⟨[],.loc 1 0⟩),(11,⟨[],.sl 1 (dInts (plI l)) none⟩),(12,⟨[],.sl 1 (dInts (plK l)) none⟩),(16,⟨[],.v (.int .i64 j)⟩)],[dVal x,zVal],[]⟩
end
set_option maxHeartbeats 4000000 in
theorem salong_spec {S:Sch} {ND:List Nd} {PC:List DV} (hP:PlanR S ND PC) (ot:List Nat) (K:List Bool) (p:List Stp) (hp:p.length<=1099511627776) (hs:∀ s∈p,s.s.size<=4611686018427387904) (rt:Nat) (hrt:resRoot S=rt) (hrl:rt < ND.length) (x:Val) (hx:x.wt<=1099511627776) :
  EvP Tryz.prog 62 [.pt (mkD PC ND (depT ND) K (fszT ND) ot) 0,.sl 3 (dStps p) none,.agg (dVal x)] (filD (fillF ND (fszT ND) (depT ND) (walkV ND (leqS S) S.levels.length p rt (botF (leqS S) S.levels.length)) (stpsV ND p rt) x)):=by
 have hw:=ewalk_spec hP p hp hs rt hrt hrl;have hdp:=dStps_len p
 have hsz:∀ z∈fszT ND,z<=4097:=fun z hz=>by
  obtain ⟨i,hi,rfl⟩:=List.getElem_of_mem hz;have:=(szT_pos (depOK ND) (i:=i)).2
  rwa [List.getD_eq_getElem?_getD,gE hi] at this
 have hszl:(fszT ND).length=ND.length:=szT_len _ _;have hDl:(depT ND).length=ND.length:=depN_len _ _;have hcw:=(cntV_wt x).1;have hcnt:=tcount_spec _ x (Nat.le_refl _) hx
 cases hW:walkV ND (leqS S) S.levels.length p rt (botF (leqS S) S.levels.length) with
 | none=>
  rw [hW] at hw;have hw:EvP Tryz.prog 76 [.pt PC 0,.sl 3 (dStps p) none] (.tup [.v (.int .i64 (-1)),.v (.int .i64 (-1)),.v (.bool false)]):=hw;obtain ⟨xk,xn,xs,xl⟩:=x;refine ev_go (P:=Tryz.prog) tt tt_ok 5000 117 [.cell 6 34,.tmp 7] Tryz.func62 rfl Tryz.ntmps62 rfl (nL rfl) (fun E9 w9 hn9 hm9=>?_);refine call_p en76 (hw) ax rfl ?_;refine drawG_i (fun _=>false) mo (by decide +kernel) ?_;exact ⟨.tup [.agg (dVal zeroV),.v (.bool false)],ax,rfl⟩
 | some jb=>
 obtain ⟨j,b⟩:=jb;rw [hW] at hw;have hw:EvP Tryz.prog 76 [.pt PC 0,.sl 3 (dStps p) none] (.tup [.v (.int .i64 (j:Nat)),.v (.int .i64 (b:Nat)),.v (.bool true)]):=hw;have hfit:=tfits_spec hP _ x (Nat.le_refl _) hx j;have hali:=salive_spec (depT ND) K (fszT ND) ot hP hDl hP.esz p hp hs rt hrt hrl hW;have hplc:=splaces_spec hP hP.esz p hp hs rt hrt hrl hW;have hget:=tget_spec hP hx j [] (by simp);have hda:=dep_along hP.ok (depOK ND) p rt _ hW;have hfd:=fit_dep hP.ok (depOK ND) x j;obtain ⟨hll,hat⟩:=plc_walk p rt _ hW;have hbe:=fun (q:Pl) (hq:PlOK ND q)=>sbeside_spec PC ND (depT ND) K (fszT ND) ot hq hszl hsz (hP.ok _ (mG hq.node)) (hP.esz _ (mG hq.node));have haro:=fun (q:Pl) (hq:PlOK ND q) h1 h2=>saround_spec hP K (fszT ND) ot hq h1 h2;have hFl:fillF ND (fszT ND) (depT ND) (some (j,b)) (stpsV ND p rt) x=if fitV ND x j=true/\(stpsV ND p rt).all (aliF (depT ND))=true/\cntV x + totF (fszT ND) (stpsV ND p rt) < 4097 then some (alnV (fstV ND (depT ND)) (stpsV ND p rt) x) else none:=rfl
 rw [hFl];clear hFl hW;generalize hLs:stpsV ND p rt=l at *;have hilen:(dInts (plI l)).length=p.length:=by rw [dInts_len,List.length_map,hll]
 have hklen:(dInts (plK l)).length=p.length:=by rw [dInts_len,List.length_map,hll]
 have hsub:∀ e:Nat,e<=p.length->IntKind.i64.wrap ((e:Int) - 1)=(e:Int) - 1:=fun e he=>wrap64 (by omega) (by omega)
 cases hf:fitV ND x j with
 | false=>
  rw [hf] at hfit;rw [if_neg (by simp)];obtain ⟨xk,xn,xs,xl⟩:=x;refine ev_go (P:=Tryz.prog) tt tt_ok 5000 117 [.cell 6 34,.tmp 7] Tryz.func62 rfl Tryz.ntmps62 rfl (nL rfl) (fun E9 w9 hn9 hm9=>?_);refine call_p en76 (hw) ax rfl ?_;refine drawG_i (fun _=>false) mo (by decide +kernel) ?_;refine callD_p en14 (hfit) ax rfl ?_;exact ⟨.tup [.agg (dVal zeroV),.v (.bool false)],ax,rfl⟩
 | true=>
 rw [hf] at hfit;rw [hf,if_pos rfl] at hget;have hget:EvP Tryz.prog 17 [.pt PC 0,.v (.int .i64 j),.agg (dVal x),.sl 3 [] none] (.tup [.agg (dVal x),.v (.int .i64 (j:Nat)),.v (.bool true)]):=hget
 cases ha:l.all (aliF (depT ND)) with
 | false=>
  rw [ha] at hali;rw [if_neg (by simp)];obtain ⟨xk,xn,xs,xl⟩:=x;refine ev_go (P:=Tryz.prog) tt tt_ok 5000 117 [.cell 6 34,.tmp 7] Tryz.func62 rfl Tryz.ntmps62 rfl (nL rfl) (fun E9 w9 hn9 hm9=>?_);refine call_p en76 (hw) ax rfl ?_;refine drawG_i (fun _=>false) mo (by decide +kernel) ?_;refine callD_p en14 (hfit) ax rfl ?_;refine callD_p en124 (hali) ax rfl ?_;exact ⟨.tup [.agg (dVal zeroV),.v (.bool false)],ax,rfl⟩
 | true=>
 rw [ha] at hali;have hdq:=(hda ha (by have:=hfd hf;simpa using this)).2
 have hstep:∀ (e:Nat) q (y:Val),l[e]? = some q->EvP Tryz.prog 128 [.pt (mkD PC ND (depT ND) K (fszT ND) ot) 0,.v (.int .i64 q.i),.v (.int .i64 q.k),.agg (dStp q.s),.agg (dVal y)] (.agg (dVal (arnV (fstV ND (depT ND)) q y))):=fun e q y hq=>by
  obtain ⟨s,hs'⟩:∃ s,p[e]? = some s:=⟨_,gE (by have:=(gS hq).1;omega)⟩;obtain ⟨q',_,hq',_,hok,_⟩:=hat e s hs';rw [hq] at hq';cases hq';have hm:=mG hq;exact haro q hok (List.all_eq_true.1 ha q hm) (hdq q hm) y
 have hcond:(True/\True/\cntV x + totF (fszT ND) l < 4097)↔cutM (cntV x + totF (fszT ND) l)≠4097:=by
  unfold cutM;simp only [true_and];omega
 have hfit2:=hfit;have hali2:=hali;clear haro hda hfd hdq hfit hali hf hcond;generalize hF:fstV ND (depT ND)=F at *;have hc3:cntV x + totF (fszT ND) l < 4097↔cutM (cntV x + totF (fszT ND) l)≠4097:=by unfold cutM;omega
 generalize hT:totF (fszT ND) l=T at *;generalize hC:cntV x=C at *;have hx0:alnV F (l.drop p.length) x=x:=by rw [<- hll,List.drop_length];all_goals rfl
 generalize hXg:x=X at *;obtain ⟨xk,xn,xs,xl⟩:=X;refine ev_go (P:=Tryz.prog) tt tt_ok 5000 117 [.cell 6 34,.tmp 7] Tryz.func62 rfl Tryz.ntmps62 rfl (nL rfl) (fun E9 w9 hn9 hm9=>?_);refine call_p en76 (hw) ax rfl ?_;refine drawG_i (fun _=>false) mo (by decide +kernel) ?_;refine callD_p en14 (hfit2) ax rfl ?_;refine callD_p en124 (hali2) ax rfl ?_;refine call_p en125 (hplc) ax rfl ?_;refine call_p en19 (hcnt) ax rfl ?_;refine call_p en126 (scut_spec C) ax rfl ?_;refine loop_i (fun i st=>∃ e:Nat,st=al1St PC ND (depT ND) K (fszT ND) ot p l (.mk xk xn xs xl) j (cutM (C + totF (fszT ND) (l.take e))) e/\e<=p.length/\i=p.length - e) p.length (al1St PC ND (depT ND) K (fszT ND) ot p l (.mk xk xn xs xl) j (cutM C) 0) (weak_b 2 rfl wA rfl rfl rfl wB) ⟨0,rfl,by omega,by omega⟩ ?_;rintro i st ⟨e,rfl,he,rfl⟩;refine br (fun hL=>?_) (fun hL=>?_)
 ·have hlt:e < p.length:=by simpa [hdp] using hL
  obtain ⟨s,hs'⟩:∃ s,p[e]? = some s:=⟨_,gE hlt⟩;obtain ⟨q,b2,hq,hqs,hok,_⟩:=hat e s hs';have hbe:=hbe q hok;have htk:=totF_take (sz:=fszT ND) hq;have hqi:(dInts (plI l))[e]? = some [.v (.int .i64 ((q.i:Nat):Int))]:=dInts_get (by rw [List.getElem?_map,hq];rfl);have hqk:(dInts (plK l))[e]? = some [.v (.int .i64 ((q.k:Nat):Int))]:=dInts_get (by rw [List.getElem?_map,hq];rfl);generalize exF (fszT ND) q=X at hbe htk;have hc1:=cutM_le (C + totF (fszT ND) (l.take e));have hc2:=cutM_le X;have hwr:=wrapN (a:=cutM (C + totF (fszT ND) (l.take e))) (b:=cutM X) (by omega) (by omega);have hnx2:cutM (cutM (C + totF (fszT ND) (l.take e)) + cutM X)=cutM (C + totF (fszT ND) (l.take (e + 1))):=by rw [htk,cutM_l,cutM_r,Nat.add_assoc]
  have hnx:=nxt hlt (show p.length<=4611686018427387904 by omega);subst hqs;obtain ⟨qi,qd,qk,qs⟩:=q;obtain ⟨sk,sn,ss⟩:=qs;simp only at hs' hqi hqk hbe;refine ⟨_,⟨by omega,dStps_get hs'⟩,?_⟩;refine drawG_i (fun _=>false) mo (by decide +kernel) ?_;refine ⟨_,⟨by omega,hqi⟩,?_⟩;refine ⟨_,⟨by omega,hqk⟩,?_⟩;refine callD_p en127 (hbe) ax rfl ?_;refine callD_p en126 (scut_spec (cutM (C + totF (fszT ND) (l.take e)) + cutM X)) (by repeat' (first | exact rfl | exact trivial | exact Or.inr (Or.inl ⟨_,rfl⟩) | exact Or.inr ⟨_,rfl⟩ | exact Or.inl ⟨rfl,rfl⟩ | exact Or.inl rfl | refine Or.inr ⟨_,_,rfl,Nat.zero_le _,rfl,?_⟩ | refine ⟨_,_,rfl,?_,?_⟩ | refine ⟨_,rfl,?_⟩ | exact congrArg (fun z=>DV.v (.int .i64 z)) hwr| refine Or.inr (Or.inr (Or.inr ⟨_,_,rfl,?_⟩)) | exact Or.inl rfl | refine Or.inr ?_)) rfl ?_;exact ⟨al1St PC ND (depT ND) K (fszT ND) ot p l (.mk xk xn xs xl) j (cutM (C + totF (fszT ND) (l.take (e + 1)))) (e + 1),(weak_b 2 rfl (by repeat' (first | exact rfl | exact we_rfl rfl | exact we_int hnx | exact we_int (congrArg Nat.cast hnx2) | refine ⟨_,_,rfl,?_,?_⟩)) rfl rfl rfl (by repeat' (first | exact trivial | exact we_rfl rfl | exact we_int hnx | exact we_int (congrArg Nat.cast hnx2) | refine ⟨⟨_,rfl,?_⟩,?_⟩))),p.length - (e + 1),by omega,e + 1,rfl,by omega,rfl⟩
 have hge:e=p.length:=by have:=hL;simp [hdp] at this;omega
 subst hge;rw [<- hll,List.take_length,hT];refine br (fun c=>?_) (fun c=>?_)
 ·have c:cutM (C + T)=4097:=by
   have:((cutM (C + T):Nat):Int)=4097:=by simpa using c
   omega
  rw [if_neg (fun h=>(hc3.1 h.2.2) c)];exact ⟨.tup [.agg (dVal zeroV),.v (.bool false)],ax,rfl⟩
 have c:cutM (C + T)≠4097:=by
  intro h;rw [h] at c;simp at c
 rw [if_pos ⟨rfl,rfl,hc3.2 c⟩];have hs0:IntKind.i64.wrap (((dStps p).length:Int) - 1)=(p.length:Int) - 1:=by rw [hdp];exact hsub _ (Nat.le_refl _)
 refine drawG_s mo (by decide +kernel) ?_;refine callD_p en17 (hget) ax rfl ?_;refine loop_i (fun i st=>∃ (e:Nat) (y:Val),st=al2St PC ND (depT ND) K (fszT ND) ot p l y ((e:Int) - 1)/\e<=p.length/\y=alnV F (l.drop e) (.mk xk xn xs xl)/\e=i) p.length (al2St PC ND (depT ND) K (fszT ND) ot p l (.mk xk xn xs xl) ((p.length:Int) - 1)) (weak_b 2 rfl (by repeat' (first | exact rfl | exact we_rfl rfl | exact we_int hs0 | refine ⟨_,_,rfl,?_,?_⟩)) rfl rfl rfl (by repeat' (first | exact trivial | exact we_rfl rfl | exact we_int hs0 | refine ⟨⟨_,rfl,?_⟩,?_⟩))) ⟨p.length,_,rfl,by omega,hx0.symm,rfl⟩ ?_;rintro i st ⟨e,y,rfl,he,hy,rfl⟩;refine br (fun hL=>?_) (fun hL=>?_)
 ·have hL:0<=(e:Int) - 1:=by simpa using hL
  obtain ⟨n,rfl⟩:∃ n,e=n + 1:=⟨e - 1,by omega⟩;have hn1:((n + 1:Nat):Int) - 1=(n:Nat):=by omega
  obtain ⟨s,hs'⟩:∃ s,p[n]? = some s:=⟨_,gE (by omega)⟩;obtain ⟨q,b2,hq,hqs,hok,_⟩:=hat n s hs';have har:=hstep n q y hq;have hny:arnV F q y=alnV F (l.drop n) (.mk xk xn xs xl):=by rw [drop_cons hq,alnV,hy]
  have hqi:(dInts (plI l))[n]? = some [.v (.int .i64 ((q.i:Nat):Int))]:=dInts_get (by rw [List.getElem?_map,hq];rfl);have hqk:(dInts (plK l))[n]? = some [.v (.int .i64 ((q.k:Nat):Int))]:=dInts_get (by rw [List.getElem?_map,hq];rfl);have hw2:IntKind.i64.wrap (((n + 1:Nat):Int) - 1 - 1)=(n:Int) - 1:=by rw [hn1];exact hsub n (by omega)
  generalize arnV F q y=Y at har hny;subst hqs;obtain ⟨qi,qd,qk,qs⟩:=q;obtain ⟨sk,sn,ss⟩:=qs;obtain ⟨Yk,Yn,Ys,Yl⟩:=Y;obtain ⟨yk,yn,ys,yl⟩:=y;simp only at hs' hqi hqk har;refine drawG_s mo (by decide +kernel) ?_;refine ⟨_,⟨by omega,by rw [hn1];exact hqi⟩,?_⟩;refine ⟨_,⟨by omega,by rw [hn1];exact hqk⟩,?_⟩;refine ⟨_,⟨by omega,by rw [hn1];exact dStps_get hs'⟩,?_⟩;refine callD_p en128 (har) ax rfl ?_;exact ⟨al2St PC ND (depT ND) K (fszT ND) ot p l (.mk Yk Yn Ys Yl) ((n:Int) - 1),(weak_b 2 rfl (by repeat' (first | exact rfl | exact we_rfl rfl | exact we_int hw2 | refine ⟨_,_,rfl,?_,?_⟩)) rfl rfl rfl (by repeat' (first | exact trivial | exact we_rfl rfl | exact we_int hw2 | refine ⟨⟨_,rfl,?_⟩,?_⟩))),n,by omega,n,_,rfl,by omega,hny,rfl⟩
 ·have hL:¬ 0<=(e:Int) - 1:=by simpa using hL
  have he0:e=0:=by omega
  subst he0;rw [List.drop_zero] at hy;rw [<- hy];obtain ⟨yk,yn,ys,yl⟩:=y;exact ⟨.tup [.agg (dVal (.mk yk yn ys yl)),.v (.bool true)],ax,rfl⟩
theorem wtVs_app:∀ (a b:List Val),wtVs (a ++ b)=wtVs a + wtVs b
 | [],b=>by simp [wtVs]
 | v :: r,b=>by rw [List.cons_append,wtVs,wtVs,wtVs_app r,Nat.add_assoc]
theorem wtVs_rep (u:Val):∀ n,wtVs (List.replicate n u)=n * u.wt
 | 0=>by simp [wtVs]
 | n + 1=>by rw [List.replicate_succ,wtVs,wtVs_rep u n,Nat.add_mul,Nat.one_mul,Nat.add_comm]
theorem wtVs_late {sz:List Nat} {F:Nat->Val} {k:Nat}:∀ {es:List Ed} {i:Nat},k < i->(∀ (j:Nat) e,es[j]? = some e->(F e.to.toNat).wt<=64 * edN sz e)->wtVs (es.map fun e=>F e.to.toNat)<=64 * sumE sz k es i
 | [],i,_,_=>by simp [wtVs]
 | e :: r,i,hk,h=>by
  have h1:=h 0 e rfl;have h2:=wtVs_late (sz:=sz) (F:=F) (k:=k) (es:=r) (i:=i + 1) (by omega) fun j e he=>h (j + 1) e (by simpa using he);rw [List.map_cons,wtVs,sumE,if_neg (by omega),Nat.mul_add];omega
theorem wtVs_setE {sz:List Nat} {F:Nat->Val} {v:Val} {k:Nat}:∀ {es:List Ed} {i:Nat},i<=k->(∀ (j:Nat) e,es[j]? = some e->i + j≠k->(F e.to.toNat).wt<=64 * edN sz e)->wtVs ((es.map fun e=>F e.to.toNat).set (k - i) v)<=v.wt + 64 * sumE sz k es i
 | [],i,_,_=>by simp [wtVs]
 | e :: r,i,hk,h=>by
  by_cases hik:i=k
  ·subst hik;have h2:=wtVs_late (sz:=sz) (F:=F) (k:=i) (es:=r) (i:=i + 1) (by omega) fun j e he=>h (j + 1) e (by simpa using he) (by omega);rw [Nat.sub_self,List.map_cons,List.set_cons_zero,wtVs,sumE,if_pos rfl];omega
  ·have h1:=h 0 e rfl (by omega);have h2:=wtVs_setE (sz:=sz) (F:=F) (v:=v) (k:=k) (es:=r) (i:=i + 1) (by omega) fun j e he hj=>h (j + 1) e (by simpa using he) (by omega);rw [List.map_cons,show k - i=(k - (i + 1)) + 1 by omega,List.set_cons_succ,wtVs,sumE,if_neg hik,Nat.mul_add];omega
theorem sumE_mem {sz:List Nat} {k:Nat}:∀ {es:List Ed} {i j:Nat} {e:Ed},es[j]? = some e->i + j≠k->edN sz e<=sumE sz k es i
 | [],i,j,e,h,_=>by simp at h
 | x :: r,i,0,e,h,hk=>by
  simp at h;subst h;rw [sumE,if_neg (by omega)];omega
 | x :: r,i,j + 1,e,h,hk=>by
  have:=sumE_mem (sz:=sz) (k:=k) (es:=r) (i:=i + 1) (j:=j) (e:=e) (by simpa using h) (by omega);rw [sumE];omega
theorem fst_wt {ND:List Nd} {L:Nat} (hok:∀ n∈ND,NdOK L ND.length n) {e:Ed} (h:edN (depT ND) e≠0) (h2:edN (fszT ND) e < 4097):(fstV ND (depT ND) e.to.toNat).wt<=64 * edN (fszT ND) e:=
 fstV_wt (depOK ND) hok _ _ (Nat.le_refl _) (Nat.pos_of_ne_zero h) h2
theorem arn_wt {ND:List Nd} {L:Nat} (hok:∀ n∈ND,NdOK L ND.length n) {q:Pl} (hq:PlOK ND q) (hal:aliF (depT ND) q=true) (hD:∃ x,q.d.edges[q.k]? = some x/\edN (depT ND) x≠0) (hx:exF (fszT ND) q < 4097) (v:Val) :
  (arnV (fstV ND (depT ND)) q v).wt<=v.wt + 64 * exF (fszT ND) q:=by
 obtain ⟨k1,k5,k2,k3,k4,hk⟩:=pl_kind hq;have e0:emptyB.size=0:=rfl;obtain ⟨y,hy,hyD⟩:=hD;unfold aliF at hal;simp only [Bool.and_eq_true,decide_eq_true_eq] at hal;unfold arnV;by_cases c2:q.s.k=2
 ·rw [if_pos c2,Val.wt,wtVs_app,wtVs_rep,e0];obtain ⟨c5,h0,h1⟩:=k2 c2;obtain ⟨_,_,ht⟩:=pl_one hok hq hy (.inl c5);have hE:exF (fszT ND) q=1 + q.s.n.toNat * edN (fszT ND) y:=by unfold exF edN;rw [if_pos c2,ht]
  rw [hE] at hx ⊢;rw [ht];have hv:wtVs [v]=v.wt:=by simp [wtVs]
  rw [hv]
  have hm:q.s.n.toNat * (fstV ND (depT ND) y.to.toNat).wt<=64 * (q.s.n.toNat * edN (fszT ND) y):=by
   rcases Nat.eq_zero_or_pos q.s.n.toNat with h | h
   ·rw [h];simp
   ·have hle:edN (fszT ND) y<=q.s.n.toNat * edN (fszT ND) y:=Nat.le_mul_of_pos_left _ h;have:=fst_wt hok hyD (by omega);rw [Nat.mul_left_comm];exact Nat.mul_le_mul_left _ this
  rw [Nat.mul_add];omega
 rw [if_neg c2];by_cases c1:q.s.k=1
 ·rw [if_pos c1,Val.wt,e0];have hE:exF (fszT ND) q=1 + sumE (fszT ND) q.k q.d.edges 0:=by unfold exF;rw [if_neg c2,if_pos c1]
  rw [hE] at hx ⊢;have hot:=hal.2;simp [c1] at hot;have hot:=othA_iff.1 hot
  have:=wtVs_setE (sz:=fszT ND) (F:=fstV ND (depT ND)) (v:=v) (k:=q.k) (es:=q.d.edges) (i:=0) (Nat.zero_le _) fun j e he hj=>fst_wt hok (hot j e he hj) (by
   have:=sumE_mem (sz:=fszT ND) he hj
   omega)
  rw [Nat.sub_zero] at this;rw [Nat.mul_add];omega
 ·rw [if_neg c1,Val.wt,e0];have hv:wtVs [v]=v.wt:=by simp [wtVs]
  rw [hv];have:exF (fszT ND) q=1:=by unfold exF;rw [if_neg c2,if_neg c1]
  omega
theorem aln_wt {ND:List Nd} {L:Nat} (hok:∀ n∈ND,NdOK L ND.length n) (v:Val):∀ (l:List Pl),(∀ q∈l,PlOK ND q/\aliF (depT ND) q=true/\∃ x,q.d.edges[q.k]? = some x/\edN (depT ND) x≠0)->totF (fszT ND) l < 4097->(alnV (fstV ND (depT ND)) l v).wt<=v.wt + 64 * totF (fszT ND) l
 | [],_,_=>by rw [alnV];omega
 | q :: l,h,ht=>by
  rw [totF] at ht ⊢;have ih:=aln_wt hok v l (fun q hq=>h q (by simp [hq])) (by omega);obtain ⟨h1,h2,h3⟩:=h q (by simp);have:=arn_wt hok h1 h2 h3 (by omega) (alnV (fstV ND (depT ND)) l v);rw [alnV,Nat.mul_add];omega
theorem fill_wt {ND:List Nd} {L:Nat} (hok:∀ n∈ND,NdOK L ND.length n) {f:Nat->Nat->Bool} {m:Nat} {p:List Stp} {i a:Nat} {v u:Val} (h:fillF ND (fszT ND) (depT ND) (walkV ND f m p i a) (stpsV ND p i) v=some u):u.wt<=v.wt + 262208:=by
 cases hw:walkV ND f m p i a with
 | none=>rw [hw] at h;cases h
 | some r=>
  obtain ⟨j,b⟩:=r;rw [hw] at h;unfold fillF at h;simp only at h;split at h
  ·rename_i hc;cases h;obtain ⟨hc1,hc2,hc3⟩:=hc;have hda:=(dep_along hok (depOK ND) p i a hw hc2 (by have:=fit_dep hok (depOK ND) v _ hc1;simpa using this)).2;obtain ⟨hll,hat⟩:=plc_walk p i a hw;have:=aln_wt hok v (stpsV ND p i) (fun q hq=>⟨?_,List.all_eq_true.1 hc2 q hq,hda q hq⟩) (by omega)
   ·omega
   ·obtain ⟨e,he,rfl⟩:=List.getElem_of_mem hq;obtain ⟨q',_,hq',_,hok',_⟩:=hat e p[e] (gE (by omega));rw [gE he] at hq';cases hq';exact hok'
  ·cases h
section
variable {S:Sch} {ND:List Nd} {PC:List DV} (hP:PlanR S ND PC) (p:List Stp) (hp:p.length<=1099511627776) (hs:∀ s∈p,s.s.size<=4611686018427387904) (rt:Nat) (hrt:resRoot S=rt) (hrl:rt < ND.length)
include hP hp hs hrt hrl
end
def pairF (ND:List Nd) (o:Option (Nat × Nat)) (l:List Pl):Option (Val × Val):=match o with
 | none=>none
 | some (j,b)=>if okN (fszT ND) j=true/\okN (sszT ND) j=true then (match fillF ND (fszT ND) (depT ND) (some (j,b)) l (fstV ND (depT ND) j),fillF ND (fszT ND) (depT ND) (some (j,b)) l (secV ND (depT ND) (sevT ND) j) with
  | some a,some c=>some (a,c)
  | _,_=>none) else none
def pairD:Option (Val × Val)->DV
 | some (a,c)=>.tup [.agg (dVal a),.agg (dVal c),.v (.bool true)]
 | none=>.tup [.agg (dVal zeroV),.agg (dVal zeroV),.v (.bool false)]
theorem fst_small {ND:List Nd} {L:Nat} (hok:∀ n∈ND,NdOK L ND.length n) {j:Nat} (h:okN (fszT ND) j=true):(fszT ND).getD j 0≠0/\(fstV ND (depT ND) j).wt<=262208:=by
 obtain ⟨j',hj,h1,h2⟩:=okN_iff.1 h;obtain rfl:j=j':=by omega
 have h0:=(szT_pos (depOK ND)).1.1 (Nat.pos_of_ne_zero h1);have:(fstV ND (depT ND) j).wt<=64 * (fszT ND).getD j 0:=fstV_wt (depOK ND) hok _ _ (Nat.le_refl _) h0 h2;exact ⟨h1,by omega⟩
theorem sec_small {ND:List Nd} {L:Nat} (hok:∀ n∈ND,NdOK L ND.length n) {j:Nat} (h:okN (sszT ND) j=true):(sszT ND).getD j 0≠0/\(sszT ND).getD j 0 < 4097/\(secV ND (depT ND) (sevT ND) j).wt<=137472507904:=by
 obtain ⟨j',hj,h1,h2⟩:=okN_iff.1 h;obtain rfl:j=j':=by omega
 have:(secV ND (depT ND) (sevT ND) j).wt<=(sszT ND).getD j 0 * 33554432:=secondV_wt hok 4096 j h1 (by omega) h2;exact ⟨h1,h2,by omega⟩
end Go.Proofs.YtadhpeooehkklaaGreat
