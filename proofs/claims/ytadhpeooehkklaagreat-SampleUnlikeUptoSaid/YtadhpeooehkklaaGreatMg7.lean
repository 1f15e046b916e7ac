/- Part 7 of the proof: Sample: Pair; First and second values fit, and are unlike: plain; Values along paths fit, lead to what was put there, and only that is set: plain; The law of unlike values: the call returns true. No condition. -/
import Derived.Test.YtadhpeooehkklaaGreatMg5
import Derived.Test.YtadhpeooehkklaaGreatMg6
set_option linter.all false
set_option maxRecDepth 100000
namespace Go.Proofs.YtadhpeooehkklaaGreat
open Go Go.RowKit Dv Tryz
set_option maxHeartbeats 4000000 in
theorem sPair_spec {S:Sch} {ND:List Nd} {PC:List DV} (hP:PlanR S ND PC) (hrn:∀ n∈ND,n.kind=2 -> -9223372036854775808<=n.lo/\n.hi<=9223372036854775807) (p:List Stp) (hp:p.length<=1099511627776) (hs:∀ s∈p,s.s.size<=4611686018427387904) (rt:Nat) (hrt:resRoot S=rt) (hrl:rt < ND.length) :
  EvP Tryz.prog 27 [.pt PC 0,.sl 3 (dStps p) none] (pairD (pairF ND (walkV ND (leqS S) S.levels.length p rt (botF (leqS S) S.levels.length)) (stpsV ND p rt))):=by
 have hm:=smake_spec PC ND hP;have hw:=ewalk_spec hP p hp hs rt hrt hrl;have hnl:=hP.nl;have hal:=fun x hx=>salong_spec hP (sszT ND) (sevT ND) p hp hs rt hrt hrl x hx;generalize hW:walkV ND (leqS S) S.levels.length p rt (botF (leqS S) S.levels.length)=W at hw hal ⊢
 cases W with
 | none=>
  have hw:EvP Tryz.prog 76 [.pt PC 0,.sl 3 (dStps p) none] (.tup [.v (.int .i64 (-1)),.v (.int .i64 (-1)),.v (.bool false)]):=hw;refine ev_go (P:=Tryz.prog) tt tt_ok 5000 74 [.cell 4 34,.cell 5 34,.tmp 6] Tryz.func27 rfl Tryz.ntmps27 rfl (nL rfl) (fun E9 w9 hn9 hm9=>?_);refine call_p en61 (hm) ax rfl ?_;refine call_p en76 (hw) ax rfl ?_;exact ⟨.tup [.agg (dVal zeroV),.agg (dVal zeroV),.v (.bool false)],ax,rfl⟩
 | some jb=>
 obtain ⟨j,b⟩:=jb;have hw:EvP Tryz.prog 76 [.pt PC 0,.sl 3 (dStps p) none] (.tup [.v (.int .i64 (j:Nat)),.v (.int .i64 (b:Nat)),.v (.bool true)]):=hw;have hf1:=sfits_spec (fszT ND) j (by rw [szT_len];exact hnl);have hf2:=sfits_spec (sszT ND) j (by rw [otT_len];exact hnl);have h1:=@fst_small ND _ hP.ok j;have h2:=@sec_small ND _ hP.ok j;have hone:=sone_spec hP (fszT ND) (sszT ND) (sevT ND) (j:=j);have htwo:=stwo_spec hP hrn (j:=j)
 have hF:pairF ND (some (j,b)) (stpsV ND p rt)=if okN (fszT ND) j=true/\okN (sszT ND) j=true then (match fillF ND (fszT ND) (depT ND) (some (j,b)) (stpsV ND p rt) (fstV ND (depT ND) j),fillF ND (fszT ND) (depT ND) (some (j,b)) (stpsV ND p rt) (secV ND (depT ND) (sevT ND) j) with
  | some a,some c=>some (a,c)
  | _,_=>none) else none:=rfl
 rw [hF];clear hF hW;generalize okN (fszT ND) j=o1 at hf1 h1 ⊢;generalize okN (sszT ND) j=o2 at hf2 h2 ⊢
 cases o1 with
 | false=>
  rw [if_neg (by simp)];refine ev_go (P:=Tryz.prog) tt tt_ok 5000 74 [.cell 4 34,.cell 5 34,.tmp 6] Tryz.func27 rfl Tryz.ntmps27 rfl (nL rfl) (fun E9 w9 hn9 hm9=>?_);refine call_p en61 (hm) ax rfl ?_;refine call_p en76 (hw) ax rfl ?_;refine call_p en77 (hf1) ax rfl ?_;exact ⟨.tup [.agg (dVal zeroV),.agg (dVal zeroV),.v (.bool false)],ax,rfl⟩
 | true=>
 cases o2 with
 | false=>
  rw [if_neg (by simp)];refine ev_go (P:=Tryz.prog) tt tt_ok 5000 74 [.cell 4 34,.cell 5 34,.tmp 6] Tryz.func27 rfl Tryz.ntmps27 rfl (nL rfl) (fun E9 w9 hn9 hm9=>?_);refine call_p en61 (hm) ax rfl ?_;refine call_p en76 (hw) ax rfl ?_;refine call_p en77 (hf1) ax rfl ?_;refine call_p en77 (hf2) ax rfl ?_;exact ⟨.tup [.agg (dVal zeroV),.agg (dVal zeroV),.v (.bool false)],ax,rfl⟩
 | true=>
 rw [if_pos ⟨rfl,rfl⟩];obtain ⟨h3,h4⟩:=h1 rfl;obtain ⟨h5,h6,h7⟩:=h2 rfl;have hone:=hone h3;have htwo:=htwo h5 h6;have ha1:=hal _ (Nat.le_trans h4 (by omega));have ha2:=hal _ (Nat.le_trans h7 (by omega));clear hal h1 h2 h3 h4 h5 h6 h7;generalize fillF ND (fszT ND) (depT ND) (some (j,b)) (stpsV ND p rt) (fstV ND (depT ND) j)=R1 at ha1 ⊢;generalize fillF ND (fszT ND) (depT ND) (some (j,b)) (stpsV ND p rt) (secV ND (depT ND) (sevT ND) j)=R2 at ha2 ⊢;generalize fstV ND (depT ND) j=X1 at hone ha1;generalize secV ND (depT ND) (sevT ND) j=X2 at htwo ha2;obtain ⟨x1k,x1n,x1s,x1l⟩:=X1;obtain ⟨x2k,x2n,x2s,x2l⟩:=X2
 cases R1 with
 | none=>
  have ha1:EvP Tryz.prog 62 [.pt (mkD PC ND (depT ND) (sevT ND) (fszT ND) (sszT ND)) 0,.sl 3 (dStps p) none,.agg (dVal (.mk x1k x1n x1s x1l))] (.tup [.agg (dVal zeroV),.v (.bool false)]):=ha1
  cases R2 with
  | none=>
   have ha2:EvP Tryz.prog 62 [.pt (mkD PC ND (depT ND) (sevT ND) (fszT ND) (sszT ND)) 0,.sl 3 (dStps p) none,.agg (dVal (.mk x2k x2n x2s x2l))] (.tup [.agg (dVal zeroV),.v (.bool false)]):=ha2;refine ev_go (P:=Tryz.prog) tt tt_ok 5000 74 [.cell 4 34,.cell 5 34,.tmp 6] Tryz.func27 rfl Tryz.ntmps27 rfl (nL rfl) (fun E9 w9 hn9 hm9=>?_);refine call_p en61 (hm) ax rfl ?_;refine call_p en76 (hw) ax rfl ?_;refine call_p en77 (hf1) ax rfl ?_;refine call_p en77 (hf2) ax rfl ?_;refine call_p en78 (hone) ax rfl ?_;refine call_p en62 (ha1) ax rfl ?_;refine call_p en79 (htwo) ax rfl ?_;refine call_p en62 (ha2) ax rfl ?_;exact ⟨.tup [.agg (dVal zeroV),.agg (dVal zeroV),.v (.bool false)],ax,rfl⟩
  | some c=>
   have ha2:EvP Tryz.prog 62 [.pt (mkD PC ND (depT ND) (sevT ND) (fszT ND) (sszT ND)) 0,.sl 3 (dStps p) none,.agg (dVal (.mk x2k x2n x2s x2l))] (.tup [.agg (dVal c),.v (.bool true)]):=ha2;obtain ⟨ck,cn,cs,cl⟩:=c;refine ev_go (P:=Tryz.prog) tt tt_ok 5000 74 [.cell 4 34,.cell 5 34,.tmp 6] Tryz.func27 rfl Tryz.ntmps27 rfl (nL rfl) (fun E9 w9 hn9 hm9=>?_);refine call_p en61 (hm) ax rfl ?_;refine call_p en76 (hw) ax rfl ?_;refine call_p en77 (hf1) ax rfl ?_;refine call_p en77 (hf2) ax rfl ?_;refine call_p en78 (hone) ax rfl ?_;refine call_p en62 (ha1) ax rfl ?_;refine call_p en79 (htwo) ax rfl ?_;refine call_p en62 (ha2) ax rfl ?_;exact ⟨.tup [.agg (dVal zeroV),.agg (dVal zeroV),.v (.bool false)],ax,rfl⟩
 | some a=>
  have ha1:EvP Tryz.prog 62 [.pt (mkD PC ND (depT ND) (sevT ND) (fszT ND) (sszT ND)) 0,.sl 3 (dStps p) none,.agg (dVal (.mk x1k x1n x1s x1l))] (.tup [.agg (dVal a),.v (.bool true)]):=ha1;obtain ⟨ak,an,at2,al⟩:=a
  cases R2 with
  | none=>
   have ha2:EvP Tryz.prog 62 [.pt (mkD PC ND (depT ND) (sevT ND) (fszT ND) (sszT ND)) 0,.sl 3 (dStps p) none,.agg (dVal (.mk x2k x2n x2s x2l))] (.tup [.agg (dVal zeroV),.v (.bool false)]):=ha2;refine ev_go (P:=Tryz.prog) tt tt_ok 5000 74 [.cell 4 34,.cell 5 34,.tmp 6] Tryz.func27 rfl Tryz.ntmps27 rfl (nL rfl) (fun E9 w9 hn9 hm9=>?_);refine call_p en61 (hm) ax rfl ?_;refine call_p en76 (hw) ax rfl ?_;refine call_p en77 (hf1) ax rfl ?_;refine call_p en77 (hf2) ax rfl ?_;refine call_p en78 (hone) ax rfl ?_;refine call_p en62 (ha1) ax rfl ?_;refine call_p en79 (htwo) ax rfl ?_;refine call_p en62 (ha2) ax rfl ?_;exact ⟨.tup [.agg (dVal zeroV),.agg (dVal zeroV),.v (.bool false)],ax,rfl⟩
  | some c=>
   have ha2:EvP Tryz.prog 62 [.pt (mkD PC ND (depT ND) (sevT ND) (fszT ND) (sszT ND)) 0,.sl 3 (dStps p) none,.agg (dVal (.mk x2k x2n x2s x2l))] (.tup [.agg (dVal c),.v (.bool true)]):=ha2;obtain ⟨ck,cn,cs,cl⟩:=c;refine ev_go (P:=Tryz.prog) tt tt_ok 5000 74 [.cell 4 34,.cell 5 34,.tmp 6] Tryz.func27 rfl Tryz.ntmps27 rfl (nL rfl) (fun E9 w9 hn9 hm9=>?_);refine call_p en61 (hm) ax rfl ?_;refine call_p en76 (hw) ax rfl ?_;refine call_p en77 (hf1) ax rfl ?_;refine call_p en77 (hf2) ax rfl ?_;refine call_p en78 (hone) ax rfl ?_;refine call_p en62 (ha1) ax rfl ?_;refine call_p en79 (htwo) ax rfl ?_;refine call_p en62 (ha2) ax rfl ?_;refine drawG_m [0,1] (fun _=>false) mo (by decide +kernel) ?_;exact ⟨.tup [.agg (dVal (.mk ak an at2 al)),.agg (dVal (.mk ck cn cs cl)),.v (.bool true)],ax,rfl⟩
theorem nodeA_nat {ND:List Nd} {j:Nat} {d:Nd} (h:ND[j]? = some d):nodeA ND (j:Nat)=some d:=by
 unfold nodeA;rw [if_neg (by omega),Int.toNat_natCast];exact h
theorem fit_leaf {ND:List Nd} {v:Val} {d:Nd} {i:Int} (h:nodeA ND i=some d) (h5:d.kind < 5) (hl:leafF d v=true):fitV ND v i=true:=by
 obtain ⟨k,n,s,ks⟩:=v;rw [fitV,h];simp only;rw [if_pos h5];exact hl
theorem fit_node {ND:List Nd} {v:Val} {d:Nd} {i:Int} (h:nodeA ND i=some d) (h5:5<=d.kind) (hb:kidsB d v=true) (hf:fitVs ND v.ks (kidsL d v)=true):fitV ND v i=true:=by
 obtain ⟨k,n,s,ks⟩:=v;rw [fitV,h];simp only;rw [if_neg (by omega),hb];exact hf
theorem fitVs_map {ND:List Nd} {F:Nat->Val}:∀ {es:List Ed},(∀ e∈es,fitV ND (F e.to.toNat) e.to=true)->fitVs ND (es.map fun e=>F e.to.toNat) (es.map Ed.to)=true
 | [],_=>by simp [fitVs]
 | e :: r,h=>by
  rw [List.map_cons,List.map_cons,fitVs,h e (by simp),fitVs_map fun x hx=>h x (by simp [hx])];rfl
theorem fit_one {ND:List Nd} {v:Val} {x:Ed} {es:List Ed} (h:fitV ND v x.to=true):fitVs ND [v] [x.to]=true:=by
 rw [fitVs,h];simp [fitVs]
theorem fit_lst {ND:List Nd} {n:Nd} {i:Int} (h:nodeA ND i=some n) (h56:n.kind=5∨n.kind=6) {ks:List Val} {x:Ed} (hx:n.edges=[x]) (hm:(ks.length:Int)<=if n.kind=6 then 1 else n.most) (hf:∀ v∈ks,fitV ND v x.to=true):fitV ND (.mk n.kind 0 emptyB ks) i=true:=by
 have ht:to0 n=x.to:=by unfold to0;rw [hx];all_goals rfl
 refine fit_node h (by omega) ?_ ?_
 ·unfold kidsB;rw [if_pos h56];simp only [plainV,Val.k,Val.n,Val.s,Val.ks,decide_true,Bool.true_or,Bool.true_and];exact decide_eq_true hm
 ·unfold kidsL;rw [if_pos h56,ht];simp only [Val.ks];clear hm
  induction ks with
  | nil=>simp [fitVs]
  | cons v r ih=>
   rw [List.length_cons,List.replicate_succ,fitVs,hf v (by simp),ih fun y hy=>hf y (by simp [hy])];rfl
theorem fit_rcd {ND:List Nd} {n:Nd} {i:Int} (h:nodeA ND i=some n) (h7:n.kind=7) {ks:List Val} (hl:ks.length=n.edges.length) (hf:fitVs ND ks (n.edges.map Ed.to)=true):fitV ND (.mk 7 0 emptyB ks) i=true:=by
 refine fit_node h (by omega) ?_ ?_
 ·unfold kidsB;rw [if_neg (by omega),if_pos h7];simp [plainV,Val.k,Val.n,Val.s,Val.ks,hl]
 ·unfold kidsL;rw [if_neg (by omega),if_pos h7];exact hf
theorem fit_uni {ND:List Nd} {n:Nd} {i:Int} (h:nodeA ND i=some n) (h8:n.kind=8) {ks:List Val} {c:Nat} {x:Ed} (hx:n.edges[c]? = some x) (hk:(x.bare=true/\ks=[])∨(x.bare=false/\∃ v,ks=[v]/\fitV ND v x.to=true)):fitV ND (.mk 8 c emptyB ks) i=true:=by
 have hc:=(gS hx).1
 have hT:tagE n (.mk 8 c emptyB ks)=some x:=by
  show (if (8:Int)=8/\(0:Int)<=(c:Nat)/\((c:Nat):Int) < n.edges.length then n.edges[((c:Nat):Int).toNat]? else none)=some x;rw [if_pos ⟨rfl,by omega,by omega⟩,Int.toNat_natCast];exact hx
 have hL:kidsL n (.mk 8 c emptyB ks)=if x.bare=true then [] else [x.to]:=by
  unfold kidsL;rw [if_neg (by omega),if_neg (by omega),hT]
 refine fit_node h (by omega) ?_ ?_
 ·unfold kidsB;rw [if_neg (by omega),if_neg (by omega),hT,hL];rcases hk with ⟨hb,rfl⟩ | ⟨hb,v,rfl,_⟩<;>simp [plainV,Val.k,Val.n,Val.s,Val.ks,hb]
 ·rw [hL];rcases hk with ⟨hb,rfl⟩ | ⟨hb,v,rfl,hv⟩
  ·simp [hb,Val.ks,fitVs]
  ·rw [hb];exact fit_one (es:=[]) hv
theorem tag_fit {ND:List Nd} {n:Nd} {i:Int} (h:nodeA ND i=some n) (h8:n.kind=8) {F:Nat->Val} {c:Nat} {x:Ed} (hx:n.edges[c]? = some x) (hk:x.bare=false->fitV ND (F x.to.toNat) x.to=true):fitV ND (tagV F n.edges c) i=true:=by
 unfold tagV;rw [hx];refine fit_uni h h8 hx ?_
 cases hb:x.bare with
 | true=>exact .inl ⟨rfl,rfl⟩
 | false=>exact .inr ⟨rfl,_,rfl,hk hb⟩
section
variable {L:Nat} {ND:List Nd} (hok:∀ n∈ND,NdOK L ND.length n)
include hok
theorem fst_fit {D:List Nat} (hO:DepOK ND D):∀ (f i:Nat),D.getD i 0<=f->0 < D.getD i 0->fitV ND (fstV ND D i) (i:Nat)=true
 | 0,i,h1,h0=>by omega
 | f + 1,i,h1,h0=>by
  have hi:=dep_in hO h0;obtain ⟨n,hn⟩:∃ n,ND[i]? = some n:=⟨_,gE hi⟩;have hN:=hok n (mG hn);have hA:=nodeA_nat hn
  have ih:∀ e∈n.edges,0 < edN D e->edN D e < D.getD i 0->e.bare=false->fitV ND (fstV ND D e.to.toNat) e.to=true:=fun e he h2 h3 hb=>by
   obtain ⟨k,hk,hkl⟩:=(hN.edge e he).to1 hb;unfold edN at h2 h3;rw [hk,Int.toNat_natCast] at h2 h3 ⊢;exact fst_fit hO f k (by omega) h2
  rw [fstV_eq hO hn h0];have hk1:=hN.k1;have hk8:=hN.k8;by_cases c2:n.kind=2
  ·rw [if_pos c2];refine fit_leaf hA (by omega) ?_;have:=hN.lohi c2;simp [leafF,valN,Val.k,Val.n,Val.s,Val.ks,c2,this]
  rw [if_neg c2];by_cases c7:n.kind=7
  ·rw [if_pos c7];refine fit_rcd hA c7 (by simp) (fitVs_map fun e he=>?_);obtain ⟨h2,h3⟩:=hO.rcd hn h0 c7 e he;refine ih e he h2 h3 ?_
   cases hb:e.bare with
   | false=>rfl
   | true=>have:=hN.bare e he hb;omega
  rw [if_neg c7];by_cases c8:n.kind=8
  ·rw [if_pos c8];obtain ⟨c,e,hc,he,hp⟩:=hO.uni hn h0 c8;rw [hc];refine tag_fit hA c8 he fun hb=>?_;obtain ⟨h2,h3⟩:=hp hb;exact ih e (mG he) h2 h3 hb
  rw [if_neg c8];rcases (show n.kind=1∨n.kind=3∨n.kind=4∨(n.kind=5∨n.kind=6) by omega) with c | c | c | c
  ·refine fit_leaf hA (by omega) ?_;simp [leafF,valN,Val.k,Val.n,Val.s,Val.ks,c]
  ·refine fit_leaf hA (by omega) ?_;have:=(hN.most3 c).1;have h0:emptyB.size=0:=rfl;simp [leafF,valN,Val.k,Val.n,Val.s,Val.ks,c,h0,this]
  ·refine fit_leaf hA (by omega) ?_;have:=(hN.names c).1;have:0 < n.names.length:=List.length_pos_iff.2 this;simp [leafF,valN,Val.k,Val.n,Val.s,Val.ks,c,this]
  ·obtain ⟨x,hx,_⟩:=hN.one c;refine fit_lst hA c hx ?_ fun v hv=>by cases hv
   have:=hN.most5;split
   ·simp
   ·have:=(this (by omega)).1;simpa using this
theorem sec_shape {f i:Nat} (h0:(sszT ND).getD i 0≠0) (h4:(sszT ND).getD i 0 < 4097):∃ n,ND[i]? = some n/\0 < (depT ND).getD i 0/\(
  (n.kind=1/\secondV ND (depT ND) (sevT ND) (f + 1) i=valN 1 1) ∨
  (n.kind=2/\n.lo < n.hi/\secondV ND (depT ND) (sevT ND) (f + 1) i=valN 2 (n.lo + 1)) ∨
  (n.kind=3/\0 < n.most/\secondV ND (depT ND) (sevT ND) (f + 1) i = .mk 3 0 ⟨#[97]⟩ []) ∨
  (n.kind=4/\1 < n.names.length/\secondV ND (depT ND) (sevT ND) (f + 1) i=valN 4 1) ∨
  ((n.kind=5∨n.kind=6)/\(n.kind=5->0 < n.most)/\∃ x,n.edges=[x]/\x.bare=false/\0 < edN (depT ND) x/\secondV ND (depT ND) (sevT ND) (f + 1) i = .mk n.kind 0 emptyB [fstV ND (depT ND) x.to.toNat]) ∨
  (n.kind=7/\(∀ e∈n.edges,0 < edN (depT ND) e)/\∃ c x,n.edges[c]? = some x/\x.bare=false/\(sszT ND).getD x.to.toNat 0≠0/\(sszT ND).getD x.to.toNat 0 < (sszT ND).getD i 0 /\
   secondV ND (depT ND) (sevT ND) (f + 1) i = .mk 7 0 emptyB ((n.edges.map fun e=>fstV ND (depT ND) e.to.toNat).set c (secondV ND (depT ND) (sevT ND) f x.to.toNat))) ∨
  (n.kind=8/\((∃ c x,chooseF (depT ND) n.edges≠some c/\n.edges[c]? = some x/\thB (depT ND) x=true/\secondV ND (depT ND) (sevT ND) (f + 1) i=tagV (fstV ND (depT ND)) n.edges c) ∨
   ∃ c x,chooseF (depT ND) n.edges=some c/\n.edges[c]? = some x/\x.bare=false/\(sszT ND).getD x.to.toNat 0≠0/\(sszT ND).getD x.to.toNat 0 < (sszT ND).getD i 0/\secondV ND (depT ND) (sevT ND) (f + 1) i = .mk 8 c emptyB [secondV ND (depT ND) (sevT ND) f x.to.toNat]))):=by
 obtain ⟨n,hn,hKi,hv⟩:=otT_get h0;have hO:=depOK ND;have hN:=hok n (mG hn);have hsv:=sevT_fix hn hKi;have hSec:=secOK_of hN hsv;have hdp:=sevF_dep hN hsv;rw [<- hO.get _ _ hn] at hdp
 have hrec:∀ s j,1<=s->(sszT ND).getD i 0=othE (sszT ND) (s,some j)->(sszT ND).getD j 0≠0/\(sszT ND).getD j 0 < (sszT ND).getD i 0:=fun s j hs h=>by
  have hj0:(sszT ND).getD j 0≠0:=fun hj=>h0 (by rw [h];simp only [othE];rw [if_pos hj]);refine ⟨hj0,?_⟩;have h':=h;simp only [othE] at h';rw [if_neg hj0] at h';unfold cutM at h';omega
 have hE:secondV ND (depT ND) (sevT ND) (f + 1) i=secB (fstV ND (depT ND)) (secondV ND (depT ND) (sevT ND) f) (depT ND) (sevT ND) n:=by rw [secondV,hn]
 have hk1:=hN.k1;have hk8:=hN.k8;refine ⟨n,hn,hdp,?_⟩;rw [hE];clear hE;unfold secB;unfold othS at hv;rcases (show n.kind=1∨n.kind=2∨n.kind=3∨n.kind=4∨(n.kind=5∨n.kind=6)∨n.kind=7∨n.kind=8 by omega) with c | c | c | c | c | c | c
 ·exact .inl ⟨c,by simp [c]⟩
 ·refine .inr (.inl ⟨c,?_,by simp [c]⟩);simpa [sevF,c] using hsv
 ·refine .inr (.inr (.inl ⟨c,?_,by simp [c]⟩));simpa [sevF,c] using hsv
 ·refine .inr (.inr (.inr (.inl ⟨c,?_,by simp [c]⟩)));simpa [sevF,c] using hsv
 ·refine .inr (.inr (.inr (.inr (.inl ⟨c,fun c5=>?_,?_⟩))))
  ·simp [sevF,c5] at hsv;exact hsv.1
  ·obtain ⟨x,hx,hxb,_⟩:=hN.one c
   have hth:thB (depT ND) x=true:=by
    cases h:thB (depT ND) x with
    | true=>rfl
    | false=>rcases c with h5 | h5<;>simp [sevF,manyN,h,h5,hx] at hsv
   refine ⟨x,hx,hxb,thB_pos hth hxb,?_⟩;rw [if_neg (by omega),if_neg (by omega),if_pos c,hx];rfl
 ·refine .inr (.inr (.inr (.inr (.inr (.inl ⟨c,fun e he=>?_,?_⟩)))))
  ·simp only [sevF,c] at hsv;simp at hsv
   have hall:n.edges.all (thB (depT ND))=true:=by
    have:=hsv.2;unfold manyN at this;exact List.all_eq_true.2 (List.countP_eq_length.1 this)
   have hth:=List.all_eq_true.1 hall e he;refine thB_pos hth ?_
   cases hb:e.bare with
   | false=>rfl
   | true=>have:=hN.bare e he hb;omega
  ·obtain ⟨k,x,hc,hx,hb⟩:=hSec.c7 c;rw [if_neg (by omega),if_pos c,hc] at hv;simp only at hv;rw [hx] at hv;simp only at hv;obtain ⟨h1,h2⟩:=hrec _ _ (sumX_ge (by omega)) hv;refine ⟨k,x,hx,hb,h1,h2,?_⟩;rw [if_neg (by omega),if_neg (by omega),if_neg (by omega),if_pos c,hc];simp only;rw [hx]
 ·refine .inr (.inr (.inr (.inr (.inr (.inr ⟨c,?_⟩)))));rw [if_neg (by omega),if_neg (by omega),if_neg (by omega),if_neg (by omega),if_pos c];rw [if_neg (by omega),if_neg (by omega),if_pos c] at hv
  cases ht:turnF (depT ND) n.edges with
  | some k=>
   obtain ⟨x,hx,hth⟩:=turn_some ht;have h2:=(firstN_spec ht).2.1;rw [turnP_at hx,Bool.and_eq_true] at h2;exact .inl ⟨k,x,of_decide_eq_true h2.1,hx,hth,rfl⟩
  | none=>
   obtain ⟨k,x,hc,hx,hb⟩:=hSec.c8 c ht;rw [ht] at hv;simp only at hv;rw [hc] at hv;simp only at hv;rw [hx] at hv;simp only at hv;obtain ⟨h1,h2⟩:=hrec _ _ (Nat.le_refl _) hv;refine .inr ⟨k,x,hc,hx,hb,h1,h2,?_⟩;simp only;rw [hc];simp only;rw [hx]
theorem to_nat {n:Nd} (hN:NdOK L ND.length n) {e:Ed} (he:e∈n.edges) (hb:e.bare=false):((e.to.toNat:Nat):Int)=e.to:=by
 obtain ⟨k,hk,_⟩:=(hN.edge e he).to1 hb;rw [hk,Int.toNat_natCast]
theorem sec_fit:∀ (f i:Nat),(sszT ND).getD i 0≠0->(sszT ND).getD i 0<=f->(sszT ND).getD i 0 < 4097->fitV ND (secondV ND (depT ND) (sevT ND) f i) (i:Nat)=true/\secondV ND (depT ND) (sevT ND) f i≠fstV ND (depT ND) i
 | 0,i,h0,h1,_=>by omega
 | f + 1,i,h0,h1,h2=>by
  obtain ⟨n,hn,hdp,hsh⟩:=sec_shape hok (f:=f) h0 h2;have hO:=depOK ND;have hN:=hok n (mG hn);have hA:=nodeA_nat hn
  have hfit:∀ e∈n.edges,0 < edN (depT ND) e->e.bare=false->fitV ND (fstV ND (depT ND) e.to.toNat) e.to=true:=fun e he h2 hb=>by
   have:=fst_fit hok hO _ e.to.toNat (Nat.le_refl _) h2
   rwa [to_nat hok hN he hb] at this
  have hF:=fstV_eq hO hn hdp;rcases hsh with ⟨c,hE⟩ | ⟨c,hl,hE⟩ | ⟨c,hl,hE⟩ | ⟨c,hl,hE⟩ | ⟨c,hl,x,hx,hb,hd,hE⟩ | ⟨c,hall,k,x,hx,hb,h3,h4,hE⟩ | ⟨c,hsh⟩
  ·rw [hE,hF,c];refine ⟨fit_leaf hA (by omega) (by simp [leafF,valN,Val.k,Val.n,Val.s,Val.ks,c]),fun h=>?_⟩;simp [valN] at h
  ·rw [hE,hF,c];refine ⟨fit_leaf hA (by omega) ?_,fun h=>?_⟩
   ·have h1:n.lo<=n.lo + 1:=by omega
    have h2:n.lo + 1<=n.hi:=by omega
    simp [leafF,valN,Val.k,Val.n,Val.s,Val.ks,c,h1,h2]
   ·simp [valN] at h;omega
  ·rw [hE,hF,c];refine ⟨fit_leaf hA (by omega) ?_,fun h=>?_⟩
   ·have h1:(1:Int)<=n.most:=by omega
    have h0:(⟨#[97]⟩:ByteArray).size=1:=rfl;simp [leafF,Val.k,Val.n,Val.s,Val.ks,c,h0,h1]
   ·have h:(Val.mk 3 0 ⟨#[97]⟩ []:Val)=valN 3 0:=by simpa using h
    have:=congrArg (fun v:Val=>v.s.size) h;simp [valN,Val.s] at this;exact absurd this (by decide)
  ·rw [hE,hF,c]
   refine ⟨fit_leaf hA (by omega) (by
    have h1:(1:Int) < n.names.length:=by omega
    have h2:1 < n.names.length:=hl
    simp [leafF,valN,Val.k,Val.n,Val.s,Val.ks,c,h1,h2]),fun h=>?_⟩
   simp [valN] at h
  ·rw [hE,hF];refine ⟨fit_lst hA c hx ?_ fun v hv=>?_,fun h=>?_⟩
   ·split
    ·simp
    ·have:=hl (by omega);simpa using by omega
   ·simp at hv;subst hv;exact hfit x (by rw [hx];simp) hd hb
   ·rw [if_neg (by omega),if_neg (by omega),if_neg (by omega)] at h;simp [valN] at h
  ·obtain ⟨i1,i2⟩:=sec_fit f x.to.toNat h3 (by omega) (by omega);have hkl:=(gS hx).1;rw [hE,hF]
   have hnb:∀ e∈n.edges,e.bare=false:=fun e he=>by
    cases hb:e.bare with
    | false=>rfl
    | true=>have:=hN.bare e he hb;omega
   refine ⟨fit_rcd hA c (by simp) (fitVs_set (j:=x.to) ?_ (fitVs_map fun e he=>hfit e he (hall e he) (hnb e he)) (by rw [List.getElem?_map,hx];rfl)),fun h=>?_⟩
   ·rwa [to_nat hok hN (mG hx) hb] at i1
   ·rw [if_neg (by omega),if_pos c] at h;have h:=congrArg (fun v:Val=>v.ks[k]?) h;simp only [Val.ks] at h;rw [List.getElem?_set_self (by simpa using hkl),List.getElem?_map,hx] at h;exact i2 (by simpa using h)
  ·rw [if_neg (by omega),if_neg (by omega),if_pos c] at hF;rcases hsh with ⟨k,x,hne,hx,hth,hE⟩ | ⟨k,x,hc,hx,hb,h3,h4,hE⟩
   ·rw [hE];refine ⟨tag_fit hA c hx fun hb=>hfit x (mG hx) (thB_pos hth hb) hb,fun h=>?_⟩;obtain ⟨c',e',hc',he',_⟩:=hO.uni hn hdp c;rw [hF,hc'] at h;simp only [tagV,hx,he'] at h;have h:=congrArg Val.n h;simp only [Val.n] at h;exact hne (by rw [hc'];simp;omega)
   ·obtain ⟨i1,i2⟩:=sec_fit f x.to.toNat h3 (by omega) (by omega);rw [hE];refine ⟨fit_uni hA c hx (.inr ⟨hb,_,rfl,?_⟩),fun h=>?_⟩
    ·rwa [to_nat hok hN (mG hx) hb] at i1
    ·rw [hF,hc] at h;simp only [tagV,hx,hb] at h;have h:=congrArg (fun v:Val=>v.ks[0]?) h;simp only [Val.ks] at h;exact i2 (by simpa using h)
end
theorem rightS_txt {s:Stp} (h:rightS s=true):(s.k=2∨s.k=3∨s.k=4)->s.s=emptyB:=fun hk=>by
 unfold rightS at h;rcases hk with c | c | c<;>rw [c] at h<;>simp at h<;>exact h.2
section
variable {L:Nat} {ND:List Nd} (hok:∀ n∈ND,NdOK L ND.length n)
include hok
theorem arn_fit {D:List Nat} (hO:DepOK ND D) {q:Pl} (hq:PlOK ND q) {x:Ed} (hx:q.d.edges[q.k]? = some x) (hal:aliF D q=true) (hD:edN D x≠0) {v:Val} (hv:fitV ND v x.to=true):fitV ND (arnV (fstV ND D) q v) (q.i:Nat)=true:=by
 have hN:=hok _ (mG hq.node);have hA:=nodeA_nat hq.node;obtain ⟨k1,k5,k2,k3,k4,hk⟩:=pl_kind hq
 have hfit:∀ e∈q.d.edges,edN D e≠0->e.bare=false->fitV ND (fstV ND D e.to.toNat) e.to=true:=fun e he h2 hb=>by
  have:=fst_fit hok hO _ e.to.toNat (Nat.le_refl _) (Nat.pos_of_ne_zero h2)
  rwa [to_nat hok hN he hb] at this
 have hB:∀ e∈q.d.edges,q.d.kind≠8->e.bare=false:=fun e he h8=>by
  cases hb:e.bare with
  | false=>rfl
  | true=>exact (h8 (hN.bare e he hb)).elim
 have hxm:=mG hx;unfold aliF at hal;simp only [Bool.and_eq_true,decide_eq_true_eq] at hal;unfold arnV;rcases hk with c | c | c | c | c
 ·obtain ⟨c7,_⟩:=k1 c;rw [if_neg (by omega),if_pos c,c7];have hoth:=hal.2;simp [c] at hoth;have hoth:=othA_iff.1 hoth
  have hall:∀ e∈q.d.edges,edN D e≠0:=fun e he=>by
   obtain ⟨j,hj,rfl⟩:=List.getElem_of_mem he;by_cases hjk:j=q.k
   ·subst hjk;rw [gE hj] at hx;cases hx;exact hD
   ·exact hoth j _ (gE hj) (by omega)
  exact fit_rcd hA c7 (by simp) (fitVs_set (j:=x.to) hv (fitVs_map fun e he=>hfit e he (hall e he) (hB e he (by omega))) (by rw [List.getElem?_map,hx];rfl))
 ·obtain ⟨c5,h0,h1⟩:=k2 c;obtain ⟨he,_,ht⟩:=pl_one hok hq hx (.inl c5);rw [if_pos c,ht];refine fit_lst hA (.inl c5) he ?_ fun y hy=>?_
  ·rw [if_neg (by omega),List.length_append,List.length_replicate,List.length_singleton];omega
  ·rcases List.mem_append.1 hy with hy | hy
   ·rw [(List.mem_replicate.1 hy).2];exact hfit x hxm hD (hB x hxm (by omega))
   ·simp at hy;rw [hy];exact hv
 ·exact (hal.1 c).elim
 ·obtain ⟨c6,_⟩:=k4 c;obtain ⟨he,_⟩:=pl_one hok hq hx (.inr c6);rw [if_neg (by omega),if_neg (by omega),if_neg (by omega)];refine fit_lst hA (.inr c6) he ?_ fun y hy=>?_
  ·rw [if_pos c6];simp
  ·simp at hy;rw [hy];exact hv
 ·obtain ⟨c8,_⟩:=k5 c;rw [if_neg (by omega),if_neg (by omega),if_pos c,c8];obtain ⟨e',he',hB',_⟩:=edgeI_some hq.edge;rw [hx] at he';cases he';exact fit_uni hA c8 hx (.inr ⟨edgeB_bare hN hxm hB',_,rfl,hv⟩)
theorem arn_step (F:Nat->Val) {q:Pl} (hq:PlOK ND q) {x:Ed} (hx:q.d.edges[q.k]? = some x) (h3:q.s.k≠3) (v:Val):∃ e,stepV ND (arnV F q v) (q.i:Nat) q.s=some (e,v,x.to)/\∀ y,vset (arnV F q v) e y=arnV F q y:=by
 have hN:=hok _ (mG hq.node);have hA:=nodeA_nat hq.node;obtain ⟨k1,k5,k2,_,k4,hk⟩:=pl_kind hq;obtain ⟨e',he',hB',hr⟩:=edgeI_some hq.edge;rw [hx] at he';cases he';have htx:=rightS_txt hr;have hkl:=(gS hx).1;have hpe:=pl_edge hN hq;rcases hk with c | c | c | c | c
 ·obtain ⟨c7,hn⟩:=k1 c;rw [if_pos (.inl c)] at hpe;obtain ⟨_,hp2,hp3⟩:=firstN_spec hpe;have hE:∀ y,arnV F q y = .mk q.d.kind 0 emptyB ((q.d.edges.map fun e=>F e.to.toNat).set q.k y):=fun y=>by unfold arnV;rw [if_neg (by omega),if_pos c]
  have hR:∀ j e,q.d.edges[j]? = some e->stpR q.d (arnV F q v) j=⟨1,0,e.name⟩:=fun j e he=>by
   unfold stpR;rw [if_neg (by omega),if_neg (by omega),if_pos c7,he]
  have hs:q.s=⟨1,0,q.s.s⟩:=by
   cases hqs:q.s with
   | mk a b t=>rw [hqs] at c hn;simp only at c hn;rw [c,hn]
  have hkid:kidI q.d (arnV F q v) q.s=some q.k:=by
   unfold kidI;refine find_is (by rw [hE];simpa [Val.ks] using hkl) ?_ fun j hj=>?_
   ·rw [hR _ _ hx];refine stpE_iff.2 ?_;unfold nameP at hp2;rw [hx] at hp2;have hp2:=of_decide_eq_true hp2;rw [hs,hp2]
   ·have hjl:j < q.d.edges.length:=by omega
    rw [hR _ _ (gE hjl)];have:=hp3 j hj;unfold nameP at this;rw [gE hjl] at this;have:=of_decide_eq_false this;rw [hs];simp [stpE,this]
  refine ⟨q.k,stepV_of hA hkid ?_ ?_,fun y=>?_⟩
  ·rw [hE];exact List.getElem?_set_self (by simpa using hkl)
  ·unfold kidsL;rw [if_neg (by omega),if_pos c7,List.getElem?_map,hx];all_goals rfl
  ·rw [hE,hE];simp [vset,Val.k,Val.n,Val.s,Val.ks]
 ·obtain ⟨c5,h0,h1⟩:=k2 c;obtain ⟨he,_,ht⟩:=pl_one hok hq hx (.inl c5);have hE:∀ y,arnV F q y = .mk q.d.kind 0 emptyB (List.replicate q.s.n.toNat (F (to0 q.d).toNat) ++ [y]):=fun y=>by unfold arnV;rw [if_pos c]
  have hR:∀ j,stpR q.d (arnV F q v) j=⟨2,j,emptyB⟩:=fun j=>by
   unfold stpR;rw [if_pos c5]
  have hs:q.s=⟨2,(q.s.n.toNat:Nat),emptyB⟩:=by
   have ht2:=htx (.inl c)
   cases hqs:q.s with
   | mk a b t=>rw [hqs] at c h0 ht2;simp only at c h0 ht2 ⊢;rw [c,ht2,Int.toNat_of_nonneg h0]
  have hkid:kidI q.d (arnV F q v) q.s=some q.s.n.toNat:=by
   unfold kidI;refine find_is (by rw [hE];simp [Val.ks]) ?_ fun j hj=>?_
   ·rw [hR];exact stpE_iff.2 hs.symm
   ·rw [hR]
    cases hb:stpE ⟨2,j,emptyB⟩ q.s with
    | false=>rfl
    | true=>
     have:=congrArg Stp.n (stpE_iff.1 hb);simp only at this;omega
  refine ⟨q.s.n.toNat,stepV_of hA hkid ?_ ?_,fun y=>?_⟩
  ·rw [hE];simp [Val.ks]
  ·unfold kidsL;rw [if_pos (.inl c5),ht,hE];simp [Val.ks]
  ·rw [hE,hE];simp [vset,Val.k,Val.n,Val.s,Val.ks]
 ·exact (h3 c).elim
 ·obtain ⟨c6,hn⟩:=k4 c;obtain ⟨he,_,ht⟩:=pl_one hok hq hx (.inr c6);have hE:∀ y,arnV F q y = .mk q.d.kind 0 emptyB [y]:=fun y=>by unfold arnV;rw [if_neg (by omega),if_neg (by omega),if_neg (by omega)]
  have hs:q.s=⟨4,0,emptyB⟩:=by
   have ht2:=htx (.inr (.inr c))
   cases hqs:q.s with
   | mk a b t=>rw [hqs] at c hn ht2;simp only at c hn ht2;rw [c,ht2,hn]
  refine ⟨0,stepV_of hA ?_ (by rw [hE];rfl) ?_,fun y=>?_⟩
  ·unfold kidI;refine find_is (by rw [hE];simp [Val.ks]) ?_ fun j hj=>by omega
   refine stpE_iff.2 ?_;unfold stpR;rw [if_neg (by omega),if_pos c6,hs]
  ·unfold kidsL;rw [if_pos (.inr c6),ht,hE];simp [Val.ks]
  ·rw [hE,hE];simp [vset,Val.k,Val.n,Val.s,Val.ks]
 ·obtain ⟨c8,hn⟩:=k5 c;have hb:=edgeB_bare hN (mG hx) hB'
  have hnm:x.name=q.s.s:=by
   rw [if_pos (.inr c)] at hpe;have hp2:=(firstN_spec hpe).2.1;unfold nameP at hp2;rw [hx] at hp2;exact of_decide_eq_true hp2
  have hE:∀ y,arnV F q y = .mk q.d.kind (q.k:Nat) emptyB [y]:=fun y=>by unfold arnV;rw [if_neg (by omega),if_neg (by omega),if_pos c]
  have hs:q.s=⟨5,0,q.s.s⟩:=by
   cases hqs:q.s with
   | mk a b t=>rw [hqs] at c hn;simp only at c hn;rw [c,hn]
  refine ⟨0,stepV_of hA ?_ (by rw [hE];rfl) ?_,fun y=>?_⟩
  ·unfold kidI;refine find_is (by rw [hE];simp [Val.ks]) ?_ fun j hj=>by omega
   refine stpE_iff.2 ?_;unfold stpR;rw [if_neg (by omega),if_neg (by omega),if_neg (by omega),hE];simp only [Val.n,Int.toNat_natCast,hx];rw [hs,hnm]
  ·have hT:tagE q.d (.mk q.d.kind (q.k:Nat) emptyB [v])=some x:=by
    show (if q.d.kind=8/\(0:Int)<=(q.k:Nat)/\((q.k:Nat):Int) < q.d.edges.length then q.d.edges[((q.k:Nat):Int).toNat]? else none)=some x;rw [if_pos ⟨c8,by omega,by omega⟩,Int.toNat_natCast];exact hx
   unfold kidsL;rw [if_neg (by omega),if_neg (by omega),hE,hT];simp [hb]
  ·rw [hE,hE];simp [vset,Val.k,Val.n,Val.s,Val.ks]
theorem aln_all {D:List Nat} (hO:DepOK ND D) {f:Nat->Nat->Bool} {m:Nat}:∀ (p:List Stp) (i a:Nat) {j b:Nat},walkV ND f m p i a=some (j,b)->(stpsV ND p i).all (aliF D)=true->∀ v,fitV ND v (j:Nat)=true ->
  fitV ND (alnV (fstV ND D) (stpsV ND p i) v) (i:Nat)=true/\getV ND p (alnV (fstV ND D) (stpsV ND p i) v) (i:Nat)=some (v,(j:Int))/\∀ y,setV ND p (alnV (fstV ND D) (stpsV ND p i) v) (i:Nat) y=alnV (fstV ND D) (stpsV ND p i) y
 | [],i,a,j,b,h,_,v,hv=>by
  rw [walkV] at h;simp only [oI,Prod.mk.injEq] at h;obtain ⟨rfl,_⟩:=h;exact ⟨hv,rfl,fun y=>rfl⟩
 | s :: p,i,a,j,b,h,hal,v,hv=>by
  have hdp:=dep_along hok hO (s :: p) i a h hal (by have:=fit_dep hok hO v _ hv;simpa using this);obtain ⟨d,k,x,hd,hk,hx,hw⟩:=walkV_cons h;have hq:PlOK ND ⟨i,d,k,s⟩:=⟨hd,hk⟩;have hN:=hok _ (mG hd);obtain ⟨e',he',hB',hr⟩:=edgeI_some hk;rw [hx] at he';cases he';have hto:=to_nat hok hN (mG hx) (edgeB_bare hN (mG hx) hB');rw [stpsV_cons hd hk hx] at hal hdp ⊢;rw [List.all_cons,Bool.and_eq_true] at hal;obtain ⟨x',hx',hD⟩:=hdp.2 _ (List.mem_cons_self ..);have hx'':d.edges[k]? = some x':=hx';rw [hx] at hx'';cases hx'';obtain ⟨i1,i2,i3⟩:=aln_all hO p _ _ hw hal.2 v hv;rw [hto] at i1 i2 i3
  have h3:s.k≠3:=by
   have:=hal.1;unfold aliF at this;simp only [Bool.and_eq_true,decide_eq_true_eq] at this;exact this.1
  obtain ⟨e,hst,hset⟩:=arn_step hok (fstV ND D) hq hx h3 (alnV (fstV ND D) (stpsV ND p x.to.toNat) v);refine ⟨arn_fit hok hO hq hx hal.1 hD i1,?_,fun y=>?_⟩
  ·rw [getV];have hst:stepV ND (alnV (fstV ND D) (⟨i,d,k,s⟩ :: stpsV ND p x.to.toNat) v) (i:Nat) s=some (e,alnV (fstV ND D) (stpsV ND p x.to.toNat) v,x.to):=hst;rw [hst];exact i2
  ·rw [setV];have hst:stepV ND (alnV (fstV ND D) (⟨i,d,k,s⟩ :: stpsV ND p x.to.toNat) v) (i:Nat) s=some (e,alnV (fstV ND D) (stpsV ND p x.to.toNat) v,x.to):=hst;rw [hst];show vset (arnV _ _ _) e (setV ND p _ x.to y)=_;rw [i3,hset];rfl
end
theorem pair_facts {L:Nat} {ND:List Nd} (hok:∀ n∈ND,NdOK L ND.length n) {f:Nat->Nat->Bool} {m:Nat} {p:List Stp} {rt a:Nat} {c d:Val} (h:pairF ND (walkV ND f m p rt a) (stpsV ND p rt)=some (c,d)) :
  ∃ (j:Nat) (x y:Val),c.wt<=549755813888/\d.wt<=549755813888/\x.wt<=549755813888/\y.wt<=549755813888/\fitV ND c (rt:Nat)=true/\fitV ND d (rt:Nat)=true/\getV ND p c (rt:Nat)=some (x,(j:Int))/\getV ND p d (rt:Nat)=some (y,(j:Int))/\setV ND p c (rt:Nat) y=d/\fitV ND x (j:Nat)=true/\fitV ND y (j:Nat)=true/\sameV x y=false:=by
 have hfw:=fun {v u:Val}=>@fill_wt ND L hok f m p rt a v u
 cases hw:walkV ND f m p rt a with
 | none=>rw [hw] at h;cases h
 | some r=>
  obtain ⟨j,b⟩:=r;rw [hw] at h hfw;unfold pairF at h;simp only at h;split at h
  ·rename_i hc;obtain ⟨h1,h2⟩:=hc;obtain ⟨_,hx⟩:=fst_small hok h1;obtain ⟨hy0,hy1,hy⟩:=sec_small hok h2;obtain ⟨hyf,hyn⟩:=sec_fit hok 4096 j hy0 (by omega) hy1;split at h
   ·rename_i a' c' hA hC;cases h;have w1:=hfw hA;have w2:=hfw hC;unfold fillF at hA hC;simp only at hA hC;split at hA
    ·rename_i hA1;split at hC
     ·rename_i hC1;cases hA;cases hC;obtain ⟨a1,a2,a3⟩:=aln_all hok (depOK ND) p rt a hw hA1.2.1 _ hA1.1;obtain ⟨b1,b2,_⟩:=aln_all hok (depOK ND) p rt a hw hA1.2.1 _ hC1.1;refine ⟨j,_,_,by omega,by omega,by omega,by omega,a1,b1,a2,b2,a3 _,hA1.1,hC1.1,?_⟩
      cases hs:sameV (fstV ND (depT ND) j) (secV ND (depT ND) (sevT ND) j) with
      | false=>rfl
      | true=>exact (hyn (sameV_iff.1 hs).symm).elim
     ·cases hC
    ·cases hA
   ·cases h
  ·cases h
theorem node_facts {S:Sch} {ND:List Nd} {PC:List DV} (hP:PlanR S ND PC) (hrn:∀ n∈ND,n.kind=2 -> -9223372036854775808<=n.lo/\n.hi<=9223372036854775807) (i:Int):∃ (U1 U2:Val) (o1 o2:Bool),
  EvP Tryz.prog 32 [.pt PC 0,.v (.int .i64 i)] (.tup [.agg (dVal U1),.v (.bool o1)])/\EvP Tryz.prog 33 [.pt PC 0,.v (.int .i64 i)] (.tup [.agg (dVal U2),.v (.bool o2)]) /\
  (o1=true->EvP Tryz.prog 14 [.pt PC 0,.v (.int .i64 i),.agg (dVal U1)] (.v (.bool true)))/\(o2=true->EvP Tryz.prog 14 [.pt PC 0,.v (.int .i64 i),.agg (dVal U2)] (.v (.bool true))) /\
  (o1=true->o2=true->EvP Tryz.prog 18 [.agg (dVal U1),.agg (dVal U2)] (.v (.bool false))):=by
 refine ⟨_,_,_,_,sFirst_spec hP i,sSecond_spec hP hrn i,fun h=>?_,fun h=>?_,fun h h2=>?_⟩
 ·obtain ⟨j,rfl,h1,h2⟩:=okN_iff.1 h;have h0:=(szT_pos (depOK ND)).1.1 (Nat.pos_of_ne_zero h1);have hw:=(fst_small hP.ok h).2;rw [if_pos h,Int.toNat_natCast];have:=tfits_spec hP _ (fstV ND (depT ND) j) (Nat.le_refl _) (by omega) j
  rwa [fst_fit hP.ok (depOK ND) _ j (Nat.le_refl _) h0] at this
 ·obtain ⟨j,rfl,h1,h2⟩:=okN_iff.1 h;have hw:=(sec_small hP.ok h).2.2;rw [if_pos h,Int.toNat_natCast];have:=tfits_spec hP _ (secV ND (depT ND) (sevT ND) j) (Nat.le_refl _) (by omega) j;have hf:fitV ND (secV ND (depT ND) (sevT ND) j) (j:Nat)=true:=(sec_fit hP.ok 4096 j h1 (by omega) h2).1
  rwa [hf] at this
 ·rw [if_pos h,if_pos h2];obtain ⟨j,rfl,h1,_⟩:=okN_iff.1 h;obtain ⟨j',hj,h3,h4⟩:=okN_iff.1 h2;obtain rfl:j=j':=by omega
  have hw:=(fst_small hP.ok h).2;rw [Int.toNat_natCast];have:=tsame_spec _ (fstV ND (depT ND) j) (Nat.le_refl _) (by omega) (secV ND (depT ND) (sevT ND) j);have hn:secV ND (depT ND) (sevT ND) j≠fstV ND (depT ND) j:=(sec_fit hP.ok 4096 j h3 (by omega) h4).2
  rwa [show sameV (fstV ND (depT ND) j) (secV ND (depT ND) (sevT ND) j)=false by
   cases hs:sameV (fstV ND (depT ND) j) (secV ND (depT ND) (sevT ND) j) with
   | false=>rfl
   | true=>exact (hn (sameV_iff.1 hs).symm).elim] at this
set_option maxHeartbeats 16000000 in
theorem unlike26_law (S:Sch) (hS:S.wt<=1099511627776) (hrS:rngS S) (p:List Stp) (hpw:wtStp p<=549755813888) (_:rngStp p) (i:Int):EvP Tryz.prog 6 [.agg (dSch S),.sl 3 (dStps p) none,.v (.int .i64 i)] (.v (.bool true)):=by
 have hpl:=wtStp_len p;have hp:p.length<=1099511627776:=by omega
 have hs:∀ s∈p,s.s.size<=4611686018427387904:=fun s hs'=>by have:=wtStp_mem hs';omega
 have ga:=great17_spec S hS;have hb:=(build_spec S hS).mono (Ψ:=fun r _ _=>BuiltΦ S r) fun _ _ _ h=>builtΦ_of hS h;have hrn:=nds_i64 hrS;have hro:=@resRoot_ok S;have hdp:=dStps_len p;obtain ⟨levels,order,types,⟨rh,rp⟩⟩:=S;refine ev_go (P:=Tryz.prog) tt tt_ok 5000 149 [.tmp 6] Tryz.func6 rfl Tryz.ntmps6 rfl (nL rfl) (fun E9 w9 hn9 hm9=>?_);refine br (fun c=>?_) (fun c=>?_)
 rotate_left
 ·refine call_p en21 (lives26_spec) ax rfl ?_;exact (rfl:_=_)
 refine call_e en8 rfl ga ax (fun r hr=>?_);obtain ⟨g,rfl⟩:=hr
 cases g with
 | true=>
  refine call_p en21 (lives26_spec) ax rfl ?_;exact (rfl:_=_)
 | false=>
 refine call_e en10 rfl hb ax (fun r hr=>?_);rcases hr with ⟨hr,rfl⟩ | ⟨h0,PC,hP,rfl⟩
 ·generalize resF ⟨levels,order,types,.mk rh rp⟩=R at hr ⊢;obtain ⟨R1,R2⟩:=R;simp only at hr;refine br (fun _=>?_) (fun g=>absurd g (by simp [hr]));refine call_p en21 (lives26_spec) ax rfl ?_;exact (rfl:_=_)
 obtain ⟨rt,hrt,hrl⟩:=hro (fineS_of h0);have hroot:=hP.root;rw [hrt] at hroot;obtain ⟨U1,U2,o1,o2,hF1,hF2,hfa,hfb,hsab⟩:=node_facts hP hrn i;have hpr:=sPair_spec hP hrn p hp hs rt hrt hrl;have hpf:=fun {c d}=>@pair_facts _ _ hP.ok (leqS ⟨levels,order,types,.mk rh rp⟩) levels.length p rt (botF (leqS ⟨levels,order,types,.mk rh rp⟩) levels.length) c d;generalize hQ:pairF (resNds ⟨levels,order,types,.mk rh rp⟩) (walkV (resNds ⟨levels,order,types,.mk rh rp⟩) (leqS ⟨levels,order,types,.mk rh rp⟩) levels.length p rt (botF (leqS ⟨levels,order,types,.mk rh rp⟩) levels.length)) (stpsV (resNds ⟨levels,order,types,.mk rh rp⟩) p rt)=Q at hpf;have hpr:EvP Tryz.prog 27 [.pt PC 0,.sl 3 (dStps p) none] (pairD Q):=by rw [<- hQ];exact hpr
 clear hQ;obtain ⟨u1k,u1n,u1s,u1l⟩:=U1;obtain ⟨u2k,u2n,u2s,u2l⟩:=U2
 cases Q with
 | none=>
  have hpr:EvP Tryz.prog 27 [.pt PC 0,.sl 3 (dStps p) none] (.tup [.agg (dVal zeroV),.agg (dVal zeroV),.v (.bool false)]):=hpr;cases o1<;>cases o2
  ·refine call_p en32 (hF1) ax rfl ?_;refine call_p en33 (hF2) ax rfl ?_;refine call_p en27 (hpr) ax rfl ?_;refine call_p en21 (lives26_spec) ax rfl ?_;exact (rfl:_=_)
  ·refine call_p en32 (hF1) ax rfl ?_;refine call_p en33 (hF2) ax rfl ?_;refine call_p en14 (hfb rfl) ax rfl ?_;refine call_p en27 (hpr) ax rfl ?_;refine call_p en21 (lives26_spec) ax rfl ?_;exact (rfl:_=_)
  ·refine call_p en32 (hF1) ax rfl ?_;refine call_p en33 (hF2) ax rfl ?_;refine call_p en14 (hfa rfl) ax rfl ?_;refine call_p en27 (hpr) ax rfl ?_;refine call_p en21 (lives26_spec) ax rfl ?_;exact (rfl:_=_)
  ·refine call_p en32 (hF1) ax rfl ?_;refine call_p en33 (hF2) ax rfl ?_;refine call_p en14 (hfa rfl) ax rfl ?_;refine call_p en14 (hfb rfl) ax rfl ?_;refine call_p en18 (hsab rfl rfl) ax rfl ?_;refine call_p en27 (hpr) ax rfl ?_;refine call_p en21 (lives26_spec) ax rfl ?_;exact (rfl:_=_)
 | some cd=>
 obtain ⟨c,d⟩:=cd;obtain ⟨j,x,y,hc,hd,hx,hy,hcf,hdf,hcg,hdg,hset,hxf,hyf,hxy⟩:=hpf rfl;have hpr:EvP Tryz.prog 27 [.pt PC 0,.sl 3 (dStps p) none] (.tup [.agg (dVal c),.agg (dVal d),.v (.bool true)]):=hpr;have hg1:=tget_spec hP (v:=c) (by omega) rt p hp;have hg2:=tget_spec hP (v:=d) (by omega) rt p hp;have hst:=tset_spec hP (v:=c) (x:=y) (by omega) (by omega) rt p hp;have hfx:=tfits_spec hP _ x (Nat.le_refl _) (by omega) j;have hsx:=tsame_spec _ x (Nat.le_refl _) (by omega) y;have hsd:=tsame_spec _ d (Nat.le_refl _) (by omega) d;rw [hcf,if_pos rfl,hcg] at hg1 hst;rw [hdf,if_pos rfl,hdg] at hg2;simp only at hst;rw [hyf,if_pos rfl,hset] at hst;rw [hxf] at hfx;rw [hxy] at hsx;rw [sameV_refl] at hsd;have hg1:EvP Tryz.prog 17 [.pt PC 0,.v (.int .i64 (rt:Nat)),.agg (dVal c),.sl 3 (dStps p) none] (.tup [.agg (dVal x),.v (.int .i64 (j:Nat)),.v (.bool true)]):=hg1;have hg2:EvP Tryz.prog 17 [.pt PC 0,.v (.int .i64 (rt:Nat)),.agg (dVal d),.sl 3 (dStps p) none] (.tup [.agg (dVal y),.v (.int .i64 (j:Nat)),.v (.bool true)]):=hg2;have hst:EvP Tryz.prog 34 [.pt PC 0,.v (.int .i64 (rt:Nat)),.agg (dVal c),.sl 3 (dStps p) none,.agg (dVal y)] (.tup [.agg (dVal d),.v (.bool true)]):=hst;obtain ⟨ck,cn,cs,cl⟩:=c;obtain ⟨dk,dn,ds,dl⟩:=d;obtain ⟨xk,xn,xs,xl⟩:=x;obtain ⟨yk,yn,ys,yl⟩:=y;cases o1<;>cases o2
 ·refine call_p en32 (hF1) ax rfl ?_;refine call_p en33 (hF2) ax rfl ?_;refine call_p en27 (hpr) ax rfl ?_;apply drawG_x (fun _=>false) 10 [0,1,2,3,4,5,6,7,8,9] [11,12,13] mo (by decide +kernel);·repeat' (first | refine callD_p en13 (hroot) ax rfl ?_ | refine callD_p en17 (hg1) ax rfl ?_ | exact Or.inl rfl | exact endS | refine ⟨?_,?_⟩)
  apply drawG_x (fun _=>false) 10 [0,1,2,3,4,5,6,7,8,9] [11,12,13] mo (by decide +kernel);·repeat' (first | refine callD_p en13 (hroot) ax rfl ?_ | refine callD_p en17 (hg2) ax rfl ?_ | exact Or.inl rfl | exact endS | refine ⟨?_,?_⟩)
  apply drawG_x (fun _=>false) 10 [0,1,2,3,4,5,6,7,8,9] [11,12] mo (by decide +kernel);·repeat' (first | refine callD_p en13 (hroot) ax rfl ?_ | refine callD_p en34 (hst) ax rfl ?_ | exact Or.inl rfl | exact endS | refine ⟨?_,?_⟩)
  refine call_p en14 (hfx) ax rfl ?_;refine call_p en18 (hsx) ax rfl ?_;refine call_p en18 (hsd) ax rfl ?_;refine call_p en21 (lives26_spec) ax rfl ?_;exact (rfl:_=_)
 ·refine call_p en32 (hF1) ax rfl ?_;refine call_p en33 (hF2) ax rfl ?_;refine call_p en14 (hfb rfl) ax rfl ?_;refine call_p en27 (hpr) ax rfl ?_;apply drawG_x (fun _=>false) 10 [0,1,2,3,4,5,6,7,8,9] [11,12,13] mo (by decide +kernel);·repeat' (first | refine callD_p en13 (hroot) ax rfl ?_ | refine callD_p en17 (hg1) ax rfl ?_ | exact Or.inl rfl | exact endS | refine ⟨?_,?_⟩)
  apply drawG_x (fun _=>false) 10 [0,1,2,3,4,5,6,7,8,9] [11,12,13] mo (by decide +kernel);·repeat' (first | refine callD_p en13 (hroot) ax rfl ?_ | refine callD_p en17 (hg2) ax rfl ?_ | exact Or.inl rfl | exact endS | refine ⟨?_,?_⟩)
  apply drawG_x (fun _=>false) 10 [0,1,2,3,4,5,6,7,8,9] [11,12] mo (by decide +kernel);·repeat' (first | refine callD_p en13 (hroot) ax rfl ?_ | refine callD_p en34 (hst) ax rfl ?_ | exact Or.inl rfl | exact endS | refine ⟨?_,?_⟩)
  refine call_p en14 (hfx) ax rfl ?_;refine call_p en18 (hsx) ax rfl ?_;refine call_p en18 (hsd) ax rfl ?_;refine call_p en21 (lives26_spec) ax rfl ?_;exact (rfl:_=_)
 ·refine call_p en32 (hF1) ax rfl ?_;refine call_p en33 (hF2) ax rfl ?_;refine call_p en14 (hfa rfl) ax rfl ?_;refine call_p en27 (hpr) ax rfl ?_;apply drawG_x (fun _=>false) 10 [0,1,2,3,4,5,6,7,8,9] [11,12,13] mo (by decide +kernel);·repeat' (first | refine callD_p en13 (hroot) ax rfl ?_ | refine callD_p en17 (hg1) ax rfl ?_ | exact Or.inl rfl | exact endS | refine ⟨?_,?_⟩)
  apply drawG_x (fun _=>false) 10 [0,1,2,3,4,5,6,7,8,9] [11,12,13] mo (by decide +kernel);·repeat' (first | refine callD_p en13 (hroot) ax rfl ?_ | refine callD_p en17 (hg2) ax rfl ?_ | exact Or.inl rfl | exact endS | refine ⟨?_,?_⟩)
  apply drawG_x (fun _=>false) 10 [0,1,2,3,4,5,6,7,8,9] [11,12] mo (by decide +kernel);·repeat' (first | refine callD_p en13 (hroot) ax rfl ?_ | refine callD_p en34 (hst) ax rfl ?_ | exact Or.inl rfl | exact endS | refine ⟨?_,?_⟩)
  refine call_p en14 (hfx) ax rfl ?_;refine call_p en18 (hsx) ax rfl ?_;refine call_p en18 (hsd) ax rfl ?_;refine call_p en21 (lives26_spec) ax rfl ?_;exact (rfl:_=_)
 ·refine call_p en32 (hF1) ax rfl ?_;refine call_p en33 (hF2) ax rfl ?_;refine call_p en14 (hfa rfl) ax rfl ?_;refine call_p en14 (hfb rfl) ax rfl ?_;refine call_p en18 (hsab rfl rfl) ax rfl ?_;refine call_p en27 (hpr) ax rfl ?_;apply drawG_x (fun _=>false) 10 [0,1,2,3,4,5,6,7,8,9] [11,12,13] mo (by decide +kernel);·repeat' (first | refine callD_p en13 (hroot) ax rfl ?_ | refine callD_p en17 (hg1) ax rfl ?_ | exact Or.inl rfl | exact endS | refine ⟨?_,?_⟩)
  apply drawG_x (fun _=>false) 10 [0,1,2,3,4,5,6,7,8,9] [11,12,13] mo (by decide +kernel);·repeat' (first | refine callD_p en13 (hroot) ax rfl ?_ | refine callD_p en17 (hg2) ax rfl ?_ | exact Or.inl rfl | exact endS | refine ⟨?_,?_⟩)
  apply drawG_x (fun _=>false) 10 [0,1,2,3,4,5,6,7,8,9] [11,12] mo (by decide +kernel);·repeat' (first | refine callD_p en13 (hroot) ax rfl ?_ | refine callD_p en34 (hst) ax rfl ?_ | exact Or.inl rfl | exact endS | refine ⟨?_,?_⟩)
  refine call_p en14 (hfx) ax rfl ?_;refine call_p en18 (hsx) ax rfl ?_;refine call_p en18 (hsd) ax rfl ?_;refine call_p en21 (lives26_spec) ax rfl ?_;exact (rfl:_=_)
end Go.Proofs.YtadhpeooehkklaaGreat
