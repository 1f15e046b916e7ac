/- Part 5 of the proof: resolve.Build; Reading a plan: Len, Root, Lattice, Node, Find; slices.Clone; of no plan as well; The reference of chapter 17: Great, Same; The program's comparing of schemas; The law's example: a type that leads to itself; The law of no plan: the call returns true; The document's relations: Leads; The document's lattices: Find, pairs, Leq, Loop; The document's lattices: what is wrong; The document's labels: over, Least, Of; The document's schemas: Find, word, all, Flat, End, Start; The document's schemas: Flat, End, Start; The document's schemas: named, unknown; The reference's Wrong returns what is wrong with a type; The document's schemas: what is wrong; The document's nodes: Same, of equal ones; the law's node; The document's nodes: node; The document's plan: Build; What is known of a type with which nothing is wrong; labels have levels; What is known of the nodes of a plan; A plan, as its readers know it; Values, plain; how many are in one, how deep they lie; What is read of a value, as the plain data; What the frames of laws over values share; Values that are the same; Which values fit which nodes: plain, as the program finds it and as the document says it. No condition. -/
import Derived.Test.YtadhpeooehkklaaGreatMg3
import Derived.Test.YtadhpeooehkklaaGreatMg4
set_option linter.all false
set_option maxRecDepth 100000
namespace Go.Proofs.YtadhpeooehkklaaGreat
open Go Go.RowKit Dv Go.Proofs.Tryz
abbrev NA (s:Sch) (aH:List Nat) (lc:List DV) (m:Int) (f1 f2:Int) (n:Nat) (base:List DV) (e:Nat):St:=
 ⟨[(1,⟨[],.loc 4 0⟩),(3,⟨[],.loc 3 0⟩),(6,⟨[],.loc 0 0⟩),(59,⟨[],.sl 11 (dNms s.types) none⟩),(60,⟨[],.v (.int .i64 (dNms s.types).length)⟩),(61,⟨[],.v (.int .i64 e)⟩)],
  [bC s (.pt lc 0) (.loc 1 0) m,Ln s aH lc n,[.v (.int .i64 f1),.v (.int .i64 f2)],[.v (.int .i64 0),.v (.int .i64 0)],fQ s],[GY n base]⟩
theorem xj (s:Sch) (hs:s.wt<=1099511627776):Ev prog 10 [.agg (fQ s)] [] [] (G1 s):=by
 have hF:=lO.eq_1 s;have hw:=hs;simp only [Sch.wt] at hw;have hwl:=bG s.ae;have V9:=j4 s.types;have P9:=DY s.ae s.order (by omega) (by omega);have uD:=fun lc=>BX s lc (by omega)
 have cC:∀ t,(t=s.root∨∃ x∈s.types,t=x.2)->t.wt<=1099511627776:=fun t ht=>by
  rcases ht with rfl | ⟨x,hx,rfl⟩
  ·omega
  ·have:=gU hx;omega
 have YY:=fun lc aH=>GX s lc aH 0 (by omega) (by omega) (by omega) cC;have YZ:=fun (X:Lx) (hX:X.OK) (aH:List Nat) (hT:iF (tL s) aH) (jC:aH.length<=1099511627776) (m:Int)=>Kg s X.pd (GW s aH (jk X.af (de X.af X.aH) X.rows X.js)) m (by omega) 40 Ub (knT X (tL s)) (fun t ht=>xa hX s aH (.pt (jk X.af (de X.af X.aH) X.rows X.js) 0) (.v (.slice none 0 0)) (.v (.int .i64 0)) (.v (.slice none 0 0)) m hT jC t.wt t (Nat.le_refl _) (cC t ht))
 have U3:(eu s).1=0->s.types.length<=64:=fun h=>by
  unfold eu at h;split at h
  ·cases h
  ·omega
 have hLx:=fun d h hd=>@QG s d h hd (by omega);have SR:=fun (lat:DV) (aH:List Nat) (a b c e0:DV) (m:Int)=>GV s lat aH a b c e0 m;have NB:=fun (lc:List DV) (aH:List Nat) (m:Int)=>D8 s lc aH m;have eI:=fun (X:Lx) (hX:X.OK) (aH:List Nat) (m:Int) (hT:iF (tL s) aH) (jC:aH.length<=1099511627776) (t:Ty) (ht:t.wt<=1099511627776)=>Ab hX s aH m hT jC t.wt t (Nat.le_refl _) ht;refine eG 85 [.tmp 2,.cell 3 45] func10 rfl ntmps10 rfl fun _ _ _ _=>?_;generalize hS:s=S at *;obtain ⟨ae,order,types,⟨rh,rp⟩⟩:=s;subst hS;refine ki en36 rfl P9 ax (fun r hr=>?_);by_cases hL:(latF ae order).1≠0
 ·have hL':=hL;rw [if_pos (show (latF (Sch.mk ae order types (.mk rh rp)).ae (Sch.mk ae order types (.mk rh rp)).order).1≠0 from hL)] at hF;unfold GM at hr;rw [if_pos (show (latF (Sch.mk ae order types (.mk rh rp)).ae (Sch.mk ae order types (.mk rh rp)).order).1≠0 from hL)] at hr;subst hr;refine br ?_ ?_<;>intro h
  ·refine dS ?_;exact ⟨_,ax,n4 (os:=[]) (tk:=[]) hF hL⟩
  ·exfalso;simp at h;exact hL h
 unfold GM at hr;rw [if_neg (show ¬ (latF (Sch.mk ae order types (.mk rh rp)).ae (Sch.mk ae order types (.mk rh rp)).order).1≠0 from hL)] at hF hr;obtain ⟨d,hd,rfl⟩:=hr;have hL0:(latF ae order).1=0:=sU hL;obtain ⟨aH,js,hX,rfl⟩:=hLx d hL0 hd;generalize hXX:fH ⟨ae,order,types,.mk rh rp⟩ aH js=X at hX;refine br (fun h=>?_) (fun _=>?_)
 ·exfalso;simp at h;exact hL h
 refine gP.YW 0 4 rfl rfl rfl rfl (gP.YW 1 3 rfl rfl rfl rfl ?_);refine jU 2 0 en37 rfl rfl rfl lZ lZ (uD (jk X.af (de X.af X.aH) X.rows X.js)) (fun r ln dw hΦ h1 h2=>?_);obtain ⟨rfl,JW⟩:=hΦ;have h2:=List.eq_nil_of_length_eq_zero h2;subst h2;by_cases II:(eu ⟨ae,order,types,.mk rh rp⟩).1≠0
 ·rw [if_pos II] at hF
  obtain ⟨a,b,rfl⟩:∃ a b,ln=[a,b]:=by
   match ln,h1 with
   | [a,b],_=>exact ⟨a,b,rfl⟩
  refine br ?_ ?_<;>intro h
  ·refine dS ?_;exact ⟨_,ax,n4 (os:=[]) (tk:=[]) hF II⟩
  ·exfalso;simp at h;exact II h
 rw [if_neg II] at hF;have Y0:(eu ⟨ae,order,types,.mk rh rp⟩).1=0:=sU II;have NC:=U3 Y0;obtain ⟨lr,hT,jC,rfl⟩:=JW Y0;refine br (fun h=>?_) (fun _=>?_)
 ·exfalso;simp at h;exact II h
 refine jU 2 0 Xb rfl rfl rfl lZ lZ (YY (jk X.af (de X.af X.aH) X.rows X.js) lr) (fun r ln dw hΦ h1 h2=>?_);obtain ⟨rfl,rfl⟩:=hΦ;have h2:=List.eq_nil_of_length_eq_zero h2;subst h2;by_cases hR:(eaR (.mk rh rp) types 0).1.1≠0
 ·rw [if_pos (show (eaR (Sch.mk ae order types (.mk rh rp)).root (Sch.mk ae order types (.mk rh rp)).types 0).1.1≠0 from hR)] at hF;refine br ?_ ?_<;>intro h
  ·refine dS ?_;exact ⟨_,ax,n4 (os:=[]) (tk:=[]) hF hR⟩
  ·exfalso;simp at h;exact hR h
 rw [if_neg (show ¬ (eaR (Sch.mk ae order types (.mk rh rp)).root (Sch.mk ae order types (.mk rh rp)).types 0).1.1≠0 from hR)] at hF;have hR0:(eaR (.mk rh rp) types 0).1.1=0:=sU hR;refine br (fun h=>?_) (fun _=>?_)
 ·exfalso;simp at h;exact hR h
 have hea:=YZ X hX lr hT (by have:types.length<=64:=NC;have:lr.length<=types.length:=jC;omega) (eaR (.mk rh rp) types 0).2;have U4:∀ t,knT X (tL ⟨ae,order,types,.mk rh rp⟩) t=kY ⟨ae,order,types,.mk rh rp⟩ t:=fun t=>by rw [<- hXX];exact U2 _ _ _ t
 have U5:eaL (knT X (tL ⟨ae,order,types,.mk rh rp⟩)) (knT X (tL ⟨ae,order,types,.mk rh rp⟩) (.mk rh rp)) types=eaL (kY ⟨ae,order,types,.mk rh rp⟩) (kY ⟨ae,order,types,.mk rh rp⟩ (.mk rh rp)) types:=by
  rw [show knT X (tL ⟨ae,order,types,.mk rh rp⟩)=kY ⟨ae,order,types,.mk rh rp⟩ from funext U4]
 refine u4 Xb hea ax rfl rfl ?_;by_cases hK:(eaL (kY ⟨ae,order,types,.mk rh rp⟩) (kY ⟨ae,order,types,.mk rh rp⟩ (.mk rh rp)) types).1≠0
 ·rw [if_pos (show (eaL (kY ⟨ae,order,types,.mk rh rp⟩) (kY ⟨ae,order,types,.mk rh rp⟩ (Sch.mk ae order types (.mk rh rp)).root) (Sch.mk ae order types (.mk rh rp)).types).1≠0 from hK)] at hF;refine br ?_ ?_<;>intro h
  ·refine dS ?_;refine ⟨.tup [.v (.pointer none),(eaL (knT X (tL ⟨ae,order,types,.mk rh rp⟩)) (knT X (tL ⟨ae,order,types,.mk rh rp⟩) (.mk rh rp)) types).d],ax,?_⟩;rw [U5];exact n4 (os:=[]) (tk:=[]) hF hK
  ·exfalso;simp only [U5] at h;simp at h;exact hK h
 rw [if_neg (show ¬ (eaL (kY ⟨ae,order,types,.mk rh rp⟩) (kY ⟨ae,order,types,.mk rh rp⟩ (Sch.mk ae order types (.mk rh rp)).root) (Sch.mk ae order types (.mk rh rp)).types).1≠0 from hK)] at hF;have QJ:(eaL (kY ⟨ae,order,types,.mk rh rp⟩) (kY ⟨ae,order,types,.mk rh rp⟩ (.mk rh rp)) types).1=0:=sU hK;refine br (fun h=>?_) (fun _=>?_)
 ·exfalso;have h:(!decide ((eaL (knT X (tL ⟨ae,order,types,.mk rh rp⟩)) (knT X (tL ⟨ae,order,types,.mk rh rp⟩) (.mk rh rp)) types).1=0))=true:=h;rw [U5,QJ] at h;simp at h
 have hw2:wdsWt ae + prsWt order + nmsWt types + (Ty.mk rh rp).wt<=1099511627776:=hw;have hnmw:nmsWt types<=1099511627776:=by omega
 obtain ⟨SS,jB⟩:=Nx QJ;have hkr':(knT X (tL ⟨ae,order,types,.mk rh rp⟩) (.mk rh rp)).1=0:=by rw [U4];exact SS
 have Y1:∀ x∈types,(knT X (tL ⟨ae,order,types,.mk rh rp⟩) x.2).1=0:=fun x hx=>by rw [U4];exact jB x hx
 have Y2:∀ x∈types,uJ ⟨ae,order,types,.mk rh rp⟩ x.2=true:=fun x hx=>B0 (Y1 x hx);have QK:lr.length<=1099511627776:=by have:types.length<=64:=NC;have:lr.length<=types.length:=jC;omega
 refine u4 en41 (SR X.pd lr X.pd (.v (.slice none 0 0)) (.v (.int .i64 0)) (.v (.slice none 0 0)) (eaR (.mk rh rp) types 0).2 hT QK NC Y2) ax rfl rfl ?_;by_cases hO:(loopF ⟨ae,order,types,.mk rh rp⟩).1≠0
 ·refine br ?_ ?_<;>intro h
  ·refine dS ?_;exact ⟨_,ax,n4 (os:=[]) (tk:=[]) hF hO⟩
  ·exfalso;simp at h;exact hO h
 have hO0:(loopF ⟨ae,order,types,.mk rh rp⟩).1=0:=sU hO;have hF0:(lO ⟨ae,order,types,.mk rh rp⟩).1=0:=by rw [hF];exact hO0
 refine br (fun h=>?_) (fun _=>?_)
 ·exfalso;simp at h;exact hO h
 refine jU 2 0 en42 rfl rfl rfl lZ lZ (NB (jk X.af (de X.af X.aH) X.rows X.js) lr (eaR (.mk rh rp) types 0).2 hT QK NC Y2 hnmw (Eb hO0)) (fun r ln dw hΦ h1 h2=>?_);subst hΦ;have h2:=List.eq_nil_of_length_eq_zero h2;subst h2;clear uD YY YZ SR NB hea P9;have hN:(dNms types).length=types.length:=dR types;obtain ⟨QL,yB,hcm,Y3⟩:=Ny (Int.le_refl 0) hR0;generalize (eaR (.mk rh rp) types 0).2=m at hcm Y3 ⊢
 refine bo (fun j st=>∃ (e n:Nat) (base:List DV) (N:List Nd),st=NA ⟨ae,order,types,.mk rh rp⟩ lr (jk X.af (de X.af X.aH) X.rows X.js) m (loopF ⟨ae,order,types,.mk rh rp⟩).1 (loopF ⟨ae,order,types,.mk rh rp⟩).2 n base e/\e<=types.length/\n=N.length/\base=(bh N).flatten/\N ++ ndsAll (jf ⟨ae,order,types,.mk rh rp⟩) ⟨ae,order,types,.mk rh rp⟩ (types.drop e) n=rj ⟨ae,order,types,.mk rh rp⟩/\j=types.length - e) types.length
  (NA ⟨ae,order,types,.mk rh rp⟩ lr (jk X.af (de X.af X.aH) X.rows X.js) m (loopF ⟨ae,order,types,.mk rh rp⟩).1 (loopF ⟨ae,order,types,.mk rh rp⟩).2 0 [] 0) (cL 5 ⟨0,105,7,some []⟩ rfl rfl rfl pB rfl rfl lY) ⟨0,0,[],[],rfl,by omega,rfl,rfl,rfl,by omega⟩ ?_
 rintro j st ⟨e,n,base,N,rfl,he,hn,RN,Wc,rfl⟩;have hl64':types.length<=64:=NC;have G4:X.lev=jf ⟨ae,order,types,.mk rh rp⟩:=by rw [<- hXX];all_goals rfl
 have htot:(rj ⟨ae,order,types,.mk rh rp⟩).length + (Ty.mk rh rp).nn<=512:=by
  have h1:=xi types;have h2:=(Ty.mk rh rp).gK;have h3:(rj ⟨ae,order,types,.mk rh rp⟩).length=(types.map fun x=>x.2.nn).sum:=xg _ _ _ _;omega
 have hbl:base.length=n * 7:=by rw [RN,hn,Ah]
 have hNl:n + (ndsAll (jf ⟨ae,order,types,.mk rh rp⟩) ⟨ae,order,types,.mk rh rp⟩ (types.drop e) n).length=(rj ⟨ae,order,types,.mk rh rp⟩).length:=by rw [<- Wc,List.length_append,hn]
 refine br ?_ ?_<;>intro hL
 ·have aj:e < types.length:=by have:=hL;simp [hN] at this;exact this
  obtain ⟨x,hx⟩:=gX aj;have hxm:=mG hx;rw [drop_cons hx,ndsAll] at Wc hNl;rw [List.length_append] at hNl;have fc:=kA (jf ⟨ae,order,types,.mk rh rp⟩) ⟨ae,order,types,.mk rh rp⟩ x.2 n;have eE:=eI X hX lr m hT QK x.2 (cC x.2 (.inr ⟨x,hxm,rfl⟩)) (Y1 x hxm) n base (by omega) hbl;rw [G4] at eE;obtain ⟨xw,⟨xh,xp⟩⟩:=x;refine iX (dNms_get hx) ?_;refine jU 2 1 P4 rfl rfl rfl lZ lZ eE (fun r ln dw hΦ h1 h2=>?_);obtain ⟨rfl,rfl,rfl⟩:=hΦ;refine ⟨NA ⟨ae,order,types,.mk rh rp⟩ lr (jk X.af (de X.af X.aH) X.rows X.js) m (loopF ⟨ae,order,types,.mk rh rp⟩).1 (loopF ⟨ae,order,types,.mk rh rp⟩).2 (n + (ndsT (jf ⟨ae,order,types,.mk rh rp⟩) ⟨ae,order,types,.mk rh rp⟩ (.mk xh xp) n).length) (base ++ (bh (ndsT (jf ⟨ae,order,types,.mk rh rp⟩) ⟨ae,order,types,.mk rh rp⟩ (.mk xh xp) n)).flatten) (e + 1),(ap 5 rfl (na (aF aj (by omega))) rfl rfl rfl (cX (aF aj (by omega)))),types.length - (e + 1),by omega,e + 1,_,_,N ++ ndsT (jf ⟨ae,order,types,.mk rh rp⟩) ⟨ae,order,types,.mk rh rp⟩ (.mk xh xp) n,rfl,by omega,by rw [List.length_append,hn],by rw [RN];simp [bh],?_,rfl⟩;rw [List.append_assoc,fc];exact Wc
 have aM:e=types.length:=sW hN hL;subst aM;rw [List.drop_length,ndsAll,List.append_nil] at Wc;rw [List.drop_length,ndsAll,List.length_nil,Nat.add_zero] at hNl;have hnr:=eI X hX lr m hT QK (.mk rh rp) (by omega) hkr' n base (by omega) hbl;rw [G4] at hnr;intro E a w hr;have hY:=jo hr;obtain ⟨b0,ty0,JA,ie,hw0,Jz⟩:=hY.env.eU 0 _ rfl;obtain ⟨b1,ty1,arr1,o9,hw1,Ia⟩:=hY.env.eU 1 _ rfl;obtain ⟨v13,hv13,Y4⟩:=RvL.get (i:=13) (d:=.loc 1 0) Jz.1 rfl
 have Y5:v13 = .pointer (some ⟨b1,0,none⟩):=by
  unfold Rv at Y4;obtain ⟨b,hb,rfl⟩:=Y4;rw [o9] at hb;simp only [oI] at hb;rw [hb]
 subst Y5
 have qD:w.drew.cell? ⟨b0,13,none⟩=some (.pointer (some ⟨b1,0,none⟩)):=by
  rw [cF hw0];simpa using hv13
 have T4:=QA hY.env [0,1,2,3];generalize Bu:maskL [0,1,2,3] 0 _=bxm at T4
 have hbmi:∀ (i:Nat) cs,bxm[i]? = some cs->cs ≠ []->2<=i:=fun i cs hi bg=>by
  rw [<- Bu] at hi
  match i,hi with
  | 0,hi=>exact (bg (by simpa [maskL] using hi.symm)).elim
  | 1,hi=>exact (bg (by simpa [maskL] using hi.symm)).elim
  | i + 2,_=>omega
 refine lg (C:=fun w'=>CC E bxm w.drew w' /\ w'.cell? ⟨b0,13,none⟩=some (.pointer (some ⟨b1,0,none⟩))) (W:=fun i=>Nat.beq i 10) (Q:=fun a w=>kq _ _ .normal a w) mo (by decide +kernel) (fun _ _ h=>h) ⟨⟨fun _ _ _ _ _ _=>rfl,hY.env.sub⟩,qD⟩ ?_;show Go.Proofs.YtadhpeooehkklaaGreat.Dv.runT _ _ _ _ _ [0,1,2,3,4,5,6,7,8,9,10] _ _;refine mJ hY rfl rfl rfl rfl rfl rfl (fun a0 h0=>?_);refine mJ h0 rfl rfl rfl rfl rfl rfl (fun a1 h1=>?_);refine mJ h1 rfl rfl rfl rfl rfl rfl (fun a2 h2=>?_);refine QC h2 rfl o9 rfl rfl ie rfl rfl (fun w' h=>h.2) ⟨⟨fun _ _ _ _ _ _=>rfl,hY.env.sub⟩,qD⟩ rfl rfl (fun a3 h3=>?_);refine mJ h3 rfl rfl rfl rfl rfl rfl (fun a4 h4=>?_);refine mJ h4 rfl rfl rfl rfl rfl rfl (fun a5 h5=>?_);refine QB h5 rfl (bx:=bxm) (Qz h5 T4 (fun w' h=>h.1)) ⟨⟨fun _ _ _ _ _ _=>rfl,hY.env.sub⟩,qD⟩ rfl rfl (by rw [<- Bu];rfl) rfl (fun a6 h6=>?_);refine QD h6 rfl rfl rfl rfl rfl rfl P4 2 1 rfl rfl lZ lZ hnr rfl rfl ?_;intro v r ln dw E' w' hΦ _ _ bZ Sn hx hβ hh;obtain ⟨rfl,rfl,rfl⟩:=hΦ;refine ⟨fun _ hC=>⟨⟨fun i b cs hb cW bg=>?_,fun x v V6=>bZ.env.sub x v (hx.c x v V6)⟩,?_⟩,?_⟩
 ·exact hh i b (hbmi i cs cW bg) hb
 ·obtain ⟨b0',ty0',arr0',U6,hw0',hc0'⟩:=bZ.env.eU 0 _ rfl;rw [hβ,ie] at U6;simp only [oI] at U6;subst U6;obtain ⟨u13,hu13,Y6⟩:=RvL.get (i:=13) (d:=.loc 1 0) hc0'.1 rfl;unfold Rv at Y6;obtain ⟨b,hb,rfl⟩:=Y6;rw [hβ,o9] at hb;simp only [oI] at hb;subst hb;rw [cF hw0'];simpa using hu13
 have h7:=bz (dst:=some 77) bZ rfl _ v Sn;have hrN:(rj ⟨ae,order,types,.mk rh rp⟩).length=n:=by rw [<- Wc,hn]
 have sf:base ++ (bh (ndsT (jf ⟨ae,order,types,.mk rh rp⟩) ⟨ae,order,types,.mk rh rp⟩ (.mk rh rp) n)).flatten=(bh (aV ⟨ae,order,types,.mk rh rp⟩)).flatten:=by
  unfold aV;rw [hrN,<- Wc,RN];simp [bh]
 have Y7:(bh (aV ⟨ae,order,types,.mk rh rp⟩)).length=n + (ndsT (jf ⟨ae,order,types,.mk rh rp⟩) ⟨ae,order,types,.mk rh rp⟩ (.mk rh rp) n).length:=by
  unfold aV;rw [hrN];simp [bh,hrN]
 obtain ⟨E3,h8⟩:=QE h7 1 1 0 (ns:=bh (aV ⟨ae,order,types,.mk rh rp⟩)) (congrArg (fun b=>some (GY (n + (ndsT (jf ⟨ae,order,types,.mk rh rp⟩) ⟨ae,order,types,.mk rh rp⟩ (.mk rh rp) n).length) b)) sf) (fun x hx=>by
  simp only [bh,List.mem_map] at hx;obtain ⟨y,_,rfl⟩:=hx
  rfl) Y7 rfl rfl List.length_replicate
 refine mJ h8 rfl rfl rfl rfl rfl rfl (fun a8 h9=>?_);refine mJ h9 rfl rfl rfl rfl rfl rfl (fun a9 zk=>?_);refine Kl zk rfl rfl rfl rfl rfl rfl ?_;refine ⟨.tup [.pt [X.pd,.sl 7 (bh (aV ⟨ae,order,types,.mk rh rp⟩)) none,.v (.int .i64 (nY ⟨ae,order,types,.mk rh rp⟩ (.mk rh rp) n)),.pt (de (tL ⟨ae,order,types,.mk rh rp⟩) lr) 0,.sl 1 (dInts (namedL ⟨ae,order,types,.mk rh rp⟩)) none] 0,Ft.d (0,0)],ax,QH (os:=[]) (tk:=[]) hF0 ⟨aH,lr,js,by rw [hXX];exact hX,hT,jC,?_⟩⟩;rw [SP,hXX,fT,hrN]
theorem QM (es:List (List DV)) (hl:es.length<=1099511627776):Ev prog 104 [.sl 1 es none] [] [] (fun r _ _=>r = .sl 1 es none∨(es=[]/\r = .v (.slice none 0 0))):=by
 refine eG 8 [.tmp 2] func104 rfl ntmps104 rfl fun _ _ _ _=>?_;refine Nu ⟨_,rfl⟩ rfl rfl rfl rfl (fun b hb=>?_);refine br ?_ ?_<;>intro h
 ·have h:b=true:=h;have he:es=[]:=Classical.byContradiction fun hn=>by rw [hb hn] at h;cases h
  subst he;exact Or.inr ⟨rfl,rfl⟩
 ·refine Ea rfl rfl rfl rfl (hk:=?_);refine ⟨rfl,⟨by simp [maxLen];omega,by simp;omega⟩,?_⟩;exact ⟨_,ax,Or.inl rfl⟩
theorem QN (es:List (List DV)) (hl:es.length<=1099511627776):Ev prog 105 [.sl 10 es none] [] [] (fun r _ _=>r = .sl 10 es none∨(es=[]/\r = .v (.slice none 0 0))):=by
 refine eG 8 [.tmp 2] func105 rfl ntmps105 rfl fun _ _ _ _=>?_;refine Nu ⟨_,rfl⟩ rfl rfl rfl rfl (fun b hb=>?_);refine br ?_ ?_<;>intro h
 ·have h:b=true:=h;have he:es=[]:=Classical.byContradiction fun hn=>by rw [hb hn] at h;cases h
  subst he;exact Or.inr ⟨rfl,rfl⟩
 ·refine Ea rfl rfl rfl rfl (hk:=?_);refine ⟨rfl,⟨by simp [maxLen];omega,by simp;omega⟩,?_⟩;exact ⟨_,ax,Or.inl rfl⟩
def Y8 (lc:List DV) (z8:List Nd) (root:Int) (L:List ByteArray) (aH:List Nat) (named:List Nat):DV:=.pt [.pt lc 0,.sl 7 (bh z8) none,.v (.int .i64 root),.pt (de L aH) 0,.sl 1 (dInts named) none] 0
theorem cp (l:List Nd):(bh l).length=l.length:=by simp [bh]
theorem bV {l:List Nd} {i:Nat} {n:Nd} (h:l[i]? = some n):(bh l)[i]? = some (gv n):=by simp [bh,h]
section
variable (lc:List DV) (z8:List Nd) (root:Int) (L:List ByteArray) (aH:List Nat) (named:List Nat)
theorem sY:aQ prog 103 [Y8 lc z8 root L aH named] (.v (.int .i64 z8.length)):=by
 refine eG 10 [.tmp 2] func103 rfl ntmps103 rfl fun _ _ _ _=>?_;refine (congrArg (fun z=>DV.v (.int .i64 z)) ?_:_=_);rw [cp]
theorem G5:aQ prog 13 [Y8 lc z8 root L aH named] (.v (.int .i64 root)):=by
 refine eG 9 [.tmp 2] func13 rfl ntmps13 rfl fun _ _ _ _=>?_;exact (rfl:_=_)
theorem Km:aQ prog 139 [Y8 lc z8 root L aH named] (.pt lc 0):=by
 refine eG 9 [.tmp 2] func139 rfl ntmps139 rfl fun _ _ _ _=>?_;exact ⟨_,ax,rfl⟩
theorem G6 (i:Nat) (n:Nd) (h:z8[i]? = some n) (hn:n.af.length<=1099511627776) (he:n.ai.length<=1099511627776) :
  aQ prog 44 [Y8 lc z8 root L aH named,.v (.int .i64 i)] (.tup [.agg (gv n),.v (.bool true)]):=by
 have aj:=(gS h).1;have hlen:=sY lc z8 root L aH named;have Ia:=QM (eV n.af) (by rw [ch];exact hn);have lf:=QN (cw n.ai) (by rw [aO];exact he);refine eG 32 [.cell 4 105,.tmp 5] func44 rfl ntmps44 rfl fun _ _ _ _=>?_;refine cP Dp hlen ?_;refine br ?_ ?_<;>intro g
 ·exfalso;simp [pickB] at g;omega
 refine iX (bV h) ?_;refine dS ?_;refine qP Xs rfl Ia ax (fun r1 hr1=>?_);rcases hr1 with rfl | ⟨h1,rfl⟩
 ·refine qP RX rfl lf ax (fun r2 hr2=>?_);rcases hr2 with rfl | ⟨h2,rfl⟩
  ·exact ⟨.tup [.agg (gv n),.v (.bool true)],ax,rfl⟩
  ·exact ⟨.tup [.agg (gv n),.v (.bool true)],(by repeat' (first | exact rfl | exact trivial | exact Or.inr (Or.inl ⟨_,rfl⟩) | exact Or.inr ⟨_,rfl⟩ | exact Or.inl ⟨rfl,rfl⟩ | exact Or.inl rfl | refine Or.inr ⟨_,_,rfl,Nat.zero_le _,rfl,?_⟩ | refine ⟨_,_,rfl,?_,?_⟩ | refine ⟨_,rfl,?_⟩ | exact Or.inl ⟨h2,rfl⟩ | refine Or.inr (Or.inr (Or.inr ⟨_,_,rfl,?_⟩)) | exact Or.inl rfl | refine Or.inr ?_)),rfl⟩
 ·refine qP RX rfl lf ax (fun r2 hr2=>?_);rcases hr2 with rfl | ⟨h2,rfl⟩
  ·exact ⟨.tup [.agg (gv n),.v (.bool true)],(by repeat' (first | exact rfl | exact trivial | exact Or.inr (Or.inl ⟨_,rfl⟩) | exact Or.inr ⟨_,rfl⟩ | exact Or.inl ⟨rfl,rfl⟩ | exact Or.inl rfl | refine Or.inr ⟨_,_,rfl,Nat.zero_le _,rfl,?_⟩ | refine ⟨_,_,rfl,?_,?_⟩ | refine ⟨_,rfl,?_⟩ | exact Or.inl ⟨h1,rfl⟩ | refine Or.inr (Or.inr (Or.inr ⟨_,_,rfl,?_⟩)) | exact Or.inl rfl | refine Or.inr ?_)),rfl⟩
  ·exact ⟨.tup [.agg (gv n),.v (.bool true)],(by repeat' (first | exact rfl | exact trivial | exact Or.inr (Or.inl ⟨_,rfl⟩) | exact Or.inr ⟨_,rfl⟩ | exact Or.inl ⟨rfl,rfl⟩ | exact Or.inl rfl | refine Or.inr ⟨_,_,rfl,Nat.zero_le _,rfl,?_⟩ | refine ⟨_,_,rfl,?_,?_⟩ | refine ⟨_,rfl,?_⟩ | exact Or.inl ⟨h1,rfl⟩ | exact Or.inl ⟨h2,rfl⟩ | refine Or.inr (Or.inr (Or.inr ⟨_,_,rfl,?_⟩)) | exact Or.inl rfl | refine Or.inr ?_)),rfl⟩
theorem G7 (i:Int) (h:i < 0∨z8.length<=i) :
  aQ prog 44 [Y8 lc z8 root L aH named,.v (.int .i64 i)] (.tup [.agg [.v (.int .i64 0),.v (.int .i64 0),.v (.int .i64 0),.v (.int .i64 0),.v (.int .i64 0),.v (.slice none 0 0),.v (.slice none 0 0)],.v (.bool false)]):=by
 have hlen:=sY lc z8 root L aH named;refine eG 32 [.cell 4 105,.tmp 5] func44 rfl ntmps44 rfl fun _ _ _ _=>?_;refine br ?_ ?_<;>intro g
 ·refine cP Dp hlen ?_;refine br ?_ ?_<;>intro g2
  ·exact ⟨_,ax,rfl⟩
  ·exfalso;simp at g;simp [pickB,g] at g2;omega
 ·exact ⟨_,ax,rfl⟩
end
abbrev B1 (s:Sch) (n d k q:Int) (e:Nat):St:=
 ⟨[(1,⟨[],.loc 0 0⟩),(3,⟨[],.v (.int .i64 n)⟩),(4,⟨[],.v (.int .i64 d)⟩),(5,⟨[],.v (.int .i64 e)⟩)],[fQ s],[]⟩
theorem B2 (s:Sch) (cC:s.wt<=1099511627776):Ev prog 8 [.agg (fQ s)] [] [] (fun d _ _=>∃ b:Bool,d = .v (.bool b)):=by
 have h1:=bG s.ae;have h2:=ja s.order;have h3:=j4 s.types;simp only [Sch.wt] at cC;have nW:=kU s.root.wt s.root (Nat.le_refl _) (by omega);obtain ⟨ae,order,types,⟨h,ps⟩⟩:=s;simp only at h1 h2 h3 cC nW;refine eG 60 [.tmp 2] func8 rfl ntmps8 rfl fun _ _ _ _=>?_;refine br ?_ ?_<;>intro _
 ·exact ⟨true,rfl⟩
 refine cP PZ nW ?_;refine lI (fun j st=>∃ (e:Nat) (n d:Int),st=B1 ⟨ae,order,types,.mk h ps⟩ n d 0 0 e/\e<=types.length/\j=types.length - e) ⟨0,_,_,rfl,by omega,rfl⟩ (ah ⟨_,rfl⟩ wA rfl rfl rfl wB) ?_;rintro j st ⟨e,n,d,rfl,he,rfl⟩;refine br ?_ ?_<;>intro hL
 ·have aj:e < types.length:=by have:=hL;simp [dR] at this;exact this
  obtain ⟨w,hw⟩:=gX aj;have yB:=gU (mG hw);have hs:=kU w.2.wt w.2 (Nat.le_refl _) (by omega);obtain ⟨w,u,us⟩:=w;simp only at hs;refine iX (dNms_get hw) ?_;refine cP PZ hs ?_;refine br ?_ ?_<;>intro _
  ·exact ⟨B1 ⟨ae,order,types,.mk h ps⟩ _ _ 0 0 (e + 1),(ah ⟨_,rfl⟩ wA rfl rfl rfl (cX (aF aj (by omega)))),types.length - (e + 1),by omega,e + 1,_,_,rfl,by omega,rfl⟩
  ·exact ⟨B1 ⟨ae,order,types,.mk h ps⟩ _ _ 0 0 (e + 1),(ah ⟨_,rfl⟩ wA rfl rfl rfl (cX (aF aj (by omega)))),types.length - (e + 1),by omega,e + 1,_,_,rfl,by omega,rfl⟩
 exact ⟨_,rfl⟩
def samePrs:List (Wd × Wd)->List (Wd × Wd)->Bool
 | [],[]=>true
 | x :: r,y :: s=>(decide (x.1.s=y.1.s) && decide (x.2.s=y.2.s)) && samePrs r s
 | _,_=>false
def sameNms:List (Wd × Ty)->List (Wd × Ty)->Bool
 | [],[]=>true
 | x :: r,y :: s=>(decide (x.1.s=y.1.s) && sameTy x.2 y.2) && sameNms r s
 | _,_=>false
def Ie (a b:Sch):Bool:=sameWds a.ae b.ae && samePrs a.order b.order && sameTy a.root b.root && sameNms a.types b.types
theorem Kn:∃ d,Op.maxDepth=d + 1 + 1 + 1:=⟨Op.maxDepth - 3,by decide⟩
theorem NE (p q r s:Int) (w:World):(Op.equal 45 (.agg #[.int .i64 p,.int .i64 q]) (.agg #[.int .i64 r,.int .i64 s])).run prog w = .ok (decide (p=r) && decide (q=s)) w:=by
 have hf:prog.underlying 45=some (.struct (prog.fieldsOf 45)):=by simp [Program.fieldsOf,Tryz.underlying45]
 have vF:(prog.fieldsOf 45).toList=[⟨ "E",43,0,false, "", "",0⟩,⟨ "At",3,1,false, "", "",8⟩]:=by simp [Program.fieldsOf,Tryz.underlying45]
 have hs:prog.stoodInHeld 45=false:=by kernel_rfl
 obtain ⟨d,hm⟩:=Kn
 have q9:∀ cs:Array Value,∀ off v,cs[off]? = some v->(part 43 cs off).run prog w = .ok v w:=fun cs off v h=>by
  simp [part,Tryz.isAgg43,h]
 have q3:∀ cs:Array Value,∀ off v,cs[off]? = some v->(part 3 cs off).run prog w = .ok v w:=fun cs off v h=>by
  simp [part,Tryz.isAgg3,h]
 unfold Op.equal;rw [hm,run_equalIn_struct w (d + 1 + 1) 45 _ _ hf hs,vF];simp only [Op.eqFields,ne_eq,String.reduceEq,not_false_eq_true,if_true,Sem.run_bind,q9 #[.int .i64 p,.int .i64 q] 0 (.int .i64 p) rfl,q9 #[.int .i64 r,.int .i64 s] 0 (.int .i64 r) rfl,Result.andThen_ok,run_equalIn_int w (d + 1) 43 .i64 .i64 p r Tryz.underlying43];by_cases h:p=r
 ·subst h;have e1:=q3 #[.int .i64 p,.int .i64 q] 1 (.int .i64 q) rfl;have e2:=q3 #[.int .i64 p,.int .i64 s] 1 (.int .i64 s) rfl;have e3:=run_equalIn_int w (d + 1) 3 .i64 .i64 q s Tryz.underlying3;by_cases h2:q=s
  ·subst h2;simp [e1,e3,Sem.run_pure]
  ·simp [e1,e2,e3,h2,Sem.run_pure]
 ·simp [h,Sem.run_pure]
theorem U7 (p q r s:Int) (w:World):(binOp .eql 45 (.agg #[.int .i64 p,.int .i64 q]) (.agg #[.int .i64 r,.int .i64 s])).run prog w = .ok (.bool (decide (p=r) && decide (q=s))) w:=by
 show ((do let r <- Op.equal 45 _ _;pure (Value.bool r)):Sem Value).run prog w=_;simp only [Sem.run_bind,NE p q r s w,Result.andThen_ok,Sem.run_pure]
theorem NF (op:BinOp) (w:World) (x y:Operand) (vs vs':Array Value):(eqGuard op 45 x y (.agg vs) (.agg vs')).run prog w = .ok () w:=by
 have h:prog.eqGuardType prog.depth 45=false:=by kernel_rfl
 cases op<;>simp [eqGuard,run_program,h]
theorem U8 (x y:Operand) (f g:Ft):Bc prog .eql x y 45 [.v (.int .i64 f.1),.v (.int .i64 f.2)] [.v (.int .i64 g.1),.v (.int .i64 g.2)] (decide (f.1=g.1) && decide (f.2=g.2)):=
 ⟨[.int .i64 f.1,.int .i64 f.2],[.int .i64 g.1,.int .i64 g.2],rfl,rfl,fun w=>⟨NF _ w x y _ _,U7 f.1 f.2 g.1 g.2 w⟩⟩
end Go.Proofs.YtadhpeooehkklaaGreat
set_option maxRecDepth 100000
namespace Go.Proofs.YtadhpeooehkklaaGreat
open Go Go.RowKit Dv Go.Proofs.Tryz
end Go.Proofs.YtadhpeooehkklaaGreat
set_option maxRecDepth 100000
namespace Go.Proofs.YtadhpeooehkklaaGreat
open Go Go.RowKit Dv Go.Proofs.Tryz
def cB (r:List Bool):List DV:=r.map fun b=>DV.v (.bool b)
def ql (r:List Bool):List (List DV):=r.map fun b=>[DV.v (.bool b)]
def cH (m:List (List Bool)):List (List DV):=m.map fun r=>[DV.sl 1 (ql r) none]
theorem pQ (r:List Bool):(cB r).length=r.length:=by simp [cB]
theorem va (r:List Bool):(ql r).length=r.length:=by simp [ql]
theorem xm (m:List (List Bool)):(cH m).length=m.length:=by simp [cH]
theorem G8 {r:List Bool} {i:Nat} {b:Bool} (h:r[i]? = some b):(cB r)[i]? = some (DV.v (.bool b)):=by simp [cB,h]
theorem xq (r:List Bool) (i:Nat) (b:Bool):(cB r).set i (DV.v (.bool b))=cB (r.set i b):=by simp [cB,List.map_set]
theorem rk {r:List Bool} {i:Nat} {b:Bool} (h:r[i]? = some b):(ql r)[i]? = some [DV.v (.bool b)]:=by simp [ql,h]
theorem NG {m:List (List Bool)} {i:Nat} {r:List Bool} (h:m[i]? = some r):(cH m)[i]? = some [DV.sl 1 (ql r) none]:=by simp [cH,h]
theorem rm (r:List Bool):(ql r).flatten=cB r:=by
 induction r with
 | nil=>rfl
 | cons b r ih=>simp only [ql,cB,List.map_cons,List.flatten_cons] at ih ⊢;rw [ih];all_goals rfl
theorem Ec (n:Nat):(List.replicate n (vL [Value.bool false])).flatten=cB (List.replicate n false):=by
 induction n with
 | zero=>rfl
 | succ n ih=>simp only [List.replicate_succ,List.flatten_cons,ih];rfl
theorem bR {n m:Nat} {tk:List TkE} {l:List DV} {r:List Bool} (h:l=cB r):WeL n m tk l (cB r):=by
 subst h;refine wI _ fun x hx=>?_;obtain ⟨z,_,rfl⟩:=List.mem_map.1 hx;exact ⟨_,rfl⟩
theorem SU {bx:List (List DV)} {N n0 m0 n:Nat} {r:List Bool} (hr:r.length=n) (hN:N<=0) (hb:bx[0]? = some (cB r)):Cc bx N n0 m0 (.sl 1 (ql r) none) (.ms 0 1 0 n n):=by
 simp only [Cc];refine Or.inr (Or.inr (Or.inl ⟨0,0,n,_,by rw [va,hr],hN,hb,?_,?_,?_⟩))
 ·rw [rm,List.drop_zero,List.take_of_length_le (by rw [pQ,va];omega)]
 ·intro x hx;simp only [ql,List.mem_map] at hx;obtain ⟨_,_,rfl⟩:=hx;rfl
 ·intro x hx;rw [rm] at hx;obtain ⟨_,_,rfl⟩:=List.mem_map.1 hx;exact ⟨_,rfl⟩
def gf (n:Nat) (l:List (Nat × Nat)):List (List Bool):=(List.range n).map (uH n l)
theorem G9 (n:Nat) (l:List (Nat × Nat)):(gf n l).length=n:=by simp [gf]
theorem Ha {n a:Nat} (l:List (Nat × Nat)) (h:a < n):(gf n l)[a]? = some (uH n l a):=by simp [gf,List.getElem?_range h]
theorem Ko {n:Nat} {l:List (Nat × Nat)} (h:sF n l):gf n l=dt n (fh n l):=by
 unfold gf dt;exact List.map_congr_left fun a ha=>Qj h (List.mem_range.1 ha)
def jI (l:List (Nat × Nat)) (r:List Bool) (e:Nat):List Bool:=(l.take e).foldl iv r
theorem Hb (l:List (Nat × Nat)) (r:List Bool) (e:Nat):(jI l r e).length=r.length:=pK (l.take e) r
theorem Ee {l:List (Nat × Nat)} {r:List Bool} {e:Nat} {p:Nat × Nat} (h:l[e]? = some p):jI l r (e + 1)=iv (jI l r e) p:=by
 unfold jI;rw [List.take_add_one,h];simp
abbrev ldSt (n:Nat) (l:List (Nat × Nat)) (q e:Nat):St:=
 ⟨[(0,⟨[],.v (.int .i64 n)⟩),(1,⟨[],.sl 2 (mz l) none⟩),(5,⟨[],.sl 1 (cH ((gf n l).take e)) (some 0)⟩),(6,⟨[],.v (.int .i64 e)⟩)],[],[⟨q,140,1,none⟩]⟩
abbrev Y9 (n:Nat) (l:List (Nat × Nat)) (q e:Nat) (r:List Bool) (k:Nat):St:=
 ⟨[(0,⟨[],.v (.int .i64 n)⟩),(1,⟨[],.sl 2 (mz l) none⟩),(5,⟨[],.sl 1 (cH ((gf n l).take e)) (some 0)⟩),(6,⟨[],.v (.int .i64 e)⟩),(7,⟨[],.ms 0 1 0 n n⟩),(8,⟨[],.v (.int .i64 k)⟩)],[cB r],[⟨q,140,1,none⟩]⟩
abbrev Za (n:Nat) (l:List (Nat × Nat)) (q e:Nat) (r:List Bool) (k i:Nat):St:=
 ⟨[(0,⟨[],.v (.int .i64 n)⟩),(1,⟨[],.sl 2 (mz l) none⟩),(5,⟨[],.sl 1 (cH ((gf n l).take e)) (some 0)⟩),(6,⟨[],.v (.int .i64 e)⟩),(7,⟨[],.ms 0 1 0 n n⟩),(8,⟨[],.v (.int .i64 k)⟩),(9,⟨[],.v (.int .i64 i)⟩)],[cB r],[⟨q,140,1,none⟩]⟩
abbrev Zb (n:Nat) (l:List (Nat × Nat)) (q e:Nat) (r:List Bool):St:=
 ⟨[(0,⟨[],.v (.int .i64 n)⟩),(1,⟨[],.sl 2 (mz l) none⟩),(6,⟨[],.v (.int .i64 e)⟩),(46,⟨[],.sl 1 (cH ((gf n l).take e)) (some 0)⟩),(47,⟨[],.sl 1 (ql r) none⟩)],[],[⟨q,140,1,none⟩]⟩
theorem Hc (n:Nat) (hn:n<=64) (l:List (Nat × Nat)) (hP:sF n l) (hb:l.length<=1099511627776) :
  aQ prog 133 [.v (.int .i64 n),.sl 2 (mz l) none] (.sl 1 (cH (gf n l)) none):=by
 have hNl:=ir l;have Zc:=G9 n l;refine eG 51 [.tmp 4] func133 rfl ntmps133 rfl fun _ _ _ _=>?_;refine lJ (fun e=>ldSt n l e e) n (fu ⟨0,140,1,none⟩ rfl ⟨_,rfl⟩ rfl wA rfl rfl lY) ?_;intro e he;refine br ?_ ?_<;>intro hL
 ·have aj:e < n:=by have:=hL;simp at this;exact this
  have hr0l:((List.replicate n false).set e true).length=n:=by simp
  refine ⟨⟨rfl,by omega,by omega,by omega⟩,?_⟩;refine ⟨⟨by omega,by omega⟩,?_⟩;refine ⟨by rw [Ec,pQ,List.length_replicate];omega,?_⟩
  have ie:((List.replicate (n:Int).toNat (vL [Value.bool false])).flatten).set (0 + (e:Int).toNat * 1) (DV.v (.bool true))=cB (cV l ((List.replicate n false).set e true) 0):=by
   rw [Ec,show 0 + (e:Int).toNat * 1=e by omega,show (n:Int).toNat=n by omega,xq];rfl
  refine lJ (fun k=>Y9 n l e e (cV l ((List.replicate n false).set e true) k) k) n (ap 1 rfl (na ie) rfl rfl rfl (cX ie)) ?_;intro k hk;have ed:=fC l ((List.replicate n false).set e true) k;have Bb:=eS l ((List.replicate n false).set e true) k;refine br ?_ ?_<;>intro kx
  ·have jB:k < n:=by have:=kx;simp at this;exact this
   generalize cV l ((List.replicate n false).set e true) k=r at ed Bb ⊢;rw [hr0l] at ed;refine lJ (fun i=>Za n l e e (jI l r i) k i) l.length (ap 1 rfl pB rfl rfl rfl lY) ?_;intro i hi;have nu:=Hb l r i;refine br ?_ ?_<;>intro hL3
   ·have Zd:i < l.length:=by have:=hL3;simp [hNl] at this;exact this
    obtain ⟨p,hp⟩:∃ p,l[i]? = some p:=⟨_,gE Zd⟩;obtain ⟨sv,Dk⟩:=hP p (mG hp);have QO:=Ee (r:=r) hp;obtain ⟨b,o9⟩:∃ b,(jI l r i)[p.1]? = some b:=⟨_,gE (by omega)⟩;have Le:(jI l r i).getD p.1 false=b:=by simp [List.getD_eq_getElem?_getD,o9]
    rw [iv,Le] at QO;refine iX (wE hp) ?_;refine ⟨⟨by decide,by decide⟩,?_⟩;refine ⟨⟨by omega,by omega⟩,?_⟩;refine ⟨_,(show (cB (jI l r i))[0 + (p.1:Int).toNat * 1]? = some (.v (.bool b)) by rw [show 0 + (p.1:Int).toNat * 1=p.1 by omega];exact G8 o9),?_⟩;refine br ?_ ?_<;>intro g
    ·have g:b=true:=g;rw [if_pos g] at QO;refine iX (wE hp) ?_;refine ⟨⟨by decide,by decide⟩,?_⟩;refine ⟨⟨by omega,by omega⟩,?_⟩;refine ⟨by rw [pQ];omega,?_⟩
     have kR:(cB (jI l r i)).set (0 + (p.2:Int).toNat * 1) (DV.v (.bool true))=cB (jI l r (i + 1)):=by
      rw [show 0 + (p.2:Int).toNat * 1=p.2 by omega,xq,QO]
     exact rE ⟨_,by omega,i + 1,rfl,by omega,rfl⟩ (ap 1 rfl (gj kR (aF Zd (by omega))) rfl rfl rfl (wB2 kR (aF Zd (by omega))))
    ·have g:¬ b=true:=by rw [show b=false from g];decide
     rw [if_neg g] at QO;exact rE ⟨_,by omega,i + 1,rfl,by omega,rfl⟩ (ap 1 rfl (by repeat' (first | exact rfl | exact ay rfl | exact bR (by rw [QO]) | exact aA (aF Zd (by omega)) | refine ⟨_,_,rfl,?_,?_⟩)) rfl rfl rfl (by repeat' (first | exact trivial | exact ay rfl | exact bR (by rw [QO]) | exact aA (aF Zd (by omega)) | refine ⟨⟨_,rfl,?_⟩,?_⟩)))
   ·have aM:i=l.length:=sW hNl hL3;subst aM;have Ze:jI l r l.length=cV l ((List.replicate n false).set e true) (k + 1):=by rw [Bb,jI,List.take_length];all_goals rfl
    exact rE ⟨_,by omega,k + 1,rfl,by omega,rfl⟩ (ap 1 rfl (by repeat' (first | exact rfl | exact ay rfl | exact bR (by rw [Ze]) | exact aA (aF jB (by omega)) | refine ⟨_,_,rfl,?_,?_⟩)) rfl rfl rfl (by repeat' (first | exact trivial | exact ay rfl | exact bR (by rw [Ze]) | exact aA (aF jB (by omega)) | refine ⟨⟨_,rfl,?_⟩,?_⟩)))
  ·have aM:k=n:=by have:=kx;simp at this;omega
   subst aM;have sf:cV l ((List.replicate k false).set e true) k=uH k l e:=rfl;rw [sf];have hrw:=q5 k l e;refine K8.wk (.CS (st':=Zb k l e e (uH k l e)) 0 rfl rfl rfl rfl ?_) rfl rfl ?_
   ·refine ⟨⟨_,rfl,?_⟩,⟨_,rfl,?_⟩,⟨_,rfl,?_⟩,⟨_,rfl,?_⟩,⟨_,rfl,SU hrw (by omega) rfl⟩,trivial⟩
    ·simp only [Cc]
    ·simp only [Cc];exact Or.inr (Or.inl ⟨none,rfl⟩)
    ·simp only [Cc]
    ·simp only [Cc];exact ⟨Nat.zero_lt_one,trivial⟩
   ·have cR:(cH ((gf k l).take e)).length=e:=by rw [xm,List.length_take,Zc];omega
    have du:cH ((gf k l).take e) ++ [[DV.sl 1 (ql (uH k l e)) none]]=cH ((gf k l).take (e + 1)):=by rw [List.take_add_one,Ha l aj];simp [cH]
    refine ⟨cR,⟨by rw [cR];simp [maxLen];omega,by rw [cR];simp;omega⟩,?_⟩;exact rE ⟨_,by omega,e + 1,rfl,by omega,rfl⟩ (ah ⟨_,rfl⟩ wA rfl rfl rfl (wB2 (aF aj (by omega)) du))
 ·have aM:e=n:=by have:=hL;simp at this;omega
  subst aM;have ht:(gf e l).take e=gf e l:=by rw [List.take_of_length_le (by rw [Zc];omega)]
  rw [ht];exact ⟨_,ax,rfl⟩
theorem bU {n m:Nat} {dw:List TkE} {x y:Bool} (h:x=y):We n m dw (.v (.bool x)) (.v (.bool y)):=.inl ⟨by rw [h],rfl⟩
theorem n5 {l:List Wd} {j:Nat} {w:Wd} (h:l[j]? = some w):(az l)[j]? = some w.s:=by simp [az,h]
theorem IJ {L:List ByteArray} {s:ByteArray} (h:∀ j,j < L.length->L[j]? ≠ some s):cY L s=none:=sH fun j hj=>by
 exact h j (gS hj).1 hj
abbrev SV (l:List Wd) (s:ByteArray) (e:Nat):St:=
 ⟨[(0,⟨[],.sl 2 (bJ l) none⟩),(1,⟨[],.v (.string s)⟩),(5,⟨[],.v (.int .i64 e)⟩)],[],[]⟩
theorem fI (l:List Wd) (s:ByteArray) (hs:wdsWt l<=1099511627776) :
  aQ prog 170 [.sl 2 (bJ l) none,.v (.string s)] (.v (.int .i64 (oz (cY (az l) s)))):=by
 have nu:=bG l;have fc:=dH l;refine eG 20 [.tmp 4] func170 rfl ntmps170 rfl fun _ _ _ _=>?_;refine lI (fun j st=>∃ e:Nat,st=SV l s e/\e<=l.length/\(∀ j,j < e->(az l)[j]? ≠ some s)/\j=l.length - e) ⟨0,rfl,by omega,fun _ h=>by omega,rfl⟩ (ah ⟨_,rfl⟩ wA rfl rfl rfl wB) ?_;rintro j st ⟨e,rfl,he,eZ,rfl⟩;refine br ?_ ?_<;>intro hL
 ·have aj:e < l.length:=by simpa [aw] using hL
  obtain ⟨w,hw⟩:=gX aj;refine ⟨ko w,⟨by omega,aT hw⟩,?_⟩;refine br ?_ ?_<;>intro hq
  ·have hq:w.s=s:=sU hq;rw [BR (p:=e) (by rw [n5 hw,hq]) (fun j hj=>Nat.le_of_not_lt fun hl=>eZ j hl hj)];exact (rfl:_=_)
  ·have hq:¬ w.s=s:=sU hq;refine ⟨SV l s (e + 1),(ah ⟨_,rfl⟩ wA rfl rfl rfl (cX (aF aj (by omega)))),l.length - (e + 1),by omega,e + 1,rfl,by omega,fun j hj=>?_,rfl⟩;rcases Nat.lt_succ_iff_lt_or_eq.1 hj with hj | rfl
   ·exact eZ j hj
   ·rw [n5 hw];simpa using hq
 ·have aM:e=l.length:=by have:=hL;simp [aw] at this;omega
  rw [IJ (fun j hj=>eZ j (by omega))];exact (rfl:_=_)
theorem gg {o:Option Nat}:decide (oz o < 0)=true↔o=none:=by
 cases o with
 | none=>simp [oz]
 | some k=>
  refine ⟨fun h=>?_,fun h=>by cases h⟩;have:=of_decide_eq_true h;simp only [oz] at this;omega
theorem Ef {L:List ByteArray}:∀ {o:List (Wd × Wd)},(numF L o).1=0->∀ x∈o,(∃ a,cY L x.1.s=some a)/\∃ b,cY L x.2.s=some b
 | [],_,x,hx=>by cases hx
 | p :: r,h,x,hx=>by
  rw [numF] at h;split at h
  ·exact absurd h (by simp)
  rename_i h1;split at h
  ·exact absurd h (by simp)
  rename_i h2;rcases List.mem_cons.1 hx with rfl | hx
  ·exact ⟨Option.ne_none_iff_exists'.1 h1,Option.ne_none_iff_exists'.1 h2⟩
  ·exact Ef h x hx
abbrev Zf (l:List Wd) (o:List (Wd × Wd)) (q e:Nat):St:=
 ⟨[(0,⟨[],.sl 2 (bJ l) none⟩),(1,⟨[],.sl 4 (nh o) none⟩),(5,⟨[],.sl 2 (mz (dD (az l) (o.take e))) (some 0)⟩),(6,⟨[],.v (.int .i64 e)⟩)],[],[⟨q,225,2,none⟩]⟩
theorem He (l:List Wd) (o:List (Wd × Wd)) (hs:wdsWt l<=1099511627776) (vE:prsWt o<=1099511627776) (hF:(numF (az l) o).1=0) :
  aQ prog 134 [.sl 2 (bJ l) none,.sl 4 (nh o) none] (.sl 2 (mz (dD (az l) o)) none):=by
 have nu:=ja o;refine eG 34 [.tmp 4] func134 rfl ntmps134 rfl fun _ _ _ _=>?_;refine lJ (fun e=>Zf l o e e) o.length (fu ⟨0,225,2,none⟩ rfl ⟨_,rfl⟩ rfl wA rfl rfl lY) ?_;intro e he;refine br ?_ ?_<;>intro hL
 ·have aj:e < o.length:=by simpa [gp] using hL
  obtain ⟨w,hw⟩:=gX aj;obtain ⟨⟨a,ha⟩,⟨b,hb⟩⟩:=Ef hF w (mG hw);have Lk:=fI l w.1.s hs;have vF:=fI l w.2.s hs;rw [ha] at Lk;rw [hb] at vF;refine dI ?_;refine ⟨Ll w,⟨by omega,im hw⟩,?_⟩;refine cD vZ Lk ?_;refine ⟨Ll w,⟨by omega,im hw⟩,?_⟩;refine cD vZ vF ?_;refine ⟨by simp [ir,dD];omega,⟨by simp [ir,dD,maxLen];omega,by simp [ir,dD];omega⟩,?_⟩;exact rE ⟨_,by omega,e + 1,rfl,by omega,rfl⟩ (ah ⟨_,rfl⟩ wA rfl rfl rfl (wB2 (aF aj (by omega)) (zU hw ha hb)))
 ·have aM:e=o.length:=by
   have:=hL;simp [gp] at this;omega
  have ht:o.take e=o:=by rw [aM,List.take_length]
  rw [ht];exact ⟨_,ax,rfl⟩
theorem Eg (l:List Wd) (o:List (Wd × Wd)) (hl:l.length<=32) (hs:wdsWt l<=1099511627776) (vE:prsWt o<=1099511627776) (hF:(numF (az l) o).1=0) :
  aQ prog 67 [.sl 2 (bJ l) none,.sl 4 (nh o) none] (.sl 1 (cH (dt l.length (fh l.length (dD (az l) o)))) none):=by
 have nu:=ja o;have hP:sF l.length (dD (az l) o):=by have:=oH hF;rwa [dH] at this
 have hN:=aw l;have Qv:=Hc l.length (by omega) (dD (az l) o) hP (by simp [dD];omega);rw [Ko hP] at Qv;refine eG 11 [.tmp 4] func67 rfl ntmps67 rfl fun _ _ _ _=>?_;refine cP XF (He l o hs vE hF) ?_;rw [hN];refine cP XE Qv ?_;exact ⟨_,ax,rfl⟩
theorem Eh (n:Nat) (f:Nat->Nat->Bool):(dt n f).length=n:=by simp [dt]
theorem jg (n:Nat) (f:Nat->Nat->Bool):(cH (dt n f)).length=n:=by rw [xm,Eh]
theorem fJ {n:Nat} {f:Nat->Nat->Bool} {a:Nat} (ha:a < n):(cH (dt n f))[a]? = some [DV.sl 1 (ql ((List.range n).map (f a))) none]:=NG (DR ha)
theorem ey {n:Nat} {f:Nat->Nat->Bool} {a b:Nat} (hb:b < n):(ql ((List.range n).map (f a)))[b]? = some [DV.v (.bool (f a b))]:=rk (by simp [List.getElem?_range hb])
abbrev SX (n:Nat) (f:Nat->Nat->Bool) (e:Nat):St:=
 ⟨[(0,⟨[],.sl 1 (cH (dt n f)) none⟩),(3,⟨[],.v (.int .i64 e)⟩)],[],[]⟩
abbrev U9 (n:Nat) (f:Nat->Nat->Bool) (e k:Nat):St:=
 ⟨[(0,⟨[],.sl 1 (cH (dt n f)) none⟩),(3,⟨[],.v (.int .i64 e)⟩),(4,⟨[],.v (.int .i64 k)⟩)],[],[]⟩
theorem Ei (n:Nat) (f:Nat->Nat->Bool) (hn:n<=64) :
  aQ prog 171 [.sl 1 (cH (dt n f)) none] (.v (.int .i64 (oz (bI (kW n f) n)))):=by
 have cR:=jg n f;refine eG 39 [.tmp 2] func171 rfl ntmps171 rfl fun _ _ _ _=>?_;refine lI (fun j st=>∃ e:Nat,st=SX n f e/\e<=n/\(∀ a,a < e->kW n f a=false)/\j=n - e) ⟨0,rfl,by omega,fun _ h=>by omega,rfl⟩ (ah ⟨_,rfl⟩ wA rfl rfl rfl wB) ?_;rintro j st ⟨e,rfl,he,eZ,rfl⟩;refine br ?_ ?_<;>intro hL
 ·have aj:e < n:=sV cR hL;refine lI (fun j st=>∃ k:Nat,st=U9 n f e k/\k<=n/\(∀ b,b < k->(decide (e≠b) && (f e b && f b e))=false)/\j=n - k) ⟨0,rfl,by omega,fun _ h=>by omega,rfl⟩ (ah ⟨_,rfl⟩ wA rfl rfl rfl wB) ?_;rintro j st ⟨k,rfl,hk,NH,rfl⟩;refine br ?_ ?_<;>intro kx
  ·have jB:k < n:=sV cR kx
   have qV:(decide (e≠k) && (f e k && f k e))=false->∀ b,b < k + 1->(decide (e≠b) && (f e b && f b e))=false:=fun h b hb=>by
    rcases Nat.lt_succ_iff_lt_or_eq.1 hb with hb | rfl
    ·exact NH b hb
    ·exact h
   refine br ?_ ?_<;>intro g1
   ·have g1:e≠k:=by have:=g1;simp at this;omega
    refine iX (fJ aj) ?_;refine iX (ey jB) ?_;refine br ?_ ?_<;>intro g2
    ·have g2:f e k=true:=by simpa [pickB] using g2
     refine iX (fJ jB) ?_;refine iX (ey aj) ?_;refine br ?_ ?_<;>intro g3
     ·have g3:f k e=true:=by simpa [pickB] using g3
      have hp:kW n f e=true:=List.any_eq_true.2 ⟨k,List.mem_range.2 jB,by simp [g1,g2,g3]⟩;rw [bq aj hp eZ];exact (rfl:_=_)
     ·have g3:f k e=false:=by simpa [pickB] using g3
      exact rE ⟨_,by omega,k + 1,rfl,by omega,qV (by simp [g3]),rfl⟩ (ah ⟨_,rfl⟩ wA rfl rfl rfl (cX (aF jB (by omega))))
    ·have g2:f e k=false:=by simpa [pickB] using g2
     exact rE ⟨_,by omega,k + 1,rfl,by omega,qV (by simp [g2]),rfl⟩ (ah ⟨_,rfl⟩ wA rfl rfl rfl (cX (aF jB (by omega))))
   ·have g1:e=k:=by have:=g1;simp at this;omega
    exact rE ⟨_,by omega,k + 1,rfl,by omega,qV (by simp [g1]),rfl⟩ (ah ⟨_,rfl⟩ wA rfl rfl rfl (cX (aF jB (by omega))))
  ·have aM:k=n:=sW cR kx;refine ⟨SX n f (e + 1),(ah ⟨_,rfl⟩ wA rfl rfl rfl (cX (aF aj (by omega)))),n - (e + 1),by omega,e + 1,rfl,by omega,fun j hj=>?_,rfl⟩;rcases Nat.lt_succ_iff_lt_or_eq.1 hj with hj | rfl
   ·exact eZ j hj
   ·unfold kW;rw [List.any_eq_false];intro b hb;rw [NH b (by have:=List.mem_range.1 hb;omega)];decide
 ·have aM:e=n:=sW cR hL;subst aM;rw [bK eZ];exact (rfl:_=_)
abbrev tuSt (n:Nat) (f:Nat->Nat->Bool) (q e:Nat):St:=
 ⟨[(0,⟨[],.sl 1 (cH (dt n f)) none⟩),(3,⟨[],.sl 1 (cH ((dt n fun a b=>f b a).take e)) (some 0)⟩),(4,⟨[],.v (.int .i64 e)⟩)],[],[⟨q,140,1,none⟩]⟩
abbrev Zg (n:Nat) (f:Nat->Nat->Bool) (q e:Nat) (r:List Bool) (k:Nat):St:=
 ⟨[(0,⟨[],.sl 1 (cH (dt n f)) none⟩),(3,⟨[],.sl 1 (cH ((dt n fun a b=>f b a).take e)) (some 0)⟩),(4,⟨[],.v (.int .i64 e)⟩),(5,⟨[],.ms 0 1 0 n n⟩),(6,⟨[],.v (.int .i64 k)⟩)],[cB r],[⟨q,140,1,none⟩]⟩
abbrev Zh (n:Nat) (f:Nat->Nat->Bool) (q e:Nat) (r:List Bool):St:=
 ⟨[(0,⟨[],.sl 1 (cH (dt n f)) none⟩),(4,⟨[],.v (.int .i64 e)⟩),(32,⟨[],.sl 1 (cH ((dt n fun a b=>f b a).take e)) (some 0)⟩),(33,⟨[],.sl 1 (ql r) none⟩)],[],[⟨q,140,1,none⟩]⟩
def kZ (n:Nat) (f:Nat->Nat->Bool) (e k:Nat):List Bool:=(List.range n).map fun b=>if b < k then f b e else false
theorem sZ (n:Nat) (f:Nat->Nat->Bool) (e k:Nat):(kZ n f e k).length=n:=by simp [kZ]
theorem Hf (n:Nat) (f:Nat->Nat->Bool) (e:Nat):kZ n f e 0=List.replicate n false:=by
 refine List.ext_getElem? fun i=>?_;by_cases h:i < n
 ·simp [kZ,List.getElem?_range h,List.getElem?_replicate,h]
 ·rw [List.getElem?_eq_none (by rw [sZ];omega),List.getElem?_eq_none (by simp;omega)]
theorem Hg (n:Nat) (f:Nat->Nat->Bool) (e k:Nat):(kZ n f e k).set k (f k e)=kZ n f e (k + 1):=by
 refine List.ext_getElem? fun i=>?_;by_cases h:i < n
 ·rw [List.getElem?_set];simp only [kZ,List.getElem?_map,List.getElem?_range h,Option.map_some,List.length_map,List.length_range];by_cases hk:k=i
  ·subst hk;simp [h]
  ·rw [if_neg hk];by_cases hi:i < k
   ·rw [if_pos hi,if_pos (by omega)]
   ·rw [if_neg hi,if_neg (by omega)]
 ·rw [List.getElem?_eq_none (by simp [kZ];omega),List.getElem?_eq_none (by rw [sZ];omega)]
theorem Hh (n:Nat) (f:Nat->Nat->Bool) (e:Nat):kZ n f e n=(List.range n).map (fun b=>f b e):=by
 unfold kZ;exact List.map_congr_left fun b hb=>by rw [if_pos (List.mem_range.1 hb)]
theorem Kp (n:Nat) (f:Nat->Nat->Bool) (hn:n<=64) :
  aQ prog 172 [.sl 1 (cH (dt n f)) none] (.sl 1 (cH (dt n fun a b=>f b a)) none):=by
 have cR:=jg n f;have Zc:=Eh n fun a b=>f b a;refine eG 37 [.tmp 2] func172 rfl ntmps172 rfl fun _ _ _ _=>?_;refine lJ (fun e=>tuSt n f e e) n (fu ⟨0,140,1,none⟩ rfl ⟨_,rfl⟩ rfl wA rfl rfl lY) ?_;intro e he;refine br ?_ ?_<;>intro hL
 ·have aj:e < n:=sV cR hL;refine ⟨⟨rfl,by omega,by rw [cR];omega,by rw [cR];omega⟩,?_⟩;rw [cR]
  have ie:(List.replicate (n:Int).toNat (vL [Value.bool false])).flatten=cB (kZ n f e 0):=by
   rw [Ec,Hf,show (n:Int).toNat=n by omega]
  refine lJ (fun k=>Zg n f e e (kZ n f e k) k) n (ap 1 rfl (na ie) rfl rfl rfl (cX ie)) ?_;intro k hk;refine br ?_ ?_<;>intro kx
  ·have jB:k < n:=sV cR kx;refine iX (fJ jB) ?_;refine iX (ey aj) ?_;refine ⟨⟨by omega,by omega⟩,?_⟩;refine ⟨by rw [pQ,sZ];omega,?_⟩
   have kR:(cB (kZ n f e k)).set (0 + (k:Int).toNat * 1) (DV.v (.bool (f (k:Int).toNat (e:Int).toNat)))=cB (kZ n f e (k + 1)):=by
    rw [show 0 + (k:Int).toNat * 1=k by omega,xq,Int.toNat_natCast,Int.toNat_natCast,Hg]
   exact rE ⟨_,by omega,k + 1,rfl,by omega,rfl⟩ (ap 1 rfl (gj kR (aF jB (by omega))) rfl rfl rfl (wB2 kR (aF jB (by omega))))
  ·have aM:k=n:=sW cR kx;subst aM;rw [Hh];refine K8.wk (.CS (st':=Zh k f e e ((List.range k).map fun b=>f b e)) 0 rfl rfl rfl rfl ?_) rfl rfl ?_
   ·refine ⟨⟨_,rfl,?_⟩,⟨_,rfl,?_⟩,⟨_,rfl,?_⟩,⟨_,rfl,SU (by simp) (by omega) rfl⟩,trivial⟩
    ·simp only [Cc];exact Or.inr (Or.inl ⟨none,rfl⟩)
    ·simp only [Cc]
    ·simp only [Cc];exact ⟨Nat.zero_lt_one,trivial⟩
   ·have hmr:(cH ((dt k fun a b=>f b a).take e)).length=e:=by rw [xm,List.length_take,Zc];omega
    have du:cH ((dt k fun a b=>f b a).take e) ++ [[DV.sl 1 (ql ((List.range k).map fun b=>f b e)) none]]=cH ((dt k fun a b=>f b a).take (e + 1)):=by rw [List.take_add_one,DR aj];simp [cH]
    refine ⟨hmr,⟨by rw [hmr];simp [maxLen];omega,by rw [hmr];simp;omega⟩,?_⟩;exact rE ⟨_,by omega,e + 1,rfl,by omega,rfl⟩ (ah ⟨_,rfl⟩ wA rfl rfl rfl (wB2 (aF aj (by omega)) du))
 ·have aM:e=n:=sW cR hL;subst aM;rw [List.take_of_length_le (by rw [Zc];omega)];exact ⟨_,ax,rfl⟩
def SY (f:Nat->Nat->Bool) (n a b c:Nat):Bool:=(f a c && f b c) && (List.range n).all fun d=>!(f a d && f b d) || f c d
def kB (f:Nat->Nat->Bool) (n a b:Nat):Option Nat:=bI (SY f n a b) n
def nk (f:Nat->Nat->Bool) (a b c k:Nat):Bool:=(f a c && f b c) && (List.range k).all fun d=>!(f a d && f b d) || f c d
theorem Kq (f:Nat->Nat->Bool) (a b c k:Nat):nk f a b c (k + 1)=(nk f a b c k && (!(f a k && f b k) || f c k)):=by
 simp only [nk,List.range_succ,List.all_append,List.all_cons,List.all_nil,Bool.and_true,Bool.and_assoc]
theorem Ai (f:Nat->Nat->Bool) (a b c:Nat):nk f a b c 0=(f a c && f b c):=by simp [nk]
abbrev Zi (n:Nat) (f:Nat->Nat->Bool) (a b e:Nat):St:=
 ⟨[(0,⟨[],.sl 1 (cH (dt n f)) none⟩),(1,⟨[],.v (.int .i64 a)⟩),(2,⟨[],.v (.int .i64 b)⟩),(7,⟨[],.v (.int .i64 e)⟩)],[],[]⟩
abbrev IK (n:Nat) (f:Nat->Nat->Bool) (a b e:Nat) (x:Bool) (k:Nat):St:=
 ⟨[(0,⟨[],.sl 1 (cH (dt n f)) none⟩),(1,⟨[],.v (.int .i64 a)⟩),(2,⟨[],.v (.int .i64 b)⟩),(7,⟨[],.v (.int .i64 e)⟩),(8,⟨[],.v (.bool x)⟩),(9,⟨[],.v (.int .i64 k)⟩)],[],[]⟩
theorem n7 (n:Nat) (f:Nat->Nat->Bool) (hn:n<=64) (a b:Nat) (ha:a < n) (hb:b < n) :
  aQ prog 146 [.sl 1 (cH (dt n f)) none,.v (.int .i64 a),.v (.int .i64 b)] (.v (.int .i64 (oz (kB f n a b)))):=by
 have cR:=jg n f;refine eG 66 [.tmp 6] func146 rfl ntmps146 rfl fun _ _ _ _=>?_;refine lI (fun j st=>∃ e:Nat,st=Zi n f a b e/\e<=n/\(∀ c,c < e->SY f n a b c=false)/\j=n - e) ⟨0,rfl,by omega,fun _ h=>by omega,rfl⟩ (ah ⟨_,rfl⟩ wA rfl rfl rfl wB) ?_;rintro j st ⟨e,rfl,he,eZ,rfl⟩;refine br ?_ ?_<;>intro hL
 ·have aj:e < n:=sV cR hL;refine iX (fJ ha) ?_;refine iX (ey aj) ?_;have e1:(f a e == true)=true->f b e=nk f a b e 0:=fun g=>by rw [Ai,show f a e=true by simpa using g];simp
  have e2:(f a e == true)=false->false=nk f a b e 0:=fun g=>by rw [Ai,show f a e=false by simpa using g];simp
  refine have body:=?_;br (fun g1=>⟨_,⟨by omega,fJ hb⟩,⟨_,⟨by omega,ey aj⟩,bo (fun j st=>∃ k:Nat,st=IK n f a b e (nk f a b e k) k/\k<=n/\j=n - k) n (IK n f a b e (nk f a b e 0) 0) (ah ⟨_,rfl⟩ wA rfl rfl rfl (by repeat' (first | exact trivial | exact ay rfl | exact (show We _ _ _ (DV.v (.bool (f b e))) _ from bU (e1 g1)) | refine ⟨⟨_,rfl,?_⟩,?_⟩))) ⟨0,rfl,by omega,by omega⟩ body⟩⟩) (fun g1=>bo (fun j st=>∃ k:Nat,st=IK n f a b e (nk f a b e k) k/\k<=n/\j=n - k) n (IK n f a b e (nk f a b e 0) 0) (ah ⟨_,rfl⟩ wA rfl rfl rfl (by repeat' (first | exact trivial | exact ay rfl | exact (show We _ _ _ (DV.v (.bool false)) _ from bU (e2 g1)) | refine ⟨⟨_,rfl,?_⟩,?_⟩))) ⟨0,rfl,by omega,by omega⟩ body);rintro j st ⟨k,rfl,hk,rfl⟩;refine br ?_ ?_<;>intro kx
  ·have jB:k < n:=sV cR kx;have Kr:=Kq f a b e k;refine iX (fJ ha) ?_;refine iX (ey jB) ?_;refine br ?_ ?_<;>intro g1
   ·refine iX (fJ hb) ?_;refine iX (ey jB) ?_;refine br ?_ ?_<;>intro g2
    ·refine iX (fJ aj) ?_;refine iX (ey jB) ?_;refine br ?_ ?_<;>intro g3
     ·have hx:false=nk f a b e (k + 1):=by simp [pickB] at g1 g2 g3;rw [Kr];simp [g1,g2,g3]
      exact rE ⟨_,by omega,k + 1,rfl,by omega,rfl⟩ (ah ⟨_,rfl⟩ wA rfl rfl rfl (wB2 (aF jB (by omega)) hx))
     ·have hx:nk f a b e k=nk f a b e (k + 1):=by simp [pickB] at g1 g2 g3;rw [Kr];simp [g1,g2,g3]
      exact rE ⟨_,by omega,k + 1,rfl,by omega,rfl⟩ (ah ⟨_,rfl⟩ wA rfl rfl rfl (wB2 (aF jB (by omega)) hx))
    ·have hx:nk f a b e k=nk f a b e (k + 1):=by simp [pickB] at g1 g2;rw [Kr];simp [g1,g2]
     exact rE ⟨_,by omega,k + 1,rfl,by omega,rfl⟩ (ah ⟨_,rfl⟩ wA rfl rfl rfl (wB2 (aF jB (by omega)) hx))
   ·have hx:nk f a b e k=nk f a b e (k + 1):=by simp [pickB] at g1;rw [Kr];simp [g1]
    exact rE ⟨_,by omega,k + 1,rfl,by omega,rfl⟩ (ah ⟨_,rfl⟩ wA rfl rfl rfl (wB2 (aF jB (by omega)) hx))
  ·have aM:k=n:=sW cR kx;subst aM;refine br ?_ ?_<;>intro g
   ·have g:SY f k a b e=true:=g;rw [kB,bq aj g eZ];exact (rfl:_=_)
   ·have g:SY f k a b e=false:=g;refine ⟨Zi k f a b (e + 1),(ah ⟨_,rfl⟩ wA rfl rfl rfl (cX (aF aj (by omega)))),k - (e + 1),by omega,e + 1,rfl,by omega,fun j hj=>?_,rfl⟩;rcases Nat.lt_succ_iff_lt_or_eq.1 hj with hj | rfl
    ·exact eZ j hj
    ·exact g
 ·have aM:e=n:=sW cR hL;subst aM;rw [kB,bK eZ];exact (rfl:_=_)
theorem NI {l:List Wd} {i:Nat} {w:Wd} (hw:l[i]? = some w):∃ p,cY (az l) w.s=some p/\(p < i↔bO (l.take i) w.s=true):=by
 cases h:cY (az l) w.s with
 | none=>exact absurd (mG (n5 hw)) (yZ.1 h)
 | some p=>
  refine ⟨p,rfl,?_⟩;obtain ⟨h1,h2,h3⟩:=dm h;rw [dH] at h1
  have Qh:∃ v,l[p]? = some v/\v.s=w.s:=by
   refine ⟨l[p],gE h1,?_⟩;rw [n5 (gE h1)] at h2;exact Option.some.inj h2
  obtain ⟨v,hv,vG⟩:=Qh;unfold bO;rw [List.any_eq_true];refine ⟨fun aj=>⟨v,mG (i:=p) (by rw [List.getElem?_take,if_pos aj];exact hv),by simp [vG]⟩,fun ⟨x,hx,qg⟩=>?_⟩;obtain ⟨j,hj⟩:=List.getElem?_of_mem hx;rw [List.getElem?_take] at hj;split at hj
  ·rename_i F0;have qg:x.s=w.s:=sU qg;have:=h3 j (by rw [n5 hj,qg]);omega
  ·cases hj
theorem B3 {f:Nat->Nat->Bool} {n a b c:Nat}:SY f n a b c=true↔f a c=true/\f b c=true/\∀ d,d < n->f a d=true->f b d=true->f c d=true:=by
 unfold SY;simp only [Bool.and_eq_true,List.all_eq_true,List.mem_range,Bool.or_eq_true,Bool.not_eq_true',Bool.and_eq_false_iff,and_assoc];refine and_congr_right fun _=>and_congr_right fun _=>forall_congr' fun d=>imp_congr_right fun _=>?_;cases f a d<;>cases f b d<;>cases f c d<;>simp
structure Pn (f:Nat->Nat->Bool) (n:Nat):Prop where
 rfl':∀ a,a < n->f a a=true
 GQ:∀ a b,a < n->b < n->f a b=true->f b a=true->a=b
theorem Pn.flip {f:Nat->Nat->Bool} {n:Nat} (h:Pn f n):Pn (fun x y=>f y x) n:=⟨h.rfl',fun a b ha hb h1 h2=>h.GQ a b ha hb h2 h1⟩
theorem Ej {f:Nat->Nat->Bool} {n a b c:Nat} (h:Pn f n) (hc:c < n) (hj:SY f n a b c=true):fk f n a b=some c:=by
 obtain ⟨h1,h2,h3⟩:=B3.1 hj
 have key:∀ e,e<=n->c < e->bestA (fun c=>f a c && f b c) f e=some c:=by
  intro e
  induction e with
  | zero=>intro _ h;omega
  | succ e ih=>
   intro he hce;rw [bestA];by_cases hec:e=c
   ·subst hec;rw [if_pos];simp only [h1,h2,Bool.and_true,Bool.true_and]
    cases ho:bestA (fun c=>f a c && f b c) f e with
    | none=>rfl
    | some o=>
     have hp:=sO ho;have hl:=nS ho;simp only [Bool.and_eq_true] at hp;exact h3 o (by omega) hp.1 hp.2
   ·rw [ih (by omega) (by omega),if_neg];simp only [Bool.and_eq_true,DW,not_and];intro hp hec2;exact hec (h.GQ e c (by omega) hc hec2 (h3 e (by omega) hp.1 hp.2))
 unfold fk nR;rw [key n (Nat.le_refl _) hc];simp only;rw [if_neg];simp only [List.any_eq_true,List.mem_range,Bool.and_eq_true,Bool.not_eq_true',not_exists,not_and,Bool.not_eq_false];exact fun d hd hp=>h3 d hd hp.1 hp.2
theorem mK {f:Nat->Nat->Bool} {n a b:Nat} (h:Pn f n):(fk f n a b).isNone=(kB f n a b).isNone:=by
 cases hj:kB f n a b with
 | some c=>
  obtain ⟨hc,hi,_⟩:=cA hj;rw [Ej h hc hi]
 | none=>
  cases hk:fk f n a b with
  | none=>rfl
  | some k=>
   obtain ⟨h1,h2,h3,h4⟩:=pM hk;have:=cg hj k h1;rw [B3.2 ⟨h2,h3,h4⟩] at this;cases this
def pj (f:Nat->Nat->Bool) (n a b:Nat):Bool:=(kB f n a b).isNone || (kB (fun x y=>f y x) n a b).isNone
theorem IL {f:Nat->Nat->Bool} {n a b:Nat} (h:Pn f n):lL f n a b=pj f n a b:=by
 unfold lL pj;rw [mK h,show jx f n a b=fk (fun x y=>f y x) n a b from rfl,mK h.flip]
theorem xr {f:Nat->Nat->Bool} {n b:Nat} (h:Pn f n) (hb:b < n):(kB f n b b).isNone=false:=by
 have hi:SY f n b b b=true:=B3.2 ⟨h.rfl' b hb,h.rfl' b hb,fun d _ h1 _=>h1⟩
 cases hj:kB f n b b with
 | some c=>rfl
 | none=>rw [cg hj b hb] at hi;cases hi
theorem QP {f:Nat->Nat->Bool} {n b:Nat} (h:Pn f n) (hb:b < n):nT f n b=(List.range b).any fun a=>pj f n a b:=by
 unfold nT;rw [List.range_succ,List.any_append];simp only [List.any_cons,List.any_nil,Bool.or_false];rw [IL h,show pj f n b b=false by unfold pj;rw [xr h hb,xr h.flip hb];rfl,Bool.or_false];exact congrArg (fun g=>List.any (List.range b) g) (funext fun a=>IL h)
theorem Va {n:Nat} {l:List (Nat × Nat)} (hP:sF n l) (h4:bI (kW n (fh n l)) n=none):Pn (fh n l) n where
 rfl':=fun a ha=>sG hP ha
 GQ:=fun a b ha hb h6 h7=>by
  have:=cg h4 a ha;unfold kW at this;rw [List.any_eq_false] at this;have:=this b (sU hb);simp only [Bool.and_eq_true,decide_eq_true_eq,not_and] at this;rcases Nat.lt_trichotomy a b with h8 | h8 | h8
  ·exact (this (by omega) h6 h7).elim
  ·exact h8
  ·exact (this (by omega) h6 h7).elim
abbrev Zj (l:List Wd) (o:List (Wd × Wd)) (e:Nat):St:=
 ⟨[(0,⟨[],.sl 2 (bJ l) none⟩),(1,⟨[],.sl 4 (nh o) none⟩),(4,⟨[],.loc 0 0⟩),(5,⟨[],.v (.int .i64 e)⟩)],[[.v (.int .i64 0),.v (.int .i64 0)]],[]⟩
abbrev Zk (l:List Wd) (o:List (Wd × Wd)) (e:Nat):St:=
 ⟨[(0,⟨[],.sl 2 (bJ l) none⟩),(1,⟨[],.sl 4 (nh o) none⟩),(4,⟨[],.loc 0 0⟩),(6,⟨[],.v (.int .i64 e)⟩)],[[.v (.int .i64 0),.v (.int .i64 0)]],[]⟩
abbrev SZ (l:List Wd) (n:Nat) (f:Nat->Nat->Bool) (e:Nat):St:=
 ⟨[(0,⟨[],.sl 2 (bJ l) none⟩),(4,⟨[],.loc 0 0⟩),(7,⟨[],.sl 1 (cH (dt n f)) none⟩),(9,⟨[],.sl 1 (cH (dt n fun a b=>f b a)) none⟩),(10,⟨[],.v (.int .i64 e)⟩)],[[.v (.int .i64 0),.v (.int .i64 0)]],[]⟩
abbrev S0 (l:List Wd) (n:Nat) (f:Nat->Nat->Bool) (e k:Nat):St:=
 ⟨[(0,⟨[],.sl 2 (bJ l) none⟩),(4,⟨[],.loc 0 0⟩),(7,⟨[],.sl 1 (cH (dt n f)) none⟩),(9,⟨[],.sl 1 (cH (dt n fun a b=>f b a)) none⟩),(10,⟨[],.v (.int .i64 e)⟩),(11,⟨[],.v (.int .i64 k)⟩)],[[.v (.int .i64 0),.v (.int .i64 0)]],[]⟩
theorem B4 (l:List Wd) (o:List (Wd × Wd)) (hs:wdsWt l<=1099511627776) (vE:prsWt o<=1099511627776) :
  aQ prog 115 [.sl 2 (bJ l) none,.sl 4 (nh o) none] (latF l o).d:=by
 have nu:=bG l;have hsl2:=ja o;have hF:latF l o=latF l o:=rfl
 conv at hF=>rhs;unfold latF
 refine eG 150 [.cell 4 45] func115 rfl ntmps115 rfl fun _ _ _ _=>?_;generalize latF l o=F at hF ⊢;refine br ?_ ?_<;>intro h
 ·have h:l=[]:=by simpa [aw] using h
  rw [show gq l o=(15,0) by rw [gq,if_pos h],if_pos (by decide)] at hF;refine ⟨_,?_,rfl⟩;rw [hF];exact ax
 have h:¬ l=[]:=by simpa [aw] using h
 refine br ?_ ?_<;>intro h1
 ·have h1:32 < l.length:=by simp [aw] at h1;omega
  obtain ⟨x,hx⟩:∃ x,l[32]? = some x:=⟨_,gE h1⟩;rw [show gq l o=(8,x.a) by rw [gq,if_neg h,if_pos h1,hx];rfl,if_pos (by simp)] at hF;refine ⟨ko x,⟨by omega,aT hx⟩,?_⟩;refine ⟨_,?_,rfl⟩;rw [hF];exact ax
 have h1:¬ 32 < l.length:=by simp [aw] at h1;omega
 refine br ?_ ?_<;>intro h2
 ·have h2:256 < o.length:=by simp [gp] at h2;omega
  obtain ⟨x,hx⟩:∃ x,o[256]? = some x:=⟨_,gE h2⟩;rw [show gq l o=(8,x.1.a) by rw [gq,if_neg h,if_neg h1,if_pos h2,hx];rfl,if_pos (by simp)] at hF;refine ⟨Ll x,⟨by omega,im hx⟩,?_⟩;refine ⟨_,?_,rfl⟩;rw [hF];exact ax
 have h2:¬ 256 < o.length:=by simp [gp] at h2;omega
 rw [show gq l o=(0,0) by rw [gq,if_neg h,if_neg h1,if_neg h2],if_neg (by decide)] at hF;have h0:enumL l 0 l=enumL l 0 (l.drop 0):=rfl;refine lI (fun j st=>∃ e:Nat,st=Zj l o e/\e<=l.length/\enumL l 0 l=enumL l e (l.drop e)/\j=l.length - e) ⟨0,rfl,by omega,rfl,rfl⟩ (ah ⟨_,rfl⟩ wA rfl rfl rfl wB) ?_;rintro j st ⟨e,rfl,he,aJ,rfl⟩;refine br ?_ ?_<;>intro hL
 ·have aj:e < l.length:=by simpa [aw] using hL
  obtain ⟨w,hw⟩:=gX aj;have Sy:=iU (mG hw);have aR:enumL l e (l.drop e)=if aG l e w≠0 then (aG l e w,w.a) else enumL l (e + 1) (l.drop (e + 1)):=by rw [drop_cons hw,enumL]
  obtain ⟨p,hp,HZ⟩:=NI hw;have hf:=fI l w.s hs;rw [hp] at hf;refine ⟨ko w,⟨by omega,aT hw⟩,?_⟩;refine cP Ds (jq w.s (by omega)) ?_;refine br ?_ ?_<;>intro hN
  ·have hN:bc w.s=false:=sU hN;have hf:aG l e w=9:=by simp [aG,hN]
   rw [aJ,aR,hf,if_pos (show (9:Int)≠0 by decide),if_pos (by simp)] at hF;refine ⟨ko w,⟨by omega,aT hw⟩,?_⟩;refine ⟨_,?_,rfl⟩;rw [hF];exact ax
  ·have hN:bc w.s=true:=sU hN;refine ⟨ko w,⟨by omega,aT hw⟩,?_⟩;refine cP vZ hf ?_;refine br ?_ ?_<;>intro h2
   ·have h2:p < e:=by have:=h2;simp [oz] at this;exact this
    have hf:aG l e w=10:=by simp [aG,hN,HZ.1 h2]
    rw [aJ,aR,hf,if_pos (show (10:Int)≠0 by decide),if_pos (by simp)] at hF;refine ⟨ko w,⟨by omega,aT hw⟩,?_⟩;refine ⟨_,?_,rfl⟩;rw [hF];exact ax
   ·have h2:¬ p < e:=by have:=h2;simp [oz] at this;omega
    have hd:bO (l.take e) w.s=false:=by
     cases hd:bO (l.take e) w.s
     ·rfl
     ·exact absurd (HZ.2 hd) h2
    have hf:aG l e w=0:=by simp [aG,hN,hd]
    rw [hf,if_neg (by simp)] at aR;exact rE ⟨_,by omega,e + 1,rfl,by omega,by rw [aJ,aR],rfl⟩ (ah ⟨_,rfl⟩ wA rfl rfl rfl (cX (aF aj (by omega))))
 have aM:e=l.length:=by have:=hL;simp [aw] at this;omega
 rw [aJ,aM,List.drop_length,show enumL l l.length []=(0,0) from rfl,if_neg (by decide)] at hF;refine lI (fun j st=>∃ e:Nat,st=Zk l o e/\e<=o.length/\numF (az l) o=numF (az l) (o.drop e)/\j=o.length - e) ⟨0,rfl,by omega,rfl,rfl⟩ (ah ⟨_,rfl⟩ wA rfl rfl rfl wB) ?_;clear aJ hL aM he e;rintro j st ⟨e,rfl,he,aJ,rfl⟩;refine br ?_ ?_<;>intro hL
 ·have aj:e < o.length:=by simpa [gp] using hL
  obtain ⟨w,hw⟩:=gX aj;have aR:numF (az l) (o.drop e)=if cY (az l) w.1.s=none then (17,w.1.a) else if cY (az l) w.2.s=none then (17,w.2.a) else numF (az l) (o.drop (e + 1)):=by rw [drop_cons hw,numF]
  refine ⟨Ll w,⟨by omega,im hw⟩,?_⟩;refine cP vZ (fI l w.1.s hs) ?_;refine br ?_ ?_<;>intro ha
  ·have ha:=gg.1 ha;rw [aJ,aR,if_pos ha,if_pos (by simp)] at hF;refine ⟨Ll w,⟨by omega,im hw⟩,?_⟩;refine ⟨_,?_,rfl⟩;rw [hF];exact ax
  have ha:¬ cY (az l) w.1.s=none:=fun hn=>by have:=gg.2 hn;rw [ha] at this;cases this
  refine ⟨Ll w,⟨by omega,im hw⟩,?_⟩;refine cP vZ (fI l w.2.s hs) ?_;refine br ?_ ?_<;>intro hb
  ·have hb:=gg.1 hb;rw [aJ,aR,if_neg ha,if_pos hb,if_pos (by simp)] at hF;refine ⟨Ll w,⟨by omega,im hw⟩,?_⟩;refine ⟨_,?_,rfl⟩;rw [hF];exact ax
  have hb:¬ cY (az l) w.2.s=none:=fun hn=>by have:=gg.2 hn;rw [hb] at this;cases this
  rw [if_neg ha,if_neg hb] at aR;exact rE ⟨_,by omega,e + 1,rfl,by omega,by rw [aJ,aR],rfl⟩ (ah ⟨_,rfl⟩ wA rfl rfl rfl (cX (aF aj (by omega))))
 have aM:e=o.length:=by have:=hL;simp [gp] at this;omega
 rw [aM,List.drop_length,show numF (az l) []=(0,0) from rfl] at aJ;rw [aJ,if_neg (by decide)] at hF;have kJ:(numF (az l) o).1=0:=by rw [aJ]
 have hP:sF l.length (dD (az l) o):=by have:=oH kJ;rwa [dH] at this
 have hpo:=Va hP;have cR:=jg l.length (fh l.length (dD (az l) o));refine cP Uc (Eg l o (by omega) hs vE kJ) ?_;generalize fh l.length (dD (az l) o)=f at hF hpo cR ⊢;refine cP XN (Ei l.length f (by omega)) ?_
 cases hlo:bI (kW l.length f) l.length with
 | some a=>
  rw [hlo] at hF;have ha:=(cA hlo).1;obtain ⟨x,hx⟩:∃ x,l[a]? = some x:=⟨_,gE ha⟩;simp only [kX hx] at hF;refine ⟨ko x,⟨by simp only [oz];omega,aT hx⟩,?_⟩;refine ⟨_,?_,rfl⟩;rw [hF];exact ax
 | none=>
 have hpo:=hpo hlo;rw [hlo] at hF;simp only at hF;refine cP XO (Kp l.length f (by omega)) ?_;refine lI (fun j st=>∃ e:Nat,st=SZ l l.length f e/\e<=l.length/\(∀ b,b < e->nT f l.length b=false)/\j=l.length - e) ⟨0,rfl,by omega,fun _ h=>by omega,rfl⟩ (ah ⟨_,rfl⟩ wA rfl rfl rfl wB) ?_;clear aJ hL aM he e;rintro j st ⟨e,rfl,he,eZ,rfl⟩;refine br ?_ ?_<;>intro hL
 ·have aj:e < l.length:=sV cR hL;have qH:=QP hpo aj;refine lI (fun j st=>∃ k:Nat,st=S0 l l.length f e k/\k<=e/\(∀ a,a < k->pj f l.length a e=false)/\j=e - k) ⟨0,rfl,by omega,fun _ h=>by omega,rfl⟩ (ah ⟨_,rfl⟩ wA rfl rfl rfl wB) ?_;rintro j st ⟨k,rfl,hk,NH,rfl⟩;refine br ?_ ?_<;>intro kx
  ·have jB:k < e:=sU kx;obtain ⟨x,hx⟩:=gX aj
   have NJ:pj f l.length k e=true->F=(12,x.a):=fun UL=>by
    rw [bq aj (by rw [qH,List.any_eq_true];exact ⟨k,by simpa using jB,UL⟩) eZ] at hF;simp only [kX hx] at hF;exact hF
   refine cP L9 (n7 l.length f (by omega) k e (by omega) aj) ?_;refine br ?_ ?_<;>intro g1
   ·have g1:¬ kB f l.length k e=none:=fun hn=>by rw [gg.2 hn] at g1;cases g1
    refine cP L9 (n7 l.length (fun a b=>f b a) (by omega) k e (by omega) aj) ?_;refine br ?_ ?_<;>intro g2
    ·have g2:kB (fun a b=>f b a) l.length k e=none:=by
      rw [<- gg];simpa [pickB] using g2
     have hF:=NJ (by unfold pj;rw [g2];simp);refine ⟨ko x,⟨by omega,aT hx⟩,?_⟩;refine ⟨_,?_,rfl⟩;rw [hF];exact ax
    ·have g2:¬ kB (fun a b=>f b a) l.length k e=none:=fun hn=>by
      have h3:=gg.2 hn;simp [pickB] at g2;have h3:=of_decide_eq_true h3;omega
     refine ⟨S0 l l.length f e (k + 1),(ah ⟨_,rfl⟩ wA rfl rfl rfl (cX (aF jB (by omega)))),e - (k + 1),by omega,k + 1,rfl,by omega,fun j hj=>?_,rfl⟩;rcases Nat.lt_succ_iff_lt_or_eq.1 hj with hj | rfl
     ·exact NH j hj
     ·unfold pj;rw [Option.isNone_eq_false_iff.2 (Option.isSome_iff_ne_none.2 g1),Option.isNone_eq_false_iff.2 (Option.isSome_iff_ne_none.2 g2)];rfl
   ·have g1:kB f l.length k e=none:=by
     rw [<- gg];simpa using g1
    have hF:=NJ (by unfold pj;rw [g1];rfl);refine ⟨ko x,⟨by omega,aT hx⟩,?_⟩;refine ⟨_,?_,rfl⟩;rw [hF];exact ax
  ·have aM:k=e:=by have:=kx;simp at this;omega
   subst aM;refine ⟨SZ l l.length f (k + 1),(ah ⟨_,rfl⟩ wA rfl rfl rfl (cX (aF aj (by omega)))),l.length - (k + 1),by omega,k + 1,rfl,by omega,fun j hj=>?_,rfl⟩;rcases Nat.lt_succ_iff_lt_or_eq.1 hj with hj | rfl
   ·exact eZ j hj
   ·rw [qH,List.any_eq_false];intro a ha;rw [NH a (sU ha)];decide
 ·have aM:e=l.length:=sW cR hL;subst aM;rw [bK eZ] at hF;simp only at hF;refine ⟨_,?_,rfl⟩;rw [hF];exact ax
abbrev ovSt (n:Nat) (f:Nat->Nat->Bool) (l:List Nat) (c e:Nat):St:=
 ⟨[(0,⟨[],.sl 1 (cH (dt n f)) none⟩),(1,⟨[],.sl 1 (dInts l) none⟩),(2,⟨[],.v (.int .i64 c)⟩),(7,⟨[],.v (.int .i64 e)⟩)],[],[]⟩
theorem Aj (n:Nat) (f:Nat->Nat->Bool) (hn:n<=64) (l:List Nat) (hl:∀ i∈l,i < n) (xc:l.length<=1099511627776) (c:Nat) (hc:c < n) :
  aQ prog 211 [.sl 1 (cH (dt n f)) none,.sl 1 (dInts l) none,.v (.int .i64 c)] (.v (.bool (gV f l c))):=by
 have cR:=jg n f;have DB:=aZ l;refine eG 25 [.tmp 6] func211 rfl ntmps211 rfl fun _ _ _ _=>?_;refine lI (fun j st=>∃ e:Nat,st=ovSt n f l c e/\e<=l.length/\gV f l c=gV f (l.drop e) c/\j=l.length - e) ⟨0,rfl,by omega,rfl,rfl⟩ (ah ⟨_,rfl⟩ wA rfl rfl rfl wB) ?_;rintro j st ⟨e,rfl,he,aJ,rfl⟩;rw [aJ];refine br ?_ ?_<;>intro hL
 ·have aj:e < l.length:=by have:=hL;simp [DB] at this;exact this
  obtain ⟨i,hi⟩:=gX aj;have uF:=hl i (mG hi);have aR:gV f (l.drop e) c=(f i c && gV f (l.drop (e + 1)) c):=by unfold gV;rw [drop_cons hi,List.all_cons]
  refine iX (aD hi) ?_;refine iX (fJ uF) ?_;refine iX (ey hc) ?_;refine br ?_ ?_<;>intro g
  ·have g:f i c=false:=sU g;rw [aR,g,Bool.false_and];exact (rfl:_=_)
  ·have g:f i c=true:=sU g;rw [g,Bool.true_and] at aR;exact rE ⟨_,by omega,e + 1,rfl,by omega,aR,rfl⟩ (ah ⟨_,rfl⟩ wA rfl rfl rfl (cX (aF aj (by omega))))
 ·have aM:e=l.length:=sW DB hL;rw [aM,List.drop_length];exact (rfl:_=_)
def xu (f:Nat->Nat->Bool) (l:List Nat) (c k:Nat):Bool:=gV f l c && (List.range k).all fun d=>!gV f l d || f c d
theorem Ks (f:Nat->Nat->Bool) (l:List Nat) (c:Nat):xu f l c 0=gV f l c:=by simp [xu]
theorem Kt (f:Nat->Nat->Bool) (l:List Nat) (c k:Nat):xu f l c (k + 1)=(xu f l c k && (!gV f l k || f c k)):=by
 simp only [xu,List.range_succ,List.all_append,List.all_cons,List.all_nil,Bool.and_true,Bool.and_assoc]
abbrev Zl (n:Nat) (f:Nat->Nat->Bool) (l:List Nat) (e:Nat):St:=
 ⟨[(0,⟨[],.sl 1 (cH (dt n f)) none⟩),(1,⟨[],.sl 1 (dInts l) none⟩),(5,⟨[],.v (.int .i64 e)⟩)],[],[]⟩
abbrev Zm (n:Nat) (f:Nat->Nat->Bool) (l:List Nat) (e:Nat) (x:Bool) (k:Nat):St:=
 ⟨[(0,⟨[],.sl 1 (cH (dt n f)) none⟩),(1,⟨[],.sl 1 (dInts l) none⟩),(5,⟨[],.v (.int .i64 e)⟩),(6,⟨[],.v (.bool x)⟩),(7,⟨[],.v (.int .i64 k)⟩)],[],[]⟩
theorem Hi (n:Nat) (f:Nat->Nat->Bool) (hn:n<=64) (l:List Nat) (hl:∀ i∈l,i < n) (xc:l.length<=1099511627776) :
  aQ prog 185 [.sl 1 (cH (dt n f)) none,.sl 1 (dInts l) none] (.v (.int .i64 (oz (eT f n l)))):=by
 have cR:=jg n f;refine eG 40 [.tmp 4] func185 rfl ntmps185 rfl fun _ _ _ _=>?_;refine lI (fun j st=>∃ e:Nat,st=Zl n f l e/\e<=n/\(∀ c,c < e->sP f n l c=false)/\j=n - e) ⟨0,rfl,by omega,fun _ h=>by omega,rfl⟩ (ah ⟨_,rfl⟩ wA rfl rfl rfl wB) ?_;rintro j st ⟨e,rfl,he,eZ,rfl⟩;refine br ?_ ?_<;>intro hL
 ·have aj:e < n:=sV cR hL;refine cP Sj (Aj n f hn l hl xc e aj) ?_;refine lJ (fun k=>Zm n f l e (xu f l e k) k) n (ah ⟨_,rfl⟩ wA rfl rfl rfl (cX ((Ks f l e).symm))) ?_;intro k hk;refine br ?_ ?_<;>intro kx
  ·have jB:k < n:=sV cR kx;have Kr:=Kt f l e k;refine cP Sj (Aj n f hn l hl xc k jB) ?_;refine br ?_ ?_<;>intro g1
   ·refine iX (fJ aj) ?_;refine iX (ey jB) ?_;refine br ?_ ?_<;>intro g2
    ·have hx:false=xu f l e (k + 1):=by simp [pickB] at g1 g2;rw [Kr];simp [g1,g2]
     exact rE ⟨_,by omega,k + 1,rfl,by omega,rfl⟩ (ah ⟨_,rfl⟩ wA rfl rfl rfl (wB2 (aF jB (by omega)) hx))
    ·have hx:xu f l e k=xu f l e (k + 1):=by simp [pickB] at g1 g2;rw [Kr];simp [g1,g2]
     exact rE ⟨_,by omega,k + 1,rfl,by omega,rfl⟩ (ah ⟨_,rfl⟩ wA rfl rfl rfl (wB2 (aF jB (by omega)) hx))
   ·have hx:xu f l e k=xu f l e (k + 1):=by simp [pickB] at g1;rw [Kr];simp [g1]
    exact rE ⟨_,by omega,k + 1,rfl,by omega,rfl⟩ (ah ⟨_,rfl⟩ wA rfl rfl rfl (wB2 (aF jB (by omega)) hx))
  ·have aM:k=n:=sW cR kx;subst aM;refine br ?_ ?_<;>intro g
   ·have g:sP f k l e=true:=g;rw [eT,bq aj g eZ];exact (rfl:_=_)
   ·have g:sP f k l e=false:=g;refine ⟨Zl k f l (e + 1),(ah ⟨_,rfl⟩ wA rfl rfl rfl (cX (aF aj (by omega)))),k - (e + 1),by omega,e + 1,rfl,by omega,fun j hj=>?_,rfl⟩;rcases Nat.lt_succ_iff_lt_or_eq.1 hj with hj | rfl
    ·exact eZ j hj
    ·exact g
 ·have aM:e=n:=sW cR hL;subst aM;rw [eT,bK eZ];exact (rfl:_=_)
abbrev Vb (lv:List Wd) (f:Nat->Nat->Bool) (l:List Wd) (q e:Nat):St:=
 ⟨[(0,⟨[],.sl 2 (bJ lv) none⟩),(1,⟨[],.sl 1 (cH (dt lv.length f)) none⟩),(2,⟨[],.sl 2 (bJ l) none⟩),(7,⟨[],.loc 0 0⟩),(8,⟨[],.sl 1 (dInts (mF (az lv) (l.take e))) (some 0)⟩),(9,⟨[],.v (.int .i64 e)⟩)],[[.v (.int .i64 0),.v (.int .i64 0)]],[⟨q,3,1,none⟩]⟩
theorem QQ {L:List ByteArray} {l:List Wd} {i:Nat} (h:i∈mF L l) (hL:0 < L.length):i < L.length:=by
 unfold mF at h;obtain ⟨w,_,rfl⟩:=List.mem_map.1 h
 cases hx:cY L w.s with
 | none=>simpa using hL
 | some p=>exact (dm hx).1
theorem Hj {L:List ByteArray} {l:List Wd} {e i:Nat} {w:Wd} (h:l[e]? = some w) (hi:cY L w.s=some i):dInts (mF L (l.take e)) ++ [[DV.v (.int .i64 (oz (some i)))]]=dInts (mF L (l.take (e + 1))):=by
 rw [sR h hi];simp [dInts,oz]
theorem Ku (lv:List Wd) (f:Nat->Nat->Bool) (h0:0 < lv.length) (hn:lv.length<=32) (hs:wdsWt lv<=1099511627776) (l:List Wd) (hl:wdsWt l<=1099511627776) :
  aQ prog 135 [.sl 2 (bJ lv) none,.sl 1 (cH (dt lv.length f)) none,.sl 2 (bJ l) none] (Kf f (az lv) l):=by
 have nu:=bG l;have fc:=dH lv;unfold Kf BU;refine eG 40 [.tmp 6,.cell 7 45] func135 rfl ntmps135 rfl fun _ _ _ _=>?_;refine lI (fun j st=>∃ e:Nat,st=Vb lv f l e e/\e<=l.length/\labW (az lv) l=labW (az lv) (l.drop e)/\j=l.length - e) ⟨0,rfl,by omega,rfl,rfl⟩ (fu ⟨0,3,1,none⟩ rfl ⟨_,rfl⟩ rfl wA rfl rfl lY) ?_;rintro j st ⟨e,rfl,he,aJ,rfl⟩;rw [aJ];refine br ?_ ?_<;>intro hL
 ·have aj:e < l.length:=by simpa [aw] using hL
  obtain ⟨w,hw⟩:=gX aj;have aR:=sQ (L:=az lv) hw;refine ⟨ko w,⟨by omega,aT hw⟩,?_⟩;refine cP vZ (fI lv w.s hs) ?_;refine br ?_ ?_<;>intro ha
  ·have ha:=gg.1 ha;rw [aR,if_pos ha];refine dS ?_;refine ⟨ko w,⟨by omega,aT hw⟩,?_⟩;exact ⟨_,ax,rfl⟩
  ·cases hi:cY (az lv) w.s with
   | none=>have:=gg.2 hi;rw [ha] at this;cases this
   | some i=>
   rw [if_neg (by rw [hi];simp)] at aR;refine ⟨by simp [aZ,mF];omega,⟨by simp [aZ,mF,maxLen];omega,by simp [aZ,mF];omega⟩,?_⟩;exact rE ⟨_,by omega,e + 1,rfl,by omega,aR,rfl⟩ (ah ⟨_,rfl⟩ wA rfl rfl rfl (wB2 (aF aj (by omega)) (Hj hw hi)))
 ·have aM:e=l.length:=by have:=hL;simp [aw] at this;omega
  rw [aM,List.drop_length,List.take_length];refine cP XT (Hi lv.length f (by omega) (mF (az lv) l) (fun i hi=>by have:=QQ hi (by omega);omega) (by simp [mF];omega)) ?_;rw [<- fc];exact ⟨_,ax,rfl⟩
theorem Vc {S:Sch} {e:Nat} {x:Wd × Ty} (h:S.types[e]? = some x):(tL S)[e]? = some x.1.s:=by simp [tL,az,uI,h]
abbrev S1 (S:Sch) (s:ByteArray) (e:Nat):St:=
 ⟨[(1,⟨[],.v (.string s)⟩),(2,⟨[],.loc 0 0⟩),(5,⟨[],.v (.int .i64 e)⟩)],[fQ S],[]⟩
theorem k0 (S:Sch) (s:ByteArray) (hl:S.types.length<=1099511627776) :
  aQ prog 136 [.agg (fQ S),.v (.string s)] (.v (.int .i64 (oz (cY (tL S) s)))):=by
 have hN:=dR S.types;have gJ:=kz S;have eL:=@Vc S;obtain ⟨ae,order,types,⟨rh,rp⟩⟩:=S;simp only at hl hN gJ eL;refine eG 23 [.tmp 4] func136 rfl ntmps136 rfl fun _ _ _ _=>?_;refine lI (fun j st=>∃ e:Nat,st=S1 ⟨ae,order,types,.mk rh rp⟩ s e/\e<=types.length/\(∀ j,j < e->(tL ⟨ae,order,types,.mk rh rp⟩)[j]? ≠ some s)/\j=types.length - e) ⟨0,rfl,by omega,fun _ h=>by omega,rfl⟩ (ah ⟨_,rfl⟩ wA rfl rfl rfl wB) ?_;rintro j st ⟨e,rfl,he,eZ,rfl⟩;refine br ?_ ?_<;>intro hL
 ·have aj:e < types.length:=by have:=hL;simp [hN] at this;exact this
  obtain ⟨x,hx⟩:=gX aj;have hg:=eL hx;obtain ⟨xw,⟨xh,xp⟩⟩:=x;refine iX (dNms_get hx) ?_;refine br ?_ ?_<;>intro hq
  ·have hq:xw.s=s:=sU hq;rw [BR (p:=e) (by rw [hg,hq]) (fun j hj=>Nat.le_of_not_lt fun hl=>eZ j hl hj)];exact (rfl:_=_)
  ·have hq:¬ xw.s=s:=sU hq;refine ⟨S1 ⟨ae,order,types,.mk rh rp⟩ s (e + 1),(ah ⟨_,rfl⟩ wA rfl rfl rfl (cX (aF aj (by omega)))),types.length - (e + 1),by omega,e + 1,rfl,by omega,fun j hj=>?_,rfl⟩;rcases Nat.lt_succ_iff_lt_or_eq.1 hj with hj | rfl
   ·exact eZ j hj
   ·rw [hg];simpa using hq
 ·have aM:e=types.length:=sW hN hL;rw [IJ (fun j hj=>eZ j (by omega))];exact (rfl:_=_)
abbrev Zn (S:Sch) (l:List Wd) (e:Nat):St:=
 ⟨[(1,⟨[],.sl 2 (bJ l) none⟩),(2,⟨[],.loc 0 0⟩),(4,⟨[],.loc 1 0⟩),(5,⟨[],.v (.int .i64 e)⟩)],[fQ S,[.v (.int .i64 0),.v (.int .i64 0)]],[]⟩
theorem Ek (S:Sch) (hs:wdsWt S.ae<=1099511627776) (l:List Wd) (hl:wdsWt l<=1099511627776) :
  aQ prog 179 [.agg (fQ S),.sl 2 (bJ l) none] (labW (az S.ae) l).d:=by
 have nu:=bG l;obtain ⟨ae,order,types,⟨rh,rp⟩⟩:=S;simp only at hs;refine eG 28 [.cell 4 45] func179 rfl ntmps179 rfl fun _ _ _ _=>?_;refine lI (fun j st=>∃ e:Nat,st=Zn ⟨ae,order,types,.mk rh rp⟩ l e/\e<=l.length/\labW (az ae) l=labW (az ae) (l.drop e)/\j=l.length - e) ⟨0,rfl,by omega,rfl,rfl⟩ (ah ⟨_,rfl⟩ wA rfl rfl rfl wB) ?_;rintro j st ⟨e,rfl,he,aJ,rfl⟩;rw [aJ];refine br ?_ ?_<;>intro hL
 ·have aj:e < l.length:=by simpa [aw] using hL
  obtain ⟨w,hw⟩:=gX aj;have aR:=sQ (L:=az ae) hw;refine dI ?_;refine ⟨ko w,⟨by omega,aT hw⟩,?_⟩;refine cD vZ (fI ae w.s hs) ?_;refine br ?_ ?_<;>intro ha
  ·have ha:=gg.1 ha;rw [aR,if_pos ha];refine ⟨ko w,⟨by omega,aT hw⟩,?_⟩;exact ⟨_,ax,rfl⟩
  ·rw [if_neg (fun hn=>by have:=gg.2 hn;rw [ha] at this;cases this)] at aR;exact rE ⟨_,by omega,e + 1,rfl,by omega,aR,rfl⟩ (ah ⟨_,rfl⟩ wA rfl rfl rfl (cX (aF aj (by omega))))
 ·have aM:e=l.length:=by have:=hL;simp [aw] at this;omega
  rw [aM,List.drop_length];exact ⟨_,ax,rfl⟩
def iD (l:List Ty):List (List DV):=l.map ei
theorem dT (l:List Ty):(iD l).length=l.length:=by simp [iD]
theorem kC {l:List Ty} {j:Nat} {t:Ty} (h:l[j]? = some t):(iD l)[j]? = some (ei t):=by simp [iD,h]
def fl (S:Sch):List Ty:=S.types.map fun x=>x.2
def gw (S:Sch):List Ty:=fl S ++ [S.root]
abbrev Zo (S:Sch) (q e:Nat):St:=
 ⟨[(1,⟨[],.loc 0 0⟩),(3,⟨[],.sl 9 (iD ((fl S).take e)) (some 0)⟩),(4,⟨[],.v (.int .i64 e)⟩)],[fQ S],[⟨q,29,9,none⟩]⟩
theorem El (S:Sch) (hl:S.types.length<=1099511627776) :
  aQ prog 68 [.agg (fQ S)] (.sl 9 (iD (gw S)) none):=by
 have hN:=dR S.types;obtain ⟨ae,order,types,⟨rh,rp⟩⟩:=S;simp only at hl hN;refine eG 26 [.tmp 2] func68 rfl ntmps68 rfl fun _ _ _ _=>?_;refine lJ (fun e=>Zo ⟨ae,order,types,.mk rh rp⟩ e e) types.length (cL 1 ⟨0,29,9,none⟩ rfl rfl rfl pB rfl rfl lY) ?_;intro e he;have gJ:(iD ((fl ⟨ae,order,types,.mk rh rp⟩).take e)).length=e:=by simp [iD,fl];omega
 refine br ?_ ?_<;>intro hL
 ·have aj:e < types.length:=by have:=hL;simp [hN] at this;exact this
  obtain ⟨x,hx⟩:=gX aj
  have du:iD ((fl ⟨ae,order,types,.mk rh rp⟩).take e) ++ [ei x.2]=iD ((fl ⟨ae,order,types,.mk rh rp⟩).take (e + 1)):=by
   rw [List.take_add_one];simp [fl,hx,iD]
  obtain ⟨xw,⟨xh,xp⟩⟩:=x;refine iX (dNms_get hx) ?_;refine ⟨gJ,⟨by rw [gJ];simp [maxLen];omega,by rw [gJ];simp;omega⟩,?_⟩;exact rE ⟨_,by omega,e + 1,rfl,by omega,rfl⟩ (ap 1 rfl (gj (aF aj (by omega)) du) rfl rfl rfl (wB2 (aF aj (by omega)) du))
 ·have aM:e=types.length:=sW hN hL
  have o0:iD ((fl ⟨ae,order,types,.mk rh rp⟩).take e) ++ [ei (.mk rh rp)]=iD (gw ⟨ae,order,types,.mk rh rp⟩):=by
   rw [List.take_of_length_le (by simp [fl];omega)];simp [gw,iD]
  refine ⟨gJ,⟨by rw [gJ];simp [maxLen];omega,by rw [gJ];simp;omega⟩,?_⟩;rw [<- o0];exact ⟨_,ax,rfl⟩
mutual
def flatT:Ty->List Ty
 | .mk h ps=>if h.ag=9 then [] else .mk h ps :: flatP ps
def flatP:Pts->List Ty
 | .nil=>[]
 | .cons p t r=>(if p.bare then [] else flatT t) ++ flatP r
end
mutual
theorem j7:∀ t:Ty,(flatT t).length=t.nn
 | .mk h ps=>by
  have:=s5 ps;simp only [flatT,Ty.nn];split
  ·rfl
  ·simp only [List.length_cons];omega
theorem s5:∀ ps:Pts,(flatP ps).length=ps.nn
 | .nil=>rfl
 | .cons p t r=>by
  have:=j7 t;have:=s5 r;simp only [flatP,Pts.nn,List.length_append];split
  ·simp only [List.length_nil];omega
  ·omega
end
theorem QR {P:Program} {f:FuncId} {args:List DV} {e:Nat} {es:List (List DV)} (h:Ev P f args [] [] (fun r _ _=>r = .sl e es none∨(es=[]/\r = .v (.slice none 0 0)))):aQ P f args (.sl e es none):=by
 intro E w vs hE ht hv;refine (h E w vs hE ht hv).mono ?_;rintro e' w' ⟨v,rfl,hM,hs,d,os,E',h1,h2,h3,h4,h5,h6⟩;rcases h6 with rfl | ⟨rfl,rfl⟩
 ·exact ⟨v,rfl,hM,hs,_,os,E',h1,h2,h3,h4,h5,rfl⟩
 ·refine ⟨v,rfl,hM,hs,.sl e [] none,os,E',h1,h2,h3,h4,?_,rfl⟩;unfold Rv at h5 ⊢;exact ⟨_,0,0,h5.1,⟨rfl,Nat.le_refl _⟩,fun hn=>(hn rfl).elim,fun k hk=>by cases hk⟩
abbrev Vd (t:Ty) (L:List Ty) (q e:Nat):St:=
 ⟨[(1,⟨[],.loc 0 0⟩),(3,⟨[],.sl 9 (iD L) (some 0)⟩),(4,⟨[],.v (.int .i64 e)⟩)],[ei t],[⟨q,29,9,none⟩]⟩
theorem oL:∀ (k:Nat) (t:Ty),t.wt<=k->t.wt<=1099511627776 ->
  aQ prog 69 [.agg (ei t)] (.sl 9 (iD (flatT t)) none)
 | 0,t,hn,_=>by have:=t.er;omega
 | k + 1,.mk h ps,hn,cC=>by
  simp only [Ty.wt,Hd.wt] at hn cC;have mZ:=ps.fZ;have hc:=ps.eO;have lf:=ps.gK;have JB:=s5 ps;refine QR ?_;refine uV (s:=false) (bt:=[]) (mu:=[9]) (hbt:=fun p hp=>by cases hp) (fr:=false) (P:=prog) tt zB 5000 34 [.tmp 2] func69 rfl ntmps69 rfl (nL rfl) (fun _ _ _ _=>?_);refine br ?_ ?_<;>intro h9
  ·have h9:h.ag=9:=sU h9;have:flatT (.mk h ps)=[]:=by simp [flatT,h9]
   exact .inr ⟨by rw [this];rfl,rfl⟩
  have h9:¬ h.ag=9:=sU h9;have hft:flatT (.mk h ps) = .mk h ps :: flatP ps:=by simp [flatT,h9]
  refine U0 rfl rfl rfl rfl rfl rfl rfl rfl ?_
  refine bo (fun j st=>∃ (e q:Nat) (L:List Ty),st=Vd (.mk h ps) L q e/\q=L.length/\e<=ps.len/\flatT (.mk h ps)=L ++ flatP (ps.drop e)/\j=ps.len - e) ps.len
   (Vd (.mk h ps) [.mk h ps] 1 0) (ap 1 rfl pB rfl rfl rfl lY) ⟨0,1,_,rfl,rfl,by omega,hft,by omega⟩ ?_
  rintro j st ⟨e,q,L,rfl,hq,he,bg,rfl⟩
  have Zp:L.length<=1 + ps.nn:=by
   have:=congrArg List.length bg;rw [hft] at this;simp at this;omega
  refine br ?_ ?_<;>intro hL
  ·have aj:e < ps.len:=by simpa [aK] using hL
   obtain ⟨p,t,hx⟩:=Pts.eN aj;have yB:=Pts.gG (mG hx);rw [Pts.drop_cons hx] at bg;simp only [flatP] at bg;obtain ⟨u,us⟩:=t;refine iX (cd hx) ?_;refine br ?_ ?_<;>intro hB
   ·have hB:p.bare=false:=sU hB;have bg:flatT (.mk h ps)=(L ++ flatT (.mk u us)) ++ flatP (ps.drop (e + 1)):=by rw [bg,hB,List.append_assoc];all_goals rfl
    have xc:L.length + (flatT (.mk u us)).length<=1 + ps.nn:=by
     have:=congrArg List.length bg;rw [hft] at this;simp at this;omega
    have du:iD L ++ iD (flatT (.mk u us))=iD (L ++ flatT (.mk u us)):=by simp [iD]
    refine iX (cd hx) ?_;refine cP P5 (oL k (.mk u us) (by omega) (by omega)) ?_;refine ⟨by rw [dT,hq],⟨by simp only [dT,maxLen];omega,by simp only [dT];omega⟩,?_⟩;exact ⟨Vd (.mk h ps) (L ++ flatT (.mk u us)) (q + (iD (flatT (.mk u us))).length) (e + 1),(ap 1 rfl (gj (aF aj (by omega)) du) rfl rfl rfl (wB2 (aF aj (by omega)) du)),ps.len - (e + 1),by omega,e + 1,_,_,rfl,by rw [dT,List.length_append,hq],by omega,bg,rfl⟩
   ·have hB:p.bare=true:=sU hB;rw [hB] at bg;exact rE ⟨_,by omega,e + 1,q,L,rfl,hq,by omega,bg,rfl⟩ (ap 1 rfl (na (aF aj (by omega))) rfl rfl rfl (cX (aF aj (by omega))))
  ·have aM:e=ps.len:=by simp [aK] at hL;omega
   rw [aM,Pts.dr] at bg;simp only [flatP,List.append_nil] at bg;rw [bg];exact ⟨_,ax,.inl rfl⟩
theorem xx (S:Sch) (hl:S.types.length<=1099511627776) (hr:∀ x∈S.types,uJ S x.2=true):∀ (k i:Nat),i < S.types.length->k<=99 ->
  aQ prog 119 [.agg (fQ S),.v (.int .i64 i),.v (.int .i64 k)] (.v (.int .i64 (oz (endI S (k + 1) i))))
 | k,i,hi,hk=>by
  have hN:=dR S.types;have BT:=fun s=>k0 S s hl;have ih:∀ k' j,k=k' + 1->j < S.types.length->aQ prog 119 [.agg (fQ S),.v (.int .i64 j),.v (.int .i64 k')] (.v (.int .i64 (oz (endI S (k' + 1) j)))):=fun k' j he hj=>xx S hl hr k' j hj (by omega);obtain ⟨x,hx⟩:∃ x,S.types[i]? = some x:=⟨_,gE hi⟩;have Qs:=hr x (mG hx);have gJ:=kz S;obtain ⟨xw,⟨xh,xp⟩⟩:=x;have hE:endI S (k + 1) i=if xh.ag=9 then endI S k ((cY (tL S) xh.name.s).getD 0) else some i:=by rw [endI,hx];all_goals rfl
  obtain ⟨ae,order,types,⟨rh,rp⟩⟩:=S;simp only at hl hN hi hx Qs gJ;refine eG 32 [.tmp 6] func119 rfl ntmps119 rfl fun _ _ _ _=>?_;refine iX (dNms_get hx) ?_;refine br ?_ ?_<;>intro h9
  ·have h9:¬ xh.ag=9:=sU h9;rw [if_neg h9] at hE;rw [hE];exact (rfl:_=_)
  have h9:xh.ag=9:=sU h9;rw [if_pos h9] at hE;rw [hE];refine br ?_ ?_<;>intro h1
  ·have h1:k=0:=by have:=h1;simp at this;omega
   subst h1;exact (rfl:_=_)
  have h1:1<=k:=by have:=h1;simp at this;omega
  obtain ⟨k',rfl⟩:∃ k',k=k' + 1:=⟨k - 1,by omega⟩;have zw:=of_decide_eq_true Qs h9;obtain ⟨j,hj⟩:∃ j,cY (tL ⟨ae,order,types,.mk rh rp⟩) xh.name.s=some j:=Option.ne_none_iff_exists'.1 zw;have nD:=(dm hj).1;rw [gJ] at nD;have hf:=BT xh.name.s;rw [hj] at hf ⊢;have eJ:IntKind.i64.wrap (((k' + 1:Nat):Int) - 1)=(k':Int):=by rw [wrap64 (by omega) (by omega)];omega
  refine dI ?_;refine iX (dNms_get hx) ?_;refine cD Ih hf ?_;refine cD L7 (ih k' j rfl nD) ?_ (gF eJ);exact (rfl:_=_)
theorem s6 {S:Sch}:∀ {k i j:Nat},endI S k i=some j->endI S (k + 1) i=some j
 | 0,i,j,h=>by cases h
 | k + 1,i,j,h=>by
  rw [endI] at h ⊢
  cases hx:S.types[i]? with
  | none=>rw [hx] at h;cases h
  | some x=>
   rw [hx] at h;simp only at h ⊢;split at h
   ·rename_i h9;rw [if_pos h9];exact s6 h
   ·rename_i h9;rw [if_neg h9];exact h
def uK (S:Sch) (k:Nat):List Bool:=(List.range S.types.length).map fun i=>(endI S k i).isSome
theorem rn (S:Sch) (k:Nat):(uK S k).length=S.types.length:=by simp [uK]
theorem xy {S:Sch} {k i:Nat} (hi:i < S.types.length):(uK S k).getD i false=(endI S k i).isSome:=by
 simp [uK,List.getD_eq_getElem?_getD,List.getElem?_range hi]
theorem QS (S:Sch) (k:Nat):zR (uK S k) (uK S (k + 1)):=by
 intro i h;by_cases hi:i < S.types.length
 ·rw [xy hi] at h ⊢;obtain ⟨j,hj⟩:=Option.isSome_iff_exists.1 h;rw [s6 hj];rfl
 ·rw [List.getD_eq_getElem?_getD,List.getElem?_eq_none (by rw [rn];omega)] at h;cases h
theorem NK {S:Sch} {k:Nat} (h:uK S k=uK S (k + 1)):∀ i,endI S (k + 2) i=endI S (k + 1) i:=by
 intro i
 have key:∀ {j:Nat},j < S.types.length->(endI S k j).isSome=(endI S (k + 1) j).isSome:=fun {j} hj=>by
  rw [<- xy hj,<- xy hj,h]
 have same:∀ j,endI S (k + 1) j=endI S k j:=fun j=>by
  cases h1:endI S k j with
  | some m=>exact s6 h1
  | none=>
   cases h2:endI S (k + 1) j with
   | none=>rfl
   | some m=>
    have hj:j < S.types.length:=by
     rw [endI] at h2
     cases hx:S.types[j]? with
     | none=>rw [hx] at h2;cases h2
     | some x=>exact (gS hx).1
    have:=key hj;rw [h1,h2] at this;cases this
 rw [endI,endI]
 cases hx:S.types[i]? with
 | none=>rfl
 | some x=>
  simp only;split
  ·exact same _
  ·rfl
theorem Ak (S:Sch):∀ k,(∀ i,endI S (k + 1) i=endI S k i)∨k<=kv (uK S k)
 | 0=>.inr (Nat.zero_le _)
 | k + 1=>by
  rcases Ak S k with h | h
  ·refine .inl fun i=>?_;rw [endI,endI]
   cases hx:S.types[i]? with
   | none=>rfl
   | some x=>
    simp only;split
    ·exact h _
    ·rfl
  ·rcases (lm (by rw [rn,rn]) (QS S k)).1 with h2 | h2
   ·exact .inl (NK h2)
   ·exact .inr (by omega)
theorem Em {S:Sch}:∀ {k:Nat},S.types.length + 1<=k->∀ i,endI S k i=endI S (S.types.length + 1) i:=by
 have aR:∀ i,endI S (S.types.length + 2) i=endI S (S.types.length + 1) i:=fun i=>by
  rcases Ak S (S.types.length + 1) with h | h
  ·exact h i
  ·have:=q6 (uK S (S.types.length + 1));rw [rn] at this;omega
 have key:∀ d i,endI S (S.types.length + 1 + (d + 1)) i=endI S (S.types.length + 1 + d) i:=by
  intro d
  induction d with
  | zero=>exact aR
  | succ d ih=>
   intro i;show endI S (S.types.length + 1 + (d + 1) + 1) i=endI S (S.types.length + 1 + d + 1) i;rw [endI,endI]
   cases hx:S.types[i]? with
   | none=>rfl
   | some x=>
    simp only;split
    ·exact ih _
    ·rfl
 intro k hk i;obtain ⟨d,rfl⟩:∃ d,k=S.types.length + 1 + d:=⟨k - (S.types.length + 1),by omega⟩;clear hk
 induction d with
 | zero=>rfl
 | succ d ih=>rw [key,ih]
theorem xz (S:Sch) (hl:S.types.length<=64) (hr:∀ x∈S.types,uJ S x.2=true) (i:Nat) (hi:i < S.types.length) :
  aQ prog 119 [.agg (fQ S),.v (.int .i64 i),.v (.int .i64 (99:Nat))] (.v (.int .i64 (oz (endI S (S.types.length + 1) i)))):=by
 have:=xx S (by omega) hr 99 i hi (Nat.le_refl _)
 rwa [Em (by omega)] at this
abbrev Zq (S:Sch) (k n e:Nat):St:=
 ⟨[(2,⟨[],.loc 0 0⟩),(5,⟨[],.v (.int .i64 k)⟩),(6,⟨[],.v (.int .i64 n)⟩),(7,⟨[],.v (.int .i64 e)⟩)],[fQ S],[]⟩
theorem xA (S:Sch) (hl:S.types.length<=64) (hs:nmsWt S.types<=1099511627776) (hr:∀ x∈S.types,uJ S x.2=true) (s:ByteArray) (i k:Nat) (hi:cY (tL S) s=some i) (hk:endI S (S.types.length + 1) i=some k) :
  aQ prog 71 [.agg (fQ S),.v (.string s)] (.v (.int .i64 (firstA S k))):=by
 have hN:=dR S.types;have DB:=(dm hi).1;rw [kz] at DB;have ee:=(re hk).1;have hf:=k0 S s (by omega);have he:=xz S hl hr i DB;rw [hi] at hf;rw [hk] at he;have hfa:=@nX S;have IF:=z7 S;obtain ⟨ae,order,types,⟨rh,rp⟩⟩:=S;simp only at hl hs hN DB ee hfa IF;refine eG 29 [.tmp 4] func71 rfl ntmps71 rfl fun _ _ _ _=>?_;refine dI ?_;refine cD Ih hf ?_;refine cD L7 he ?_;refine lJ (fun e=>Zq ⟨ae,order,types,.mk rh rp⟩ k (firstA ⟨ae,order,types,.mk rh rp⟩ e) e) k (ah ⟨_,rfl⟩ wA rfl rfl rfl wB) ?_;intro e Ve;refine br ?_ ?_<;>intro hL
 ·have aj:e < k:=sU hL;obtain ⟨x,hx⟩:∃ x,types[e]? = some x:=⟨_,gE (by omega)⟩;have Sy:=gU (mG hx);have h1:=hfa hx;have h2:=IF e;have h3:=IF (e + 1);have h4:=j7 x.2;obtain ⟨xw,⟨xh,xp⟩⟩:=x;simp only at Sy h1 h4;refine iX (dNms_get hx) ?_;refine cP P5 (oL _ (.mk xh xp) (Nat.le_refl _) (by omega)) ?_
  have CU:IntKind.i64.wrap ((firstA ⟨ae,order,types,.mk rh rp⟩ e:Int) + (iD (flatT (.mk xh xp))).length)=(firstA ⟨ae,order,types,.mk rh rp⟩ (e + 1):Int):=by
   rw [dT,wrap64 (by omega) (by omega)];omega
  exact rE ⟨_,by omega,e + 1,rfl,by omega,rfl⟩ (ah ⟨_,rfl⟩ wA rfl rfl rfl (wB2 CU (aF aj (by omega))))
 ·have aM:e=k:=by have:=hL;simp at this;omega
  subst aM;exact (rfl:_=_)
theorem IM {S:Sch} {e:Nat} {x:Wd × Ty} (h:S.types[e]? = some x):(uI S)[e]? = some x.1:=by simp [uI,h]
abbrev Zr (S:Sch) (e:Nat):St:=
 ⟨[(1,⟨[],.loc 0 0⟩),(2,⟨[],.loc 1 0⟩),(3,⟨[],.v (.int .i64 e)⟩)],[fQ S,[.v (.int .i64 0),.v (.int .i64 0)]],[]⟩
theorem B5 (S:Sch) (hs:nmsWt S.types<=1099511627776) :
  aQ prog 116 [.agg (fQ S)] (eu S).d:=by
 have hN:=dR S.types;have fc:=j4 S.types;have gJ:=IH S;have hF:=eu.eq_1 S;have eL:=@IM S;have BT:=fun s=>k0 S s (by omega);have YO:tL S=az (uI S):=rfl;obtain ⟨ae,order,types,⟨rh,rp⟩⟩:=S;simp only at hs hN fc gJ eL hF;generalize hQ:uI ⟨ae,order,types,.mk rh rp⟩=Q at gJ hF eL YO;refine eG 47 [.cell 2 45] func116 rfl ntmps116 rfl fun _ _ _ _=>?_;generalize eu ⟨ae,order,types,.mk rh rp⟩=F at hF ⊢;refine br ?_ ?_<;>intro h
 ·have h:64 < types.length:=by simp [hN] at h;omega
  obtain ⟨x,hx⟩:∃ x,types[64]? = some x:=⟨_,gE h⟩;have Ni:=eL hx;rw [if_pos h,kX Ni] at hF;obtain ⟨xw,⟨xh,xp⟩⟩:=x;refine iX (dNms_get hx) ?_;refine ⟨_,?_,rfl⟩;rw [hF];exact ax
 have h:¬ 64 < types.length:=by simp [hN] at h;omega
 rw [if_neg h] at hF;refine lI (fun j st=>∃ e:Nat,st=Zr ⟨ae,order,types,.mk rh rp⟩ e/\e<=types.length/\enumL Q 0 Q=enumL Q e (Q.drop e)/\j=types.length - e) ⟨0,rfl,by omega,rfl,rfl⟩ (ah ⟨_,rfl⟩ wA rfl rfl rfl wB) ?_;rintro j st ⟨e,rfl,he,aJ,rfl⟩;rw [aJ] at hF;refine br ?_ ?_<;>intro hL
 ·have aj:e < types.length:=by have:=hL;simp [hN] at this;exact this
  obtain ⟨x,hx⟩:=gX aj;have Sy:=gU (mG hx);have hq:=eL hx;have aR:=pL hq;obtain ⟨p,hp,HZ⟩:=NI hq;obtain ⟨xw,⟨xh,xp⟩⟩:=x;simp only [Wd.wt] at Sy hq aR hp HZ;have hf:=BT xw.s;rw [YO,hp] at hf;have hlab:=mw [xw] (by simp only [wdsWt,Wd.wt];omega);have FO:bX [xw]=if bc xw.s then (0,0) else (9,xw.a):=by simp [bX,badWd]
  refine iX (dNms_get hx) ?_;refine cP Me hlab ?_;refine br ?_ ?_<;>intro hN
  ·have hN:(bX [xw]).1≠0:=sU hN
   cases bm:bc xw.s with
   | true=>rw [FO,bm] at hN;exact absurd rfl hN
   | false=>
   rw [bm] at FO;have FO:bX [xw]=(9,xw.a):=FO;have hf9:aG Q e xw=9:=by simp [aG,bm]
   rw [aR,hf9,if_pos (by decide)] at hF;refine ⟨_,?_,rfl⟩;rw [hF,FO];exact ax
  ·have hN:(bX [xw]).1=0:=sU hN
   cases bm:bc xw.s with
   | false=>rw [FO,bm] at hN;exact absurd hN (by simp)
   | true=>
   refine cP Ih hf ?_;refine br ?_ ?_<;>intro h2
   ·have h2:p < e:=by have:=h2;simp [oz] at this;exact this
    have hf10:aG Q e xw=10:=by simp [aG,bm,HZ.1 h2]
    rw [aR,hf10,if_pos (by decide)] at hF;refine ⟨_,?_,rfl⟩;rw [hF];exact ax
   ·have h2:¬ p < e:=by have:=h2;simp [oz] at this;omega
    have hd:bO (Q.take e) xw.s=false:=by
     cases hd:bO (Q.take e) xw.s
     ·rfl
     ·exact absurd (HZ.2 hd) h2
    have hf0:aG Q e xw=0:=by simp [aG,bm,hd]
    rw [hf0,if_neg (by simp)] at aR;exact rE ⟨_,by omega,e + 1,rfl,by omega,by rw [aJ,aR],rfl⟩ (ah ⟨_,rfl⟩ wA rfl rfl rfl (cX (aF aj (by omega))))
 ·have aM:e=types.length:=sW hN hL;rw [aM,<- gJ,List.drop_length] at hF;refine ⟨_,?_,rfl⟩;rw [hF];exact ax
abbrev IP (S:Sch) (t:Ty) (e:Nat):St:=
 ⟨[(2,⟨[],.loc 0 0⟩),(3,⟨[],.loc 1 0⟩),(4,⟨[],.loc 2 0⟩),(5,⟨[],.v (.int .i64 e)⟩)],[fQ S,ei t,[.v (.int .i64 0),.v (.int .i64 0)]],[]⟩
theorem rq (S:Sch) (hl:S.types.length<=1099511627776) (hs:wdsWt S.ae<=1099511627776):∀ (k:Nat) (t:Ty),t.wt<=k->t.wt<=1099511627776 ->
  aQ prog 118 [.agg (fQ S),.agg (ei t)] (kY S t).d
 | 0,t,hn,_=>by have:=t.er;omega
 | k + 1,.mk h ps,hn,cC=>by
  have ih:=rq S hl hs k;simp only [Ty.wt,Hd.wt] at hn cC;have mZ:=ps.fZ;have hf:=k0 S h.name.s hl;have hwd:=fun l hl=>Ek S hs l hl;have hS:kY S (.mk h ps)=if h.ag=9/\cY (tL S) h.name.s=none then (15,h.name.a) else knP ⟨az S.ae,[],[],[],fun _ _=>false⟩ (tL S) ps:=by rw [kY,knT]
  have V7:knP ⟨az S.ae,[],[],[],fun _ _=>false⟩ (tL S) ps=knP ⟨az S.ae,[],[],[],fun _ _=>false⟩ (tL S) (ps.drop 0):=by rw [Pts.drop]
  have hK:∀ e p u,ps.toList[e]? = some (p,u)->knP ⟨az S.ae,[],[],[],fun _ _=>false⟩ (tL S) (ps.drop e)=if (labW (az S.ae) p.label).1≠0 then labW (az S.ae) p.label else if (labW (az S.ae) p.cl).1≠0 then labW (az S.ae) p.cl else if p.bare then knP ⟨az S.ae,[],[],[],fun _ _=>false⟩ (tL S) (ps.drop (e + 1)) else if (kY S u).1≠0 then kY S u else knP ⟨az S.ae,[],[],[],fun _ _=>false⟩ (tL S) (ps.drop (e + 1)):=fun e p u hx=>by
   rw [Pts.drop_cons hx,knP];all_goals rfl
  have QJ:knP ⟨az S.ae,[],[],[],fun _ _=>false⟩ (tL S) .nil=(0,0):=by rw [knP]
  generalize knP ⟨az S.ae,[],[],[],fun _ _=>false⟩ (tL S)=KP at hS V7 hK QJ;obtain ⟨ae,order,types,⟨rh,rp⟩⟩:=S;refine eG 64 [.cell 4 45] func118 rfl ntmps118 rfl fun _ _ _ _=>?_;generalize kY ⟨ae,order,types,.mk rh rp⟩ (.mk h ps)=F at hS ⊢;refine have body:=?_;br (fun h9=>LR Ih hf ax rfl (br (fun hx=>?_) (fun hx=>bo (fun j st=>∃ e:Nat,st=IP ⟨ae,order,types,.mk rh rp⟩ (.mk h ps) e/\e<=ps.len/\F=KP (ps.drop e)/\j=ps.len - e) ps.len (IP ⟨ae,order,types,.mk rh rp⟩ (.mk h ps) 0) (ah ⟨_,rfl⟩ wA rfl rfl rfl wB) ⟨0,rfl,by omega,?_,by omega⟩ body))) (fun h9=>bo (fun j st=>∃ e:Nat,st=IP ⟨ae,order,types,.mk rh rp⟩ (.mk h ps) e/\e<=ps.len/\F=KP (ps.drop e)/\j=ps.len - e) ps.len (IP ⟨ae,order,types,.mk rh rp⟩ (.mk h ps) 0) (ah ⟨_,rfl⟩ wA rfl rfl rfl wB) ⟨0,rfl,by omega,?_,by omega⟩ body)
  rotate_left
  ·have h9:h.ag=9:=sU h9;have hx:cY (tL ⟨ae,order,types,.mk rh rp⟩) h.name.s=none:=gg.1 (by simpa [pickB] using hx);rw [if_pos ⟨h9,hx⟩] at hS;refine ⟨_,?_,rfl⟩;rw [hS];exact ax
  ·have hx:¬ cY (tL ⟨ae,order,types,.mk rh rp⟩) h.name.s=none:=fun hn=>by
    have h3:=gg.2 hn;simp [pickB] at hx;have h3:=of_decide_eq_true h3;omega
   rw [if_neg (fun hc=>hx hc.2),V7] at hS;exact hS
  ·have h9:¬ h.ag=9:=sU h9;rw [if_neg (fun hc=>h9 hc.1),V7] at hS;exact hS
  rintro j st ⟨e,rfl,he,aJ,rfl⟩;refine br ?_ ?_<;>intro hL
  ·have aj:e < ps.len:=by simpa [aK] using hL
   obtain ⟨p,t,hx⟩:=Pts.eN aj;have yB:=Pts.gG (mG hx);have hk:=hK e p t hx;have hw1:wdsWt p.label + wdsWt p.cl<=p.wt:=by simp only [Ph.wt];omega
   obtain ⟨u,us⟩:=t;refine iX (cd hx) ?_;refine cP Sd (hwd p.label (by omega)) ?_;refine br ?_ ?_<;>intro b1
   ·have b1:(labW (az ae) p.label).1=0:=sU b1;rw [if_neg (by simp [b1])] at hk;refine cP Sd (hwd p.cl (by omega)) ?_;refine br ?_ ?_<;>intro b2
    ·have b2:(labW (az ae) p.cl).1=0/\p.bare=false:=by
      rw [aq] at b2;simpa using b2
     obtain ⟨b2,b3⟩:=b2;rw [if_neg (by simp [b2]),if_neg (by simp [b3])] at hk;refine cP L6 (ih (.mk u us) (by omega) (by omega)) ?_;refine br ?_ ?_<;>intro b4
     ·have b4:(kY ⟨ae,order,types,.mk rh rp⟩ (.mk u us)).1≠0:=sU b4;rw [if_pos b4] at hk
      (refine ⟨_,?_,rfl⟩;rw [aJ,hk];exact ax)
     ·have b4:(kY ⟨ae,order,types,.mk rh rp⟩ (.mk u us)).1=0:=sU b4;rw [if_neg (by simp [b4])] at hk;exact rE ⟨_,by omega,e + 1,rfl,by omega,by rw [aJ,hk],rfl⟩ (ah ⟨_,rfl⟩ wA rfl rfl rfl (cX (aF aj (by omega))))
    ·refine br ?_ ?_<;>intro b4
     ·have b4:(labW (az ae) p.cl).1≠0:=sU b4;rw [if_pos b4] at hk
      (refine ⟨_,?_,rfl⟩;rw [aJ,hk];exact ax)
     ·have b4:(labW (az ae) p.cl).1=0:=sU b4
      have b3:p.bare=true:=by
       rw [aq] at b2;simpa [b4] using b2
      rw [if_neg (by simp [b4]),if_pos b3] at hk;exact rE ⟨_,by omega,e + 1,rfl,by omega,by rw [aJ,hk],rfl⟩ (ah ⟨_,rfl⟩ wA rfl rfl rfl (cX (aF aj (by omega))))
   ·have b1:¬ (labW (az ae) p.label).1=0:=sU b1;rw [if_pos b1] at hk;refine br ?_ ?_<;>intro b2
    ·rw [aq] at b2;simp [b1] at b2
    ·refine br ?_ ?_<;>intro b4
     ·(refine ⟨_,?_,rfl⟩;rw [aJ,hk];exact ax)
     ·simp [b1] at b4
  ·have aM:e=ps.len:=by simp [aK] at hL;omega
   rw [aM,Pts.dr] at aJ;refine ⟨_,?_,rfl⟩;rw [aJ,QJ];exact ax
abbrev IQ (h:Hd) (ps:Pts) (e:Nat) (depth m:Int):St:=
 ⟨[(2,⟨[],.v (.int .i64 depth)⟩),(3,⟨[],.loc 0 0⟩),(4,⟨[],.loc 1 0⟩),(6,⟨[],.loc 2 0⟩),(7,⟨[],.v (.int .i64 e)⟩)],[[.v (.int .i64 0),.v (.int .i64 0),.v (.int .i64 m)],ei (.mk h ps),[.v (.int .i64 0),.v (.int .i64 0),.v (.int .i64 0)]],[]⟩
theorem B6 (k:Nat) (ih:BE k) (h:Hd) (ps:Pts) (depth m:Int) (hk:ps.wt<=k) (cC:(Ty.mk h ps).wt<=1099511627776) (uZ:0<=depth) (yY:depth<=25) (oX:0<=m) (j1:m<=512) :
  aQ prog 117 [wD (0,0) m,.agg (ei (.mk h ps)),.v (.int .i64 depth)] (wD (wrong (.mk h ps) depth m).1 (wrong (.mk h ps) depth m).2):=by
 have zZ:=cC;simp only [Ty.wt,Hd.wt] at zZ;have mZ:=ps.fZ;have Up:=bG h.af;have rT:IntKind.i64.wrap (m + 1)=m + 1:=wrap64 (by omega) (by omega)
 have hW:∀ e a,aQ prog 174 [.agg [.v (.int .i64 0),.v (.int .i64 0),.v (.int .i64 (IntKind.i64.wrap (m + 1)))],.v (.int .i64 e),.v (.int .i64 a)] (wD (e,a) (m + 1)):=by
  intro e a;rw [rT];exact eF (0,0) (m + 1) e a
 have hS:=wrong.eq_def (.mk h ps) depth m;simp only at hS;refine eG 201 [.cell 6 192] func117 rfl ntmps117 rfl fun _ _ _ _=>?_;refine br ?_ ?_<;>intro c
 ·have c:24 < depth:=of_decide_eq_true c;refine cP gT (hW 6 h.aS) ?_;rw [if_pos c] at hS;refine ⟨_,?_,rfl⟩;rw [hS];exact ax
 have c:¬ 24 < depth:=of_decide_eq_false c;rw [if_neg c] at hS;refine br ?_ ?_<;>intro c
 ·have c:512 < IntKind.i64.wrap (m + 1):=of_decide_eq_true c;rw [rT] at c;refine cP gT (hW 8 h.aS) ?_;rw [if_pos c] at hS;refine ⟨_,?_,rfl⟩;rw [hS];exact ax
 have c:¬ 512 < IntKind.i64.wrap (m + 1):=of_decide_eq_false c;rw [rT] at c;rw [if_neg c] at hS;refine br ?_ ?_<;>intro c
 ·have c:h.ag < 1∨9 < h.ag:=by simpa [au] using c
  refine cP gT (hW 14 h.aS) ?_;rw [if_pos c] at hS;refine ⟨_,?_,rfl⟩;rw [hS];exact ax
 have c:¬ (h.ag < 1∨9 < h.ag):=by simp [au] at c;omega
 rw [if_neg c] at hS;refine cP XP (Gr (.mk h ps) (by omega)) ?_;refine br ?_ ?_<;>intro c
 ·have c:uG (.mk h ps)=false:=by simpa [uG] using c
  refine cP gT (hW 19 h.aS) ?_;rw [if_pos c] at hS;refine ⟨_,?_,rfl⟩;rw [hS];exact ax
 have c:¬ uG (.mk h ps)=false:=by simpa [uG] using c
 rw [if_neg c] at hS;refine br ?_ ?_<;>intro c
 ·have c:(h.ag=2/\h.hi < h.lo)∨(h.ag=3/\(h.most < 0∨4096 < h.most)):=by simp [au,aq] at c;omega
  refine cP gT (hW 20 h.aS) ?_;rw [if_pos c] at hS;refine ⟨_,?_,rfl⟩;rw [hS];exact ax
 have c:¬ ((h.ag=2/\h.hi < h.lo)∨(h.ag=3/\(h.most < 0∨4096 < h.most))):=by simp [au,aq] at c;omega
 rw [if_neg c] at hS;refine br ?_ ?_<;>intro k9
 ·have k9:h.ag=9:=sU k9;refine cP Ds (jq h.name.s (by simp only [Wd.wt] at zZ;omega)) ?_;refine br ?_ ?_<;>intro q
  ·have q:bc h.name.s=false:=by simpa [aq,k9] using q
   refine cP gT (hW 9 h.name.a) ?_;rw [if_pos ⟨k9,q⟩] at hS;refine ⟨_,?_,rfl⟩;rw [hS];exact ax
  ·have q:bc h.name.s=true:=by simpa [aq,k9] using q
   rw [if_neg (by simp [q]),if_neg (by omega),if_neg (by omega),if_neg (by omega)] at hS;refine br (fun x=>?_) (fun _=>?_)
   ·have:=of_decide_eq_true x;omega
   refine br (fun x=>?_) (fun _=>?_)
   ·simp [au] at x;omega
   refine br (fun x=>?_) (fun _=>?_)
   ·simp [au] at x;omega
   refine ⟨_,?_,rfl⟩;rw [hS];exact (gF rT)
 ·have k9:¬ h.ag=9:=sU k9;rw [if_neg (by simp [k9])] at hS;refine br ?_ ?_<;>intro k4
  ·have k4:h.ag=4:=of_decide_eq_true k4;rw [if_pos k4] at hS;refine br ?_ ?_<;>intro c
   ·have c:h.af=[]:=by simp [aw] at c;exact c
    refine cP gT (hW 15 h.aS) ?_;refine ⟨_,?_,rfl⟩;rw [hS];simp only [iY,if_pos c];exact ax
   have c:¬ h.af=[]:=by simp [aw] at c;exact c
   refine br ?_ ?_<;>intro c2
   ·have aj:64 < h.af.length:=by simp [aw] at c2;omega
    obtain ⟨x,hx⟩:=gX aj;refine dS ?_;refine ⟨ko x,⟨by omega,aT hx⟩,?_⟩;refine cD gT (hW 8 x.a) ?_;refine ⟨_,?_,rfl⟩;rw [hS];simp only [iY,if_neg c,if_pos aj,hx,Option.getD_some];exact ax
   have c2:¬ 64 < h.af.length:=by simp [aw] at c2;omega
   have hE:iY h=enumL h.af 0 h.af:=by simp only [iY,if_neg c,if_neg c2]
   rw [hE] at hS
   refine bo (fun j st=>∃ (e:Nat),st=IQ h ps e depth (m + 1)/\e<=h.af.length/\enumL h.af 0 h.af=enumL h.af e (h.af.drop e)/\j=h.af.length - e) h.af.length
    (IQ h ps 0 depth (m + 1)) (ap 3 rfl (na rT) rfl rfl rfl (cX rT)) ⟨0,rfl,by omega,rfl,by omega⟩ ?_
   rintro j st ⟨e,rfl,he,aJ,rfl⟩;refine br ?_ ?_<;>intro hL
   ·have aj:e < h.af.length:=by simpa [aw] using hL
    obtain ⟨x,hx⟩:=gX aj;rw [drop_cons hx] at aJ;simp only [enumL] at aJ;refine cP Sc (pf h.af e x (by omega) hx) ?_;refine br ?_ ?_<;>intro hl
    ·have hl:aG h.af e x≠0:=sU hl;rw [if_pos hl] at aJ;refine dS ?_;refine ⟨ko x,⟨by omega,aT hx⟩,?_⟩;refine cD gT (eF (0,0) (m + 1) _ x.a) ?_;refine ⟨_,?_,rfl⟩;rw [hS,aJ];exact ax
    ·have hl:aG h.af e x=0:=sU hl;rw [if_neg (by simp [hl])] at aJ;exact rE ⟨_,by omega,e + 1,rfl,by omega,aJ,rfl⟩ (ah ⟨_,rfl⟩ wA rfl rfl rfl (cX (aF aj (by omega))))
   ·have aM:e=h.af.length:=by simp [aw] at hL;omega
    rw [aM,List.drop_length] at aJ;simp only [enumL] at aJ;rw [aJ] at hS;refine br (fun x=>?_) (fun _=>?_)
    ·simp [au] at x;omega
    refine br (fun x=>?_) (fun _=>?_)
    ·simp [au] at x;omega
    refine ⟨_,?_,rfl⟩;rw [hS];exact ax
  ·have k4:¬ h.ag=4:=of_decide_eq_false k4;rw [if_neg k4] at hS;refine br ?_ ?_<;>intro k5
   ·have k5:h.ag=5∨h.ag=6:=by simpa [au] using k5
    rw [if_pos k5] at hS
    cases ps with
    | nil=>
     refine cP gT (hW 19 h.aS) ?_;refine ⟨_,?_,rfl⟩;rw [hS];simp only [wrongOne];exact ax
    | cons p t r=>
     cases r with
     | cons p2 t2 r2=>
      refine cP gT (hW 19 h.aS) ?_;refine ⟨_,?_,rfl⟩;rw [hS];simp only [wrongOne];exact ax
     | nil=>
      obtain ⟨u,us⟩:=t;simp only [wrongOne] at hS;simp only [Ty.wt,Pts.wt] at zZ hk;refine ⟨_,⟨by omega,rfl⟩,?_⟩;refine br ?_ ?_<;>intro c
      ·have c:p.name.s=av:=by
        have:=c;simp [au] at this;exact this
       refine ⟨_,⟨by omega,rfl⟩,?_⟩;refine cP Mf (mv p ff (ei (.mk u us)) (ei cq) (by omega) (zG _ _ _ _ _) (zG _ _ _ _ _)) ?_;refine br ?_ ?_<;>intro q
       ·have q:bW p ff=false:=by simpa [au,c] using q
        refine cP gT (hW 19 h.aS) ?_;rw [if_pos (by simp [q])] at hS;refine ⟨_,?_,rfl⟩;rw [hS];exact ax
       ·have q:bW p ff=true:=by simpa [au,c] using q
        rw [if_neg (by simp [q,c])] at hS;refine br ?_ ?_<;>intro x
        ·have x:h.most < 0∨1024 < h.most:=by simpa [au] using x
         refine cP gT (hW 20 h.aS) ?_;rw [if_pos x] at hS;refine ⟨_,?_,rfl⟩;rw [hS];exact ax
        ·have x:¬ (h.most < 0∨1024 < h.most):=by simp [au] at x;omega
         rw [if_neg x] at hS;refine dS ?_;refine ⟨_,⟨by omega,rfl⟩,?_⟩;refine cD L5 (ih (.mk u us) (depth + 1) (m + 1) (by simp only [Ty.wt];omega) (by simp only [Ty.wt];omega) (by omega) (by omega) (by omega) (by omega)) ?_ (by repeat' (first | exact rfl | exact trivial | exact Or.inr (Or.inl ⟨_,rfl⟩) | exact Or.inr ⟨_,rfl⟩ | exact Or.inl ⟨rfl,rfl⟩ | exact Or.inl rfl | refine Or.inr ⟨_,_,rfl,Nat.zero_le _,rfl,?_⟩ | refine ⟨_,_,rfl,?_,?_⟩ | refine ⟨_,rfl,?_⟩ | exact congrArg (fun z=>DV.v (.int .i64 z)) rT | exact congrArg (fun z=>DV.v (.int .i64 z)) (wrap64 (by omega) (by omega))| refine Or.inr (Or.inr (Or.inr ⟨_,_,rfl,?_⟩)) | exact Or.inl rfl | refine Or.inr ?_));refine ⟨_,?_,rfl⟩;rw [hS];exact ax
      ·have c:p.name.s≠av:=by
        have:=c;simp [au] at this;exact this
       refine cP gT (hW 19 h.aS) ?_;rw [if_pos (.inl c)] at hS;refine ⟨_,?_,rfl⟩;rw [hS];exact ax
   ·have k5:¬ (h.ag=5∨h.ag=6):=by simp [au] at k5;omega
    rw [if_neg k5] at hS;refine br ?_ ?_<;>intro k7
    ·have k7:h.ag=7∨h.ag=8:=by simpa [au] using k7
     rw [if_pos k7] at hS;have hP:wrong (.mk h ps) depth m=fg h ps depth (m + 1):=by rw [hS];all_goals rfl
     refine cP XQ (BF k ih h ps depth (m + 1) hk cC uZ (by omega) (by omega) (by omega)) ?_ (gF rT);refine ⟨_,?_,rfl⟩;rw [hP];exact ax
    ·have k7:¬ (h.ag=7∨h.ag=8):=by simp [au] at k7;omega
     rw [if_neg k7] at hS;refine ⟨_,?_,rfl⟩;rw [hS];exact (gF rT)
theorem Am:∀ k,BE k
 | 0=>fun t depth m hk=>by have:=t.er;omega
 | k + 1=>fun t depth m hk cC uZ yY oX j1=>by
  obtain ⟨h,ps⟩:=t;have eJ:=hk;simp only [Ty.wt,Hd.wt] at eJ;exact B6 k (Am k) h ps depth m (by omega) cC uZ yY oX j1
theorem B7 (t:Ty) (depth m:Int) (cC:t.wt<=1099511627776) (uZ:0<=depth) (yY:depth<=25) (oX:0<=m) (j1:m<=512) :
  aQ prog 117 [wD (0,0) m,.agg (ei t),.v (.int .i64 depth)] (wD (wrong t depth m).1 (wrong t depth m).2):=
 Am t.wt t depth m (Nat.le_refl _) cC uZ yY oX j1
def eaA:List Ty->Int->Ft × Int
 | [],m=>((0,0),m)
 | t :: r,m=>if (cr t m).1.1≠0 then cr t m else eaA r (cr t m).2
theorem NL (z:Ty):∀ (l:List (Wd × Ty)) (m:Int),((eaA (l.map (fun x=>x.2) ++ [z]) m).1.1=0↔(eaR z l m).1.1=0)/\((eaR z l m).1.1≠0->eaA (l.map (fun x=>x.2) ++ [z]) m=eaR z l m)
 | [],m=>by
  show ((eaA [z] m).1.1=0↔(cr z m).1.1=0)/\((cr z m).1.1≠0->eaA [z] m=cr z m);simp only [eaA];by_cases h:(cr z m).1.1=0
  ·simp [h]
  ·simp [h]
 | x :: r,m=>by
  have ih:=NL z r (cr x.2 m).2;simp only [List.map_cons,List.cons_append,eaA,eaR];by_cases h:(cr x.2 m).1.1=0
  ·simp only [h,ne_eq,not_true,if_false];exact ih
  ·simp [h]
def eaK (F:Ty->Ft):List Ty->Ft
 | []=>(0,0)
 | t :: r=>if (F t).1≠0 then F t else eaK F r
theorem NM (F:Ty->Ft) (z:Ty):∀ l:List (Wd × Ty),((eaK F (l.map (fun x=>x.2) ++ [z])).1=0↔(eaL F (F z) l).1=0)/\((eaL F (F z) l).1≠0->eaK F (l.map (fun x=>x.2) ++ [z])=eaL F (F z) l)
 | []=>by
  show ((eaK F [z]).1=0↔(F z).1=0)/\((F z).1≠0->eaK F [z]=F z);simp only [eaK];by_cases h:(F z).1=0
  ·simp [h]
  ·simp [h]
 | x :: r=>by
  have ih:=NM F z r;simp only [List.map_cons,List.cons_append,eaK,eaL];by_cases h:(F x.2).1=0
  ·simp only [h,ne_eq,not_true,if_false];exact ih
  ·simp [h]
theorem Hk {F:Ty->Ft}:∀ {l:List Ty},(eaK F l).1=0->∀ t∈l,(F t).1=0
 | [],_,t,ht=>by cases ht
 | u :: r,h,t,ht=>by
  rw [eaK] at h;split at h
  ·rename_i h1;exact (h1 h).elim
  ·rename_i h1;rcases List.mem_cons.1 ht with rfl | ht
   ·simpa using h1
   ·exact Hk h t ht
theorem IU (S:Sch):lO S=if (latF S.ae S.order).1≠0 then latF S.ae S.order
 else if (eu S).1≠0 then eu S
 else if (eaA (gw S) 0).1.1≠0 then (eaA (gw S) 0).1
 else if (eaK (kY S) (gw S)).1≠0 then eaK (kY S) (gw S)
 else loopF S:=by
 have h1:=NL S.root S.types 0;have h2:=NM (kY S) S.root S.types;unfold lO gw fl;by_cases a:(eaR S.root S.types 0).1.1=0
 ·have a':=h1.1.2 a;simp only [a,a',ne_eq,not_true,if_false];by_cases b:(eaL (kY S) (kY S S.root) S.types).1=0
  ·have b':=h2.1.2 b;simp only [b,b',ne_eq,not_true,if_false]
  ·rw [h2.2 b]
 ·rw [h1.2 a];by_cases b:(eaL (kY S) (kY S S.root) S.types).1=0
  ·have b':=h2.1.2 b;simp only [b,b',a,ne_eq,not_true,not_false_eq_true,if_false,if_true]
  ·rw [h2.2 b]
abbrev Vf (S:Sch) (T:List Ty) (m:Int) (e:Nat):St:=
 ⟨[(1,⟨[],.loc 0 0⟩),(2,⟨[],.loc 1 0⟩),(5,⟨[],.sl 9 (iD T) none⟩),(6,⟨[],.v (.int .i64 m)⟩),(7,⟨[],.v (.int .i64 e)⟩)],[fQ S,[.v (.int .i64 0),.v (.int .i64 0)]],[]⟩
abbrev Zs (S:Sch) (T:List Ty) (e:Nat):St:=
 ⟨[(1,⟨[],.loc 0 0⟩),(2,⟨[],.loc 1 0⟩),(5,⟨[],.sl 9 (iD T) none⟩),(11,⟨[],.v (.int .i64 e)⟩)],[fQ S,[.v (.int .i64 0),.v (.int .i64 0)]],[]⟩
abbrev Vg (S:Sch) (e:Nat):St:=
 ⟨[(1,⟨[],.loc 0 0⟩),(2,⟨[],.loc 1 0⟩),(13,⟨[],.v (.int .i64 e)⟩)],[fQ S,[.v (.int .i64 0),.v (.int .i64 0)]],[]⟩
theorem B8 {S:Sch} (hs:S.wt<=1099511627776):∀ t∈gw S,t.wt<=1099511627776:=by
 intro t ht;unfold Sch.wt at hs;rcases List.mem_append.1 ht with h | h
 ·obtain ⟨x,hx,rfl⟩:=List.mem_map.1 h;have:=gU hx;omega
 ·simp only [List.mem_singleton] at h;subst h;omega
theorem B9 (S:Sch) (hs:S.wt<=1099511627776):aQ prog 60 [.agg (fQ S)] (lO S).d:=by
 have Kv:=B8 hs;unfold Sch.wt at hs;have hN:=dR S.types;have fc:=j4 S.types;have Kw:=B4 S.ae S.order (by omega) (by omega);have Zt:=B5 S (by omega);have fo:=El S (by omega);have Zu:=fun t ht=>rq S (by omega) (by omega) _ t (Nat.le_refl _) (Kv t ht);have hF:=IU S;have hlen:(gw S).length=S.types.length + 1:=by simp [gw,fl]
 have hnF:(eu S).1=0->S.types.length<=64:=fun h=>by
  unfold eu at h;split at h
  ·cases h
  ·omega
 obtain ⟨ae,order,types,⟨rh,rp⟩⟩:=S;simp only at hs hN fc Kw Zt hlen hnF hF;generalize hT:gw ⟨ae,order,types,.mk rh rp⟩=T at Kv fo Zu hlen hF;refine eG 104 [.cell 2 45] func60 rfl ntmps60 rfl fun _ _ _ _=>?_;generalize lO ⟨ae,order,types,.mk rh rp⟩=F at hF ⊢;refine cP Xv Kw ?_;refine br ?_ ?_<;>intro h1
 ·have h1:(latF ae order).1≠0:=sU h1;rw [if_pos h1] at hF;refine ⟨_,?_,rfl⟩;rw [hF];exact ax
 have h1:(latF ae order).1=0:=sU h1;rw [if_neg (by simp [h1])] at hF;refine cP Xw Zt ?_;refine br ?_ ?_<;>intro h2
 ·have h2:(eu ⟨ae,order,types,.mk rh rp⟩).1≠0:=sU h2;rw [if_pos h2] at hF;refine ⟨_,?_,rfl⟩;rw [hF];exact ax
 have h2:(eu ⟨ae,order,types,.mk rh rp⟩).1=0:=sU h2;rw [if_neg (by simp [h2])] at hF;have Vh:=hnF h2;refine cP Xg fo ?_
 refine bo (fun j st=>∃ (e:Nat) (m:Int),st=Vf ⟨ae,order,types,.mk rh rp⟩ T m e/\e<=types.length + 1/\0<=m/\m<=512/\eaA T 0=eaA (T.drop e) m/\j=types.length + 1 - e) (types.length + 1)
  (Vf ⟨ae,order,types,.mk rh rp⟩ T 0 0) (ah ⟨_,rfl⟩ wA rfl rfl rfl wB) ⟨0,0,rfl,by omega,by omega,by omega,rfl,by omega⟩ ?_
 rintro j st ⟨e,m,rfl,he,oX,j1,aJ,rfl⟩;refine br ?_ ?_<;>intro hL
 ·have aj:e < types.length + 1:=by have:=hL;simp [dT,hlen] at this;omega
  obtain ⟨t,ht⟩:∃ t,T[e]? = some t:=⟨_,gE (by omega)⟩;have M1:=Kv t (mG ht);have aR:eaA (T.drop e) m=if (cr t m).1.1≠0 then cr t m else eaA (T.drop (e + 1)) (cr t m).2:=by rw [drop_cons ht,eaA]
  have Vi:cr t m=if (wrong t 1 0).1.1≠0 then ((wrong t 1 0).1,m) else if 512 < m + t.cnt then ((8,t.h.aS),m + t.cnt) else ((0,0),m + t.cnt):=rfl
  have QL:=B7 t 1 0 M1 (by omega) (by omega) (by omega) (by omega);have bL:=kU _ t (Nat.le_refl _) M1;have ow:=t.eO;obtain ⟨u,us⟩:=t;refine iX (kC ht) ?_;refine cP L5 QL ?_;refine br ?_ ?_<;>intro g1
  ·have g1:(wrong (.mk u us) 1 0).1.1≠0:=sU g1;rw [if_pos g1] at Vi;rw [aJ,aR,Vi,if_pos g1,if_pos g1] at hF;refine ⟨_,?_,rfl⟩;rw [hF];exact ax
  have g1:(wrong (.mk u us) 1 0).1.1=0:=sU g1;rw [if_neg (by simp [g1])] at Vi;refine iX (kC ht) ?_;refine cP PZ bL ?_;have CU:IntKind.i64.wrap (m + ((Ty.mk u us).cnt:Int))=m + (Ty.mk u us).cnt:=wrap64 (by omega) (by omega);refine br ?_ ?_<;>intro g2
  ·have g2:512 < IntKind.i64.wrap (m + ((Ty.mk u us).cnt:Int)):=of_decide_eq_true g2;rw [CU] at g2;rw [if_pos g2] at Vi;rw [aJ,aR,Vi,if_pos (by simp),if_pos (by simp)] at hF;refine iX (kC ht) ?_;refine ⟨_,?_,rfl⟩;rw [hF];exact ax
  ·have g2:¬ 512 < IntKind.i64.wrap (m + ((Ty.mk u us).cnt:Int)):=of_decide_eq_false g2;rw [CU] at g2;rw [if_neg g2] at Vi;rw [Vi,if_neg (by simp)] at aR;exact ⟨Vf ⟨ae,order,types,.mk rh rp⟩ T (m + (Ty.mk u us).cnt) (e + 1),(ah ⟨_,rfl⟩ wA rfl rfl rfl (wB2 CU (aF aj (by omega)))),types.length + 1 - (e + 1),by omega,e + 1,_,rfl,by omega,by omega,by omega,by rw [aJ,aR],rfl⟩
 have aM:e=types.length + 1:=by have:=hL;simp [dT,hlen] at this;omega
 rw [aJ,List.drop_of_length_le (by omega),show eaA [] m=((0,0),m) from rfl,if_neg (by simp)] at hF
 refine bo (fun j st=>∃ (e:Nat),st=Zs ⟨ae,order,types,.mk rh rp⟩ T e/\e<=types.length + 1/\eaK (kY ⟨ae,order,types,.mk rh rp⟩) T=eaK (kY ⟨ae,order,types,.mk rh rp⟩) (T.drop e)/\j=types.length + 1 - e) (types.length + 1)
  (Zs ⟨ae,order,types,.mk rh rp⟩ T 0) (ah ⟨_,rfl⟩ wA rfl rfl rfl wB) ⟨0,rfl,by omega,rfl,by omega⟩ ?_
 clear aJ hL aM he e;rintro j st ⟨e,rfl,he,aJ,rfl⟩;refine br ?_ ?_<;>intro hL
 ·have aj:e < types.length + 1:=by have:=hL;simp [dT,hlen] at this;omega
  obtain ⟨t,ht⟩:∃ t,T[e]? = some t:=⟨_,gE (by omega)⟩;have aR:eaK (kY ⟨ae,order,types,.mk rh rp⟩) (T.drop e)=if (kY ⟨ae,order,types,.mk rh rp⟩ t).1≠0 then kY ⟨ae,order,types,.mk rh rp⟩ t else eaK (kY ⟨ae,order,types,.mk rh rp⟩) (T.drop (e + 1)):=by rw [drop_cons ht,eaK]
  have hu:=Zu t (mG ht);obtain ⟨u,us⟩:=t;apply ox (fun _=>false) 5 6 [0,1,2,3,4,5,6,7] [0,1,2,3,4,6,5,7] 2 2 mo (by decide +kernel)
  ·refine iX (kC ht) ?_;refine cD L6 hu ?_;refine (?_:@Eq St _ _);exact rfl
  ·refine iX (kC ht) ?_;refine cD L6 hu ?_;refine (⟨rfl,rfl,?_⟩:_/\_/\_)
   repeat' (first | exact trivial | refine ⟨rfl,?_⟩)
  ·rfl
  refine br ?_ ?_<;>intro g
  ·have g:(kY ⟨ae,order,types,.mk rh rp⟩ (.mk u us)).1≠0:=sU g;rw [aJ,aR,if_pos g,if_pos g] at hF;refine ⟨_,?_,rfl⟩;rw [hF];exact ax
  ·have g:(kY ⟨ae,order,types,.mk rh rp⟩ (.mk u us)).1=0:=sU g;rw [if_neg (by simp [g])] at aR;exact rE ⟨_,by omega,e + 1,rfl,by omega,by rw [aJ,aR],rfl⟩ (ah ⟨_,rfl⟩ wA rfl rfl rfl (cX (aF aj (by omega))))
 have aM:e=types.length + 1:=by have:=hL;simp [dT,hlen] at this;omega
 have H7:(eaK (kY ⟨ae,order,types,.mk rh rp⟩) T).1=0:=by rw [aJ,List.drop_of_length_le (by omega)];all_goals rfl
 rw [aJ,List.drop_of_length_le (by omega),show eaK (kY ⟨ae,order,types,.mk rh rp⟩) []=(0,0) from rfl,if_neg (by simp)] at hF
 have SS:∀ x∈types,uJ ⟨ae,order,types,.mk rh rp⟩ x.2=true:=fun x hx=>B0 (Hk H7 x.2 (by
  rw [<- hT]
  exact List.mem_append_left _ (List.mem_map_of_mem hx)))
 have he99:=xz ⟨ae,order,types,.mk rh rp⟩ Vh SS
 have hlo:F=match bI (fun i=>(endI ⟨ae,order,types,.mk rh rp⟩ (types.length + 1) i).isNone) types.length with
  | none=>(0,0)
  | some i=>(11,UM (uI ⟨ae,order,types,.mk rh rp⟩) i):=hF
 refine bo (fun j st=>∃ e:Nat,st=Vg ⟨ae,order,types,.mk rh rp⟩ e/\e<=types.length/\(∀ i,i < e->(endI ⟨ae,order,types,.mk rh rp⟩ (types.length + 1) i).isNone=false)/\j=types.length - e) types.length
  (Vg ⟨ae,order,types,.mk rh rp⟩ 0) (ah ⟨_,rfl⟩ wA rfl rfl rfl wB) ⟨0,rfl,by omega,fun _ h=>by omega,by omega⟩ ?_
 clear aJ hL aM he e;rintro j st ⟨e,rfl,he,eZ,rfl⟩;refine br ?_ ?_<;>intro hL
 ·have aj:e < types.length:=by have:=hL;simp [hN] at this;exact this
  obtain ⟨x,hx⟩:=gX aj;have Ni:(uI ⟨ae,order,types,.mk rh rp⟩)[e]? = some x.1:=IM hx;have h9:=he99 e aj;obtain ⟨xw,⟨xh,xp⟩⟩:=x;refine cP L7 h9 ?_;refine br ?_ ?_<;>intro g
  ·have g:endI ⟨ae,order,types,.mk rh rp⟩ (types.length + 1) e=none:=gg.1 g;have CR:=bq (p:=fun i=>(endI ⟨ae,order,types,.mk rh rp⟩ (types.length + 1) i).isNone) aj (by simp only [g];rfl) eZ;rw [CR] at hlo;simp only [kX Ni] at hlo;refine iX (dNms_get hx) ?_;refine ⟨_,?_,rfl⟩;rw [hlo];exact ax
  ·have g:¬ endI ⟨ae,order,types,.mk rh rp⟩ (types.length + 1) e=none:=fun hn=>by have h3:=gg.2 hn;rw [g] at h3;cases h3
   refine ⟨Vg ⟨ae,order,types,.mk rh rp⟩ (e + 1),(ah ⟨_,rfl⟩ wA rfl rfl rfl (cX (aF aj (by omega)))),types.length - (e + 1),by omega,e + 1,rfl,by omega,fun i hi=>?_,rfl⟩;rcases Nat.lt_succ_iff_lt_or_eq.1 hi with hi | rfl
   ·exact eZ i hi
   ·exact Option.isNone_eq_false_iff.2 (Option.isSome_iff_ne_none.2 g)
 ·have aM:e=types.length:=sW hN hL;rw [aM] at eZ;rw [bK eZ] at hlo;refine ⟨_,?_,rfl⟩;rw [hlo];exact ax
theorem aC {l:List Ed} {i:Nat} {e:Ed} (h:l[i]? = some e):(cw l)[i]? = some (BZ e):=by simp [cw,h]
def QT (lev:List Wd->Int) (s:Sch) (t:Ty) (k:Nat):Nd:=⟨t.h.ag,t.h.aS,t.h.lo,t.h.hi,t.h.most,az t.h.af,edsP lev s t.ps (k + 1)⟩
mutual
theorem vb (lev:List Wd->Int) (s:Sch):∀ (t:Ty) (k:Nat),ndsT lev s t k=(flatT t).zipIdx.map fun x=>QT lev s x.1 (k + x.2)
 | .mk h ps,k=>by
  have ih:=Ca lev s ps (k + 1);rw [ndsT,flatT];split
  ·rfl
  ·rw [ih,List.zipIdx_cons,List.map_cons];rw [List.zipIdx_succ,List.map_map];refine congr (congrArg List.cons rfl) (List.map_congr_left fun x _=>?_);simp only [Function.comp];congr 1;omega
theorem Ca (lev:List Wd->Int) (s:Sch):∀ (ps:Pts) (k:Nat),xe lev s ps k=(flatP ps).zipIdx.map fun x=>QT lev s x.1 (k + x.2)
 | .nil,k=>rfl
 | .cons p u r,k=>by
  rw [xe,flatP,List.zipIdx_append,List.map_append]
  cases hb:p.bare with
  | true=>
   simp only [if_true,List.zipIdx_nil,List.map_nil,List.nil_append,List.length_nil,Nat.add_zero];exact Ca lev s r k
  | false=>
   simp only [Bool.false_eq_true,if_false];rw [vb lev s u k,Ca lev s r (k + u.nn),j7];refine congrArg _ ?_;rw [List.zipIdx_eq_map_add (l:=flatP r) (i:=0 + u.nn)];rw [List.map_map];refine List.map_congr_left fun x _=>?_;simp only [Function.comp];congr 1;omega
end
theorem Cb {X:Lx} {L:List ByteArray}:∀ {ps:Pts},(knP X L ps).1=0->∀ {p:Ph} {u:Ty},(p,u)∈ps.toList->p.bare=false->(knT X L u).1=0
 | .nil,_,p,u,h,_=>by cases h
 | .cons q v r,hk,p,u,h,hb=>by
  rcases List.mem_cons.1 h with h | h
  ·cases h;exact (sS hk).1 hb
  ·exact Cb (sS hk).2 h hb
theorem s7 {w:Int} (h:decide (w=0)=true):lN w=3:=by unfold lN;rw [if_pos (of_decide_eq_true h)]
theorem s8 {w:Int} (h:decide (w=0)=false):lN w=w:=by unfold lN;rw [if_neg (of_decide_eq_false h)]
theorem gD {L:List Ed} {lev:List Wd->Int} {p:Ph} {to w z:Int} (hw:lN p.wide=w) (ht:to=z):cw L ++ [[.v (.string p.name.s),.v (.bool p.bare),.v (.int .i64 p.name.a),.v (.int .i64 z),.v (.int .i64 (lev p.label)),.v (.int .i64 w),.v (.int .i64 p.ck),.v (.int .i64 p.cn),.v (.int .i64 (lev p.cl)),.v (.int .i64 p.ca)]]=cw (L ++ [xd lev p to]):=by
 subst hw ht;simp [cw,BZ,xd]
abbrev Zv (S:Sch) (f:Nat->Nat->Bool) (t:Ty) (me:Nat) (q e:Nat):St:=
 ⟨[(1,⟨[],.sl 1 (cH (dt S.ae.length f)) none⟩),(3,⟨[],.v (.int .i64 me)⟩),(4,⟨[],.loc 0 0⟩),(6,⟨[],.loc 1 0⟩),(8,⟨[],.loc 2 0⟩),(9,⟨[],.loc 3 0⟩),(10,⟨[],.v (.int .i64 e)⟩)],
  [fQ S,ei t,[.v (.int .i64 0),.v (.int .i64 0),.v (.int .i64 0),.v (.int .i64 0),.v (.int .i64 0),.v (.slice none 0 0),.v (.slice none 0 0)],
  [.v (.int .i64 t.h.ag),.v (.int .i64 t.h.aS),.v (.int .i64 t.h.lo),.v (.int .i64 t.h.hi),.v (.int .i64 t.h.most),.sl 1 (eV (az (t.h.af.take e))) (some 0),.v (.slice none 0 0)]],[⟨q,9,1,none⟩]⟩
abbrev Eo (S:Sch) (f:Nat->Nat->Bool) (t:Ty) (q1 q2:Nat) (L:List Ed) (nx e:Nat):St:=
 ⟨[(1,⟨[],.sl 1 (cH (dt S.ae.length f)) none⟩),(4,⟨[],.loc 0 0⟩),(6,⟨[],.loc 1 0⟩),(8,⟨[],.loc 2 0⟩),(9,⟨[],.loc 3 0⟩),(11,⟨[],.v (.int .i64 nx)⟩),(12,⟨[],.v (.int .i64 e)⟩)],
  [fQ S,ei t,[.v (.int .i64 0),.v (.int .i64 0),.v (.int .i64 0),.v (.int .i64 0),.v (.int .i64 0),.v (.slice none 0 0),.v (.slice none 0 0)],
  [.v (.int .i64 t.h.ag),.v (.int .i64 t.h.aS),.v (.int .i64 t.h.lo),.v (.int .i64 t.h.hi),.v (.int .i64 t.h.most),.sl 1 (eV (az t.h.af)) (some 0),.sl 10 (cw L) (some 1)]],[⟨q1,9,1,none⟩,⟨q2,146,10,none⟩]⟩
set_option maxHeartbeats 2000000 in
theorem Hl (S:Sch) (hS:S.wt<=1099511627776) (hl:(latF S.ae S.order).1=0) (Vh:S.types.length<=64) (hr:∀ x∈S.types,uJ S x.2=true) (hlo:∀ i,i < S.types.length->∃ k,endI S (S.types.length + 1) i=some k)
  (t:Ty) (ht:t.wt<=1099511627776) (hk:(kY S t).1=0) (me:Nat) (UG:me<=1099511627776) :
  aQ prog 70 [.agg (fQ S),.sl 1 (cH (dt S.ae.length (fh S.ae.length (dD (az S.ae) S.order)))) none,.agg (ei t),.v (.int .i64 me)] (.agg (gv (QT (jf S) S t me))):=by
 obtain ⟨hL,U1⟩:=nZ hl;have jF:=hL.pos;unfold Sch.wt at hS;have G4:=fun l (h:wdsWt l<=1099511627776)=>Ku S.ae (fh S.ae.length (dD (az S.ae) S.order)) jF U1 (by omega) l h;have hls:∀ l,jf S l=BU (fh S.ae.length (dD (az S.ae) S.order)) (az S.ae) l:=fun _=>rfl;have QU:=fun s i k=>xA S Vh (by omega) hr s i k;have gJ:=kz S;generalize fh S.ae.length (dD (az S.ae) S.order)=f at G4 hls ⊢;obtain ⟨h,ps⟩:=t;have UW:=(mI hk).2;simp only [Ty.wt,Hd.wt] at ht;have mZ:=ps.fZ;have hc:=ps.eO;have lf:=ps.gK;have hwl:=bG h.af;generalize V8:jf S=lev at hls ⊢;obtain ⟨ae,order,types,⟨rh,rp⟩⟩:=S;simp only at hS Vh hr hlo G4 hls QU gJ UW;refine eG 131 [.cell 8 128] func70 rfl ntmps70 rfl fun _ _ _ _=>?_;refine lJ (fun e=>Zv ⟨ae,order,types,.mk rh rp⟩ f (.mk h ps) me e e) h.af.length (cL 4 ⟨0,9,1,none⟩ rfl rfl rfl pB rfl rfl lY) ?_;intro e he;refine br ?_ ?_<;>intro hL
 ·have aj:e < h.af.length:=by have:=hL;simp [aw] at this;exact this
  obtain ⟨w,hw⟩:=gX aj;have du:=j3 hw;have cR:(eV (az (h.af.take e))).length=e:=by simp [eV,az];omega
  refine dS ?_;refine iX (aT hw) ?_;refine ⟨cR,⟨by simp only [Ty.h];rw [cR];simp [maxLen];omega,by simp only [Ty.h];rw [cR];simp;omega⟩,?_⟩;exact rE ⟨_,by omega,e + 1,rfl,by omega,rfl⟩ (ap 4 rfl (gj (aF aj (by omega)) du) rfl rfl rfl (wB2 (aF aj (by omega)) du))
 have aM:e=h.af.length:=by have:=hL;simp [aw] at this;omega
 have Zw:IntKind.i64.wrap ((me:Int) + 1)=((me + 1:Nat):Int):=by rw [wrap64 (by omega) (by omega)];omega
 have JE:eV (az (h.af.take e))=eV (az h.af):=by rw [aM,List.take_length]
 refine bo (fun j st=>∃ (e q nx:Nat) (L:List Ed),st=Eo ⟨ae,order,types,.mk rh rp⟩ f (.mk h ps) h.af.length q L nx e/\q=e/\L.length=e/\e<=ps.len/\nx + (ps.drop e).nn=me + 1 + ps.nn/\edsP lev ⟨ae,order,types,.mk rh rp⟩ ps (me + 1)=L ++ edsP lev ⟨ae,order,types,.mk rh rp⟩ (ps.drop e) nx/\j=ps.len - e) ps.len
  (Eo ⟨ae,order,types,.mk rh rp⟩ f (.mk h ps) e 0 [] (me + 1) 0) (cL 4 ⟨0,146,10,none⟩ rfl rfl rfl (gj Zw JE) rfl rfl (wB2 Zw JE)) ⟨0,0,me + 1,[],by rw [aM],rfl,rfl,by omega,rfl,rfl,by omega⟩ ?_
 clear he hL aM JE e;rintro j st ⟨e,q,nx,L,rfl,hq,Zp,he,eE,aJ,rfl⟩;refine br ?_ ?_<;>intro hL
 ·have aj:e < ps.len:=by simpa [aK] using hL
  obtain ⟨p,u,hx⟩:=Pts.eN aj;have yB:=Pts.gG (mG hx);have hw1:p.name.wt + wdsWt p.label + wdsWt p.cl<=p.wt:=by simp only [Ph.wt];omega
  rw [Pts.drop_cons hx,edsP] at aJ;rw [Pts.drop_cons hx,Pts.nn] at eE;have yQ:=G4 p.label (by omega);have Qw:=G4 p.cl (by omega);unfold Kf at yQ Qw;rw [<- hls] at yQ Qw;obtain ⟨uh,us⟩:=u;refine iX (cd hx) ?_;refine br ?_ ?_<;>intro hw
  all_goals
   refine cP R1 yQ ?_;refine cP R1 Qw ?_;have cR:(cw L).length=q:=by rw [aO,Zp,hq]
   refine br ?_ ?_<;>intro hB
   ·have hB:p.bare=true:=hB;have rU:u9 ⟨ae,order,types,.mk rh rp⟩ p (.mk uh us) nx = -1:=by simp [u9,hB]
    rw [hB] at aJ eE;refine ⟨cR,⟨by rw [cR];simp [maxLen];omega,by rw [cR];simp;omega⟩,?_⟩;exact ⟨Eo ⟨ae,order,types,.mk rh rp⟩ f (.mk h ps) h.af.length (q + 1) (L ++ [xd lev p (u9 ⟨ae,order,types,.mk rh rp⟩ p (.mk uh us) nx)]) nx (e + 1),(ap 4 rfl (PM (aF aj (by omega)) (gD (s7 hw) rU) (gD (s8 hw) rU)) rfl rfl rfl (yx (aF aj (by omega)) (gD (s7 hw) rU) (gD (s8 hw) rU))),ps.len - (e + 1),by omega,e + 1,q + 1,nx,_,rfl,by omega,by simp [Zp],by omega,by rw [<- eE];simp,by rw [aJ];simp,rfl⟩
   ·have hB:p.bare=false:=hB;have jB:=Cb UW (mG hx) hB;refine br ?_ ?_<;>intro h9
    ·have h9:uh.ag=9:=sU h9;obtain ⟨i,hi⟩:=Option.ne_none_iff_exists'.1 ((mI jB).1 h9);obtain ⟨k,hk⟩:=hlo i (by have:=(dm hi).1;omega);have rU:u9 ⟨ae,order,types,.mk rh rp⟩ p (.mk uh us) nx=(firstA ⟨ae,order,types,.mk rh rp⟩ k:Int):=by simp [u9,hB,nY,Ty.h,h9,UU,hi,namedN,hk]
     refine cP Xh (QU uh.name.s i k hi hk) ?_;refine ⟨cR,⟨by rw [cR];simp [maxLen];omega,by rw [cR];simp;omega⟩,?_⟩;exact ⟨Eo ⟨ae,order,types,.mk rh rp⟩ f (.mk h ps) h.af.length (q + 1) (L ++ [xd lev p (u9 ⟨ae,order,types,.mk rh rp⟩ p (.mk uh us) nx)]) nx (e + 1),(ap 4 rfl (PM (aF aj (by omega)) (gD (s7 hw) rU) (gD (s8 hw) rU)) rfl rfl rfl (yx (aF aj (by omega)) (gD (s7 hw) rU) (gD (s8 hw) rU))),ps.len - (e + 1),by omega,e + 1,q + 1,nx,_,rfl,by omega,by simp [Zp],by omega,by rw [<- eE];simp [hB,Ty.nn,h9],by rw [aJ];simp [hB,Ty.nn,h9],rfl⟩
    ·have h9:¬ uh.ag=9:=sU h9;have rU:u9 ⟨ae,order,types,.mk rh rp⟩ p (.mk uh us) nx=(nx:Int):=by simp [u9,hB,nY,Ty.h,h9]
     have hnn:=(Ty.mk uh us).gK;have Li:=(Ty.mk uh us).eO
     have CU:IntKind.i64.wrap ((nx:Int) + (iD (flatT (.mk uh us))).length)=((nx + (Ty.mk uh us).nn:Nat):Int):=by
      rw [dT,j7,wrap64 (by omega) (by omega)];omega
     refine cP P5 (oL _ (.mk uh us) (Nat.le_refl _) (by omega)) ?_;refine ⟨cR,⟨by rw [cR];simp [maxLen];omega,by rw [cR];simp;omega⟩,?_⟩;exact ⟨Eo ⟨ae,order,types,.mk rh rp⟩ f (.mk h ps) h.af.length (q + 1) (L ++ [xd lev p (u9 ⟨ae,order,types,.mk rh rp⟩ p (.mk uh us) nx)]) (nx + (Ty.mk uh us).nn) (e + 1),(ap 4 rfl (wA4 (aF aj (by omega)) CU (gD (s7 hw) rU) (gD (s8 hw) rU)) rfl rfl rfl (VW (aF aj (by omega)) CU (gD (s7 hw) rU) (gD (s8 hw) rU))),ps.len - (e + 1),by omega,e + 1,q + 1,(nx + (Ty.mk uh us).nn),_,rfl,by omega,by simp [Zp],by omega,by rw [<- eE];simp [hB];omega,by rw [aJ];simp [hB],rfl⟩
 have aM:e=ps.len:=by simp [aK] at hL;omega
 rw [aM,Pts.dr,edsP,List.append_nil] at aJ;unfold QT;simp only [Ty.h,Ty.ps];rw [aJ];exact ⟨_,ax,rfl⟩
def ndsA (lev:List Wd->Int) (s:Sch):List Ty->Nat->List Nd
 | [],_=>[]
 | t :: r,k=>ndsT lev s t k ++ ndsA lev s r (k + t.nn)
def rr (l:List Ty):Nat:=(l.map Ty.nn).sum
theorem n8 (t:Ty) (l:List Ty):rr (t :: l)=t.nn + rr l:=by simp [rr]
theorem vd (a b:List Ty):rr (a ++ b)=rr a + rr b:=by simp [rr]
theorem lP (lev:List Wd->Int) (s:Sch):∀ (l:List Ty) (k:Nat),(ndsA lev s l k).length=rr l
 | [],_=>rfl
 | t :: r,k=>by simp only [ndsA,List.length_append,kA,lP lev s r,n8]
theorem xB (lev:List Wd->Int) (s:Sch):∀ (a b:List Ty) (k:Nat),ndsA lev s (a ++ b) k=ndsA lev s a k ++ ndsA lev s b (k + rr a)
 | [],b,k=>by simp [ndsA,rr]
 | t :: r,b,k=>by rw [List.cons_append,ndsA,ndsA,xB lev s r b,List.append_assoc,n8,Nat.add_assoc]
theorem xC (lev:List Wd->Int) (s:Sch):∀ (l:List (Wd × Ty)) (k:Nat),ndsAll lev s l k=ndsA lev s (l.map fun x=>x.2) k
 | [],_=>rfl
 | x :: r,k=>by rw [ndsAll,List.map_cons,ndsA,xC lev s r]
theorem xD (s:Sch):(rj s).length=rr (fl s):=by rw [rj,xC,lP];all_goals rfl
theorem oM (s:Sch):aV s=ndsA (jf s) s (gw s) 0:=by
 unfold aV gw;rw [xB,xD,rj,xC,ndsA,ndsA,List.append_nil,Nat.zero_add];rfl
theorem Kx {lev:List Wd->Int} {s:Sch} {l:List Ty} {e:Nat} {t:Ty} (h:l[e]? = some t):ndsA lev s (l.take (e + 1)) 0=ndsA lev s (l.take e) 0 ++ ndsT lev s t (ndsA lev s (l.take e) 0).length:=by
 rw [List.take_add_one,h,xB,lP,Nat.zero_add];simp [ndsA]
theorem Ep (l:List Ty):∀ e,rr (l.take e)<=rr l:=by
 intro e;have:=vd (l.take e) (l.drop e);rw [List.take_append_drop] at this;omega
theorem NN (s:Sch):rr (gw s)<=s.wt:=by
 have key:∀ l:List (Wd × Ty),rr (l.map fun x=>x.2)<=nmsWt l:=by
  intro l
  induction l with
  | nil=>exact Nat.le_refl _
  | cons x r ih=>
   have:=x.2.gK;have:=x.2.eO;simp only [List.map_cons,n8,nmsWt];omega
 have h1:=key s.types;have h2:=s.root.gK;have h3:=s.root.eO;unfold gw;rw [vd,n8];unfold Sch.wt fl;simp only [rr,List.map_nil,List.sum_nil] at h1 ⊢;omega
mutual
theorem xE {X:Lx} {L:List ByteArray}:∀ (t:Ty),(knT X L t).1=0->∀ u∈flatT t,(knT X L u).1=0
 | .mk h ps,hk,u,hu=>by
  rw [flatT] at hu;split at hu
  ·cases hu
  ·rcases List.mem_cons.1 hu with rfl | hu
   ·exact hk
   ·exact Er ps (mI hk).2 u hu
theorem Er {X:Lx} {L:List ByteArray}:∀ (ps:Pts),(knP X L ps).1=0->∀ u∈flatP ps,(knT X L u).1=0
 | .nil,_,u,hu=>by cases hu
 | .cons p v r,hk,u,hu=>by
  rw [flatP] at hu;rcases List.mem_append.1 hu with hu | hu
  ·cases hb:p.bare with
   | true=>rw [hb] at hu;cases hu
   | false=>rw [hb] at hu;exact xE v ((sS hk).1 hb) u hu
  ·exact Er r (sS hk).2 u hu
end
mutual
theorem xF:∀ (t:Ty),∀ u∈flatT t,u.wt<=t.wt
 | .mk h ps,u,hu=>by
  rw [flatT] at hu;split at hu
  ·cases hu
  ·rcases List.mem_cons.1 hu with rfl | hu
   ·exact Nat.le_refl _
   ·have:=Et ps u hu;simp only [Ty.wt];omega
theorem Et:∀ (ps:Pts),∀ u∈flatP ps,u.wt<=ps.wt
 | .nil,u,hu=>by cases hu
 | .cons p v r,u,hu=>by
  rw [flatP] at hu;simp only [Pts.wt];rcases List.mem_append.1 hu with hu | hu
  ·split at hu
   ·cases hu
   ·have:=xF v u hu;omega
  ·have:=Et r u hu;omega
end
theorem NO {lev:List Wd->Int} {s:Sch} {t u:Ty} {n k:Nat} (h:(flatT t)[k]? = some u):(ndsT lev s t n)[k]? = some (QT lev s u (n + k)):=by
 rw [vb,List.getElem?_map,List.getElem?_zipIdx,h];simp
structure An (S:Sch):Prop where
 lat:(latF S.ae S.order).1=0
 l64:S.types.length<=64
 kn:∀ t∈gw S,(kY S t).1=0
 ends:∀ i,i < S.types.length->∃ k,endI S (S.types.length + 1) i=some k
 wr:∀ t∈gw S,(wrong t 1 0).1.1=0
theorem NP:∀ {l:List Ty} {m:Int},(eaA l m).1.1=0->∀ t∈l,(wrong t 1 0).1.1=0
 | [],_,_,t,ht=>by cases ht
 | u :: r,m,h,t,ht=>by
  rw [eaA] at h;split at h
  ·rename_i h1;exact (h1 h).elim
  ·rename_i h1;rcases List.mem_cons.1 ht with rfl | ht
   ·exact (oK (sU h1)).2.2.1
   ·exact NP h t ht
theorem xG {S:Sch} (h:(lO S).1=0):An S:=by
 rw [IU] at h;split at h
 ·rename_i h1;exact (h1 h).elim
 rename_i h1;split at h
 ·rename_i h2;exact (h2 h).elim
 rename_i h2;split at h
 ·rename_i h3;exact (h3 h).elim
 rename_i h3;split at h
 ·rename_i h4;exact (h4 h).elim
 rename_i h4
 exact {
  lat:=sU h1
  l64:=by
   have h2:(eu S).1=0:=sU h2;unfold eu at h2;split at h2
   ·cases h2
   ·omega
  kn:=Hk (sU h4)
  ends:=Eb h
  wr:=NP (sU h3) }
theorem An.refs {S:Sch} (h:An S):∀ x∈S.types,uJ S x.2=true:=fun x hx=>B0 (h.kn x.2 (List.mem_append_left _ (List.mem_map_of_mem hx)))
abbrev wC (S:Sch) (f:Nat->Nat->Bool) (N:DV) (z:Int):List DV:=[.sl 2 (bJ S.ae) none,.sl 1 (cH (dt S.ae.length f)) none,N,.v (.int .i64 z)]
abbrev NQ (S:Sch) (T:List Ty) (f:Nat->Nat->Bool) (L:List Nd) (z:Int) (e q:Nat):St:=
 ⟨[(1,⟨[],.loc 0 0⟩),(2,⟨[],.loc 1 0⟩),(3,⟨[],.loc 2 0⟩),(4,⟨[],.sl 9 (iD T) none⟩),(5,⟨[],.v (.int .i64 e)⟩)],[fQ S,[.v (.slice none 0 0),.v (.slice none 0 0),.v (.slice none 0 0),.v (.int .i64 0)],wC S f (.sl 7 (bh L) (some 0)) z],[⟨q,128,7,none⟩]⟩
abbrev S2 (S:Sch) (T:List Ty) (f:Nat->Nat->Bool) (L:List Nd) (z:Int) (e:Nat) (F:List Ty) (k q:Nat):St:=
 ⟨[(1,⟨[],.loc 0 0⟩),(2,⟨[],.loc 1 0⟩),(3,⟨[],.loc 2 0⟩),(4,⟨[],.sl 9 (iD T) none⟩),(5,⟨[],.v (.int .i64 e)⟩),(6,⟨[],.sl 9 (iD F) none⟩),(7,⟨[],.v (.int .i64 k)⟩)],[fQ S,[.v (.slice none 0 0),.v (.slice none 0 0),.v (.slice none 0 0),.v (.int .i64 0)],wC S f (.sl 7 (bh L) (some 0)) z],[⟨q,128,7,none⟩]⟩
theorem Cd (S:Sch) (hS:S.wt<=1099511627776) (hR:(lO S).1=0) :
  aQ prog 24 [.agg (fQ S)] (.agg (wC S (fh S.ae.length (dD (az S.ae) S.order)) (.sl 7 (bh (aV S)) none) (fT S))):=by
 have Po:=xG hR;obtain ⟨_,U1⟩:=nZ Po.lat;have Kv:=B8 hS;have Up:=NN S;have hN0:=(pP Po.lat).2.2.1;have hrr:=Po.refs;have eI:=fun t ht hk me UG=>Hl S hS Po.lat Po.l64 hrr Po.ends t ht hk me UG;have hwS:=hS;unfold Sch.wt at hS;have QV:=Eg S.ae S.order U1 (by omega) (by omega) hN0;have fo:=El S (by have:=Po.l64;omega);have hlen:(gw S).length=S.types.length + 1:=by simp [gw,fl]
 have Vh:=Po.l64;have QU:=fun s i k=>xA S Vh (by omega) hrr s i k;have H7:=Po.kn;have xH:=Po.ends;have gJ:=kz S
 have nW:(gw S)[S.types.length]? = some S.root:=by
  unfold gw;rw [List.getElem?_append_right (by simp [fl])];simp [fl]
 have S3:=xD S
 have kM:(gw S).take S.types.length=fl S:=by
  unfold gw;rw [List.take_append_of_le_length (by simp [fl])];exact List.take_of_length_le (by simp [fl])
 rw [oM];unfold fT;generalize jf S=lev at eI ⊢;generalize fh S.ae.length (dD (az S.ae) S.order)=f at eI QV ⊢;obtain ⟨ae,order,types,⟨rh,rp⟩⟩:=S;simp only at hS QV hlen Vh xH gJ nW kM;generalize hT:gw ⟨ae,order,types,.mk rh rp⟩=T at Kv Up fo hlen H7 nW kM ⊢;refine eG 67 [.cell 2 68] func24 rfl ntmps24 rfl fun _ _ _ _=>?_;apply ox (fun _=>false) 6 8 [0,1,2,3,4,5,6,7,8,9] [0,1,2,3,4,5,8,6,7,9] 2 2 mo (by decide +kernel)
 ·refine cD Uc QV ?_;refine (?_:@Eq St _ _);exact rfl
 ·refine cD Uc QV ?_;refine (⟨rfl,rfl,?_⟩:_/\_/\_)
  repeat' (first | exact trivial | refine ⟨rfl,?_⟩)
 ·rfl
 refine cP Xg fo ?_
 have hLN:∀ e,(ndsA lev ⟨ae,order,types,.mk rh rp⟩ (T.take e) 0).length<=1099511627776:=fun e=>by
  rw [lP];have:=Ep T e;omega
 refine bo (fun j st=>∃ (e q:Nat) (z:Int),st=NQ ⟨ae,order,types,.mk rh rp⟩ T f (ndsA lev ⟨ae,order,types,.mk rh rp⟩ (T.take e) 0) z e q/\q=(ndsA lev ⟨ae,order,types,.mk rh rp⟩ (T.take e) 0).length/\e<=types.length + 1/\(e=types.length + 1->z=(rr (T.take types.length):Nat))/\j=types.length + 1 - e) (types.length + 1)
  (NQ ⟨ae,order,types,.mk rh rp⟩ T f [] 0 0 0) (cL 3 ⟨0,128,7,none⟩ rfl rfl rfl pB rfl rfl lY) ⟨0,0,0,rfl,rfl,by omega,fun h=>by omega,by omega⟩ ?_
 rintro j st ⟨e,q,z,rfl,hq,he,hz,rfl⟩;refine br ?_ ?_<;>intro hL
 ·have aj:e < types.length + 1:=by have:=hL;simp [dT,hlen] at this;omega
  obtain ⟨t,ht⟩:∃ t,T[e]? = some t:=⟨_,gE (by omega)⟩;have M1:=Kv t (mG ht);have htk':=H7 t (mG ht);have JB:=oL _ t (Nat.le_refl _) M1;have hfk:=xE t htk';have YS:=xF t;have Wf:=Kx (lev:=lev) (s:=⟨ae,order,types,.mk rh rp⟩) ht;have hfln:=j7 t;have fc:=kA lev ⟨ae,order,types,.mk rh rp⟩ t (ndsA lev ⟨ae,order,types,.mk rh rp⟩ (T.take e) 0).length;have eL:=fun k u (h:(flatT t)[k]? = some u)=>NO (lev:=lev) (s:=⟨ae,order,types,.mk rh rp⟩) (n:=(ndsA lev ⟨ae,order,types,.mk rh rp⟩ (T.take e) 0).length) h;have hLe:=hLN e;have Vj:=hLN (e + 1);have Wg:=lP lev ⟨ae,order,types,.mk rh rp⟩ (T.take e) 0;rw [Wf,List.length_append] at Vj;obtain ⟨u,us⟩:=t;generalize ndsA lev ⟨ae,order,types,.mk rh rp⟩ (T.take e) 0=L at hq Wf fc eL hLe Vj Wg ⊢;generalize ndsT lev ⟨ae,order,types,.mk rh rp⟩ (.mk u us) L.length=M at Wf fc eL Vj;generalize flatT (.mk u us)=F at JB hfk YS hfln eL;have bA:((bh L).length:Int)=(L.length:Int):=by rw [cp]
  refine iX (kC ht) ?_;refine cP P5 JB ?_
  refine bo (fun j st=>∃ (k q:Nat),st=S2 ⟨ae,order,types,.mk rh rp⟩ T f (L ++ M.take k) (L.length:Int) e F k q/\q=(L ++ M.take k).length/\k<=F.length/\j=F.length - k) F.length
   (S2 ⟨ae,order,types,.mk rh rp⟩ T f (L ++ []) (L.length:Int) e F 0 q) (ap 3 rfl (by repeat' (first | exact rfl | exact ay rfl | exact aA bA | exact dB (by rw [List.append_nil]) rfl | refine ⟨_,_,rfl,?_,?_⟩)) rfl rfl rfl (by repeat' (first | exact trivial | exact ay rfl | exact aA bA | exact dB (by rw [List.append_nil]) rfl | refine ⟨⟨_,rfl,?_⟩,?_⟩))) ⟨0,q,rfl,by simp [hq],by omega,by omega⟩ ?_
  rintro j st ⟨k,q',rfl,iR,hk,rfl⟩;refine br ?_ ?_<;>intro kx
  ·have jB:k < F.length:=by have:=kx;simp [dT] at this;exact this
   obtain ⟨v,hv⟩:∃ v,F[k]? = some v:=⟨_,gE jB⟩;have VT:=mG hv;have hvw:=YS v VT;have cR:(bh (L ++ M.take k)).length=q':=by rw [cp,iR]
   have jY:q'=L.length + k:=by rw [iR,List.length_append,List.length_take];omega
   have hnd:=eI v (by omega) (hfk v VT) (bh (L ++ M.take k)).length (by omega)
   have du:bh (L ++ M.take k) ++ [gv (QT lev ⟨ae,order,types,.mk rh rp⟩ v (bh (L ++ M.take k)).length)]=bh (L ++ M.take (k + 1)):=by
    rw [List.take_add_one,eL k v hv,cR,jY];simp [bh]
   obtain ⟨vh,vp⟩:=v;refine dS ?_;refine iX (kC hv) ?_;refine cD en70 hnd ?_;refine ⟨cR,⟨by rw [cR];simp [maxLen];omega,by rw [cR];simp;omega⟩,?_⟩;exact rE ⟨_,by omega,k + 1,q' + 1,rfl,by rw [jY];simp;omega,by omega,rfl⟩ (ap 3 rfl (gj (aF jB (by omega)) du) rfl rfl rfl (wB2 (aF jB (by omega)) du))
  ·have aM:k=F.length:=by have:=kx;simp [dT] at this;omega
   have hM:M.take k=M:=List.take_of_length_le (by omega);rw [hM] at iR;refine ⟨NQ ⟨ae,order,types,.mk rh rp⟩ T f (ndsA lev ⟨ae,order,types,.mk rh rp⟩ (T.take (e + 1)) 0) (L.length:Int) (e + 1) q',(ap 3 rfl (by repeat' (first | exact rfl | exact ay rfl | exact aA (aF aj (by omega)) | exact dB (by rw [Wf,hM]) rfl | refine ⟨_,_,rfl,?_,?_⟩)) rfl rfl rfl (by repeat' (first | exact trivial | exact ay rfl | exact aA (aF aj (by omega)) | exact dB (by rw [Wf,hM]) rfl | refine ⟨⟨_,rfl,?_⟩,?_⟩))),types.length + 1 - (e + 1),by omega,e + 1,q',_,rfl,by rw [Wf,iR],by omega,fun he1=>?_,rfl⟩;rw [Wg,show e=types.length by omega]
 ·have aM:e=types.length + 1:=by have:=hL;simp [dT,hlen] at this;omega
  have hTa:T.take e=T:=List.take_of_length_le (by omega);rw [hTa];have hz:=hz aM;rw [kM,<- S3] at hz;have SS:=H7 (.mk rh rp) (mG nW);refine br ?_ ?_<;>intro h9
  ·have h9:rh.ag=9:=sU h9;obtain ⟨i,hi⟩:=Option.ne_none_iff_exists'.1 ((mI SS).1 h9);obtain ⟨k,hk⟩:=xH i (by have:=(dm hi).1;omega);have rU:nY ⟨ae,order,types,.mk rh rp⟩ (.mk rh rp) (rj ⟨ae,order,types,.mk rh rp⟩).length=(firstA ⟨ae,order,types,.mk rh rp⟩ k:Int):=by simp [nY,Ty.h,h9,UU,hi,namedN,hk]
   refine cP Xh (QU rh.name.s i k hi hk) ?_;rw [rU];exact ⟨_,ax,rfl⟩
  ·have h9:¬ rh.ag=9:=sU h9;have rU:nY ⟨ae,order,types,.mk rh rp⟩ (.mk rh rp) (rj ⟨ae,order,types,.mk rh rp⟩).length=z:=by simp [nY,Ty.h,h9,hz]
   rw [rU];exact ⟨_,ax,rfl⟩
def S4 (t:Ty):Prop:=∃ d m,(wrong t d m).1.1=0
def IV (ag:Int) (p:Ph) (t:Ty):Prop:=(p.bare=true/\ag=8/\sameTy t cq=true/\bW p fx=true)∨(p.bare=false/\(dK p).1=0/\S4 t)
structure TyF (h:Hd) (ps:Pts):Prop where
 k1:1<=h.ag
 k9:h.ag<=9
 own:wv h ps=true
 int:h.ag=2->h.lo<=h.hi
 text:h.ag=3->0<=h.most/\h.most<=4096
 enum:h.ag=4->iY h=(0,0)
 one:h.ag=5∨h.ag=6->∃ p t,ps = .cons p t .nil/\p.name.s=av/\bW p ff=true/\0<=h.most/\h.most<=1024/\S4 t
 many:h.ag=7∨h.ag=8->ps.len<=64/\(h.ag=8->ps.len≠0)/\∀ i p t,ps.toList[i]? = some (p,t)->aG (pNames ps) i p.name=0/\IV h.ag p t
theorem Vk {h:Hd} {ps:Pts} (ho:¬ uG (.mk h ps)=false):wv h ps=true:=by
 rw [Iv];cases hb:sameTy (.mk h ps) (mask (.mk h ps))
 ·exact absurd hb ho
 ·rfl
theorem n9 {ag:Int} {all:List Wd}:∀ {ps:Pts} {i:Nat} {d m:Int},(wrongPts ag all i ps d m).1.1=0->(ag=7∨ag=8)->∀ j p t,ps.toList[j]? = some (p,t)->aG all (i + j) p.name=0/\IV ag p t
 | .nil,i,d,m,_,_,j,p,t,hx=>by simp [Pts.toList] at hx
 | .cons q u r,i,d,m,he,hk,j,p,t,hx=>by
  simp only [wrongPts] at he;by_cases c0:aG all i q.name≠0
  ·rw [if_pos c0] at he;exact absurd he c0
  rw [if_neg c0] at he;have c0:aG all i q.name=0:=sU c0
  have step:∀ d' m',(wrongPts ag all (i + 1) r d' m').1.1=0->IV ag q u->aG all (i + j) p.name=0/\IV ag p t:=by
   intro d' m' h hq
   cases j with
   | zero=>
    simp only [Pts.toList,List.getElem?_cons_zero,oI,Prod.mk.injEq] at hx;obtain ⟨rfl,rfl⟩:=hx;exact ⟨c0,hq⟩
   | succ j=>
    simp only [Pts.toList,List.getElem?_cons_succ] at hx;have:=n9 h hk j p t hx
    rwa [show i + 1 + j=i + (j + 1) by omega] at this
  by_cases c1:q.bare=true
  ·rw [if_pos c1] at he;by_cases c2:ag=7∨sameTy u cq=false∨bW q fx=false
   ·rw [if_pos c2] at he;simp at he
   rw [if_neg c2] at he;refine step d m he (.inl ⟨c1,?_,?_,?_⟩)
   ·rcases hk with hk | hk
    ·exact absurd (.inl hk) c2
    ·exact hk
   ·cases hb:sameTy u cq
    ·exact absurd (.inr (.inl hb)) c2
    ·rfl
   ·cases hb:bW q fx
    ·exact absurd (.inr (.inr hb)) c2
    ·rfl
  ·rw [if_neg c1] at he;by_cases c2:(dK q).1≠0
   ·rw [if_pos c2] at he;exact absurd he c2
   rw [if_neg c2] at he;by_cases c3:(wrong u (d + 1) m).1.1≠0
   ·rw [if_pos c3] at he;exact absurd he c3
   rw [if_neg c3] at he;exact step d _ he (.inr ⟨by simpa using c1,by simpa using c2,d + 1,m,by simpa using c3⟩)
theorem NR:∀ {t:Ty},S4 t->TyF t.h t.ps
 | .mk h ps,⟨d,m,he⟩=>by
  simp only [Ty.h,Ty.ps];simp only [wrong] at he;by_cases c0:24 < d
  ·rw [if_pos c0] at he;simp at he
  rw [if_neg c0] at he;by_cases c1:512 < m + 1
  ·rw [if_pos c1] at he;simp at he
  rw [if_neg c1] at he;by_cases c2:h.ag < 1∨9 < h.ag
  ·rw [if_pos c2] at he;simp at he
  rw [if_neg c2] at he;by_cases c3:uG (.mk h ps)=false
  ·rw [if_pos c3] at he;simp at he
  rw [if_neg c3] at he;by_cases c4:(h.ag=2/\h.hi < h.lo)∨(h.ag=3/\(h.most < 0∨4096 < h.most))
  ·rw [if_pos c4] at he;simp at he
  rw [if_neg c4] at he;by_cases c5:h.ag=9/\bc h.name.s=false
  ·rw [if_pos c5] at he;simp at he
  rw [if_neg c5] at he;refine { k1:=by omega,k9:=by omega,own:=Vk c3,int:=fun h2=>by omega,text:=fun h3=>by omega,enum:=fun h4=>?_,one:=fun h5=>?_,many:=fun h7=>?_ }
  ·rw [if_pos h4] at he;exact zH h he
  ·rw [if_neg (by omega),if_pos h5] at he
   match ps,he with
   | .nil,he=>simp [wrongOne] at he
   | .cons p t (.cons _ _ _),he=>simp [wrongOne] at he
   | .cons p t .nil,he=>
    simp only [wrongOne] at he;by_cases e0:p.name.s≠av∨bW p ff=false
    ·rw [if_pos e0] at he;simp at he
    rw [if_neg e0] at he;by_cases e1:h.most < 0∨1024 < h.most
    ·rw [if_pos e1] at he;simp at he
    rw [if_neg e1] at he;refine ⟨p,t,rfl,Classical.byContradiction fun hn=>e0 (.inl hn),?_,by omega,by omega,d + 1,_,he⟩;cases hb:bW p ff
    ·exact absurd (.inr hb) e0
    ·rfl
  ·rw [if_neg (by omega),if_neg (by omega),if_pos h7] at he;by_cases e0:h.ag=8/\ps.len=0
   ·rw [if_pos e0] at he;simp at he
   rw [if_neg e0] at he;by_cases e1:64 < ps.len
   ·rw [if_pos e1] at he;simp at he
   rw [if_neg e1] at he;refine ⟨by omega,fun h8=>fun hl=>e0 ⟨h8,hl⟩,fun i p t hx=>?_⟩;have:=n9 he h7 i p t hx
   rwa [Nat.zero_add] at this
theorem TyF.sub {h:Hd} {ps:Pts} (hF:TyF h ps) {p:Ph} {u:Ty} (hm:(p,u)∈ps.toList) (hb:p.bare=false):S4 u:=by
 obtain ⟨i,hi⟩:=List.mem_iff_getElem?.1 hm
 have hlen:0 < ps.len:=by
  cases ps with
  | nil=>simp [Pts.toList] at hm
  | cons _ _ _=>simp [Pts.len]
 have hk:5<=h.ag/\h.ag<=8:=by
  have h1:=hF.own;unfold wv at h1;simp only [Bool.and_eq_true,Bool.or_eq_true,decide_eq_true_eq] at h1;have:=h1.1.1.2;omega
 by_cases h5:h.ag=5∨h.ag=6
 ·obtain ⟨q,t,rfl,_,_,_,_,hw⟩:=hF.one h5;simp only [Pts.toList,List.mem_singleton,Prod.mk.injEq] at hm;rw [hm.2];exact hw
 ·rcases ((hF.many (by omega)).2.2 i p u hi).2 with h1 | h1
  ·rw [h1.1] at hb;cases hb
  ·exact h1.2.2
mutual
theorem Eu:∀ (t:Ty),S4 t->∀ u∈flatT t,S4 u
 | .mk h ps,hw,u,hu=>by
  rw [flatT] at hu;split at hu
  ·cases hu
  ·rcases List.mem_cons.1 hu with rfl | hu
   ·exact hw
   ·exact Ew ps (fun p v hm hb=>(NR hw).sub hm hb) u hu
theorem Ew:∀ (ps:Pts),(∀ p v,(p,v)∈ps.toList->p.bare=false->S4 v)->∀ u∈flatP ps,S4 u
 | .nil,_,u,hu=>by cases hu
 | .cons p v r,hw,u,hu=>by
  rw [flatP] at hu;rcases List.mem_append.1 hu with hu | hu
  ·cases hb:p.bare with
   | true=>rw [hb] at hu;cases hu
   | false=>rw [hb] at hu;exact Eu v (hw p v (by simp [Pts.toList]) hb) u hu
  ·exact Ew r (fun q w hm=>hw q w (by simp [Pts.toList,hm])) u hu
end
mutual
theorem Ey:∀ (t:Ty),∀ u∈flatT t,u.h.ag≠9
 | .mk h ps,u,hu=>by
  rw [flatT] at hu;split at hu
  ·cases hu
  ·rename_i h9;rcases List.mem_cons.1 hu with rfl | hu
   ·exact h9
   ·exact Ez ps u hu
theorem Ez:∀ (ps:Pts),∀ u∈flatP ps,u.h.ag≠9
 | .nil,u,hu=>by cases hu
 | .cons p v r,u,hu=>by
  rw [flatP] at hu;rcases List.mem_append.1 hu with hu | hu
  ·split at hu
   ·cases hu
   ·exact Ey v u hu
  ·exact Ez r u hu
end
mutual
theorem Ao:∀ (t:Ty) (j:Nat) (u:Ty),(flatT t)[j]? = some u->j + u.nn<=t.nn
 | .mk h ps,j,u,hu=>by
  rw [flatT] at hu;by_cases h9:h.ag=9
  ·rw [if_pos h9] at hu;simp at hu
  rw [if_neg h9] at hu
  cases j with
  | zero=>
   simp only [List.getElem?_cons_zero,oI] at hu;subst hu;omega
  | succ j=>
   simp only [List.getElem?_cons_succ] at hu;have:=s9 ps j u hu;rw [Ty.nn,if_neg h9];omega
theorem s9:∀ (ps:Pts) (j:Nat) (u:Ty),(flatP ps)[j]? = some u->j + u.nn<=ps.nn
 | .nil,j,u,hu=>by simp [flatP] at hu
 | .cons p v r,j,u,hu=>by
  rw [flatP] at hu;rw [Pts.nn]
  cases hb:p.bare with
  | true=>
   rw [hb] at hu;have:=s9 r j u (sU hu);simp only [if_true];omega
  | false=>
   rw [hb] at hu;simp only [Bool.false_eq_true,if_false] at hu ⊢;by_cases hj:j < (flatT v).length
   ·rw [List.getElem?_append_left hj] at hu;have:=Ao v j u hu;omega
   ·rw [List.getElem?_append_right (by omega)] at hu;have:=s9 r _ u hu;have h2:=j7 v;omega
end
theorem xI {lev:List Wd->Int} {s:Sch}:∀ {ps:Pts} {k:Nat} {e:Ed},e∈edsP lev s ps k->∃ p u k',(p,u)∈ps.toList/\e=xd lev p (u9 s p u k')/\(p.bare=false->k' + u.nn<=k + ps.nn)
 | .nil,k,e,he=>by simp [edsP] at he
 | .cons p u r,k,e,he=>by
  rw [edsP] at he;rcases List.mem_cons.1 he with rfl | he
  ·refine ⟨p,u,k,by simp [Pts.toList],rfl,fun hb=>?_⟩;rw [Pts.nn,hb];simp
  ·obtain ⟨q,v,k',h1,h2,h3⟩:=xI he;refine ⟨q,v,k',by simp [Pts.toList,h1],h2,fun hb=>?_⟩;have:=h3 hb;rw [Pts.nn];omega
theorem pS {lev:List Wd->Int} {s:Sch}:∀ {ps:Pts} {k:Nat},(edsP lev s ps k).map Ed.name=az (pNames ps)
 | .nil,k=>rfl
 | .cons p u r,k=>by
  rw [edsP,List.map_cons,pS (ps:=r)];rfl
theorem Ap {f:Nat->Nat->Bool} {n:Nat} (hL:fU f n):∀ e,e<=n->∃ b,b < n/\∀ x,x < e->f b x=true
 | 0,_=>⟨0,hL.pos,fun x hx=>by omega⟩
 | e + 1,he=>by
  obtain ⟨b,hb,dq⟩:=Ap hL e (by omega);obtain ⟨k,hk⟩:=hL.mt b e hb (by omega);obtain ⟨g1,g2,g3,g4⟩:=pN hk;refine ⟨k,g1,fun x hx=>?_⟩;rcases Nat.lt_succ_iff_lt_or_eq.1 hx with hx | rfl
  ·exact hL.tr k b x g1 hb (by omega) g2 (dq x hx)
  ·exact g3
theorem tZ {f:Nat->Nat->Bool} {n:Nat} (hL:fU f n) (l:List Nat) (hl:∀ x∈l,x < n):∃ c,eT f n l=some c:=by
 have key:∀ e,e<=l.length->∃ c,eT f n (l.take e)=some c:=by
  intro e
  induction e with
  | zero=>
   intro _;obtain ⟨b,hb,dq⟩:=Ap hL n (Nat.le_refl _);exact ⟨b,pO hL hb dq⟩
  | succ e ih=>
   intro he;obtain ⟨c,hc⟩:=ih (by omega);obtain ⟨x,hx⟩:∃ x,l[e]? = some x:=⟨_,gE (by omega)⟩;have CQ:=hl x (mG hx);obtain ⟨k,hk⟩:=hL.jn c x (oJ hc) CQ;rw [List.take_add_one,hx];exact ⟨k,tX hL (fun y hy=>hl y (List.mem_of_mem_take hy)) CQ hc hk⟩
 have:=key l.length (Nat.le_refl _)
 rwa [List.take_length] at this
theorem Aq {L:List ByteArray}:∀ {l:List Wd},(labW L l).1=0->∀ w∈l,∃ i,cY L w.s=some i
 | [],_,w,hw=>by cases hw
 | x :: r,h,w,hw=>by
  rw [labW] at h;split at h
  ·cases h
  ·rename_i h1;rcases List.mem_cons.1 hw with rfl | hw
   ·exact Option.ne_none_iff_exists'.1 h1
   ·exact Aq h w hw
theorem Ky {f:Nat->Nat->Bool} {L:List ByteArray} (hL:fU f L.length) {l:List Wd} (h:(labW L l).1=0):∃ c:Nat,BU f L l=c/\c < L.length:=by
 obtain ⟨c,hc⟩:=tZ hL (mF L l) (fun x hx=>by
  unfold mF at hx;obtain ⟨w,hw,rfl⟩:=List.mem_map.1 hx;obtain ⟨i,hi⟩:=Aq h w hw;rw [hi]
  exact (dm hi).1)
 refine ⟨c,?_,oJ hc⟩;unfold BU;rw [if_pos h,hc];rfl
structure NS (L N:Nat) (e:Ed):Prop where
 to0:e.bare=true->e.to = -1
 to1:e.bare=false->∃ k:Nat,e.to=k/\k < N
 lab:∃ k:Nat,e.label=k/\k < L
 seen:∃ k:Nat,e.seen=k/\k < L
 wide:1<=e.wide/\e.wide<=64
 ck:0<=e.ck/\e.ck<=3
 cn:(e.ck=0->e.cn=0)/\(e.ck=1->1<=e.cn)/\(e.ck=2->0<=e.cn/\e.cn<=4096)/\(e.ck=3->e.cn=0)
structure cz (L N:Nat) (n:Nd):Prop where
 k1:1<=n.ag
 k8:n.ag<=8
 lohi:n.ag=2->n.lo<=n.hi
 lo0:n.ag≠2->n.lo=0/\n.hi=0
 IW:n.ag=3->0<=n.most/\n.most<=4096
 ua:n.ag=5->0<=n.most/\n.most<=1024
 S5:n.ag≠3->n.ag≠5->n.most=0
 af:n.ag=4->n.af ≠ []/\n.af.length<=64/\n.af.Nodup/\∀ s∈n.af,bc s=true
 Vl:n.ag≠4->n.af=[]
 leaf:n.ag < 5->n.ai=[]
 one:n.ag=5∨n.ag=6->∃ e,n.ai=[e]/\e.bare=false/\e.name=av
 many:n.ag=7∨n.ag=8->n.ai.length<=64/\(n.ag=8->n.ai ≠ [])/\(n.ai.map Ed.name).Nodup/\∀ e∈n.ai,bc e.name=true
 bare:∀ e∈n.ai,e.bare=true->n.ag=8
 fD:∀ e∈n.ai,NS L N e
theorem xJ {l:List Wd} (h:∀ j x,l[j]? = some x->aG l j x=0):(az l).Nodup/\∀ x∈l,bc x.s=true:=by
 have key:∀ e,e<=l.length->(az (l.take e)).Nodup:=by
  intro e
  induction e with
  | zero=>intro _;simp [az]
  | succ e ih=>
   intro he;obtain ⟨x,hx⟩:∃ x,l[e]? = some x:=⟨_,gE (by omega)⟩;exact mE hx (ih (by omega)) (h e x hx)
 refine ⟨by have:=key l.length (Nat.le_refl _);rwa [List.take_length] at this,fun x hx=>?_⟩;obtain ⟨j,hj⟩:=List.mem_iff_getElem?.1 hx;have:=h j x hj;unfold aG at this;cases hb:bc x.s
 ·rw [hb] at this;simp at this
 ·rfl
theorem Ar {all:List Wd}:∀ {l:List Wd} {i:Nat},(enumL all i l).1=0->∀ j x,l[j]? = some x->aG all (i + j) x=0
 | [],i,_,j,x,hx=>by simp at hx
 | y :: r,i,h,j,x,hx=>by
  rw [enumL] at h;split at h
  ·rename_i h1;exact (h1 h).elim
  ·rename_i h1
   cases j with
   | zero=>
    simp only [List.getElem?_cons_zero,oI] at hx;subst hx;simpa using h1
   | succ j=>
    simp only [List.getElem?_cons_succ] at hx;have:=Ar h j x hx
    rwa [show i + 1 + j=i + (j + 1) by omega] at this
theorem Ce {h:Hd} (he:iY h=(0,0)):h.af ≠ []/\h.af.length<=64/\(az h.af).Nodup/\∀ x∈h.af,bc x.s=true:=by
 unfold iY at he;split at he
 ·cases he
 ·rename_i h1;split at he
  ·cases he
  ·rename_i h2;refine ⟨h1,by omega,?_⟩
   exact xJ fun j x hx=>by
    have:=Ar (all:=h.af) (i:=0) (by rw [he]) j x hx
    rwa [Nat.zero_add] at this
theorem IX {X:Lx} {L:List ByteArray}:∀ {ps:Pts},(knP X L ps).1=0->∀ {p:Ph} {u:Ty},(p,u)∈ps.toList->(X.bad p.label).1=0/\(X.bad p.cl).1=0
 | .nil,_,p,u,h=>by cases h
 | .cons q v r,hk,p,u,h=>by
  have hr:=(sS hk).2;rw [knP] at hk;split at hk
  ·rename_i h1;exact (h1 hk).elim
  rename_i h1;split at hk
  ·rename_i h2;exact (h2 hk).elim
  rename_i h2;rcases List.mem_cons.1 h with h | h
  ·cases h;exact ⟨by simpa using h1,by simpa using h2⟩
  ·exact IX hr h
theorem ta {p q:Ph} (h:bW p q=true):p.bare=q.bare/\p.wide=q.wide/\p.ck=q.ck/\p.cn=q.cn:=by
 unfold bW at h;simp only [Bool.and_eq_true,beq_iff_eq,decide_eq_true_eq] at h;exact ⟨h.1.1.1.1.1,h.1.1.1.1.2,h.1.1.2,h.1.2⟩
theorem NT {w:Int} (h:0<=w/\w<=64):1<=lN w/\lN w<=64:=by
 unfold lN;split<;>omega
theorem Hm {p:Ph} (h:(bf p).1=0):(0<=p.ck/\p.ck<=3)/\(p.ck=0->p.cn=0)/\(p.ck=1->1<=p.cn)/\(p.ck=2->0<=p.cn/\p.cn<=4096)/\(p.ck=3->p.cn=0):=by
 unfold bf at h;by_cases c0:p.ck=0
 ·rw [if_pos c0] at h;by_cases c1:p.cn=0/\p.cl=[]
  ·exact ⟨by omega,fun _=>c1.1,by omega,by omega,by omega⟩
  ·rw [if_neg c1] at h;simp at h
 rw [if_neg c0] at h;by_cases c1:p.ck < 0∨3 < p.ck
 ·rw [if_pos c1] at h;simp at h
 rw [if_neg c1] at h;by_cases c2:(p.ck=1/\p.cn < 1)∨(p.ck=2/\(p.cn < 0∨4096 < p.cn))∨(p.ck=3/\p.cn≠0)
 ·rw [if_pos c2] at h;simp at h
 exact ⟨by omega,by omega,by omega,by omega,by omega⟩
theorem Kz {p:Ph} (h:(dK p).1=0):(0<=p.wide/\p.wide<=64)/\(bf p).1=0:=by
 unfold dK at h;by_cases c0:p.wide < 0∨64 < p.wide
 ·rw [if_pos c0] at h;simp at h
 rw [if_neg c0] at h;by_cases c1:(bX p.label).1≠0
 ·rw [if_pos c1] at h;exact absurd h c1
 rw [if_neg c1] at h;exact ⟨by omega,h⟩
theorem Cf {t:Ty} (h:t.h.ag≠9):1<=t.nn:=by
 obtain ⟨h',ps⟩:=t;have h:¬ h'.ag=9:=h;rw [Ty.nn,if_neg h];omega
theorem As {S:Sch} {k:Nat} {x:Wd × Ty} (hx:S.types[k]? = some x):firstA S k + x.2.nn<=rr (gw S):=by
 have h1:=nX hx;rw [<- h1]
 have h2:firstA S (k + 1)=rr ((fl S).take (k + 1)):=by
  unfold firstA rr fl;rw [<- List.map_take,List.map_map];rfl
 have h3:=Ep (fl S) (k + 1);have h4:rr (gw S)=rr (fl S) + rr [S.root]:=vd _ _;omega
theorem EA {lev:List Wd->Int} {s:Sch} {n:Nd}:∀ {l:List Ty} {k i:Nat},(ndsA lev s l k)[i]? = some n->∃ t∈l,∃ u∈flatT t,n=QT lev s u (k + i)/\i + u.nn<=rr l
 | [],k,i,h=>by simp [ndsA] at h
 | t :: r,k,i,h=>by
  rw [ndsA] at h;rw [n8];have hl:=kA lev s t k;by_cases hi:i < t.nn
  ·rw [List.getElem?_append_left (by omega),vb,List.getElem?_map,List.getElem?_zipIdx] at h
   cases hu:(flatT t)[i]? with
   | none=>rw [hu] at h;simp at h
   | some u=>
    rw [hu] at h;simp only [Option.map_some,oI] at h;have:=Ao t i u hu;exact ⟨t,List.mem_cons_self,u,mG hu,by rw [<- h];simp,by omega⟩
  ·rw [List.getElem?_append_right (by omega),hl] at h;obtain ⟨t',h1,u,h2,h3,h4⟩:=EA h;refine ⟨t',List.mem_cons_of_mem _ h1,u,h2,?_,by omega⟩;rw [h3];congr 1;omega
theorem pT (S:Sch):(aV S).length=rr (gw S):=by rw [oM,lP]
theorem KA {S:Sch} (hF:An S) {i:Nat} {n:Nd} (h:(aV S)[i]? = some n):cz S.ae.length (aV S).length n:=by
 rw [pT];rw [oM] at h;obtain ⟨t,ht,u,hu,rfl,jF⟩:=EA h;rw [Nat.zero_add];have QL:=Eu t ⟨_,_,hF.wr t ht⟩ u hu;have hk:=xE t (hF.kn t ht) u hu;have hk9:=Ey t u hu;have hT:=NR QL;obtain ⟨hLat,_⟩:=nZ hF.lat;have fc:=dH S.ae;have xH:=hF.ends;obtain ⟨uh,us⟩:=u;simp only [Ty.h,Ty.ps] at hT hk9;have UW:=(mI hk).2;have fN:=hT.own;unfold wv at fN;simp only [Bool.and_eq_true,Bool.or_eq_true,decide_eq_true_eq] at fN;obtain ⟨⟨⟨⟨o1,o2⟩,o3⟩,o4⟩,o5⟩:=fN;have k1:=hT.k1;have k9:=hT.k9
 have V8:∀ l:List Wd,(labW (az S.ae) l).1=0->∃ k:Nat,jf S l=k/\k < S.ae.length:=by
  intro l hl;have:=Ky (f:=fh S.ae.length (dD (az S.ae) S.order)) (L:=az S.ae) (by rw [fc];exact hLat) hl
  rwa [fc] at this
 have rU:∀ (p:Ph) (v:Ty) (k':Nat),(p,v)∈us.toList->(p.bare=false->k' + v.nn<=i + 1 + us.nn)->(p.bare=true->u9 S p v k' = -1)/\(p.bare=false->∃ k:Nat,u9 S p v k'=k/\k < rr (gw S)):=by
  intro p v k' hm dq;refine ⟨fun hb=>by simp [u9,hb],fun hb=>?_⟩;have hkv:=Cb UW hm hb;obtain ⟨vh,vs⟩:=v;by_cases h9:vh.ag=9
  ·obtain ⟨j,hj⟩:=Option.ne_none_iff_exists'.1 ((mI hkv).1 h9);have nD:=(dm hj).1;rw [kz] at nD;obtain ⟨k,hk⟩:=xH j nD;have ee:=re hk;obtain ⟨x,hx⟩:∃ x,S.types[k]? = some x:=⟨_,gE ee.1⟩;have h1:=As hx;have h2:=Cf (ee.2 x hx);refine ⟨firstA S k,?_,by omega⟩;simp [u9,hb,nY,Ty.h,h9,UU,hj,namedN,hk]
  ·have h1:=Cf (t:=.mk vh vs) h9;have h2:=dq hb;have h3:(Ty.mk uh us).nn=1 + us.nn:=by rw [Ty.nn,if_neg hk9]
   refine ⟨k',by simp [u9,hb,nY,Ty.h,h9],by omega⟩
 have D2:∀ p v,(p,v)∈us.toList->(0<=p.wide/\p.wide<=64)/\(0<=p.ck/\p.ck<=3)/\((p.ck=0->p.cn=0)/\(p.ck=1->1<=p.cn)/\(p.ck=2->0<=p.cn/\p.cn<=4096)/\(p.ck=3->p.cn=0))/\(p.bare=true->uh.ag=8):=by
  intro p v hm;obtain ⟨j,hj⟩:=List.mem_iff_getElem?.1 hm
  have hlen:us.len≠0:=by
   cases us with
   | nil=>simp [Pts.toList] at hm
   | cons _ _ _=>simp [Pts.len]
  by_cases h5:uh.ag=5∨uh.ag=6
  ·obtain ⟨q,t',rfl,_,mZ,_,_,_⟩:=hT.one h5;simp only [Pts.toList,List.mem_singleton,Prod.mk.injEq] at hm;obtain ⟨rfl,rfl⟩:=hm;obtain ⟨w1,w2,w3,w4⟩:=ta mZ;have z1:ff.wide=0:=rfl;have z2:ff.ck=0:=rfl;have z3:ff.cn=0:=rfl;have z4:ff.bare=false:=rfl;rw [z1] at w2;rw [z2] at w3;rw [z3] at w4;rw [z4] at w1;refine ⟨by omega,by omega,⟨by omega,by omega,by omega,by omega⟩,fun hb=>?_⟩;rw [w1] at hb;cases hb
  ·obtain ⟨_,hP⟩:=(hT.many (by omega)).2.2 j p v hj;rcases hP with ⟨hb,h8,_,mZ⟩ | ⟨hb,hp,_⟩
   ·obtain ⟨w1,w2,w3,w4⟩:=ta mZ;have z1:fx.wide=0:=rfl;have z2:fx.ck=0:=rfl;have z3:fx.cn=0:=rfl;rw [z1] at w2;rw [z2] at w3;rw [z3] at w4;exact ⟨by omega,by omega,⟨by omega,by omega,by omega,by omega⟩,fun _=>h8⟩
   ·obtain ⟨w1,w2⟩:=Kz hp;obtain ⟨w3,w4⟩:=Hm w2;exact ⟨w1,w3,w4,fun h=>by rw [hb] at h;cases h⟩
 have Zx:us.len=0->us = .nil:=fun h=>by
  cases us with
  | nil=>rfl
  | cons _ _ _=>simp [Pts.len] at h
 refine {
  k1:=k1
  k8:=by show uh.ag<=8;omega
  lohi:=hT.int
  lo0:=fun h2=>?_
  IW:=hT.text
  ua:=fun h5=>?_
  S5:=fun h3 h5=>?_
  af:=fun h4=>?_
  Vl:=fun h4=>?_
  leaf:=fun h5=>?_
  one:=fun h5=>?_
  many:=fun h7=>?_
  bare:=fun e he hb=>?_
  fD:=fun e he=>?_ }
 ·show uh.lo=0/\uh.hi=0;exact o1.resolve_left h2
 ·obtain ⟨q,t',rfl,_,_,oX,j1,_⟩:=hT.one (.inl h5);exact ⟨oX,j1⟩
 ·show uh.most=0;exact o2.resolve_left (fun h=>h.elim h3 h5)
 ·obtain ⟨e1,e2,e3,e4⟩:=Ce (hT.enum h4);show az uh.af ≠ []/\(az uh.af).length<=64/\(az uh.af).Nodup/\∀ s∈az uh.af,bc s=true;refine ⟨fun h=>e1 (by simpa [az] using h),by rw [dH];exact e2,e3,fun s hs=>?_⟩;unfold az at hs;obtain ⟨w,hw,rfl⟩:=List.mem_map.1 hs;exact e4 w hw
 ·show az uh.af=[];have:=o4.resolve_right h4;have:uh.af=[]:=List.eq_nil_of_length_eq_zero this;rw [this];all_goals rfl
 ·show edsP (jf S) S us (i + 1)=[];have Vm:uh.ag < 5:=h5;rw [Zx (o3.resolve_right (by omega))];rfl
 ·show ∃ e,edsP (jf S) S us (i + 1)=[e]/\_;obtain ⟨q,t',rfl,hn,mZ,_,_,_⟩:=hT.one h5;refine ⟨xd (jf S) q (u9 S q t' (i + 1)),rfl,?_,hn⟩;exact (ta mZ).1
 ·show (edsP (jf S) S us (i + 1)).length<=64/\(_->edsP (jf S) S us (i + 1) ≠ [])/\((edsP (jf S) S us (i + 1)).map Ed.name).Nodup/\∀ e∈edsP (jf S) S us (i + 1),bc e.name=true;obtain ⟨m1,m2,m3⟩:=hT.many h7
  have fo:∀ j x,(pNames us)[j]? = some x->aG (pNames us) j x=0:=by
   intro j x hx
   have hj:j < us.len:=by
    have:=(gS hx).1
    rwa [gH] at this
   obtain ⟨p,t',hp⟩:=Pts.eN hj;rw [gI hp] at hx;simp only [oI] at hx;rw [<- hx];exact (m3 j p t' hp).1
  obtain ⟨n1,n2⟩:=xJ fo;refine ⟨by rw [rf];exact m1,fun h8 hn=>m2 h8 ?_,by rw [pS];exact n1,fun e he=>?_⟩
  ·have:=rf (jf S) S us (i + 1);rw [hn] at this;simpa using this.symm
  ·have:e.name∈az (pNames us):=by rw [<- pS (lev:=jf S) (s:=S) (k:=i + 1)];exact List.mem_map_of_mem he
   unfold az at this;obtain ⟨w,hw,h⟩:=List.mem_map.1 this;rw [<- h];exact n2 w hw
 ·obtain ⟨p,v,k',h1,rfl,_⟩:=xI he;exact (D2 p v h1).2.2.2 hb
 ·obtain ⟨p,v,k',h1,rfl,h3⟩:=xI he;obtain ⟨h4,h5⟩:=rU p v k' h1 h3;obtain ⟨h6,h7,h8,_⟩:=D2 p v h1;obtain ⟨h9,zk⟩:=IX UW h1;exact { to0:=h4,to1:=h5,lab:=V8 _ h9,seen:=V8 _ zk,wide:=NT h6,ck:=h7,cn:=h8 }
theorem Hn {S:Sch} (hF:An S):∃ k:Nat,fT S=k/\k < (aV S).length:=by
 rw [pT];have SS:=hF.kn S.root (by unfold gw;simp);have xH:=hF.ends;have ed:=xD S;have o0:rr (gw S)=rr (fl S) + S.root.nn:=by unfold gw;rw [vd];simp [rr]
 unfold fT;obtain ⟨ae,order,types,⟨rh,rp⟩⟩:=S;simp only at SS xH o0;by_cases h9:rh.ag=9
 ·obtain ⟨j,hj⟩:=Option.ne_none_iff_exists'.1 ((mI SS).1 h9);have nD:=(dm hj).1;rw [kz] at nD;obtain ⟨k,hk⟩:=xH j nD;have ee:=re hk;obtain ⟨x,hx⟩:∃ x,(Sch.mk ae order types (.mk rh rp)).types[k]? = some x:=⟨_,gE ee.1⟩;have h1:=As hx;have h2:=Cf (ee.2 x hx);exact ⟨firstA ⟨ae,order,types,.mk rh rp⟩ k,by simp [nY,Ty.h,h9,UU,hj,namedN,hk],by omega⟩
 ·have h1:=Cf (t:=.mk rh rp) h9;exact ⟨(rj ⟨ae,order,types,.mk rh rp⟩).length,by simp [nY,Ty.h,h9],by omega⟩
theorem EB {lev:List Wd->Int} {s:Sch} {n:Nd}:∀ {l:List Ty} {k:Nat},n∈ndsA lev s l k->∃ t∈l,∃ u∈flatT t,∃ k',n=QT lev s u k'
 | [],_,h=>by cases h
 | t :: r,k,h=>by
  rw [ndsA] at h;rcases List.mem_append.1 h with h | h
  ·rw [vb] at h;obtain ⟨x,hx,rfl⟩:=List.mem_map.1 h;have:=(List.mem_zipIdx hx).2.2;refine ⟨t,List.mem_cons_self,x.1,?_,_,rfl⟩;rw [this];exact List.getElem_mem _
  ·obtain ⟨t',ht,h⟩:=EB h;exact ⟨t',List.mem_cons_of_mem _ ht,h⟩
theorem oN {S:Sch} {n:Nd} (h:n∈aV S) (hS:S.wt<=1099511627776):n.af.length<=1099511627776/\n.ai.length<=1099511627776:=by
 rw [oM] at h;obtain ⟨t,ht,u,hu,k,rfl⟩:=EB h;have h1:=B8 hS t ht;have h2:=xF t u hu;obtain ⟨uh,us⟩:=u;have h3:=bG uh.af;have h4:=us.fZ;simp only [Ty.wt,Hd.wt] at h2;simp only [QT,Ty.h,Ty.ps,dH,rf];omega
abbrev zNd:List DV:=[.v (.int .i64 0),.v (.int .i64 0),.v (.int .i64 0),.v (.int .i64 0),.v (.int .i64 0),.v (.slice none 0 0),.v (.slice none 0 0)]
structure eW (S:Sch) (ND:List Nd) (PC:List DV):Prop where
 fine:An S
 wt:S.wt<=1099511627776
 z8:ND=aV S
 ok:∀ n∈ND,cz S.ae.length ND.length n
 nl:ND.length<=1099511627776
 len:aQ prog 103 [.pt PC 0] (.v (.int .i64 ND.length))
 root:aQ prog 13 [.pt PC 0] (.v (.int .i64 (fT S)))
 ak:∀ (i:Nat) n,ND[i]? = some n->aQ prog 44 [.pt PC 0,.v (.int .i64 i)] (.tup [.agg (gv n),.v (.bool true)])
 S6:∀ i:Int,(i < 0∨ND.length<=i)->aQ prog 44 [.pt PC 0,.v (.int .i64 i)] (.tup [.agg zNd,.v (.bool false)])
 lat:∃ aH js,(fH S aH js).OK/\aQ prog 139 [.pt PC 0] (fH S aH js).pd
theorem NU {S:Sch} {d:DV} (hS:S.wt<=1099511627776) (h0:(lO S).1=0) (hd:Nv S d):∃ PC,d = .pt PC 0/\eW S (aV S) PC:=by
 obtain ⟨aH,lr,js,hX,hT,jC,rfl⟩:=hd;have hF:=xG h0;have bL:=fun n (h:n∈aV S)=>oN h hS
 refine ⟨_,rfl,{
  fine:=hF
  wt:=hS
  z8:=rfl
  ok:=fun n hn=>?_
  nl:=by rw [pT];exact Nat.le_trans (NN S) hS
  len:=sY _ _ _ _ _ _
  root:=G5 _ _ _ _ _ _
  ak:=fun i n h=>G6 _ _ _ _ _ _ i n h (bL n (mG h)).1 (bL n (mG h)).2
  S6:=fun i h=>G7 _ _ _ _ _ _ i h
  lat:=⟨aH,js,hX,Km _ _ _ _ _ _⟩ }⟩
 obtain ⟨i,hi⟩:=List.mem_iff_getElem?.1 hn;exact KA hF hi
def Ho (S:Sch) (r:DV):Prop:=((lO S).1≠0/\r = .tup [.v (.pointer none),(lO S).d])∨((lO S).1=0/\∃ PC,eW S (aV S) PC/\r = .tup [.pt PC 0,Ft.d (0,0)])
theorem Au {S:Sch} (hS:S.wt<=1099511627776) {r:DV} {os:List (List DV)} {tk:List TkE} (h:G1 S r os tk):Ho S r:=by
 unfold G1 at h;by_cases h0:(lO S).1=0
 ·rw [if_neg (by rw [h0];simp)] at h;obtain ⟨d,hd,rfl⟩:=h;obtain ⟨PC,rfl,hP⟩:=NU hS h0 hd;exact .inr ⟨h0,PC,hP,rfl⟩
 ·rw [if_pos h0] at h;exact .inl ⟨h0,h⟩
inductive Val where
 | mk (k n:Int) (s:ByteArray) (ks:List Val)
def Val.k:Val->Int | .mk k _ _ _=>k
def Val.n:Val->Int | .mk _ n _ _=>n
def Val.s:Val->ByteArray | .mk _ _ s _=>s
def Val.ks:Val->List Val | .mk _ _ _ ks=>ks
mutual
def dVal:Val->List DV
 | .mk k n s ks=>[.v (.int .i64 k),.v (.int .i64 n),.v (.string s),.sl 4 (dVals ks) none]
def dVals:List Val->List (List DV)
 | []=>[]
 | v :: r=>dVal v :: dVals r
end
theorem bP:∀ l:List Val,dVals l=l.map dVal
 | []=>rfl
 | v :: r=>by rw [dVals,bP r];all_goals rfl
theorem bQ (l:List Val):(dVals l).length=l.length:=by rw [bP,List.length_map]
theorem gW {l:List Val} {e:Nat} {x:Val} (h:l[e]? = some x):(dVals l)[e]? = some (dVal x):=by rw [bP,List.getElem?_map,h];all_goals rfl
theorem Hp {l:List Val} {e:Nat} {x:Val} (h:l[e]? = some x):dVals (l.take e) ++ [dVal x]=dVals (l.take (e + 1)):=by
 rw [bP,bP,List.take_add_one,h];simp
mutual
def Val.wt:Val->Nat
 | .mk _ _ s ks=>64 + s.size + dL ks
def dL:List Val->Nat
 | []=>0
 | v :: r=>v.wt + dL r
end
theorem Val.er:∀ v:Val,64<=v.wt
 | .mk _ _ _ _=>by rw [Val.wt];omega
theorem jy:∀ {l:List Val} {x:Val},x∈l->x.wt<=dL l
 | v :: r,x,h=>by
  rcases List.mem_cons.1 h with rfl | h
  ·rw [dL];omega
  ·have:=jy h;rw [dL];omega
theorem gx:∀ l:List Val,64 * l.length<=dL l
 | []=>Nat.le_refl _
 | v :: r=>by
  have:=gx r;have:=v.er;rw [dL,List.length_cons];omega
mutual
def jz:Val->Nat
 | .mk _ _ _ ks=>1 + jN ks
def jN:List Val->Nat
 | []=>0
 | v :: r=>jz v + jN r
end
mutual
def xK:Val->Nat
 | .mk _ _ _ ks=>iH ks + 1
def iH:List Val->Nat
 | []=>0
 | v :: r=>max (xK v) (iH r)
end
mutual
theorem ve:∀ v:Val,jz v<=v.wt/\xK v<=v.wt
 | .mk _ _ _ ks=>by
  have:=xL ks;rw [jz,xK,Val.wt];omega
theorem xL:∀ l:List Val,jN l<=dL l/\iH l<=dL l
 | []=>⟨Nat.le_refl _,Nat.le_refl _⟩
 | v :: r=>by
  have h1:=ve v;have h2:=xL r;rw [jN,iH,dL];omega
end
theorem pU:∀ (l:List Val) (x:Val),jN (l ++ [x])=jN l + jz x
 | [],x=>by simp [jN]
 | v :: r,x=>by rw [List.cons_append,jN,jN,pU r];omega
theorem xM:∀ (l:List Val) (x:Val),iH (l ++ [x])=max (iH l) (xK x)
 | [],x=>by simp [iH]
 | v :: r,x=>by rw [List.cons_append,iH,iH,xM r];omega
theorem dn {α:Type} {l:List α} {e:Nat} {x:α} (h:l[e]? = some x):l.take (e + 1)=l.take e ++ [x]:=by rw [List.take_add_one,h];all_goals rfl
theorem xN (l:List Val):∀ e,jN (l.take e)<=dL l/\iH (l.take e)<=dL l:=fun e=>by
 have h1:=xL (l.take e)
 have h2:∀ (l:List Val) e,dL (l.take e)<=dL l:=by
  intro l
  induction l with
  | nil=>intro e;simp [dL]
  | cons v r ih=>
   intro e
   cases e with
   | zero=>simp [dL]
   | succ e=>have:=ih e;simp only [List.take_succ_cons,dL];omega
 have:=h2 l e;omega
abbrev szSt (v:Val) (n d e:Nat):St:=
 ⟨[(1,⟨[],.loc 0 0⟩),(4,⟨[],.v (.int .i64 n)⟩),(5,⟨[],.v (.int .i64 d)⟩),(6,⟨[],.v (.int .i64 e)⟩)],[dVal v],[]⟩
theorem oa:∀ (k:Nat) (v:Val),v.wt<=k->v.wt<=1099511627776->aQ prog 7 [.agg (dVal v)] (.tup [.v (.int .i64 (jz v:Nat)),.v (.int .i64 (xK v:Nat))])
 | 0,v,h,_=>by have:=v.er;omega
 | k + 1,.mk q n s ks,h,hb=>by
  have ih:=oa k;have bA:=bQ ks;have ee:=gx ks;have kM:=xN ks;rw [Val.wt] at h hb;rw [jz,xK];refine eG 35 [.tmp 2,.tmp 3] func7 rfl ntmps7 rfl fun _ _ _ _=>?_;refine lJ (fun e=>szSt (.mk q n s ks) (1 + jN (ks.take e)) (iH (ks.take e)) e) ks.length (ah ⟨_,rfl⟩ wA rfl rfl rfl wB) ?_;intro e he;refine br ?_ ?_<;>intro hL
  ·have aj:e < ks.length:=by have:=hL;simp [bA] at this;exact this
   obtain ⟨x,hx⟩:=gX aj;have SI:=jy (mG hx);have hc:=pU (ks.take e) x;have hd:=xM (ks.take e) x;rw [<- dn hx] at hc hd;have h1:=kM (e + 1);have hi:=ih x (by omega) (by omega);have hcx:=ve x;obtain ⟨xk,xn,xs,xl⟩:=x;refine iX (gW hx) ?_;refine cP en7 hi ?_;have hw:IntKind.i64.wrap (((1 + jN (ks.take e):Nat):Int) + ((jz (.mk xk xn xs xl):Nat):Int))=((1 + jN (ks.take (e + 1)):Nat):Int):=by rw [wrap64 (by omega) (by omega)];omega
   refine br ?_ ?_<;>intro g
   ·have g:iH (ks.take e) < xK (.mk xk xn xs xl):=sU g;have JH:((xK (.mk xk xn xs xl):Nat):Int)=((iH (ks.take (e + 1)):Nat):Int):=by omega
    exact rE ⟨_,by omega,e + 1,rfl,by omega,rfl⟩ (ah ⟨_,rfl⟩ wA rfl rfl rfl (yx hw JH (aF aj (by omega))))
   ·have g:¬ iH (ks.take e) < xK (.mk xk xn xs xl):=sU g;have JH:((iH (ks.take e):Nat):Int)=((iH (ks.take (e + 1)):Nat):Int):=by omega
    exact rE ⟨_,by omega,e + 1,rfl,by omega,rfl⟩ (ah ⟨_,rfl⟩ wA rfl rfl rfl (yx hw JH (aF aj (by omega))))
  ·have aM:e=ks.length:=sW bA hL;subst aM;have h1:=kM ks.length;rw [List.take_length] at h1 ⊢;have hw:IntKind.i64.wrap (((iH ks:Nat):Int) + 1)=((iH ks + 1:Nat):Int):=by rw [wrap64 (by omega) (by omega)];omega
   refine ⟨_,(gF hw),rfl⟩
abbrev ctSt (ks:List Val) (n e:Nat):St:=
 ⟨[(3,⟨[],.v (.int .i64 n)⟩),(7,⟨[],.sl 4 (dVals ks) none⟩),(8,⟨[],.v (.int .i64 (dVals ks).length)⟩),(9,⟨[],.v (.int .i64 e)⟩)],[],[]⟩
theorem ub:∀ (k:Nat) (v:Val),v.wt<=k->v.wt<=1099511627776->aQ prog 19 [.agg (dVal v)] (.v (.int .i64 (jz v:Nat)))
 | 0,v,h,_=>by have:=v.er;omega
 | k + 1,.mk q n s ks,h,hb=>by
  have ih:=ub k;have bA:=bQ ks;have ee:=gx ks;have kM:=xN ks;rw [Val.wt] at h hb;rw [jz];refine eG 19 [.tmp 2] func19 rfl ntmps19 rfl fun _ _ _ _=>?_;refine lJ (fun e=>ctSt ks (1 + jN (ks.take e)) e) ks.length (ah ⟨_,rfl⟩ wA rfl rfl rfl wB) ?_;intro e he;refine br ?_ ?_<;>intro hL
  ·have aj:e < ks.length:=by have:=hL;simp [bA] at this;exact this
   obtain ⟨x,hx⟩:=gX aj;have SI:=jy (mG hx);have hc:=pU (ks.take e) x;rw [<- dn hx] at hc;have h1:=kM (e + 1);have hi:=ih x (by omega) (by omega);obtain ⟨xk,xn,xs,xl⟩:=x;refine iX (gW hx) ?_;refine cP W4 hi ?_;have hw:IntKind.i64.wrap (((1 + jN (ks.take e):Nat):Int) + ((jz (.mk xk xn xs xl):Nat):Int))=((1 + jN (ks.take (e + 1)):Nat):Int):=by rw [wrap64 (by omega) (by omega)];omega
   exact rE ⟨_,by omega,e + 1,rfl,by omega,rfl⟩ (ah ⟨_,rfl⟩ wA rfl rfl rfl (wB2 hw (aF aj (by omega))))
  ·have aM:e=ks.length:=sW bA hL;subst aM;rw [List.take_length];exact (rfl:_=_)
theorem EC:prog.cellsOf 34=4:=by kernel_rfl
theorem IY {m:Nat} (ih:∀ k,k<=m->∀ ds,Typ prog k 34 ds->∃ v:Val,ds=dVal v/\v.wt<=wgL ds) :
  ∀ {es:List (List DV)},(∀ cs∈es,Typ prog m 34 cs)->∃ l:List Val,es=dVals l/\dL l<=wgEs es
 | [],h=>⟨[],rfl,by simp [dL]⟩
 | cs :: r,h=>by
  obtain ⟨l,rfl,hl⟩:=IY ih (es:=r) (fun c hc=>h c (List.mem_cons_of_mem _ hc));obtain ⟨v,rfl,hv⟩:=ih m (Nat.le_refl _) cs (h cs (by simp));exact ⟨v :: l,rfl,by simp only [dL,wgEs];omega⟩
theorem typ_val:∀ (n:Nat) (ds:List DV),Typ prog n 34 ds->∃ v:Val,ds=dVal v/\v.wt<=wgL ds:=by
 intro n
 induction n using Nat.strongRecOn with
 | _ n ih=>
  intro ds h;obtain ⟨m,rfl,hf⟩:=my Tryz.underlying34 h;obtain ⟨a1,b1,rfl,h1,a2,b2,rfl,h2,a3,b3,rfl,h3,a4,b4,rfl,h4,rfl⟩:=hf;obtain ⟨k,rfl,_⟩:=lF h1;obtain ⟨z,rfl,_⟩:=lF h2;obtain ⟨s,rfl⟩:=BK Tryz.underlying9 h3;obtain ⟨j,es,rfl,rfl,gh⟩:=sC Tryz.underlying32 h4;obtain ⟨l,rfl,wl⟩:=IY (fun i hi=>ih i (by omega)) gh;rw [EC];refine ⟨.mk k z s l,rfl,?_⟩;simp only [Val.wt,eP,wgL,wgD] at *;omega
end Go.Proofs.YtadhpeooehkklaaGreat
namespace Go.Proofs.YtadhpeooehkklaaGreat
open Go Go.RowKit Dv
def tyVS:List TypeId:=[34,32,9,3]
theorem tyVS_ok:∀ t∈tyVS,lk Tryz.prog tyVS t=true:=by
 have h:(tyVS.all fun t=>lk Tryz.prog tyVS t)=true:=by kernel_rfl
 exact fun t ht=>List.all_eq_true.1 h t ht
end Go.Proofs.YtadhpeooehkklaaGreat
set_option maxRecDepth 100000
namespace Go.Proofs.YtadhpeooehkklaaGreat
open Go Go.RowKit Dv Go.Proofs.Tryz
mutual
def sameV:Val->Val->Bool
 | .mk k n s ks,.mk k' n' s' ks'=>decide (k=k') && decide (n=n') && decide (s=s') && sameVs ks ks'
def sameVs:List Val->List Val->Bool
 | [],[]=>true
 | v :: r,w :: q=>sameV v w && sameVs r q
 | _,_=>false
end
theorem xO:∀ {a b:List Val},a.length≠b.length->sameVs a b=false
 | [],[],h=>(h rfl).elim
 | v :: r,w :: q,h=>by rw [sameVs,xO (a:=r) (b:=q) (sU h),Bool.and_false]
 | [],_ :: _,_=>by simp [sameVs]
 | _ :: _,[],_=>by simp [sameVs]
mutual
theorem Av:∀ {a b:Val},sameV a b=true↔a=b
 | .mk k n s ks,.mk k' n' s' ks'=>by
  have:=@xP ks ks';simp only [sameV,Bool.and_eq_true,decide_eq_true_eq,this,Val.mk.injEq,and_assoc]
theorem xP:∀ {a b:List Val},sameVs a b=true↔a=b
 | [],[]=>by simp [sameVs]
 | v :: r,w :: q=>by
  have h1:=@Av v w;have h2:=@xP r q;simp only [sameVs,Bool.and_eq_true,h1,h2,List.cons.injEq]
 | [],_ :: _=>by simp [sameVs]
 | _ :: _,[]=>by simp [sameVs]
end
theorem xQ (v:Val):sameV v v=true:=Av.2 rfl
def Aw (n:Nd) (v:Val):Bool:=
 if 0 < v.ks.length∨(v.k≠3/\v.s≠av)∨(v.k=3/\v.n≠0) then false
 else if n.ag=1 then decide (v.k=1) && (decide (v.n=0) || decide (v.n=1))
 else if n.ag=2 then decide (v.k=2) && decide (n.lo<=v.n) && decide (v.n<=n.hi)
 else if n.ag=3 then decide (v.k=3) && decide ((v.s.size:Int)<=n.most)
 else decide (v.k=4) && decide (0<=v.n) && decide (v.n < n.af.length)
def ez (v:Val):Bool:=decide (v.s=av) && (decide (v.n=0) || decide (v.k=8))
def to0 (n:Nd):Int:=match n.ai[0]? with | some e=>e.to | none=>0
def o6 (n:Nd) (v:Val):Option Ed:=if v.k=8/\0<=v.n/\v.n < n.ai.length then n.ai[v.n.toNat]? else none
def kidsL (n:Nd) (v:Val):List Int:=
 if n.ag=5∨n.ag=6 then List.replicate v.ks.length (to0 n)
 else if n.ag=7 then n.ai.map Ed.to
 else match o6 n v with | none=>[] | some e=>if e.bare=true then [] else [e.to]
def dV (n:Nd) (v:Val):Bool:=
 if n.ag=5∨n.ag=6 then ez v && decide (v.k=n.ag) && decide ((v.ks.length:Int)<=if n.ag=6 then 1 else n.most)
 else if n.ag=7 then ez v && decide (v.k=7) && decide (n.ai.length=v.ks.length)
 else match o6 n v with | none=>false | some _=>ez v && decide ((kidsL n v).length=v.ks.length)
def lQ (ND:List Nd) (i:Int):Option Nd:=if i < 0 then none else ND[i.toNat]?
mutual
def fitV (ND:List Nd):Val->Int->Bool
 | .mk k n s ks,i=>match lQ ND i with
  | none=>false
  | some d=>if d.ag < 5 then Aw d (.mk k n s ks) else dV d (.mk k n s ks) && fitVs ND ks (kidsL d (.mk k n s ks))
def fitVs (ND:List Nd):List Val->List Int->Bool
 | v :: r,i :: l=>fitV ND v i && fitVs ND r l
 | _,_=>true
end
def IZ (n:Nd) (v:Val) (j:Nat):Int:=
 if n.ag=5 then (if (j:Int) < n.most then to0 n else -1)
 else if n.ag=6 then (if j < 1 then to0 n else -1)
 else if n.ag=7 then (match n.ai[j]? with | some e=>e.to | none=>-1)
 else if n.ag=8 then (if j < 1/\0<=v.n/\v.n < n.ai.length then (match n.ai[v.n.toNat]? with | some e=>e.to | none=>-1) else -1)
 else -1
def xR (n:Nd) (v:Val):Bool:=decide (v.k≠n.ag) || (decide (v.k≠3) && decide (v.s≠av)) || (decide (0 < v.s.size) && decide (n.most < (v.s.size:Int)))
def ED (n:Nd) (v:Val):Bool:=
 if n.ag=1 then decide (v.n=0) || decide (v.n=1)
 else if n.ag=2 then decide (n.lo<=v.n) && decide (v.n<=n.hi)
 else if n.ag=4 then decide (0<=v.n) && decide (v.n < n.af.length)
 else if n.ag=7 then decide (v.n=0) && decide (v.ks.length=n.ai.length)
 else if n.ag=8 then (if 0<=v.n/\v.n < n.ai.length then (match n.ai[v.n.toNat]? with | some e=>decide (decide (v.ks.length=0)=e.bare) | none=>false) else false)
 else decide (v.n=0)
mutual
def xS (ND:List Nd):Val->Int->Bool
 | .mk k n s ks,i=>match lQ ND i with
  | none=>false
  | some d=>if xR d (.mk k n s ks)=true then false else ED d (.mk k n s ks) && refVs ND ks (IZ d (.mk k n s ks)) 0
def refVs (ND:List Nd):List Val->(Nat->Int)->Nat->Bool
 | [],_,_=>true
 | v :: r,f,j=>xS ND v (f j) && refVs ND r f (j + 1)
end
theorem Ax (ND:List Nd) (v:Val):xS ND v (-1)=false:=by
 obtain ⟨k,n,s,ks⟩:=v;rw [xS];rfl
theorem Hq {ND:List Nd}:∀ {ks:List Val} {f:Nat->Int} {j:Nat},f j = -1->refVs ND ks f j=decide (ks=[])
 | [],f,j,h=>by simp [refVs]
 | v :: r,f,j,h=>by rw [refVs,h,Ax];simp
theorem ob {ND:List Nd}:∀ {ks:List Val} {f:Nat->Int} {l:List Int} {j:Nat},(∀ v∈ks,∀ i,fitV ND v i=xS ND v i)->l.length=ks.length->(∀ e i,l[e]? = some i->f (j + e)=i)->refVs ND ks f j=fitVs ND ks l
 | [],f,[],j,_,_,_=>by simp [refVs,fitVs]
 | v :: r,f,i :: l,j,ih,hl,h=>by
  have h0:=h 0 i rfl;rw [Nat.add_zero] at h0
  rw [refVs,fitVs,h0,ih v (by simp) i,ob (fun x hx=>ih x (by simp [hx])) (sU hl) fun e i' he=>by
   have:=h (e + 1) i' (sU he)
   rwa [show j + 1 + e=j + (e + 1) by omega]]
 | [],f,_ :: _,j,_,hl,_=>by simp at hl
 | _ :: _,f,[],j,_,hl,_=>by simp at hl
theorem oO {ND:List Nd}:∀ {ks:List Val} {f:Nat->Int} {j m:Nat},j<=m->f m = -1->m < j + ks.length->refVs ND ks f j=false
 | [],f,j,m,h1,_,h3=>by simp at h3;omega
 | v :: r,f,j,m,h1,h2,h3=>by
  rw [refVs];by_cases h:j=m
  ·subst h;rw [h2,Ax];all_goals rfl
  ·rw [oO (m:=m) (by omega) h2 (by simp at h3;omega),Bool.and_false]
theorem NV {L:Nat} {ND:List Nd} {d:Nd} (hd:cz L ND.length d) (v:Val) (ih:∀ x∈v.ks,∀ i,fitV ND x i=xS ND x i) :
  (if d.ag < 5 then Aw d v else dV d v && fitVs ND v.ks (kidsL d v))=if xR d v=true then false else ED d v && refVs ND v.ks (IZ d v) 0:=by
 have jG:=hd.k1;have Hr:=hd.k8;have he:(av:ByteArray).size=0:=rfl;have hse:v.s=av->v.s.size=0:=fun h=>by rw [h];all_goals rfl
 by_cases h5:d.ag < 5
 ·rw [if_pos h5]
  have rU:IZ d v 0 = -1:=by
   unfold IZ;rw [if_neg (by omega),if_neg (by omega),if_neg (by omega),if_neg (by omega)]
  rw [Hq rU];unfold Aw xR ED;have hif:∀ (P:Prop) [Decidable P] (b:Bool),(if P then false else b)=(!decide P && b):=fun P _ b=>by split<;>simp_all
  have KB:(0 < v.ks.length)↔v.ks ≠ []:=List.length_pos_iff;have hif2:∀ (P b:Bool),(if P=true then false else b)=(!P && b):=fun P b=>by cases P<;>rfl
  rw [hif2,hif];have hm3:=hd.IW;have oX:=hd.S5;rw [Bool.eq_iff_iff];rcases (show d.ag=1∨d.ag=2∨d.ag=3∨d.ag=4 by omega) with c | c | c | c
  all_goals
   by_cases hs:v.s=av
   ·have:=hse hs;by_cases hk:v.ks=[]
    ·simp [c,hs,hk,he]
     first | omega | done
    ·simp [c,hs,hk,he]
   ·by_cases hk:v.ks=[]
    ·have tP:¬ v.s=ByteArray.empty:=hs;simp [c,hs,hk,tP]
     first | omega | done
    ·simp [c,hs,hk]
 rw [if_neg h5];rcases Decidable.em (¬ v.k=d.ag) with NW | NW
 ·have hb:xR d v=true:=by simp [xR,NW]
  rw [if_pos hb];unfold dV;by_cases c:d.ag=5∨d.ag=6
  ·rw [if_pos c];simp [NW]
  rw [if_neg c];by_cases c7:d.ag=7
  ·rw [if_pos c7];have:¬ v.k=7:=by omega
   simp [this]
  rw [if_neg c7];have:o6 d v=none:=by unfold o6;rw [if_neg (by omega)]
  rw [this];all_goals rfl
 have NW:v.k=d.ag:=Decidable.not_not.1 NW;rcases Decidable.em (¬ v.s=av) with hs | hs
 ·have hb:xR d v=true:=by simp [xR,hs,NW];left;omega
  have hp:ez v=false:=by simp [ez,hs]
  rw [if_pos hb];unfold dV;rw [hp];split
  ·simp
  ·split
   ·simp
   ·split<;>simp
 have hs:v.s=av:=Decidable.not_not.1 hs
 have hb:xR d v=false:=by
  have:=hse hs;simp [xR,NW,hs,he]
 rw [if_neg (by rw [hb];simp)];by_cases c5:d.ag=5
 ·have hm:=hd.ua c5
  have bm:ED d v=decide (v.n=0):=by
   unfold ED;rw [if_neg (by omega),if_neg (by omega),if_neg (by omega),if_neg (by omega),if_neg (by omega)]
  have JQ:dV d v=(decide (v.n=0) && decide ((v.ks.length:Int)<=d.most)):=by
   unfold dV ez;rw [if_pos (.inl c5),if_neg (by omega)];simp [hs,NW,c5]
  have ee:kidsL d v=List.replicate v.ks.length (to0 d):=by unfold kidsL;rw [if_pos (.inl c5)]
  rw [bm,JQ,ee];by_cases dq:(v.ks.length:Int)<=d.most
  ·rw [ob (l:=List.replicate v.ks.length (to0 d)) ih (by simp) fun e i he=>by
    have aj:e < v.ks.length:=by
     have:=(gS he).1;simpa using this
    rw [List.getElem?_replicate,if_pos aj] at he;simp only [oI] at he;unfold IZ
    rw [if_pos c5,if_pos (by omega),he]]
   simp [dq]
  ·rw [oO (m:=d.most.toNat) (by omega) (by unfold IZ;rw [if_pos c5,if_neg (by omega)]) (by omega)];simp [dq]
 by_cases c6:d.ag=6
 ·have bm:ED d v=decide (v.n=0):=by
   unfold ED;rw [if_neg (by omega),if_neg (by omega),if_neg (by omega),if_neg (by omega),if_neg (by omega)]
  have JQ:dV d v=(decide (v.n=0) && decide (v.ks.length<=1)):=by
   unfold dV ez;rw [if_pos (.inr c6),if_pos c6];have:((v.ks.length:Int)<=1)↔v.ks.length<=1:=by omega
   simp [hs,NW,c6,this]
  have ee:kidsL d v=List.replicate v.ks.length (to0 d):=by unfold kidsL;rw [if_pos (.inr c6)]
  rw [bm,JQ,ee];by_cases dq:v.ks.length<=1
  ·rw [ob (l:=List.replicate v.ks.length (to0 d)) ih (by simp) fun e i he=>by
    have aj:e < v.ks.length:=by
     have:=(gS he).1;simpa using this
    rw [List.getElem?_replicate,if_pos aj] at he;simp only [oI] at he;unfold IZ
    rw [if_neg c5,if_pos c6,if_pos (by omega),he]]
   simp [dq]
  ·rw [oO (m:=1) (by omega) (by unfold IZ;rw [if_neg c5,if_pos c6,if_neg (by omega)]) (by omega)];simp [dq]
 by_cases c7:d.ag=7
 ·have bm:ED d v=(decide (v.n=0) && decide (v.ks.length=d.ai.length)):=by
   unfold ED;rw [if_neg (by omega),if_neg (by omega),if_neg (by omega),if_pos c7]
  have JQ:dV d v=(decide (v.n=0) && decide (v.ks.length=d.ai.length)):=by
   unfold dV ez;rw [if_neg (by omega),if_pos c7];have:(d.ai.length=v.ks.length)↔(v.ks.length=d.ai.length):=eq_comm;simp [hs,NW,c7,this]
  have ee:kidsL d v=d.ai.map Ed.to:=by unfold kidsL;rw [if_neg (by omega),if_pos c7]
  rw [bm,JQ,ee];by_cases dq:v.ks.length=d.ai.length
  ·rw [ob (l:=d.ai.map Ed.to) ih (by simp [dq]) fun e i he=>by
    rw [List.getElem?_map] at he;unfold IZ;rw [if_neg c5,if_neg c6,if_pos c7,Nat.zero_add]
    cases hx:d.ai[e]? with
    | none=>rw [hx] at he;cases he
    | some x=>rw [hx] at he;simpa using he]
  ·simp [dq]
 have c8:d.ag=8:=by omega
 have bm:ED d v=(if 0<=v.n/\v.n < d.ai.length then (match d.ai[v.n.toNat]? with | some e=>decide (decide (v.ks.length=0)=e.bare) | none=>false) else false):=by
  unfold ED;rw [if_neg (by omega),if_neg (by omega),if_neg (by omega),if_neg c7,if_pos c8]
 rcases Decidable.em (¬ (0<=v.n/\v.n < d.ai.length)) with hr | hr
 ·have ht:o6 d v=none:=by unfold o6;rw [if_neg (fun h=>hr h.2)]
  have JQ:dV d v=false:=by unfold dV;rw [if_neg (by omega),if_neg c7,ht]
  rw [JQ,bm,if_neg hr];all_goals rfl
 have hr:0<=v.n/\v.n < d.ai.length:=Decidable.not_not.1 hr;obtain ⟨e,hx⟩:∃ e,d.ai[v.n.toNat]? = some e:=⟨_,gE (by omega)⟩;have ht:o6 d v=some e:=by unfold o6;rw [if_pos ⟨by omega,hr⟩,hx]
 have ee:kidsL d v=if e.bare=true then [] else [e.to]:=by unfold kidsL;rw [if_neg (by omega),if_neg c7,ht]
 have JQ:dV d v=decide ((kidsL d v).length=v.ks.length):=by
  unfold dV;rw [if_neg (by omega),if_neg c7,ht];have hp:ez v=true:=by simp [ez,hs,NW,c8]
  simp only [hp,Bool.true_and]
 have htr:∀ j,IZ d v j=if j < 1 then e.to else -1:=fun j=>by
  unfold IZ;rw [if_neg c5,if_neg c6,if_neg c7,if_pos c8,hx];by_cases hj:j < 1
  ·rw [if_pos ⟨hj,hr⟩,if_pos hj]
  ·rw [if_neg (fun h=>hj h.1),if_neg hj]
 rw [JQ,bm,if_pos hr,hx,ee];simp only
 cases hbr:e.bare with
 | true=>
  simp only [if_true];by_cases hl:v.ks.length=0
  ·have NX:=List.eq_nil_of_length_eq_zero hl;rw [NX];simp [fitVs,refVs]
  ·have:decide (([]:List Int).length=v.ks.length)=false:=decide_eq_false fun h=>hl (by simpa using h.symm);rw [this];simp [hl]
 | false=>
  simp only [Bool.false_eq_true,if_false];by_cases hl:v.ks.length=1
  ·rw [ob (l:=[e.to]) ih (by simp [hl]) fun j i he=>by
    have hj:j < 1:=by have:=(gS he).1;simpa using this
    have:j=0:=by omega
    subst this;rw [htr]
    simpa using he]
   simp [hl]
  ·have h1:¬ ([e.to]:List Int).length=v.ks.length:=by simpa using fun h=>hl h.symm
   by_cases hz:v.ks.length=0
   ·simp [hz]
   ·rw [oO (m:=1) (by omega) (by rw [htr];simp) (by omega)];simp only [Bool.and_false];have:decide (([e.to]:List Int).length=v.ks.length)=false:=by simpa using fun h=>hl h.symm
    rw [this];all_goals rfl
mutual
theorem NY {L:Nat} {ND:List Nd} (bm:∀ n∈ND,cz L ND.length n):∀ (v:Val) (i:Int),fitV ND v i=xS ND v i
 | .mk k n s ks,i=>by
  have ih:=I0 bm ks;rw [fitV,xS];unfold lQ;split
  ·rfl
  ·rename_i h;split at h
   ·cases h
   ·exact NV (bm _ (mG h)) (.mk k n s ks) ih
theorem I0 {L:Nat} {ND:List Nd} (bm:∀ n∈ND,cz L ND.length n):∀ (ks:List Val),∀ x∈ks,∀ i:Int,fitV ND x i=xS ND x i
 | [],x,hx,_=>by cases hx
 | v :: r,x,hx,i=>by
  rcases List.mem_cons.1 hx with hx | hx
  ·rw [hx];exact NY bm v i
  ·exact I0 bm r x hx i
end
end Go.Proofs.YtadhpeooehkklaaGreat
