/- Part 5 of the proof: resolve.Build; Reading a plan: Len, Root, Lattice, Node, Find; slices.Clone; of no plan as well; The reference of chapter 17: Great, Same; The program's comparing of schemas; The law's example: a type that leads to itself; The law of no plan: the call returns true; The document's relations: Leads; The document's lattices: Find, pairs, Leq, Loop; The document's lattices: what is wrong; The document's labels: over, Least, Of; The document's schemas: Find, word, all, Flat, End, Start; The document's schemas: Flat, End, Start; The document's schemas: named, unknown; The reference's Wrong returns what is wrong with a type; The document's schemas: what is wrong; The document's nodes: Same, of equal ones; the law's node; The document's nodes: node; The document's plan: Build; What is known of a type with which nothing is wrong; labels have levels; What is known of the nodes of a plan; A plan, as its readers know it; Values, plain; how many are in one, how deep they lie; What is read of a value, as the plain data; What the frames of laws over values share; Values that are the same; Which values fit which nodes: plain, as the program finds it and as the document says it. No condition. -/
import Derived.Test.YtadhpeooehkklaaGreatMv3
import Derived.Test.YtadhpeooehkklaaGreatMv4
set_option linter.all false
set_option maxRecDepth 100000
namespace Go.Proofs.YtadhpeooehkklaaGreat
open Go Go.RowKit Dv Go.Proofs.Tryz
abbrev Ov (s:Sch) (aO:List Nat) (lc:List DV) (m:Int) (f1 f2:Int) (n:Nat) (base:List DV) (e:Nat):St:=
 ⟨[(1,⟨[],.loc 4 0⟩),(3,⟨[],.loc 3 0⟩),(6,⟨[],.loc 0 0⟩),(59,⟨[],.sl 11 (dNms s.types) none⟩),(60,⟨[],.v (.int .i64 (dNms s.types).length)⟩),(61,⟨[],.v (.int .i64 e)⟩)],
  [bC s (.pt lc 0) (.loc 1 0) m,Md s aO lc n,[.v (.int .i64 f1),.v (.int .i64 f2)],[.v (.int .i64 0),.v (.int .i64 0)],gm s],[HO n base]⟩
theorem yi (s:Sch) (hs:s.wt<=1099511627776):Ev prog 10 [.agg (gm s)] [] [] (HR s):=by
 have hF:=ma.eq_1 s;have hw:=hs;simp only [Sch.wt] at hw;have hwl:=bP s.ae;have W5:=ku s.types;have QS:=ER s.ae s.order (by omega) (by omega);have vA:=fun lc=>CT s lc (by omega)
 have cM:∀ t,(t=s.root∨∃ x∈s.types,t=x.2)->t.wt<=1099511627776:=fun t ht=>by
  rcases ht with rfl | ⟨x,hx,rfl⟩
  ·omega
  ·have:=ir hx;omega
 have ZH:=fun lc aO=>HN s lc aO 0 (by omega) (by omega) (by omega) cM;have ZI:=fun (X:Lx) (hX:X.OK) (aO:List Nat) (hT:iV (tL s) aO) (jU:aO.length<=1099511627776) (m:Int)=>K6 s X.pd (HM s aO (jG X.af (dC X.af X.aO) X.rows X.js)) m (by omega) 40 U3 (knT X (tL s)) (fun t ht=>yb hX s aO (.pt (jG X.af (dC X.af X.aO) X.rows X.js) 0) (.v (.slice none 0 0)) (.v (.int .i64 0)) (.v (.slice none 0 0)) m hT jU t.wt t (aU _) (cM t ht))
 have VT:(eP s).1=0->s.types.length<=64:=fun h=>by
  unfold eP at h;split at h
  ·cases h
  ·omega
 have hLx:=fun d h hd=>@Rw s d h hd (by omega);have TL:=fun (lat:DV) (aO:List Nat) (a b c e0:DV) (m:Int)=>HL s lat aO a b c e0 m;have Ow:=fun (lc:List DV) (aO:List Nat) (m:Int)=>E5 s lc aO m;have eY:=fun (X:Lx) (hX:X.OK) (aO:List Nat) (m:Int) (hT:iV (tL s) aO) (jU:aO.length<=1099511627776) (t:Ty) (ht:t.wt<=1099511627776)=>A3 hX s aO m hT jU t.wt t (aU _) ht;refine eG 85 [.tmp 2,.cell 3 45] func10 rfl ntmps10 rfl fun _ _ _ _=>?_;generalize hS:s=S at *;obtain ⟨ae,order,types,⟨rh,rp⟩⟩:=s;subst hS;refine kG en36 rfl QS ax (fun r hr=>?_);by_cases hL:(latF ae order).1≠0
 ·have hL':=hL;rw [ai (show (latF (Sch.mk ae order types (.mk rh rp)).ae (Sch.mk ae order types (.mk rh rp)).order).1≠0 from hL)] at hF;unfold HD at hr;rw [ai (show (latF (Sch.mk ae order types (.mk rh rp)).ae (Sch.mk ae order types (.mk rh rp)).order).1≠0 from hL)] at hr;subst hr;refine br ?_ ?_<;>intro h
  ·refine dS ?_;exact ⟨_,ax,oC (os:=[]) (tk:=[]) hF hL⟩
  ·exfalso;simp at h;exact hL h
 unfold HD at hr;rw [ah (show ¬ (latF (Sch.mk ae order types (.mk rh rp)).ae (Sch.mk ae order types (.mk rh rp)).order).1≠0 from hL)] at hF hr;obtain ⟨d,hd,rfl⟩:=hr;have hL0:(latF ae order).1=0:=sU hL;obtain ⟨aO,js,hX,rfl⟩:=hLx d hL0 hd;generalize hXX:gd ⟨ae,order,types,.mk rh rp⟩ aO js=X at hX;refine br (fun h=>?_) (fun _=>?_)
 ·exfalso;simp at h;exact hL h
 refine ik.ZF 0 4 rfl rfl rfl rfl (ik.ZF 1 3 rfl rfl rfl rfl ?_);refine kh 2 0 en37 rfl rfl rfl mv mv (vA (jG X.af (dC X.af X.aO) X.rows X.js)) (fun r lN dO hΦ h1 h2=>?_);obtain ⟨rfl,KK⟩:=hΦ;have h2:=List.eq_nil_of_length_eq_zero h2;subst h2;by_cases JE:(eP ⟨ae,order,types,.mk rh rp⟩).1≠0
 ·rw [ai JE] at hF
  obtain ⟨a,b,rfl⟩:∃ a b,lN=[a,b]:=by
   match lN,h1 with
   | [a,b],_=>exact ⟨a,b,rfl⟩
  refine br ?_ ?_<;>intro h
  ·refine dS ?_;exact ⟨_,ax,oC (os:=[]) (tk:=[]) hF JE⟩
  ·exfalso;simp at h;exact JE h
 rw [ah JE] at hF;have ZJ:(eP ⟨ae,order,types,.mk rh rp⟩).1=0:=sU JE;have HU:=VT ZJ;obtain ⟨lP,hT,jU,rfl⟩:=KK ZJ;refine br (fun h=>?_) (fun _=>?_)
 ·exfalso;simp at h;exact JE h
 refine kh 2 0 XV rfl rfl rfl mv mv (ZH (jG X.af (dC X.af X.aO) X.rows X.js) lP) (fun r lN dO hΦ h1 h2=>?_);obtain ⟨rfl,rfl⟩:=hΦ;have h2:=List.eq_nil_of_length_eq_zero h2;subst h2;by_cases hR:(eaR (.mk rh rp) types 0).1.1≠0
 ·rw [ai (show (eaR (Sch.mk ae order types (.mk rh rp)).root (Sch.mk ae order types (.mk rh rp)).types 0).1.1≠0 from hR)] at hF;refine br ?_ ?_<;>intro h
  ·refine dS ?_;exact ⟨_,ax,oC (os:=[]) (tk:=[]) hF hR⟩
  ·exfalso;simp at h;exact hR h
 rw [ah (show ¬ (eaR (Sch.mk ae order types (.mk rh rp)).root (Sch.mk ae order types (.mk rh rp)).types 0).1.1≠0 from hR)] at hF;have hR0:(eaR (.mk rh rp) types 0).1.1=0:=sU hR;refine br (fun h=>?_) (fun _=>?_)
 ·exfalso;simp at h;exact hR h
 have hea:=ZI X hX lP hT (by have:types.length<=64:=HU;have:lP.length<=types.length:=jU;omega) (eaR (.mk rh rp) types 0).2;have VU:∀ t,knT X (tL ⟨ae,order,types,.mk rh rp⟩) t=ly ⟨ae,order,types,.mk rh rp⟩ t:=fun t=>by rw [<- hXX];exact VS _ _ _ t
 have VV:eaL (knT X (tL ⟨ae,order,types,.mk rh rp⟩)) (knT X (tL ⟨ae,order,types,.mk rh rp⟩) (.mk rh rp)) types=eaL (ly ⟨ae,order,types,.mk rh rp⟩) (ly ⟨ae,order,types,.mk rh rp⟩ (.mk rh rp)) types:=by
  rw [show knT X (tL ⟨ae,order,types,.mk rh rp⟩)=ly ⟨ae,order,types,.mk rh rp⟩ from funext VU]
 refine v7 XV hea ax rfl rfl ?_;by_cases hK:(eaL (ly ⟨ae,order,types,.mk rh rp⟩) (ly ⟨ae,order,types,.mk rh rp⟩ (.mk rh rp)) types).1≠0
 ·rw [ai (show (eaL (ly ⟨ae,order,types,.mk rh rp⟩) (ly ⟨ae,order,types,.mk rh rp⟩ (Sch.mk ae order types (.mk rh rp)).root) (Sch.mk ae order types (.mk rh rp)).types).1≠0 from hK)] at hF;refine br ?_ ?_<;>intro h
  ·refine dS ?_;refine ⟨.tup [.v (.pointer none),(eaL (knT X (tL ⟨ae,order,types,.mk rh rp⟩)) (knT X (tL ⟨ae,order,types,.mk rh rp⟩) (.mk rh rp)) types).d],ax,?_⟩;rw [VV];exact oC (os:=[]) (tk:=[]) hF hK
  ·exfalso;simp only [VV] at h;simp at h;exact hK h
 rw [ah (show ¬ (eaL (ly ⟨ae,order,types,.mk rh rp⟩) (ly ⟨ae,order,types,.mk rh rp⟩ (Sch.mk ae order types (.mk rh rp)).root) (Sch.mk ae order types (.mk rh rp)).types).1≠0 from hK)] at hF;have Rz:(eaL (ly ⟨ae,order,types,.mk rh rp⟩) (ly ⟨ae,order,types,.mk rh rp⟩ (.mk rh rp)) types).1=0:=sU hK;refine br (fun h=>?_) (fun _=>?_)
 ·exfalso;have h:(!decide ((eaL (knT X (tL ⟨ae,order,types,.mk rh rp⟩)) (knT X (tL ⟨ae,order,types,.mk rh rp⟩) (.mk rh rp)) types).1=0))=true:=h;rw [VV,Rz] at h;simp at h
 have sX:wdsWt ae + prsWt order + nmsWt types + (Ty.mk rh rp).wt<=1099511627776:=hw;have hnmw:nmsWt types<=1099511627776:=by omega
 obtain ⟨TM,jT⟩:=Oq Rz;have hkr':(knT X (tL ⟨ae,order,types,.mk rh rp⟩) (.mk rh rp)).1=0:=by rw [VU];exact TM
 have ZK:∀ x∈types,(knT X (tL ⟨ae,order,types,.mk rh rp⟩) x.2).1=0:=fun x hx=>by rw [VU];exact jT x hx
 have ZL:∀ x∈types,vG ⟨ae,order,types,.mk rh rp⟩ x.2=true:=fun x hx=>CV (ZK x hx);have RA:lP.length<=1099511627776:=by have:types.length<=64:=HU;have:lP.length<=types.length:=jU;omega
 refine v7 en41 (TL X.pd lP X.pd (.v (.slice none 0 0)) (.v (.int .i64 0)) (.v (.slice none 0 0)) (eaR (.mk rh rp) types 0).2 hT RA HU ZL) ax rfl rfl ?_;by_cases hO:(loopF ⟨ae,order,types,.mk rh rp⟩).1≠0
 ·refine br ?_ ?_<;>intro h
  ·refine dS ?_;exact ⟨_,ax,oC (os:=[]) (tk:=[]) hF hO⟩
  ·exfalso;simp at h;exact hO h
 have hO0:(loopF ⟨ae,order,types,.mk rh rp⟩).1=0:=sU hO;have hF0:(ma ⟨ae,order,types,.mk rh rp⟩).1=0:=by rw [hF];exact hO0
 refine br (fun h=>?_) (fun _=>?_)
 ·exfalso;simp at h;exact hO h
 refine kh 2 0 en42 rfl rfl rfl mv mv (Ow (jG X.af (dC X.af X.aO) X.rows X.js) lP (eaR (.mk rh rp) types 0).2 hT RA HU ZL hnmw (E8 hO0)) (fun r lN dO hΦ h1 h2=>?_);subst hΦ;have h2:=List.eq_nil_of_length_eq_zero h2;subst h2;clear vA ZH ZI TL Ow hea QS;have hN:(dNms types).length=types.length:=eB types;obtain ⟨RB,hwt,hcm,ZM⟩:=Ot (Int.le_refl 0) hR0;generalize (eaR (.mk rh rp) types 0).2=m at hcm ZM ⊢
 refine bA (fun j st=>∃ (e n:Nat) (base:List DV) (N:List Nd),st=Ov ⟨ae,order,types,.mk rh rp⟩ lP (jG X.af (dC X.af X.aO) X.rows X.js) m (loopF ⟨ae,order,types,.mk rh rp⟩).1 (loopF ⟨ae,order,types,.mk rh rp⟩).2 n base e/\e<=types.length/\n=N.length/\base=(bD N).flatten/\N ++ ndsAll (jA ⟨ae,order,types,.mk rh rp⟩) ⟨ae,order,types,.mk rh rp⟩ (types.drop e) n=rT ⟨ae,order,types,.mk rh rp⟩/\j=types.length - e) types.length
  (Ov ⟨ae,order,types,.mk rh rp⟩ lP (jG X.af (dC X.af X.aO) X.rows X.js) m (loopF ⟨ae,order,types,.mk rh rp⟩).1 (loopF ⟨ae,order,types,.mk rh rp⟩).2 0 [] 0) (cW 5 ⟨0,105,7,some []⟩ rfl rfl rfl pO rfl rfl lX) ⟨0,0,[],[],rfl,by omega,rfl,rfl,rfl,by omega⟩ ?_
 rintro j st ⟨e,n,base,N,rfl,he,hn,SE,W8,rfl⟩;have hl64':types.length<=64:=HU;have HV:X.lev=jA ⟨ae,order,types,.mk rh rp⟩:=by rw [<- hXX];all_goals rfl
 have htot:(rT ⟨ae,order,types,.mk rh rp⟩).length + (Ty.mk rh rp).nn<=512:=by
  have h1:=yh types;have h2:=(Ty.mk rh rp).hZ;have h3:(rT ⟨ae,order,types,.mk rh rp⟩).length=(types.map fun x=>x.2.nn).sum:=yg _ _ _ _;omega
 have hbl:base.length=n * 7:=by rw [SE,hn,A9]
 have hNl:n + (ndsAll (jA ⟨ae,order,types,.mk rh rp⟩) ⟨ae,order,types,.mk rh rp⟩ (types.drop e) n).length=(rT ⟨ae,order,types,.mk rh rp⟩).length:=by rw [<- W8,List.length_append,hn]
 refine br ?_ ?_<;>intro hL
 ·have au:e < types.length:=by have:=hL;simp [hN] at this;exact this
  obtain ⟨x,hx⟩:=gX au;have hxm:=mG hx;rw [drop_cons hx,ndsAll] at W8 hNl;rw [List.length_append] at hNl;have fo:=kR (jA ⟨ae,order,types,.mk rh rp⟩) ⟨ae,order,types,.mk rh rp⟩ x.2 n;have eU:=eY X hX lP m hT RA x.2 (cM x.2 (.inr ⟨x,hxm,rfl⟩)) (ZK x hxm) n base (by omega) hbl;rw [HV] at eU;obtain ⟨xw,⟨xh,xp⟩⟩:=x;refine iX (dNms_get hx) ?_;refine kh 2 1 QN rfl rfl rfl mv mv eU (fun r lN dO hΦ h1 h2=>?_);obtain ⟨rfl,rfl,rfl⟩:=hΦ;refine ⟨Ov ⟨ae,order,types,.mk rh rp⟩ lP (jG X.af (dC X.af X.aO) X.rows X.js) m (loopF ⟨ae,order,types,.mk rh rp⟩).1 (loopF ⟨ae,order,types,.mk rh rp⟩).2 (n + (ndsT (jA ⟨ae,order,types,.mk rh rp⟩) ⟨ae,order,types,.mk rh rp⟩ (.mk xh xp) n).length) (base ++ (bD (ndsT (jA ⟨ae,order,types,.mk rh rp⟩) ⟨ae,order,types,.mk rh rp⟩ (.mk xh xp) n)).flatten) (e + 1),(aq 5 rfl (nF (aK au (by omega))) rfl rfl rfl (dy (aK au (by omega)))),types.length - (e + 1),by omega,e + 1,_,_,N ++ ndsT (jA ⟨ae,order,types,.mk rh rp⟩) ⟨ae,order,types,.mk rh rp⟩ (.mk xh xp) n,rfl,by omega,by rw [List.length_append,hn],by rw [SE];simp [bD],?_,rfl⟩;rw [List.append_assoc,fo];exact W8
 have aS:e=types.length:=sW hN hL;subst aS;rw [List.drop_length,ndsAll,List.append_nil] at W8;rw [List.drop_length,ndsAll,List.length_nil,Nat.add_zero] at hNl;have hnr:=eY X hX lP m hT RA (.mk rh rp) (by omega) hkr' n base (by omega) hbl;rw [HV] at hnr;intro E a w hr;have iA:=jJ hr;obtain ⟨b0,ty0,Kr,iE,hw0,Kq⟩:=iA.env.fm 0 _ rfl;obtain ⟨b1,ty1,arr1,pN,hw1,I9⟩:=iA.env.fm 1 _ rfl;obtain ⟨v13,hv13,ZN⟩:=RvL.get (i:=13) (d:=.loc 1 0) Kq.1 rfl
 have ZO:v13 = .pointer (some ⟨b1,0,none⟩):=by
  unfold Rv at ZN;obtain ⟨b,hb,rfl⟩:=ZN;rw [pN] at hb;simp only [oI] at hb;rw [hb]
 subst ZO
 have rb:w.drew.cell? ⟨b0,13,none⟩=some (.pointer (some ⟨b1,0,none⟩)):=by
  rw [cT hw0];simpa using hv13
 have Qc:=Rp iA.env [0,1,2,3];generalize Cr:maskL [0,1,2,3] 0 _=bxm at Qc
 have hbmi:∀ (i:Nat) cs,bxm[i]? = some cs->cs ≠ []->2<=i:=fun i cs hi bF=>by
  rw [<- Cr] at hi
  match i,hi with
  | 0,hi=>exact (bF (by simpa [maskL] using hi.symm)).elim
  | 1,hi=>exact (bF (by simpa [maskL] using hi.symm)).elim
  | i + 2,_=>omega
 refine lG (C:=fun w'=>CC E bxm w.drew w' /\ w'.cell? ⟨b0,13,none⟩=some (.pointer (some ⟨b1,0,none⟩))) (W:=fun i=>Nat.beq i 10) (Q:=fun a w=>kq _ _ .normal a w) mo (by decide +kernel) (fun _ _ h=>h) ⟨⟨fun _ _ _ _ _ _=>rfl,iA.env.sub⟩,rb⟩ ?_;show Go.Proofs.YtadhpeooehkklaaGreat.Dv.runT _ _ _ _ _ [0,1,2,3,4,5,6,7,8,9,10] _ _;refine nd iA rfl rfl rfl rfl rfl rfl (fun a0 h0=>?_);refine nd h0 rfl rfl rfl rfl rfl rfl (fun a1 h1=>?_);refine nd h1 rfl rfl rfl rfl rfl rfl (fun a2 h2=>?_);refine Rr h2 rfl pN rfl rfl iE rfl rfl (fun w' h=>h.2) ⟨⟨fun _ _ _ _ _ _=>rfl,iA.env.sub⟩,rb⟩ rfl rfl (fun a3 h3=>?_);refine nd h3 rfl rfl rfl rfl rfl rfl (fun a4 h4=>?_);refine nd h4 rfl rfl rfl rfl rfl rfl (fun a5 h5=>?_);refine Rq h5 rfl (bx:=bxm) (Ro h5 Qc (fun w' h=>h.1)) ⟨⟨fun _ _ _ _ _ _=>rfl,iA.env.sub⟩,rb⟩ rfl rfl (by rw [<- Cr];rfl) rfl (fun a6 h6=>?_);refine Rs h6 rfl rfl rfl rfl rfl rfl QN 2 1 rfl rfl mv mv hnr rfl rfl ?_;intro v r lN dO E' w' hΦ _ _ cj Tf hx hβ hh;obtain ⟨rfl,rfl,rfl⟩:=hΦ;refine ⟨fun _ hC=>⟨⟨fun i b cs hb dw bF=>?_,fun x v W2=>cj.env.sub x v (hx.c x v W2)⟩,?_⟩,?_⟩
 ·exact hh i b (hbmi i cs dw bF) hb
 ·obtain ⟨b0',ty0',arr0',VW,hw0',hc0'⟩:=cj.env.fm 0 _ rfl;rw [hβ,iE] at VW;simp only [oI] at VW;subst VW;obtain ⟨u13,hu13,ZP⟩:=RvL.get (i:=13) (d:=.loc 1 0) hc0'.1 rfl;unfold Rv at ZP;obtain ⟨b,hb,rfl⟩:=ZP;rw [hβ,pN] at hb;simp only [oI] at hb;subst hb;rw [cT hw0'];simpa using hu13
 have h7:=bM (dst:=some 77) cj rfl _ v Tf;have hrN:(rT ⟨ae,order,types,.mk rh rp⟩).length=n:=by rw [<- W8,hn]
 have s7:base ++ (bD (ndsT (jA ⟨ae,order,types,.mk rh rp⟩) ⟨ae,order,types,.mk rh rp⟩ (.mk rh rp) n)).flatten=(bD (resNds ⟨ae,order,types,.mk rh rp⟩)).flatten:=by
  unfold resNds;rw [hrN,<- W8,SE];simp [bD]
 have ZQ:(bD (resNds ⟨ae,order,types,.mk rh rp⟩)).length=n + (ndsT (jA ⟨ae,order,types,.mk rh rp⟩) ⟨ae,order,types,.mk rh rp⟩ (.mk rh rp) n).length:=by
  unfold resNds;rw [hrN];simp [bD,hrN]
 obtain ⟨E3,h8⟩:=Rt h7 1 1 0 (ns:=bD (resNds ⟨ae,order,types,.mk rh rp⟩)) (congrArg (fun b=>some (HO (n + (ndsT (jA ⟨ae,order,types,.mk rh rp⟩) ⟨ae,order,types,.mk rh rp⟩ (.mk rh rp) n).length) b)) s7) (fun x hx=>by
  simp only [bD,List.mem_map] at hx;obtain ⟨y,_,rfl⟩:=hx
  rfl) ZQ rfl rfl List.length_replicate
 refine nd h8 rfl rfl rfl rfl rfl rfl (fun a8 h9=>?_);refine nd h9 rfl rfl rfl rfl rfl rfl (fun a9 Ah=>?_);refine La Ah rfl rfl rfl rfl rfl rfl ?_;refine ⟨.tup [.pt [X.pd,.sl 7 (bD (resNds ⟨ae,order,types,.mk rh rp⟩)) none,.v (.int .i64 (oA ⟨ae,order,types,.mk rh rp⟩ (.mk rh rp) n)),.pt (dC (tL ⟨ae,order,types,.mk rh rp⟩) lP) 0,.sl 1 (dInts (namedL ⟨ae,order,types,.mk rh rp⟩)) none] 0,Ft.d (0,0)],ax,Rx (os:=[]) (tk:=[]) hF0 ⟨aO,lP,js,by rw [hXX];exact hX,hT,jU,?_⟩⟩;rw [TI,hXX,fF,hrN]
theorem RC (es:List (List DV)) (hl:es.length<=1099511627776):Ev prog 104 [.sl 1 es none] [] [] (fun r _ _=>r = .sl 1 es none∨(es=[]/\r = .v (.slice none 0 0))):=by
 refine eG 8 [.tmp 2] func104 rfl ntmps104 rfl fun _ _ _ _=>?_;refine On ⟨_,rfl⟩ rfl rfl rfl rfl (fun b hb=>?_);refine br ?_ ?_<;>intro h
 ·have h:b=true:=h;have he:es=[]:=Classical.byContradiction fun hn=>by rw [hb hn] at h;cases h
  subst he;exact Or.inr ⟨rfl,rfl⟩
 ·refine E7 rfl rfl rfl rfl (hk:=?_);refine ⟨rfl,⟨by simp [maxLen];omega,by simp;omega⟩,?_⟩;exact ⟨_,ax,Or.inl rfl⟩
theorem RD (es:List (List DV)) (hl:es.length<=1099511627776):Ev prog 105 [.sl 10 es none] [] [] (fun r _ _=>r = .sl 10 es none∨(es=[]/\r = .v (.slice none 0 0))):=by
 refine eG 8 [.tmp 2] func105 rfl ntmps105 rfl fun _ _ _ _=>?_;refine On ⟨_,rfl⟩ rfl rfl rfl rfl (fun b hb=>?_);refine br ?_ ?_<;>intro h
 ·have h:b=true:=h;have he:es=[]:=Classical.byContradiction fun hn=>by rw [hb hn] at h;cases h
  subst he;exact Or.inr ⟨rfl,rfl⟩
 ·refine E7 rfl rfl rfl rfl (hk:=?_);refine ⟨rfl,⟨by simp [maxLen];omega,by simp;omega⟩,?_⟩;exact ⟨_,ax,Or.inl rfl⟩
def ZR (lc:List DV) (A1:List Nd) (root:Int) (L:List ByteArray) (aO:List Nat) (named:List Nat):DV:=.pt [.pt lc 0,.sl 7 (bD A1) none,.v (.int .i64 root),.pt (dC L aO) 0,.sl 1 (dInts named) none] 0
theorem cy (l:List Nd):(bD l).length=l.length:=by simp [bD]
theorem bB {l:List Nd} {i:Nat} {n:Nd} (h:l[i]? = some n):(bD l)[i]? = some (gG n):=by simp [bD,h]
section
variable (lc:List DV) (A1:List Nd) (root:Int) (L:List ByteArray) (aO:List Nat) (named:List Nat)
theorem tP:aV prog 103 [ZR lc A1 root L aO named] (.v (.int .i64 A1.length)):=by
 refine eG 10 [.tmp 2] func103 rfl ntmps103 rfl fun _ _ _ _=>?_;refine (congrArg (fun z=>DV.v (.int .i64 z)) ?_:_=_);rw [cy]
theorem HW:aV prog 13 [ZR lc A1 root L aO named] (.v (.int .i64 root)):=by
 refine eG 9 [.tmp 2] func13 rfl ntmps13 rfl fun _ _ _ _=>?_;exact (rfl:_=_)
theorem Lb:aV prog 139 [ZR lc A1 root L aO named] (.pt lc 0):=by
 refine eG 9 [.tmp 2] func139 rfl ntmps139 rfl fun _ _ _ _=>?_;exact ⟨_,ax,rfl⟩
theorem HX (i:Nat) (n:Nd) (h:A1[i]? = some n) (hn:n.af.length<=1099511627776) (he:n.ap.length<=1099511627776) :
  aV prog 44 [ZR lc A1 root L aO named,.v (.int .i64 i)] (.tup [.agg (gG n),.v (.bool true)]):=by
 have au:=(gS h).1;have hlen:=tP lc A1 root L aO named;have I9:=RC (fp n.af) (by rw [cv];exact hn);have lF:=RD (cJ n.ap) (by rw [aW];exact he);refine eG 32 [.cell 4 105,.tmp 5] func44 rfl ntmps44 rfl fun _ _ _ _=>?_;refine cP uJ hlen ?_;refine br ?_ ?_<;>intro g
 ·exfalso;simp [pickB] at g;omega
 refine iX (bB h) ?_;refine dS ?_;refine rr Yf rfl I9 ax (fun r1 hr1=>?_);rcases hr1 with rfl | ⟨h1,rfl⟩
 ·refine rr SO rfl lF ax (fun r2 nU=>?_);rcases nU with rfl | ⟨h2,rfl⟩
  ·exact ⟨.tup [.agg (gG n),.v (.bool true)],ax,rfl⟩
  ·exact ⟨.tup [.agg (gG n),.v (.bool true)],(by repeat' (first | exact rfl | exact trivial | exact Or.inr (Or.inl ⟨_,rfl⟩) | exact Or.inr ⟨_,rfl⟩ | exact Or.inl ⟨rfl,rfl⟩ | exact Or.inl rfl | refine Or.inr ⟨_,_,rfl,Nat.zero_le _,rfl,?_⟩ | refine ⟨_,_,rfl,?_,?_⟩ | refine ⟨_,rfl,?_⟩ | exact Or.inl ⟨h2,rfl⟩ | refine Or.inr (Or.inr (Or.inr ⟨_,_,rfl,?_⟩)) | exact Or.inl rfl | refine Or.inr ?_)),rfl⟩
 ·refine rr SO rfl lF ax (fun r2 nU=>?_);rcases nU with rfl | ⟨h2,rfl⟩
  ·exact ⟨.tup [.agg (gG n),.v (.bool true)],(by repeat' (first | exact rfl | exact trivial | exact Or.inr (Or.inl ⟨_,rfl⟩) | exact Or.inr ⟨_,rfl⟩ | exact Or.inl ⟨rfl,rfl⟩ | exact Or.inl rfl | refine Or.inr ⟨_,_,rfl,Nat.zero_le _,rfl,?_⟩ | refine ⟨_,_,rfl,?_,?_⟩ | refine ⟨_,rfl,?_⟩ | exact Or.inl ⟨h1,rfl⟩ | refine Or.inr (Or.inr (Or.inr ⟨_,_,rfl,?_⟩)) | exact Or.inl rfl | refine Or.inr ?_)),rfl⟩
  ·exact ⟨.tup [.agg (gG n),.v (.bool true)],(by repeat' (first | exact rfl | exact trivial | exact Or.inr (Or.inl ⟨_,rfl⟩) | exact Or.inr ⟨_,rfl⟩ | exact Or.inl ⟨rfl,rfl⟩ | exact Or.inl rfl | refine Or.inr ⟨_,_,rfl,Nat.zero_le _,rfl,?_⟩ | refine ⟨_,_,rfl,?_,?_⟩ | refine ⟨_,rfl,?_⟩ | exact Or.inl ⟨h1,rfl⟩ | exact Or.inl ⟨h2,rfl⟩ | refine Or.inr (Or.inr (Or.inr ⟨_,_,rfl,?_⟩)) | exact Or.inl rfl | refine Or.inr ?_)),rfl⟩
theorem HY (i:Int) (h:i < 0∨A1.length<=i) :
  aV prog 44 [ZR lc A1 root L aO named,.v (.int .i64 i)] (.tup [.agg [.v (.int .i64 0),.v (.int .i64 0),.v (.int .i64 0),.v (.int .i64 0),.v (.int .i64 0),.v (.slice none 0 0),.v (.slice none 0 0)],.v (.bool false)]):=by
 have hlen:=tP lc A1 root L aO named;refine eG 32 [.cell 4 105,.tmp 5] func44 rfl ntmps44 rfl fun _ _ _ _=>?_;refine br ?_ ?_<;>intro g
 ·refine cP uJ hlen ?_;refine br ?_ ?_<;>intro g2
  ·exact ⟨_,ax,rfl⟩
  ·exfalso;simp at g;simp [pickB,g] at g2;omega
 ·exact ⟨_,ax,rfl⟩
end
theorem yj:aV prog 103 [.v (.pointer none)] (.v (.int .i64 0)):=by
 refine eG 10 [.tmp 2] func103 rfl ntmps103 rfl fun _ _ _ _=>?_;exact (rfl:_=_)
abbrev CW (s:Sch) (n d k q:Int) (e:Nat):St:=
 ⟨[(1,⟨[],.loc 0 0⟩),(3,⟨[],.v (.int .i64 n)⟩),(4,⟨[],.v (.int .i64 d)⟩),(5,⟨[],.v (.int .i64 e)⟩)],[gm s],[]⟩
theorem CX (s:Sch) (cM:s.wt<=1099511627776):Ev prog 8 [.agg (gm s)] [] [] (fun d _ _=>∃ b:Bool,d = .v (.bool b)):=by
 have h1:=bP s.ae;have h2:=jv s.order;have h3:=ku s.types;simp only [Sch.wt] at cM;have ox:=lp s.root.wt s.root (aU _) (by omega);obtain ⟨ae,order,types,⟨h,ps⟩⟩:=s;simp only at h1 h2 h3 cM ox;refine eG 60 [.tmp 2] func8 rfl ntmps8 rfl fun _ _ _ _=>?_;refine br ?_ ?_<;>intro _
 ·exact ⟨true,rfl⟩
 refine cP QM ox ?_;refine bA (fun j st=>∃ (e:Nat) (n d:Int),st=CW ⟨ae,order,types,.mk h ps⟩ n d 0 0 e/\e<=types.length/\j=types.length - e) types.length (CW ⟨ae,order,types,.mk h ps⟩ (Ty.mk h ps).cnt (Ty.mk h ps).deep 0 0 0) (aj ⟨_,rfl⟩ wA rfl rfl rfl wB) ⟨0,_,_,rfl,by omega,by omega⟩ ?_;rintro j st ⟨e,n,d,rfl,he,rfl⟩;refine br ?_ ?_<;>intro hL
 ·have au:e < types.length:=by have:=hL;simp [eB] at this;exact this
  obtain ⟨w,hw⟩:=gX au;have hwt:=ir (mG hw);have hs:=lp w.2.wt w.2 (aU _) (by omega);obtain ⟨w,u,us⟩:=w;simp only at hs;refine iX (dNms_get hw) ?_;refine cP QM hs ?_;refine br ?_ ?_<;>intro _
  ·exact ⟨CW ⟨ae,order,types,.mk h ps⟩ _ _ 0 0 (e + 1),(aj ⟨_,rfl⟩ wA rfl rfl rfl (dy (aK au (by omega)))),types.length - (e + 1),by omega,e + 1,_,_,rfl,by omega,rfl⟩
  ·exact ⟨CW ⟨ae,order,types,.mk h ps⟩ _ _ 0 0 (e + 1),(aj ⟨_,rfl⟩ wA rfl rfl rfl (dy (aK au (by omega)))),types.length - (e + 1),by omega,e + 1,_,_,rfl,by omega,rfl⟩
 exact ⟨_,rfl⟩
def samePrs:List (Wd × Wd)->List (Wd × Wd)->Bool
 | [],[]=>true
 | x :: r,y :: s=>(decide (x.1.s=y.1.s) && decide (x.2.s=y.2.s)) && samePrs r s
 | _,_=>false
def sameNms:List (Wd × Ty)->List (Wd × Ty)->Bool
 | [],[]=>true
 | x :: r,y :: s=>(decide (x.1.s=y.1.s) && sameTy x.2 y.2) && sameNms r s
 | _,_=>false
def Jc (a b:Sch):Bool:=sameWds a.ae b.ae && samePrs a.order b.order && sameTy a.root b.root && sameNms a.types b.types
theorem Lc:∃ d,Op.maxDepth=d + 1 + 1 + 1:=⟨Op.maxDepth - 3,by decide⟩
theorem Ox (p q r s:Int) (w:World):(Op.equal 45 (.agg #[.int .i64 p,.int .i64 q]) (.agg #[.int .i64 r,.int .i64 s])).run prog w = .ok (decide (p=r) && decide (q=s)) w:=by
 have hf:prog.underlying 45=some (.struct (prog.fieldsOf 45)):=by simp [Program.fieldsOf,Tryz.underlying45]
 have hf2:(prog.fieldsOf 45).toList=[⟨ "E",43,0,false, "", "",0⟩,⟨ "At",3,1,false, "", "",8⟩]:=by simp [Program.fieldsOf,Tryz.underlying45]
 have hs:prog.stoodInHeld 45=false:=by kernel_rfl
 obtain ⟨d,hm⟩:=Lc
 have q9:∀ cs:Array Value,∀ off v,cs[off]? = some v->(part 43 cs off).run prog w = .ok v w:=fun cs off v h=>by
  simp [part,Tryz.isAgg43,h]
 have q3:∀ cs:Array Value,∀ off v,cs[off]? = some v->(part 3 cs off).run prog w = .ok v w:=fun cs off v h=>by
  simp [part,Tryz.isAgg3,h]
 unfold Op.equal;rw [hm,run_equalIn_struct w (d + 1 + 1) 45 _ _ hf hs,hf2];simp only [Op.eqFields,ne_eq,String.reduceEq,not_false_eq_true,if_true,Sem.run_bind,q9 #[.int .i64 p,.int .i64 q] 0 (.int .i64 p) rfl,q9 #[.int .i64 r,.int .i64 s] 0 (.int .i64 r) rfl,Result.andThen_ok,run_equalIn_int w (d + 1) 43 .i64 .i64 p r Tryz.underlying43];by_cases h:p=r
 ·subst h;have e1:=q3 #[.int .i64 p,.int .i64 q] 1 (.int .i64 q) rfl;have e2:=q3 #[.int .i64 p,.int .i64 s] 1 (.int .i64 s) rfl;have e3:=run_equalIn_int w (d + 1) 3 .i64 .i64 q s Tryz.underlying3;by_cases h2:q=s
  ·subst h2;simp [e1,e3,Sem.run_pure]
  ·simp [e1,e2,e3,h2,Sem.run_pure]
 ·simp [h,Sem.run_pure]
theorem VX (p q r s:Int) (w:World):(binOp .eql 45 (.agg #[.int .i64 p,.int .i64 q]) (.agg #[.int .i64 r,.int .i64 s])).run prog w = .ok (.bool (decide (p=r) && decide (q=s))) w:=by
 show ((do let r <- Op.equal 45 _ _;pure (Value.bool r)):Sem Value).run prog w=_;simp only [Sem.run_bind,Ox p q r s w,Result.andThen_ok,Sem.run_pure]
theorem Oy (op:BinOp) (w:World) (x y:Operand) (vs vs':Array Value):(eqGuard op 45 x y (.agg vs) (.agg vs')).run prog w = .ok () w:=by
 have h:prog.eqGuardType prog.depth 45=false:=by kernel_rfl
 cases op<;>simp [eqGuard,run_program,h]
theorem VY (x y:Operand) (f g:Ft):B9 prog .eql x y 45 [.v (.int .i64 f.1),.v (.int .i64 f.2)] [.v (.int .i64 g.1),.v (.int .i64 g.2)] (decide (f.1=g.1) && decide (f.2=g.2)):=
 ⟨[.int .i64 f.1,.int .i64 f.2],[.int .i64 g.1,.int .i64 g.2],rfl,rfl,fun w=>⟨Oy _ w x y _ _,VX f.1 f.2 g.1 g.2 w⟩⟩
def cB (r:List Bool):List DV:=r.map fun b=>DV.v (.bool b)
def qT (r:List Bool):List (List DV):=r.map fun b=>[DV.v (.bool b)]
def cS (m:List (List Bool)):List (List DV):=m.map fun r=>[DV.sl 1 (qT r) none]
theorem qA (r:List Bool):(cB r).length=r.length:=by simp [cB]
theorem wg (r:List Bool):(qT r).length=r.length:=by simp [qT]
theorem ym (m:List (List Bool)):(cS m).length=m.length:=by simp [cS]
theorem HZ {r:List Bool} {i:Nat} {b:Bool} (h:r[i]? = some b):(cB r)[i]? = some (DV.v (.bool b)):=by simp [cB,h]
theorem yo (r:List Bool) (i:Nat) (b:Bool):(cB r).set i (DV.v (.bool b))=cB (r.set i b):=by simp [cB,List.map_set]
theorem rU {r:List Bool} {i:Nat} {b:Bool} (h:r[i]? = some b):(qT r)[i]? = some [DV.v (.bool b)]:=by simp [qT,h]
theorem Oz {m:List (List Bool)} {i:Nat} {r:List Bool} (h:m[i]? = some r):(cS m)[i]? = some [DV.sl 1 (qT r) none]:=by simp [cS,h]
theorem rV (r:List Bool):(qT r).flatten=cB r:=by
 induction r with
 | nil=>rfl
 | cons b r ih=>simp only [qT,cB,List.map_cons,List.flatten_cons] at ih ⊢;rw [ih];all_goals rfl
theorem E9 (n:Nat):(List.replicate n (vL [Value.bool false])).flatten=cB (List.replicate n false):=by
 induction n with
 | zero=>rfl
 | succ n ih=>simp only [List.replicate_succ,List.flatten_cons,ih];rfl
theorem cF {n m:Nat} {tk:List TkE} {l:List DV} {r:List Bool} (h:l=cB r):WeL n m tk l (cB r):=by
 subst h;refine xP _ fun x hx=>?_;obtain ⟨z,_,rfl⟩:=List.mem_map.1 hx;exact ⟨_,rfl⟩
theorem TN {bx:List (List DV)} {N n0 m0 n:Nat} {r:List Bool} (hr:r.length=n) (hN:N<=0) (hb:bx[0]? = some (cB r)):Cc bx N n0 m0 (.sl 1 (qT r) none) (.ms 0 1 0 n n):=by
 simp only [Cc];refine Or.inr (Or.inr (Or.inl ⟨0,0,n,_,by rw [wg,hr],hN,hb,?_,?_,?_⟩))
 ·rw [rV,List.drop_zero,List.take_of_length_le (by rw [qA,wg];omega)]
 ·intro x hx;simp only [qT,List.mem_map] at hx;obtain ⟨_,_,rfl⟩:=hx;rfl
 ·intro x hx;rw [rV] at hx;obtain ⟨_,_,rfl⟩:=List.mem_map.1 hx;exact ⟨_,rfl⟩
def gH (n:Nat) (l:List (Nat × Nat)):List (List Bool):=(List.range n).map (vE n l)
theorem H0 (n:Nat) (l:List (Nat × Nat)):(gH n l).length=n:=by simp [gH]
theorem H2 {n a:Nat} (l:List (Nat × Nat)) (h:a < n):(gH n l)[a]? = some (vE n l a):=by simp [gH,List.getElem?_range h]
theorem Ld {n:Nat} {l:List (Nat × Nat)} (h:tz n l):gH n l=dD n (fA n l):=by
 unfold gH dD;exact List.map_congr_left fun a ha=>Q5 h (List.mem_range.1 ha)
def jZ (l:List (Nat × Nat)) (r:List Bool) (e:Nat):List Bool:=(l.take e).foldl iN r
theorem H3 (l:List (Nat × Nat)) (r:List Bool) (e:Nat):(jZ l r e).length=r.length:=qu (l.take e) r
theorem Fa {l:List (Nat × Nat)} {r:List Bool} {e:Nat} {p:Nat × Nat} (h:l[e]? = some p):jZ l r (e + 1)=iN (jZ l r e) p:=by
 unfold jZ;rw [List.take_add_one,h];simp
abbrev ldSt (n:Nat) (l:List (Nat × Nat)) (q e:Nat):St:=
 ⟨[(0,⟨[],.v (.int .i64 n)⟩),(1,⟨[],.sl 2 (mT l) none⟩),(5,⟨[],.sl 1 (cS ((gH n l).take e)) (some 0)⟩),(6,⟨[],.v (.int .i64 e)⟩)],[],[⟨q,140,1,none⟩]⟩
abbrev ZS (n:Nat) (l:List (Nat × Nat)) (q e:Nat) (r:List Bool) (k:Nat):St:=
 ⟨[(0,⟨[],.v (.int .i64 n)⟩),(1,⟨[],.sl 2 (mT l) none⟩),(5,⟨[],.sl 1 (cS ((gH n l).take e)) (some 0)⟩),(6,⟨[],.v (.int .i64 e)⟩),(7,⟨[],.ms 0 1 0 n n⟩),(8,⟨[],.v (.int .i64 k)⟩)],[cB r],[⟨q,140,1,none⟩]⟩
abbrev ZT (n:Nat) (l:List (Nat × Nat)) (q e:Nat) (r:List Bool) (k i:Nat):St:=
 ⟨[(0,⟨[],.v (.int .i64 n)⟩),(1,⟨[],.sl 2 (mT l) none⟩),(5,⟨[],.sl 1 (cS ((gH n l).take e)) (some 0)⟩),(6,⟨[],.v (.int .i64 e)⟩),(7,⟨[],.ms 0 1 0 n n⟩),(8,⟨[],.v (.int .i64 k)⟩),(9,⟨[],.v (.int .i64 i)⟩)],[cB r],[⟨q,140,1,none⟩]⟩
abbrev ZU (n:Nat) (l:List (Nat × Nat)) (q e:Nat) (r:List Bool):St:=
 ⟨[(0,⟨[],.v (.int .i64 n)⟩),(1,⟨[],.sl 2 (mT l) none⟩),(6,⟨[],.v (.int .i64 e)⟩),(46,⟨[],.sl 1 (cS ((gH n l).take e)) (some 0)⟩),(47,⟨[],.sl 1 (qT r) none⟩)],[],[⟨q,140,1,none⟩]⟩
theorem H4 (n:Nat) (hn:n<=64) (l:List (Nat × Nat)) (hP:tz n l) (hb:l.length<=1099511627776) :
  aV prog 133 [.v (.int .i64 n),.sl 2 (mT l) none] (.sl 1 (cS (gH n l)) none):=by
 have hNl:=iL l;have ZV:=H0 n l;refine eG 51 [.tmp 4] func133 rfl ntmps133 rfl fun _ _ _ _=>?_;refine lJ (fun e=>ldSt n l e e) n (fM ⟨0,140,1,none⟩ rfl ⟨_,rfl⟩ rfl wA rfl rfl lX) ?_;intro e he;refine br ?_ ?_<;>intro hL
 ·have au:e < n:=by have:=hL;simp at this;exact this
  have hr0l:((List.replicate n false).set e true).length=n:=by simp
  refine ⟨⟨rfl,by omega,by omega,by omega⟩,?_⟩;refine ⟨⟨by omega,by omega⟩,?_⟩;refine ⟨by rw [E9,qA,List.length_replicate];omega,?_⟩
  have iE:((List.replicate (n:Int).toNat (vL [Value.bool false])).flatten).set (0 + (e:Int).toNat * 1) (DV.v (.bool true))=cB (dt l ((List.replicate n false).set e true) 0):=by
   rw [E9,show 0 + (e:Int).toNat * 1=e by omega,show (n:Int).toNat=n by omega,yo];rfl
  refine lJ (fun k=>ZS n l e e (dt l ((List.replicate n false).set e true) k) k) n (aq 1 rfl (nF iE) rfl rfl rfl (dy iE)) ?_;intro k hk;have ez:=fX l ((List.replicate n false).set e true) k;have B8:=fk l ((List.replicate n false).set e true) k;refine br ?_ ?_<;>intro kP
  ·have jT:k < n:=by have:=kP;simp at this;exact this
   generalize dt l ((List.replicate n false).set e true) k=r at ez B8 ⊢;rw [hr0l] at ez;refine lJ (fun i=>ZT n l e e (jZ l r i) k i) l.length (aq 1 rfl pO rfl rfl rfl lX) ?_;intro i hi;have nQ:=H3 l r i;refine br ?_ ?_<;>intro hL3
   ·have ZW:i < l.length:=by have:=hL3;simp [hNl] at this;exact this
    obtain ⟨p,hp⟩:∃ p,l[i]? = some p:=⟨_,gE ZW⟩;obtain ⟨tj,Ee⟩:=hP p (mG hp);have hss:=Fa (r:=r) hp;obtain ⟨b,pN⟩:∃ b,(jZ l r i)[p.1]? = some b:=⟨_,gE (by omega)⟩;have L5:(jZ l r i).getD p.1 false=b:=by simp [aH,pN]
    rw [iN,L5] at hss;refine iX (xM hp) ?_;refine ⟨⟨by decide,by decide⟩,?_⟩;refine ⟨⟨by omega,by omega⟩,?_⟩;refine ⟨_,(show (cB (jZ l r i))[0 + (p.1:Int).toNat * 1]? = some (.v (.bool b)) by rw [show 0 + (p.1:Int).toNat * 1=p.1 by omega];exact HZ pN),?_⟩;refine br ?_ ?_<;>intro g
    ·have g:b=true:=g;rw [ai g] at hss;refine iX (xM hp) ?_;refine ⟨⟨by decide,by decide⟩,?_⟩;refine ⟨⟨by omega,by omega⟩,?_⟩;refine ⟨by rw [qA];omega,?_⟩
     have ll:(cB (jZ l r i)).set (0 + (p.2:Int).toNat * 1) (DV.v (.bool true))=cB (jZ l r (i + 1)):=by
      rw [show 0 + (p.2:Int).toNat * 1=p.2 by omega,yo,hss]
     exact rE ⟨_,by omega,i + 1,rfl,by omega,rfl⟩ (aq 1 rfl (gp ll (aK ZW (by omega))) rfl rfl rfl (wB2 ll (aK ZW (by omega))))
    ·have g:¬ b=true:=by rw [show b=false from g];decide
     rw [ah g] at hss;exact rE ⟨_,by omega,i + 1,rfl,by omega,rfl⟩ (aq 1 rfl (by repeat' (first | exact rfl | exact aA rfl | exact cF (by rw [hss]) | exact aE (aK ZW (by omega)) | refine ⟨_,_,rfl,?_,?_⟩)) rfl rfl rfl (by repeat' (first | exact trivial | exact aA rfl | exact cF (by rw [hss]) | exact aE (aK ZW (by omega)) | refine ⟨⟨_,rfl,?_⟩,?_⟩)))
   ·have aS:i=l.length:=sW hNl hL3;subst aS;have ZX:jZ l r l.length=dt l ((List.replicate n false).set e true) (k + 1):=by rw [B8,jZ,List.take_length];all_goals rfl
    exact rE ⟨_,by omega,k + 1,rfl,by omega,rfl⟩ (aq 1 rfl (by repeat' (first | exact rfl | exact aA rfl | exact cF (by rw [ZX]) | exact aE (aK jT (by omega)) | refine ⟨_,_,rfl,?_,?_⟩)) rfl rfl rfl (by repeat' (first | exact trivial | exact aA rfl | exact cF (by rw [ZX]) | exact aE (aK jT (by omega)) | refine ⟨⟨_,rfl,?_⟩,?_⟩)))
  ·have aS:k=n:=by have:=kP;simp at this;omega
   subst aS;have s7:dt l ((List.replicate k false).set e true) k=vE k l e:=rfl;rw [s7];have hrw:=rJ k l e;refine LZ.wk (.DL (st':=ZU k l e e (vE k l e)) 0 rfl rfl rfl rfl ?_) rfl rfl ?_
   ·refine ⟨⟨_,rfl,?_⟩,⟨_,rfl,?_⟩,⟨_,rfl,?_⟩,⟨_,rfl,?_⟩,⟨_,rfl,TN hrw (by omega) rfl⟩,trivial⟩
    ·simp only [Cc]
    ·simp only [Cc];exact Or.inr (Or.inl ⟨none,rfl⟩)
    ·simp only [Cc]
    ·simp only [Cc];exact ⟨Nat.zero_lt_one,trivial⟩
   ·have c9:(cS ((gH k l).take e)).length=e:=by rw [ym,zLenT,ZV];omega
    have du:cS ((gH k l).take e) ++ [[DV.sl 1 (qT (vE k l e)) none]]=cS ((gH k l).take (e + 1)):=by rw [List.take_add_one,H2 l au];simp [cS]
    refine ⟨c9,⟨by rw [c9];simp [maxLen];omega,by rw [c9];simp;omega⟩,?_⟩;exact rE ⟨_,by omega,e + 1,rfl,by omega,rfl⟩ (aj ⟨_,rfl⟩ wA rfl rfl rfl (wB2 (aK au (by omega)) du))
 ·have aS:e=n:=by have:=hL;simp at this;omega
  subst aS;have ht:(gH e l).take e=gH e l:=by rw [List.take_of_length_le (by rw [ZV];omega)]
  rw [ht];exact ⟨_,ax,rfl⟩
theorem cI {n m:Nat} {dO:List TkE} {x y:Bool} (h:x=y):We n m dO (.v (.bool x)) (.v (.bool y)):=.inl ⟨by rw [h],rfl⟩
theorem oD {l:List Wd} {j:Nat} {w:Wd} (h:l[j]? = some w):(aD l)[j]? = some w.s:=by simp [aD,h]
theorem JF {L:List ByteArray} {s:ByteArray} (h:∀ j,j < L.length->L[j]? ≠ some s):dz L s=none:=tB fun j hj=>by
 exact h j (gS hj).1 hj
abbrev TO (l:List Wd) (s:ByteArray) (e:Nat):St:=
 ⟨[(0,⟨[],.sl 2 (bQ l) none⟩),(1,⟨[],.v (.string s)⟩),(5,⟨[],.v (.int .i64 e)⟩)],[],[]⟩
theorem gf (l:List Wd) (s:ByteArray) (hs:wdsWt l<=1099511627776) :
  aV prog 170 [.sl 2 (bQ l) none,.v (.string s)] (.v (.int .i64 (oz (dz (aD l) s)))):=by
 have nQ:=bP l;have fo:=dZ l;refine eG 20 [.tmp 4] func170 rfl ntmps170 rfl fun _ _ _ _=>?_;refine lI (fun j st=>∃ e:Nat,st=TO l s e/\e<=l.length/\(∀ j,j < e->(aD l)[j]? ≠ some s)/\j=l.length - e) ⟨0,rfl,by omega,fun _ h=>by omega,rfl⟩ (aj ⟨_,rfl⟩ wA rfl rfl rfl wB) ?_;rintro j st ⟨e,rfl,he,fv,rfl⟩;refine br ?_ ?_<;>intro hL
 ·have au:e < l.length:=by simpa [aC] using hL
  obtain ⟨w,hw⟩:=gX au;refine ⟨kK w,⟨by omega,bg hw⟩,?_⟩;refine br ?_ ?_<;>intro hq
  ·have hq:w.s=s:=sU hq;rw [CN (p:=e) (by rw [oD hw,hq]) (fun j hj=>Nat.le_of_not_lt fun hl=>fv j hl hj)];exact (rfl:_=_)
  ·have hq:¬ w.s=s:=sU hq;refine ⟨TO l s (e + 1),(aj ⟨_,rfl⟩ wA rfl rfl rfl (dy (aK au (by omega)))),l.length - (e + 1),by omega,e + 1,rfl,by omega,fun j hj=>?_,rfl⟩;rcases eT hj with hj | rfl
   ·exact fv j hj
   ·rw [oD hw];simpa using hq
 ·have aS:e=l.length:=by have:=hL;simp [aC] at this;omega
  rw [JF (fun j hj=>fv j (by omega))];exact (rfl:_=_)
theorem gI {o:Option Nat}:decide (oz o < 0)=true↔o=none:=by
 cases o with
 | none=>simp [oz]
 | some k=>
  refine ⟨fun h=>?_,fun h=>by cases h⟩;have:=of_decide_eq_true h;simp only [oz] at this;omega
theorem Fb {L:List ByteArray}:∀ {o:List (Wd × Wd)},(numF L o).1=0->∀ x∈o,(∃ a,dz L x.1.s=some a)/\∃ b,dz L x.2.s=some b
 | [],_,x,hx=>by cases hx
 | p :: r,h,x,hx=>by
  rw [numF] at h;split at h
  ·exact absurd h (by simp)
  rename_i h1;split at h
  ·exact absurd h (by simp)
  rename_i h2;rcases bL hx with rfl | hx
  ·exact ⟨Option.ne_none_iff_exists'.1 h1,Option.ne_none_iff_exists'.1 h2⟩
  ·exact Fb h x hx
abbrev ZY (l:List Wd) (o:List (Wd × Wd)) (q e:Nat):St:=
 ⟨[(0,⟨[],.sl 2 (bQ l) none⟩),(1,⟨[],.sl 4 (nJ o) none⟩),(5,⟨[],.sl 2 (mT (dV (aD l) (o.take e))) (some 0)⟩),(6,⟨[],.v (.int .i64 e)⟩)],[],[⟨q,225,2,none⟩]⟩
theorem H5 (l:List Wd) (o:List (Wd × Wd)) (hs:wdsWt l<=1099511627776) (hs2:prsWt o<=1099511627776) (hF:(numF (aD l) o).1=0) :
  aV prog 134 [.sl 2 (bQ l) none,.sl 4 (nJ o) none] (.sl 2 (mT (dV (aD l) o)) none):=by
 have nQ:=jv o;refine eG 34 [.tmp 4] func134 rfl ntmps134 rfl fun _ _ _ _=>?_;refine lJ (fun e=>ZY l o e e) o.length (fM ⟨0,225,2,none⟩ rfl ⟨_,rfl⟩ rfl wA rfl rfl lX) ?_;intro e he;refine br ?_ ?_<;>intro hL
 ·have au:e < o.length:=by simpa [gM] using hL
  obtain ⟨w,hw⟩:=gX au;obtain ⟨⟨a,ha⟩,⟨b,hb⟩⟩:=Fb hF w (mG hw);have hf1:=gf l w.1.s hs;have hf2:=gf l w.2.s hs;rw [ha] at hf1;rw [hb] at hf2;refine dI ?_;refine ⟨Mb w,⟨by omega,iJ hw⟩,?_⟩;refine cD xq hf1 ?_;refine ⟨Mb w,⟨by omega,iJ hw⟩,?_⟩;refine cD xq hf2 ?_;refine ⟨by simp [iL,dV];omega,⟨by simp [iL,dV,maxLen];omega,by simp [iL,dV];omega⟩,?_⟩;exact rE ⟨_,by omega,e + 1,rfl,by omega,rfl⟩ (aj ⟨_,rfl⟩ wA rfl rfl rfl (wB2 (aK au (by omega)) (AS hw ha hb)))
 ·have aS:e=o.length:=by
   have:=hL;simp [gM] at this;omega
  have ht:o.take e=o:=by rw [aS,List.take_length]
  rw [ht];exact ⟨_,ax,rfl⟩
theorem Fc (l:List Wd) (o:List (Wd × Wd)) (hl:l.length<=32) (hs:wdsWt l<=1099511627776) (hs2:prsWt o<=1099511627776) (hF:(numF (aD l) o).1=0) :
  aV prog 67 [.sl 2 (bQ l) none,.sl 4 (nJ o) none] (.sl 1 (cS (dD l.length (fA l.length (dV (aD l) o)))) none):=by
 have nQ:=jv o;have hP:tz l.length (dV (aD l) o):=by have:=pf hF;rwa [dZ] at this
 have hN:=aC l;have Rj:=H4 l.length (by omega) (dV (aD l) o) hP (by simp [dV];omega);rw [Ld hP] at Rj;refine eG 11 [.tmp 4] func67 rfl ntmps67 rfl fun _ _ _ _=>?_;refine cP Yv (H5 l o hs hs2 hF) ?_;rw [hN];refine cP Yu Rj ?_;exact ⟨_,ax,rfl⟩
theorem Fe (n:Nat) (f:Nat->Nat->Bool):(dD n f).length=n:=by simp [dD]
theorem jB (n:Nat) (f:Nat->Nat->Bool):(cS (dD n f)).length=n:=by rw [ym,Fe]
theorem gg {n:Nat} {f:Nat->Nat->Bool} {a:Nat} (ha:a < n):(cS (dD n f))[a]? = some [DV.sl 1 (qT ((List.range n).map (f a))) none]:=Oz (EL ha)
theorem eQ {n:Nat} {f:Nat->Nat->Bool} {a b:Nat} (hb:b < n):(qT ((List.range n).map (f a)))[b]? = some [DV.v (.bool (f a b))]:=rU (by simp [List.getElem?_range hb])
abbrev TP (n:Nat) (f:Nat->Nat->Bool) (e:Nat):St:=
 ⟨[(0,⟨[],.sl 1 (cS (dD n f)) none⟩),(3,⟨[],.v (.int .i64 e)⟩)],[],[]⟩
abbrev VZ (n:Nat) (f:Nat->Nat->Bool) (e k:Nat):St:=
 ⟨[(0,⟨[],.sl 1 (cS (dD n f)) none⟩),(3,⟨[],.v (.int .i64 e)⟩),(4,⟨[],.v (.int .i64 k)⟩)],[],[]⟩
theorem Ff (n:Nat) (f:Nat->Nat->Bool) (hn:n<=64) :
  aV prog 171 [.sl 1 (cS (dD n f)) none] (.v (.int .i64 (oz (bS (lu n f) n)))):=by
 have c9:=jB n f;refine eG 39 [.tmp 2] func171 rfl ntmps171 rfl fun _ _ _ _=>?_;refine lI (fun j st=>∃ e:Nat,st=TP n f e/\e<=n/\(∀ a,a < e->lu n f a=false)/\j=n - e) ⟨0,rfl,by omega,fun _ h=>by omega,rfl⟩ (aj ⟨_,rfl⟩ wA rfl rfl rfl wB) ?_;rintro j st ⟨e,rfl,he,fv,rfl⟩;refine br ?_ ?_<;>intro hL
 ·have au:e < n:=sV c9 hL;refine lI (fun j st=>∃ k:Nat,st=VZ n f e k/\k<=n/\(∀ b,b < k->(decide (e≠b) && (f e b && f b e))=false)/\j=n - k) ⟨0,rfl,by omega,fun _ h=>by omega,rfl⟩ (aj ⟨_,rfl⟩ wA rfl rfl rfl wB) ?_;rintro j st ⟨k,rfl,hk,OA,rfl⟩;refine br ?_ ?_<;>intro kP
  ·have jT:k < n:=sV c9 kP
   have rC:(decide (e≠k) && (f e k && f k e))=false->∀ b,b < k + 1->(decide (e≠b) && (f e b && f b e))=false:=fun h b hb=>by
    rcases eT hb with hb | rfl
    ·exact OA b hb
    ·exact h
   refine br ?_ ?_<;>intro g1
   ·have g1:e≠k:=by have:=g1;simp at this;omega
    refine iX (gg au) ?_;refine iX (eQ jT) ?_;refine br ?_ ?_<;>intro g2
    ·have g2:f e k=true:=by simpa [pickB] using g2
     refine iX (gg jT) ?_;refine iX (eQ au) ?_;refine br ?_ ?_<;>intro g3
     ·have g3:f k e=true:=by simpa [pickB] using g3
      have hp:lu n f e=true:=List.any_eq_true.2 ⟨k,List.mem_range.2 jT,by simp [g1,g2,g3]⟩;rw [bI au hp fv];exact (rfl:_=_)
     ·have g3:f k e=false:=by simpa [pickB] using g3
      exact rE ⟨_,by omega,k + 1,rfl,by omega,rC (by simp [g3]),rfl⟩ (aj ⟨_,rfl⟩ wA rfl rfl rfl (dy (aK jT (by omega))))
    ·have g2:f e k=false:=by simpa [pickB] using g2
     exact rE ⟨_,by omega,k + 1,rfl,by omega,rC (by simp [g2]),rfl⟩ (aj ⟨_,rfl⟩ wA rfl rfl rfl (dy (aK jT (by omega))))
   ·have g1:e=k:=by have:=g1;simp at this;omega
    exact rE ⟨_,by omega,k + 1,rfl,by omega,rC (by simp [g1]),rfl⟩ (aj ⟨_,rfl⟩ wA rfl rfl rfl (dy (aK jT (by omega))))
  ·have aS:k=n:=sW c9 kP;refine ⟨TP n f (e + 1),(aj ⟨_,rfl⟩ wA rfl rfl rfl (dy (aK au (by omega)))),n - (e + 1),by omega,e + 1,rfl,by omega,fun j hj=>?_,rfl⟩;rcases eT hj with hj | rfl
   ·exact fv j hj
   ·unfold lu;rw [List.any_eq_false];intro b hb;rw [OA b (by have:=List.mem_range.1 hb;omega)];decide
 ·have aS:e=n:=sW c9 hL;subst aS;rw [bU fv];exact (rfl:_=_)
abbrev tuSt (n:Nat) (f:Nat->Nat->Bool) (q e:Nat):St:=
 ⟨[(0,⟨[],.sl 1 (cS (dD n f)) none⟩),(3,⟨[],.sl 1 (cS ((dD n fun a b=>f b a).take e)) (some 0)⟩),(4,⟨[],.v (.int .i64 e)⟩)],[],[⟨q,140,1,none⟩]⟩
abbrev ZZ (n:Nat) (f:Nat->Nat->Bool) (q e:Nat) (r:List Bool) (k:Nat):St:=
 ⟨[(0,⟨[],.sl 1 (cS (dD n f)) none⟩),(3,⟨[],.sl 1 (cS ((dD n fun a b=>f b a).take e)) (some 0)⟩),(4,⟨[],.v (.int .i64 e)⟩),(5,⟨[],.ms 0 1 0 n n⟩),(6,⟨[],.v (.int .i64 k)⟩)],[cB r],[⟨q,140,1,none⟩]⟩
abbrev Z0 (n:Nat) (f:Nat->Nat->Bool) (q e:Nat) (r:List Bool):St:=
 ⟨[(0,⟨[],.sl 1 (cS (dD n f)) none⟩),(4,⟨[],.v (.int .i64 e)⟩),(32,⟨[],.sl 1 (cS ((dD n fun a b=>f b a).take e)) (some 0)⟩),(33,⟨[],.sl 1 (qT r) none⟩)],[],[⟨q,140,1,none⟩]⟩
def lz (n:Nat) (f:Nat->Nat->Bool) (e k:Nat):List Bool:=(List.range n).map fun b=>if b < k then f b e else false
theorem tQ (n:Nat) (f:Nat->Nat->Bool) (e k:Nat):(lz n f e k).length=n:=by simp [lz]
theorem H6 (n:Nat) (f:Nat->Nat->Bool) (e:Nat):lz n f e 0=List.replicate n false:=by
 refine List.ext_getElem? fun i=>?_;by_cases h:i < n
 ·simp [lz,List.getElem?_range h,List.getElem?_replicate,h]
 ·rw [cQ (by rw [tQ];omega),cQ (by simp;omega)]
theorem H7 (n:Nat) (f:Nat->Nat->Bool) (e k:Nat):(lz n f e k).set k (f k e)=lz n f e (k + 1):=by
 refine List.ext_getElem? fun i=>?_;by_cases h:i < n
 ·rw [List.getElem?_set];simp only [lz,List.getElem?_map,List.getElem?_range h,Option.map_some,List.length_map,List.length_range];by_cases hk:k=i
  ·subst hk;simp [h]
  ·rw [ah hk];by_cases hi:i < k
   ·rw [ai hi,ai (by omega)]
   ·rw [ah hi,ah (by omega)]
 ·rw [cQ (by simp [lz];omega),cQ (by rw [tQ];omega)]
theorem H8 (n:Nat) (f:Nat->Nat->Bool) (e:Nat):lz n f e n=(List.range n).map (fun b=>f b e):=by
 unfold lz;exact List.map_congr_left fun b hb=>by rw [ai (List.mem_range.1 hb)]
theorem Le (n:Nat) (f:Nat->Nat->Bool) (hn:n<=64) :
  aV prog 172 [.sl 1 (cS (dD n f)) none] (.sl 1 (cS (dD n fun a b=>f b a)) none):=by
 have c9:=jB n f;have ZV:=Fe n fun a b=>f b a;refine eG 37 [.tmp 2] func172 rfl ntmps172 rfl fun _ _ _ _=>?_;refine lJ (fun e=>tuSt n f e e) n (fM ⟨0,140,1,none⟩ rfl ⟨_,rfl⟩ rfl wA rfl rfl lX) ?_;intro e he;refine br ?_ ?_<;>intro hL
 ·have au:e < n:=sV c9 hL;refine ⟨⟨rfl,by omega,by rw [c9];omega,by rw [c9];omega⟩,?_⟩;rw [c9]
  have iE:(List.replicate (n:Int).toNat (vL [Value.bool false])).flatten=cB (lz n f e 0):=by
   rw [E9,H6,show (n:Int).toNat=n by omega]
  refine lJ (fun k=>ZZ n f e e (lz n f e k) k) n (aq 1 rfl (nF iE) rfl rfl rfl (dy iE)) ?_;intro k hk;refine br ?_ ?_<;>intro kP
  ·have jT:k < n:=sV c9 kP;refine iX (gg jT) ?_;refine iX (eQ au) ?_;refine ⟨⟨by omega,by omega⟩,?_⟩;refine ⟨by rw [qA,tQ];omega,?_⟩
   have ll:(cB (lz n f e k)).set (0 + (k:Int).toNat * 1) (DV.v (.bool (f (k:Int).toNat (e:Int).toNat)))=cB (lz n f e (k + 1)):=by
    rw [show 0 + (k:Int).toNat * 1=k by omega,yo,dq,dq,H7]
   exact rE ⟨_,by omega,k + 1,rfl,by omega,rfl⟩ (aq 1 rfl (gp ll (aK jT (by omega))) rfl rfl rfl (wB2 ll (aK jT (by omega))))
  ·have aS:k=n:=sW c9 kP;subst aS;rw [H8];refine LZ.wk (.DL (st':=Z0 k f e e ((List.range k).map fun b=>f b e)) 0 rfl rfl rfl rfl ?_) rfl rfl ?_
   ·refine ⟨⟨_,rfl,?_⟩,⟨_,rfl,?_⟩,⟨_,rfl,?_⟩,⟨_,rfl,TN (by simp) (by omega) rfl⟩,trivial⟩
    ·simp only [Cc];exact Or.inr (Or.inl ⟨none,rfl⟩)
    ·simp only [Cc]
    ·simp only [Cc];exact ⟨Nat.zero_lt_one,trivial⟩
   ·have hmr:(cS ((dD k fun a b=>f b a).take e)).length=e:=by rw [ym,zLenT,ZV];omega
    have du:cS ((dD k fun a b=>f b a).take e) ++ [[DV.sl 1 (qT ((List.range k).map fun b=>f b e)) none]]=cS ((dD k fun a b=>f b a).take (e + 1)):=by rw [List.take_add_one,EL au];simp [cS]
    refine ⟨hmr,⟨by rw [hmr];simp [maxLen];omega,by rw [hmr];simp;omega⟩,?_⟩;exact rE ⟨_,by omega,e + 1,rfl,by omega,rfl⟩ (aj ⟨_,rfl⟩ wA rfl rfl rfl (wB2 (aK au (by omega)) du))
 ·have aS:e=n:=sW c9 hL;subst aS;rw [List.take_of_length_le (by rw [ZV];omega)];exact ⟨_,ax,rfl⟩
def TQ (f:Nat->Nat->Bool) (n a b c:Nat):Bool:=(f a c && f b c) && (List.range n).all fun d=>!(f a d && f b d) || f c d
def kS (f:Nat->Nat->Bool) (n a b:Nat):Option Nat:=bS (TQ f n a b) n
def nN (f:Nat->Nat->Bool) (a b c k:Nat):Bool:=(f a c && f b c) && (List.range k).all fun d=>!(f a d && f b d) || f c d
theorem Lf (f:Nat->Nat->Bool) (a b c k:Nat):nN f a b c (k + 1)=(nN f a b c k && (!(f a k && f b k) || f c k)):=by
 simp only [nN,List.range_succ,List.all_append,List.all_cons,List.all_nil,Bool.and_true,Bool.and_assoc]
theorem Ba (f:Nat->Nat->Bool) (a b c:Nat):nN f a b c 0=(f a c && f b c):=by simp [nN]
abbrev Z1 (n:Nat) (f:Nat->Nat->Bool) (a b e:Nat):St:=
 ⟨[(0,⟨[],.sl 1 (cS (dD n f)) none⟩),(1,⟨[],.v (.int .i64 a)⟩),(2,⟨[],.v (.int .i64 b)⟩),(7,⟨[],.v (.int .i64 e)⟩)],[],[]⟩
abbrev JG (n:Nat) (f:Nat->Nat->Bool) (a b e:Nat) (x:Bool) (k:Nat):St:=
 ⟨[(0,⟨[],.sl 1 (cS (dD n f)) none⟩),(1,⟨[],.v (.int .i64 a)⟩),(2,⟨[],.v (.int .i64 b)⟩),(7,⟨[],.v (.int .i64 e)⟩),(8,⟨[],.v (.bool x)⟩),(9,⟨[],.v (.int .i64 k)⟩)],[],[]⟩
theorem oE (n:Nat) (f:Nat->Nat->Bool) (hn:n<=64) (a b:Nat) (ha:a < n) (hb:b < n) :
  aV prog 146 [.sl 1 (cS (dD n f)) none,.v (.int .i64 a),.v (.int .i64 b)] (.v (.int .i64 (oz (kS f n a b)))):=by
 have c9:=jB n f;refine eG 66 [.tmp 6] func146 rfl ntmps146 rfl fun _ _ _ _=>?_;refine lI (fun j st=>∃ e:Nat,st=Z1 n f a b e/\e<=n/\(∀ c,c < e->TQ f n a b c=false)/\j=n - e) ⟨0,rfl,by omega,fun _ h=>by omega,rfl⟩ (aj ⟨_,rfl⟩ wA rfl rfl rfl wB) ?_;rintro j st ⟨e,rfl,he,fv,rfl⟩;refine br ?_ ?_<;>intro hL
 ·have au:e < n:=sV c9 hL;refine iX (gg ha) ?_;refine iX (eQ au) ?_;have e1:(f a e == true)=true->f b e=nN f a b e 0:=fun g=>by rw [Ba,show f a e=true by simpa using g];simp
  have e2:(f a e == true)=false->false=nN f a b e 0:=fun g=>by rw [Ba,show f a e=false by simpa using g];simp
  refine have body:=?_;br (fun g1=>⟨_,⟨by omega,gg hb⟩,⟨_,⟨by omega,eQ au⟩,bA (fun j st=>∃ k:Nat,st=JG n f a b e (nN f a b e k) k/\k<=n/\j=n - k) n (JG n f a b e (nN f a b e 0) 0) (aj ⟨_,rfl⟩ wA rfl rfl rfl (by repeat' (first | exact trivial | exact aA rfl | exact (show We _ _ _ (DV.v (.bool (f b e))) _ from cI (e1 g1)) | refine ⟨⟨_,rfl,?_⟩,?_⟩))) ⟨0,rfl,by omega,by omega⟩ body⟩⟩) (fun g1=>bA (fun j st=>∃ k:Nat,st=JG n f a b e (nN f a b e k) k/\k<=n/\j=n - k) n (JG n f a b e (nN f a b e 0) 0) (aj ⟨_,rfl⟩ wA rfl rfl rfl (by repeat' (first | exact trivial | exact aA rfl | exact (show We _ _ _ (DV.v (.bool false)) _ from cI (e2 g1)) | refine ⟨⟨_,rfl,?_⟩,?_⟩))) ⟨0,rfl,by omega,by omega⟩ body);rintro j st ⟨k,rfl,hk,rfl⟩;refine br ?_ ?_<;>intro kP
  ·have jT:k < n:=sV c9 kP;have Lg:=Lf f a b e k;refine iX (gg ha) ?_;refine iX (eQ jT) ?_;refine br ?_ ?_<;>intro g1
   ·refine iX (gg hb) ?_;refine iX (eQ jT) ?_;refine br ?_ ?_<;>intro g2
    ·refine iX (gg au) ?_;refine iX (eQ jT) ?_;refine br ?_ ?_<;>intro g3
     ·have hx:false=nN f a b e (k + 1):=by simp [pickB] at g1 g2 g3;rw [Lg];simp [g1,g2,g3]
      exact rE ⟨_,by omega,k + 1,rfl,by omega,rfl⟩ (aj ⟨_,rfl⟩ wA rfl rfl rfl (wB2 (aK jT (by omega)) hx))
     ·have hx:nN f a b e k=nN f a b e (k + 1):=by simp [pickB] at g1 g2 g3;rw [Lg];simp [g1,g2,g3]
      exact rE ⟨_,by omega,k + 1,rfl,by omega,rfl⟩ (aj ⟨_,rfl⟩ wA rfl rfl rfl (wB2 (aK jT (by omega)) hx))
    ·have hx:nN f a b e k=nN f a b e (k + 1):=by simp [pickB] at g1 g2;rw [Lg];simp [g1,g2]
     exact rE ⟨_,by omega,k + 1,rfl,by omega,rfl⟩ (aj ⟨_,rfl⟩ wA rfl rfl rfl (wB2 (aK jT (by omega)) hx))
   ·have hx:nN f a b e k=nN f a b e (k + 1):=by simp [pickB] at g1;rw [Lg];simp [g1]
    exact rE ⟨_,by omega,k + 1,rfl,by omega,rfl⟩ (aj ⟨_,rfl⟩ wA rfl rfl rfl (wB2 (aK jT (by omega)) hx))
  ·have aS:k=n:=sW c9 kP;subst aS;refine br ?_ ?_<;>intro g
   ·have g:TQ f k a b e=true:=g;rw [kS,bI au g fv];exact (rfl:_=_)
   ·have g:TQ f k a b e=false:=g;refine ⟨Z1 k f a b (e + 1),(aj ⟨_,rfl⟩ wA rfl rfl rfl (dy (aK au (by omega)))),k - (e + 1),by omega,e + 1,rfl,by omega,fun j hj=>?_,rfl⟩;rcases eT hj with hj | rfl
    ·exact fv j hj
    ·exact g
 ·have aS:e=n:=sW c9 hL;subst aS;rw [kS,bU fv];exact (rfl:_=_)
theorem OB {l:List Wd} {i:Nat} {w:Wd} (hw:l[i]? = some w):∃ p,dz (aD l) w.s=some p/\(p < i↔bX (l.take i) w.s=true):=by
 cases h:dz (aD l) w.s with
 | none=>exact absurd (mG (oD hw)) (zT.1 h)
 | some p=>
  refine ⟨p,rfl,?_⟩;obtain ⟨h1,h2,h3⟩:=dH h;rw [dZ] at h1
  have Q3:∃ v,l[p]? = some v/\v.s=w.s:=by
   refine ⟨l[p],gE h1,?_⟩;rw [oD (gE h1)] at h2;exact Option.some.inj h2
  obtain ⟨v,hv,wQ⟩:=Q3;unfold bX;rw [List.any_eq_true];refine ⟨fun au=>⟨v,mG (i:=p) (by rw [ch,ai au];exact hv),by simp [wQ]⟩,fun ⟨x,hx,qQ⟩=>?_⟩;obtain ⟨j,hj⟩:=List.getElem?_of_mem hx;rw [ch] at hj;split at hj
  ·rename_i GR;have qQ:x.s=w.s:=sU qQ;have:=h3 j (by rw [oD hj,qQ]);omega
  ·cases hj
theorem CY {f:Nat->Nat->Bool} {n a b c:Nat}:TQ f n a b c=true↔f a c=true/\f b c=true/\∀ d,d < n->f a d=true->f b d=true->f c d=true:=by
 unfold TQ;simp only [aQ,List.all_eq_true,List.mem_range,Bool.or_eq_true,Bool.not_eq_true',Bool.and_eq_false_iff,and_assoc];refine and_congr_right fun _=>and_congr_right fun _=>forall_congr' fun d=>imp_congr_right fun _=>?_;cases f a d<;>cases f b d<;>cases f c d<;>simp
structure Qg (f:Nat->Nat->Bool) (n:Nat):Prop where
 rfl':∀ a,a < n->f a a=true
 HH:∀ a b,a < n->b < n->f a b=true->f b a=true->a=b
theorem Qg.flip {f:Nat->Nat->Bool} {n:Nat} (h:Qg f n):Qg (fun x y=>f y x) n:=⟨h.rfl',fun a b ha hb h1 h2=>h.HH a b ha hb h2 h1⟩
theorem Fg {f:Nat->Nat->Bool} {n a b c:Nat} (h:Qg f n) (hc:c < n) (hj:TQ f n a b c=true):fD f n a b=some c:=by
 obtain ⟨h1,h2,h3⟩:=CY.1 hj
 have key:∀ e,e<=n->c < e->bestA (fun c=>f a c && f b c) f e=some c:=by
  intro e
  induction e with
  | zero=>intro _ h;omega
  | succ e ih=>
   intro he hce;rw [bestA];by_cases hec:e=c
   ·subst hec;rw [ai];simp only [h1,h2,Bool.and_true,Bool.true_and]
    cases ho:bestA (fun c=>f a c && f b c) f e with
    | none=>rfl
    | some o=>
     have hp:=tI ho;have hl:=oq ho;simp only [aQ] at hp;exact h3 o (by omega) hp.1 hp.2
   ·rw [ih (by omega) (by omega),ah];simp only [aQ,EP,not_and];intro hp hec2;exact hec (h.HH e c (by omega) hc hec2 (h3 e (by omega) hp.1 hp.2))
 unfold fD oo;rw [key n (aU _) hc];simp only;rw [ah];simp only [List.any_eq_true,List.mem_range,aQ,Bool.not_eq_true',not_exists,not_and,Bool.not_eq_false];exact fun d hd hp=>h3 d hd hp.1 hp.2
theorem nf {f:Nat->Nat->Bool} {n a b:Nat} (h:Qg f n):(fD f n a b).isNone=(kS f n a b).isNone:=by
 cases hj:kS f n a b with
 | some c=>
  obtain ⟨hc,hi,_⟩:=cL hj;rw [Fg h hc hi]
 | none=>
  cases hk:fD f n a b with
  | none=>rfl
  | some k=>
   obtain ⟨h1,h2,h3,h4⟩:=qw hk;have:=cu hj k h1;rw [CY.2 ⟨h2,h3,h4⟩] at this;cases this
def pV (f:Nat->Nat->Bool) (n a b:Nat):Bool:=(kS f n a b).isNone || (kS (fun x y=>f y x) n a b).isNone
theorem JH {f:Nat->Nat->Bool} {n a b:Nat} (h:Qg f n):l7 f n a b=pV f n a b:=by
 unfold l7 pV;rw [nf h,show jQ f n a b=fD (fun x y=>f y x) n a b from rfl,nf h.flip]
theorem yp {f:Nat->Nat->Bool} {n b:Nat} (h:Qg f n) (hb:b < n):(kS f n b b).isNone=false:=by
 have hi:TQ f n b b b=true:=CY.2 ⟨h.rfl' b hb,h.rfl' b hb,fun d _ h1 _=>h1⟩
 cases hj:kS f n b b with
 | some c=>rfl
 | none=>rw [cu hj b hb] at hi;cases hi
theorem RE {f:Nat->Nat->Bool} {n b:Nat} (h:Qg f n) (hb:b < n):ou f n b=(List.range b).any fun a=>pV f n a b:=by
 unfold ou;rw [List.range_succ,List.any_append];simp only [List.any_cons,List.any_nil,Bool.or_false];rw [JH h,show pV f n b b=false by unfold pV;rw [yp h hb,yp h.flip hb];rfl,Bool.or_false];exact congrArg (fun g=>List.any (List.range b) g) (funext fun a=>JH h)
theorem V0 {n:Nat} {l:List (Nat × Nat)} (hP:tz n l) (h4:bS (lu n (fA n l)) n=none):Qg (fA n l) n where
 rfl':=fun a ha=>tA hP ha
 HH:=fun a b ha hb h6 h7=>by
  have:=cu h4 a ha;unfold lu at this;rw [List.any_eq_false] at this;have:=this b (sU hb);simp only [aQ,decide_eq_true_eq,not_and] at this;rcases Nat.lt_trichotomy a b with h8 | h8 | h8
  ·exact (this (by omega) h6 h7).elim
  ·exact h8
  ·exact (this (by omega) h6 h7).elim
abbrev Z2 (l:List Wd) (o:List (Wd × Wd)) (e:Nat):St:=
 ⟨[(0,⟨[],.sl 2 (bQ l) none⟩),(1,⟨[],.sl 4 (nJ o) none⟩),(4,⟨[],.loc 0 0⟩),(5,⟨[],.v (.int .i64 e)⟩)],[[.v (.int .i64 0),.v (.int .i64 0)]],[]⟩
abbrev Z3 (l:List Wd) (o:List (Wd × Wd)) (e:Nat):St:=
 ⟨[(0,⟨[],.sl 2 (bQ l) none⟩),(1,⟨[],.sl 4 (nJ o) none⟩),(4,⟨[],.loc 0 0⟩),(6,⟨[],.v (.int .i64 e)⟩)],[[.v (.int .i64 0),.v (.int .i64 0)]],[]⟩
abbrev TR (l:List Wd) (n:Nat) (f:Nat->Nat->Bool) (e:Nat):St:=
 ⟨[(0,⟨[],.sl 2 (bQ l) none⟩),(4,⟨[],.loc 0 0⟩),(7,⟨[],.sl 1 (cS (dD n f)) none⟩),(9,⟨[],.sl 1 (cS (dD n fun a b=>f b a)) none⟩),(10,⟨[],.v (.int .i64 e)⟩)],[[.v (.int .i64 0),.v (.int .i64 0)]],[]⟩
abbrev TS (l:List Wd) (n:Nat) (f:Nat->Nat->Bool) (e k:Nat):St:=
 ⟨[(0,⟨[],.sl 2 (bQ l) none⟩),(4,⟨[],.loc 0 0⟩),(7,⟨[],.sl 1 (cS (dD n f)) none⟩),(9,⟨[],.sl 1 (cS (dD n fun a b=>f b a)) none⟩),(10,⟨[],.v (.int .i64 e)⟩),(11,⟨[],.v (.int .i64 k)⟩)],[[.v (.int .i64 0),.v (.int .i64 0)]],[]⟩
theorem CZ (l:List Wd) (o:List (Wd × Wd)) (hs:wdsWt l<=1099511627776) (hs2:prsWt o<=1099511627776) :
  aV prog 115 [.sl 2 (bQ l) none,.sl 4 (nJ o) none] (latF l o).d:=by
 have nQ:=bP l;have hsl2:=jv o;have hF:latF l o=latF l o:=rfl
 conv at hF=>rhs;unfold latF
 refine eG 150 [.cell 4 45] func115 rfl ntmps115 rfl fun _ _ _ _=>?_;generalize latF l o=F at hF ⊢;refine br ?_ ?_<;>intro h
 ·have h:l=[]:=by simpa [aC] using h
  rw [show gN l o=(15,0) by rw [gN,ai h],ai (by decide)] at hF;refine ⟨_,?_,rfl⟩;rw [hF];exact ax
 have h:¬ l=[]:=by simpa [aC] using h
 refine br ?_ ?_<;>intro h1
 ·have h1:32 < l.length:=by simp [aC] at h1;omega
  obtain ⟨x,hx⟩:∃ x,l[32]? = some x:=⟨_,gE h1⟩;rw [show gN l o=(8,x.a) by rw [gN,ah h,ai h1,hx];rfl,ai (by simp)] at hF;refine ⟨kK x,⟨by omega,bg hx⟩,?_⟩;refine ⟨_,?_,rfl⟩;rw [hF];exact ax
 have h1:¬ 32 < l.length:=by simp [aC] at h1;omega
 refine br ?_ ?_<;>intro h2
 ·have h2:256 < o.length:=by simp [gM] at h2;omega
  obtain ⟨x,hx⟩:∃ x,o[256]? = some x:=⟨_,gE h2⟩;rw [show gN l o=(8,x.1.a) by rw [gN,ah h,ah h1,ai h2,hx];rfl,ai (by simp)] at hF;refine ⟨Mb x,⟨by omega,iJ hx⟩,?_⟩;refine ⟨_,?_,rfl⟩;rw [hF];exact ax
 have h2:¬ 256 < o.length:=by simp [gM] at h2;omega
 rw [show gN l o=(0,0) by rw [gN,ah h,ah h1,ah h2],ah (by decide)] at hF;have h0:enumL l 0 l=enumL l 0 (l.drop 0):=rfl;refine lI (fun j st=>∃ e:Nat,st=Z2 l o e/\e<=l.length/\enumL l 0 l=enumL l e (l.drop e)/\j=l.length - e) ⟨0,rfl,by omega,rfl,rfl⟩ (aj ⟨_,rfl⟩ wA rfl rfl rfl wB) ?_;rintro j st ⟨e,rfl,he,aP,rfl⟩;refine br ?_ ?_<;>intro hL
 ·have au:e < l.length:=by simpa [aC] using hL
  obtain ⟨w,hw⟩:=gX au;have Tp:=jo (mG hw);have bd:enumL l e (l.drop e)=if aN l e w≠0 then (aN l e w,w.a) else enumL l (e + 1) (l.drop (e + 1)):=by rw [drop_cons hw,enumL]
  obtain ⟨p,hp,IZ⟩:=OB hw;have hf:=gf l w.s hs;rw [hp] at hf;refine ⟨kK w,⟨by omega,bg hw⟩,?_⟩;refine cP Ej (jL w.s (by omega)) ?_;refine br ?_ ?_<;>intro hN
  ·have hN:bq w.s=false:=sU hN;have hf:aN l e w=9:=by simp [aN,hN]
   rw [aP,bd,hf,ai (show (9:Int)≠0 by decide),ai (by simp)] at hF;refine ⟨kK w,⟨by omega,bg hw⟩,?_⟩;refine ⟨_,?_,rfl⟩;rw [hF];exact ax
  ·have hN:bq w.s=true:=sU hN;refine ⟨kK w,⟨by omega,bg hw⟩,?_⟩;refine cP xq hf ?_;refine br ?_ ?_<;>intro h2
   ·have h2:p < e:=by have:=h2;simp [oz] at this;exact this
    have hf:aN l e w=10:=by simp [aN,hN,IZ.1 h2]
    rw [aP,bd,hf,ai (show (10:Int)≠0 by decide),ai (by simp)] at hF;refine ⟨kK w,⟨by omega,bg hw⟩,?_⟩;refine ⟨_,?_,rfl⟩;rw [hF];exact ax
   ·have h2:¬ p < e:=by have:=h2;simp [oz] at this;omega
    have hd:bX (l.take e) w.s=false:=by
     cases hd:bX (l.take e) w.s
     ·rfl
     ·exact absurd (IZ.2 hd) h2
    have hf:aN l e w=0:=by simp [aN,hN,hd]
    rw [hf,ah (by simp)] at bd;exact rE ⟨_,by omega,e + 1,rfl,by omega,by rw [aP,bd],rfl⟩ (aj ⟨_,rfl⟩ wA rfl rfl rfl (dy (aK au (by omega))))
 have aS:e=l.length:=by have:=hL;simp [aC] at this;omega
 rw [aP,aS,List.drop_length,show enumL l l.length []=(0,0) from rfl,ah (by decide)] at hF;refine lI (fun j st=>∃ e:Nat,st=Z3 l o e/\e<=o.length/\numF (aD l) o=numF (aD l) (o.drop e)/\j=o.length - e) ⟨0,rfl,by omega,rfl,rfl⟩ (aj ⟨_,rfl⟩ wA rfl rfl rfl wB) ?_;clear aP hL aS he e;rintro j st ⟨e,rfl,he,aP,rfl⟩;refine br ?_ ?_<;>intro hL
 ·have au:e < o.length:=by simpa [gM] using hL
  obtain ⟨w,hw⟩:=gX au;have bd:numF (aD l) (o.drop e)=if dz (aD l) w.1.s=none then (17,w.1.a) else if dz (aD l) w.2.s=none then (17,w.2.a) else numF (aD l) (o.drop (e + 1)):=by rw [drop_cons hw,numF]
  refine ⟨Mb w,⟨by omega,iJ hw⟩,?_⟩;refine cP xq (gf l w.1.s hs) ?_;refine br ?_ ?_<;>intro ha
  ·have ha:=gI.1 ha;rw [aP,bd,ai ha,ai (by simp)] at hF;refine ⟨Mb w,⟨by omega,iJ hw⟩,?_⟩;refine ⟨_,?_,rfl⟩;rw [hF];exact ax
  have ha:¬ dz (aD l) w.1.s=none:=fun hn=>by have:=gI.2 hn;rw [ha] at this;cases this
  refine ⟨Mb w,⟨by omega,iJ hw⟩,?_⟩;refine cP xq (gf l w.2.s hs) ?_;refine br ?_ ?_<;>intro hb
  ·have hb:=gI.1 hb;rw [aP,bd,ah ha,ai hb,ai (by simp)] at hF;refine ⟨Mb w,⟨by omega,iJ hw⟩,?_⟩;refine ⟨_,?_,rfl⟩;rw [hF];exact ax
  have hb:¬ dz (aD l) w.2.s=none:=fun hn=>by have:=gI.2 hn;rw [hb] at this;cases this
  rw [ah ha,ah hb] at bd;exact rE ⟨_,by omega,e + 1,rfl,by omega,by rw [aP,bd],rfl⟩ (aj ⟨_,rfl⟩ wA rfl rfl rfl (dy (aK au (by omega))))
 have aS:e=o.length:=by have:=hL;simp [gM] at this;omega
 rw [aS,List.drop_length,show numF (aD l) []=(0,0) from rfl] at aP;rw [aP,ah (by decide)] at hF;have la:(numF (aD l) o).1=0:=by rw [aP]
 have hP:tz l.length (dV (aD l) o):=by have:=pf la;rwa [dZ] at this
 have hpo:=V0 hP;have c9:=jB l.length (fA l.length (dV (aD l) o));refine cP U4 (Fc l o (by omega) hs hs2 la) ?_;generalize fA l.length (dV (aD l) o)=f at hF hpo c9 ⊢;refine cP YD (Ff l.length f (by omega)) ?_
 cases hlo:bS (lu l.length f) l.length with
 | some a=>
  rw [hlo] at hF;have ha:=(cL hlo).1;obtain ⟨x,hx⟩:∃ x,l[a]? = some x:=⟨_,gE ha⟩;simp only [lx hx] at hF;refine ⟨kK x,⟨by simp only [oz];omega,bg hx⟩,?_⟩;refine ⟨_,?_,rfl⟩;rw [hF];exact ax
 | none=>
 have hpo:=hpo hlo;rw [hlo] at hF;simp only at hF;refine cP YE (Le l.length f (by omega)) ?_;refine lI (fun j st=>∃ e:Nat,st=TR l l.length f e/\e<=l.length/\(∀ b,b < e->ou f l.length b=false)/\j=l.length - e) ⟨0,rfl,by omega,fun _ h=>by omega,rfl⟩ (aj ⟨_,rfl⟩ wA rfl rfl rfl wB) ?_;clear aP hL aS he e;rintro j st ⟨e,rfl,he,fv,rfl⟩;refine br ?_ ?_<;>intro hL
 ·have au:e < l.length:=sV c9 hL;have rf:=RE hpo au;refine lI (fun j st=>∃ k:Nat,st=TS l l.length f e k/\k<=e/\(∀ a,a < k->pV f l.length a e=false)/\j=e - k) ⟨0,rfl,by omega,fun _ h=>by omega,rfl⟩ (aj ⟨_,rfl⟩ wA rfl rfl rfl wB) ?_;rintro j st ⟨k,rfl,hk,OA,rfl⟩;refine br ?_ ?_<;>intro kP
  ·have jT:k < e:=sU kP;obtain ⟨x,hx⟩:=gX au
   have OC:pV f l.length k e=true->F=(12,x.a):=fun VC=>by
    rw [bI au (by rw [rf,List.any_eq_true];exact ⟨k,by simpa using jT,VC⟩) fv] at hF;simp only [lx hx] at hF;exact hF
   refine cP MX (oE l.length f (by omega) k e (by omega) au) ?_;refine br ?_ ?_<;>intro g1
   ·have g1:¬ kS f l.length k e=none:=fun hn=>by rw [gI.2 hn] at g1;cases g1
    refine cP MX (oE l.length (fun a b=>f b a) (by omega) k e (by omega) au) ?_;refine br ?_ ?_<;>intro g2
    ·have g2:kS (fun a b=>f b a) l.length k e=none:=by
      rw [<- gI];simpa [pickB] using g2
     have hF:=OC (by unfold pV;rw [g2];simp);refine ⟨kK x,⟨by omega,bg hx⟩,?_⟩;refine ⟨_,?_,rfl⟩;rw [hF];exact ax
    ·have g2:¬ kS (fun a b=>f b a) l.length k e=none:=fun hn=>by
      have h3:=gI.2 hn;simp [pickB] at g2;have h3:=of_decide_eq_true h3;omega
     refine ⟨TS l l.length f e (k + 1),(aj ⟨_,rfl⟩ wA rfl rfl rfl (dy (aK jT (by omega)))),e - (k + 1),by omega,k + 1,rfl,by omega,fun j hj=>?_,rfl⟩;rcases eT hj with hj | rfl
     ·exact OA j hj
     ·unfold pV;rw [Option.isNone_eq_false_iff.2 (Option.isSome_iff_ne_none.2 g1),Option.isNone_eq_false_iff.2 (Option.isSome_iff_ne_none.2 g2)];rfl
   ·have g1:kS f l.length k e=none:=by
     rw [<- gI];simpa using g1
    have hF:=OC (by unfold pV;rw [g1];rfl);refine ⟨kK x,⟨by omega,bg hx⟩,?_⟩;refine ⟨_,?_,rfl⟩;rw [hF];exact ax
  ·have aS:k=e:=by have:=kP;simp at this;omega
   subst aS;refine ⟨TR l l.length f (k + 1),(aj ⟨_,rfl⟩ wA rfl rfl rfl (dy (aK au (by omega)))),l.length - (k + 1),by omega,k + 1,rfl,by omega,fun j hj=>?_,rfl⟩;rcases eT hj with hj | rfl
   ·exact fv j hj
   ·rw [rf,List.any_eq_false];intro a ha;rw [OA a (sU ha)];decide
 ·have aS:e=l.length:=sW c9 hL;subst aS;rw [bU fv] at hF;simp only at hF;refine ⟨_,?_,rfl⟩;rw [hF];exact ax
abbrev ovSt (n:Nat) (f:Nat->Nat->Bool) (l:List Nat) (c e:Nat):St:=
 ⟨[(0,⟨[],.sl 1 (cS (dD n f)) none⟩),(1,⟨[],.sl 1 (dInts l) none⟩),(2,⟨[],.v (.int .i64 c)⟩),(7,⟨[],.v (.int .i64 e)⟩)],[],[]⟩
theorem Bb (n:Nat) (f:Nat->Nat->Bool) (hn:n<=64) (l:List Nat) (hl:∀ i∈l,i < n) (yc:l.length<=1099511627776) (c:Nat) (hc:c < n) :
  aV prog 211 [.sl 1 (cS (dD n f)) none,.sl 1 (dInts l) none,.v (.int .i64 c)] (.v (.bool (iu f l c))):=by
 have c9:=jB n f;have Et:=bi l;refine eG 25 [.tmp 6] func211 rfl ntmps211 rfl fun _ _ _ _=>?_;refine lI (fun j st=>∃ e:Nat,st=ovSt n f l c e/\e<=l.length/\iu f l c=iu f (l.drop e) c/\j=l.length - e) ⟨0,rfl,by omega,rfl,rfl⟩ (aj ⟨_,rfl⟩ wA rfl rfl rfl wB) ?_;rintro j st ⟨e,rfl,he,aP,rfl⟩;rw [aP];refine br ?_ ?_<;>intro hL
 ·have au:e < l.length:=by have:=hL;simp [Et] at this;exact this
  obtain ⟨i,hi⟩:=gX au;have vC:=hl i (mG hi);have bd:iu f (l.drop e) c=(f i c && iu f (l.drop (e + 1)) c):=by unfold iu;rw [drop_cons hi,List.all_cons]
  refine iX (aG hi) ?_;refine iX (gg vC) ?_;refine iX (eQ hc) ?_;refine br ?_ ?_<;>intro g
  ·have g:f i c=false:=sU g;rw [bd,g,Bool.false_and];exact (rfl:_=_)
  ·have g:f i c=true:=sU g;rw [g,Bool.true_and] at bd;exact rE ⟨_,by omega,e + 1,rfl,by omega,bd,rfl⟩ (aj ⟨_,rfl⟩ wA rfl rfl rfl (dy (aK au (by omega))))
 ·have aS:e=l.length:=sW Et hL;rw [aS,List.drop_length];exact (rfl:_=_)
def yq (f:Nat->Nat->Bool) (l:List Nat) (c k:Nat):Bool:=iu f l c && (List.range k).all fun d=>!iu f l d || f c d
theorem Lh (f:Nat->Nat->Bool) (l:List Nat) (c:Nat):yq f l c 0=iu f l c:=by simp [yq]
theorem Li (f:Nat->Nat->Bool) (l:List Nat) (c k:Nat):yq f l c (k + 1)=(yq f l c k && (!iu f l k || f c k)):=by
 simp only [yq,List.range_succ,List.all_append,List.all_cons,List.all_nil,Bool.and_true,Bool.and_assoc]
abbrev Z4 (n:Nat) (f:Nat->Nat->Bool) (l:List Nat) (e:Nat):St:=
 ⟨[(0,⟨[],.sl 1 (cS (dD n f)) none⟩),(1,⟨[],.sl 1 (dInts l) none⟩),(5,⟨[],.v (.int .i64 e)⟩)],[],[]⟩
abbrev Z5 (n:Nat) (f:Nat->Nat->Bool) (l:List Nat) (e:Nat) (x:Bool) (k:Nat):St:=
 ⟨[(0,⟨[],.sl 1 (cS (dD n f)) none⟩),(1,⟨[],.sl 1 (dInts l) none⟩),(5,⟨[],.v (.int .i64 e)⟩),(6,⟨[],.v (.bool x)⟩),(7,⟨[],.v (.int .i64 k)⟩)],[],[]⟩
theorem H9 (n:Nat) (f:Nat->Nat->Bool) (hn:n<=64) (l:List Nat) (hl:∀ i∈l,i < n) (yc:l.length<=1099511627776) :
  aV prog 185 [.sl 1 (cS (dD n f)) none,.sl 1 (dInts l) none] (.v (.int .i64 (oz (fl f n l)))):=by
 have c9:=jB n f;refine eG 40 [.tmp 4] func185 rfl ntmps185 rfl fun _ _ _ _=>?_;refine lI (fun j st=>∃ e:Nat,st=Z4 n f l e/\e<=n/\(∀ c,c < e->tJ f n l c=false)/\j=n - e) ⟨0,rfl,by omega,fun _ h=>by omega,rfl⟩ (aj ⟨_,rfl⟩ wA rfl rfl rfl wB) ?_;rintro j st ⟨e,rfl,he,fv,rfl⟩;refine br ?_ ?_<;>intro hL
 ·have au:e < n:=sV c9 hL;refine cP Tc (Bb n f hn l hl yc e au) ?_;refine lJ (fun k=>Z5 n f l e (yq f l e k) k) n (aj ⟨_,rfl⟩ wA rfl rfl rfl (dy ((Lh f l e).symm))) ?_;intro k hk;refine br ?_ ?_<;>intro kP
  ·have jT:k < n:=sV c9 kP;have Lg:=Li f l e k;refine cP Tc (Bb n f hn l hl yc k jT) ?_;refine br ?_ ?_<;>intro g1
   ·refine iX (gg au) ?_;refine iX (eQ jT) ?_;refine br ?_ ?_<;>intro g2
    ·have hx:false=yq f l e (k + 1):=by simp [pickB] at g1 g2;rw [Lg];simp [g1,g2]
     exact rE ⟨_,by omega,k + 1,rfl,by omega,rfl⟩ (aj ⟨_,rfl⟩ wA rfl rfl rfl (wB2 (aK jT (by omega)) hx))
    ·have hx:yq f l e k=yq f l e (k + 1):=by simp [pickB] at g1 g2;rw [Lg];simp [g1,g2]
     exact rE ⟨_,by omega,k + 1,rfl,by omega,rfl⟩ (aj ⟨_,rfl⟩ wA rfl rfl rfl (wB2 (aK jT (by omega)) hx))
   ·have hx:yq f l e k=yq f l e (k + 1):=by simp [pickB] at g1;rw [Lg];simp [g1]
    exact rE ⟨_,by omega,k + 1,rfl,by omega,rfl⟩ (aj ⟨_,rfl⟩ wA rfl rfl rfl (wB2 (aK jT (by omega)) hx))
  ·have aS:k=n:=sW c9 kP;subst aS;refine br ?_ ?_<;>intro g
   ·have g:tJ f k l e=true:=g;rw [fl,bI au g fv];exact (rfl:_=_)
   ·have g:tJ f k l e=false:=g;refine ⟨Z4 k f l (e + 1),(aj ⟨_,rfl⟩ wA rfl rfl rfl (dy (aK au (by omega)))),k - (e + 1),by omega,e + 1,rfl,by omega,fun j hj=>?_,rfl⟩;rcases eT hj with hj | rfl
    ·exact fv j hj
    ·exact g
 ·have aS:e=n:=sW c9 hL;subst aS;rw [fl,bU fv];exact (rfl:_=_)
abbrev V1 (lv:List Wd) (f:Nat->Nat->Bool) (l:List Wd) (q e:Nat):St:=
 ⟨[(0,⟨[],.sl 2 (bQ lv) none⟩),(1,⟨[],.sl 1 (cS (dD lv.length f)) none⟩),(2,⟨[],.sl 2 (bQ l) none⟩),(7,⟨[],.loc 0 0⟩),(8,⟨[],.sl 1 (dInts (mZ (aD lv) (l.take e))) (some 0)⟩),(9,⟨[],.v (.int .i64 e)⟩)],[[.v (.int .i64 0),.v (.int .i64 0)]],[⟨q,3,1,none⟩]⟩
theorem RF {L:List ByteArray} {l:List Wd} {i:Nat} (h:i∈mZ L l) (hL:0 < L.length):i < L.length:=by
 unfold mZ at h;obtain ⟨w,_,rfl⟩:=List.mem_map.1 h
 cases hx:dz L w.s with
 | none=>simpa using hL
 | some p=>exact (dH hx).1
theorem Ia {L:List ByteArray} {l:List Wd} {e i:Nat} {w:Wd} (h:l[e]? = some w) (hi:dz L w.s=some i):dInts (mZ L (l.take e)) ++ [[DV.v (.int .i64 (oz (some i)))]]=dInts (mZ L (l.take (e + 1))):=by
 rw [tM h hi];simp [dInts,oz]
theorem Lj (lv:List Wd) (f:Nat->Nat->Bool) (h0:0 < lv.length) (hn:lv.length<=32) (hs:wdsWt lv<=1099511627776) (l:List Wd) (hl:wdsWt l<=1099511627776) :
  aV prog 135 [.sl 2 (bQ lv) none,.sl 1 (cS (dD lv.length f)) none,.sl 2 (bQ l) none] (K5 f (aD lv) l):=by
 have nQ:=bP l;have fo:=dZ lv;unfold K5 CQ;refine eG 40 [.tmp 6,.cell 7 45] func135 rfl ntmps135 rfl fun _ _ _ _=>?_;refine lI (fun j st=>∃ e:Nat,st=V1 lv f l e e/\e<=l.length/\labW (aD lv) l=labW (aD lv) (l.drop e)/\j=l.length - e) ⟨0,rfl,by omega,rfl,rfl⟩ (fM ⟨0,3,1,none⟩ rfl ⟨_,rfl⟩ rfl wA rfl rfl lX) ?_;rintro j st ⟨e,rfl,he,aP,rfl⟩;rw [aP];refine br ?_ ?_<;>intro hL
 ·have au:e < l.length:=by simpa [aC] using hL
  obtain ⟨w,hw⟩:=gX au;have bd:=tK (L:=aD lv) hw;refine ⟨kK w,⟨by omega,bg hw⟩,?_⟩;refine cP xq (gf lv w.s hs) ?_;refine br ?_ ?_<;>intro ha
  ·have ha:=gI.1 ha;rw [bd,ai ha];refine dS ?_;refine ⟨kK w,⟨by omega,bg hw⟩,?_⟩;exact ⟨_,ax,rfl⟩
  ·cases hi:dz (aD lv) w.s with
   | none=>have:=gI.2 hi;rw [ha] at this;cases this
   | some i=>
   rw [ah (by rw [hi];simp)] at bd;refine ⟨by simp [bi,mZ];omega,⟨by simp [bi,mZ,maxLen];omega,by simp [bi,mZ];omega⟩,?_⟩;exact rE ⟨_,by omega,e + 1,rfl,by omega,bd,rfl⟩ (aj ⟨_,rfl⟩ wA rfl rfl rfl (wB2 (aK au (by omega)) (Ia hw hi)))
 ·have aS:e=l.length:=by have:=hL;simp [aC] at this;omega
  rw [aS,List.drop_length,List.take_length];refine cP YJ (H9 lv.length f (by omega) (mZ (aD lv) l) (fun i hi=>by have:=RF hi (by omega);omega) (by simp [mZ];omega)) ?_;rw [<- fo];exact ⟨_,ax,rfl⟩
theorem V2 {S:Sch} {e:Nat} {x:Wd × Ty} (h:S.types[e]? = some x):(tL S)[e]? = some x.1.s:=by simp [tL,aD,vF,h]
abbrev TU (S:Sch) (s:ByteArray) (e:Nat):St:=
 ⟨[(1,⟨[],.v (.string s)⟩),(2,⟨[],.loc 0 0⟩),(5,⟨[],.v (.int .i64 e)⟩)],[gm S],[]⟩
theorem lA (S:Sch) (s:ByteArray) (hl:S.types.length<=1099511627776) :
  aV prog 136 [.agg (gm S),.v (.string s)] (.v (.int .i64 (oz (dz (tL S) s)))):=by
 have hN:=eB S.types;have hY:=kQ S;have ff:=@V2 S;obtain ⟨ae,order,types,⟨rh,rp⟩⟩:=S;simp only at hl hN hY ff;refine eG 23 [.tmp 4] func136 rfl ntmps136 rfl fun _ _ _ _=>?_;refine lI (fun j st=>∃ e:Nat,st=TU ⟨ae,order,types,.mk rh rp⟩ s e/\e<=types.length/\(∀ j,j < e->(tL ⟨ae,order,types,.mk rh rp⟩)[j]? ≠ some s)/\j=types.length - e) ⟨0,rfl,by omega,fun _ h=>by omega,rfl⟩ (aj ⟨_,rfl⟩ wA rfl rfl rfl wB) ?_;rintro j st ⟨e,rfl,he,fv,rfl⟩;refine br ?_ ?_<;>intro hL
 ·have au:e < types.length:=by have:=hL;simp [hN] at this;exact this
  obtain ⟨x,hx⟩:=gX au;have hg:=ff hx;obtain ⟨xw,⟨xh,xp⟩⟩:=x;refine iX (dNms_get hx) ?_;refine br ?_ ?_<;>intro hq
  ·have hq:xw.s=s:=sU hq;rw [CN (p:=e) (by rw [hg,hq]) (fun j hj=>Nat.le_of_not_lt fun hl=>fv j hl hj)];exact (rfl:_=_)
  ·have hq:¬ xw.s=s:=sU hq;refine ⟨TU ⟨ae,order,types,.mk rh rp⟩ s (e + 1),(aj ⟨_,rfl⟩ wA rfl rfl rfl (dy (aK au (by omega)))),types.length - (e + 1),by omega,e + 1,rfl,by omega,fun j hj=>?_,rfl⟩;rcases eT hj with hj | rfl
   ·exact fv j hj
   ·rw [hg];simpa using hq
 ·have aS:e=types.length:=sW hN hL;rw [JF (fun j hj=>fv j (by omega))];exact (rfl:_=_)
abbrev Z6 (S:Sch) (l:List Wd) (e:Nat):St:=
 ⟨[(1,⟨[],.sl 2 (bQ l) none⟩),(2,⟨[],.loc 0 0⟩),(4,⟨[],.loc 1 0⟩),(5,⟨[],.v (.int .i64 e)⟩)],[gm S,[.v (.int .i64 0),.v (.int .i64 0)]],[]⟩
theorem Fh (S:Sch) (hs:wdsWt S.ae<=1099511627776) (l:List Wd) (hl:wdsWt l<=1099511627776) :
  aV prog 179 [.agg (gm S),.sl 2 (bQ l) none] (labW (aD S.ae) l).d:=by
 have nQ:=bP l;obtain ⟨ae,order,types,⟨rh,rp⟩⟩:=S;simp only at hs;refine eG 28 [.cell 4 45] func179 rfl ntmps179 rfl fun _ _ _ _=>?_;refine lI (fun j st=>∃ e:Nat,st=Z6 ⟨ae,order,types,.mk rh rp⟩ l e/\e<=l.length/\labW (aD ae) l=labW (aD ae) (l.drop e)/\j=l.length - e) ⟨0,rfl,by omega,rfl,rfl⟩ (aj ⟨_,rfl⟩ wA rfl rfl rfl wB) ?_;rintro j st ⟨e,rfl,he,aP,rfl⟩;rw [aP];refine br ?_ ?_<;>intro hL
 ·have au:e < l.length:=by simpa [aC] using hL
  obtain ⟨w,hw⟩:=gX au;have bd:=tK (L:=aD ae) hw;refine dI ?_;refine ⟨kK w,⟨by omega,bg hw⟩,?_⟩;refine cD xq (gf ae w.s hs) ?_;refine br ?_ ?_<;>intro ha
  ·have ha:=gI.1 ha;rw [bd,ai ha];refine ⟨kK w,⟨by omega,bg hw⟩,?_⟩;exact ⟨_,ax,rfl⟩
  ·rw [ah (fun hn=>by have:=gI.2 hn;rw [ha] at this;cases this)] at bd;exact rE ⟨_,by omega,e + 1,rfl,by omega,bd,rfl⟩ (aj ⟨_,rfl⟩ wA rfl rfl rfl (dy (aK au (by omega))))
 ·have aS:e=l.length:=by have:=hL;simp [aC] at this;omega
  rw [aS,List.drop_length];exact ⟨_,ax,rfl⟩
def iT (l:List Ty):List (List DV):=l.map eJ
theorem eC (l:List Ty):(iT l).length=l.length:=by simp [iT]
theorem kT {l:List Ty} {j:Nat} {t:Ty} (h:l[j]? = some t):(iT l)[j]? = some (eJ t):=by simp [iT,h]
def fG (S:Sch):List Ty:=S.types.map fun x=>x.2
def gO (S:Sch):List Ty:=fG S ++ [S.root]
abbrev Z7 (S:Sch) (q e:Nat):St:=
 ⟨[(1,⟨[],.loc 0 0⟩),(3,⟨[],.sl 9 (iT ((fG S).take e)) (some 0)⟩),(4,⟨[],.v (.int .i64 e)⟩)],[gm S],[⟨q,29,9,none⟩]⟩
theorem Fi (S:Sch) (hl:S.types.length<=1099511627776) :
  aV prog 68 [.agg (gm S)] (.sl 9 (iT (gO S)) none):=by
 have hN:=eB S.types;obtain ⟨ae,order,types,⟨rh,rp⟩⟩:=S;simp only at hl hN;refine eG 26 [.tmp 2] func68 rfl ntmps68 rfl fun _ _ _ _=>?_;refine lJ (fun e=>Z7 ⟨ae,order,types,.mk rh rp⟩ e e) types.length (cW 1 ⟨0,29,9,none⟩ rfl rfl rfl pO rfl rfl lX) ?_;intro e he;have hY:(iT ((fG ⟨ae,order,types,.mk rh rp⟩).take e)).length=e:=by simp [iT,fG];omega
 refine br ?_ ?_<;>intro hL
 ·have au:e < types.length:=by have:=hL;simp [hN] at this;exact this
  obtain ⟨x,hx⟩:=gX au
  have du:iT ((fG ⟨ae,order,types,.mk rh rp⟩).take e) ++ [eJ x.2]=iT ((fG ⟨ae,order,types,.mk rh rp⟩).take (e + 1)):=by
   rw [List.take_add_one];simp [fG,hx,iT]
  obtain ⟨xw,⟨xh,xp⟩⟩:=x;refine iX (dNms_get hx) ?_;refine ⟨hY,⟨by rw [hY];simp [maxLen];omega,by rw [hY];simp;omega⟩,?_⟩;exact rE ⟨_,by omega,e + 1,rfl,by omega,rfl⟩ (aq 1 rfl (gp (aK au (by omega)) du) rfl rfl rfl (wB2 (aK au (by omega)) du))
 ·have aS:e=types.length:=sW hN hL
  have nE:iT ((fG ⟨ae,order,types,.mk rh rp⟩).take e) ++ [eJ (.mk rh rp)]=iT (gO ⟨ae,order,types,.mk rh rp⟩):=by
   rw [List.take_of_length_le (by simp [fG];omega)];simp [gO,iT]
  refine ⟨hY,⟨by rw [hY];simp [maxLen];omega,by rw [hY];simp;omega⟩,?_⟩;rw [<- nE];exact ⟨_,ax,rfl⟩
mutual
def flatT:Ty->List Ty
 | .mk h ps=>if h.ag=9 then [] else .mk h ps :: flatP ps
def flatP:Pts->List Ty
 | .nil=>[]
 | .cons p t r=>(if p.bare then [] else flatT t) ++ flatP r
end
mutual
theorem kz:∀ t:Ty,(flatT t).length=t.nn
 | .mk h ps=>by
  have:=tR ps;simp only [flatT,Ty.nn];split
  ·rfl
  ·simp only [List.length_cons];omega
theorem tR:∀ ps:Pts,(flatP ps).length=ps.nn
 | .nil=>rfl
 | .cons p t r=>by
  have:=kz t;have:=tR r;simp only [flatP,Pts.nn,List.length_append];split
  ·simp only [List.length_nil];omega
  ·omega
end
theorem JI {P:Program} {f:FuncId} {args:List DV} {e:Nat} {es:List (List DV)} (h:Ev P f args [] [] (fun r _ _=>r = .sl e es none∨(es=[]/\r = .v (.slice none 0 0)))):aV P f args (.sl e es none):=by
 intro E w vs hE ht hv;refine (h E w vs hE ht hv).mono ?_;rintro e' w' ⟨v,rfl,hM,hs,d,os,E',h1,h2,h3,h4,h5,h6⟩;rcases h6 with rfl | ⟨rfl,rfl⟩
 ·exact ⟨v,rfl,hM,hs,_,os,E',h1,h2,h3,h4,h5,rfl⟩
 ·refine ⟨v,rfl,hM,hs,.sl e [] none,os,E',h1,h2,h3,h4,?_,rfl⟩;unfold Rv at h5 ⊢;exact ⟨_,0,0,h5.1,⟨rfl,aU _⟩,fun hn=>(hn rfl).elim,fun k hk=>by cases hk⟩
abbrev V3 (t:Ty) (L:List Ty) (q e:Nat):St:=
 ⟨[(1,⟨[],.loc 0 0⟩),(3,⟨[],.sl 9 (iT L) (some 0)⟩),(4,⟨[],.v (.int .i64 e)⟩)],[eJ t],[⟨q,29,9,none⟩]⟩
theorem pj:∀ (k:Nat) (t:Ty),t.wt<=k->t.wt<=1099511627776 ->
  aV prog 69 [.agg (eJ t)] (.sl 9 (iT (flatT t)) none)
 | 0,t,hn,_=>by have:=t.eO;omega
 | k + 1,.mk h ps,hn,cM=>by
  simp only [Ty.wt,Hd.wt] at hn cM;have nD:=ps.gD;have hc:=ps.fi;have lF:=ps.hZ;have Cm:=tR ps;refine JI ?_;refine vT (s:=false) (bt:=[]) (mu:=[9]) (hbt:=fun p hp=>by cases hp) (fr:=false) (P:=prog) tt Ax 5000 34 [.tmp 2] func69 rfl ntmps69 rfl (nL rfl) (fun _ _ _ _=>?_);refine br ?_ ?_<;>intro h9
  ·have h9:h.ag=9:=sU h9;have:flatT (.mk h ps)=[]:=by simp [flatT,h9]
   exact .inr ⟨by rw [this];rfl,rfl⟩
  have h9:¬ h.ag=9:=sU h9;have hft:flatT (.mk h ps) = .mk h ps :: flatP ps:=by simp [flatT,h9]
  refine VQ rfl rfl rfl rfl rfl rfl rfl rfl ?_
  refine bA (fun j st=>∃ (e q:Nat) (L:List Ty),st=V3 (.mk h ps) L q e/\q=L.length/\e<=ps.len/\flatT (.mk h ps)=L ++ flatP (ps.drop e)/\j=ps.len - e) ps.len
   (V3 (.mk h ps) [.mk h ps] 1 0) (aq 1 rfl pO rfl rfl rfl lX) ⟨0,1,_,rfl,rfl,by omega,hft,by omega⟩ ?_
  rintro j st ⟨e,q,L,rfl,hq,he,bF,rfl⟩
  have Z8:L.length<=1 + ps.nn:=by
   have:=congrArg List.length bF;rw [hft] at this;simp at this;omega
  refine br ?_ ?_<;>intro hL
  ·have au:e < ps.len:=by simpa [aR] using hL
   obtain ⟨p,t,hx⟩:=Pts.fh au;have hwt:=Pts.gY (mG hx);rw [Pts.drop_cons hx] at bF;simp only [flatP] at bF;obtain ⟨u,us⟩:=t;refine iX (cr hx) ?_;refine br ?_ ?_<;>intro hB
   ·have hB:p.bare=false:=sU hB;have bF:flatT (.mk h ps)=(L ++ flatT (.mk u us)) ++ flatP (ps.drop (e + 1)):=by rw [bF,hB,List.append_assoc];all_goals rfl
    have yc:L.length + (flatT (.mk u us)).length<=1 + ps.nn:=by
     have:=congrArg List.length bF;rw [hft] at this;simp at this;omega
    have du:iT L ++ iT (flatT (.mk u us))=iT (L ++ flatT (.mk u us)):=by simp [iT]
    refine iX (cr hx) ?_;refine cP QP (pj k (.mk u us) (by omega) (by omega)) ?_;refine ⟨by rw [eC,hq],⟨by simp only [eC,maxLen];omega,by simp only [eC];omega⟩,?_⟩;exact ⟨V3 (.mk h ps) (L ++ flatT (.mk u us)) (q + (iT (flatT (.mk u us))).length) (e + 1),(aq 1 rfl (gp (aK au (by omega)) du) rfl rfl rfl (wB2 (aK au (by omega)) du)),ps.len - (e + 1),by omega,e + 1,_,_,rfl,by rw [eC,List.length_append,hq],by omega,bF,rfl⟩
   ·have hB:p.bare=true:=sU hB;rw [hB] at bF;exact rE ⟨_,by omega,e + 1,q,L,rfl,hq,by omega,bF,rfl⟩ (aq 1 rfl (nF (aK au (by omega))) rfl rfl rfl (dy (aK au (by omega))))
  ·have aS:e=ps.len:=by simp [aR] at hL;omega
   rw [aS,Pts.dM] at bF;simp only [flatP,List.append_nil] at bF;rw [bF];exact ⟨_,ax,.inl rfl⟩
theorem yr (S:Sch) (hl:S.types.length<=1099511627776) (hr:∀ x∈S.types,vG S x.2=true):∀ (k i:Nat),i < S.types.length->k<=99 ->
  aV prog 119 [.agg (gm S),.v (.int .i64 i),.v (.int .i64 k)] (.v (.int .i64 (oz (endI S (k + 1) i))))
 | k,i,hi,hk=>by
  have hN:=eB S.types;have CP:=fun s=>lA S s hl;have ih:∀ k' j,k=k' + 1->j < S.types.length->aV prog 119 [.agg (gm S),.v (.int .i64 j),.v (.int .i64 k')] (.v (.int .i64 (oz (endI S (k' + 1) j)))):=fun k' j he hj=>yr S hl hr k' j hj (by omega);obtain ⟨x,hx⟩:∃ x,S.types[i]? = some x:=⟨_,gE hi⟩;have Rf:=hr x (mG hx);have hY:=kQ S;obtain ⟨xw,⟨xh,xp⟩⟩:=x;have hE:endI S (k + 1) i=if xh.ag=9 then endI S k ((dz (tL S) xh.name.s).getD 0) else some i:=by rw [endI,hx];all_goals rfl
  obtain ⟨ae,order,types,⟨rh,rp⟩⟩:=S;simp only at hl hN hi hx Rf hY;refine eG 32 [.tmp 6] func119 rfl ntmps119 rfl fun _ _ _ _=>?_;refine iX (dNms_get hx) ?_;refine br ?_ ?_<;>intro h9
  ·have h9:¬ xh.ag=9:=sU h9;rw [ah h9] at hE;rw [hE];exact (rfl:_=_)
  have h9:xh.ag=9:=sU h9;rw [ai h9] at hE;rw [hE];refine br ?_ ?_<;>intro h1
  ·have h1:k=0:=by have:=h1;simp at this;omega
   subst h1;exact (rfl:_=_)
  have h1:1<=k:=by have:=h1;simp at this;omega
  obtain ⟨k',rfl⟩:∃ k',k=k' + 1:=⟨k - 1,by omega⟩;have Au:=of_decide_eq_true Rf h9;obtain ⟨j,hj⟩:∃ j,dz (tL ⟨ae,order,types,.mk rh rp⟩) xh.name.s=some j:=Option.ne_none_iff_exists'.1 Au;have nY:=(dH hj).1;rw [hY] at nY;have hf:=CP xh.name.s;rw [hj] at hf ⊢;have fb:IntKind.i64.wrap (((k' + 1:Nat):Int) - 1)=(k':Int):=by rw [wrap64 (by omega) (by omega)];omega
  refine dI ?_;refine iX (dNms_get hx) ?_;refine cD Je hf ?_;refine cD MU (ih k' j rfl nY) ?_ (gU fb);exact (rfl:_=_)
theorem tS {S:Sch}:∀ {k i j:Nat},endI S k i=some j->endI S (k + 1) i=some j
 | 0,i,j,h=>by cases h
 | k + 1,i,j,h=>by
  rw [endI] at h ⊢
  cases hx:S.types[i]? with
  | none=>rw [hx] at h;cases h
  | some x=>
   rw [hx] at h;simp only at h ⊢;split at h
   ·rename_i h9;rw [ai h9];exact tS h
   ·rename_i h9;rw [ah h9];exact h
def tT (S:Sch) (k:Nat):List Bool:=(List.range S.types.length).map fun i=>(endI S k i).isSome
theorem rW (S:Sch) (k:Nat):(tT S k).length=S.types.length:=by simp [tT]
theorem yt {S:Sch} {k i:Nat} (hi:i < S.types.length):(tT S k).getD i false=(endI S k i).isSome:=by
 simp [tT,aH,List.getElem?_range hi]
theorem RG (S:Sch) (k:Nat):AP (tT S k) (tT S (k + 1)):=by
 intro i h;by_cases hi:i < S.types.length
 ·rw [yt hi] at h ⊢;obtain ⟨j,hj⟩:=Option.isSome_iff_exists.1 h;rw [tS hj];rfl
 ·rw [aH,cQ (by rw [rW];omega)] at h;cases h
theorem OD {S:Sch} {k:Nat} (h:tT S k=tT S (k + 1)):∀ i,endI S (k + 2) i=endI S (k + 1) i:=by
 intro i
 have key:∀ {j:Nat},j < S.types.length->(endI S k j).isSome=(endI S (k + 1) j).isSome:=fun {j} hj=>by
  rw [<- yt hj,<- yt hj,h]
 have same:∀ j,endI S (k + 1) j=endI S k j:=fun j=>by
  cases h1:endI S k j with
  | some m=>exact tS h1
  | none=>
   cases h2:endI S (k + 1) j with
   | none=>rfl
   | some m=>
    have hj:j < S.types.length:=by
     rw [endI] at h2
     cases hx:S.types[j]? with
     | none=>rw [hx] at h2;cases h2
     | some x=>exact (gS hx).1
    have:=key hj;rw [h1,h2] at this;cases this
 rw [endI,endI]
 cases hx:S.types[i]? with
 | none=>rfl
 | some x=>
  simp only;split
  ·exact same _
  ·rfl
theorem Bc (S:Sch):∀ k,(∀ i,endI S (k + 1) i=endI S k i)∨k<=kO (tT S k)
 | 0=>.inr (Nat.zero_le _)
 | k + 1=>by
  rcases Bc S k with h | h
  ·refine .inl fun i=>?_;rw [endI,endI]
   cases hx:S.types[i]? with
   | none=>rfl
   | some x=>
    simp only;split
    ·exact h _
    ·rfl
  ·rcases (lM (by rw [rW,rW]) (RG S k)).1 with h2 | h2
   ·exact .inl (OD h2)
   ·exact .inr (by omega)
theorem Fj {S:Sch}:∀ {k:Nat},S.types.length + 1<=k->∀ i,endI S k i=endI S (S.types.length + 1) i:=by
 have bd:∀ i,endI S (S.types.length + 2) i=endI S (S.types.length + 1) i:=fun i=>by
  rcases Bc S (S.types.length + 1) with h | h
  ·exact h i
  ·have:=rK (tT S (S.types.length + 1));rw [rW] at this;omega
 have key:∀ d i,endI S (S.types.length + 1 + (d + 1)) i=endI S (S.types.length + 1 + d) i:=by
  intro d
  induction d with
  | zero=>exact bd
  | succ d ih=>
   intro i;show endI S (S.types.length + 1 + (d + 1) + 1) i=endI S (S.types.length + 1 + d + 1) i;rw [endI,endI]
   cases hx:S.types[i]? with
   | none=>rfl
   | some x=>
    simp only;split
    ·exact ih _
    ·rfl
 intro k hk i;obtain ⟨d,rfl⟩:∃ d,k=S.types.length + 1 + d:=⟨k - (S.types.length + 1),by omega⟩;clear hk
 induction d with
 | zero=>rfl
 | succ d ih=>rw [key,ih]
theorem yu (S:Sch) (hl:S.types.length<=64) (hr:∀ x∈S.types,vG S x.2=true) (i:Nat) (hi:i < S.types.length) :
  aV prog 119 [.agg (gm S),.v (.int .i64 i),.v (.int .i64 (99:Nat))] (.v (.int .i64 (oz (endI S (S.types.length + 1) i)))):=by
 have:=yr S (by omega) hr 99 i hi (aU _)
 rwa [Fj (by omega)] at this
abbrev Z9 (S:Sch) (k n e:Nat):St:=
 ⟨[(2,⟨[],.loc 0 0⟩),(5,⟨[],.v (.int .i64 k)⟩),(6,⟨[],.v (.int .i64 n)⟩),(7,⟨[],.v (.int .i64 e)⟩)],[gm S],[]⟩
theorem yv (S:Sch) (hl:S.types.length<=64) (hs:nmsWt S.types<=1099511627776) (hr:∀ x∈S.types,vG S x.2=true) (s:ByteArray) (i k:Nat) (hi:dz (tL S) s=some i) (hk:endI S (S.types.length + 1) i=some k) :
  aV prog 71 [.agg (gm S),.v (.string s)] (.v (.int .i64 (firstA S k))):=by
 have hN:=eB S.types;have Et:=(dH hi).1;rw [kQ] at Et;have ej:=(rQ hk).1;have hf:=lA S s (by omega);have he:=yu S hl hr i Et;rw [hi] at hf;rw [hk] at he;have hfa:=@oy S;have JB:=A0 S;obtain ⟨ae,order,types,⟨rh,rp⟩⟩:=S;simp only at hl hs hN Et ej hfa JB;refine eG 29 [.tmp 4] func71 rfl ntmps71 rfl fun _ _ _ _=>?_;refine dI ?_;refine cD Je hf ?_;refine cD MU he ?_;refine lJ (fun e=>Z9 ⟨ae,order,types,.mk rh rp⟩ k (firstA ⟨ae,order,types,.mk rh rp⟩ e) e) k (aj ⟨_,rfl⟩ wA rfl rfl rfl wB) ?_;intro e V4;refine br ?_ ?_<;>intro hL
 ·have au:e < k:=sU hL;obtain ⟨x,hx⟩:∃ x,types[e]? = some x:=⟨_,gE (by omega)⟩;have Tp:=ir (mG hx);have h1:=hfa hx;have h2:=JB e;have h3:=JB (e + 1);have h4:=kz x.2;obtain ⟨xw,⟨xh,xp⟩⟩:=x;simp only at Tp h1 h4;refine iX (dNms_get hx) ?_;refine cP QP (pj _ (.mk xh xp) (aU _) (by omega)) ?_
  have DN:IntKind.i64.wrap ((firstA ⟨ae,order,types,.mk rh rp⟩ e:Int) + (iT (flatT (.mk xh xp))).length)=(firstA ⟨ae,order,types,.mk rh rp⟩ (e + 1):Int):=by
   rw [eC,wrap64 (by omega) (by omega)];omega
  exact rE ⟨_,by omega,e + 1,rfl,by omega,rfl⟩ (aj ⟨_,rfl⟩ wA rfl rfl rfl (wB2 DN (aK au (by omega))))
 ·have aS:e=k:=by have:=hL;simp at this;omega
  subst aS;exact (rfl:_=_)
theorem JJ {S:Sch} {e:Nat} {x:Wd × Ty} (h:S.types[e]? = some x):(vF S)[e]? = some x.1:=by simp [vF,h]
abbrev aaa (S:Sch) (e:Nat):St:=
 ⟨[(1,⟨[],.loc 0 0⟩),(2,⟨[],.loc 1 0⟩),(3,⟨[],.v (.int .i64 e)⟩)],[gm S,[.v (.int .i64 0),.v (.int .i64 0)]],[]⟩
theorem C0 (S:Sch) (hs:nmsWt S.types<=1099511627776) :
  aV prog 116 [.agg (gm S)] (eP S).d:=by
 have hN:=eB S.types;have fo:=ku S.types;have hY:=JD S;have hF:=eP.eq_1 S;have ff:=@JJ S;have CP:=fun s=>lA S s (by omega);have Zy:tL S=aD (vF S):=rfl;obtain ⟨ae,order,types,⟨rh,rp⟩⟩:=S;simp only at hs hN fo hY ff hF;generalize hQ:vF ⟨ae,order,types,.mk rh rp⟩=Q at hY hF ff Zy;refine eG 47 [.cell 2 45] func116 rfl ntmps116 rfl fun _ _ _ _=>?_;generalize eP ⟨ae,order,types,.mk rh rp⟩=F at hF ⊢;refine br ?_ ?_<;>intro h
 ·have h:64 < types.length:=by simp [hN] at h;omega
  obtain ⟨x,hx⟩:∃ x,types[64]? = some x:=⟨_,gE h⟩;have Ob:=ff hx;rw [ai h,lx Ob] at hF;obtain ⟨xw,⟨xh,xp⟩⟩:=x;refine iX (dNms_get hx) ?_;refine ⟨_,?_,rfl⟩;rw [hF];exact ax
 have h:¬ 64 < types.length:=by simp [hN] at h;omega
 rw [ah h] at hF;refine lI (fun j st=>∃ e:Nat,st=aaa ⟨ae,order,types,.mk rh rp⟩ e/\e<=types.length/\enumL Q 0 Q=enumL Q e (Q.drop e)/\j=types.length - e) ⟨0,rfl,by omega,rfl,rfl⟩ (aj ⟨_,rfl⟩ wA rfl rfl rfl wB) ?_;rintro j st ⟨e,rfl,he,aP,rfl⟩;rw [aP] at hF;refine br ?_ ?_<;>intro hL
 ·have au:e < types.length:=by have:=hL;simp [hN] at this;exact this
  obtain ⟨x,hx⟩:=gX au;have Tp:=ir (mG hx);have hq:=ff hx;have bd:=qv hq;obtain ⟨p,hp,IZ⟩:=OB hq;obtain ⟨xw,⟨xh,xp⟩⟩:=x;simp only [Wd.wt] at Tp hq bd hp IZ;have hf:=CP xw.s;rw [Zy,hp] at hf;have hlab:=mS [xw] (by simp only [wdsWt,Wd.wt];omega);have GF:cg [xw]=if bq xw.s then (0,0) else (9,xw.a):=by simp [cg,badWd]
  refine iX (dNms_get hx) ?_;refine cP M3 hlab ?_;refine br ?_ ?_<;>intro hN
  ·have hN:(cg [xw]).1≠0:=sU hN
   cases bw:bq xw.s with
   | true=>rw [GF,bw] at hN;exact absurd rfl hN
   | false=>
   rw [bw] at GF;have GF:cg [xw]=(9,xw.a):=GF;have hf9:aN Q e xw=9:=by simp [aN,bw]
   rw [bd,hf9,ai (by decide)] at hF;refine ⟨_,?_,rfl⟩;rw [hF,GF];exact ax
  ·have hN:(cg [xw]).1=0:=sU hN
   cases bw:bq xw.s with
   | false=>rw [GF,bw] at hN;exact absurd hN (by simp)
   | true=>
   refine cP Je hf ?_;refine br ?_ ?_<;>intro h2
   ·have h2:p < e:=by have:=h2;simp [oz] at this;exact this
    have hf10:aN Q e xw=10:=by simp [aN,bw,IZ.1 h2]
    rw [bd,hf10,ai (by decide)] at hF;refine ⟨_,?_,rfl⟩;rw [hF];exact ax
   ·have h2:¬ p < e:=by have:=h2;simp [oz] at this;omega
    have hd:bX (Q.take e) xw.s=false:=by
     cases hd:bX (Q.take e) xw.s
     ·rfl
     ·exact absurd (IZ.2 hd) h2
    have hf0:aN Q e xw=0:=by simp [aN,bw,hd]
    rw [hf0,ah (by simp)] at bd;exact rE ⟨_,by omega,e + 1,rfl,by omega,by rw [aP,bd],rfl⟩ (aj ⟨_,rfl⟩ wA rfl rfl rfl (dy (aK au (by omega))))
 ·have aS:e=types.length:=sW hN hL;rw [aS,<- hY,List.drop_length] at hF;refine ⟨_,?_,rfl⟩;rw [hF];exact ax
abbrev JK (S:Sch) (t:Ty) (e:Nat):St:=
 ⟨[(2,⟨[],.loc 0 0⟩),(3,⟨[],.loc 1 0⟩),(4,⟨[],.loc 2 0⟩),(5,⟨[],.v (.int .i64 e)⟩)],[gm S,eJ t,[.v (.int .i64 0),.v (.int .i64 0)]],[]⟩
theorem rX (S:Sch) (hl:S.types.length<=1099511627776) (hs:wdsWt S.ae<=1099511627776):∀ (k:Nat) (t:Ty),t.wt<=k->t.wt<=1099511627776 ->
  aV prog 118 [.agg (gm S),.agg (eJ t)] (ly S t).d
 | 0,t,hn,_=>by have:=t.eO;omega
 | k + 1,.mk h ps,hn,cM=>by
  have ih:=rX S hl hs k;simp only [Ty.wt,Hd.wt] at hn cM;have nD:=ps.gD;have hf:=lA S h.name.s hl;have hwd:=fun l hl=>Fh S hs l hl;have hS:ly S (.mk h ps)=if h.ag=9/\dz (tL S) h.name.s=none then (15,h.name.a) else knP ⟨aD S.ae,[],[],[],fun _ _=>false⟩ (tL S) ps:=by rw [ly,knT]
  have W3:knP ⟨aD S.ae,[],[],[],fun _ _=>false⟩ (tL S) ps=knP ⟨aD S.ae,[],[],[],fun _ _=>false⟩ (tL S) (ps.drop 0):=by rw [Pts.drop]
  have hK:∀ e p u,ps.toList[e]? = some (p,u)->knP ⟨aD S.ae,[],[],[],fun _ _=>false⟩ (tL S) (ps.drop e)=if (labW (aD S.ae) p.label).1≠0 then labW (aD S.ae) p.label else if (labW (aD S.ae) p.cl).1≠0 then labW (aD S.ae) p.cl else if p.bare then knP ⟨aD S.ae,[],[],[],fun _ _=>false⟩ (tL S) (ps.drop (e + 1)) else if (ly S u).1≠0 then ly S u else knP ⟨aD S.ae,[],[],[],fun _ _=>false⟩ (tL S) (ps.drop (e + 1)):=fun e p u hx=>by
   rw [Pts.drop_cons hx,knP];all_goals rfl
  have Rz:knP ⟨aD S.ae,[],[],[],fun _ _=>false⟩ (tL S) .nil=(0,0):=by rw [knP]
  generalize knP ⟨aD S.ae,[],[],[],fun _ _=>false⟩ (tL S)=KP at hS W3 hK Rz;obtain ⟨ae,order,types,⟨rh,rp⟩⟩:=S;refine eG 64 [.cell 4 45] func118 rfl ntmps118 rfl fun _ _ _ _=>?_;generalize ly ⟨ae,order,types,.mk rh rp⟩ (.mk h ps)=F at hS ⊢;refine have body:=?_;br (fun h9=>ME Je hf ax rfl (br (fun hx=>?_) (fun hx=>bA (fun j st=>∃ e:Nat,st=JK ⟨ae,order,types,.mk rh rp⟩ (.mk h ps) e/\e<=ps.len/\F=KP (ps.drop e)/\j=ps.len - e) ps.len (JK ⟨ae,order,types,.mk rh rp⟩ (.mk h ps) 0) (aj ⟨_,rfl⟩ wA rfl rfl rfl wB) ⟨0,rfl,by omega,?_,by omega⟩ body))) (fun h9=>bA (fun j st=>∃ e:Nat,st=JK ⟨ae,order,types,.mk rh rp⟩ (.mk h ps) e/\e<=ps.len/\F=KP (ps.drop e)/\j=ps.len - e) ps.len (JK ⟨ae,order,types,.mk rh rp⟩ (.mk h ps) 0) (aj ⟨_,rfl⟩ wA rfl rfl rfl wB) ⟨0,rfl,by omega,?_,by omega⟩ body)
  rotate_left
  ·have h9:h.ag=9:=sU h9;have hx:dz (tL ⟨ae,order,types,.mk rh rp⟩) h.name.s=none:=gI.1 (by simpa [pickB] using hx);rw [ai ⟨h9,hx⟩] at hS;refine ⟨_,?_,rfl⟩;rw [hS];exact ax
  ·have hx:¬ dz (tL ⟨ae,order,types,.mk rh rp⟩) h.name.s=none:=fun hn=>by
    have h3:=gI.2 hn;simp [pickB] at hx;have h3:=of_decide_eq_true h3;omega
   rw [ah (fun hc=>hx hc.2),W3] at hS;exact hS
  ·have h9:¬ h.ag=9:=sU h9;rw [ah (fun hc=>h9 hc.1),W3] at hS;exact hS
  rintro j st ⟨e,rfl,he,aP,rfl⟩;refine br ?_ ?_<;>intro hL
  ·have au:e < ps.len:=by simpa [aR] using hL
   obtain ⟨p,t,hx⟩:=Pts.fh au;have hwt:=Pts.gY (mG hx);have hk:=hK e p t hx;have hw1:wdsWt p.label + wdsWt p.cl<=p.wt:=by simp only [Ph.wt];omega
   obtain ⟨u,us⟩:=t;refine iX (cr hx) ?_;refine cP S6 (hwd p.label (by omega)) ?_;refine br ?_ ?_<;>intro b1
   ·have b1:(labW (aD ae) p.label).1=0:=sU b1;rw [ah (by simp [b1])] at hk;refine cP S6 (hwd p.cl (by omega)) ?_;refine br ?_ ?_<;>intro b2
    ·have b2:(labW (aD ae) p.cl).1=0/\p.bare=false:=by
      rw [aw] at b2;simpa using b2
     obtain ⟨b2,b3⟩:=b2;rw [ah (by simp [b2]),ah (by simp [b3])] at hk;refine cP MT (ih (.mk u us) (by omega) (by omega)) ?_;refine br ?_ ?_<;>intro b4
     ·have b4:(ly ⟨ae,order,types,.mk rh rp⟩ (.mk u us)).1≠0:=sU b4;rw [ai b4] at hk
      (refine ⟨_,?_,rfl⟩;rw [aP,hk];exact ax)
     ·have b4:(ly ⟨ae,order,types,.mk rh rp⟩ (.mk u us)).1=0:=sU b4;rw [ah (by simp [b4])] at hk;exact rE ⟨_,by omega,e + 1,rfl,by omega,by rw [aP,hk],rfl⟩ (aj ⟨_,rfl⟩ wA rfl rfl rfl (dy (aK au (by omega))))
    ·refine br ?_ ?_<;>intro b4
     ·have b4:(labW (aD ae) p.cl).1≠0:=sU b4;rw [ai b4] at hk
      (refine ⟨_,?_,rfl⟩;rw [aP,hk];exact ax)
     ·have b4:(labW (aD ae) p.cl).1=0:=sU b4
      have b3:p.bare=true:=by
       rw [aw] at b2;simpa [b4] using b2
      rw [ah (by simp [b4]),ai b3] at hk;exact rE ⟨_,by omega,e + 1,rfl,by omega,by rw [aP,hk],rfl⟩ (aj ⟨_,rfl⟩ wA rfl rfl rfl (dy (aK au (by omega))))
   ·have b1:¬ (labW (aD ae) p.label).1=0:=sU b1;rw [ai b1] at hk;refine br ?_ ?_<;>intro b2
    ·rw [aw] at b2;simp [b1] at b2
    ·refine br ?_ ?_<;>intro b4
     ·(refine ⟨_,?_,rfl⟩;rw [aP,hk];exact ax)
     ·simp [b1] at b4
  ·have aS:e=ps.len:=by simp [aR] at hL;omega
   rw [aS,Pts.dM] at aP;refine ⟨_,?_,rfl⟩;rw [aP,Rz];exact ax
abbrev JL (h:Hd) (ps:Pts) (e:Nat) (depth m:Int):St:=
 ⟨[(2,⟨[],.v (.int .i64 depth)⟩),(3,⟨[],.loc 0 0⟩),(4,⟨[],.loc 1 0⟩),(6,⟨[],.loc 2 0⟩),(7,⟨[],.v (.int .i64 e)⟩)],[[.v (.int .i64 0),.v (.int .i64 0),.v (.int .i64 m)],eJ (.mk h ps),[.v (.int .i64 0),.v (.int .i64 0),.v (.int .i64 0)]],[]⟩
theorem C1 (k:Nat) (ih:CA k) (h:Hd) (ps:Pts) (depth m:Int) (hk:ps.wt<=k) (cM:(Ty.mk h ps).wt<=1099511627776) (vW:0<=depth) (zS:depth<=25) (pD:0<=m) (kp:m<=512) :
  aV prog 117 [wD (0,0) m,.agg (eJ (.mk h ps)),.v (.int .i64 depth)] (wD (wrong (.mk h ps) depth m).1 (wrong (.mk h ps) depth m).2):=by
 have AY:=cM;simp only [Ty.wt,Hd.wt] at AY;have nD:=ps.gD;have Vg:=bP h.af;have sG:IntKind.i64.wrap (m + 1)=m + 1:=wrap64 (by omega) (by omega)
 have hW:∀ e a,aV prog 174 [.agg [.v (.int .i64 0),.v (.int .i64 0),.v (.int .i64 (IntKind.i64.wrap (m + 1)))],.v (.int .i64 e),.v (.int .i64 a)] (wD (e,a) (m + 1)):=by
  intro e a;rw [sG];exact eW (0,0) (m + 1) e a
 have hS:=wrong.eq_def (.mk h ps) depth m;simp only at hS;refine eG 201 [.cell 6 192] func117 rfl ntmps117 rfl fun _ _ _ _=>?_;refine br ?_ ?_<;>intro c
 ·have c:24 < depth:=of_decide_eq_true c;refine cP iq (hW 6 h.ba) ?_;rw [ai c] at hS;refine ⟨_,?_,rfl⟩;rw [hS];exact ax
 have c:¬ 24 < depth:=of_decide_eq_false c;rw [ah c] at hS;refine br ?_ ?_<;>intro c
 ·have c:512 < IntKind.i64.wrap (m + 1):=of_decide_eq_true c;rw [sG] at c;refine cP iq (hW 8 h.ba) ?_;rw [ai c] at hS;refine ⟨_,?_,rfl⟩;rw [hS];exact ax
 have c:¬ 512 < IntKind.i64.wrap (m + 1):=of_decide_eq_false c;rw [sG] at c;rw [ah c] at hS;refine br ?_ ?_<;>intro c
 ·have c:h.ag < 1∨9 < h.ag:=by simpa [ay] using c
  refine cP iq (hW 14 h.ba) ?_;rw [ai c] at hS;refine ⟨_,?_,rfl⟩;rw [hS];exact ax
 have c:¬ (h.ag < 1∨9 < h.ag):=by simp [ay] at c;omega
 rw [ah c] at hS;refine cP YF (Hj (.mk h ps) (by omega)) ?_;refine br ?_ ?_<;>intro c
 ·have c:vD (.mk h ps)=false:=by simpa [vD] using c
  refine cP iq (hW 19 h.ba) ?_;rw [ai c] at hS;refine ⟨_,?_,rfl⟩;rw [hS];exact ax
 have c:¬ vD (.mk h ps)=false:=by simpa [vD] using c
 rw [ah c] at hS;refine br ?_ ?_<;>intro c
 ·have c:(h.ag=2/\h.hi < h.lo)∨(h.ag=3/\(h.most < 0∨4096 < h.most)):=by simp [ay,aw] at c;omega
  refine cP iq (hW 20 h.ba) ?_;rw [ai c] at hS;refine ⟨_,?_,rfl⟩;rw [hS];exact ax
 have c:¬ ((h.ag=2/\h.hi < h.lo)∨(h.ag=3/\(h.most < 0∨4096 < h.most))):=by simp [ay,aw] at c;omega
 rw [ah c] at hS;refine br ?_ ?_<;>intro k9
 ·have k9:h.ag=9:=sU k9;refine cP Ej (jL h.name.s (by simp only [Wd.wt] at AY;omega)) ?_;refine br ?_ ?_<;>intro q
  ·have q:bq h.name.s=false:=by simpa [aw,k9] using q
   refine cP iq (hW 9 h.name.a) ?_;rw [ai ⟨k9,q⟩] at hS;refine ⟨_,?_,rfl⟩;rw [hS];exact ax
  ·have q:bq h.name.s=true:=by simpa [aw,k9] using q
   rw [ah (by simp [q]),ah (by omega),ah (by omega),ah (by omega)] at hS;refine br (fun x=>?_) (fun _=>?_)
   ·have:=of_decide_eq_true x;omega
   refine br (fun x=>?_) (fun _=>?_)
   ·simp [ay] at x;omega
   refine br (fun x=>?_) (fun _=>?_)
   ·simp [ay] at x;omega
   refine ⟨_,?_,rfl⟩;rw [hS];exact (gU sG)
 ·have k9:¬ h.ag=9:=sU k9;rw [ah (by simp [k9])] at hS;refine br ?_ ?_<;>intro k4
  ·have k4:h.ag=4:=of_decide_eq_true k4;rw [ai k4] at hS;refine br ?_ ?_<;>intro c
   ·have c:h.af=[]:=by simp [aC] at c;exact c
    refine cP iq (hW 15 h.ba) ?_;refine ⟨_,?_,rfl⟩;rw [hS];simp only [jt,ai c];exact ax
   have c:¬ h.af=[]:=by simp [aC] at c;exact c
   refine br ?_ ?_<;>intro c2
   ·have au:64 < h.af.length:=by simp [aC] at c2;omega
    obtain ⟨x,hx⟩:=gX au;refine dS ?_;refine ⟨kK x,⟨by omega,bg hx⟩,?_⟩;refine cD iq (hW 8 x.a) ?_;refine ⟨_,?_,rfl⟩;rw [hS];simp only [jt,ah c,ai au,hx,Option.getD_some];exact ax
   have c2:¬ 64 < h.af.length:=by simp [aC] at c2;omega
   have hE:jt h=enumL h.af 0 h.af:=by simp only [jt,ah c,ah c2]
   rw [hE] at hS
   refine bA (fun j st=>∃ (e:Nat),st=JL h ps e depth (m + 1)/\e<=h.af.length/\enumL h.af 0 h.af=enumL h.af e (h.af.drop e)/\j=h.af.length - e) h.af.length
    (JL h ps 0 depth (m + 1)) (aq 3 rfl (nF sG) rfl rfl rfl (dy sG)) ⟨0,rfl,by omega,rfl,by omega⟩ ?_
   rintro j st ⟨e,rfl,he,aP,rfl⟩;refine br ?_ ?_<;>intro hL
   ·have au:e < h.af.length:=by simpa [aC] using hL
    obtain ⟨x,hx⟩:=gX au;rw [drop_cons hx] at aP;simp only [enumL] at aP;refine cP S5 (pS h.af e x (by omega) hx) ?_;refine br ?_ ?_<;>intro hl
    ·have hl:aN h.af e x≠0:=sU hl;rw [ai hl] at aP;refine dS ?_;refine ⟨kK x,⟨by omega,bg hx⟩,?_⟩;refine cD iq (eW (0,0) (m + 1) _ x.a) ?_;refine ⟨_,?_,rfl⟩;rw [hS,aP];exact ax
    ·have hl:aN h.af e x=0:=sU hl;rw [ah (by simp [hl])] at aP;exact rE ⟨_,by omega,e + 1,rfl,by omega,aP,rfl⟩ (aj ⟨_,rfl⟩ wA rfl rfl rfl (dy (aK au (by omega))))
   ·have aS:e=h.af.length:=by simp [aC] at hL;omega
    rw [aS,List.drop_length] at aP;simp only [enumL] at aP;rw [aP] at hS;refine br (fun x=>?_) (fun _=>?_)
    ·simp [ay] at x;omega
    refine br (fun x=>?_) (fun _=>?_)
    ·simp [ay] at x;omega
    refine ⟨_,?_,rfl⟩;rw [hS];exact ax
  ·have k4:¬ h.ag=4:=of_decide_eq_false k4;rw [ah k4] at hS;refine br ?_ ?_<;>intro k5
   ·have k5:h.ag=5∨h.ag=6:=by simpa [ay] using k5
    rw [ai k5] at hS
    cases ps with
    | nil=>
     refine cP iq (hW 19 h.ba) ?_;refine ⟨_,?_,rfl⟩;rw [hS];simp only [wrongOne];exact ax
    | cons p t r=>
     cases r with
     | cons p2 t2 r2=>
      refine cP iq (hW 19 h.ba) ?_;refine ⟨_,?_,rfl⟩;rw [hS];simp only [wrongOne];exact ax
     | nil=>
      obtain ⟨u,us⟩:=t;simp only [wrongOne] at hS;simp only [Ty.wt,Pts.wt] at AY hk;refine ⟨_,⟨by omega,rfl⟩,?_⟩;refine br ?_ ?_<;>intro c
      ·have c:p.name.s=az:=by
        have:=c;simp [ay] at this;exact this
       refine ⟨_,⟨by omega,rfl⟩,?_⟩;refine cP M4 (mR p fx (eJ (.mk u us)) (eJ cA) (by omega) (AD _ _ _ _ _) (AD _ _ _ _ _)) ?_;refine br ?_ ?_<;>intro q
       ·have q:cf p fx=false:=by simpa [ay,c] using q
        refine cP iq (hW 19 h.ba) ?_;rw [ai (by simp [q])] at hS;refine ⟨_,?_,rfl⟩;rw [hS];exact ax
       ·have q:cf p fx=true:=by simpa [ay,c] using q
        rw [ah (by simp [q,c])] at hS;refine br ?_ ?_<;>intro x
        ·have x:h.most < 0∨1024 < h.most:=by simpa [ay] using x
         refine cP iq (hW 20 h.ba) ?_;rw [ai x] at hS;refine ⟨_,?_,rfl⟩;rw [hS];exact ax
        ·have x:¬ (h.most < 0∨1024 < h.most):=by simp [ay] at x;omega
         rw [ah x] at hS;refine dS ?_;refine ⟨_,⟨by omega,rfl⟩,?_⟩;refine cD MS (ih (.mk u us) (depth + 1) (m + 1) (by simp only [Ty.wt];omega) (by simp only [Ty.wt];omega) (by omega) (by omega) (by omega) (by omega)) ?_ (by repeat' (first | exact rfl | exact trivial | exact Or.inr (Or.inl ⟨_,rfl⟩) | exact Or.inr ⟨_,rfl⟩ | exact Or.inl ⟨rfl,rfl⟩ | exact Or.inl rfl | refine Or.inr ⟨_,_,rfl,Nat.zero_le _,rfl,?_⟩ | refine ⟨_,_,rfl,?_,?_⟩ | refine ⟨_,rfl,?_⟩ | exact congrArg (fun z=>DV.v (.int .i64 z)) sG | exact congrArg (fun z=>DV.v (.int .i64 z)) (wrap64 (by omega) (by omega))| refine Or.inr (Or.inr (Or.inr ⟨_,_,rfl,?_⟩)) | exact Or.inl rfl | refine Or.inr ?_));refine ⟨_,?_,rfl⟩;rw [hS];exact ax
      ·have c:p.name.s≠az:=by
        have:=c;simp [ay] at this;exact this
       refine cP iq (hW 19 h.ba) ?_;rw [ai (.inl c)] at hS;refine ⟨_,?_,rfl⟩;rw [hS];exact ax
   ·have k5:¬ (h.ag=5∨h.ag=6):=by simp [ay] at k5;omega
    rw [ah k5] at hS;refine br ?_ ?_<;>intro k7
    ·have k7:h.ag=7∨h.ag=8:=by simpa [ay] using k7
     rw [ai k7] at hS;have hP:wrong (.mk h ps) depth m=fy h ps depth (m + 1):=by rw [hS];all_goals rfl
     refine cP YG (CB k ih h ps depth (m + 1) hk cM vW (by omega) (by omega) (by omega)) ?_ (gU sG);refine ⟨_,?_,rfl⟩;rw [hP];exact ax
    ·have k7:¬ (h.ag=7∨h.ag=8):=by simp [ay] at k7;omega
     rw [ah k7] at hS;refine ⟨_,?_,rfl⟩;rw [hS];exact (gU sG)
theorem Bd:∀ k,CA k
 | 0=>fun t depth m hk=>by have:=t.eO;omega
 | k + 1=>fun t depth m hk cM vW zS pD kp=>by
  obtain ⟨h,ps⟩:=t;have fb:=hk;simp only [Ty.wt,Hd.wt] at fb;exact C1 k (Bd k) h ps depth m (by omega) cM vW zS pD kp
theorem C2 (t:Ty) (depth m:Int) (cM:t.wt<=1099511627776) (vW:0<=depth) (zS:depth<=25) (pD:0<=m) (kp:m<=512) :
  aV prog 117 [wD (0,0) m,.agg (eJ t),.v (.int .i64 depth)] (wD (wrong t depth m).1 (wrong t depth m).2):=
 Bd t.wt t depth m (aU _) cM vW zS pD kp
def eaA:List Ty->Int->Ft × Int
 | [],m=>((0,0),m)
 | t :: r,m=>if (cC t m).1.1≠0 then cC t m else eaA r (cC t m).2
theorem OE (z:Ty):∀ (l:List (Wd × Ty)) (m:Int),((eaA (l.map (fun x=>x.2) ++ [z]) m).1.1=0↔(eaR z l m).1.1=0)/\((eaR z l m).1.1≠0->eaA (l.map (fun x=>x.2) ++ [z]) m=eaR z l m)
 | [],m=>by
  show ((eaA [z] m).1.1=0↔(cC z m).1.1=0)/\((cC z m).1.1≠0->eaA [z] m=cC z m);simp only [eaA];by_cases h:(cC z m).1.1=0
  ·simp [h]
  ·simp [h]
 | x :: r,m=>by
  have ih:=OE z r (cC x.2 m).2;simp only [List.map_cons,List.cons_append,eaA,eaR];by_cases h:(cC x.2 m).1.1=0
  ·simp only [h,ne_eq,not_true,if_false];exact ih
  ·simp [h]
def eaK (F:Ty->Ft):List Ty->Ft
 | []=>(0,0)
 | t :: r=>if (F t).1≠0 then F t else eaK F r
theorem OG (F:Ty->Ft) (z:Ty):∀ l:List (Wd × Ty),((eaK F (l.map (fun x=>x.2) ++ [z])).1=0↔(eaL F (F z) l).1=0)/\((eaL F (F z) l).1≠0->eaK F (l.map (fun x=>x.2) ++ [z])=eaL F (F z) l)
 | []=>by
  show ((eaK F [z]).1=0↔(F z).1=0)/\((F z).1≠0->eaK F [z]=F z);simp only [eaK];by_cases h:(F z).1=0
  ·simp [h]
  ·simp [h]
 | x :: r=>by
  have ih:=OG F z r;simp only [List.map_cons,List.cons_append,eaK,eaL];by_cases h:(F x.2).1=0
  ·simp only [h,ne_eq,not_true,if_false];exact ih
  ·simp [h]
theorem Ib {F:Ty->Ft}:∀ {l:List Ty},(eaK F l).1=0->∀ t∈l,(F t).1=0
 | [],_,t,ht=>by cases ht
 | u :: r,h,t,ht=>by
  rw [eaK] at h;split at h
  ·rename_i h1;exact (h1 h).elim
  ·rename_i h1;rcases bL ht with rfl | ht
   ·simpa using h1
   ·exact Ib h t ht
theorem JN (S:Sch):ma S=if (latF S.ae S.order).1≠0 then latF S.ae S.order
 else if (eP S).1≠0 then eP S
 else if (eaA (gO S) 0).1.1≠0 then (eaA (gO S) 0).1
 else if (eaK (ly S) (gO S)).1≠0 then eaK (ly S) (gO S)
 else loopF S:=by
 have h1:=OE S.root S.types 0;have h2:=OG (ly S) S.root S.types;unfold ma gO fG;by_cases a:(eaR S.root S.types 0).1.1=0
 ·have a':=h1.1.2 a;simp only [a,a',ne_eq,not_true,if_false];by_cases b:(eaL (ly S) (ly S S.root) S.types).1=0
  ·have b':=h2.1.2 b;simp only [b,b',ne_eq,not_true,if_false]
  ·rw [h2.2 b]
 ·rw [h1.2 a];by_cases b:(eaL (ly S) (ly S S.root) S.types).1=0
  ·have b':=h2.1.2 b;simp only [b,b',a,ne_eq,not_true,not_false_eq_true,if_false,if_true]
  ·rw [h2.2 b]
abbrev V5 (S:Sch) (T:List Ty) (m:Int) (e:Nat):St:=
 ⟨[(1,⟨[],.loc 0 0⟩),(2,⟨[],.loc 1 0⟩),(5,⟨[],.sl 9 (iT T) none⟩),(6,⟨[],.v (.int .i64 m)⟩),(7,⟨[],.v (.int .i64 e)⟩)],[gm S,[.v (.int .i64 0),.v (.int .i64 0)]],[]⟩
abbrev aab (S:Sch) (T:List Ty) (e:Nat):St:=
 ⟨[(1,⟨[],.loc 0 0⟩),(2,⟨[],.loc 1 0⟩),(5,⟨[],.sl 9 (iT T) none⟩),(11,⟨[],.v (.int .i64 e)⟩)],[gm S,[.v (.int .i64 0),.v (.int .i64 0)]],[]⟩
abbrev V6 (S:Sch) (e:Nat):St:=
 ⟨[(1,⟨[],.loc 0 0⟩),(2,⟨[],.loc 1 0⟩),(13,⟨[],.v (.int .i64 e)⟩)],[gm S,[.v (.int .i64 0),.v (.int .i64 0)]],[]⟩
theorem C3 {S:Sch} (hs:S.wt<=1099511627776):∀ t∈gO S,t.wt<=1099511627776:=by
 intro t ht;unfold Sch.wt at hs;rcases List.mem_append.1 ht with h | h
 ·obtain ⟨x,hx,rfl⟩:=List.mem_map.1 h;have:=ir hx;omega
 ·simp only [List.mem_singleton] at h;subst h;omega
theorem C4 (S:Sch) (hs:S.wt<=1099511627776):aV prog 60 [.agg (gm S)] (ma S).d:=by
 have Lk:=C3 hs;unfold Sch.wt at hs;have hN:=eB S.types;have fo:=ku S.types;have Ll:=CZ S.ae S.order (by omega) (by omega);have aac:=C0 S (by omega);have fI:=Fi S (by omega);have aad:=fun t ht=>rX S (by omega) (by omega) _ t (aU _) (Lk t ht);have hF:=JN S;have hlen:(gO S).length=S.types.length + 1:=by simp [gO,fG]
 have hnF:(eP S).1=0->S.types.length<=64:=fun h=>by
  unfold eP at h;split at h
  ·cases h
  ·omega
 obtain ⟨ae,order,types,⟨rh,rp⟩⟩:=S;simp only at hs hN fo Ll aac hlen hnF hF;generalize hT:gO ⟨ae,order,types,.mk rh rp⟩=T at Lk fI aad hlen hF;refine eG 104 [.cell 2 45] func60 rfl ntmps60 rfl fun _ _ _ _=>?_;generalize ma ⟨ae,order,types,.mk rh rp⟩=F at hF ⊢;refine cP Yi Ll ?_;refine br ?_ ?_<;>intro h1
 ·have h1:(latF ae order).1≠0:=sU h1;rw [ai h1] at hF;refine ⟨_,?_,rfl⟩;rw [hF];exact ax
 have h1:(latF ae order).1=0:=sU h1;rw [ah (by simp [h1])] at hF;refine cP Yj aac ?_;refine br ?_ ?_<;>intro h2
 ·have h2:(eP ⟨ae,order,types,.mk rh rp⟩).1≠0:=sU h2;rw [ai h2] at hF;refine ⟨_,?_,rfl⟩;rw [hF];exact ax
 have h2:(eP ⟨ae,order,types,.mk rh rp⟩).1=0:=sU h2;rw [ah (by simp [h2])] at hF;have V7:=hnF h2;refine cP XZ fI ?_
 refine bA (fun j st=>∃ (e:Nat) (m:Int),st=V5 ⟨ae,order,types,.mk rh rp⟩ T m e/\e<=types.length + 1/\0<=m/\m<=512/\eaA T 0=eaA (T.drop e) m/\j=types.length + 1 - e) (types.length + 1)
  (V5 ⟨ae,order,types,.mk rh rp⟩ T 0 0) (aj ⟨_,rfl⟩ wA rfl rfl rfl wB) ⟨0,0,rfl,by omega,by omega,by omega,rfl,by omega⟩ ?_
 rintro j st ⟨e,m,rfl,he,pD,kp,aP,rfl⟩;refine br ?_ ?_<;>intro hL
 ·have au:e < types.length + 1:=by have:=hL;simp [eC,hlen] at this;omega
  obtain ⟨t,ht⟩:∃ t,T[e]? = some t:=⟨_,gE (by omega)⟩;have NW:=Lk t (mG ht);have bd:eaA (T.drop e) m=if (cC t m).1.1≠0 then cC t m else eaA (T.drop (e + 1)) (cC t m).2:=by rw [drop_cons ht,eaA]
  have V8:cC t m=if (wrong t 1 0).1.1≠0 then ((wrong t 1 0).1,m) else if 512 < m + t.cnt then ((8,t.h.ba),m + t.cnt) else ((0,0),m + t.cnt):=rfl
  have RB:=C2 t 1 0 NW (by omega) (by omega) (by omega) (by omega);have bT:=lp _ t (aU _) NW;have oX:=t.fi;obtain ⟨u,us⟩:=t;refine iX (kT ht) ?_;refine cP MS RB ?_;refine br ?_ ?_<;>intro g1
  ·have g1:(wrong (.mk u us) 1 0).1.1≠0:=sU g1;rw [ai g1] at V8;rw [aP,bd,V8,ai g1,ai g1] at hF;refine ⟨_,?_,rfl⟩;rw [hF];exact ax
  have g1:(wrong (.mk u us) 1 0).1.1=0:=sU g1;rw [ah (by simp [g1])] at V8;refine iX (kT ht) ?_;refine cP QM bT ?_;have DN:IntKind.i64.wrap (m + ((Ty.mk u us).cnt:Int))=m + (Ty.mk u us).cnt:=wrap64 (by omega) (by omega);refine br ?_ ?_<;>intro g2
  ·have g2:512 < IntKind.i64.wrap (m + ((Ty.mk u us).cnt:Int)):=of_decide_eq_true g2;rw [DN] at g2;rw [ai g2] at V8;rw [aP,bd,V8,ai (by simp),ai (by simp)] at hF;refine iX (kT ht) ?_;refine ⟨_,?_,rfl⟩;rw [hF];exact ax
  ·have g2:¬ 512 < IntKind.i64.wrap (m + ((Ty.mk u us).cnt:Int)):=of_decide_eq_false g2;rw [DN] at g2;rw [ah g2] at V8;rw [V8,ah (by simp)] at bd;exact ⟨V5 ⟨ae,order,types,.mk rh rp⟩ T (m + (Ty.mk u us).cnt) (e + 1),(aj ⟨_,rfl⟩ wA rfl rfl rfl (wB2 DN (aK au (by omega)))),types.length + 1 - (e + 1),by omega,e + 1,_,rfl,by omega,by omega,by omega,by rw [aP,bd],rfl⟩
 have aS:e=types.length + 1:=by have:=hL;simp [eC,hlen] at this;omega
 rw [aP,List.drop_of_length_le (by omega),show eaA [] m=((0,0),m) from rfl,ah (by simp)] at hF
 refine bA (fun j st=>∃ (e:Nat),st=aab ⟨ae,order,types,.mk rh rp⟩ T e/\e<=types.length + 1/\eaK (ly ⟨ae,order,types,.mk rh rp⟩) T=eaK (ly ⟨ae,order,types,.mk rh rp⟩) (T.drop e)/\j=types.length + 1 - e) (types.length + 1)
  (aab ⟨ae,order,types,.mk rh rp⟩ T 0) (aj ⟨_,rfl⟩ wA rfl rfl rfl wB) ⟨0,rfl,by omega,rfl,by omega⟩ ?_
 clear aP hL aS he e;rintro j st ⟨e,rfl,he,aP,rfl⟩;refine br ?_ ?_<;>intro hL
 ·have au:e < types.length + 1:=by have:=hL;simp [eC,hlen] at this;omega
  obtain ⟨t,ht⟩:∃ t,T[e]? = some t:=⟨_,gE (by omega)⟩;have bd:eaK (ly ⟨ae,order,types,.mk rh rp⟩) (T.drop e)=if (ly ⟨ae,order,types,.mk rh rp⟩ t).1≠0 then ly ⟨ae,order,types,.mk rh rp⟩ t else eaK (ly ⟨ae,order,types,.mk rh rp⟩) (T.drop (e + 1)):=by rw [drop_cons ht,eaK]
  have hu:=aad t (mG ht);obtain ⟨u,us⟩:=t;apply oY (fun _=>false) 5 6 [0,1,2,3,4,5,6,7] [0,1,2,3,4,6,5,7] 2 2 mo (by decide +kernel)
  ·refine iX (kT ht) ?_;refine cD MT hu ?_;refine (?_:@Eq St _ _);exact rfl
  ·refine iX (kT ht) ?_;refine cD MT hu ?_;refine (⟨rfl,rfl,?_⟩:_/\_/\_)
   repeat' (first | exact trivial | refine ⟨rfl,?_⟩)
  ·rfl
  refine br ?_ ?_<;>intro g
  ·have g:(ly ⟨ae,order,types,.mk rh rp⟩ (.mk u us)).1≠0:=sU g;rw [aP,bd,ai g,ai g] at hF;refine ⟨_,?_,rfl⟩;rw [hF];exact ax
  ·have g:(ly ⟨ae,order,types,.mk rh rp⟩ (.mk u us)).1=0:=sU g;rw [ah (by simp [g])] at bd;exact rE ⟨_,by omega,e + 1,rfl,by omega,by rw [aP,bd],rfl⟩ (aj ⟨_,rfl⟩ wA rfl rfl rfl (dy (aK au (by omega))))
 have aS:e=types.length + 1:=by have:=hL;simp [eC,hlen] at this;omega
 have I6:(eaK (ly ⟨ae,order,types,.mk rh rp⟩) T).1=0:=by rw [aP,List.drop_of_length_le (by omega)];all_goals rfl
 rw [aP,List.drop_of_length_le (by omega),show eaK (ly ⟨ae,order,types,.mk rh rp⟩) []=(0,0) from rfl,ah (by simp)] at hF
 have TM:∀ x∈types,vG ⟨ae,order,types,.mk rh rp⟩ x.2=true:=fun x hx=>CV (Ib I6 x.2 (by
  rw [<- hT]
  exact List.mem_append_left _ (List.mem_map_of_mem hx)))
 have he99:=yu ⟨ae,order,types,.mk rh rp⟩ V7 TM
 have hlo:F=match bS (fun i=>(endI ⟨ae,order,types,.mk rh rp⟩ (types.length + 1) i).isNone) types.length with
  | none=>(0,0)
  | some i=>(11,VD (vF ⟨ae,order,types,.mk rh rp⟩) i):=hF
 refine bA (fun j st=>∃ e:Nat,st=V6 ⟨ae,order,types,.mk rh rp⟩ e/\e<=types.length/\(∀ i,i < e->(endI ⟨ae,order,types,.mk rh rp⟩ (types.length + 1) i).isNone=false)/\j=types.length - e) types.length
  (V6 ⟨ae,order,types,.mk rh rp⟩ 0) (aj ⟨_,rfl⟩ wA rfl rfl rfl wB) ⟨0,rfl,by omega,fun _ h=>by omega,by omega⟩ ?_
 clear aP hL aS he e;rintro j st ⟨e,rfl,he,fv,rfl⟩;refine br ?_ ?_<;>intro hL
 ·have au:e < types.length:=by have:=hL;simp [hN] at this;exact this
  obtain ⟨x,hx⟩:=gX au;have Ob:(vF ⟨ae,order,types,.mk rh rp⟩)[e]? = some x.1:=JJ hx;have h9:=he99 e au;obtain ⟨xw,⟨xh,xp⟩⟩:=x;refine cP MU h9 ?_;refine br ?_ ?_<;>intro g
  ·have g:endI ⟨ae,order,types,.mk rh rp⟩ (types.length + 1) e=none:=gI.1 g;have DJ:=bI (p:=fun i=>(endI ⟨ae,order,types,.mk rh rp⟩ (types.length + 1) i).isNone) au (by simp only [g];rfl) fv;rw [DJ] at hlo;simp only [lx Ob] at hlo;refine iX (dNms_get hx) ?_;refine ⟨_,?_,rfl⟩;rw [hlo];exact ax
  ·have g:¬ endI ⟨ae,order,types,.mk rh rp⟩ (types.length + 1) e=none:=fun hn=>by have h3:=gI.2 hn;rw [g] at h3;cases h3
   refine ⟨V6 ⟨ae,order,types,.mk rh rp⟩ (e + 1),(aj ⟨_,rfl⟩ wA rfl rfl rfl (dy (aK au (by omega)))),types.length - (e + 1),by omega,e + 1,rfl,by omega,fun i hi=>?_,rfl⟩;rcases eT hi with hi | rfl
   ·exact fv i hi
   ·exact Option.isNone_eq_false_iff.2 (Option.isSome_iff_ne_none.2 g)
 ·have aS:e=types.length:=sW hN hL;rw [aS] at fv;rw [bU fv] at hlo;refine ⟨_,?_,rfl⟩;rw [hlo];exact ax
theorem aF {l:List Ed} {i:Nat} {e:Ed} (h:l[i]? = some e):(cJ l)[i]? = some (CU e):=by simp [cJ,h]
def RH (lev:List Wd->Int) (s:Sch) (t:Ty) (k:Nat):Nd:=⟨t.h.ag,t.h.ba,t.h.lo,t.h.hi,t.h.most,aD t.h.af,edsP lev s t.ps (k + 1)⟩
mutual
theorem wh (lev:List Wd->Int) (s:Sch):∀ (t:Ty) (k:Nat),ndsT lev s t k=(flatT t).zipIdx.map fun x=>RH lev s x.1 (k + x.2)
 | .mk h ps,k=>by
  have ih:=C5 lev s ps (k + 1);rw [ndsT,flatT];split
  ·rfl
  ·rw [ih,List.zipIdx_cons,List.map_cons];rw [List.zipIdx_succ,List.map_map];refine congr (congrArg List.cons rfl) (List.map_congr_left fun x _=>?_);simp only [Function.comp];congr 1;omega
theorem C5 (lev:List Wd->Int) (s:Sch):∀ (ps:Pts) (k:Nat),ye lev s ps k=(flatP ps).zipIdx.map fun x=>RH lev s x.1 (k + x.2)
 | .nil,k=>rfl
 | .cons p u r,k=>by
  rw [ye,flatP,List.zipIdx_append,List.map_append]
  cases hb:p.bare with
  | true=>
   simp only [if_true,List.zipIdx_nil,List.map_nil,List.nil_append,List.length_nil,Nat.add_zero];exact C5 lev s r k
  | false=>
   simp only [Bool.false_eq_true,if_false];rw [wh lev s u k,C5 lev s r (k + u.nn),kz];refine congrArg _ ?_;rw [List.zipIdx_eq_map_add (l:=flatP r) (i:=0 + u.nn)];rw [List.map_map];refine List.map_congr_left fun x _=>?_;simp only [Function.comp];congr 1;omega
end
theorem C6 {X:Lx} {L:List ByteArray}:∀ {ps:Pts},(knP X L ps).1=0->∀ {p:Ph} {u:Ty},(p,u)∈ps.toList->p.bare=false->(knT X L u).1=0
 | .nil,_,p,u,h,_=>by cases h
 | .cons q v r,hk,p,u,h,hb=>by
  rcases bL h with h | h
  ·cases h;exact (tN hk).1 hb
  ·exact C6 (tN hk).2 h hb
theorem tU {w:Int} (h:decide (w=0)=true):l9 w=3:=by unfold l9;rw [ai (of_decide_eq_true h)]
theorem tV {w:Int} (h:decide (w=0)=false):l9 w=w:=by unfold l9;rw [ah (of_decide_eq_false h)]
theorem gW {L:List Ed} {lev:List Wd->Int} {p:Ph} {to w z:Int} (hw:l9 p.wide=w) (ht:to=z):cJ L ++ [[.v (.string p.name.s),.v (.bool p.bare),.v (.int .i64 p.name.a),.v (.int .i64 z),.v (.int .i64 (lev p.label)),.v (.int .i64 w),.v (.int .i64 p.ck),.v (.int .i64 p.cn),.v (.int .i64 (lev p.cl)),.v (.int .i64 p.ca)]]=cJ (L ++ [yd lev p to]):=by
 subst hw ht;simp [cJ,CU,yd]
abbrev aae (S:Sch) (f:Nat->Nat->Bool) (t:Ty) (me:Nat) (q e:Nat):St:=
 ⟨[(1,⟨[],.sl 1 (cS (dD S.ae.length f)) none⟩),(3,⟨[],.v (.int .i64 me)⟩),(4,⟨[],.loc 0 0⟩),(6,⟨[],.loc 1 0⟩),(8,⟨[],.loc 2 0⟩),(9,⟨[],.loc 3 0⟩),(10,⟨[],.v (.int .i64 e)⟩)],
  [gm S,eJ t,[.v (.int .i64 0),.v (.int .i64 0),.v (.int .i64 0),.v (.int .i64 0),.v (.int .i64 0),.v (.slice none 0 0),.v (.slice none 0 0)],
  [.v (.int .i64 t.h.ag),.v (.int .i64 t.h.ba),.v (.int .i64 t.h.lo),.v (.int .i64 t.h.hi),.v (.int .i64 t.h.most),.sl 1 (fp (aD (t.h.af.take e))) (some 0),.v (.slice none 0 0)]],[⟨q,9,1,none⟩]⟩
abbrev Fk (S:Sch) (f:Nat->Nat->Bool) (t:Ty) (q1 q2:Nat) (L:List Ed) (nx e:Nat):St:=
 ⟨[(1,⟨[],.sl 1 (cS (dD S.ae.length f)) none⟩),(4,⟨[],.loc 0 0⟩),(6,⟨[],.loc 1 0⟩),(8,⟨[],.loc 2 0⟩),(9,⟨[],.loc 3 0⟩),(11,⟨[],.v (.int .i64 nx)⟩),(12,⟨[],.v (.int .i64 e)⟩)],
  [gm S,eJ t,[.v (.int .i64 0),.v (.int .i64 0),.v (.int .i64 0),.v (.int .i64 0),.v (.int .i64 0),.v (.slice none 0 0),.v (.slice none 0 0)],
  [.v (.int .i64 t.h.ag),.v (.int .i64 t.h.ba),.v (.int .i64 t.h.lo),.v (.int .i64 t.h.hi),.v (.int .i64 t.h.most),.sl 1 (fp (aD t.h.af)) (some 0),.sl 10 (cJ L) (some 1)]],[⟨q1,9,1,none⟩,⟨q2,146,10,none⟩]⟩
set_option maxHeartbeats 2000000 in
theorem Ic (S:Sch) (hS:S.wt<=1099511627776) (hl:(latF S.ae S.order).1=0) (V7:S.types.length<=64) (hr:∀ x∈S.types,vG S x.2=true) (hlo:∀ i,i < S.types.length->∃ k,endI S (S.types.length + 1) i=some k)
  (t:Ty) (ht:t.wt<=1099511627776) (hk:(ly S t).1=0) (me:Nat) (Vx:me<=1099511627776) :
  aV prog 70 [.agg (gm S),.sl 1 (cS (dD S.ae.length (fA S.ae.length (dV (aD S.ae) S.order)))) none,.agg (eJ t),.v (.int .i64 me)] (.agg (gG (RH (jA S) S t me))):=by
 obtain ⟨hL,VR⟩:=oB hl;have jX:=hL.pos;unfold Sch.wt at hS;have HV:=fun l (h:wdsWt l<=1099511627776)=>Lj S.ae (fA S.ae.length (dV (aD S.ae) S.order)) jX VR (by omega) l h;have hls:∀ l,jA S l=CQ (fA S.ae.length (dV (aD S.ae) S.order)) (aD S.ae) l:=fun _=>rfl;have RI:=fun s i k=>yv S V7 (by omega) hr s i k;have hY:=kQ S;generalize fA S.ae.length (dV (aD S.ae) S.order)=f at HV hls ⊢;obtain ⟨h,ps⟩:=t;have VM:=(nc hk).2;simp only [Ty.wt,Hd.wt] at ht;have nD:=ps.gD;have hc:=ps.fi;have lF:=ps.hZ;have hwl:=bP h.af;generalize W4:jA S=lev at hls ⊢;obtain ⟨ae,order,types,⟨rh,rp⟩⟩:=S;simp only at hS V7 hr hlo HV hls RI hY VM;refine eG 131 [.cell 8 128] func70 rfl ntmps70 rfl fun _ _ _ _=>?_;refine lJ (fun e=>aae ⟨ae,order,types,.mk rh rp⟩ f (.mk h ps) me e e) h.af.length (cW 4 ⟨0,9,1,none⟩ rfl rfl rfl pO rfl rfl lX) ?_;intro e he;refine br ?_ ?_<;>intro hL
 ·have au:e < h.af.length:=by have:=hL;simp [aC] at this;exact this
  obtain ⟨w,hw⟩:=gX au;have du:=kr hw;have c9:(fp (aD (h.af.take e))).length=e:=by simp [fp,aD];omega
  refine dS ?_;refine iX (bg hw) ?_;refine ⟨c9,⟨by simp only [Ty.h];rw [c9];simp [maxLen];omega,by simp only [Ty.h];rw [c9];simp;omega⟩,?_⟩;exact rE ⟨_,by omega,e + 1,rfl,by omega,rfl⟩ (aq 4 rfl (gp (aK au (by omega)) du) rfl rfl rfl (wB2 (aK au (by omega)) du))
 have aS:e=h.af.length:=by have:=hL;simp [aC] at this;omega
 have aaf:IntKind.i64.wrap ((me:Int) + 1)=((me + 1:Nat):Int):=by rw [wrap64 (by omega) (by omega)];omega
 have Ku:fp (aD (h.af.take e))=fp (aD h.af):=by rw [aS,List.take_length]
 refine bA (fun j st=>∃ (e q nx:Nat) (L:List Ed),st=Fk ⟨ae,order,types,.mk rh rp⟩ f (.mk h ps) h.af.length q L nx e/\q=e/\L.length=e/\e<=ps.len/\nx + (ps.drop e).nn=me + 1 + ps.nn/\edsP lev ⟨ae,order,types,.mk rh rp⟩ ps (me + 1)=L ++ edsP lev ⟨ae,order,types,.mk rh rp⟩ (ps.drop e) nx/\j=ps.len - e) ps.len
  (Fk ⟨ae,order,types,.mk rh rp⟩ f (.mk h ps) e 0 [] (me + 1) 0) (cW 4 ⟨0,146,10,none⟩ rfl rfl rfl (gp aaf Ku) rfl rfl (wB2 aaf Ku)) ⟨0,0,me + 1,[],by rw [aS],rfl,rfl,by omega,rfl,rfl,by omega⟩ ?_
 clear he hL aS Ku e;rintro j st ⟨e,q,nx,L,rfl,hq,Z8,he,eU,aP,rfl⟩;refine br ?_ ?_<;>intro hL
 ·have au:e < ps.len:=by simpa [aR] using hL
  obtain ⟨p,u,hx⟩:=Pts.fh au;have hwt:=Pts.gY (mG hx);have hw1:p.name.wt + wdsWt p.label + wdsWt p.cl<=p.wt:=by simp only [Ph.wt];omega
  rw [Pts.drop_cons hx,edsP] at aP;rw [Pts.drop_cons hx,Pts.nn] at eU;have zJ:=HV p.label (by omega);have Rk:=HV p.cl (by omega);unfold K5 at zJ Rk;rw [<- hls] at zJ Rk;obtain ⟨uh,us⟩:=u;refine iX (cr hx) ?_;refine br ?_ ?_<;>intro hw
  all_goals
   refine cP SS zJ ?_;refine cP SS Rk ?_;have c9:(cJ L).length=q:=by rw [aW,Z8,hq]
   refine br ?_ ?_<;>intro hB
   ·have hB:p.bare=true:=hB;have sH:we ⟨ae,order,types,.mk rh rp⟩ p (.mk uh us) nx = -1:=by simp [we,hB]
    rw [hB] at aP eU;refine ⟨c9,⟨by rw [c9];simp [maxLen];omega,by rw [c9];simp;omega⟩,?_⟩;exact ⟨Fk ⟨ae,order,types,.mk rh rp⟩ f (.mk h ps) h.af.length (q + 1) (L ++ [yd lev p (we ⟨ae,order,types,.mk rh rp⟩ p (.mk uh us) nx)]) nx (e + 1),(aq 4 rfl (by repeat' (first | exact rfl | exact aA rfl | exact aE (aK au (by omega)) | exact cR (gW (tU hw) sH) rfl | exact cR (gW (tV hw) sH) rfl | refine ⟨_,_,rfl,?_,?_⟩)) rfl rfl rfl (by repeat' (first | exact trivial | exact aA rfl | exact aE (aK au (by omega)) | exact cR (gW (tU hw) sH) rfl | exact cR (gW (tV hw) sH) rfl | refine ⟨⟨_,rfl,?_⟩,?_⟩))),ps.len - (e + 1),by omega,e + 1,q + 1,nx,_,rfl,by omega,by simp [Z8],by omega,by rw [<- eU];simp,by rw [aP];simp,rfl⟩
   ·have hB:p.bare=false:=hB;have jT:=C6 VM (mG hx) hB;refine br ?_ ?_<;>intro h9
    ·have h9:uh.ag=9:=sU h9;obtain ⟨i,hi⟩:=Option.ne_none_iff_exists'.1 ((nc jT).1 h9);obtain ⟨k,hk⟩:=hlo i (by have:=(dH hi).1;omega);have sH:we ⟨ae,order,types,.mk rh rp⟩ p (.mk uh us) nx=(firstA ⟨ae,order,types,.mk rh rp⟩ k:Int):=by simp [we,hB,oA,Ty.h,h9,VL,hi,namedN,hk]
     refine cP X0 (RI uh.name.s i k hi hk) ?_;refine ⟨c9,⟨by rw [c9];simp [maxLen];omega,by rw [c9];simp;omega⟩,?_⟩;exact ⟨Fk ⟨ae,order,types,.mk rh rp⟩ f (.mk h ps) h.af.length (q + 1) (L ++ [yd lev p (we ⟨ae,order,types,.mk rh rp⟩ p (.mk uh us) nx)]) nx (e + 1),(aq 4 rfl (by repeat' (first | exact rfl | exact aA rfl | exact aE (aK au (by omega)) | exact cR (gW (tU hw) sH) rfl | exact cR (gW (tV hw) sH) rfl | refine ⟨_,_,rfl,?_,?_⟩)) rfl rfl rfl (by repeat' (first | exact trivial | exact aA rfl | exact aE (aK au (by omega)) | exact cR (gW (tU hw) sH) rfl | exact cR (gW (tV hw) sH) rfl | refine ⟨⟨_,rfl,?_⟩,?_⟩))),ps.len - (e + 1),by omega,e + 1,q + 1,nx,_,rfl,by omega,by simp [Z8],by omega,by rw [<- eU];simp [hB,Ty.nn,h9],by rw [aP];simp [hB,Ty.nn,h9],rfl⟩
    ·have h9:¬ uh.ag=9:=sU h9;have sH:we ⟨ae,order,types,.mk rh rp⟩ p (.mk uh us) nx=(nx:Int):=by simp [we,hB,oA,Ty.h,h9]
     have hnn:=(Ty.mk uh us).hZ;have L9:=(Ty.mk uh us).fi
     have DN:IntKind.i64.wrap ((nx:Int) + (iT (flatT (.mk uh us))).length)=((nx + (Ty.mk uh us).nn:Nat):Int):=by
      rw [eC,kz,wrap64 (by omega) (by omega)];omega
     refine cP QP (pj _ (.mk uh us) (aU _) (by omega)) ?_;refine ⟨c9,⟨by rw [c9];simp [maxLen];omega,by rw [c9];simp;omega⟩,?_⟩;exact ⟨Fk ⟨ae,order,types,.mk rh rp⟩ f (.mk h ps) h.af.length (q + 1) (L ++ [yd lev p (we ⟨ae,order,types,.mk rh rp⟩ p (.mk uh us) nx)]) (nx + (Ty.mk uh us).nn) (e + 1),(aq 4 rfl (by repeat' (first | exact rfl | exact aA rfl | exact aE (aK au (by omega)) | exact aE DN | exact cR (gW (tU hw) sH) rfl | exact cR (gW (tV hw) sH) rfl | refine ⟨_,_,rfl,?_,?_⟩)) rfl rfl rfl (by repeat' (first | exact trivial | exact aA rfl | exact aE (aK au (by omega)) | exact aE DN | exact cR (gW (tU hw) sH) rfl | exact cR (gW (tV hw) sH) rfl | refine ⟨⟨_,rfl,?_⟩,?_⟩))),ps.len - (e + 1),by omega,e + 1,q + 1,(nx + (Ty.mk uh us).nn),_,rfl,by omega,by simp [Z8],by omega,by rw [<- eU];simp [hB];omega,by rw [aP];simp [hB],rfl⟩
 have aS:e=ps.len:=by simp [aR] at hL;omega
 rw [aS,Pts.dM,edsP,List.append_nil] at aP;unfold RH;simp only [Ty.h,Ty.ps];rw [aP];exact ⟨_,ax,rfl⟩
def ndsA (lev:List Wd->Int) (s:Sch):List Ty->Nat->List Nd
 | [],_=>[]
 | t :: r,k=>ndsT lev s t k ++ ndsA lev s r (k + t.nn)
def rY (l:List Ty):Nat:=(l.map Ty.nn).sum
theorem oF (t:Ty) (l:List Ty):rY (t :: l)=t.nn + rY l:=by simp [rY]
theorem wi (a b:List Ty):rY (a ++ b)=rY a + rY b:=by simp [rY]
theorem mb (lev:List Wd->Int) (s:Sch):∀ (l:List Ty) (k:Nat),(ndsA lev s l k).length=rY l
 | [],_=>rfl
 | t :: r,k=>by simp only [ndsA,List.length_append,kR,mb lev s r,oF]
theorem yw (lev:List Wd->Int) (s:Sch):∀ (a b:List Ty) (k:Nat),ndsA lev s (a ++ b) k=ndsA lev s a k ++ ndsA lev s b (k + rY a)
 | [],b,k=>by simp [ndsA,rY]
 | t :: r,b,k=>by rw [List.cons_append,ndsA,ndsA,yw lev s r b,List.append_assoc,oF,Nat.add_assoc]
theorem yx (lev:List Wd->Int) (s:Sch):∀ (l:List (Wd × Ty)) (k:Nat),ndsAll lev s l k=ndsA lev s (l.map fun x=>x.2) k
 | [],_=>rfl
 | x :: r,k=>by rw [ndsAll,List.map_cons,ndsA,yx lev s r]
theorem yy (s:Sch):(rT s).length=rY (fG s):=by rw [rT,yx,mb];all_goals rfl
theorem mc (s:Sch):resNds s=ndsA (jA s) s (gO s) 0:=by
 unfold resNds gO;rw [yw,yy,rT,yx,ndsA,ndsA,List.append_nil,Nat.zero_add];rfl
theorem Lm {lev:List Wd->Int} {s:Sch} {l:List Ty} {e:Nat} {t:Ty} (h:l[e]? = some t):ndsA lev s (l.take (e + 1)) 0=ndsA lev s (l.take e) 0 ++ ndsT lev s t (ndsA lev s (l.take e) 0).length:=by
 rw [List.take_add_one,h,yw,mb,Nat.zero_add];simp [ndsA]
theorem Fl (l:List Ty):∀ e,rY (l.take e)<=rY l:=by
 intro e;have:=wi (l.take e) (l.drop e);rw [List.take_append_drop] at this;omega
theorem OH (s:Sch):rY (gO s)<=s.wt:=by
 have key:∀ l:List (Wd × Ty),rY (l.map fun x=>x.2)<=nmsWt l:=by
  intro l
  induction l with
  | nil=>exact aU _
  | cons x r ih=>
   have:=x.2.hZ;have:=x.2.fi;simp only [List.map_cons,oF,nmsWt];omega
 have h1:=key s.types;have h2:=s.root.hZ;have h3:=s.root.fi;unfold gO;rw [wi,oF];unfold Sch.wt fG;simp only [rY,List.map_nil,List.sum_nil] at h1 ⊢;omega
mutual
theorem yz {X:Lx} {L:List ByteArray}:∀ (t:Ty),(knT X L t).1=0->∀ u∈flatT t,(knT X L u).1=0
 | .mk h ps,hk,u,hu=>by
  rw [flatT] at hu;split at hu
  ·cases hu
  ·rcases bL hu with rfl | hu
   ·exact hk
   ·exact Fm ps (nc hk).2 u hu
theorem Fm {X:Lx} {L:List ByteArray}:∀ (ps:Pts),(knP X L ps).1=0->∀ u∈flatP ps,(knT X L u).1=0
 | .nil,_,u,hu=>by cases hu
 | .cons p v r,hk,u,hu=>by
  rw [flatP] at hu;rcases List.mem_append.1 hu with hu | hu
  ·cases hb:p.bare with
   | true=>rw [hb] at hu;cases hu
   | false=>rw [hb] at hu;exact yz v ((tN hk).1 hb) u hu
  ·exact Fm r (tN hk).2 u hu
end
mutual
theorem yA:∀ (t:Ty),∀ u∈flatT t,u.wt<=t.wt
 | .mk h ps,u,hu=>by
  rw [flatT] at hu;split at hu
  ·cases hu
  ·rcases bL hu with rfl | hu
   ·exact aU _
   ·have:=Fo ps u hu;simp only [Ty.wt];omega
theorem Fo:∀ (ps:Pts),∀ u∈flatP ps,u.wt<=ps.wt
 | .nil,u,hu=>by cases hu
 | .cons p v r,u,hu=>by
  rw [flatP] at hu;simp only [Pts.wt];rcases List.mem_append.1 hu with hu | hu
  ·split at hu
   ·cases hu
   ·have:=yA v u hu;omega
  ·have:=Fo r u hu;omega
end
theorem OI {lev:List Wd->Int} {s:Sch} {t u:Ty} {n k:Nat} (h:(flatT t)[k]? = some u):(ndsT lev s t n)[k]? = some (RH lev s u (n + k)):=by
 rw [wh,List.getElem?_map,List.getElem?_zipIdx,h];simp
structure Be (S:Sch):Prop where
 lat:(latF S.ae S.order).1=0
 l64:S.types.length<=64
 kn:∀ t∈gO S,(ly S t).1=0
 ends:∀ i,i < S.types.length->∃ k,endI S (S.types.length + 1) i=some k
 wr:∀ t∈gO S,(wrong t 1 0).1.1=0
theorem OJ:∀ {l:List Ty} {m:Int},(eaA l m).1.1=0->∀ t∈l,(wrong t 1 0).1.1=0
 | [],_,_,t,ht=>by cases ht
 | u :: r,m,h,t,ht=>by
  rw [eaA] at h;split at h
  ·rename_i h1;exact (h1 h).elim
  ·rename_i h1;rcases bL ht with rfl | ht
   ·exact (ph (sU h1)).2.2.1
   ·exact OJ h t ht
theorem yB {S:Sch} (h:(ma S).1=0):Be S:=by
 rw [JN] at h;split at h
 ·rename_i h1;exact (h1 h).elim
 rename_i h1;split at h
 ·rename_i h2;exact (h2 h).elim
 rename_i h2;split at h
 ·rename_i h3;exact (h3 h).elim
 rename_i h3;split at h
 ·rename_i h4;exact (h4 h).elim
 rename_i h4
 exact {
  lat:=sU h1
  l64:=by
   have h2:(eP S).1=0:=sU h2;unfold eP at h2;split at h2
   ·cases h2
   ·omega
  kn:=Ib (sU h4)
  ends:=E8 h
  wr:=OJ (sU h3) }
theorem Be.refs {S:Sch} (h:Be S):∀ x∈S.types,vG S x.2=true:=fun x hx=>CV (h.kn x.2 (List.mem_append_left _ (List.mem_map_of_mem hx)))
abbrev wC (S:Sch) (f:Nat->Nat->Bool) (N:DV) (z:Int):List DV:=[.sl 2 (bQ S.ae) none,.sl 1 (cS (dD S.ae.length f)) none,N,.v (.int .i64 z)]
abbrev OL (S:Sch) (T:List Ty) (f:Nat->Nat->Bool) (L:List Nd) (z:Int) (e q:Nat):St:=
 ⟨[(1,⟨[],.loc 0 0⟩),(2,⟨[],.loc 1 0⟩),(3,⟨[],.loc 2 0⟩),(4,⟨[],.sl 9 (iT T) none⟩),(5,⟨[],.v (.int .i64 e)⟩)],[gm S,[.v (.slice none 0 0),.v (.slice none 0 0),.v (.slice none 0 0),.v (.int .i64 0)],wC S f (.sl 7 (bD L) (some 0)) z],[⟨q,128,7,none⟩]⟩
abbrev TV (S:Sch) (T:List Ty) (f:Nat->Nat->Bool) (L:List Nd) (z:Int) (e:Nat) (F:List Ty) (k q:Nat):St:=
 ⟨[(1,⟨[],.loc 0 0⟩),(2,⟨[],.loc 1 0⟩),(3,⟨[],.loc 2 0⟩),(4,⟨[],.sl 9 (iT T) none⟩),(5,⟨[],.v (.int .i64 e)⟩),(6,⟨[],.sl 9 (iT F) none⟩),(7,⟨[],.v (.int .i64 k)⟩)],[gm S,[.v (.slice none 0 0),.v (.slice none 0 0),.v (.slice none 0 0),.v (.int .i64 0)],wC S f (.sl 7 (bD L) (some 0)) z],[⟨q,128,7,none⟩]⟩
theorem C7 (S:Sch) (hS:S.wt<=1099511627776) (hR:(ma S).1=0) :
  aV prog 24 [.agg (gm S)] (.agg (wC S (fA S.ae.length (dV (aD S.ae) S.order)) (.sl 7 (bD (resNds S)) none) (fF S))):=by
 have Qh:=yB hR;obtain ⟨_,VR⟩:=oB Qh.lat;have Lk:=C3 hS;have Vg:=OH S;have hN0:=(qz Qh.lat).2.2.1;have hrr:=Qh.refs;have eY:=fun t ht hk me Vx=>Ic S hS Qh.lat Qh.l64 hrr Qh.ends t ht hk me Vx;have hwS:=hS;unfold Sch.wt at hS;have RJ:=Fc S.ae S.order VR (by omega) (by omega) hN0;have fI:=Fi S (by have:=Qh.l64;omega);have hlen:(gO S).length=S.types.length + 1:=by simp [gO,fG]
 have V7:=Qh.l64;have RI:=fun s i k=>yv S V7 (by omega) hrr s i k;have I6:=Qh.kn;have yC:=Qh.ends;have hY:=kQ S
 have ox:(gO S)[S.types.length]? = some S.root:=by
  unfold gO;rw [List.getElem?_append_right (by simp [fG])];simp [fG]
 have hrn:=yy S
 have lg:(gO S).take S.types.length=fG S:=by
  unfold gO;rw [List.take_append_of_le_length (by simp [fG])];exact List.take_of_length_le (by simp [fG])
 rw [mc];unfold fF;generalize jA S=lev at eY ⊢;generalize fA S.ae.length (dV (aD S.ae) S.order)=f at eY RJ ⊢;obtain ⟨ae,order,types,⟨rh,rp⟩⟩:=S;simp only at hS RJ hlen V7 yC hY ox lg;generalize hT:gO ⟨ae,order,types,.mk rh rp⟩=T at Lk Vg fI hlen I6 ox lg ⊢;refine eG 67 [.cell 2 68] func24 rfl ntmps24 rfl fun _ _ _ _=>?_;apply oY (fun _=>false) 6 8 [0,1,2,3,4,5,6,7,8,9] [0,1,2,3,4,5,8,6,7,9] 2 2 mo (by decide +kernel)
 ·refine cD U4 RJ ?_;refine (?_:@Eq St _ _);exact rfl
 ·refine cD U4 RJ ?_;refine (⟨rfl,rfl,?_⟩:_/\_/\_)
  repeat' (first | exact trivial | refine ⟨rfl,?_⟩)
 ·rfl
 refine cP XZ fI ?_
 have hLN:∀ e,(ndsA lev ⟨ae,order,types,.mk rh rp⟩ (T.take e) 0).length<=1099511627776:=fun e=>by
  rw [mb];have:=Fl T e;omega
 refine bA (fun j st=>∃ (e q:Nat) (z:Int),st=OL ⟨ae,order,types,.mk rh rp⟩ T f (ndsA lev ⟨ae,order,types,.mk rh rp⟩ (T.take e) 0) z e q/\q=(ndsA lev ⟨ae,order,types,.mk rh rp⟩ (T.take e) 0).length/\e<=types.length + 1/\(e=types.length + 1->z=(rY (T.take types.length):Nat))/\j=types.length + 1 - e) (types.length + 1)
  (OL ⟨ae,order,types,.mk rh rp⟩ T f [] 0 0 0) (cW 3 ⟨0,128,7,none⟩ rfl rfl rfl pO rfl rfl lX) ⟨0,0,0,rfl,rfl,by omega,fun h=>by omega,by omega⟩ ?_
 rintro j st ⟨e,q,z,rfl,hq,he,hz,rfl⟩;refine br ?_ ?_<;>intro hL
 ·have au:e < types.length + 1:=by have:=hL;simp [eC,hlen] at this;omega
  obtain ⟨t,ht⟩:∃ t,T[e]? = some t:=⟨_,gE (by omega)⟩;have NW:=Lk t (mG ht);have htk':=I6 t (mG ht);have Cm:=pj _ t (aU _) NW;have hfk:=yz t htk';have Ri:=yA t;have W9:=Lm (lev:=lev) (s:=⟨ae,order,types,.mk rh rp⟩) ht;have hfln:=kz t;have fo:=kR lev ⟨ae,order,types,.mk rh rp⟩ t (ndsA lev ⟨ae,order,types,.mk rh rp⟩ (T.take e) 0).length;have ff:=fun k u (h:(flatT t)[k]? = some u)=>OI (lev:=lev) (s:=⟨ae,order,types,.mk rh rp⟩) (n:=(ndsA lev ⟨ae,order,types,.mk rh rp⟩ (T.take e) 0).length) h;have hLe:=hLN e;have V9:=hLN (e + 1);have Xa:=mb lev ⟨ae,order,types,.mk rh rp⟩ (T.take e) 0;rw [W9,List.length_append] at V9;obtain ⟨u,us⟩:=t;generalize ndsA lev ⟨ae,order,types,.mk rh rp⟩ (T.take e) 0=L at hq W9 fo ff hLe V9 Xa ⊢;generalize ndsT lev ⟨ae,order,types,.mk rh rp⟩ (.mk u us) L.length=M at W9 fo ff V9;generalize flatT (.mk u us)=F at Cm hfk Ri hfln ff;have bJ:((bD L).length:Int)=(L.length:Int):=by rw [cy]
  refine iX (kT ht) ?_;refine cP QP Cm ?_
  refine bA (fun j st=>∃ (k q:Nat),st=TV ⟨ae,order,types,.mk rh rp⟩ T f (L ++ M.take k) (L.length:Int) e F k q/\q=(L ++ M.take k).length/\k<=F.length/\j=F.length - k) F.length
   (TV ⟨ae,order,types,.mk rh rp⟩ T f (L ++ []) (L.length:Int) e F 0 q) (aq 3 rfl (by repeat' (first | exact rfl | exact aA rfl | exact aE bJ | exact cR (by rw [List.append_nil]) rfl | refine ⟨_,_,rfl,?_,?_⟩)) rfl rfl rfl (by repeat' (first | exact trivial | exact aA rfl | exact aE bJ | exact cR (by rw [List.append_nil]) rfl | refine ⟨⟨_,rfl,?_⟩,?_⟩))) ⟨0,q,rfl,by simp [hq],by omega,by omega⟩ ?_
  rintro j st ⟨k,q',rfl,jk,hk,rfl⟩;refine br ?_ ?_<;>intro kP
  ·have jT:k < F.length:=by have:=kP;simp [eC] at this;exact this
   obtain ⟨v,hv⟩:∃ v,F[k]? = some v:=⟨_,gE jT⟩;have WS:=mG hv;have hvw:=Ri v WS;have c9:(bD (L ++ M.take k)).length=q':=by rw [cy,jk]
   have km:q'=L.length + k:=by rw [jk,List.length_append,zLenT];omega
   have hnd:=eY v (by omega) (hfk v WS) (bD (L ++ M.take k)).length (by omega)
   have du:bD (L ++ M.take k) ++ [gG (RH lev ⟨ae,order,types,.mk rh rp⟩ v (bD (L ++ M.take k)).length)]=bD (L ++ M.take (k + 1)):=by
    rw [List.take_add_one,ff k v hv,c9,km];simp [bD]
   obtain ⟨vh,vp⟩:=v;refine dS ?_;refine iX (kT hv) ?_;refine cD en70 hnd ?_;refine ⟨c9,⟨by rw [c9];simp [maxLen];omega,by rw [c9];simp;omega⟩,?_⟩;exact rE ⟨_,by omega,k + 1,q' + 1,rfl,by rw [km];simp;omega,by omega,rfl⟩ (aq 3 rfl (gp (aK jT (by omega)) du) rfl rfl rfl (wB2 (aK jT (by omega)) du))
  ·have aS:k=F.length:=by have:=kP;simp [eC] at this;omega
   have hM:M.take k=M:=List.take_of_length_le (by omega);rw [hM] at jk;refine ⟨OL ⟨ae,order,types,.mk rh rp⟩ T f (ndsA lev ⟨ae,order,types,.mk rh rp⟩ (T.take (e + 1)) 0) (L.length:Int) (e + 1) q',(aq 3 rfl (by repeat' (first | exact rfl | exact aA rfl | exact aE (aK au (by omega)) | exact cR (by rw [W9,hM]) rfl | refine ⟨_,_,rfl,?_,?_⟩)) rfl rfl rfl (by repeat' (first | exact trivial | exact aA rfl | exact aE (aK au (by omega)) | exact cR (by rw [W9,hM]) rfl | refine ⟨⟨_,rfl,?_⟩,?_⟩))),types.length + 1 - (e + 1),by omega,e + 1,q',_,rfl,by rw [W9,jk],by omega,fun he1=>?_,rfl⟩;rw [Xa,show e=types.length by omega]
 ·have aS:e=types.length + 1:=by have:=hL;simp [eC,hlen] at this;omega
  have hTa:T.take e=T:=List.take_of_length_le (by omega);rw [hTa];have hz:=hz aS;rw [lg,<- hrn] at hz;have TM:=I6 (.mk rh rp) (mG ox);refine br ?_ ?_<;>intro h9
  ·have h9:rh.ag=9:=sU h9;obtain ⟨i,hi⟩:=Option.ne_none_iff_exists'.1 ((nc TM).1 h9);obtain ⟨k,hk⟩:=yC i (by have:=(dH hi).1;omega);have sH:oA ⟨ae,order,types,.mk rh rp⟩ (.mk rh rp) (rT ⟨ae,order,types,.mk rh rp⟩).length=(firstA ⟨ae,order,types,.mk rh rp⟩ k:Int):=by simp [oA,Ty.h,h9,VL,hi,namedN,hk]
   refine cP X0 (RI rh.name.s i k hi hk) ?_;rw [sH];exact ⟨_,ax,rfl⟩
  ·have h9:¬ rh.ag=9:=sU h9;have sH:oA ⟨ae,order,types,.mk rh rp⟩ (.mk rh rp) (rT ⟨ae,order,types,.mk rh rp⟩).length=z:=by simp [oA,Ty.h,h9,hz]
   rw [sH];exact ⟨_,ax,rfl⟩
def TW (t:Ty):Prop:=∃ d m,(wrong t d m).1.1=0
def JO (ag:Int) (p:Ph) (t:Ty):Prop:=(p.bare=true/\ag=8/\sameTy t cA=true/\cf p fQ=true)∨(p.bare=false/\(ep p).1=0/\TW t)
structure TyF (h:Hd) (ps:Pts):Prop where
 k1:1<=h.ag
 k9:h.ag<=9
 own:xH h ps=true
 int:h.ag=2->h.lo<=h.hi
 text:h.ag=3->0<=h.most/\h.most<=4096
 enum:h.ag=4->jt h=(0,0)
 one:h.ag=5∨h.ag=6->∃ p t,ps = .cons p t .nil/\p.name.s=az/\cf p fx=true/\0<=h.most/\h.most<=1024/\TW t
 many:h.ag=7∨h.ag=8->ps.len<=64/\(h.ag=8->ps.len≠0)/\∀ i p t,ps.toList[i]? = some (p,t)->aN (pNames ps) i p.name=0/\JO h.ag p t
theorem Wa {h:Hd} {ps:Pts} (ho:¬ vD (.mk h ps)=false):xH h ps=true:=by
 rw [Jq];cases hb:sameTy (.mk h ps) (mask (.mk h ps))
 ·exact absurd hb ho
 ·rfl
theorem oG {ag:Int} {all:List Wd}:∀ {ps:Pts} {i:Nat} {d m:Int},(wrongPts ag all i ps d m).1.1=0->(ag=7∨ag=8)->∀ j p t,ps.toList[j]? = some (p,t)->aN all (i + j) p.name=0/\JO ag p t
 | .nil,i,d,m,_,_,j,p,t,hx=>by simp [Pts.toList] at hx
 | .cons q u r,i,d,m,he,hk,j,p,t,hx=>by
  simp only [wrongPts] at he;by_cases c0:aN all i q.name≠0
  ·rw [ai c0] at he;exact absurd he c0
  rw [ah c0] at he;have c0:aN all i q.name=0:=sU c0
  have step:∀ d' m',(wrongPts ag all (i + 1) r d' m').1.1=0->JO ag q u->aN all (i + j) p.name=0/\JO ag p t:=by
   intro d' m' h hq
   cases j with
   | zero=>
    simp only [Pts.toList,List.getElem?_cons_zero,oI,Prod.mk.injEq] at hx;obtain ⟨rfl,rfl⟩:=hx;exact ⟨c0,hq⟩
   | succ j=>
    simp only [Pts.toList,List.getElem?_cons_succ] at hx;have:=oG h hk j p t hx
    rwa [show i + 1 + j=i + (j + 1) by omega] at this
  by_cases c1:q.bare=true
  ·rw [ai c1] at he;by_cases c2:ag=7∨sameTy u cA=false∨cf q fQ=false
   ·rw [ai c2] at he;simp at he
   rw [ah c2] at he;refine step d m he (.inl ⟨c1,?_,?_,?_⟩)
   ·rcases hk with hk | hk
    ·exact absurd (.inl hk) c2
    ·exact hk
   ·cases hb:sameTy u cA
    ·exact absurd (.inr (.inl hb)) c2
    ·rfl
   ·cases hb:cf q fQ
    ·exact absurd (.inr (.inr hb)) c2
    ·rfl
  ·rw [ah c1] at he;by_cases c2:(ep q).1≠0
   ·rw [ai c2] at he;exact absurd he c2
   rw [ah c2] at he;by_cases c3:(wrong u (d + 1) m).1.1≠0
   ·rw [ai c3] at he;exact absurd he c3
   rw [ah c3] at he;exact step d _ he (.inr ⟨by simpa using c1,by simpa using c2,d + 1,m,by simpa using c3⟩)
theorem OM:∀ {t:Ty},TW t->TyF t.h t.ps
 | .mk h ps,⟨d,m,he⟩=>by
  simp only [Ty.h,Ty.ps];simp only [wrong] at he;by_cases c0:24 < d
  ·rw [ai c0] at he;simp at he
  rw [ah c0] at he;by_cases c1:512 < m + 1
  ·rw [ai c1] at he;simp at he
  rw [ah c1] at he;by_cases c2:h.ag < 1∨9 < h.ag
  ·rw [ai c2] at he;simp at he
  rw [ah c2] at he;by_cases c3:vD (.mk h ps)=false
  ·rw [ai c3] at he;simp at he
  rw [ah c3] at he;by_cases c4:(h.ag=2/\h.hi < h.lo)∨(h.ag=3/\(h.most < 0∨4096 < h.most))
  ·rw [ai c4] at he;simp at he
  rw [ah c4] at he;by_cases c5:h.ag=9/\bq h.name.s=false
  ·rw [ai c5] at he;simp at he
  rw [ah c5] at he;refine { k1:=by omega,k9:=by omega,own:=Wa c3,int:=fun h2=>by omega,text:=fun h3=>by omega,enum:=fun h4=>?_,one:=fun h5=>?_,many:=fun h7=>?_ }
  ·rw [ai h4] at he;exact AE h he
  ·rw [ah (by omega),ai h5] at he
   match ps,he with
   | .nil,he=>simp [wrongOne] at he
   | .cons p t (.cons _ _ _),he=>simp [wrongOne] at he
   | .cons p t .nil,he=>
    simp only [wrongOne] at he;by_cases e0:p.name.s≠az∨cf p fx=false
    ·rw [ai e0] at he;simp at he
    rw [ah e0] at he;by_cases e1:h.most < 0∨1024 < h.most
    ·rw [ai e1] at he;simp at he
    rw [ah e1] at he;refine ⟨p,t,rfl,Classical.byContradiction fun hn=>e0 (.inl hn),?_,by omega,by omega,d + 1,_,he⟩;cases hb:cf p fx
    ·exact absurd (.inr hb) e0
    ·rfl
  ·rw [ah (by omega),ah (by omega),ai h7] at he;by_cases e0:h.ag=8/\ps.len=0
   ·rw [ai e0] at he;simp at he
   rw [ah e0] at he;by_cases e1:64 < ps.len
   ·rw [ai e1] at he;simp at he
   rw [ah e1] at he;refine ⟨by omega,fun h8=>fun hl=>e0 ⟨h8,hl⟩,fun i p t hx=>?_⟩;have:=oG he h7 i p t hx
   rwa [Nat.zero_add] at this
theorem TyF.sub {h:Hd} {ps:Pts} (hF:TyF h ps) {p:Ph} {u:Ty} (hm:(p,u)∈ps.toList) (hb:p.bare=false):TW u:=by
 obtain ⟨i,hi⟩:=List.mem_iff_getElem?.1 hm
 have hlen:0 < ps.len:=by
  cases ps with
  | nil=>simp [Pts.toList] at hm
  | cons _ _ _=>simp [Pts.len]
 have hk:5<=h.ag/\h.ag<=8:=by
  have h1:=hF.own;unfold xH at h1;simp only [aQ,Bool.or_eq_true,decide_eq_true_eq] at h1;have:=h1.1.1.2;omega
 by_cases h5:h.ag=5∨h.ag=6
 ·obtain ⟨q,t,rfl,_,_,_,_,hw⟩:=hF.one h5;simp only [Pts.toList,List.mem_singleton,Prod.mk.injEq] at hm;rw [hm.2];exact hw
 ·rcases ((hF.many (by omega)).2.2 i p u hi).2 with h1 | h1
  ·rw [h1.1] at hb;cases hb
  ·exact h1.2.2
mutual
theorem Fp:∀ (t:Ty),TW t->∀ u∈flatT t,TW u
 | .mk h ps,hw,u,hu=>by
  rw [flatT] at hu;split at hu
  ·cases hu
  ·rcases bL hu with rfl | hu
   ·exact hw
   ·exact Fq ps (fun p v hm hb=>(OM hw).sub hm hb) u hu
theorem Fq:∀ (ps:Pts),(∀ p v,(p,v)∈ps.toList->p.bare=false->TW v)->∀ u∈flatP ps,TW u
 | .nil,_,u,hu=>by cases hu
 | .cons p v r,hw,u,hu=>by
  rw [flatP] at hu;rcases List.mem_append.1 hu with hu | hu
  ·cases hb:p.bare with
   | true=>rw [hb] at hu;cases hu
   | false=>rw [hb] at hu;exact Fp v (hw p v (by simp [Pts.toList]) hb) u hu
  ·exact Fq r (fun q w hm=>hw q w (by simp [Pts.toList,hm])) u hu
end
mutual
theorem Fs:∀ (t:Ty),∀ u∈flatT t,u.h.ag≠9
 | .mk h ps,u,hu=>by
  rw [flatT] at hu;split at hu
  ·cases hu
  ·rename_i h9;rcases bL hu with rfl | hu
   ·exact h9
   ·exact Fu ps u hu
theorem Fu:∀ (ps:Pts),∀ u∈flatP ps,u.h.ag≠9
 | .nil,u,hu=>by cases hu
 | .cons p v r,u,hu=>by
  rw [flatP] at hu;rcases List.mem_append.1 hu with hu | hu
  ·split at hu
   ·cases hu
   ·exact Fs v u hu
  ·exact Fu r u hu
end
mutual
theorem Bf:∀ (t:Ty) (j:Nat) (u:Ty),(flatT t)[j]? = some u->j + u.nn<=t.nn
 | .mk h ps,j,u,hu=>by
  rw [flatT] at hu;by_cases h9:h.ag=9
  ·rw [ai h9] at hu;simp at hu
  rw [ah h9] at hu
  cases j with
  | zero=>
   simp only [List.getElem?_cons_zero,oI] at hu;subst hu;omega
  | succ j=>
   simp only [List.getElem?_cons_succ] at hu;have:=tW ps j u hu;rw [Ty.nn,ah h9];omega
theorem tW:∀ (ps:Pts) (j:Nat) (u:Ty),(flatP ps)[j]? = some u->j + u.nn<=ps.nn
 | .nil,j,u,hu=>by simp [flatP] at hu
 | .cons p v r,j,u,hu=>by
  rw [flatP] at hu;rw [Pts.nn]
  cases hb:p.bare with
  | true=>
   rw [hb] at hu;have:=tW r j u (sU hu);simp only [if_true];omega
  | false=>
   rw [hb] at hu;simp only [Bool.false_eq_true,if_false] at hu ⊢;by_cases hj:j < (flatT v).length
   ·rw [cm hj] at hu;have:=Bf v j u hu;omega
   ·rw [List.getElem?_append_right (by omega)] at hu;have:=tW r _ u hu;have h2:=kz v;omega
end
theorem yD {lev:List Wd->Int} {s:Sch}:∀ {ps:Pts} {k:Nat} {e:Ed},e∈edsP lev s ps k->∃ p u k',(p,u)∈ps.toList/\e=yd lev p (we s p u k')/\(p.bare=false->k' + u.nn<=k + ps.nn)
 | .nil,k,e,he=>by simp [edsP] at he
 | .cons p u r,k,e,he=>by
  rw [edsP] at he;rcases bL he with rfl | he
  ·refine ⟨p,u,k,by simp [Pts.toList],rfl,fun hb=>?_⟩;rw [Pts.nn,hb];simp
  ·obtain ⟨q,v,k',h1,h2,h3⟩:=yD he;refine ⟨q,v,k',by simp [Pts.toList,h1],h2,fun hb=>?_⟩;have:=h3 hb;rw [Pts.nn];omega
theorem qB {lev:List Wd->Int} {s:Sch}:∀ {ps:Pts} {k:Nat},(edsP lev s ps k).map Ed.name=aD (pNames ps)
 | .nil,k=>rfl
 | .cons p u r,k=>by
  rw [edsP,List.map_cons,qB (ps:=r)];rfl
theorem Bg {f:Nat->Nat->Bool} {n:Nat} (hL:gq f n):∀ e,e<=n->∃ b,b < n/\∀ x,x < e->f b x=true
 | 0,_=>⟨0,hL.pos,fun x hx=>by omega⟩
 | e + 1,he=>by
  obtain ⟨b,hb,dK⟩:=Bg hL e (by omega);obtain ⟨k,hk⟩:=hL.mt b e hb (by omega);obtain ⟨g1,g2,g3,g4⟩:=qx hk;refine ⟨k,g1,fun x hx=>?_⟩;rcases eT hx with hx | rfl
  ·exact hL.tr k b x g1 hb (by omega) g2 (dK x hx)
  ·exact g3
theorem uX {f:Nat->Nat->Bool} {n:Nat} (hL:gq f n) (l:List Nat) (hl:∀ x∈l,x < n):∃ c,fl f n l=some c:=by
 have key:∀ e,e<=l.length->∃ c,fl f n (l.take e)=some c:=by
  intro e
  induction e with
  | zero=>
   intro _;obtain ⟨b,hb,dK⟩:=Bg hL n (aU _);exact ⟨b,qy hL hb dK⟩
  | succ e ih=>
   intro he;obtain ⟨c,hc⟩:=ih (by omega);obtain ⟨x,hx⟩:∃ x,l[e]? = some x:=⟨_,gE (by omega)⟩;have DI:=hl x (mG hx);obtain ⟨k,hk⟩:=hL.jn c x (pg hc) DI;rw [List.take_add_one,hx];exact ⟨k,uV hL (fun y hy=>hl y (List.mem_of_mem_take hy)) DI hc hk⟩
 have:=key l.length (aU _)
 rwa [List.take_length] at this
theorem Bh {L:List ByteArray}:∀ {l:List Wd},(labW L l).1=0->∀ w∈l,∃ i,dz L w.s=some i
 | [],_,w,hw=>by cases hw
 | x :: r,h,w,hw=>by
  rw [labW] at h;split at h
  ·cases h
  ·rename_i h1;rcases bL hw with rfl | hw
   ·exact Option.ne_none_iff_exists'.1 h1
   ·exact Bh h w hw
theorem Ln {f:Nat->Nat->Bool} {L:List ByteArray} (hL:gq f L.length) {l:List Wd} (h:(labW L l).1=0):∃ c:Nat,CQ f L l=c/\c < L.length:=by
 obtain ⟨c,hc⟩:=uX hL (mZ L l) (fun x hx=>by
  unfold mZ at hx;obtain ⟨w,hw,rfl⟩:=List.mem_map.1 hx;obtain ⟨i,hi⟩:=Bh h w hw;rw [hi]
  exact (dH hi).1)
 refine ⟨c,?_,pg hc⟩;unfold CQ;rw [ai h,hc];rfl
structure ON (L N:Nat) (e:Ed):Prop where
 to0:e.bare=true->e.to = -1
 to1:e.bare=false->∃ k:Nat,e.to=k/\k < N
 lab:∃ k:Nat,e.label=k/\k < L
 seen:∃ k:Nat,e.seen=k/\k < L
 wide:1<=e.wide/\e.wide<=64
 ck:0<=e.ck/\e.ck<=3
 cn:(e.ck=0->e.cn=0)/\(e.ck=1->1<=e.cn)/\(e.ck=2->0<=e.cn/\e.cn<=4096)/\(e.ck=3->e.cn=0)
structure cz (L N:Nat) (n:Nd):Prop where
 k1:1<=n.ag
 k8:n.ag<=8
 lohi:n.ag=2->n.lo<=n.hi
 lo0:n.ag≠2->n.lo=0/\n.hi=0
 JP:n.ag=3->0<=n.most/\n.most<=4096
 uY:n.ag=5->0<=n.most/\n.most<=1024
 TX:n.ag≠3->n.ag≠5->n.most=0
 af:n.ag=4->n.af ≠ []/\n.af.length<=64/\n.af.Nodup/\∀ s∈n.af,bq s=true
 Wb:n.ag≠4->n.af=[]
 leaf:n.ag < 5->n.ap=[]
 one:n.ag=5∨n.ag=6->∃ e,n.ap=[e]/\e.bare=false/\e.name=az
 many:n.ag=7∨n.ag=8->n.ap.length<=64/\(n.ag=8->n.ap ≠ [])/\(n.ap.map Ed.name).Nodup/\∀ e∈n.ap,bq e.name=true
 bare:∀ e∈n.ap,e.bare=true->n.ag=8
 fJ:∀ e∈n.ap,ON L N e
theorem yE {l:List Wd} (h:∀ j x,l[j]? = some x->aN l j x=0):(aD l).Nodup/\∀ x∈l,bq x.s=true:=by
 have key:∀ e,e<=l.length->(aD (l.take e)).Nodup:=by
  intro e
  induction e with
  | zero=>intro _;simp [aD]
  | succ e ih=>
   intro he;obtain ⟨x,hx⟩:∃ x,l[e]? = some x:=⟨_,gE (by omega)⟩;exact mY hx (ih (by omega)) (h e x hx)
 refine ⟨by have:=key l.length (aU _);rwa [List.take_length] at this,fun x hx=>?_⟩;obtain ⟨j,hj⟩:=List.mem_iff_getElem?.1 hx;have:=h j x hj;unfold aN at this;cases hb:bq x.s
 ·rw [hb] at this;simp at this
 ·rfl
theorem Bi {all:List Wd}:∀ {l:List Wd} {i:Nat},(enumL all i l).1=0->∀ j x,l[j]? = some x->aN all (i + j) x=0
 | [],i,_,j,x,hx=>by simp at hx
 | y :: r,i,h,j,x,hx=>by
  rw [enumL] at h;split at h
  ·rename_i h1;exact (h1 h).elim
  ·rename_i h1
   cases j with
   | zero=>
    simp only [List.getElem?_cons_zero,oI] at hx;subst hx;simpa using h1
   | succ j=>
    simp only [List.getElem?_cons_succ] at hx;have:=Bi h j x hx
    rwa [show i + 1 + j=i + (j + 1) by omega] at this
theorem C8 {h:Hd} (he:jt h=(0,0)):h.af ≠ []/\h.af.length<=64/\(aD h.af).Nodup/\∀ x∈h.af,bq x.s=true:=by
 unfold jt at he;split at he
 ·cases he
 ·rename_i h1;split at he
  ·cases he
  ·rename_i h2;refine ⟨h1,by omega,?_⟩
   exact yE fun j x hx=>by
    have:=Bi (all:=h.af) (i:=0) (by rw [he]) j x hx
    rwa [Nat.zero_add] at this
theorem JQ {X:Lx} {L:List ByteArray}:∀ {ps:Pts},(knP X L ps).1=0->∀ {p:Ph} {u:Ty},(p,u)∈ps.toList->(X.bad p.label).1=0/\(X.bad p.cl).1=0
 | .nil,_,p,u,h=>by cases h
 | .cons q v r,hk,p,u,h=>by
  have hr:=(tN hk).2;rw [knP] at hk;split at hk
  ·rename_i h1;exact (h1 hk).elim
  rename_i h1;split at hk
  ·rename_i h2;exact (h2 hk).elim
  rename_i h2;rcases bL h with h | h
  ·cases h;exact ⟨by simpa using h1,by simpa using h2⟩
  ·exact JQ hr h
theorem tX {p q:Ph} (h:cf p q=true):p.bare=q.bare/\p.wide=q.wide/\p.ck=q.ck/\p.cn=q.cn:=by
 unfold cf at h;simp only [aQ,beq_iff_eq,decide_eq_true_eq] at h;exact ⟨h.1.1.1.1.1,h.1.1.1.1.2,h.1.1.2,h.1.2⟩
theorem OO {w:Int} (h:0<=w/\w<=64):1<=l9 w/\l9 w<=64:=by
 unfold l9;split<;>omega
theorem Ie {p:Ph} (h:(bz p).1=0):(0<=p.ck/\p.ck<=3)/\(p.ck=0->p.cn=0)/\(p.ck=1->1<=p.cn)/\(p.ck=2->0<=p.cn/\p.cn<=4096)/\(p.ck=3->p.cn=0):=by
 unfold bz at h;by_cases c0:p.ck=0
 ·rw [ai c0] at h;by_cases c1:p.cn=0/\p.cl=[]
  ·exact ⟨by omega,fun _=>c1.1,by omega,by omega,by omega⟩
  ·rw [ah c1] at h;simp at h
 rw [ah c0] at h;by_cases c1:p.ck < 0∨3 < p.ck
 ·rw [ai c1] at h;simp at h
 rw [ah c1] at h;by_cases c2:(p.ck=1/\p.cn < 1)∨(p.ck=2/\(p.cn < 0∨4096 < p.cn))∨(p.ck=3/\p.cn≠0)
 ·rw [ai c2] at h;simp at h
 exact ⟨by omega,by omega,by omega,by omega,by omega⟩
theorem Lo {p:Ph} (h:(ep p).1=0):(0<=p.wide/\p.wide<=64)/\(bz p).1=0:=by
 unfold ep at h;by_cases c0:p.wide < 0∨64 < p.wide
 ·rw [ai c0] at h;simp at h
 rw [ah c0] at h;by_cases c1:(cg p.label).1≠0
 ·rw [ai c1] at h;exact absurd h c1
 rw [ah c1] at h;exact ⟨by omega,h⟩
theorem C9 {t:Ty} (h:t.h.ag≠9):1<=t.nn:=by
 obtain ⟨h',ps⟩:=t;have h:¬ h'.ag=9:=h;rw [Ty.nn,ah h];omega
theorem Bj {S:Sch} {k:Nat} {x:Wd × Ty} (hx:S.types[k]? = some x):firstA S k + x.2.nn<=rY (gO S):=by
 have h1:=oy hx;rw [<- h1]
 have h2:firstA S (k + 1)=rY ((fG S).take (k + 1)):=by
  unfold firstA rY fG;rw [<- List.map_take,List.map_map];rfl
 have h3:=Fl (fG S) (k + 1);have h4:rY (gO S)=rY (fG S) + rY [S.root]:=wi _ _;omega
theorem Fv {lev:List Wd->Int} {s:Sch} {n:Nd}:∀ {l:List Ty} {k i:Nat},(ndsA lev s l k)[i]? = some n->∃ t∈l,∃ u∈flatT t,n=RH lev s u (k + i)/\i + u.nn<=rY l
 | [],k,i,h=>by simp [ndsA] at h
 | t :: r,k,i,h=>by
  rw [ndsA] at h;rw [oF];have hl:=kR lev s t k;by_cases hi:i < t.nn
  ·rw [cm (by omega),wh,List.getElem?_map,List.getElem?_zipIdx] at h
   cases hu:(flatT t)[i]? with
   | none=>rw [hu] at h;simp at h
   | some u=>
    rw [hu] at h;simp only [Option.map_some,oI] at h;have:=Bf t i u hu;exact ⟨t,List.mem_cons_self,u,mG hu,by rw [<- h];simp,by omega⟩
  ·rw [List.getElem?_append_right (by omega),hl] at h;obtain ⟨t',h1,u,h2,h3,h4⟩:=Fv h;refine ⟨t',dj _ h1,u,h2,?_,by omega⟩;rw [h3];congr 1;omega
theorem qC (S:Sch):(resNds S).length=rY (gO S):=by rw [mc,mb]
theorem Lp {S:Sch} (hF:Be S) {i:Nat} {n:Nd} (h:(resNds S)[i]? = some n):cz S.ae.length (resNds S).length n:=by
 rw [qC];rw [mc] at h;obtain ⟨t,ht,u,hu,rfl,jX⟩:=Fv h;rw [Nat.zero_add];have RB:=Fp t ⟨_,_,hF.wr t ht⟩ u hu;have hk:=yz t (hF.kn t ht) u hu;have hk9:=Fs t u hu;have hT:=OM RB;obtain ⟨hLat,_⟩:=oB hF.lat;have fo:=dZ S.ae;have yC:=hF.ends;obtain ⟨uh,us⟩:=u;simp only [Ty.h,Ty.ps] at hT hk9;have VM:=(nc hk).2;have gk:=hT.own;unfold xH at gk;simp only [aQ,Bool.or_eq_true,decide_eq_true_eq] at gk;obtain ⟨⟨⟨⟨o1,o2⟩,o3⟩,o4⟩,o5⟩:=gk;have k1:=hT.k1;have k9:=hT.k9
 have W4:∀ l:List Wd,(labW (aD S.ae) l).1=0->∃ k:Nat,jA S l=k/\k < S.ae.length:=by
  intro l hl;have:=Ln (f:=fA S.ae.length (dV (aD S.ae) S.order)) (L:=aD S.ae) (by rw [fo];exact hLat) hl
  rwa [fo] at this
 have sH:∀ (p:Ph) (v:Ty) (k':Nat),(p,v)∈us.toList->(p.bare=false->k' + v.nn<=i + 1 + us.nn)->(p.bare=true->we S p v k' = -1)/\(p.bare=false->∃ k:Nat,we S p v k'=k/\k < rY (gO S)):=by
  intro p v k' hm dK;refine ⟨fun hb=>by simp [we,hb],fun hb=>?_⟩;have hkv:=C6 VM hm hb;obtain ⟨vh,vs⟩:=v;by_cases h9:vh.ag=9
  ·obtain ⟨j,hj⟩:=Option.ne_none_iff_exists'.1 ((nc hkv).1 h9);have nY:=(dH hj).1;rw [kQ] at nY;obtain ⟨k,hk⟩:=yC j nY;have ej:=rQ hk;obtain ⟨x,hx⟩:∃ x,S.types[k]? = some x:=⟨_,gE ej.1⟩;have h1:=Bj hx;have h2:=C9 (ej.2 x hx);refine ⟨firstA S k,?_,by omega⟩;simp [we,hb,oA,Ty.h,h9,VL,hj,namedN,hk]
  ·have h1:=C9 (t:=.mk vh vs) h9;have h2:=dK hb;have h3:(Ty.mk uh us).nn=1 + us.nn:=by rw [Ty.nn,ah hk9]
   refine ⟨k',by simp [we,hb,oA,Ty.h,h9],by omega⟩
 have EV:∀ p v,(p,v)∈us.toList->(0<=p.wide/\p.wide<=64)/\(0<=p.ck/\p.ck<=3)/\((p.ck=0->p.cn=0)/\(p.ck=1->1<=p.cn)/\(p.ck=2->0<=p.cn/\p.cn<=4096)/\(p.ck=3->p.cn=0))/\(p.bare=true->uh.ag=8):=by
  intro p v hm;obtain ⟨j,hj⟩:=List.mem_iff_getElem?.1 hm
  have hlen:us.len≠0:=by
   cases us with
   | nil=>simp [Pts.toList] at hm
   | cons _ _ _=>simp [Pts.len]
  by_cases h5:uh.ag=5∨uh.ag=6
  ·obtain ⟨q,t',rfl,_,nD,_,_,_⟩:=hT.one h5;simp only [Pts.toList,List.mem_singleton,Prod.mk.injEq] at hm;obtain ⟨rfl,rfl⟩:=hm;obtain ⟨w1,w2,w3,w4⟩:=tX nD;have z1:fx.wide=0:=rfl;have z2:fx.ck=0:=rfl;have z3:fx.cn=0:=rfl;have z4:fx.bare=false:=rfl;rw [z1] at w2;rw [z2] at w3;rw [z3] at w4;rw [z4] at w1;refine ⟨by omega,by omega,⟨by omega,by omega,by omega,by omega⟩,fun hb=>?_⟩;rw [w1] at hb;cases hb
  ·obtain ⟨_,hP⟩:=(hT.many (by omega)).2.2 j p v hj;rcases hP with ⟨hb,h8,_,nD⟩ | ⟨hb,hp,_⟩
   ·obtain ⟨w1,w2,w3,w4⟩:=tX nD;have z1:fQ.wide=0:=rfl;have z2:fQ.ck=0:=rfl;have z3:fQ.cn=0:=rfl;rw [z1] at w2;rw [z2] at w3;rw [z3] at w4;exact ⟨by omega,by omega,⟨by omega,by omega,by omega,by omega⟩,fun _=>h8⟩
   ·obtain ⟨w1,w2⟩:=Lo hp;obtain ⟨w3,w4⟩:=Ie w2;exact ⟨w1,w3,w4,fun h=>by rw [hb] at h;cases h⟩
 have aag:us.len=0->us = .nil:=fun h=>by
  cases us with
  | nil=>rfl
  | cons _ _ _=>simp [Pts.len] at h
 refine {
  k1:=k1
  k8:=by show uh.ag<=8;omega
  lohi:=hT.int
  lo0:=fun h2=>?_
  JP:=hT.text
  uY:=fun h5=>?_
  TX:=fun h3 h5=>?_
  af:=fun h4=>?_
  Wb:=fun h4=>?_
  leaf:=fun h5=>?_
  one:=fun h5=>?_
  many:=fun h7=>?_
  bare:=fun e he hb=>?_
  fJ:=fun e he=>?_ }
 ·show uh.lo=0/\uh.hi=0;exact o1.resolve_left h2
 ·obtain ⟨q,t',rfl,_,_,pD,kp,_⟩:=hT.one (.inl h5);exact ⟨pD,kp⟩
 ·show uh.most=0;exact o2.resolve_left (fun h=>h.elim h3 h5)
 ·obtain ⟨e1,e2,e3,e4⟩:=C8 (hT.enum h4);show aD uh.af ≠ []/\(aD uh.af).length<=64/\(aD uh.af).Nodup/\∀ s∈aD uh.af,bq s=true;refine ⟨fun h=>e1 (by simpa [aD] using h),by rw [dZ];exact e2,e3,fun s hs=>?_⟩;unfold aD at hs;obtain ⟨w,hw,rfl⟩:=List.mem_map.1 hs;exact e4 w hw
 ·show aD uh.af=[];have:=o4.resolve_right h4;have:uh.af=[]:=List.eq_nil_of_length_eq_zero this;rw [this];all_goals rfl
 ·show edsP (jA S) S us (i + 1)=[];have Wc:uh.ag < 5:=h5;rw [aag (o3.resolve_right (by omega))];rfl
 ·show ∃ e,edsP (jA S) S us (i + 1)=[e]/\_;obtain ⟨q,t',rfl,hn,nD,_,_,_⟩:=hT.one h5;refine ⟨yd (jA S) q (we S q t' (i + 1)),rfl,?_,hn⟩;exact (tX nD).1
 ·show (edsP (jA S) S us (i + 1)).length<=64/\(_->edsP (jA S) S us (i + 1) ≠ [])/\((edsP (jA S) S us (i + 1)).map Ed.name).Nodup/\∀ e∈edsP (jA S) S us (i + 1),bq e.name=true;obtain ⟨m1,m2,m3⟩:=hT.many h7
  have fI:∀ j x,(pNames us)[j]? = some x->aN (pNames us) j x=0:=by
   intro j x hx
   have hj:j < us.len:=by
    have:=(gS hx).1
    rwa [gZ] at this
   obtain ⟨p,t',hp⟩:=Pts.fh hj;rw [hU hp] at hx;simp only [oI] at hx;rw [<- hx];exact (m3 j p t' hp).1
  obtain ⟨n1,n2⟩:=yE fI;refine ⟨by rw [rR];exact m1,fun h8 hn=>m2 h8 ?_,by rw [qB];exact n1,fun e he=>?_⟩
  ·have:=rR (jA S) S us (i + 1);rw [hn] at this;simpa using this.symm
  ·have:e.name∈aD (pNames us):=by rw [<- qB (lev:=jA S) (s:=S) (k:=i + 1)];exact List.mem_map_of_mem he
   unfold aD at this;obtain ⟨w,hw,h⟩:=List.mem_map.1 this;rw [<- h];exact n2 w hw
 ·obtain ⟨p,v,k',h1,rfl,_⟩:=yD he;exact (EV p v h1).2.2.2 hb
 ·obtain ⟨p,v,k',h1,rfl,h3⟩:=yD he;obtain ⟨h4,h5⟩:=sH p v k' h1 h3;obtain ⟨h6,h7,h8,_⟩:=EV p v h1;obtain ⟨h9,Ah⟩:=JQ VM h1;exact { to0:=h4,to1:=h5,lab:=W4 _ h9,seen:=W4 _ Ah,wide:=OO h6,ck:=h7,cn:=h8 }
theorem Ig {S:Sch} (hF:Be S):∃ k:Nat,fF S=k/\k < (resNds S).length:=by
 rw [qC];have TM:=hF.kn S.root (by unfold gO;simp);have yC:=hF.ends;have ez:=yy S;have nE:rY (gO S)=rY (fG S) + S.root.nn:=by unfold gO;rw [wi];simp [rY]
 unfold fF;obtain ⟨ae,order,types,⟨rh,rp⟩⟩:=S;simp only at TM yC nE;by_cases h9:rh.ag=9
 ·obtain ⟨j,hj⟩:=Option.ne_none_iff_exists'.1 ((nc TM).1 h9);have nY:=(dH hj).1;rw [kQ] at nY;obtain ⟨k,hk⟩:=yC j nY;have ej:=rQ hk;obtain ⟨x,hx⟩:∃ x,(Sch.mk ae order types (.mk rh rp)).types[k]? = some x:=⟨_,gE ej.1⟩;have h1:=Bj hx;have h2:=C9 (ej.2 x hx);exact ⟨firstA ⟨ae,order,types,.mk rh rp⟩ k,by simp [oA,Ty.h,h9,VL,hj,namedN,hk],by omega⟩
 ·have h1:=C9 (t:=.mk rh rp) h9;exact ⟨(rT ⟨ae,order,types,.mk rh rp⟩).length,by simp [oA,Ty.h,h9],by omega⟩
theorem yF {lev:List Wd->Int} {s:Sch} {n:Nd}:∀ {l:List Ty} {k:Nat},n∈ndsA lev s l k->∃ t∈l,∃ u∈flatT t,∃ k',n=RH lev s u k'
 | [],_,h=>by cases h
 | t :: r,k,h=>by
  rw [ndsA] at h;rcases List.mem_append.1 h with h | h
  ·rw [wh] at h;obtain ⟨x,hx,rfl⟩:=List.mem_map.1 h;have:=(List.mem_zipIdx hx).2.2;refine ⟨t,List.mem_cons_self,x.1,?_,_,rfl⟩;rw [this];exact List.getElem_mem _
  ·obtain ⟨t',ht,h⟩:=yF h;exact ⟨t',dj _ ht,h⟩
theorem pk {S:Sch} {n:Nd} (h:n∈resNds S) (hS:S.wt<=1099511627776):n.af.length<=1099511627776/\n.ap.length<=1099511627776:=by
 rw [mc] at h;obtain ⟨t,ht,u,hu,k,rfl⟩:=yF h;have h1:=C3 hS t ht;have h2:=yA t u hu;obtain ⟨uh,us⟩:=u;have h3:=bP uh.af;have h4:=us.gD;simp only [Ty.wt,Hd.wt] at h2;simp only [RH,Ty.h,Ty.ps,dZ,rR];omega
abbrev zNd:List DV:=[.v (.int .i64 0),.v (.int .i64 0),.v (.int .i64 0),.v (.int .i64 0),.v (.int .i64 0),.v (.slice none 0 0),.v (.slice none 0 0)]
structure eZ (S:Sch) (ND:List Nd) (PC:List DV):Prop where
 fine:Be S
 wt:S.wt<=1099511627776
 A1:ND=resNds S
 ok:∀ n∈ND,cz S.ae.length ND.length n
 nl:ND.length<=1099511627776
 len:aV prog 103 [.pt PC 0] (.v (.int .i64 ND.length))
 root:aV prog 13 [.pt PC 0] (.v (.int .i64 (fF S)))
 av:∀ (i:Nat) n,ND[i]? = some n->aV prog 44 [.pt PC 0,.v (.int .i64 i)] (.tup [.agg (gG n),.v (.bool true)])
 TY:∀ i:Int,(i < 0∨ND.length<=i)->aV prog 44 [.pt PC 0,.v (.int .i64 i)] (.tup [.agg zNd,.v (.bool false)])
 lat:∃ aO js,(gd S aO js).OK/\aV prog 139 [.pt PC 0] (gd S aO js).pd
theorem OP {S:Sch} {d:DV} (hS:S.wt<=1099511627776) (h0:(ma S).1=0) (hd:Oo S d):∃ PC,d = .pt PC 0/\eZ S (resNds S) PC:=by
 obtain ⟨aO,lP,js,hX,hT,jU,rfl⟩:=hd;have hF:=yB h0;have bT:=fun n (h:n∈resNds S)=>pk h hS
 refine ⟨_,rfl,{
  fine:=hF
  wt:=hS
  A1:=rfl
  ok:=fun n hn=>?_
  nl:=by rw [qC];exact Nat.le_trans (OH S) hS
  len:=tP _ _ _ _ _ _
  root:=HW _ _ _ _ _ _
  av:=fun i n h=>HX _ _ _ _ _ _ i n h (bT n (mG h)).1 (bT n (mG h)).2
  TY:=fun i h=>HY _ _ _ _ _ _ i h
  lat:=⟨aO,js,hX,Lb _ _ _ _ _ _⟩ }⟩
 obtain ⟨i,hi⟩:=List.mem_iff_getElem?.1 hn;exact Lp hF hi
def Ih (S:Sch) (r:DV):Prop:=((ma S).1≠0/\r = .tup [.v (.pointer none),(ma S).d])∨((ma S).1=0/\∃ PC,eZ S (resNds S) PC/\r = .tup [.pt PC 0,Ft.d (0,0)])
theorem Bl {S:Sch} (hS:S.wt<=1099511627776) {r:DV} {os:List (List DV)} {tk:List TkE} (h:HR S r os tk):Ih S r:=by
 unfold HR at h;by_cases h0:(ma S).1=0
 ·rw [ah (by rw [h0];simp)] at h;obtain ⟨d,hd,rfl⟩:=h;obtain ⟨PC,rfl,hP⟩:=OP hS h0 hd;exact .inr ⟨h0,PC,hP,rfl⟩
 ·rw [ai h0] at h;exact .inl ⟨h0,h⟩
inductive Val where
 | mk (k n:Int) (s:ByteArray) (ks:List Val)
def Val.k:Val->Int | .mk k _ _ _=>k
def Val.n:Val->Int | .mk _ n _ _=>n
def Val.s:Val->ByteArray | .mk _ _ s _=>s
def Val.ks:Val->List Val | .mk _ _ _ ks=>ks
mutual
def dVal:Val->List DV
 | .mk k n s ks=>[.v (.int .i64 k),.v (.int .i64 n),.v (.string s),.sl 4 (dVals ks) none]
def dVals:List Val->List (List DV)
 | []=>[]
 | v :: r=>dVal v :: dVals r
end
theorem bY:∀ l:List Val,dVals l=l.map dVal
 | []=>rfl
 | v :: r=>by rw [dVals,bY r];all_goals rfl
theorem bV (l:List Val):(dVals l).length=l.length:=by rw [bY,List.length_map]
theorem iv {l:List Val} {e:Nat} {x:Val} (h:l[e]? = some x):(dVals l)[e]? = some (dVal x):=by rw [bY,List.getElem?_map,h];all_goals rfl
theorem qD {l:List Val} {e:Nat} {x:Val} (h:l[e]? = some x):dVals (l.take e) ++ [dVal x]=dVals (l.take (e + 1)):=by
 rw [bY,bY,List.take_add_one,h];simp
mutual
def Val.wt:Val->Nat
 | .mk _ _ s ks=>64 + s.size + dQ ks
def dQ:List Val->Nat
 | []=>0
 | v :: r=>v.wt + dQ r
end
theorem Val.eO:∀ v:Val,64<=v.wt
 | .mk _ _ _ _=>by rw [Val.wt];omega
theorem jR:∀ {l:List Val} {x:Val},x∈l->x.wt<=dQ l
 | v :: r,x,h=>by
  rcases bL h with rfl | h
  ·rw [dQ];omega
  ·have:=jR h;rw [dQ];omega
theorem gP:∀ l:List Val,64 * l.length<=dQ l
 | []=>aU _
 | v :: r=>by
  have:=gP r;have:=v.eO;rw [dQ,List.length_cons];omega
mutual
def j1:Val->Nat
 | .mk _ _ _ ks=>1 + j6 ks
def j6:List Val->Nat
 | []=>0
 | v :: r=>j1 v + j6 r
end
mutual
def zX:Val->Nat
 | .mk _ _ _ ks=>iY ks + 1
def iY:List Val->Nat
 | []=>0
 | v :: r=>max (zX v) (iY r)
end
mutual
theorem wj:∀ v:Val,j1 v<=v.wt/\zX v<=v.wt
 | .mk _ _ _ ks=>by
  have:=yG ks;rw [j1,zX,Val.wt];omega
theorem yG:∀ l:List Val,j6 l<=dQ l/\iY l<=dQ l
 | []=>⟨aU _,aU _⟩
 | v :: r=>by
  have h1:=wj v;have h2:=yG r;rw [j6,iY,dQ];omega
end
theorem qE:∀ (l:List Val) (x:Val),j6 (l ++ [x])=j6 l + j1 x
 | [],x=>by simp [j6]
 | v :: r,x=>by rw [List.cons_append,j6,j6,qE r];omega
theorem yH:∀ (l:List Val) (x:Val),iY (l ++ [x])=max (iY l) (zX x)
 | [],x=>by simp [iY]
 | v :: r,x=>by rw [List.cons_append,iY,iY,yH r];omega
theorem dJ {α:Type} {l:List α} {e:Nat} {x:α} (h:l[e]? = some x):l.take (e + 1)=l.take e ++ [x]:=by rw [List.take_add_one,h];all_goals rfl
theorem yI (l:List Val):∀ e,j6 (l.take e)<=dQ l/\iY (l.take e)<=dQ l:=fun e=>by
 have h1:=yG (l.take e)
 have h2:∀ (l:List Val) e,dQ (l.take e)<=dQ l:=by
  intro l
  induction l with
  | nil=>intro e;simp [dQ]
  | cons v r ih=>
   intro e
   cases e with
   | zero=>simp [dQ]
   | succ e=>have:=ih e;simp only [List.take_succ_cons,dQ];omega
 have:=h2 l e;omega
abbrev szSt (v:Val) (n d e:Nat):St:=
 ⟨[(1,⟨[],.loc 0 0⟩),(4,⟨[],.v (.int .i64 n)⟩),(5,⟨[],.v (.int .i64 d)⟩),(6,⟨[],.v (.int .i64 e)⟩)],[dVal v],[]⟩
theorem uZ:∀ (k:Nat) (v:Val),v.wt<=k->v.wt<=1099511627776->aV prog 7 [.agg (dVal v)] (.tup [.v (.int .i64 (j1 v:Nat)),.v (.int .i64 (zX v:Nat))])
 | 0,v,h,_=>by have:=v.eO;omega
 | k + 1,.mk q n s ks,h,hb=>by
  have ih:=uZ k;have bJ:=bV ks;have ej:=gP ks;have lg:=yI ks;rw [Val.wt] at h hb;rw [j1,zX];refine eG 35 [.tmp 2,.tmp 3] func7 rfl ntmps7 rfl fun _ _ _ _=>?_;refine lJ (fun e=>szSt (.mk q n s ks) (1 + j6 (ks.take e)) (iY (ks.take e)) e) ks.length (aj ⟨_,rfl⟩ wA rfl rfl rfl wB) ?_;intro e he;refine br ?_ ?_<;>intro hL
  ·have au:e < ks.length:=by have:=hL;simp [bJ] at this;exact this
   obtain ⟨x,hx⟩:=gX au;have TB:=jR (mG hx);have hc:=qE (ks.take e) x;have hd:=yH (ks.take e) x;rw [<- dJ hx] at hc hd;have h1:=lg (e + 1);have hi:=ih x (by omega) (by omega);have hcx:=wj x;obtain ⟨xk,xn,xs,xl⟩:=x;refine iX (iv hx) ?_;refine cP en7 hi ?_;have hw:IntKind.i64.wrap (((1 + j6 (ks.take e):Nat):Int) + ((j1 (.mk xk xn xs xl):Nat):Int))=((1 + j6 (ks.take (e + 1)):Nat):Int):=by rw [wrap64 (by omega) (by omega)];omega
   refine br ?_ ?_<;>intro g
   ·have g:iY (ks.take e) < zX (.mk xk xn xs xl):=sU g;have Kx:((zX (.mk xk xn xs xl):Nat):Int)=((iY (ks.take (e + 1)):Nat):Int):=by omega
    exact rE ⟨_,by omega,e + 1,rfl,by omega,rfl⟩ (aj ⟨_,rfl⟩ wA rfl rfl rfl (Ap hw Kx (aK au (by omega))))
   ·have g:¬ iY (ks.take e) < zX (.mk xk xn xs xl):=sU g;have Kx:((iY (ks.take e):Nat):Int)=((iY (ks.take (e + 1)):Nat):Int):=by omega
    exact rE ⟨_,by omega,e + 1,rfl,by omega,rfl⟩ (aj ⟨_,rfl⟩ wA rfl rfl rfl (Ap hw Kx (aK au (by omega))))
  ·have aS:e=ks.length:=sW bJ hL;subst aS;have h1:=lg ks.length;rw [List.take_length] at h1 ⊢;have hw:IntKind.i64.wrap (((iY ks:Nat):Int) + 1)=((iY ks + 1:Nat):Int):=by rw [wrap64 (by omega) (by omega)];omega
   refine ⟨_,(gU hw),rfl⟩
abbrev ctSt (ks:List Val) (n e:Nat):St:=
 ⟨[(3,⟨[],.v (.int .i64 n)⟩),(7,⟨[],.sl 4 (dVals ks) none⟩),(8,⟨[],.v (.int .i64 (dVals ks).length)⟩),(9,⟨[],.v (.int .i64 e)⟩)],[],[]⟩
theorem u3:∀ (k:Nat) (v:Val),v.wt<=k->v.wt<=1099511627776->aV prog 19 [.agg (dVal v)] (.v (.int .i64 (j1 v:Nat)))
 | 0,v,h,_=>by have:=v.eO;omega
 | k + 1,.mk q n s ks,h,hb=>by
  have ih:=u3 k;have bJ:=bV ks;have ej:=gP ks;have lg:=yI ks;rw [Val.wt] at h hb;rw [j1];refine eG 19 [.tmp 2] func19 rfl ntmps19 rfl fun _ _ _ _=>?_;refine lJ (fun e=>ctSt ks (1 + j6 (ks.take e)) e) ks.length (aj ⟨_,rfl⟩ wA rfl rfl rfl wB) ?_;intro e he;refine br ?_ ?_<;>intro hL
  ·have au:e < ks.length:=by have:=hL;simp [bJ] at this;exact this
   obtain ⟨x,hx⟩:=gX au;have TB:=jR (mG hx);have hc:=qE (ks.take e) x;rw [<- dJ hx] at hc;have h1:=lg (e + 1);have hi:=ih x (by omega) (by omega);obtain ⟨xk,xn,xs,xl⟩:=x;refine iX (iv hx) ?_;refine cP XU hi ?_;have hw:IntKind.i64.wrap (((1 + j6 (ks.take e):Nat):Int) + ((j1 (.mk xk xn xs xl):Nat):Int))=((1 + j6 (ks.take (e + 1)):Nat):Int):=by rw [wrap64 (by omega) (by omega)];omega
   exact rE ⟨_,by omega,e + 1,rfl,by omega,rfl⟩ (aj ⟨_,rfl⟩ wA rfl rfl rfl (wB2 hw (aK au (by omega))))
  ·have aS:e=ks.length:=sW bJ hL;subst aS;rw [List.take_length];exact (rfl:_=_)
mutual
def sameV:Val->Val->Bool
 | .mk k n s ks,.mk k' n' s' ks'=>decide (k=k') && decide (n=n') && decide (s=s') && sameVs ks ks'
def sameVs:List Val->List Val->Bool
 | [],[]=>true
 | v :: r,w :: q=>sameV v w && sameVs r q
 | _,_=>false
end
theorem yJ:∀ {a b:List Val},a.length≠b.length->sameVs a b=false
 | [],[],h=>(h rfl).elim
 | v :: r,w :: q,h=>by rw [sameVs,yJ (a:=r) (b:=q) (sU h),Bool.and_false]
 | [],_ :: _,_=>by simp [sameVs]
 | _ :: _,[],_=>by simp [sameVs]
mutual
theorem Bm:∀ {a b:Val},sameV a b=true↔a=b
 | .mk k n s ks,.mk k' n' s' ks'=>by
  have:=@yK ks ks';simp only [sameV,aQ,decide_eq_true_eq,this,Val.mk.injEq,and_assoc]
theorem yK:∀ {a b:List Val},sameVs a b=true↔a=b
 | [],[]=>by simp [sameVs]
 | v :: r,w :: q=>by
  have h1:=@Bm v w;have h2:=@yK r q;simp only [sameVs,aQ,h1,h2,List.cons.injEq]
 | [],_ :: _=>by simp [sameVs]
 | _ :: _,[]=>by simp [sameVs]
end
theorem yL (v:Val):sameV v v=true:=Bm.2 rfl
def Bn (n:Nd) (v:Val):Bool:=
 if 0 < v.ks.length∨(v.k≠3/\v.s≠az)∨(v.k=3/\v.n≠0) then false
 else if n.ag=1 then decide (v.k=1) && (decide (v.n=0) || decide (v.n=1))
 else if n.ag=2 then decide (v.k=2) && decide (n.lo<=v.n) && decide (v.n<=n.hi)
 else if n.ag=3 then decide (v.k=3) && decide ((v.s.size:Int)<=n.most)
 else decide (v.k=4) && decide (0<=v.n) && decide (v.n < n.af.length)
def eS (v:Val):Bool:=decide (v.s=az) && (decide (v.n=0) || decide (v.k=8))
def to0 (n:Nd):Int:=match n.ap[0]? with | some e=>e.to | none=>0
def pI (n:Nd) (v:Val):Option Ed:=if v.k=8/\0<=v.n/\v.n < n.ap.length then n.ap[v.n.toNat]? else none
def kidsL (n:Nd) (v:Val):List Int:=
 if n.ag=5∨n.ag=6 then List.replicate v.ks.length (to0 n)
 else if n.ag=7 then n.ap.map Ed.to
 else match pI n v with | none=>[] | some e=>if e.bare=true then [] else [e.to]
def eD (n:Nd) (v:Val):Bool:=
 if n.ag=5∨n.ag=6 then eS v && decide (v.k=n.ag) && decide ((v.ks.length:Int)<=if n.ag=6 then 1 else n.most)
 else if n.ag=7 then eS v && decide (v.k=7) && decide (n.ap.length=v.ks.length)
 else match pI n v with | none=>false | some _=>eS v && decide ((kidsL n v).length=v.ks.length)
def mf (ND:List Nd) (i:Int):Option Nd:=if i < 0 then none else ND[i.toNat]?
mutual
def fitV (ND:List Nd):Val->Int->Bool
 | .mk k n s ks,i=>match mf ND i with
  | none=>false
  | some d=>if d.ag < 5 then Bn d (.mk k n s ks) else eD d (.mk k n s ks) && fitVs ND ks (kidsL d (.mk k n s ks))
def fitVs (ND:List Nd):List Val->List Int->Bool
 | v :: r,i :: l=>fitV ND v i && fitVs ND r l
 | _,_=>true
end
def JR (n:Nd) (v:Val) (j:Nat):Int:=
 if n.ag=5 then (if (j:Int) < n.most then to0 n else -1)
 else if n.ag=6 then (if j < 1 then to0 n else -1)
 else if n.ag=7 then (match n.ap[j]? with | some e=>e.to | none=>-1)
 else if n.ag=8 then (if j < 1/\0<=v.n/\v.n < n.ap.length then (match n.ap[v.n.toNat]? with | some e=>e.to | none=>-1) else -1)
 else -1
def yM (n:Nd) (v:Val):Bool:=decide (v.k≠n.ag) || (decide (v.k≠3) && decide (v.s≠az)) || (decide (0 < v.s.size) && decide (n.most < (v.s.size:Int)))
def Fw (n:Nd) (v:Val):Bool:=
 if n.ag=1 then decide (v.n=0) || decide (v.n=1)
 else if n.ag=2 then decide (n.lo<=v.n) && decide (v.n<=n.hi)
 else if n.ag=4 then decide (0<=v.n) && decide (v.n < n.af.length)
 else if n.ag=7 then decide (v.n=0) && decide (v.ks.length=n.ap.length)
 else if n.ag=8 then (if 0<=v.n/\v.n < n.ap.length then (match n.ap[v.n.toNat]? with | some e=>decide (decide (v.ks.length=0)=e.bare) | none=>false) else false)
 else decide (v.n=0)
mutual
def yN (ND:List Nd):Val->Int->Bool
 | .mk k n s ks,i=>match mf ND i with
  | none=>false
  | some d=>if yM d (.mk k n s ks)=true then false else Fw d (.mk k n s ks) && refVs ND ks (JR d (.mk k n s ks)) 0
def refVs (ND:List Nd):List Val->(Nat->Int)->Nat->Bool
 | [],_,_=>true
 | v :: r,f,j=>yN ND v (f j) && refVs ND r f (j + 1)
end
theorem Bo (ND:List Nd) (v:Val):yN ND v (-1)=false:=by
 obtain ⟨k,n,s,ks⟩:=v;rw [yN];rfl
theorem Ii {ND:List Nd}:∀ {ks:List Val} {f:Nat->Int} {j:Nat},f j = -1->refVs ND ks f j=decide (ks=[])
 | [],f,j,h=>by simp [refVs]
 | v :: r,f,j,h=>by rw [refVs,h,Bo];simp
theorem oH {ND:List Nd}:∀ {ks:List Val} {f:Nat->Int} {l:List Int} {j:Nat},(∀ v∈ks,∀ i,fitV ND v i=yN ND v i)->l.length=ks.length->(∀ e i,l[e]? = some i->f (j + e)=i)->refVs ND ks f j=fitVs ND ks l
 | [],f,[],j,_,_,_=>by simp [refVs,fitVs]
 | v :: r,f,i :: l,j,ih,hl,h=>by
  have h0:=h 0 i rfl;rw [Nat.add_zero] at h0
  rw [refVs,fitVs,h0,ih v (by simp) i,oH (fun x hx=>ih x (by simp [hx])) (sU hl) fun e i' he=>by
   have:=h (e + 1) i' (sU he)
   rwa [show j + 1 + e=j + (e + 1) by omega]]
 | [],f,_ :: _,j,_,hl,_=>by simp at hl
 | _ :: _,f,[],j,_,hl,_=>by simp at hl
theorem po {ND:List Nd}:∀ {ks:List Val} {f:Nat->Int} {j m:Nat},j<=m->f m = -1->m < j + ks.length->refVs ND ks f j=false
 | [],f,j,m,h1,_,h3=>by simp at h3;omega
 | v :: r,f,j,m,h1,h2,h3=>by
  rw [refVs];by_cases h:j=m
  ·subst h;rw [h2,Bo];all_goals rfl
  ·rw [po (m:=m) (by omega) h2 (by simp at h3;omega),Bool.and_false]
theorem OQ {L:Nat} {ND:List Nd} {d:Nd} (hd:cz L ND.length d) (v:Val) (ih:∀ x∈v.ks,∀ i,fitV ND x i=yN ND x i) :
  (if d.ag < 5 then Bn d v else eD d v && fitVs ND v.ks (kidsL d v))=if yM d v=true then false else Fw d v && refVs ND v.ks (JR d v) 0:=by
 have jK:=hd.k1;have Fx:=hd.k8;have he:(az:ByteArray).size=0:=rfl;have hse:v.s=az->v.s.size=0:=fun h=>by rw [h];all_goals rfl
 by_cases h5:d.ag < 5
 ·rw [ai h5]
  have sH:JR d v 0 = -1:=by
   unfold JR;rw [ah (by omega),ah (by omega),ah (by omega),ah (by omega)]
  rw [Ii sH];unfold Bn yM Fw;have hif:∀ (P:Prop) [Decidable P] (b:Bool),(if P then false else b)=(!decide P && b):=fun P _ b=>by split<;>simp_all
  have Lq:(0 < v.ks.length)↔v.ks ≠ []:=List.length_pos_iff;have hif2:∀ (P b:Bool),(if P=true then false else b)=(!P && b):=fun P b=>by cases P<;>rfl
  rw [hif2,hif];have hm3:=hd.JP;have pD:=hd.TX;rw [Bool.eq_iff_iff];rcases (show d.ag=1∨d.ag=2∨d.ag=3∨d.ag=4 by omega) with c | c | c | c
  all_goals
   by_cases hs:v.s=az
   ·have:=hse hs;by_cases hk:v.ks=[]
    ·simp [c,hs,hk,he]
     first | omega | done
    ·simp [c,hs,hk,he]
   ·by_cases hk:v.ks=[]
    ·have uN:¬ v.s=ByteArray.empty:=hs;simp [c,hs,hk,uN]
     first | omega | done
    ·simp [c,hs,hk]
 rw [ah h5];rcases Decidable.em (¬ v.k=d.ag) with OR | OR
 ·have hb:yM d v=true:=by simp [yM,OR]
  rw [ai hb];unfold eD;by_cases c:d.ag=5∨d.ag=6
  ·rw [ai c];simp [OR]
  rw [ah c];by_cases c7:d.ag=7
  ·rw [ai c7];have:¬ v.k=7:=by omega
   simp [this]
  rw [ah c7];have:pI d v=none:=by unfold pI;rw [ah (by omega)]
  rw [this];all_goals rfl
 have OR:v.k=d.ag:=Decidable.not_not.1 OR;rcases Decidable.em (¬ v.s=az) with hs | hs
 ·have hb:yM d v=true:=by simp [yM,hs,OR];left;omega
  have hp:eS v=false:=by simp [eS,hs]
  rw [ai hb];unfold eD;rw [hp];split
  ·simp
  ·split
   ·simp
   ·split<;>simp
 have hs:v.s=az:=Decidable.not_not.1 hs
 have hb:yM d v=false:=by
  have:=hse hs;simp [yM,OR,hs,he]
 rw [ah (by rw [hb];simp)];by_cases c5:d.ag=5
 ·have hm:=hd.uY c5
  have bw:Fw d v=decide (v.n=0):=by
   unfold Fw;rw [ah (by omega),ah (by omega),ah (by omega),ah (by omega),ah (by omega)]
  have KE:eD d v=(decide (v.n=0) && decide ((v.ks.length:Int)<=d.most)):=by
   unfold eD eS;rw [ai (.inl c5),ah (by omega)];simp [hs,OR,c5]
  have ej:kidsL d v=List.replicate v.ks.length (to0 d):=by unfold kidsL;rw [ai (.inl c5)]
  rw [bw,KE,ej];by_cases dK:(v.ks.length:Int)<=d.most
  ·rw [oH (l:=List.replicate v.ks.length (to0 d)) ih (by simp) fun e i he=>by
    have au:e < v.ks.length:=by
     have:=(gS he).1;simpa using this
    rw [List.getElem?_replicate,ai au] at he;simp only [oI] at he;unfold JR
    rw [ai c5,ai (by omega),he]]
   simp [dK]
  ·rw [po (m:=d.most.toNat) (by omega) (by unfold JR;rw [ai c5,ah (by omega)]) (by omega)];simp [dK]
 by_cases c6:d.ag=6
 ·have bw:Fw d v=decide (v.n=0):=by
   unfold Fw;rw [ah (by omega),ah (by omega),ah (by omega),ah (by omega),ah (by omega)]
  have KE:eD d v=(decide (v.n=0) && decide (v.ks.length<=1)):=by
   unfold eD eS;rw [ai (.inr c6),ai c6];have:((v.ks.length:Int)<=1)↔v.ks.length<=1:=by omega
   simp [hs,OR,c6,this]
  have ej:kidsL d v=List.replicate v.ks.length (to0 d):=by unfold kidsL;rw [ai (.inr c6)]
  rw [bw,KE,ej];by_cases dK:v.ks.length<=1
  ·rw [oH (l:=List.replicate v.ks.length (to0 d)) ih (by simp) fun e i he=>by
    have au:e < v.ks.length:=by
     have:=(gS he).1;simpa using this
    rw [List.getElem?_replicate,ai au] at he;simp only [oI] at he;unfold JR
    rw [ah c5,ai c6,ai (by omega),he]]
   simp [dK]
  ·rw [po (m:=1) (by omega) (by unfold JR;rw [ah c5,ai c6,ah (by omega)]) (by omega)];simp [dK]
 by_cases c7:d.ag=7
 ·have bw:Fw d v=(decide (v.n=0) && decide (v.ks.length=d.ap.length)):=by
   unfold Fw;rw [ah (by omega),ah (by omega),ah (by omega),ai c7]
  have KE:eD d v=(decide (v.n=0) && decide (v.ks.length=d.ap.length)):=by
   unfold eD eS;rw [ah (by omega),ai c7];have:(d.ap.length=v.ks.length)↔(v.ks.length=d.ap.length):=eq_comm;simp [hs,OR,c7,this]
  have ej:kidsL d v=d.ap.map Ed.to:=by unfold kidsL;rw [ah (by omega),ai c7]
  rw [bw,KE,ej];by_cases dK:v.ks.length=d.ap.length
  ·rw [oH (l:=d.ap.map Ed.to) ih (by simp [dK]) fun e i he=>by
    rw [List.getElem?_map] at he;unfold JR;rw [ah c5,ah c6,ai c7,Nat.zero_add]
    cases hx:d.ap[e]? with
    | none=>rw [hx] at he;cases he
    | some x=>rw [hx] at he;simpa using he]
  ·simp [dK]
 have c8:d.ag=8:=by omega
 have bw:Fw d v=(if 0<=v.n/\v.n < d.ap.length then (match d.ap[v.n.toNat]? with | some e=>decide (decide (v.ks.length=0)=e.bare) | none=>false) else false):=by
  unfold Fw;rw [ah (by omega),ah (by omega),ah (by omega),ah c7,ai c8]
 rcases Decidable.em (¬ (0<=v.n/\v.n < d.ap.length)) with hr | hr
 ·have ht:pI d v=none:=by unfold pI;rw [ah (fun h=>hr h.2)]
  have KE:eD d v=false:=by unfold eD;rw [ah (by omega),ah c7,ht]
  rw [KE,bw,ah hr];all_goals rfl
 have hr:0<=v.n/\v.n < d.ap.length:=Decidable.not_not.1 hr;obtain ⟨e,hx⟩:∃ e,d.ap[v.n.toNat]? = some e:=⟨_,gE (by omega)⟩;have ht:pI d v=some e:=by unfold pI;rw [ai ⟨by omega,hr⟩,hx]
 have ej:kidsL d v=if e.bare=true then [] else [e.to]:=by unfold kidsL;rw [ah (by omega),ah c7,ht]
 have KE:eD d v=decide ((kidsL d v).length=v.ks.length):=by
  unfold eD;rw [ah (by omega),ah c7,ht];have hp:eS v=true:=by simp [eS,hs,OR,c8]
  simp only [hp,Bool.true_and]
 have htr:∀ j,JR d v j=if j < 1 then e.to else -1:=fun j=>by
  unfold JR;rw [ah c5,ah c6,ah c7,ai c8,hx];by_cases hj:j < 1
  ·rw [ai ⟨hj,hr⟩,ai hj]
  ·rw [ah (fun h=>hj h.1),ah hj]
 rw [KE,bw,ai hr,hx,ej];simp only
 cases hbr:e.bare with
 | true=>
  simp only [if_true];by_cases hl:v.ks.length=0
  ·have yO:=List.eq_nil_of_length_eq_zero hl;rw [yO];simp [fitVs,refVs]
  ·have:decide (([]:List Int).length=v.ks.length)=false:=decide_eq_false fun h=>hl (by simpa using h.symm);rw [this];simp [hl]
 | false=>
  simp only [Bool.false_eq_true,if_false];by_cases hl:v.ks.length=1
  ·rw [oH (l:=[e.to]) ih (by simp [hl]) fun j i he=>by
    have hj:j < 1:=by have:=(gS he).1;simpa using this
    have:j=0:=by omega
    subst this;rw [htr]
    simpa using he]
   simp [hl]
  ·have h1:¬ ([e.to]:List Int).length=v.ks.length:=by simpa using fun h=>hl h.symm
   by_cases hz:v.ks.length=0
   ·simp [hz]
   ·rw [po (m:=1) (by omega) (by rw [htr];simp) (by omega)];simp only [Bool.and_false];have:decide (([e.to]:List Int).length=v.ks.length)=false:=by simpa using fun h=>hl h.symm
    rw [this];all_goals rfl
mutual
theorem OS {L:Nat} {ND:List Nd} (bw:∀ n∈ND,cz L ND.length n):∀ (v:Val) (i:Int),fitV ND v i=yN ND v i
 | .mk k n s ks,i=>by
  have ih:=JS bw ks;rw [fitV,yN];unfold mf;split
  ·rfl
  ·rename_i h;split at h
   ·cases h
   ·exact OQ (bw _ (mG h)) (.mk k n s ks) ih
theorem JS {L:Nat} {ND:List Nd} (bw:∀ n∈ND,cz L ND.length n):∀ (ks:List Val),∀ x∈ks,∀ i:Int,fitV ND x i=yN ND x i
 | [],x,hx,_=>by cases hx
 | v :: r,x,hx,i=>by
  rcases bL hx with hx | hx
  ·rw [hx];exact OS bw v i
  ·exact JS bw r x hx i
end
end Go.Proofs.YtadhpeooehkklaaGreat
