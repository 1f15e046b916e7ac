/- Part 5 of the proof: resolve.Build; Reading a plan: Len, Root, Lattice, Node, Find; slices.Clone; of no plan as well; The reference of chapter 17: Great, Same; The program's comparing of schemas; The law's example: a type that leads to itself; The law of no plan: the call returns true; The document's relations: Leads; The document's lattices: Find, pairs, Leq, Loop; The document's lattices: what is wrong; The document's labels: over, Least, Of; The document's schemas: Find, word, all, Flat, End, Start; The document's schemas: Flat, End, Start; The document's schemas: named, unknown; The reference's Wrong returns what is wrong with a type; The document's schemas: what is wrong; The document's nodes: Same, of equal ones; the law's node; The document's nodes: node; The document's plan: Build; What is known of a type with which nothing is wrong; labels have levels; What is known of the nodes of a plan; A plan, as its readers know it; Values, plain; how many are in one, how deep they lie; What is read of a value, as the plain data; What the frames of laws over values share; Values that are the same; Which values fit which nodes: plain, as the program finds it and as the document says it. No condition. -/
import Derived.Test.YtadhpeooehkklaaGreatMg3
import Derived.Test.YtadhpeooehkklaaGreatMg4
set_option linter.all false
set_option maxRecDepth 100000
namespace Go.Proofs.YtadhpeooehkklaaGreat
open Go Go.RowKit Dv Go.Proofs.Tryz
abbrev NP (s:Sch) (aM:List Nat) (lc:List DV) (m:Int) (f1 f2:Int) (n:Nat) (base:List DV) (e:Nat):St:=
 ⟨[(1,⟨[],.loc 4 0⟩),(3,⟨[],.loc 3 0⟩),(6,⟨[],.loc 0 0⟩),(59,⟨[],.sl 11 (dNms s.types) none⟩),(60,⟨[],.v (.int .i64 (dNms s.types).length)⟩),(61,⟨[],.v (.int .i64 e)⟩)],
  [bC s (.pt lc 0) (.loc 1 0) m,LF s aM lc n,[.v (.int .i64 f1),.v (.int .i64 f2)],[.v (.int .i64 0),.v (.int .i64 0)],gk s],[Hc n base]⟩
theorem xG (s:Sch) (hs:s.wt<=1099511627776):Ev prog 10 [.agg (gk s)] [] [] (Hg s):=by
 have hF:=l6.eq_1 s;have hw:=hs;simp only [Sch.wt] at hw;have hwl:=bL s.ae;have Wp:=km s.types;have Qm:=Ec s.ae s.order (by omega) (by omega);have uR:=fun lc=>Cd s lc (by omega)
 have cL:∀ t,(t=s.root∨∃ x∈s.types,t=x.2)->t.wt<=1099511627776:=fun t ht=>by
  rcases ht with rfl | ⟨x,hx,rfl⟩
  ·omega
  ·have:=il hx;omega
 have Zc:=fun lc aM=>Hb s lc aM 0 (by omega) (by omega) (by omega) cL;have Zd:=fun (X:Lx) (hX:X.OK) (aM:List Nat) (hT:iT (tL s) aM) (jQ:aM.length<=1099511627776) (m:Int)=>Kv s X.pd (Ha s aM (jC X.af (dz X.af X.aM) X.rows X.js)) m (by omega) 40 Up (knT X (tL s)) (fun t ht=>xz hX s aM (.pt (jC X.af (dz X.af X.aM) X.rows X.js) 0) (.v (.slice none 0 0)) (.v (.int .i64 0)) (.v (.slice none 0 0)) m hT jQ t.wt t (aR _) (cL t ht))
 have Vh:(eK s).1=0->s.types.length<=64:=fun h=>by
  unfold eK at h;split at h
  ·cases h
  ·omega
 have hLx:=fun d h hd=>@QT s d h hd (by omega);have S6:=fun (lat:DV) (aM:List Nat) (a b c e0:DV) (m:Int)=>G9 s lat aM a b c e0 m;have NQ:=fun (lc:List DV) (aM:List Nat) (m:Int)=>Eo s lc aM m;have eW:=fun (X:Lx) (hX:X.OK) (aM:List Nat) (m:Int) (hT:iT (tL s) aM) (jQ:aM.length<=1099511627776) (t:Ty) (ht:t.wt<=1099511627776)=>Aq hX s aM m hT jQ t.wt t (aR _) ht;refine eG 85 [.tmp 2,.cell 3 45] func10 rfl ntmps10 rfl fun _ _ _ _=>?_;generalize hS:s=S at *;obtain ⟨ae,order,types,⟨rh,rp⟩⟩:=s;subst hS;refine kD en36 rfl Qm ax (fun r hr=>?_);by_cases hL:(latF ae order).1≠0
 ·have hL':=hL;rw [ai (show (latF (Sch.mk ae order types (.mk rh rp)).ae (Sch.mk ae order types (.mk rh rp)).order).1≠0 from hL)] at hF;unfold G1 at hr;rw [ai (show (latF (Sch.mk ae order types (.mk rh rp)).ae (Sch.mk ae order types (.mk rh rp)).order).1≠0 from hL)] at hr;subst hr;refine br ?_ ?_<;>intro h
  ·refine dS ?_;exact ⟨_,ax,oo (os:=[]) (tk:=[]) hF hL⟩
  ·exfalso;simp at h;exact hL h
 unfold G1 at hr;rw [ah (show ¬ (latF (Sch.mk ae order types (.mk rh rp)).ae (Sch.mk ae order types (.mk rh rp)).order).1≠0 from hL)] at hF hr;obtain ⟨d,hd,rfl⟩:=hr;have hL0:(latF ae order).1=0:=sU hL;obtain ⟨aM,js,hX,rfl⟩:=hLx d hL0 hd;generalize hXX:fX ⟨ae,order,types,.mk rh rp⟩ aM js=X at hX;refine br (fun h=>?_) (fun _=>?_)
 ·exfalso;simp at h;exact hL h
 refine ie.Za 0 4 rfl rfl rfl rfl (ie.Za 1 3 rfl rfl rfl rfl ?_);refine ka 2 0 en37 rfl rfl rfl mj mj (uR (jC X.af (dz X.af X.aM) X.rows X.js)) (fun r lH dL hΦ h1 h2=>?_);obtain ⟨rfl,Ka⟩:=hΦ;have h2:=List.eq_nil_of_length_eq_zero h2;subst h2;by_cases I1:(eK ⟨ae,order,types,.mk rh rp⟩).1≠0
 ·rw [ai I1] at hF
  obtain ⟨a,b,rfl⟩:∃ a b,lH=[a,b]:=by
   match lH,h1 with
   | [a,b],_=>exact ⟨a,b,rfl⟩
  refine br ?_ ?_<;>intro h
  ·refine dS ?_;exact ⟨_,ax,oo (os:=[]) (tk:=[]) hF I1⟩
  ·exfalso;simp at h;exact I1 h
 rw [ah I1] at hF;have Ze:(eK ⟨ae,order,types,.mk rh rp⟩).1=0:=sU I1;have NR:=Vh Ze;obtain ⟨lL,hT,jQ,rfl⟩:=Ka Ze;refine br (fun h=>?_) (fun _=>?_)
 ·exfalso;simp at h;exact I1 h
 refine ka 2 0 Xp rfl rfl rfl mj mj (Zc (jC X.af (dz X.af X.aM) X.rows X.js) lL) (fun r lH dL hΦ h1 h2=>?_);obtain ⟨rfl,rfl⟩:=hΦ;have h2:=List.eq_nil_of_length_eq_zero h2;subst h2;by_cases hR:(eaR (.mk rh rp) types 0).1.1≠0
 ·rw [ai (show (eaR (Sch.mk ae order types (.mk rh rp)).root (Sch.mk ae order types (.mk rh rp)).types 0).1.1≠0 from hR)] at hF;refine br ?_ ?_<;>intro h
  ·refine dS ?_;exact ⟨_,ax,oo (os:=[]) (tk:=[]) hF hR⟩
  ·exfalso;simp at h;exact hR h
 rw [ah (show ¬ (eaR (Sch.mk ae order types (.mk rh rp)).root (Sch.mk ae order types (.mk rh rp)).types 0).1.1≠0 from hR)] at hF;have hR0:(eaR (.mk rh rp) types 0).1.1=0:=sU hR;refine br (fun h=>?_) (fun _=>?_)
 ·exfalso;simp at h;exact hR h
 have hea:=Zd X hX lL hT (by have:types.length<=64:=NR;have:lL.length<=types.length:=jQ;omega) (eaR (.mk rh rp) types 0).2;have Vi:∀ t,knT X (tL ⟨ae,order,types,.mk rh rp⟩) t=lr ⟨ae,order,types,.mk rh rp⟩ t:=fun t=>by rw [<- hXX];exact Vg _ _ _ t
 have Vj:eaL (knT X (tL ⟨ae,order,types,.mk rh rp⟩)) (knT X (tL ⟨ae,order,types,.mk rh rp⟩) (.mk rh rp)) types=eaL (lr ⟨ae,order,types,.mk rh rp⟩) (lr ⟨ae,order,types,.mk rh rp⟩ (.mk rh rp)) types:=by
  rw [show knT X (tL ⟨ae,order,types,.mk rh rp⟩)=lr ⟨ae,order,types,.mk rh rp⟩ from funext Vi]
 refine vo Xp hea ax rfl rfl ?_;by_cases hK:(eaL (lr ⟨ae,order,types,.mk rh rp⟩) (lr ⟨ae,order,types,.mk rh rp⟩ (.mk rh rp)) types).1≠0
 ·rw [ai (show (eaL (lr ⟨ae,order,types,.mk rh rp⟩) (lr ⟨ae,order,types,.mk rh rp⟩ (Sch.mk ae order types (.mk rh rp)).root) (Sch.mk ae order types (.mk rh rp)).types).1≠0 from hK)] at hF;refine br ?_ ?_<;>intro h
  ·refine dS ?_;refine ⟨.tup [.v (.pointer none),(eaL (knT X (tL ⟨ae,order,types,.mk rh rp⟩)) (knT X (tL ⟨ae,order,types,.mk rh rp⟩) (.mk rh rp)) types).d],ax,?_⟩;rw [Vj];exact oo (os:=[]) (tk:=[]) hF hK
  ·exfalso;simp only [Vj] at h;simp at h;exact hK h
 rw [ah (show ¬ (eaL (lr ⟨ae,order,types,.mk rh rp⟩) (lr ⟨ae,order,types,.mk rh rp⟩ (Sch.mk ae order types (.mk rh rp)).root) (Sch.mk ae order types (.mk rh rp)).types).1≠0 from hK)] at hF;have QW:(eaL (lr ⟨ae,order,types,.mk rh rp⟩) (lr ⟨ae,order,types,.mk rh rp⟩ (.mk rh rp)) types).1=0:=sU hK;refine br (fun h=>?_) (fun _=>?_)
 ·exfalso;have h:(!decide ((eaL (knT X (tL ⟨ae,order,types,.mk rh rp⟩)) (knT X (tL ⟨ae,order,types,.mk rh rp⟩) (.mk rh rp)) types).1=0))=true:=h;rw [Vj,QW] at h;simp at h
 have hw2:wdsWt ae + prsWt order + nmsWt types + (Ty.mk rh rp).wt<=1099511627776:=hw;have hnmw:nmsWt types<=1099511627776:=by omega
 obtain ⟨S7,jP⟩:=NM QW;have hkr':(knT X (tL ⟨ae,order,types,.mk rh rp⟩) (.mk rh rp)).1=0:=by rw [Vi];exact S7
 have Zf:∀ x∈types,(knT X (tL ⟨ae,order,types,.mk rh rp⟩) x.2).1=0:=fun x hx=>by rw [Vi];exact jP x hx
 have Zg:∀ x∈types,uX ⟨ae,order,types,.mk rh rp⟩ x.2=true:=fun x hx=>Cf (Zf x hx);have QX:lL.length<=1099511627776:=by have:types.length<=64:=NR;have:lL.length<=types.length:=jQ;omega
 refine vo en41 (S6 X.pd lL X.pd (.v (.slice none 0 0)) (.v (.int .i64 0)) (.v (.slice none 0 0)) (eaR (.mk rh rp) types 0).2 hT QX NR Zg) ax rfl rfl ?_;by_cases hO:(loopF ⟨ae,order,types,.mk rh rp⟩).1≠0
 ·refine br ?_ ?_<;>intro h
  ·refine dS ?_;exact ⟨_,ax,oo (os:=[]) (tk:=[]) hF hO⟩
  ·exfalso;simp at h;exact hO h
 have hO0:(loopF ⟨ae,order,types,.mk rh rp⟩).1=0:=sU hO;have hF0:(l6 ⟨ae,order,types,.mk rh rp⟩).1=0:=by rw [hF];exact hO0
 refine br (fun h=>?_) (fun _=>?_)
 ·exfalso;simp at h;exact hO h
 refine ka 2 0 en42 rfl rfl rfl mj mj (NQ (jC X.af (dz X.af X.aM) X.rows X.js) lL (eaR (.mk rh rp) types 0).2 hT QX NR Zg hnmw (Et hO0)) (fun r lH dL hΦ h1 h2=>?_);subst hΦ;have h2:=List.eq_nil_of_length_eq_zero h2;subst h2;clear uR Zc Zd S6 NQ hea Qm;have hN:(dNms types).length=types.length:=eo types;obtain ⟨QY,yO,hcm,Zh⟩:=NN (Int.le_refl 0) hR0;generalize (eaR (.mk rh rp) types 0).2=m at hcm Zh ⊢
 refine bz (fun j st=>∃ (e n:Nat) (base:List DV) (N:List Nd),st=NP ⟨ae,order,types,.mk rh rp⟩ lL (jC X.af (dz X.af X.aM) X.rows X.js) m (loopF ⟨ae,order,types,.mk rh rp⟩).1 (loopF ⟨ae,order,types,.mk rh rp⟩).2 n base e/\e<=types.length/\n=N.length/\base=(bq N).flatten/\N ++ ndsAll (jx ⟨ae,order,types,.mk rh rp⟩) ⟨ae,order,types,.mk rh rp⟩ (types.drop e) n=rF ⟨ae,order,types,.mk rh rp⟩/\j=types.length - e) types.length
  (NP ⟨ae,order,types,.mk rh rp⟩ lL (jC X.af (dz X.af X.aM) X.rows X.js) m (loopF ⟨ae,order,types,.mk rh rp⟩).1 (loopF ⟨ae,order,types,.mk rh rp⟩).2 0 [] 0) (dc 5 ⟨0,105,7,some []⟩ rfl rfl rfl pS rfl rfl mi) ⟨0,0,[],[],rfl,by omega,rfl,rfl,rfl,by omega⟩ ?_
 rintro j st ⟨e,n,base,N,rfl,he,hn,R0,Ws,rfl⟩;have hl64':types.length<=64:=NR;have Hj:X.lev=jx ⟨ae,order,types,.mk rh rp⟩:=by rw [<- hXX];all_goals rfl
 have htot:(rF ⟨ae,order,types,.mk rh rp⟩).length + (Ty.mk rh rp).nn<=512:=by
  have h1:=xF types;have h2:=(Ty.mk rh rp).hU;have h3:(rF ⟨ae,order,types,.mk rh rp⟩).length=(types.map fun x=>x.2.nn).sum:=xE _ _ _ _;omega
 have hbl:base.length=n * 7:=by rw [R0,hn,Ax]
 have hNl:n + (ndsAll (jx ⟨ae,order,types,.mk rh rp⟩) ⟨ae,order,types,.mk rh rp⟩ (types.drop e) n).length=(rF ⟨ae,order,types,.mk rh rp⟩).length:=by rw [<- Ws,List.length_append,hn]
 refine br ?_ ?_<;>intro hL
 ·have ap:e < types.length:=by have:=hL;simp [hN] at this;exact this
  obtain ⟨x,hx⟩:=gX ap;have hxm:=mG hx;rw [drop_cons hx,ndsAll] at Ws hNl;rw [List.length_append] at hNl;have fv:=kO (jx ⟨ae,order,types,.mk rh rp⟩) ⟨ae,order,types,.mk rh rp⟩ x.2 n;have eT:=eW X hX lL m hT QX x.2 (cL x.2 (.inr ⟨x,hxm,rfl⟩)) (Zf x hxm) n base (by omega) hbl;rw [Hj] at eT;obtain ⟨xw,⟨xh,xp⟩⟩:=x;refine iX (dNms_get hx) ?_;refine ka 2 1 Qh rfl rfl rfl mj mj eT (fun r lH dL hΦ h1 h2=>?_);obtain ⟨rfl,rfl,rfl⟩:=hΦ;refine ⟨NP ⟨ae,order,types,.mk rh rp⟩ lL (jC X.af (dz X.af X.aM) X.rows X.js) m (loopF ⟨ae,order,types,.mk rh rp⟩).1 (loopF ⟨ae,order,types,.mk rh rp⟩).2 (n + (ndsT (jx ⟨ae,order,types,.mk rh rp⟩) ⟨ae,order,types,.mk rh rp⟩ (.mk xh xp) n).length) (base ++ (bq (ndsT (jx ⟨ae,order,types,.mk rh rp⟩) ⟨ae,order,types,.mk rh rp⟩ (.mk xh xp) n)).flatten) (e + 1),(au 5 rfl (ny (aJ ap (by omega))) rfl rfl rfl (dt (aJ ap (by omega)))),types.length - (e + 1),by omega,e + 1,_,_,N ++ ndsT (jx ⟨ae,order,types,.mk rh rp⟩) ⟨ae,order,types,.mk rh rp⟩ (.mk xh xp) n,rfl,by omega,by rw [List.length_append,hn],by rw [R0];simp [bq],?_,rfl⟩;rw [List.append_assoc,fv];exact Ws
 have aQ:e=types.length:=sW hN hL;subst aQ;rw [List.drop_length,ndsAll,List.append_nil] at Ws;rw [List.drop_length,ndsAll,List.length_nil,Nat.add_zero] at hNl;have hnr:=eW X hX lL m hT QX (.mk rh rp) (by omega) hkr' n base (by omega) hbl;rw [Hj] at hnr;intro E a w hr;have iw:=jF hr;obtain ⟨b0,ty0,JP,iB,hw0,JO⟩:=iw.env.fk 0 _ rfl;obtain ⟨b1,ty1,arr1,py,hw1,Ir⟩:=iw.env.fk 1 _ rfl;obtain ⟨v13,hv13,Zi⟩:=RvL.get (i:=13) (d:=.loc 1 0) JO.1 rfl
 have Zj:v13 = .pointer (some ⟨b1,0,none⟩):=by
  unfold Rv at Zi;obtain ⟨b,hb,rfl⟩:=Zi;rw [py] at hb;simp only [oI] at hb;rw [hb]
 subst Zj
 have qS:w.drew.cell? ⟨b0,13,none⟩=some (.pointer (some ⟨b1,0,none⟩)):=by
  rw [cS hw0];simpa using hv13
 have Ui:=QN iw.env [0,1,2,3];generalize BK:maskL [0,1,2,3] 0 _=bxm at Ui
 have hbmi:∀ (i:Nat) cs,bxm[i]? = some cs->cs ≠ []->2<=i:=fun i cs hi bp=>by
  rw [<- BK] at hi
  match i,hi with
  | 0,hi=>exact (bp (by simpa [maskL] using hi.symm)).elim
  | 1,hi=>exact (bp (by simpa [maskL] using hi.symm)).elim
  | i + 2,_=>omega
 refine lB (C:=fun w'=>CC E bxm w.drew w' /\ w'.cell? ⟨b0,13,none⟩=some (.pointer (some ⟨b1,0,none⟩))) (W:=fun i=>Nat.beq i 10) (Q:=fun a w=>kq _ _ .normal a w) mo (by decide +kernel) (fun _ _ h=>h) ⟨⟨fun _ _ _ _ _ _=>rfl,iw.env.sub⟩,qS⟩ ?_;show Go.Proofs.YtadhpeooehkklaaGreat.Dv.runT _ _ _ _ _ [0,1,2,3,4,5,6,7,8,9,10] _ _;refine mX iw rfl rfl rfl rfl rfl rfl (fun a0 h0=>?_);refine mX h0 rfl rfl rfl rfl rfl rfl (fun a1 h1=>?_);refine mX h1 rfl rfl rfl rfl rfl rfl (fun a2 h2=>?_);refine QP h2 rfl py rfl rfl iB rfl rfl (fun w' h=>h.2) ⟨⟨fun _ _ _ _ _ _=>rfl,iw.env.sub⟩,qS⟩ rfl rfl (fun a3 h3=>?_);refine mX h3 rfl rfl rfl rfl rfl rfl (fun a4 h4=>?_);refine mX h4 rfl rfl rfl rfl rfl rfl (fun a5 h5=>?_);refine QO h5 rfl (bx:=bxm) (QM h5 Ui (fun w' h=>h.1)) ⟨⟨fun _ _ _ _ _ _=>rfl,iw.env.sub⟩,qS⟩ rfl rfl (by rw [<- BK];rfl) rfl (fun a6 h6=>?_);refine QQ h6 rfl rfl rfl rfl rfl rfl Qh 2 1 rfl rfl mj mj hnr rfl rfl ?_;intro v r lH dL E' w' hΦ _ _ ch SC hx hβ hh;obtain ⟨rfl,rfl,rfl⟩:=hΦ;refine ⟨fun _ hC=>⟨⟨fun i b cs hb dr bp=>?_,fun x v Wm=>ch.env.sub x v (hx.c x v Wm)⟩,?_⟩,?_⟩
 ·exact hh i b (hbmi i cs dr bp) hb
 ·obtain ⟨b0',ty0',arr0',Vk,hw0',hc0'⟩:=ch.env.fk 0 _ rfl;rw [hβ,iB] at Vk;simp only [oI] at Vk;subst Vk;obtain ⟨u13,hu13,Zk⟩:=RvL.get (i:=13) (d:=.loc 1 0) hc0'.1 rfl;unfold Rv at Zk;obtain ⟨b,hb,rfl⟩:=Zk;rw [hβ,py] at hb;simp only [oI] at hb;subst hb;rw [cS hw0'];simpa using hu13
 have h7:=bG (dst:=some 77) ch rfl _ v SC;have hrN:(rF ⟨ae,order,types,.mk rh rp⟩).length=n:=by rw [<- Ws,hn]
 have sC:base ++ (bq (ndsT (jx ⟨ae,order,types,.mk rh rp⟩) ⟨ae,order,types,.mk rh rp⟩ (.mk rh rp) n)).flatten=(bq (ba ⟨ae,order,types,.mk rh rp⟩)).flatten:=by
  unfold ba;rw [hrN,<- Ws,R0];simp [bq]
 have Zl:(bq (ba ⟨ae,order,types,.mk rh rp⟩)).length=n + (ndsT (jx ⟨ae,order,types,.mk rh rp⟩) ⟨ae,order,types,.mk rh rp⟩ (.mk rh rp) n).length:=by
  unfold ba;rw [hrN];simp [bq,hrN]
 obtain ⟨E3,h8⟩:=QR h7 1 1 0 (ns:=bq (ba ⟨ae,order,types,.mk rh rp⟩)) (congrArg (fun b=>some (Hc (n + (ndsT (jx ⟨ae,order,types,.mk rh rp⟩) ⟨ae,order,types,.mk rh rp⟩ (.mk rh rp) n).length) b)) sC) (fun x hx=>by
  simp only [bq,List.mem_map] at hx;obtain ⟨y,_,rfl⟩:=hx
  rfl) Zl rfl rfl List.length_replicate
 refine mX h8 rfl rfl rfl rfl rfl rfl (fun a8 h9=>?_);refine mX h9 rfl rfl rfl rfl rfl rfl (fun a9 zA=>?_);refine Kz zA rfl rfl rfl rfl rfl rfl ?_;refine ⟨.tup [.pt [X.pd,.sl 7 (bq (ba ⟨ae,order,types,.mk rh rp⟩)) none,.v (.int .i64 (oi ⟨ae,order,types,.mk rh rp⟩ (.mk rh rp) n)),.pt (dz (tL ⟨ae,order,types,.mk rh rp⟩) lL) 0,.sl 1 (dInts (namedL ⟨ae,order,types,.mk rh rp⟩)) none] 0,Ft.d (0,0)],ax,QU (os:=[]) (tk:=[]) hF0 ⟨aM,lL,js,by rw [hXX];exact hX,hT,jQ,?_⟩⟩;rw [S4,hXX,gl,hrN]
theorem QZ (es:List (List DV)) (hl:es.length<=1099511627776):Ev prog 104 [.sl 1 es none] [] [] (fun r _ _=>r = .sl 1 es none∨(es=[]/\r = .v (.slice none 0 0))):=by
 refine eG 8 [.tmp 2] func104 rfl ntmps104 rfl fun _ _ _ _=>?_;refine NK ⟨_,rfl⟩ rfl rfl rfl rfl (fun b hb=>?_);refine br ?_ ?_<;>intro h
 ·have h:b=true:=h;have he:es=[]:=Classical.byContradiction fun hn=>by rw [hb hn] at h;cases h
  subst he;exact Or.inr ⟨rfl,rfl⟩
 ·refine Er rfl rfl rfl rfl (hk:=?_);refine ⟨rfl,⟨by simp [maxLen];omega,by simp;omega⟩,?_⟩;exact ⟨_,ax,Or.inl rfl⟩
theorem Q0 (es:List (List DV)) (hl:es.length<=1099511627776):Ev prog 105 [.sl 10 es none] [] [] (fun r _ _=>r = .sl 10 es none∨(es=[]/\r = .v (.slice none 0 0))):=by
 refine eG 8 [.tmp 2] func105 rfl ntmps105 rfl fun _ _ _ _=>?_;refine NK ⟨_,rfl⟩ rfl rfl rfl rfl (fun b hb=>?_);refine br ?_ ?_<;>intro h
 ·have h:b=true:=h;have he:es=[]:=Classical.byContradiction fun hn=>by rw [hb hn] at h;cases h
  subst he;exact Or.inr ⟨rfl,rfl⟩
 ·refine Er rfl rfl rfl rfl (hk:=?_);refine ⟨rfl,⟨by simp [maxLen];omega,by simp;omega⟩,?_⟩;exact ⟨_,ax,Or.inl rfl⟩
def Zm (lc:List DV) (Ao:List Nd) (root:Int) (L:List ByteArray) (aM:List Nat) (named:List Nat):DV:=.pt [.pt lc 0,.sl 7 (bq Ao) none,.v (.int .i64 root),.pt (dz L aM) 0,.sl 1 (dInts named) none] 0
theorem cw (l:List Nd):(bq l).length=l.length:=by simp [bq]
theorem bZ {l:List Nd} {i:Nat} {n:Nd} (h:l[i]? = some n):(bq l)[i]? = some (gL n):=by simp [bq,h]
section
variable (lc:List DV) (Ao:List Nd) (root:Int) (L:List ByteArray) (aM:List Nat) (named:List Nat)
theorem tp:aV prog 103 [Zm lc Ao root L aM named] (.v (.int .i64 Ao.length)):=by
 refine eG 10 [.tmp 2] func103 rfl ntmps103 rfl fun _ _ _ _=>?_;refine (congrArg (fun z=>DV.v (.int .i64 z)) ?_:_=_);rw [cw]
theorem Hk:aV prog 13 [Zm lc Ao root L aM named] (.v (.int .i64 root)):=by
 refine eG 9 [.tmp 2] func13 rfl ntmps13 rfl fun _ _ _ _=>?_;exact (rfl:_=_)
theorem KA:aV prog 139 [Zm lc Ao root L aM named] (.pt lc 0):=by
 refine eG 9 [.tmp 2] func139 rfl ntmps139 rfl fun _ _ _ _=>?_;exact ⟨_,ax,rfl⟩
theorem Hl (i:Nat) (n:Nd) (h:Ao[i]? = some n) (hn:n.af.length<=1099511627776) (he:n.ak.length<=1099511627776) :
  aV prog 44 [Zm lc Ao root L aM named,.v (.int .i64 i)] (.tup [.agg (gL n),.v (.bool true)]):=by
 have ap:=(gS h).1;have hlen:=tp lc Ao root L aM named;have Ir:=QZ (fl n.af) (by rw [ct];exact hn);have lA:=Q0 (cG n.ak) (by rw [aT];exact he);refine eG 32 [.cell 4 105,.tmp 5] func44 rfl ntmps44 rfl fun _ _ _ _=>?_;refine cP DG hlen ?_;refine br ?_ ?_<;>intro g
 ·exfalso;simp [pickB] at g;omega
 refine iX (bZ h) ?_;refine dS ?_;refine q6 XG rfl Ir ax (fun r1 hr1=>?_);rcases hr1 with rfl | ⟨h1,rfl⟩
 ·refine q6 Sa rfl lA ax (fun r2 hr2=>?_);rcases hr2 with rfl | ⟨h2,rfl⟩
  ·exact ⟨.tup [.agg (gL n),.v (.bool true)],ax,rfl⟩
  ·exact ⟨.tup [.agg (gL n),.v (.bool true)],(by repeat' (first | exact rfl | exact trivial | exact Or.inr (Or.inl ⟨_,rfl⟩) | exact Or.inr ⟨_,rfl⟩ | exact Or.inl ⟨rfl,rfl⟩ | exact Or.inl rfl | refine Or.inr ⟨_,_,rfl,Nat.zero_le _,rfl,?_⟩ | refine ⟨_,_,rfl,?_,?_⟩ | refine ⟨_,rfl,?_⟩ | exact Or.inl ⟨h2,rfl⟩ | refine Or.inr (Or.inr (Or.inr ⟨_,_,rfl,?_⟩)) | exact Or.inl rfl | refine Or.inr ?_)),rfl⟩
 ·refine q6 Sa rfl lA ax (fun r2 hr2=>?_);rcases hr2 with rfl | ⟨h2,rfl⟩
  ·exact ⟨.tup [.agg (gL n),.v (.bool true)],(by repeat' (first | exact rfl | exact trivial | exact Or.inr (Or.inl ⟨_,rfl⟩) | exact Or.inr ⟨_,rfl⟩ | exact Or.inl ⟨rfl,rfl⟩ | exact Or.inl rfl | refine Or.inr ⟨_,_,rfl,Nat.zero_le _,rfl,?_⟩ | refine ⟨_,_,rfl,?_,?_⟩ | refine ⟨_,rfl,?_⟩ | exact Or.inl ⟨h1,rfl⟩ | refine Or.inr (Or.inr (Or.inr ⟨_,_,rfl,?_⟩)) | exact Or.inl rfl | refine Or.inr ?_)),rfl⟩
  ·exact ⟨.tup [.agg (gL n),.v (.bool true)],(by repeat' (first | exact rfl | exact trivial | exact Or.inr (Or.inl ⟨_,rfl⟩) | exact Or.inr ⟨_,rfl⟩ | exact Or.inl ⟨rfl,rfl⟩ | exact Or.inl rfl | refine Or.inr ⟨_,_,rfl,Nat.zero_le _,rfl,?_⟩ | refine ⟨_,_,rfl,?_,?_⟩ | refine ⟨_,rfl,?_⟩ | exact Or.inl ⟨h1,rfl⟩ | exact Or.inl ⟨h2,rfl⟩ | refine Or.inr (Or.inr (Or.inr ⟨_,_,rfl,?_⟩)) | exact Or.inl rfl | refine Or.inr ?_)),rfl⟩
theorem Hm (i:Int) (h:i < 0∨Ao.length<=i) :
  aV prog 44 [Zm lc Ao root L aM named,.v (.int .i64 i)] (.tup [.agg [.v (.int .i64 0),.v (.int .i64 0),.v (.int .i64 0),.v (.int .i64 0),.v (.int .i64 0),.v (.slice none 0 0),.v (.slice none 0 0)],.v (.bool false)]):=by
 have hlen:=tp lc Ao root L aM named;refine eG 32 [.cell 4 105,.tmp 5] func44 rfl ntmps44 rfl fun _ _ _ _=>?_;refine br ?_ ?_<;>intro g
 ·refine cP DG hlen ?_;refine br ?_ ?_<;>intro g2
  ·exact ⟨_,ax,rfl⟩
  ·exfalso;simp at g;simp [pickB,g] at g2;omega
 ·exact ⟨_,ax,rfl⟩
end
abbrev Cg (s:Sch) (n d k q:Int) (e:Nat):St:=
 ⟨[(1,⟨[],.loc 0 0⟩),(3,⟨[],.v (.int .i64 n)⟩),(4,⟨[],.v (.int .i64 d)⟩),(5,⟨[],.v (.int .i64 e)⟩)],[gk s],[]⟩
theorem Ch (s:Sch) (cL:s.wt<=1099511627776):Ev prog 8 [.agg (gk s)] [] [] (fun d _ _=>∃ b:Bool,d = .v (.bool b)):=by
 have h1:=bL s.ae;have h2:=jr s.order;have h3:=km s.types;simp only [Sch.wt] at cL;have og:=ll s.root.wt s.root (aR _) (by omega);obtain ⟨ae,order,types,⟨h,ps⟩⟩:=s;simp only at h1 h2 h3 cL og;refine eG 60 [.tmp 2] func8 rfl ntmps8 rfl fun _ _ _ _=>?_;refine br ?_ ?_<;>intro _
 ·exact ⟨true,rfl⟩
 refine cP Qg og ?_;refine bz (fun j st=>∃ (e:Nat) (n d:Int),st=Cg ⟨ae,order,types,.mk h ps⟩ n d 0 0 e/\e<=types.length/\j=types.length - e) types.length (Cg ⟨ae,order,types,.mk h ps⟩ (Ty.mk h ps).cnt (Ty.mk h ps).deep 0 0 0) (aj ⟨_,rfl⟩ wA rfl rfl rfl wB) ⟨0,_,_,rfl,by omega,by omega⟩ ?_;rintro j st ⟨e,n,d,rfl,he,rfl⟩;refine br ?_ ?_<;>intro hL
 ·have ap:e < types.length:=by have:=hL;simp [eo] at this;exact this
  obtain ⟨w,hw⟩:=gX ap;have yO:=il (mG hw);have hs:=ll w.2.wt w.2 (aR _) (by omega);obtain ⟨w,u,us⟩:=w;simp only at hs;refine iX (dNms_get hw) ?_;refine cP Qg hs ?_;refine br ?_ ?_<;>intro _
  ·exact ⟨Cg ⟨ae,order,types,.mk h ps⟩ _ _ 0 0 (e + 1),(aj ⟨_,rfl⟩ wA rfl rfl rfl (dt (aJ ap (by omega)))),types.length - (e + 1),by omega,e + 1,_,_,rfl,by omega,rfl⟩
  ·exact ⟨Cg ⟨ae,order,types,.mk h ps⟩ _ _ 0 0 (e + 1),(aj ⟨_,rfl⟩ wA rfl rfl rfl (dt (aJ ap (by omega)))),types.length - (e + 1),by omega,e + 1,_,_,rfl,by omega,rfl⟩
 exact ⟨_,rfl⟩
def samePrs:List (Wd × Wd)->List (Wd × Wd)->Bool
 | [],[]=>true
 | x :: r,y :: s=>(decide (x.1.s=y.1.s) && decide (x.2.s=y.2.s)) && samePrs r s
 | _,_=>false
def sameNms:List (Wd × Ty)->List (Wd × Ty)->Bool
 | [],[]=>true
 | x :: r,y :: s=>(decide (x.1.s=y.1.s) && sameTy x.2 y.2) && sameNms r s
 | _,_=>false
def Iv (a b:Sch):Bool:=sameWds a.ae b.ae && samePrs a.order b.order && sameTy a.root b.root && sameNms a.types b.types
theorem KB:∃ d,Op.maxDepth=d + 1 + 1 + 1:=⟨Op.maxDepth - 3,by decide⟩
theorem NS (p q r s:Int) (w:World):(Op.equal 45 (.agg #[.int .i64 p,.int .i64 q]) (.agg #[.int .i64 r,.int .i64 s])).run prog w = .ok (decide (p=r) && decide (q=s)) w:=by
 have hf:prog.underlying 45=some (.struct (prog.fieldsOf 45)):=by simp [Program.fieldsOf,Tryz.underlying45]
 have vU:(prog.fieldsOf 45).toList=[⟨ "E",43,0,false, "", "",0⟩,⟨ "At",3,1,false, "", "",8⟩]:=by simp [Program.fieldsOf,Tryz.underlying45]
 have hs:prog.stoodInHeld 45=false:=by kernel_rfl
 obtain ⟨d,hm⟩:=KB
 have q9:∀ cs:Array Value,∀ off v,cs[off]? = some v->(part 43 cs off).run prog w = .ok v w:=fun cs off v h=>by
  simp [part,Tryz.isAgg43,h]
 have q3:∀ cs:Array Value,∀ off v,cs[off]? = some v->(part 3 cs off).run prog w = .ok v w:=fun cs off v h=>by
  simp [part,Tryz.isAgg3,h]
 unfold Op.equal;rw [hm,run_equalIn_struct w (d + 1 + 1) 45 _ _ hf hs,vU];simp only [Op.eqFields,ne_eq,String.reduceEq,not_false_eq_true,if_true,Sem.run_bind,q9 #[.int .i64 p,.int .i64 q] 0 (.int .i64 p) rfl,q9 #[.int .i64 r,.int .i64 s] 0 (.int .i64 r) rfl,Result.andThen_ok,run_equalIn_int w (d + 1) 43 .i64 .i64 p r Tryz.underlying43];by_cases h:p=r
 ·subst h;have e1:=q3 #[.int .i64 p,.int .i64 q] 1 (.int .i64 q) rfl;have e2:=q3 #[.int .i64 p,.int .i64 s] 1 (.int .i64 s) rfl;have e3:=run_equalIn_int w (d + 1) 3 .i64 .i64 q s Tryz.underlying3;by_cases h2:q=s
  ·subst h2;simp [e1,e3,Sem.run_pure]
  ·simp [e1,e2,e3,h2,Sem.run_pure]
 ·simp [h,Sem.run_pure]
theorem Vl (p q r s:Int) (w:World):(binOp .eql 45 (.agg #[.int .i64 p,.int .i64 q]) (.agg #[.int .i64 r,.int .i64 s])).run prog w = .ok (.bool (decide (p=r) && decide (q=s))) w:=by
 show ((do let r <- Op.equal 45 _ _;pure (Value.bool r)):Sem Value).run prog w=_;simp only [Sem.run_bind,NS p q r s w,Result.andThen_ok,Sem.run_pure]
theorem NT (op:BinOp) (w:World) (x y:Operand) (vs vs':Array Value):(eqGuard op 45 x y (.agg vs) (.agg vs')).run prog w = .ok () w:=by
 have h:prog.eqGuardType prog.depth 45=false:=by kernel_rfl
 cases op<;>simp [eqGuard,run_program,h]
theorem Vm (x y:Operand) (f g:Ft):Bs prog .eql x y 45 [.v (.int .i64 f.1),.v (.int .i64 f.2)] [.v (.int .i64 g.1),.v (.int .i64 g.2)] (decide (f.1=g.1) && decide (f.2=g.2)):=
 ⟨[.int .i64 f.1,.int .i64 f.2],[.int .i64 g.1,.int .i64 g.2],rfl,rfl,fun w=>⟨NT _ w x y _ _,Vl f.1 f.2 g.1 g.2 w⟩⟩
def cB (r:List Bool):List DV:=r.map fun b=>DV.v (.bool b)
def qD (r:List Bool):List (List DV):=r.map fun b=>[DV.v (.bool b)]
def cW (m:List (List Bool)):List (List DV):=m.map fun r=>[DV.sl 1 (qD r) none]
theorem qc (r:List Bool):(cB r).length=r.length:=by simp [cB]
theorem vw (r:List Bool):(qD r).length=r.length:=by simp [qD]
theorem xH (m:List (List Bool)):(cW m).length=m.length:=by simp [cW]
theorem Hn {r:List Bool} {i:Nat} {b:Bool} (h:r[i]? = some b):(cB r)[i]? = some (DV.v (.bool b)):=by simp [cB,h]
theorem xI (r:List Bool) (i:Nat) (b:Bool):(cB r).set i (DV.v (.bool b))=cB (r.set i b):=by simp [cB,List.map_set]
theorem rG {r:List Bool} {i:Nat} {b:Bool} (h:r[i]? = some b):(qD r)[i]? = some [DV.v (.bool b)]:=by simp [qD,h]
theorem NU {m:List (List Bool)} {i:Nat} {r:List Bool} (h:m[i]? = some r):(cW m)[i]? = some [DV.sl 1 (qD r) none]:=by simp [cW,h]
theorem rH (r:List Bool):(qD r).flatten=cB r:=by
 induction r with
 | nil=>rfl
 | cons b r ih=>simp only [qD,cB,List.map_cons,List.flatten_cons] at ih ⊢;rw [ih];all_goals rfl
theorem Eu (n:Nat):(List.replicate n (vL [Value.bool false])).flatten=cB (List.replicate n false):=by
 induction n with
 | zero=>rfl
 | succ n ih=>simp only [List.replicate_succ,List.flatten_cons,ih];rfl
theorem cA {n m:Nat} {tk:List TkE} {l:List DV} {r:List Bool} (h:l=cB r):WeL n m tk l (cB r):=by
 subst h;refine wX _ fun x hx=>?_;obtain ⟨z,_,rfl⟩:=List.mem_map.1 hx;exact ⟨_,rfl⟩
theorem S8 {bx:List (List DV)} {N n0 m0 n:Nat} {r:List Bool} (hr:r.length=n) (hN:N<=0) (hb:bx[0]? = some (cB r)):Cc bx N n0 m0 (.sl 1 (qD r) none) (.ms 0 1 0 n n):=by
 simp only [Cc];refine Or.inr (Or.inr (Or.inl ⟨0,0,n,_,by rw [vw,hr],hN,hb,?_,?_,?_⟩))
 ·rw [rH,List.drop_zero,List.take_of_length_le (by rw [qc,vw];omega)]
 ·intro x hx;simp only [qD,List.mem_map] at hx;obtain ⟨_,_,rfl⟩:=hx;rfl
 ·intro x hx;rw [rH] at hx;obtain ⟨_,_,rfl⟩:=List.mem_map.1 hx;exact ⟨_,rfl⟩
def gB (n:Nat) (l:List (Nat × Nat)):List (List Bool):=(List.range n).map (uV n l)
theorem Ho (n:Nat) (l:List (Nat × Nat)):(gB n l).length=n:=by simp [gB]
theorem Hp {n a:Nat} (l:List (Nat × Nat)) (h:a < n):(gB n l)[a]? = some (uV n l a):=by simp [gB,List.getElem?_range h]
theorem KC {n:Nat} {l:List (Nat × Nat)} (h:sX n l):gB n l=dJ n (fy n l):=by
 unfold gB dJ;exact List.map_congr_left fun a ha=>Qw h (List.mem_range.1 ha)
def jW (l:List (Nat × Nat)) (r:List Bool) (e:Nat):List Bool:=(l.take e).foldl iK r
theorem Hq (l:List (Nat × Nat)) (r:List Bool) (e:Nat):(jW l r e).length=r.length:=pY (l.take e) r
theorem Ew {l:List (Nat × Nat)} {r:List Bool} {e:Nat} {p:Nat × Nat} (h:l[e]? = some p):jW l r (e + 1)=iK (jW l r e) p:=by
 unfold jW;rw [List.take_add_one,h];simp
abbrev ldSt (n:Nat) (l:List (Nat × Nat)) (q e:Nat):St:=
 ⟨[(0,⟨[],.v (.int .i64 n)⟩),(1,⟨[],.sl 2 (mO l) none⟩),(5,⟨[],.sl 1 (cW ((gB n l).take e)) (some 0)⟩),(6,⟨[],.v (.int .i64 e)⟩)],[],[⟨q,140,1,none⟩]⟩
abbrev Zn (n:Nat) (l:List (Nat × Nat)) (q e:Nat) (r:List Bool) (k:Nat):St:=
 ⟨[(0,⟨[],.v (.int .i64 n)⟩),(1,⟨[],.sl 2 (mO l) none⟩),(5,⟨[],.sl 1 (cW ((gB n l).take e)) (some 0)⟩),(6,⟨[],.v (.int .i64 e)⟩),(7,⟨[],.ms 0 1 0 n n⟩),(8,⟨[],.v (.int .i64 k)⟩)],[cB r],[⟨q,140,1,none⟩]⟩
abbrev Zo (n:Nat) (l:List (Nat × Nat)) (q e:Nat) (r:List Bool) (k i:Nat):St:=
 ⟨[(0,⟨[],.v (.int .i64 n)⟩),(1,⟨[],.sl 2 (mO l) none⟩),(5,⟨[],.sl 1 (cW ((gB n l).take e)) (some 0)⟩),(6,⟨[],.v (.int .i64 e)⟩),(7,⟨[],.ms 0 1 0 n n⟩),(8,⟨[],.v (.int .i64 k)⟩),(9,⟨[],.v (.int .i64 i)⟩)],[cB r],[⟨q,140,1,none⟩]⟩
abbrev Zp (n:Nat) (l:List (Nat × Nat)) (q e:Nat) (r:List Bool):St:=
 ⟨[(0,⟨[],.v (.int .i64 n)⟩),(1,⟨[],.sl 2 (mO l) none⟩),(6,⟨[],.v (.int .i64 e)⟩),(46,⟨[],.sl 1 (cW ((gB n l).take e)) (some 0)⟩),(47,⟨[],.sl 1 (qD r) none⟩)],[],[⟨q,140,1,none⟩]⟩
theorem Hr (n:Nat) (hn:n<=64) (l:List (Nat × Nat)) (hP:sX n l) (hb:l.length<=1099511627776) :
  aV prog 133 [.v (.int .i64 n),.sl 2 (mO l) none] (.sl 1 (cW (gB n l)) none):=by
 have hNl:=iI l;have Zq:=Ho n l;refine eG 51 [.tmp 4] func133 rfl ntmps133 rfl fun _ _ _ _=>?_;refine lJ (fun e=>ldSt n l e e) n (fJ ⟨0,140,1,none⟩ rfl ⟨_,rfl⟩ rfl wA rfl rfl mi) ?_;intro e he;refine br ?_ ?_<;>intro hL
 ·have ap:e < n:=by have:=hL;simp at this;exact this
  have hr0l:((List.replicate n false).set e true).length=n:=by simp
  refine ⟨⟨rfl,by omega,by omega,by omega⟩,?_⟩;refine ⟨⟨by omega,by omega⟩,?_⟩;refine ⟨by rw [Eu,qc,List.length_replicate];omega,?_⟩
  have iB:((List.replicate (n:Int).toNat (vL [Value.bool false])).flatten).set (0 + (e:Int).toNat * 1) (DV.v (.bool true))=cB (dq l ((List.replicate n false).set e true) 0):=by
   rw [Eu,show 0 + (e:Int).toNat * 1=e by omega,show (n:Int).toNat=n by omega,xI];rfl
  refine lJ (fun k=>Zn n l e e (dq l ((List.replicate n false).set e true) k) k) n (au 1 rfl (ny iB) rfl rfl rfl (dt iB)) ?_;intro k hk;have eB:=fT l ((List.replicate n false).set e true) k;have Bq:=fi l ((List.replicate n false).set e true) k;refine br ?_ ?_<;>intro kM
  ·have jP:k < n:=by have:=kM;simp at this;exact this
   generalize dq l ((List.replicate n false).set e true) k=r at eB Bq ⊢;rw [hr0l] at eB;refine lJ (fun i=>Zo n l e e (jW l r i) k i) l.length (au 1 rfl pS rfl rfl rfl mi) ?_;intro i hi;have nK:=Hq l r i;refine br ?_ ?_<;>intro hL3
   ·have Zr:i < l.length:=by have:=hL3;simp [hNl] at this;exact this
    obtain ⟨p,hp⟩:∃ p,l[i]? = some p:=⟨_,gE Zr⟩;obtain ⟨sL,DD⟩:=hP p (mG hp);have Q1:=Ew (r:=r) hp;obtain ⟨b,py⟩:∃ b,(jW l r i)[p.1]? = some b:=⟨_,gE (by omega)⟩;have Lt:(jW l r i).getD p.1 false=b:=by simp [aF,py]
    rw [iK,Lt] at Q1;refine iX (wU hp) ?_;refine ⟨⟨by decide,by decide⟩,?_⟩;refine ⟨⟨by omega,by omega⟩,?_⟩;refine ⟨_,(show (cB (jW l r i))[0 + (p.1:Int).toNat * 1]? = some (.v (.bool b)) by rw [show 0 + (p.1:Int).toNat * 1=p.1 by omega];exact Hn py),?_⟩;refine br ?_ ?_<;>intro g
    ·have g:b=true:=g;rw [ai g] at Q1;refine iX (wU hp) ?_;refine ⟨⟨by decide,by decide⟩,?_⟩;refine ⟨⟨by omega,by omega⟩,?_⟩;refine ⟨by rw [qc];omega,?_⟩
     have lh:(cB (jW l r i)).set (0 + (p.2:Int).toNat * 1) (DV.v (.bool true))=cB (jW l r (i + 1)):=by
      rw [show 0 + (p.2:Int).toNat * 1=p.2 by omega,xI,Q1]
     exact rE ⟨_,by omega,i + 1,rfl,by omega,rfl⟩ (au 1 rfl (gF lh (aJ Zr (by omega))) rfl rfl rfl (wB2 lh (aJ Zr (by omega))))
    ·have g:¬ b=true:=by rw [show b=false from g];decide
     rw [ah g] at Q1;exact rE ⟨_,by omega,i + 1,rfl,by omega,rfl⟩ (au 1 rfl (by repeat' (first | exact rfl | exact az rfl | exact cA (by rw [Q1]) | exact aD (aJ Zr (by omega)) | refine ⟨_,_,rfl,?_,?_⟩)) rfl rfl rfl (by repeat' (first | exact trivial | exact az rfl | exact cA (by rw [Q1]) | exact aD (aJ Zr (by omega)) | refine ⟨⟨_,rfl,?_⟩,?_⟩)))
   ·have aQ:i=l.length:=sW hNl hL3;subst aQ;have Zs:jW l r l.length=dq l ((List.replicate n false).set e true) (k + 1):=by rw [Bq,jW,List.take_length];all_goals rfl
    exact rE ⟨_,by omega,k + 1,rfl,by omega,rfl⟩ (au 1 rfl (by repeat' (first | exact rfl | exact az rfl | exact cA (by rw [Zs]) | exact aD (aJ jP (by omega)) | refine ⟨_,_,rfl,?_,?_⟩)) rfl rfl rfl (by repeat' (first | exact trivial | exact az rfl | exact cA (by rw [Zs]) | exact aD (aJ jP (by omega)) | refine ⟨⟨_,rfl,?_⟩,?_⟩)))
  ·have aQ:k=n:=by have:=kM;simp at this;omega
   subst aQ;have sC:dq l ((List.replicate k false).set e true) k=uV k l e:=rfl;rw [sC];have hrw:=rn k l e;refine Lm.wk (.C6 (st':=Zp k l e e (uV k l e)) 0 rfl rfl rfl rfl ?_) rfl rfl ?_
   ·refine ⟨⟨_,rfl,?_⟩,⟨_,rfl,?_⟩,⟨_,rfl,?_⟩,⟨_,rfl,?_⟩,⟨_,rfl,S8 hrw (by omega) rfl⟩,trivial⟩
    ·simp only [Cc]
    ·simp only [Cc];exact Or.inr (Or.inl ⟨none,rfl⟩)
    ·simp only [Cc]
    ·simp only [Cc];exact ⟨Nat.zero_lt_one,trivial⟩
   ·have dm:(cW ((gB k l).take e)).length=e:=by rw [xH,zLenT,Zq];omega
    have dK:cW ((gB k l).take e) ++ [[DV.sl 1 (qD (uV k l e)) none]]=cW ((gB k l).take (e + 1)):=by rw [List.take_add_one,Hp l ap];simp [cW]
    refine ⟨dm,⟨by rw [dm];simp [maxLen];omega,by rw [dm];simp;omega⟩,?_⟩;exact rE ⟨_,by omega,e + 1,rfl,by omega,rfl⟩ (aj ⟨_,rfl⟩ wA rfl rfl rfl (wB2 (aJ ap (by omega)) dK))
 ·have aQ:e=n:=by have:=hL;simp at this;omega
  subst aQ;have ht:(gB e l).take e=gB e l:=by rw [List.take_of_length_le (by rw [Zq];omega)]
  rw [ht];exact ⟨_,ax,rfl⟩
theorem cF {n m:Nat} {dL:List TkE} {x y:Bool} (h:x=y):We n m dL (.v (.bool x)) (.v (.bool y)):=.inl ⟨by rw [h],rfl⟩
theorem oq {l:List Wd} {j:Nat} {w:Wd} (h:l[j]? = some w):(aC l)[j]? = some w.s:=by simp [aC,h]
theorem I2 {L:List ByteArray} {s:ByteArray} (h:∀ j,j < L.length->L[j]? ≠ some s):du L s=none:=sZ fun j hj=>by
 exact h j (gS hj).1 hj
abbrev S9 (l:List Wd) (s:ByteArray) (e:Nat):St:=
 ⟨[(0,⟨[],.sl 2 (bO l) none⟩),(1,⟨[],.v (.string s)⟩),(5,⟨[],.v (.int .i64 e)⟩)],[],[]⟩
theorem fY (l:List Wd) (s:ByteArray) (hs:wdsWt l<=1099511627776) :
  aV prog 170 [.sl 2 (bO l) none,.v (.string s)] (.v (.int .i64 (oz (du (aC l) s)))):=by
 have nK:=bL l;have fv:=dW l;refine eG 20 [.tmp 4] func170 rfl ntmps170 rfl fun _ _ _ _=>?_;refine lI (fun j st=>∃ e:Nat,st=S9 l s e/\e<=l.length/\(∀ j,j < e->(aC l)[j]? ≠ some s)/\j=l.length - e) ⟨0,rfl,by omega,fun _ h=>by omega,rfl⟩ (aj ⟨_,rfl⟩ wA rfl rfl rfl wB) ?_;rintro j st ⟨e,rfl,he,fq,rfl⟩;refine br ?_ ?_<;>intro hL
 ·have ap:e < l.length:=by simpa [aA] using hL
  obtain ⟨w,hw⟩:=gX ap;refine ⟨kH w,⟨by omega,aY hw⟩,?_⟩;refine br ?_ ?_<;>intro hq
  ·have hq:w.s=s:=sU hq;rw [B6 (p:=e) (by rw [oq hw,hq]) (fun j hj=>Nat.le_of_not_lt fun hl=>fq j hl hj)];exact (rfl:_=_)
  ·have hq:¬ w.s=s:=sU hq;refine ⟨S9 l s (e + 1),(aj ⟨_,rfl⟩ wA rfl rfl rfl (dt (aJ ap (by omega)))),l.length - (e + 1),by omega,e + 1,rfl,by omega,fun j hj=>?_,rfl⟩;rcases eP hj with hj | rfl
   ·exact fq j hj
   ·rw [oq hw];simpa using hq
 ·have aQ:e=l.length:=by have:=hL;simp [aA] at this;omega
  rw [I2 (fun j hj=>fq j (by omega))];exact (rfl:_=_)
theorem gC {o:Option Nat}:decide (oz o < 0)=true↔o=none:=by
 cases o with
 | none=>simp [oz]
 | some k=>
  refine ⟨fun h=>?_,fun h=>by cases h⟩;have:=of_decide_eq_true h;simp only [oz] at this;omega
theorem Ey {L:List ByteArray}:∀ {o:List (Wd × Wd)},(numF L o).1=0->∀ x∈o,(∃ a,du L x.1.s=some a)/\∃ b,du L x.2.s=some b
 | [],_,x,hx=>by cases hx
 | p :: r,h,x,hx=>by
  rw [numF] at h;split at h
  ·exact absurd h (by simp)
  rename_i h1;split at h
  ·exact absurd h (by simp)
  rename_i h2;rcases bI hx with rfl | hx
  ·exact ⟨Option.ne_none_iff_exists'.1 h1,Option.ne_none_iff_exists'.1 h2⟩
  ·exact Ey h x hx
abbrev Zt (l:List Wd) (o:List (Wd × Wd)) (q e:Nat):St:=
 ⟨[(0,⟨[],.sl 2 (bO l) none⟩),(1,⟨[],.sl 4 (nD o) none⟩),(5,⟨[],.sl 2 (mO (dQ (aC l) (o.take e))) (some 0)⟩),(6,⟨[],.v (.int .i64 e)⟩)],[],[⟨q,225,2,none⟩]⟩
theorem Hs (l:List Wd) (o:List (Wd × Wd)) (hs:wdsWt l<=1099511627776) (vT:prsWt o<=1099511627776) (hF:(numF (aC l) o).1=0) :
  aV prog 134 [.sl 2 (bO l) none,.sl 4 (nD o) none] (.sl 2 (mO (dQ (aC l) o)) none):=by
 have nK:=jr o;refine eG 34 [.tmp 4] func134 rfl ntmps134 rfl fun _ _ _ _=>?_;refine lJ (fun e=>Zt l o e e) o.length (fJ ⟨0,225,2,none⟩ rfl ⟨_,rfl⟩ rfl wA rfl rfl mi) ?_;intro e he;refine br ?_ ?_<;>intro hL
 ·have ap:e < o.length:=by simpa [gJ] using hL
  obtain ⟨w,hw⟩:=gX ap;obtain ⟨⟨a,ha⟩,⟨b,hb⟩⟩:=Ey hF w (mG hw);have LA:=fY l w.1.s hs;have vU:=fY l w.2.s hs;rw [ha] at LA;rw [hb] at vU;refine dI ?_;refine ⟨LB w,⟨by omega,iG hw⟩,?_⟩;refine cD wx LA ?_;refine ⟨LB w,⟨by omega,iG hw⟩,?_⟩;refine cD wx vU ?_;refine ⟨by simp [iI,dQ];omega,⟨by simp [iI,dQ,maxLen];omega,by simp [iI,dQ];omega⟩,?_⟩;exact rE ⟨_,by omega,e + 1,rfl,by omega,rfl⟩ (aj ⟨_,rfl⟩ wA rfl rfl rfl (wB2 (aJ ap (by omega)) (Af hw ha hb)))
 ·have aQ:e=o.length:=by
   have:=hL;simp [gJ] at this;omega
  have ht:o.take e=o:=by rw [aQ,List.take_length]
  rw [ht];exact ⟨_,ax,rfl⟩
theorem Ez (l:List Wd) (o:List (Wd × Wd)) (hl:l.length<=32) (hs:wdsWt l<=1099511627776) (vT:prsWt o<=1099511627776) (hF:(numF (aC l) o).1=0) :
  aV prog 67 [.sl 2 (bO l) none,.sl 4 (nD o) none] (.sl 1 (cW (dJ l.length (fy l.length (dQ (aC l) o)))) none):=by
 have nK:=jr o;have hP:sX l.length (dQ (aC l) o):=by have:=oW hF;rwa [dW] at this
 have hN:=aA l;have QI:=Hr l.length (by omega) (dQ (aC l) o) hP (by simp [dQ];omega);rw [KC hP] at QI;refine eG 11 [.tmp 4] func67 rfl ntmps67 rfl fun _ _ _ _=>?_;refine cP XT (Hs l o hs vT hF) ?_;rw [hN];refine cP XS QI ?_;exact ⟨_,ax,rfl⟩
theorem EA (n:Nat) (f:Nat->Nat->Bool):(dJ n f).length=n:=by simp [dJ]
theorem jy (n:Nat) (f:Nat->Nat->Bool):(cW (dJ n f)).length=n:=by rw [xH,EA]
theorem fZ {n:Nat} {f:Nat->Nat->Bool} {a:Nat} (ha:a < n):(cW (dJ n f))[a]? = some [DV.sl 1 (qD ((List.range n).map (f a))) none]:=NU (D6 ha)
theorem eL {n:Nat} {f:Nat->Nat->Bool} {a b:Nat} (hb:b < n):(qD ((List.range n).map (f a)))[b]? = some [DV.v (.bool (f a b))]:=rG (by simp [List.getElem?_range hb])
abbrev Ta (n:Nat) (f:Nat->Nat->Bool) (e:Nat):St:=
 ⟨[(0,⟨[],.sl 1 (cW (dJ n f)) none⟩),(3,⟨[],.v (.int .i64 e)⟩)],[],[]⟩
abbrev Vn (n:Nat) (f:Nat->Nat->Bool) (e k:Nat):St:=
 ⟨[(0,⟨[],.sl 1 (cW (dJ n f)) none⟩),(3,⟨[],.v (.int .i64 e)⟩),(4,⟨[],.v (.int .i64 k)⟩)],[],[]⟩
theorem EB (n:Nat) (f:Nat->Nat->Bool) (hn:n<=64) :
  aV prog 171 [.sl 1 (cW (dJ n f)) none] (.v (.int .i64 (oz (bN (ln n f) n)))):=by
 have dm:=jy n f;refine eG 39 [.tmp 2] func171 rfl ntmps171 rfl fun _ _ _ _=>?_;refine lI (fun j st=>∃ e:Nat,st=Ta n f e/\e<=n/\(∀ a,a < e->ln n f a=false)/\j=n - e) ⟨0,rfl,by omega,fun _ h=>by omega,rfl⟩ (aj ⟨_,rfl⟩ wA rfl rfl rfl wB) ?_;rintro j st ⟨e,rfl,he,fq,rfl⟩;refine br ?_ ?_<;>intro hL
 ·have ap:e < n:=sV dm hL;refine lI (fun j st=>∃ k:Nat,st=Vn n f e k/\k<=n/\(∀ b,b < k->(decide (e≠b) && (f e b && f b e))=false)/\j=n - k) ⟨0,rfl,by omega,fun _ h=>by omega,rfl⟩ (aj ⟨_,rfl⟩ wA rfl rfl rfl wB) ?_;rintro j st ⟨k,rfl,hk,NV,rfl⟩;refine br ?_ ?_<;>intro kM
  ·have jP:k < n:=sV dm kM
   have re:(decide (e≠k) && (f e k && f k e))=false->∀ b,b < k + 1->(decide (e≠b) && (f e b && f b e))=false:=fun h b hb=>by
    rcases eP hb with hb | rfl
    ·exact NV b hb
    ·exact h
   refine br ?_ ?_<;>intro g1
   ·have g1:e≠k:=by have:=g1;simp at this;omega
    refine iX (fZ ap) ?_;refine iX (eL jP) ?_;refine br ?_ ?_<;>intro g2
    ·have g2:f e k=true:=by simpa [pickB] using g2
     refine iX (fZ jP) ?_;refine iX (eL ap) ?_;refine br ?_ ?_<;>intro g3
     ·have g3:f k e=true:=by simpa [pickB] using g3
      have hp:ln n f e=true:=List.any_eq_true.2 ⟨k,List.mem_range.2 jP,by simp [g1,g2,g3]⟩;rw [bB ap hp fq];exact (rfl:_=_)
     ·have g3:f k e=false:=by simpa [pickB] using g3
      exact rE ⟨_,by omega,k + 1,rfl,by omega,re (by simp [g3]),rfl⟩ (aj ⟨_,rfl⟩ wA rfl rfl rfl (dt (aJ jP (by omega))))
    ·have g2:f e k=false:=by simpa [pickB] using g2
     exact rE ⟨_,by omega,k + 1,rfl,by omega,re (by simp [g2]),rfl⟩ (aj ⟨_,rfl⟩ wA rfl rfl rfl (dt (aJ jP (by omega))))
   ·have g1:e=k:=by have:=g1;simp at this;omega
    exact rE ⟨_,by omega,k + 1,rfl,by omega,re (by simp [g1]),rfl⟩ (aj ⟨_,rfl⟩ wA rfl rfl rfl (dt (aJ jP (by omega))))
  ·have aQ:k=n:=sW dm kM;refine ⟨Ta n f (e + 1),(aj ⟨_,rfl⟩ wA rfl rfl rfl (dt (aJ ap (by omega)))),n - (e + 1),by omega,e + 1,rfl,by omega,fun j hj=>?_,rfl⟩;rcases eP hj with hj | rfl
   ·exact fq j hj
   ·unfold ln;rw [List.any_eq_false];intro b hb;rw [NV b (by have:=List.mem_range.1 hb;omega)];decide
 ·have aQ:e=n:=sW dm hL;subst aQ;rw [bP fq];exact (rfl:_=_)
abbrev tuSt (n:Nat) (f:Nat->Nat->Bool) (q e:Nat):St:=
 ⟨[(0,⟨[],.sl 1 (cW (dJ n f)) none⟩),(3,⟨[],.sl 1 (cW ((dJ n fun a b=>f b a).take e)) (some 0)⟩),(4,⟨[],.v (.int .i64 e)⟩)],[],[⟨q,140,1,none⟩]⟩
abbrev Zu (n:Nat) (f:Nat->Nat->Bool) (q e:Nat) (r:List Bool) (k:Nat):St:=
 ⟨[(0,⟨[],.sl 1 (cW (dJ n f)) none⟩),(3,⟨[],.sl 1 (cW ((dJ n fun a b=>f b a).take e)) (some 0)⟩),(4,⟨[],.v (.int .i64 e)⟩),(5,⟨[],.ms 0 1 0 n n⟩),(6,⟨[],.v (.int .i64 k)⟩)],[cB r],[⟨q,140,1,none⟩]⟩
abbrev Zv (n:Nat) (f:Nat->Nat->Bool) (q e:Nat) (r:List Bool):St:=
 ⟨[(0,⟨[],.sl 1 (cW (dJ n f)) none⟩),(4,⟨[],.v (.int .i64 e)⟩),(32,⟨[],.sl 1 (cW ((dJ n fun a b=>f b a).take e)) (some 0)⟩),(33,⟨[],.sl 1 (qD r) none⟩)],[],[⟨q,140,1,none⟩]⟩
def lu (n:Nat) (f:Nat->Nat->Bool) (e k:Nat):List Bool:=(List.range n).map fun b=>if b < k then f b e else false
theorem tq (n:Nat) (f:Nat->Nat->Bool) (e k:Nat):(lu n f e k).length=n:=by simp [lu]
theorem Ht (n:Nat) (f:Nat->Nat->Bool) (e:Nat):lu n f e 0=List.replicate n false:=by
 refine List.ext_getElem? fun i=>?_;by_cases h:i < n
 ·simp [lu,List.getElem?_range h,List.getElem?_replicate,h]
 ·rw [cR (by rw [tq];omega),cR (by simp;omega)]
theorem Hu (n:Nat) (f:Nat->Nat->Bool) (e k:Nat):(lu n f e k).set k (f k e)=lu n f e (k + 1):=by
 refine List.ext_getElem? fun i=>?_;by_cases h:i < n
 ·rw [List.getElem?_set];simp only [lu,List.getElem?_map,List.getElem?_range h,Option.map_some,List.length_map,List.length_range];by_cases hk:k=i
  ·subst hk;simp [h]
  ·rw [ah hk];by_cases hi:i < k
   ·rw [ai hi,ai (by omega)]
   ·rw [ah hi,ah (by omega)]
 ·rw [cR (by simp [lu];omega),cR (by rw [tq];omega)]
theorem Hv (n:Nat) (f:Nat->Nat->Bool) (e:Nat):lu n f e n=(List.range n).map (fun b=>f b e):=by
 unfold lu;exact List.map_congr_left fun b hb=>by rw [ai (List.mem_range.1 hb)]
theorem KD (n:Nat) (f:Nat->Nat->Bool) (hn:n<=64) :
  aV prog 172 [.sl 1 (cW (dJ n f)) none] (.sl 1 (cW (dJ n fun a b=>f b a)) none):=by
 have dm:=jy n f;have Zq:=EA n fun a b=>f b a;refine eG 37 [.tmp 2] func172 rfl ntmps172 rfl fun _ _ _ _=>?_;refine lJ (fun e=>tuSt n f e e) n (fJ ⟨0,140,1,none⟩ rfl ⟨_,rfl⟩ rfl wA rfl rfl mi) ?_;intro e he;refine br ?_ ?_<;>intro hL
 ·have ap:e < n:=sV dm hL;refine ⟨⟨rfl,by omega,by rw [dm];omega,by rw [dm];omega⟩,?_⟩;rw [dm]
  have iB:(List.replicate (n:Int).toNat (vL [Value.bool false])).flatten=cB (lu n f e 0):=by
   rw [Eu,Ht,show (n:Int).toNat=n by omega]
  refine lJ (fun k=>Zu n f e e (lu n f e k) k) n (au 1 rfl (ny iB) rfl rfl rfl (dt iB)) ?_;intro k hk;refine br ?_ ?_<;>intro kM
  ·have jP:k < n:=sV dm kM;refine iX (fZ jP) ?_;refine iX (eL ap) ?_;refine ⟨⟨by omega,by omega⟩,?_⟩;refine ⟨by rw [qc,tq];omega,?_⟩
   have lh:(cB (lu n f e k)).set (0 + (k:Int).toNat * 1) (DV.v (.bool (f (k:Int).toNat (e:Int).toNat)))=cB (lu n f e (k + 1)):=by
    rw [show 0 + (k:Int).toNat * 1=k by omega,xI,ej,ej,Hu]
   exact rE ⟨_,by omega,k + 1,rfl,by omega,rfl⟩ (au 1 rfl (gF lh (aJ jP (by omega))) rfl rfl rfl (wB2 lh (aJ jP (by omega))))
  ·have aQ:k=n:=sW dm kM;subst aQ;rw [Hv];refine Lm.wk (.C6 (st':=Zv k f e e ((List.range k).map fun b=>f b e)) 0 rfl rfl rfl rfl ?_) rfl rfl ?_
   ·refine ⟨⟨_,rfl,?_⟩,⟨_,rfl,?_⟩,⟨_,rfl,?_⟩,⟨_,rfl,S8 (by simp) (by omega) rfl⟩,trivial⟩
    ·simp only [Cc];exact Or.inr (Or.inl ⟨none,rfl⟩)
    ·simp only [Cc]
    ·simp only [Cc];exact ⟨Nat.zero_lt_one,trivial⟩
   ·have hmr:(cW ((dJ k fun a b=>f b a).take e)).length=e:=by rw [xH,zLenT,Zq];omega
    have dK:cW ((dJ k fun a b=>f b a).take e) ++ [[DV.sl 1 (qD ((List.range k).map fun b=>f b e)) none]]=cW ((dJ k fun a b=>f b a).take (e + 1)):=by rw [List.take_add_one,D6 ap];simp [cW]
    refine ⟨hmr,⟨by rw [hmr];simp [maxLen];omega,by rw [hmr];simp;omega⟩,?_⟩;exact rE ⟨_,by omega,e + 1,rfl,by omega,rfl⟩ (aj ⟨_,rfl⟩ wA rfl rfl rfl (wB2 (aJ ap (by omega)) dK))
 ·have aQ:e=n:=sW dm hL;subst aQ;rw [List.take_of_length_le (by rw [Zq];omega)];exact ⟨_,ax,rfl⟩
def Tb (f:Nat->Nat->Bool) (n a b c:Nat):Bool:=(f a c && f b c) && (List.range n).all fun d=>!(f a d && f b d) || f c d
def kP (f:Nat->Nat->Bool) (n a b:Nat):Option Nat:=bN (Tb f n a b) n
def nG (f:Nat->Nat->Bool) (a b c k:Nat):Bool:=(f a c && f b c) && (List.range k).all fun d=>!(f a d && f b d) || f c d
theorem KE (f:Nat->Nat->Bool) (a b c k:Nat):nG f a b c (k + 1)=(nG f a b c k && (!(f a k && f b k) || f c k)):=by
 simp only [nG,List.range_succ,List.all_append,List.all_cons,List.all_nil,Bool.and_true,Bool.and_assoc]
theorem Ay (f:Nat->Nat->Bool) (a b c:Nat):nG f a b c 0=(f a c && f b c):=by simp [nG]
abbrev Zw (n:Nat) (f:Nat->Nat->Bool) (a b e:Nat):St:=
 ⟨[(0,⟨[],.sl 1 (cW (dJ n f)) none⟩),(1,⟨[],.v (.int .i64 a)⟩),(2,⟨[],.v (.int .i64 b)⟩),(7,⟨[],.v (.int .i64 e)⟩)],[],[]⟩
abbrev I3 (n:Nat) (f:Nat->Nat->Bool) (a b e:Nat) (x:Bool) (k:Nat):St:=
 ⟨[(0,⟨[],.sl 1 (cW (dJ n f)) none⟩),(1,⟨[],.v (.int .i64 a)⟩),(2,⟨[],.v (.int .i64 b)⟩),(7,⟨[],.v (.int .i64 e)⟩),(8,⟨[],.v (.bool x)⟩),(9,⟨[],.v (.int .i64 k)⟩)],[],[]⟩
theorem ou (n:Nat) (f:Nat->Nat->Bool) (hn:n<=64) (a b:Nat) (ha:a < n) (hb:b < n) :
  aV prog 146 [.sl 1 (cW (dJ n f)) none,.v (.int .i64 a),.v (.int .i64 b)] (.v (.int .i64 (oz (kP f n a b)))):=by
 have dm:=jy n f;refine eG 66 [.tmp 6] func146 rfl ntmps146 rfl fun _ _ _ _=>?_;refine lI (fun j st=>∃ e:Nat,st=Zw n f a b e/\e<=n/\(∀ c,c < e->Tb f n a b c=false)/\j=n - e) ⟨0,rfl,by omega,fun _ h=>by omega,rfl⟩ (aj ⟨_,rfl⟩ wA rfl rfl rfl wB) ?_;rintro j st ⟨e,rfl,he,fq,rfl⟩;refine br ?_ ?_<;>intro hL
 ·have ap:e < n:=sV dm hL;refine iX (fZ ha) ?_;refine iX (eL ap) ?_;have e1:(f a e == true)=true->f b e=nG f a b e 0:=fun g=>by rw [Ay,show f a e=true by simpa using g];simp
  have e2:(f a e == true)=false->false=nG f a b e 0:=fun g=>by rw [Ay,show f a e=false by simpa using g];simp
  refine have body:=?_;br (fun g1=>⟨_,⟨by omega,fZ hb⟩,⟨_,⟨by omega,eL ap⟩,bz (fun j st=>∃ k:Nat,st=I3 n f a b e (nG f a b e k) k/\k<=n/\j=n - k) n (I3 n f a b e (nG f a b e 0) 0) (aj ⟨_,rfl⟩ wA rfl rfl rfl (by repeat' (first | exact trivial | exact az rfl | exact (show We _ _ _ (DV.v (.bool (f b e))) _ from cF (e1 g1)) | refine ⟨⟨_,rfl,?_⟩,?_⟩))) ⟨0,rfl,by omega,by omega⟩ body⟩⟩) (fun g1=>bz (fun j st=>∃ k:Nat,st=I3 n f a b e (nG f a b e k) k/\k<=n/\j=n - k) n (I3 n f a b e (nG f a b e 0) 0) (aj ⟨_,rfl⟩ wA rfl rfl rfl (by repeat' (first | exact trivial | exact az rfl | exact (show We _ _ _ (DV.v (.bool false)) _ from cF (e2 g1)) | refine ⟨⟨_,rfl,?_⟩,?_⟩))) ⟨0,rfl,by omega,by omega⟩ body);rintro j st ⟨k,rfl,hk,rfl⟩;refine br ?_ ?_<;>intro kM
  ·have jP:k < n:=sV dm kM;have KF:=KE f a b e k;refine iX (fZ ha) ?_;refine iX (eL jP) ?_;refine br ?_ ?_<;>intro g1
   ·refine iX (fZ hb) ?_;refine iX (eL jP) ?_;refine br ?_ ?_<;>intro g2
    ·refine iX (fZ ap) ?_;refine iX (eL jP) ?_;refine br ?_ ?_<;>intro g3
     ·have hx:false=nG f a b e (k + 1):=by simp [pickB] at g1 g2 g3;rw [KF];simp [g1,g2,g3]
      exact rE ⟨_,by omega,k + 1,rfl,by omega,rfl⟩ (aj ⟨_,rfl⟩ wA rfl rfl rfl (wB2 (aJ jP (by omega)) hx))
     ·have hx:nG f a b e k=nG f a b e (k + 1):=by simp [pickB] at g1 g2 g3;rw [KF];simp [g1,g2,g3]
      exact rE ⟨_,by omega,k + 1,rfl,by omega,rfl⟩ (aj ⟨_,rfl⟩ wA rfl rfl rfl (wB2 (aJ jP (by omega)) hx))
    ·have hx:nG f a b e k=nG f a b e (k + 1):=by simp [pickB] at g1 g2;rw [KF];simp [g1,g2]
     exact rE ⟨_,by omega,k + 1,rfl,by omega,rfl⟩ (aj ⟨_,rfl⟩ wA rfl rfl rfl (wB2 (aJ jP (by omega)) hx))
   ·have hx:nG f a b e k=nG f a b e (k + 1):=by simp [pickB] at g1;rw [KF];simp [g1]
    exact rE ⟨_,by omega,k + 1,rfl,by omega,rfl⟩ (aj ⟨_,rfl⟩ wA rfl rfl rfl (wB2 (aJ jP (by omega)) hx))
  ·have aQ:k=n:=sW dm kM;subst aQ;refine br ?_ ?_<;>intro g
   ·have g:Tb f k a b e=true:=g;rw [kP,bB ap g fq];exact (rfl:_=_)
   ·have g:Tb f k a b e=false:=g;refine ⟨Zw k f a b (e + 1),(aj ⟨_,rfl⟩ wA rfl rfl rfl (dt (aJ ap (by omega)))),k - (e + 1),by omega,e + 1,rfl,by omega,fun j hj=>?_,rfl⟩;rcases eP hj with hj | rfl
    ·exact fq j hj
    ·exact g
 ·have aQ:e=n:=sW dm hL;subst aQ;rw [kP,bP fq];exact (rfl:_=_)
theorem NW {l:List Wd} {i:Nat} {w:Wd} (hw:l[i]? = some w):∃ p,du (aC l) w.s=some p/\(p < i↔bT (l.take i) w.s=true):=by
 cases h:du (aC l) w.s with
 | none=>exact absurd (mG (oq hw)) (zg.1 h)
 | some p=>
  refine ⟨p,rfl,?_⟩;obtain ⟨h1,h2,h3⟩:=dD h;rw [dW] at h1
  have Qu:∃ v,l[p]? = some v/\v.s=w.s:=by
   refine ⟨l[p],gE h1,?_⟩;rw [oq (gE h1)] at h2;exact Option.some.inj h2
  obtain ⟨v,hv,vV⟩:=Qu;unfold bT;rw [List.any_eq_true];refine ⟨fun ap=>⟨v,mG (i:=p) (by rw [cf,ai ap];exact hv),by simp [vV]⟩,fun ⟨x,hx,qA⟩=>?_⟩;obtain ⟨j,hj⟩:=List.getElem?_of_mem hx;rw [cf] at hj;split at hj
  ·rename_i Ge;have qA:x.s=w.s:=sU qA;have:=h3 j (by rw [oq hj,qA]);omega
  ·cases hj
theorem Ci {f:Nat->Nat->Bool} {n a b c:Nat}:Tb f n a b c=true↔f a c=true/\f b c=true/\∀ d,d < n->f a d=true->f b d=true->f c d=true:=by
 unfold Tb;simp only [aP,List.all_eq_true,List.mem_range,Bool.or_eq_true,Bool.not_eq_true',Bool.and_eq_false_iff,and_assoc];refine and_congr_right fun _=>and_congr_right fun _=>forall_congr' fun d=>imp_congr_right fun _=>?_;cases f a d<;>cases f b d<;>cases f c d<;>simp
structure PB (f:Nat->Nat->Bool) (n:Nat):Prop where
 rfl':∀ a,a < n->f a a=true
 G5:∀ a b,a < n->b < n->f a b=true->f b a=true->a=b
theorem PB.flip {f:Nat->Nat->Bool} {n:Nat} (h:PB f n):PB (fun x y=>f y x) n:=⟨h.rfl',fun a b ha hb h1 h2=>h.G5 a b ha hb h2 h1⟩
theorem EC {f:Nat->Nat->Bool} {n a b c:Nat} (h:PB f n) (hc:c < n) (hj:Tb f n a b c=true):fC f n a b=some c:=by
 obtain ⟨h1,h2,h3⟩:=Ci.1 hj
 have key:∀ e,e<=n->c < e->bestA (fun c=>f a c && f b c) f e=some c:=by
  intro e
  induction e with
  | zero=>intro _ h;omega
  | succ e ih=>
   intro he hce;rw [bestA];by_cases hec:e=c
   ·subst hec;rw [ai];simp only [h1,h2,Bool.and_true,Bool.true_and]
    cases ho:bestA (fun c=>f a c && f b c) f e with
    | none=>rfl
    | some o=>
     have hp:=td ho;have hl:=ob ho;simp only [aP] at hp;exact h3 o (by omega) hp.1 hp.2
   ·rw [ih (by omega) (by omega),ah];simp only [aP,Ea,not_and];intro hp hec2;exact hec (h.G5 e c (by omega) hc hec2 (h3 e (by omega) hp.1 hp.2))
 unfold fC oa;rw [key n (aR _) hc];simp only;rw [ah];simp only [List.any_eq_true,List.mem_range,aP,Bool.not_eq_true',not_exists,not_and,Bool.not_eq_false];exact fun d hd hp=>h3 d hd hp.1 hp.2
theorem mY {f:Nat->Nat->Bool} {n a b:Nat} (h:PB f n):(fC f n a b).isNone=(kP f n a b).isNone:=by
 cases hj:kP f n a b with
 | some c=>
  obtain ⟨hc,hi,_⟩:=cJ hj;rw [EC h hc hi]
 | none=>
  cases hk:fC f n a b with
  | none=>rfl
  | some k=>
   obtain ⟨h1,h2,h3,h4⟩:=p8 hk;have:=cr hj k h1;rw [Ci.2 ⟨h2,h3,h4⟩] at this;cases this
def pG (f:Nat->Nat->Bool) (n a b:Nat):Bool:=(kP f n a b).isNone || (kP (fun x y=>f y x) n a b).isNone
theorem I4 {f:Nat->Nat->Bool} {n a b:Nat} (h:PB f n):lZ f n a b=pG f n a b:=by
 unfold lZ pG;rw [mY h,show jL f n a b=fC (fun x y=>f y x) n a b from rfl,mY h.flip]
theorem xJ {f:Nat->Nat->Bool} {n b:Nat} (h:PB f n) (hb:b < n):(kP f n b b).isNone=false:=by
 have hi:Tb f n b b b=true:=Ci.2 ⟨h.rfl' b hb,h.rfl' b hb,fun d _ h1 _=>h1⟩
 cases hj:kP f n b b with
 | some c=>rfl
 | none=>rw [cr hj b hb] at hi;cases hi
theorem Q2 {f:Nat->Nat->Bool} {n b:Nat} (h:PB f n) (hb:b < n):oc f n b=(List.range b).any fun a=>pG f n a b:=by
 unfold oc;rw [List.range_succ,List.any_append];simp only [List.any_cons,List.any_nil,Bool.or_false];rw [I4 h,show pG f n b b=false by unfold pG;rw [xJ h hb,xJ h.flip hb];rfl,Bool.or_false];exact congrArg (fun g=>List.any (List.range b) g) (funext fun a=>I4 h)
theorem Vo {n:Nat} {l:List (Nat × Nat)} (hP:sX n l) (h4:bN (ln n (fy n l)) n=none):PB (fy n l) n where
 rfl':=fun a ha=>sY hP ha
 G5:=fun a b ha hb h6 h7=>by
  have:=cr h4 a ha;unfold ln at this;rw [List.any_eq_false] at this;have:=this b (sU hb);simp only [aP,decide_eq_true_eq,not_and] at this;rcases Nat.lt_trichotomy a b with h8 | h8 | h8
  ·exact (this (by omega) h6 h7).elim
  ·exact h8
  ·exact (this (by omega) h6 h7).elim
abbrev Zx (l:List Wd) (o:List (Wd × Wd)) (e:Nat):St:=
 ⟨[(0,⟨[],.sl 2 (bO l) none⟩),(1,⟨[],.sl 4 (nD o) none⟩),(4,⟨[],.loc 0 0⟩),(5,⟨[],.v (.int .i64 e)⟩)],[[.v (.int .i64 0),.v (.int .i64 0)]],[]⟩
abbrev Zy (l:List Wd) (o:List (Wd × Wd)) (e:Nat):St:=
 ⟨[(0,⟨[],.sl 2 (bO l) none⟩),(1,⟨[],.sl 4 (nD o) none⟩),(4,⟨[],.loc 0 0⟩),(6,⟨[],.v (.int .i64 e)⟩)],[[.v (.int .i64 0),.v (.int .i64 0)]],[]⟩
abbrev Tc (l:List Wd) (n:Nat) (f:Nat->Nat->Bool) (e:Nat):St:=
 ⟨[(0,⟨[],.sl 2 (bO l) none⟩),(4,⟨[],.loc 0 0⟩),(7,⟨[],.sl 1 (cW (dJ n f)) none⟩),(9,⟨[],.sl 1 (cW (dJ n fun a b=>f b a)) none⟩),(10,⟨[],.v (.int .i64 e)⟩)],[[.v (.int .i64 0),.v (.int .i64 0)]],[]⟩
abbrev Td (l:List Wd) (n:Nat) (f:Nat->Nat->Bool) (e k:Nat):St:=
 ⟨[(0,⟨[],.sl 2 (bO l) none⟩),(4,⟨[],.loc 0 0⟩),(7,⟨[],.sl 1 (cW (dJ n f)) none⟩),(9,⟨[],.sl 1 (cW (dJ n fun a b=>f b a)) none⟩),(10,⟨[],.v (.int .i64 e)⟩),(11,⟨[],.v (.int .i64 k)⟩)],[[.v (.int .i64 0),.v (.int .i64 0)]],[]⟩
theorem Cj (l:List Wd) (o:List (Wd × Wd)) (hs:wdsWt l<=1099511627776) (vT:prsWt o<=1099511627776) :
  aV prog 115 [.sl 2 (bO l) none,.sl 4 (nD o) none] (latF l o).d:=by
 have nK:=bL l;have hsl2:=jr o;have hF:latF l o=latF l o:=rfl
 conv at hF=>rhs;unfold latF
 refine eG 150 [.cell 4 45] func115 rfl ntmps115 rfl fun _ _ _ _=>?_;generalize latF l o=F at hF ⊢;refine br ?_ ?_<;>intro h
 ·have h:l=[]:=by simpa [aA] using h
  rw [show gK l o=(15,0) by rw [gK,ai h],ai (by decide)] at hF;refine ⟨_,?_,rfl⟩;rw [hF];exact ax
 have h:¬ l=[]:=by simpa [aA] using h
 refine br ?_ ?_<;>intro h1
 ·have h1:32 < l.length:=by simp [aA] at h1;omega
  obtain ⟨x,hx⟩:∃ x,l[32]? = some x:=⟨_,gE h1⟩;rw [show gK l o=(8,x.a) by rw [gK,ah h,ai h1,hx];rfl,ai (by simp)] at hF;refine ⟨kH x,⟨by omega,aY hx⟩,?_⟩;refine ⟨_,?_,rfl⟩;rw [hF];exact ax
 have h1:¬ 32 < l.length:=by simp [aA] at h1;omega
 refine br ?_ ?_<;>intro h2
 ·have h2:256 < o.length:=by simp [gJ] at h2;omega
  obtain ⟨x,hx⟩:∃ x,o[256]? = some x:=⟨_,gE h2⟩;rw [show gK l o=(8,x.1.a) by rw [gK,ah h,ah h1,ai h2,hx];rfl,ai (by simp)] at hF;refine ⟨LB x,⟨by omega,iG hx⟩,?_⟩;refine ⟨_,?_,rfl⟩;rw [hF];exact ax
 have h2:¬ 256 < o.length:=by simp [gJ] at h2;omega
 rw [show gK l o=(0,0) by rw [gK,ah h,ah h1,ah h2],ah (by decide)] at hF;have h0:enumL l 0 l=enumL l 0 (l.drop 0):=rfl;refine lI (fun j st=>∃ e:Nat,st=Zx l o e/\e<=l.length/\enumL l 0 l=enumL l e (l.drop e)/\j=l.length - e) ⟨0,rfl,by omega,rfl,rfl⟩ (aj ⟨_,rfl⟩ wA rfl rfl rfl wB) ?_;rintro j st ⟨e,rfl,he,aN,rfl⟩;refine br ?_ ?_<;>intro hL
 ·have ap:e < l.length:=by simpa [aA] using hL
  obtain ⟨w,hw⟩:=gX ap;have SM:=jk (mG hw);have aW:enumL l e (l.drop e)=if aK l e w≠0 then (aK l e w,w.a) else enumL l (e + 1) (l.drop (e + 1)):=by rw [drop_cons hw,enumL]
  obtain ⟨p,hp,Ig⟩:=NW hw;have hf:=fY l w.s hs;rw [hp] at hf;refine ⟨kH w,⟨by omega,aY hw⟩,?_⟩;refine cP DI (jG w.s (by omega)) ?_;refine br ?_ ?_<;>intro hN
  ·have hN:bi w.s=false:=sU hN;have hf:aK l e w=9:=by simp [aK,hN]
   rw [aN,aW,hf,ai (show (9:Int)≠0 by decide),ai (by simp)] at hF;refine ⟨kH w,⟨by omega,aY hw⟩,?_⟩;refine ⟨_,?_,rfl⟩;rw [hF];exact ax
  ·have hN:bi w.s=true:=sU hN;refine ⟨kH w,⟨by omega,aY hw⟩,?_⟩;refine cP wx hf ?_;refine br ?_ ?_<;>intro h2
   ·have h2:p < e:=by have:=h2;simp [oz] at this;exact this
    have hf:aK l e w=10:=by simp [aK,hN,Ig.1 h2]
    rw [aN,aW,hf,ai (show (10:Int)≠0 by decide),ai (by simp)] at hF;refine ⟨kH w,⟨by omega,aY hw⟩,?_⟩;refine ⟨_,?_,rfl⟩;rw [hF];exact ax
   ·have h2:¬ p < e:=by have:=h2;simp [oz] at this;omega
    have hd:bT (l.take e) w.s=false:=by
     cases hd:bT (l.take e) w.s
     ·rfl
     ·exact absurd (Ig.2 hd) h2
    have hf:aK l e w=0:=by simp [aK,hN,hd]
    rw [hf,ah (by simp)] at aW;exact rE ⟨_,by omega,e + 1,rfl,by omega,by rw [aN,aW],rfl⟩ (aj ⟨_,rfl⟩ wA rfl rfl rfl (dt (aJ ap (by omega))))
 have aQ:e=l.length:=by have:=hL;simp [aA] at this;omega
 rw [aN,aQ,List.drop_length,show enumL l l.length []=(0,0) from rfl,ah (by decide)] at hF;refine lI (fun j st=>∃ e:Nat,st=Zy l o e/\e<=o.length/\numF (aC l) o=numF (aC l) (o.drop e)/\j=o.length - e) ⟨0,rfl,by omega,rfl,rfl⟩ (aj ⟨_,rfl⟩ wA rfl rfl rfl wB) ?_;clear aN hL aQ he e;rintro j st ⟨e,rfl,he,aN,rfl⟩;refine br ?_ ?_<;>intro hL
 ·have ap:e < o.length:=by simpa [gJ] using hL
  obtain ⟨w,hw⟩:=gX ap;have aW:numF (aC l) (o.drop e)=if du (aC l) w.1.s=none then (17,w.1.a) else if du (aC l) w.2.s=none then (17,w.2.a) else numF (aC l) (o.drop (e + 1)):=by rw [drop_cons hw,numF]
  refine ⟨LB w,⟨by omega,iG hw⟩,?_⟩;refine cP wx (fY l w.1.s hs) ?_;refine br ?_ ?_<;>intro ha
  ·have ha:=gC.1 ha;rw [aN,aW,ai ha,ai (by simp)] at hF;refine ⟨LB w,⟨by omega,iG hw⟩,?_⟩;refine ⟨_,?_,rfl⟩;rw [hF];exact ax
  have ha:¬ du (aC l) w.1.s=none:=fun hn=>by have:=gC.2 hn;rw [ha] at this;cases this
  refine ⟨LB w,⟨by omega,iG hw⟩,?_⟩;refine cP wx (fY l w.2.s hs) ?_;refine br ?_ ?_<;>intro hb
  ·have hb:=gC.1 hb;rw [aN,aW,ah ha,ai hb,ai (by simp)] at hF;refine ⟨LB w,⟨by omega,iG hw⟩,?_⟩;refine ⟨_,?_,rfl⟩;rw [hF];exact ax
  have hb:¬ du (aC l) w.2.s=none:=fun hn=>by have:=gC.2 hn;rw [hb] at this;cases this
  rw [ah ha,ah hb] at aW;exact rE ⟨_,by omega,e + 1,rfl,by omega,by rw [aN,aW],rfl⟩ (aj ⟨_,rfl⟩ wA rfl rfl rfl (dt (aJ ap (by omega))))
 have aQ:e=o.length:=by have:=hL;simp [gJ] at this;omega
 rw [aQ,List.drop_length,show numF (aC l) []=(0,0) from rfl] at aN;rw [aN,ah (by decide)] at hF;have kX:(numF (aC l) o).1=0:=by rw [aN]
 have hP:sX l.length (dQ (aC l) o):=by have:=oW kX;rwa [dW] at this
 have hpo:=Vo hP;have dm:=jy l.length (fy l.length (dQ (aC l) o));refine cP Uq (Ez l o (by omega) hs vT kX) ?_;generalize fy l.length (dQ (aC l) o)=f at hF hpo dm ⊢;refine cP X1 (EB l.length f (by omega)) ?_
 cases hlo:bN (ln l.length f) l.length with
 | some a=>
  rw [hlo] at hF;have ha:=(cJ hlo).1;obtain ⟨x,hx⟩:∃ x,l[a]? = some x:=⟨_,gE ha⟩;simp only [lp hx] at hF;refine ⟨kH x,⟨by simp only [oz];omega,aY hx⟩,?_⟩;refine ⟨_,?_,rfl⟩;rw [hF];exact ax
 | none=>
 have hpo:=hpo hlo;rw [hlo] at hF;simp only at hF;refine cP X2 (KD l.length f (by omega)) ?_;refine lI (fun j st=>∃ e:Nat,st=Tc l l.length f e/\e<=l.length/\(∀ b,b < e->oc f l.length b=false)/\j=l.length - e) ⟨0,rfl,by omega,fun _ h=>by omega,rfl⟩ (aj ⟨_,rfl⟩ wA rfl rfl rfl wB) ?_;clear aN hL aQ he e;rintro j st ⟨e,rfl,he,fq,rfl⟩;refine br ?_ ?_<;>intro hL
 ·have ap:e < l.length:=sV dm hL;have qV:=Q2 hpo ap;refine lI (fun j st=>∃ k:Nat,st=Td l l.length f e k/\k<=e/\(∀ a,a < k->pG f l.length a e=false)/\j=e - k) ⟨0,rfl,by omega,fun _ h=>by omega,rfl⟩ (aj ⟨_,rfl⟩ wA rfl rfl rfl wB) ?_;rintro j st ⟨k,rfl,hk,NV,rfl⟩;refine br ?_ ?_<;>intro kM
  ·have jP:k < e:=sU kM;obtain ⟨x,hx⟩:=gX ap
   have NX:pG f l.length k e=true->F=(12,x.a):=fun U0=>by
    rw [bB ap (by rw [qV,List.any_eq_true];exact ⟨k,by simpa using jP,U0⟩) fq] at hF;simp only [lp hx] at hF;exact hF
   refine cP Mn (ou l.length f (by omega) k e (by omega) ap) ?_;refine br ?_ ?_<;>intro g1
   ·have g1:¬ kP f l.length k e=none:=fun hn=>by rw [gC.2 hn] at g1;cases g1
    refine cP Mn (ou l.length (fun a b=>f b a) (by omega) k e (by omega) ap) ?_;refine br ?_ ?_<;>intro g2
    ·have g2:kP (fun a b=>f b a) l.length k e=none:=by
      rw [<- gC];simpa [pickB] using g2
     have hF:=NX (by unfold pG;rw [g2];simp);refine ⟨kH x,⟨by omega,aY hx⟩,?_⟩;refine ⟨_,?_,rfl⟩;rw [hF];exact ax
    ·have g2:¬ kP (fun a b=>f b a) l.length k e=none:=fun hn=>by
      have h3:=gC.2 hn;simp [pickB] at g2;have h3:=of_decide_eq_true h3;omega
     refine ⟨Td l l.length f e (k + 1),(aj ⟨_,rfl⟩ wA rfl rfl rfl (dt (aJ jP (by omega)))),e - (k + 1),by omega,k + 1,rfl,by omega,fun j hj=>?_,rfl⟩;rcases eP hj with hj | rfl
     ·exact NV j hj
     ·unfold pG;rw [Option.isNone_eq_false_iff.2 (Option.isSome_iff_ne_none.2 g1),Option.isNone_eq_false_iff.2 (Option.isSome_iff_ne_none.2 g2)];rfl
   ·have g1:kP f l.length k e=none:=by
     rw [<- gC];simpa using g1
    have hF:=NX (by unfold pG;rw [g1];rfl);refine ⟨kH x,⟨by omega,aY hx⟩,?_⟩;refine ⟨_,?_,rfl⟩;rw [hF];exact ax
  ·have aQ:k=e:=by have:=kM;simp at this;omega
   subst aQ;refine ⟨Tc l l.length f (k + 1),(aj ⟨_,rfl⟩ wA rfl rfl rfl (dt (aJ ap (by omega)))),l.length - (k + 1),by omega,k + 1,rfl,by omega,fun j hj=>?_,rfl⟩;rcases eP hj with hj | rfl
   ·exact fq j hj
   ·rw [qV,List.any_eq_false];intro a ha;rw [NV a (sU ha)];decide
 ·have aQ:e=l.length:=sW dm hL;subst aQ;rw [bP fq] at hF;simp only at hF;refine ⟨_,?_,rfl⟩;rw [hF];exact ax
abbrev ovSt (n:Nat) (f:Nat->Nat->Bool) (l:List Nat) (c e:Nat):St:=
 ⟨[(0,⟨[],.sl 1 (cW (dJ n f)) none⟩),(1,⟨[],.sl 1 (dInts l) none⟩),(2,⟨[],.v (.int .i64 c)⟩),(7,⟨[],.v (.int .i64 e)⟩)],[],[]⟩
theorem Az (n:Nat) (f:Nat->Nat->Bool) (hn:n<=64) (l:List Nat) (hl:∀ i∈l,i < n) (xA:l.length<=1099511627776) (c:Nat) (hc:c < n) :
  aV prog 211 [.sl 1 (cW (dJ n f)) none,.sl 1 (dInts l) none,.v (.int .i64 c)] (.v (.bool (im f l c))):=by
 have dm:=jy n f;have DP:=bg l;refine eG 25 [.tmp 6] func211 rfl ntmps211 rfl fun _ _ _ _=>?_;refine lI (fun j st=>∃ e:Nat,st=ovSt n f l c e/\e<=l.length/\im f l c=im f (l.drop e) c/\j=l.length - e) ⟨0,rfl,by omega,rfl,rfl⟩ (aj ⟨_,rfl⟩ wA rfl rfl rfl wB) ?_;rintro j st ⟨e,rfl,he,aN,rfl⟩;rw [aN];refine br ?_ ?_<;>intro hL
 ·have ap:e < l.length:=by have:=hL;simp [DP] at this;exact this
  obtain ⟨i,hi⟩:=gX ap;have uT:=hl i (mG hi);have aW:im f (l.drop e) c=(f i c && im f (l.drop (e + 1)) c):=by unfold im;rw [drop_cons hi,List.all_cons]
  refine iX (aG hi) ?_;refine iX (fZ uT) ?_;refine iX (eL hc) ?_;refine br ?_ ?_<;>intro g
  ·have g:f i c=false:=sU g;rw [aW,g,Bool.false_and];exact (rfl:_=_)
  ·have g:f i c=true:=sU g;rw [g,Bool.true_and] at aW;exact rE ⟨_,by omega,e + 1,rfl,by omega,aW,rfl⟩ (aj ⟨_,rfl⟩ wA rfl rfl rfl (dt (aJ ap (by omega))))
 ·have aQ:e=l.length:=sW DP hL;rw [aQ,List.drop_length];exact (rfl:_=_)
def xK (f:Nat->Nat->Bool) (l:List Nat) (c k:Nat):Bool:=im f l c && (List.range k).all fun d=>!im f l d || f c d
theorem KG (f:Nat->Nat->Bool) (l:List Nat) (c:Nat):xK f l c 0=im f l c:=by simp [xK]
theorem KH (f:Nat->Nat->Bool) (l:List Nat) (c k:Nat):xK f l c (k + 1)=(xK f l c k && (!im f l k || f c k)):=by
 simp only [xK,List.range_succ,List.all_append,List.all_cons,List.all_nil,Bool.and_true,Bool.and_assoc]
abbrev Zz (n:Nat) (f:Nat->Nat->Bool) (l:List Nat) (e:Nat):St:=
 ⟨[(0,⟨[],.sl 1 (cW (dJ n f)) none⟩),(1,⟨[],.sl 1 (dInts l) none⟩),(5,⟨[],.v (.int .i64 e)⟩)],[],[]⟩
abbrev ZA (n:Nat) (f:Nat->Nat->Bool) (l:List Nat) (e:Nat) (x:Bool) (k:Nat):St:=
 ⟨[(0,⟨[],.sl 1 (cW (dJ n f)) none⟩),(1,⟨[],.sl 1 (dInts l) none⟩),(5,⟨[],.v (.int .i64 e)⟩),(6,⟨[],.v (.bool x)⟩),(7,⟨[],.v (.int .i64 k)⟩)],[],[]⟩
theorem Hw (n:Nat) (f:Nat->Nat->Bool) (hn:n<=64) (l:List Nat) (hl:∀ i∈l,i < n) (xA:l.length<=1099511627776) :
  aV prog 185 [.sl 1 (cW (dJ n f)) none,.sl 1 (dInts l) none] (.v (.int .i64 (oz (fj f n l)))):=by
 have dm:=jy n f;refine eG 40 [.tmp 4] func185 rfl ntmps185 rfl fun _ _ _ _=>?_;refine lI (fun j st=>∃ e:Nat,st=Zz n f l e/\e<=n/\(∀ c,c < e->te f n l c=false)/\j=n - e) ⟨0,rfl,by omega,fun _ h=>by omega,rfl⟩ (aj ⟨_,rfl⟩ wA rfl rfl rfl wB) ?_;rintro j st ⟨e,rfl,he,fq,rfl⟩;refine br ?_ ?_<;>intro hL
 ·have ap:e < n:=sV dm hL;refine cP Sz (Az n f hn l hl xA e ap) ?_;refine lJ (fun k=>ZA n f l e (xK f l e k) k) n (aj ⟨_,rfl⟩ wA rfl rfl rfl (dt ((KG f l e).symm))) ?_;intro k hk;refine br ?_ ?_<;>intro kM
  ·have jP:k < n:=sV dm kM;have KF:=KH f l e k;refine cP Sz (Az n f hn l hl xA k jP) ?_;refine br ?_ ?_<;>intro g1
   ·refine iX (fZ ap) ?_;refine iX (eL jP) ?_;refine br ?_ ?_<;>intro g2
    ·have hx:false=xK f l e (k + 1):=by simp [pickB] at g1 g2;rw [KF];simp [g1,g2]
     exact rE ⟨_,by omega,k + 1,rfl,by omega,rfl⟩ (aj ⟨_,rfl⟩ wA rfl rfl rfl (wB2 (aJ jP (by omega)) hx))
    ·have hx:xK f l e k=xK f l e (k + 1):=by simp [pickB] at g1 g2;rw [KF];simp [g1,g2]
     exact rE ⟨_,by omega,k + 1,rfl,by omega,rfl⟩ (aj ⟨_,rfl⟩ wA rfl rfl rfl (wB2 (aJ jP (by omega)) hx))
   ·have hx:xK f l e k=xK f l e (k + 1):=by simp [pickB] at g1;rw [KF];simp [g1]
    exact rE ⟨_,by omega,k + 1,rfl,by omega,rfl⟩ (aj ⟨_,rfl⟩ wA rfl rfl rfl (wB2 (aJ jP (by omega)) hx))
  ·have aQ:k=n:=sW dm kM;subst aQ;refine br ?_ ?_<;>intro g
   ·have g:te f k l e=true:=g;rw [fj,bB ap g fq];exact (rfl:_=_)
   ·have g:te f k l e=false:=g;refine ⟨Zz k f l (e + 1),(aj ⟨_,rfl⟩ wA rfl rfl rfl (dt (aJ ap (by omega)))),k - (e + 1),by omega,e + 1,rfl,by omega,fun j hj=>?_,rfl⟩;rcases eP hj with hj | rfl
    ·exact fq j hj
    ·exact g
 ·have aQ:e=n:=sW dm hL;subst aQ;rw [fj,bP fq];exact (rfl:_=_)
abbrev Vp (lv:List Wd) (f:Nat->Nat->Bool) (l:List Wd) (q e:Nat):St:=
 ⟨[(0,⟨[],.sl 2 (bO lv) none⟩),(1,⟨[],.sl 1 (cW (dJ lv.length f)) none⟩),(2,⟨[],.sl 2 (bO l) none⟩),(7,⟨[],.loc 0 0⟩),(8,⟨[],.sl 1 (dInts (mU (aC lv) (l.take e))) (some 0)⟩),(9,⟨[],.v (.int .i64 e)⟩)],[[.v (.int .i64 0),.v (.int .i64 0)]],[⟨q,3,1,none⟩]⟩
theorem Q3 {L:List ByteArray} {l:List Wd} {i:Nat} (h:i∈mU L l) (hL:0 < L.length):i < L.length:=by
 unfold mU at h;obtain ⟨w,_,rfl⟩:=List.mem_map.1 h
 cases hx:du L w.s with
 | none=>simpa using hL
 | some p=>exact (dD hx).1
theorem Hx {L:List ByteArray} {l:List Wd} {e i:Nat} {w:Wd} (h:l[e]? = some w) (hi:du L w.s=some i):dInts (mU L (l.take e)) ++ [[DV.v (.int .i64 (oz (some i)))]]=dInts (mU L (l.take (e + 1))):=by
 rw [tg h hi];simp [dInts,oz]
theorem KI (lv:List Wd) (f:Nat->Nat->Bool) (h0:0 < lv.length) (hn:lv.length<=32) (hs:wdsWt lv<=1099511627776) (l:List Wd) (hl:wdsWt l<=1099511627776) :
  aV prog 135 [.sl 2 (bO lv) none,.sl 1 (cW (dJ lv.length f)) none,.sl 2 (bO l) none] (Ku f (aC lv) l):=by
 have nK:=bL l;have fv:=dW lv;unfold Ku B9;refine eG 40 [.tmp 6,.cell 7 45] func135 rfl ntmps135 rfl fun _ _ _ _=>?_;refine lI (fun j st=>∃ e:Nat,st=Vp lv f l e e/\e<=l.length/\labW (aC lv) l=labW (aC lv) (l.drop e)/\j=l.length - e) ⟨0,rfl,by omega,rfl,rfl⟩ (fJ ⟨0,3,1,none⟩ rfl ⟨_,rfl⟩ rfl wA rfl rfl mi) ?_;rintro j st ⟨e,rfl,he,aN,rfl⟩;rw [aN];refine br ?_ ?_<;>intro hL
 ·have ap:e < l.length:=by simpa [aA] using hL
  obtain ⟨w,hw⟩:=gX ap;have aW:=tf (L:=aC lv) hw;refine ⟨kH w,⟨by omega,aY hw⟩,?_⟩;refine cP wx (fY lv w.s hs) ?_;refine br ?_ ?_<;>intro ha
  ·have ha:=gC.1 ha;rw [aW,ai ha];refine dS ?_;refine ⟨kH w,⟨by omega,aY hw⟩,?_⟩;exact ⟨_,ax,rfl⟩
  ·cases hi:du (aC lv) w.s with
   | none=>have:=gC.2 hi;rw [ha] at this;cases this
   | some i=>
   rw [ah (by rw [hi];simp)] at aW;refine ⟨by simp [bg,mU];omega,⟨by simp [bg,mU,maxLen];omega,by simp [bg,mU];omega⟩,?_⟩;exact rE ⟨_,by omega,e + 1,rfl,by omega,aW,rfl⟩ (aj ⟨_,rfl⟩ wA rfl rfl rfl (wB2 (aJ ap (by omega)) (Hx hw hi)))
 ·have aQ:e=l.length:=by have:=hL;simp [aA] at this;omega
  rw [aQ,List.drop_length,List.take_length];refine cP X7 (Hw lv.length f (by omega) (mU (aC lv) l) (fun i hi=>by have:=Q3 hi (by omega);omega) (by simp [mU];omega)) ?_;rw [<- fv];exact ⟨_,ax,rfl⟩
theorem Vq {S:Sch} {e:Nat} {x:Wd × Ty} (h:S.types[e]? = some x):(tL S)[e]? = some x.1.s:=by simp [tL,aC,uW,h]
abbrev Te (S:Sch) (s:ByteArray) (e:Nat):St:=
 ⟨[(1,⟨[],.v (.string s)⟩),(2,⟨[],.loc 0 0⟩),(5,⟨[],.v (.int .i64 e)⟩)],[gk S],[]⟩
theorem lx (S:Sch) (s:ByteArray) (hl:S.types.length<=1099511627776) :
  aV prog 136 [.agg (gk S),.v (.string s)] (.v (.int .i64 (oz (du (tL S) s)))):=by
 have hN:=eo S.types;have gZ:=kN S;have eZ:=@Vq S;obtain ⟨ae,order,types,⟨rh,rp⟩⟩:=S;simp only at hl hN gZ eZ;refine eG 23 [.tmp 4] func136 rfl ntmps136 rfl fun _ _ _ _=>?_;refine lI (fun j st=>∃ e:Nat,st=Te ⟨ae,order,types,.mk rh rp⟩ s e/\e<=types.length/\(∀ j,j < e->(tL ⟨ae,order,types,.mk rh rp⟩)[j]? ≠ some s)/\j=types.length - e) ⟨0,rfl,by omega,fun _ h=>by omega,rfl⟩ (aj ⟨_,rfl⟩ wA rfl rfl rfl wB) ?_;rintro j st ⟨e,rfl,he,fq,rfl⟩;refine br ?_ ?_<;>intro hL
 ·have ap:e < types.length:=by have:=hL;simp [hN] at this;exact this
  obtain ⟨x,hx⟩:=gX ap;have hg:=eZ hx;obtain ⟨xw,⟨xh,xp⟩⟩:=x;refine iX (dNms_get hx) ?_;refine br ?_ ?_<;>intro hq
  ·have hq:xw.s=s:=sU hq;rw [B6 (p:=e) (by rw [hg,hq]) (fun j hj=>Nat.le_of_not_lt fun hl=>fq j hl hj)];exact (rfl:_=_)
  ·have hq:¬ xw.s=s:=sU hq;refine ⟨Te ⟨ae,order,types,.mk rh rp⟩ s (e + 1),(aj ⟨_,rfl⟩ wA rfl rfl rfl (dt (aJ ap (by omega)))),types.length - (e + 1),by omega,e + 1,rfl,by omega,fun j hj=>?_,rfl⟩;rcases eP hj with hj | rfl
   ·exact fq j hj
   ·rw [hg];simpa using hq
 ·have aQ:e=types.length:=sW hN hL;rw [I2 (fun j hj=>fq j (by omega))];exact (rfl:_=_)
abbrev ZB (S:Sch) (l:List Wd) (e:Nat):St:=
 ⟨[(1,⟨[],.sl 2 (bO l) none⟩),(2,⟨[],.loc 0 0⟩),(4,⟨[],.loc 1 0⟩),(5,⟨[],.v (.int .i64 e)⟩)],[gk S,[.v (.int .i64 0),.v (.int .i64 0)]],[]⟩
theorem ED (S:Sch) (hs:wdsWt S.ae<=1099511627776) (l:List Wd) (hl:wdsWt l<=1099511627776) :
  aV prog 179 [.agg (gk S),.sl 2 (bO l) none] (labW (aC S.ae) l).d:=by
 have nK:=bL l;obtain ⟨ae,order,types,⟨rh,rp⟩⟩:=S;simp only at hs;refine eG 28 [.cell 4 45] func179 rfl ntmps179 rfl fun _ _ _ _=>?_;refine lI (fun j st=>∃ e:Nat,st=ZB ⟨ae,order,types,.mk rh rp⟩ l e/\e<=l.length/\labW (aC ae) l=labW (aC ae) (l.drop e)/\j=l.length - e) ⟨0,rfl,by omega,rfl,rfl⟩ (aj ⟨_,rfl⟩ wA rfl rfl rfl wB) ?_;rintro j st ⟨e,rfl,he,aN,rfl⟩;rw [aN];refine br ?_ ?_<;>intro hL
 ·have ap:e < l.length:=by simpa [aA] using hL
  obtain ⟨w,hw⟩:=gX ap;have aW:=tf (L:=aC ae) hw;refine dI ?_;refine ⟨kH w,⟨by omega,aY hw⟩,?_⟩;refine cD wx (fY ae w.s hs) ?_;refine br ?_ ?_<;>intro ha
  ·have ha:=gC.1 ha;rw [aW,ai ha];refine ⟨kH w,⟨by omega,aY hw⟩,?_⟩;exact ⟨_,ax,rfl⟩
  ·rw [ah (fun hn=>by have:=gC.2 hn;rw [ha] at this;cases this)] at aW;exact rE ⟨_,by omega,e + 1,rfl,by omega,aW,rfl⟩ (aj ⟨_,rfl⟩ wA rfl rfl rfl (dt (aJ ap (by omega))))
 ·have aQ:e=l.length:=by have:=hL;simp [aA] at this;omega
  rw [aQ,List.drop_length];exact ⟨_,ax,rfl⟩
def iR (l:List Ty):List (List DV):=l.map eE
theorem ep (l:List Ty):(iR l).length=l.length:=by simp [iR]
theorem kQ {l:List Ty} {j:Nat} {t:Ty} (h:l[j]? = some t):(iR l)[j]? = some (eE t):=by simp [iR,h]
def fD (S:Sch):List Ty:=S.types.map fun x=>x.2
def gM (S:Sch):List Ty:=fD S ++ [S.root]
abbrev ZC (S:Sch) (q e:Nat):St:=
 ⟨[(1,⟨[],.loc 0 0⟩),(3,⟨[],.sl 9 (iR ((fD S).take e)) (some 0)⟩),(4,⟨[],.v (.int .i64 e)⟩)],[gk S],[⟨q,29,9,none⟩]⟩
theorem EE (S:Sch) (hl:S.types.length<=1099511627776) :
  aV prog 68 [.agg (gk S)] (.sl 9 (iR (gM S)) none):=by
 have hN:=eo S.types;obtain ⟨ae,order,types,⟨rh,rp⟩⟩:=S;simp only at hl hN;refine eG 26 [.tmp 2] func68 rfl ntmps68 rfl fun _ _ _ _=>?_;refine lJ (fun e=>ZC ⟨ae,order,types,.mk rh rp⟩ e e) types.length (dc 1 ⟨0,29,9,none⟩ rfl rfl rfl pS rfl rfl mi) ?_;intro e he;have gZ:(iR ((fD ⟨ae,order,types,.mk rh rp⟩).take e)).length=e:=by simp [iR,fD];omega
 refine br ?_ ?_<;>intro hL
 ·have ap:e < types.length:=by have:=hL;simp [hN] at this;exact this
  obtain ⟨x,hx⟩:=gX ap
  have dK:iR ((fD ⟨ae,order,types,.mk rh rp⟩).take e) ++ [eE x.2]=iR ((fD ⟨ae,order,types,.mk rh rp⟩).take (e + 1)):=by
   rw [List.take_add_one];simp [fD,hx,iR]
  obtain ⟨xw,⟨xh,xp⟩⟩:=x;refine iX (dNms_get hx) ?_;refine ⟨gZ,⟨by rw [gZ];simp [maxLen];omega,by rw [gZ];simp;omega⟩,?_⟩;exact rE ⟨_,by omega,e + 1,rfl,by omega,rfl⟩ (au 1 rfl (gF (aJ ap (by omega)) dK) rfl rfl rfl (wB2 (aJ ap (by omega)) dK))
 ·have aQ:e=types.length:=sW hN hL
  have pu:iR ((fD ⟨ae,order,types,.mk rh rp⟩).take e) ++ [eE (.mk rh rp)]=iR (gM ⟨ae,order,types,.mk rh rp⟩):=by
   rw [List.take_of_length_le (by simp [fD];omega)];simp [gM,iR]
  refine ⟨gZ,⟨by rw [gZ];simp [maxLen];omega,by rw [gZ];simp;omega⟩,?_⟩;rw [<- pu];exact ⟨_,ax,rfl⟩
mutual
def flatT:Ty->List Ty
 | .mk h ps=>if h.ag=9 then [] else .mk h ps :: flatP ps
def flatP:Pts->List Ty
 | .nil=>[]
 | .cons p t r=>(if p.bare then [] else flatT t) ++ flatP r
end
mutual
theorem kr:∀ t:Ty,(flatT t).length=t.nn
 | .mk h ps=>by
  have:=tu ps;simp only [flatT,Ty.nn];split
  ·rfl
  ·simp only [List.length_cons];omega
theorem tu:∀ ps:Pts,(flatP ps).length=ps.nn
 | .nil=>rfl
 | .cons p t r=>by
  have:=kr t;have:=tu r;simp only [flatP,Pts.nn,List.length_append];split
  ·simp only [List.length_nil];omega
  ·omega
end
theorem Q4 {P:Program} {f:FuncId} {args:List DV} {e:Nat} {es:List (List DV)} (h:Ev P f args [] [] (fun r _ _=>r = .sl e es none∨(es=[]/\r = .v (.slice none 0 0)))):aV P f args (.sl e es none):=by
 intro E w vs hE ht hv;refine (h E w vs hE ht hv).mono ?_;rintro e' w' ⟨v,rfl,hM,hs,d,os,E',h1,h2,h3,h4,h5,h6⟩;rcases h6 with rfl | ⟨rfl,rfl⟩
 ·exact ⟨v,rfl,hM,hs,_,os,E',h1,h2,h3,h4,h5,rfl⟩
 ·refine ⟨v,rfl,hM,hs,.sl e [] none,os,E',h1,h2,h3,h4,?_,rfl⟩;unfold Rv at h5 ⊢;exact ⟨_,0,0,h5.1,⟨rfl,aR _⟩,fun hn=>(hn rfl).elim,fun k hk=>by cases hk⟩
abbrev Vr (t:Ty) (L:List Ty) (q e:Nat):St:=
 ⟨[(1,⟨[],.loc 0 0⟩),(3,⟨[],.sl 9 (iR L) (some 0)⟩),(4,⟨[],.v (.int .i64 e)⟩)],[eE t],[⟨q,29,9,none⟩]⟩
theorem oZ:∀ (k:Nat) (t:Ty),t.wt<=k->t.wt<=1099511627776 ->
  aV prog 69 [.agg (eE t)] (.sl 9 (iR (flatT t)) none)
 | 0,t,hn,_=>by have:=t.eJ;omega
 | k + 1,.mk h ps,hn,cL=>by
  simp only [Ty.wt,Hd.wt] at hn cL;have nv:=ps.gz;have hc:=ps.ff;have lA:=ps.hU;have JQ:=tu ps;refine Q4 ?_;refine vb (s:=false) (bt:=[]) (mu:=[9]) (hbt:=fun p hp=>by cases hp) (fr:=false) (P:=prog) tt zP 5000 34 [.tmp 2] func69 rfl ntmps69 rfl (nL rfl) (fun _ _ _ _=>?_);refine br ?_ ?_<;>intro h9
  ·have h9:h.ag=9:=sU h9;have:flatT (.mk h ps)=[]:=by simp [flatT,h9]
   exact .inr ⟨by rw [this];rfl,rfl⟩
  have h9:¬ h.ag=9:=sU h9;have hft:flatT (.mk h ps) = .mk h ps :: flatP ps:=by simp [flatT,h9]
  refine Ve rfl rfl rfl rfl rfl rfl rfl rfl ?_
  refine bz (fun j st=>∃ (e q:Nat) (L:List Ty),st=Vr (.mk h ps) L q e/\q=L.length/\e<=ps.len/\flatT (.mk h ps)=L ++ flatP (ps.drop e)/\j=ps.len - e) ps.len
   (Vr (.mk h ps) [.mk h ps] 1 0) (au 1 rfl pS rfl rfl rfl mi) ⟨0,1,_,rfl,rfl,by omega,hft,by omega⟩ ?_
  rintro j st ⟨e,q,L,rfl,hq,he,bp,rfl⟩
  have ZD:L.length<=1 + ps.nn:=by
   have:=congrArg List.length bp;rw [hft] at this;simp at this;omega
  refine br ?_ ?_<;>intro hL
  ·have ap:e < ps.len:=by simpa [aO] using hL
   obtain ⟨p,t,hx⟩:=Pts.fc ap;have yO:=Pts.gV (mG hx);rw [Pts.drop_cons hx] at bp;simp only [flatP] at bp;obtain ⟨u,us⟩:=t;refine iX (cp hx) ?_;refine br ?_ ?_<;>intro hB
   ·have hB:p.bare=false:=sU hB;have bp:flatT (.mk h ps)=(L ++ flatT (.mk u us)) ++ flatP (ps.drop (e + 1)):=by rw [bp,hB,List.append_assoc];all_goals rfl
    have xA:L.length + (flatT (.mk u us)).length<=1 + ps.nn:=by
     have:=congrArg List.length bp;rw [hft] at this;simp at this;omega
    have dK:iR L ++ iR (flatT (.mk u us))=iR (L ++ flatT (.mk u us)):=by simp [iR]
    refine iX (cp hx) ?_;refine cP Qi (oZ k (.mk u us) (by omega) (by omega)) ?_;refine ⟨by rw [ep,hq],⟨by simp only [ep,maxLen];omega,by simp only [ep];omega⟩,?_⟩;exact ⟨Vr (.mk h ps) (L ++ flatT (.mk u us)) (q + (iR (flatT (.mk u us))).length) (e + 1),(au 1 rfl (gF (aJ ap (by omega)) dK) rfl rfl rfl (wB2 (aJ ap (by omega)) dK)),ps.len - (e + 1),by omega,e + 1,_,_,rfl,by rw [ep,List.length_append,hq],by omega,bp,rfl⟩
   ·have hB:p.bare=true:=sU hB;rw [hB] at bp;exact rE ⟨_,by omega,e + 1,q,L,rfl,hq,by omega,bp,rfl⟩ (au 1 rfl (ny (aJ ap (by omega))) rfl rfl rfl (dt (aJ ap (by omega))))
  ·have aQ:e=ps.len:=by simp [aO] at hL;omega
   rw [aQ,Pts.dH] at bp;simp only [flatP,List.append_nil] at bp;rw [bp];exact ⟨_,ax,.inl rfl⟩
theorem xL (S:Sch) (hl:S.types.length<=1099511627776) (hr:∀ x∈S.types,uX S x.2=true):∀ (k i:Nat),i < S.types.length->k<=99 ->
  aV prog 119 [.agg (gk S),.v (.int .i64 i),.v (.int .i64 k)] (.v (.int .i64 (oz (endI S (k + 1) i))))
 | k,i,hi,hk=>by
  have hN:=eo S.types;have B8:=fun s=>lx S s hl;have ih:∀ k' j,k=k' + 1->j < S.types.length->aV prog 119 [.agg (gk S),.v (.int .i64 j),.v (.int .i64 k')] (.v (.int .i64 (oz (endI S (k' + 1) j)))):=fun k' j he hj=>xL S hl hr k' j hj (by omega);obtain ⟨x,hx⟩:∃ x,S.types[i]? = some x:=⟨_,gE hi⟩;have QF:=hr x (mG hx);have gZ:=kN S;obtain ⟨xw,⟨xh,xp⟩⟩:=x;have hE:endI S (k + 1) i=if xh.ag=9 then endI S k ((du (tL S) xh.name.s).getD 0) else some i:=by rw [endI,hx];all_goals rfl
  obtain ⟨ae,order,types,⟨rh,rp⟩⟩:=S;simp only at hl hN hi hx QF gZ;refine eG 32 [.tmp 6] func119 rfl ntmps119 rfl fun _ _ _ _=>?_;refine iX (dNms_get hx) ?_;refine br ?_ ?_<;>intro h9
  ·have h9:¬ xh.ag=9:=sU h9;rw [ah h9] at hE;rw [hE];exact (rfl:_=_)
  have h9:xh.ag=9:=sU h9;rw [ai h9] at hE;rw [hE];refine br ?_ ?_<;>intro h1
  ·have h1:k=0:=by have:=h1;simp at this;omega
   subst h1;exact (rfl:_=_)
  have h1:1<=k:=by have:=h1;simp at this;omega
  obtain ⟨k',rfl⟩:∃ k',k=k' + 1:=⟨k - 1,by omega⟩;have zM:=of_decide_eq_true QF h9;obtain ⟨j,hj⟩:∃ j,du (tL ⟨ae,order,types,.mk rh rp⟩) xh.name.s=some j:=Option.ne_none_iff_exists'.1 zM;have nS:=(dD hj).1;rw [gZ] at nS;have hf:=B8 xh.name.s;rw [hj] at hf ⊢;have eX:IntKind.i64.wrap (((k' + 1:Nat):Int) - 1)=(k':Int):=by rw [wrap64 (by omega) (by omega)];omega
  refine dI ?_;refine iX (dNms_get hx) ?_;refine cD Ix hf ?_;refine cD Ml (ih k' j rfl nS) ?_ (gU eX);exact (rfl:_=_)
theorem tv {S:Sch}:∀ {k i j:Nat},endI S k i=some j->endI S (k + 1) i=some j
 | 0,i,j,h=>by cases h
 | k + 1,i,j,h=>by
  rw [endI] at h ⊢
  cases hx:S.types[i]? with
  | none=>rw [hx] at h;cases h
  | some x=>
   rw [hx] at h;simp only at h ⊢;split at h
   ·rename_i h9;rw [ai h9];exact tv h
   ·rename_i h9;rw [ah h9];exact h
def uY (S:Sch) (k:Nat):List Bool:=(List.range S.types.length).map fun i=>(endI S k i).isSome
theorem rI (S:Sch) (k:Nat):(uY S k).length=S.types.length:=by simp [uY]
theorem xM {S:Sch} {k i:Nat} (hi:i < S.types.length):(uY S k).getD i false=(endI S k i).isSome:=by
 simp [uY,aF,List.getElem?_range hi]
theorem Q5 (S:Sch) (k:Nat):Ac (uY S k) (uY S (k + 1)):=by
 intro i h;by_cases hi:i < S.types.length
 ·rw [xM hi] at h ⊢;obtain ⟨j,hj⟩:=Option.isSome_iff_exists.1 h;rw [tv hj];rfl
 ·rw [aF,cR (by rw [rI];omega)] at h;cases h
theorem NY {S:Sch} {k:Nat} (h:uY S k=uY S (k + 1)):∀ i,endI S (k + 2) i=endI S (k + 1) i:=by
 intro i
 have key:∀ {j:Nat},j < S.types.length->(endI S k j).isSome=(endI S (k + 1) j).isSome:=fun {j} hj=>by
  rw [<- xM hj,<- xM hj,h]
 have same:∀ j,endI S (k + 1) j=endI S k j:=fun j=>by
  cases h1:endI S k j with
  | some m=>exact tv h1
  | none=>
   cases h2:endI S (k + 1) j with
   | none=>rfl
   | some m=>
    have hj:j < S.types.length:=by
     rw [endI] at h2
     cases hx:S.types[j]? with
     | none=>rw [hx] at h2;cases h2
     | some x=>exact (gS hx).1
    have:=key hj;rw [h1,h2] at this;cases this
 rw [endI,endI]
 cases hx:S.types[i]? with
 | none=>rfl
 | some x=>
  simp only;split
  ·exact same _
  ·rfl
theorem AA (S:Sch):∀ k,(∀ i,endI S (k + 1) i=endI S k i)∨k<=kL (uY S k)
 | 0=>.inr (Nat.zero_le _)
 | k + 1=>by
  rcases AA S k with h | h
  ·refine .inl fun i=>?_;rw [endI,endI]
   cases hx:S.types[i]? with
   | none=>rfl
   | some x=>
    simp only;split
    ·exact h _
    ·rfl
  ·rcases (lG (by rw [rI,rI]) (Q5 S k)).1 with h2 | h2
   ·exact .inl (NY h2)
   ·exact .inr (by omega)
theorem EF {S:Sch}:∀ {k:Nat},S.types.length + 1<=k->∀ i,endI S k i=endI S (S.types.length + 1) i:=by
 have aW:∀ i,endI S (S.types.length + 2) i=endI S (S.types.length + 1) i:=fun i=>by
  rcases AA S (S.types.length + 1) with h | h
  ·exact h i
  ·have:=rq (uY S (S.types.length + 1));rw [rI] at this;omega
 have key:∀ d i,endI S (S.types.length + 1 + (d + 1)) i=endI S (S.types.length + 1 + d) i:=by
  intro d
  induction d with
  | zero=>exact aW
  | succ d ih=>
   intro i;show endI S (S.types.length + 1 + (d + 1) + 1) i=endI S (S.types.length + 1 + d + 1) i;rw [endI,endI]
   cases hx:S.types[i]? with
   | none=>rfl
   | some x=>
    simp only;split
    ·exact ih _
    ·rfl
 intro k hk i;obtain ⟨d,rfl⟩:∃ d,k=S.types.length + 1 + d:=⟨k - (S.types.length + 1),by omega⟩;clear hk
 induction d with
 | zero=>rfl
 | succ d ih=>rw [key,ih]
theorem xN (S:Sch) (hl:S.types.length<=64) (hr:∀ x∈S.types,uX S x.2=true) (i:Nat) (hi:i < S.types.length) :
  aV prog 119 [.agg (gk S),.v (.int .i64 i),.v (.int .i64 (99:Nat))] (.v (.int .i64 (oz (endI S (S.types.length + 1) i)))):=by
 have:=xL S (by omega) hr 99 i hi (aR _)
 rwa [EF (by omega)] at this
abbrev ZE (S:Sch) (k n e:Nat):St:=
 ⟨[(2,⟨[],.loc 0 0⟩),(5,⟨[],.v (.int .i64 k)⟩),(6,⟨[],.v (.int .i64 n)⟩),(7,⟨[],.v (.int .i64 e)⟩)],[gk S],[]⟩
theorem xO (S:Sch) (hl:S.types.length<=64) (hs:nmsWt S.types<=1099511627776) (hr:∀ x∈S.types,uX S x.2=true) (s:ByteArray) (i k:Nat) (hi:du (tL S) s=some i) (hk:endI S (S.types.length + 1) i=some k) :
  aV prog 71 [.agg (gk S),.v (.string s)] (.v (.int .i64 (firstA S k))):=by
 have hN:=eo S.types;have DP:=(dD hi).1;rw [kN] at DP;have eC:=(rB hk).1;have hf:=lx S s (by omega);have he:=xN S hl hr i DP;rw [hi] at hf;rw [hk] at he;have hfa:=@oh S;have IY:=An S;obtain ⟨ae,order,types,⟨rh,rp⟩⟩:=S;simp only at hl hs hN DP eC hfa IY;refine eG 29 [.tmp 4] func71 rfl ntmps71 rfl fun _ _ _ _=>?_;refine dI ?_;refine cD Ix hf ?_;refine cD Ml he ?_;refine lJ (fun e=>ZE ⟨ae,order,types,.mk rh rp⟩ k (firstA ⟨ae,order,types,.mk rh rp⟩ e) e) k (aj ⟨_,rfl⟩ wA rfl rfl rfl wB) ?_;intro e Vs;refine br ?_ ?_<;>intro hL
 ·have ap:e < k:=sU hL;obtain ⟨x,hx⟩:∃ x,types[e]? = some x:=⟨_,gE (by omega)⟩;have SM:=il (mG hx);have h1:=hfa hx;have h2:=IY e;have h3:=IY (e + 1);have h4:=kr x.2;obtain ⟨xw,⟨xh,xp⟩⟩:=x;simp only at SM h1 h4;refine iX (dNms_get hx) ?_;refine cP Qi (oZ _ (.mk xh xp) (aR _) (by omega)) ?_
  have C8:IntKind.i64.wrap ((firstA ⟨ae,order,types,.mk rh rp⟩ e:Int) + (iR (flatT (.mk xh xp))).length)=(firstA ⟨ae,order,types,.mk rh rp⟩ (e + 1):Int):=by
   rw [ep,wrap64 (by omega) (by omega)];omega
  exact rE ⟨_,by omega,e + 1,rfl,by omega,rfl⟩ (aj ⟨_,rfl⟩ wA rfl rfl rfl (wB2 C8 (aJ ap (by omega))))
 ·have aQ:e=k:=by have:=hL;simp at this;omega
  subst aQ;exact (rfl:_=_)
theorem I5 {S:Sch} {e:Nat} {x:Wd × Ty} (h:S.types[e]? = some x):(uW S)[e]? = some x.1:=by simp [uW,h]
abbrev ZF (S:Sch) (e:Nat):St:=
 ⟨[(1,⟨[],.loc 0 0⟩),(2,⟨[],.loc 1 0⟩),(3,⟨[],.v (.int .i64 e)⟩)],[gk S,[.v (.int .i64 0),.v (.int .i64 0)]],[]⟩
theorem Ck (S:Sch) (hs:nmsWt S.types<=1099511627776) :
  aV prog 116 [.agg (gk S)] (eK S).d:=by
 have hN:=eo S.types;have fv:=km S.types;have gZ:=I0 S;have hF:=eK.eq_1 S;have eZ:=@I5 S;have B8:=fun s=>lx S s (by omega);have Y2:tL S=aC (uW S):=rfl;obtain ⟨ae,order,types,⟨rh,rp⟩⟩:=S;simp only at hs hN fv gZ eZ hF;generalize hQ:uW ⟨ae,order,types,.mk rh rp⟩=Q at gZ hF eZ Y2;refine eG 47 [.cell 2 45] func116 rfl ntmps116 rfl fun _ _ _ _=>?_;generalize eK ⟨ae,order,types,.mk rh rp⟩=F at hF ⊢;refine br ?_ ?_<;>intro h
 ·have h:64 < types.length:=by simp [hN] at h;omega
  obtain ⟨x,hx⟩:∃ x,types[64]? = some x:=⟨_,gE h⟩;have Nz:=eZ hx;rw [ai h,lp Nz] at hF;obtain ⟨xw,⟨xh,xp⟩⟩:=x;refine iX (dNms_get hx) ?_;refine ⟨_,?_,rfl⟩;rw [hF];exact ax
 have h:¬ 64 < types.length:=by simp [hN] at h;omega
 rw [ah h] at hF;refine lI (fun j st=>∃ e:Nat,st=ZF ⟨ae,order,types,.mk rh rp⟩ e/\e<=types.length/\enumL Q 0 Q=enumL Q e (Q.drop e)/\j=types.length - e) ⟨0,rfl,by omega,rfl,rfl⟩ (aj ⟨_,rfl⟩ wA rfl rfl rfl wB) ?_;rintro j st ⟨e,rfl,he,aN,rfl⟩;rw [aN] at hF;refine br ?_ ?_<;>intro hL
 ·have ap:e < types.length:=by have:=hL;simp [hN] at this;exact this
  obtain ⟨x,hx⟩:=gX ap;have SM:=il (mG hx);have hq:=eZ hx;have aW:=pZ hq;obtain ⟨p,hp,Ig⟩:=NW hq;obtain ⟨xw,⟨xh,xp⟩⟩:=x;simp only [Wd.wt] at SM hq aW hp Ig;have hf:=B8 xw.s;rw [Y2,hp] at hf;have hlab:=mM [xw] (by simp only [wdsWt,Wd.wt];omega);have F3:cd [xw]=if bi xw.s then (0,0) else (9,xw.a):=by simp [cd,badWd]
  refine iX (dNms_get hx) ?_;refine cP Ms hlab ?_;refine br ?_ ?_<;>intro hN
  ·have hN:(cd [xw]).1≠0:=sU hN
   cases bw:bi xw.s with
   | true=>rw [F3,bw] at hN;exact absurd rfl hN
   | false=>
   rw [bw] at F3;have F3:cd [xw]=(9,xw.a):=F3;have hf9:aK Q e xw=9:=by simp [aK,bw]
   rw [aW,hf9,ai (by decide)] at hF;refine ⟨_,?_,rfl⟩;rw [hF,F3];exact ax
  ·have hN:(cd [xw]).1=0:=sU hN
   cases bw:bi xw.s with
   | false=>rw [F3,bw] at hN;exact absurd hN (by simp)
   | true=>
   refine cP Ix hf ?_;refine br ?_ ?_<;>intro h2
   ·have h2:p < e:=by have:=h2;simp [oz] at this;exact this
    have hf10:aK Q e xw=10:=by simp [aK,bw,Ig.1 h2]
    rw [aW,hf10,ai (by decide)] at hF;refine ⟨_,?_,rfl⟩;rw [hF];exact ax
   ·have h2:¬ p < e:=by have:=h2;simp [oz] at this;omega
    have hd:bT (Q.take e) xw.s=false:=by
     cases hd:bT (Q.take e) xw.s
     ·rfl
     ·exact absurd (Ig.2 hd) h2
    have hf0:aK Q e xw=0:=by simp [aK,bw,hd]
    rw [hf0,ah (by simp)] at aW;exact rE ⟨_,by omega,e + 1,rfl,by omega,by rw [aN,aW],rfl⟩ (aj ⟨_,rfl⟩ wA rfl rfl rfl (dt (aJ ap (by omega))))
 ·have aQ:e=types.length:=sW hN hL;rw [aQ,<- gZ,List.drop_length] at hF;refine ⟨_,?_,rfl⟩;rw [hF];exact ax
abbrev I6 (S:Sch) (t:Ty) (e:Nat):St:=
 ⟨[(2,⟨[],.loc 0 0⟩),(3,⟨[],.loc 1 0⟩),(4,⟨[],.loc 2 0⟩),(5,⟨[],.v (.int .i64 e)⟩)],[gk S,eE t,[.v (.int .i64 0),.v (.int .i64 0)]],[]⟩
theorem rJ (S:Sch) (hl:S.types.length<=1099511627776) (hs:wdsWt S.ae<=1099511627776):∀ (k:Nat) (t:Ty),t.wt<=k->t.wt<=1099511627776 ->
  aV prog 118 [.agg (gk S),.agg (eE t)] (lr S t).d
 | 0,t,hn,_=>by have:=t.eJ;omega
 | k + 1,.mk h ps,hn,cL=>by
  have ih:=rJ S hl hs k;simp only [Ty.wt,Hd.wt] at hn cL;have nv:=ps.gz;have hf:=lx S h.name.s hl;have hwd:=fun l hl=>ED S hs l hl;have hS:lr S (.mk h ps)=if h.ag=9/\du (tL S) h.name.s=none then (15,h.name.a) else knP ⟨aC S.ae,[],[],[],fun _ _=>false⟩ (tL S) ps:=by rw [lr,knT]
  have Wn:knP ⟨aC S.ae,[],[],[],fun _ _=>false⟩ (tL S) ps=knP ⟨aC S.ae,[],[],[],fun _ _=>false⟩ (tL S) (ps.drop 0):=by rw [Pts.drop]
  have hK:∀ e p u,ps.toList[e]? = some (p,u)->knP ⟨aC S.ae,[],[],[],fun _ _=>false⟩ (tL S) (ps.drop e)=if (labW (aC S.ae) p.label).1≠0 then labW (aC S.ae) p.label else if (labW (aC S.ae) p.cl).1≠0 then labW (aC S.ae) p.cl else if p.bare then knP ⟨aC S.ae,[],[],[],fun _ _=>false⟩ (tL S) (ps.drop (e + 1)) else if (lr S u).1≠0 then lr S u else knP ⟨aC S.ae,[],[],[],fun _ _=>false⟩ (tL S) (ps.drop (e + 1)):=fun e p u hx=>by
   rw [Pts.drop_cons hx,knP];all_goals rfl
  have QW:knP ⟨aC S.ae,[],[],[],fun _ _=>false⟩ (tL S) .nil=(0,0):=by rw [knP]
  generalize knP ⟨aC S.ae,[],[],[],fun _ _=>false⟩ (tL S)=KP at hS Wn hK QW;obtain ⟨ae,order,types,⟨rh,rp⟩⟩:=S;refine eG 64 [.cell 4 45] func118 rfl ntmps118 rfl fun _ _ _ _=>?_;generalize lr ⟨ae,order,types,.mk rh rp⟩ (.mk h ps)=F at hS ⊢;refine have body:=?_;br (fun h9=>L6 Ix hf ax rfl (br (fun hx=>?_) (fun hx=>bz (fun j st=>∃ e:Nat,st=I6 ⟨ae,order,types,.mk rh rp⟩ (.mk h ps) e/\e<=ps.len/\F=KP (ps.drop e)/\j=ps.len - e) ps.len (I6 ⟨ae,order,types,.mk rh rp⟩ (.mk h ps) 0) (aj ⟨_,rfl⟩ wA rfl rfl rfl wB) ⟨0,rfl,by omega,?_,by omega⟩ body))) (fun h9=>bz (fun j st=>∃ e:Nat,st=I6 ⟨ae,order,types,.mk rh rp⟩ (.mk h ps) e/\e<=ps.len/\F=KP (ps.drop e)/\j=ps.len - e) ps.len (I6 ⟨ae,order,types,.mk rh rp⟩ (.mk h ps) 0) (aj ⟨_,rfl⟩ wA rfl rfl rfl wB) ⟨0,rfl,by omega,?_,by omega⟩ body)
  rotate_left
  ·have h9:h.ag=9:=sU h9;have hx:du (tL ⟨ae,order,types,.mk rh rp⟩) h.name.s=none:=gC.1 (by simpa [pickB] using hx);rw [ai ⟨h9,hx⟩] at hS;refine ⟨_,?_,rfl⟩;rw [hS];exact ax
  ·have hx:¬ du (tL ⟨ae,order,types,.mk rh rp⟩) h.name.s=none:=fun hn=>by
    have h3:=gC.2 hn;simp [pickB] at hx;have h3:=of_decide_eq_true h3;omega
   rw [ah (fun hc=>hx hc.2),Wn] at hS;exact hS
  ·have h9:¬ h.ag=9:=sU h9;rw [ah (fun hc=>h9 hc.1),Wn] at hS;exact hS
  rintro j st ⟨e,rfl,he,aN,rfl⟩;refine br ?_ ?_<;>intro hL
  ·have ap:e < ps.len:=by simpa [aO] using hL
   obtain ⟨p,t,hx⟩:=Pts.fc ap;have yO:=Pts.gV (mG hx);have hk:=hK e p t hx;have hw1:wdsWt p.label + wdsWt p.cl<=p.wt:=by simp only [Ph.wt];omega
   obtain ⟨u,us⟩:=t;refine iX (cp hx) ?_;refine cP Ss (hwd p.label (by omega)) ?_;refine br ?_ ?_<;>intro b1
   ·have b1:(labW (aC ae) p.label).1=0:=sU b1;rw [ah (by simp [b1])] at hk;refine cP Ss (hwd p.cl (by omega)) ?_;refine br ?_ ?_<;>intro b2
    ·have b2:(labW (aC ae) p.cl).1=0/\p.bare=false:=by
      rw [av] at b2;simpa using b2
     obtain ⟨b2,b3⟩:=b2;rw [ah (by simp [b2]),ah (by simp [b3])] at hk;refine cP Mk (ih (.mk u us) (by omega) (by omega)) ?_;refine br ?_ ?_<;>intro b4
     ·have b4:(lr ⟨ae,order,types,.mk rh rp⟩ (.mk u us)).1≠0:=sU b4;rw [ai b4] at hk
      (refine ⟨_,?_,rfl⟩;rw [aN,hk];exact ax)
     ·have b4:(lr ⟨ae,order,types,.mk rh rp⟩ (.mk u us)).1=0:=sU b4;rw [ah (by simp [b4])] at hk;exact rE ⟨_,by omega,e + 1,rfl,by omega,by rw [aN,hk],rfl⟩ (aj ⟨_,rfl⟩ wA rfl rfl rfl (dt (aJ ap (by omega))))
    ·refine br ?_ ?_<;>intro b4
     ·have b4:(labW (aC ae) p.cl).1≠0:=sU b4;rw [ai b4] at hk
      (refine ⟨_,?_,rfl⟩;rw [aN,hk];exact ax)
     ·have b4:(labW (aC ae) p.cl).1=0:=sU b4
      have b3:p.bare=true:=by
       rw [av] at b2;simpa [b4] using b2
      rw [ah (by simp [b4]),ai b3] at hk;exact rE ⟨_,by omega,e + 1,rfl,by omega,by rw [aN,hk],rfl⟩ (aj ⟨_,rfl⟩ wA rfl rfl rfl (dt (aJ ap (by omega))))
   ·have b1:¬ (labW (aC ae) p.label).1=0:=sU b1;rw [ai b1] at hk;refine br ?_ ?_<;>intro b2
    ·rw [av] at b2;simp [b1] at b2
    ·refine br ?_ ?_<;>intro b4
     ·(refine ⟨_,?_,rfl⟩;rw [aN,hk];exact ax)
     ·simp [b1] at b4
  ·have aQ:e=ps.len:=by simp [aO] at hL;omega
   rw [aQ,Pts.dH] at aN;refine ⟨_,?_,rfl⟩;rw [aN,QW];exact ax
abbrev I7 (h:Hd) (ps:Pts) (e:Nat) (depth m:Int):St:=
 ⟨[(2,⟨[],.v (.int .i64 depth)⟩),(3,⟨[],.loc 0 0⟩),(4,⟨[],.loc 1 0⟩),(6,⟨[],.loc 2 0⟩),(7,⟨[],.v (.int .i64 e)⟩)],[[.v (.int .i64 0),.v (.int .i64 0),.v (.int .i64 m)],eE (.mk h ps),[.v (.int .i64 0),.v (.int .i64 0),.v (.int .i64 0)]],[]⟩
theorem Cm (k:Nat) (ih:BS k) (h:Hd) (ps:Pts) (depth m:Int) (hk:ps.wt<=k) (cL:(Ty.mk h ps).wt<=1099511627776) (vg:0<=depth) (zf:depth<=25) (pk:0<=m) (kj:m<=512) :
  aV prog 117 [wD (0,0) m,.agg (eE (.mk h ps)),.v (.int .i64 depth)] (wD (wrong (.mk h ps) depth m).1 (wrong (.mk h ps) depth m).2):=by
 have Ak:=cL;simp only [Ty.wt,Hd.wt] at Ak;have nv:=ps.gz;have UD:=bL h.af;have se:IntKind.i64.wrap (m + 1)=m + 1:=wrap64 (by omega) (by omega)
 have hW:∀ e a,aV prog 174 [.agg [.v (.int .i64 0),.v (.int .i64 0),.v (.int .i64 (IntKind.i64.wrap (m + 1)))],.v (.int .i64 e),.v (.int .i64 a)] (wD (e,a) (m + 1)):=by
  intro e a;rw [se];exact eU (0,0) (m + 1) e a
 have hS:=wrong.eq_def (.mk h ps) depth m;simp only at hS;refine eG 201 [.cell 6 192] func117 rfl ntmps117 rfl fun _ _ _ _=>?_;refine br ?_ ?_<;>intro c
 ·have c:24 < depth:=of_decide_eq_true c;refine cP ik (hW 6 h.aX) ?_;rw [ai c] at hS;refine ⟨_,?_,rfl⟩;rw [hS];exact ax
 have c:¬ 24 < depth:=of_decide_eq_false c;rw [ah c] at hS;refine br ?_ ?_<;>intro c
 ·have c:512 < IntKind.i64.wrap (m + 1):=of_decide_eq_true c;rw [se] at c;refine cP ik (hW 8 h.aX) ?_;rw [ai c] at hS;refine ⟨_,?_,rfl⟩;rw [hS];exact ax
 have c:¬ 512 < IntKind.i64.wrap (m + 1):=of_decide_eq_false c;rw [se] at c;rw [ah c] at hS;refine br ?_ ?_<;>intro c
 ·have c:h.ag < 1∨9 < h.ag:=by simpa [aw] using c
  refine cP ik (hW 14 h.aX) ?_;rw [ai c] at hS;refine ⟨_,?_,rfl⟩;rw [hS];exact ax
 have c:¬ (h.ag < 1∨9 < h.ag):=by simp [aw] at c;omega
 rw [ah c] at hS;refine cP X3 (GG (.mk h ps) (by omega)) ?_;refine br ?_ ?_<;>intro c
 ·have c:uU (.mk h ps)=false:=by simpa [uU] using c
  refine cP ik (hW 19 h.aX) ?_;rw [ai c] at hS;refine ⟨_,?_,rfl⟩;rw [hS];exact ax
 have c:¬ uU (.mk h ps)=false:=by simpa [uU] using c
 rw [ah c] at hS;refine br ?_ ?_<;>intro c
 ·have c:(h.ag=2/\h.hi < h.lo)∨(h.ag=3/\(h.most < 0∨4096 < h.most)):=by simp [aw,av] at c;omega
  refine cP ik (hW 20 h.aX) ?_;rw [ai c] at hS;refine ⟨_,?_,rfl⟩;rw [hS];exact ax
 have c:¬ ((h.ag=2/\h.hi < h.lo)∨(h.ag=3/\(h.most < 0∨4096 < h.most))):=by simp [aw,av] at c;omega
 rw [ah c] at hS;refine br ?_ ?_<;>intro k9
 ·have k9:h.ag=9:=sU k9;refine cP DI (jG h.name.s (by simp only [Wd.wt] at Ak;omega)) ?_;refine br ?_ ?_<;>intro q
  ·have q:bi h.name.s=false:=by simpa [av,k9] using q
   refine cP ik (hW 9 h.name.a) ?_;rw [ai ⟨k9,q⟩] at hS;refine ⟨_,?_,rfl⟩;rw [hS];exact ax
  ·have q:bi h.name.s=true:=by simpa [av,k9] using q
   rw [ah (by simp [q]),ah (by omega),ah (by omega),ah (by omega)] at hS;refine br (fun x=>?_) (fun _=>?_)
   ·have:=of_decide_eq_true x;omega
   refine br (fun x=>?_) (fun _=>?_)
   ·simp [aw] at x;omega
   refine br (fun x=>?_) (fun _=>?_)
   ·simp [aw] at x;omega
   refine ⟨_,?_,rfl⟩;rw [hS];exact (gU se)
 ·have k9:¬ h.ag=9:=sU k9;rw [ah (by simp [k9])] at hS;refine br ?_ ?_<;>intro k4
  ·have k4:h.ag=4:=of_decide_eq_true k4;rw [ai k4] at hS;refine br ?_ ?_<;>intro c
   ·have c:h.af=[]:=by simp [aA] at c;exact c
    refine cP ik (hW 15 h.aX) ?_;refine ⟨_,?_,rfl⟩;rw [hS];simp only [jo,ai c];exact ax
   have c:¬ h.af=[]:=by simp [aA] at c;exact c
   refine br ?_ ?_<;>intro c2
   ·have ap:64 < h.af.length:=by simp [aA] at c2;omega
    obtain ⟨x,hx⟩:=gX ap;refine dS ?_;refine ⟨kH x,⟨by omega,aY hx⟩,?_⟩;refine cD ik (hW 8 x.a) ?_;refine ⟨_,?_,rfl⟩;rw [hS];simp only [jo,ah c,ai ap,hx,Option.getD_some];exact ax
   have c2:¬ 64 < h.af.length:=by simp [aA] at c2;omega
   have hE:jo h=enumL h.af 0 h.af:=by simp only [jo,ah c,ah c2]
   rw [hE] at hS
   refine bz (fun j st=>∃ (e:Nat),st=I7 h ps e depth (m + 1)/\e<=h.af.length/\enumL h.af 0 h.af=enumL h.af e (h.af.drop e)/\j=h.af.length - e) h.af.length
    (I7 h ps 0 depth (m + 1)) (au 3 rfl (ny se) rfl rfl rfl (dt se)) ⟨0,rfl,by omega,rfl,by omega⟩ ?_
   rintro j st ⟨e,rfl,he,aN,rfl⟩;refine br ?_ ?_<;>intro hL
   ·have ap:e < h.af.length:=by simpa [aA] using hL
    obtain ⟨x,hx⟩:=gX ap;rw [drop_cons hx] at aN;simp only [enumL] at aN;refine cP Sr (pB h.af e x (by omega) hx) ?_;refine br ?_ ?_<;>intro hl
    ·have hl:aK h.af e x≠0:=sU hl;rw [ai hl] at aN;refine dS ?_;refine ⟨kH x,⟨by omega,aY hx⟩,?_⟩;refine cD ik (eU (0,0) (m + 1) _ x.a) ?_;refine ⟨_,?_,rfl⟩;rw [hS,aN];exact ax
    ·have hl:aK h.af e x=0:=sU hl;rw [ah (by simp [hl])] at aN;exact rE ⟨_,by omega,e + 1,rfl,by omega,aN,rfl⟩ (aj ⟨_,rfl⟩ wA rfl rfl rfl (dt (aJ ap (by omega))))
   ·have aQ:e=h.af.length:=by simp [aA] at hL;omega
    rw [aQ,List.drop_length] at aN;simp only [enumL] at aN;rw [aN] at hS;refine br (fun x=>?_) (fun _=>?_)
    ·simp [aw] at x;omega
    refine br (fun x=>?_) (fun _=>?_)
    ·simp [aw] at x;omega
    refine ⟨_,?_,rfl⟩;rw [hS];exact ax
  ·have k4:¬ h.ag=4:=of_decide_eq_false k4;rw [ah k4] at hS;refine br ?_ ?_<;>intro k5
   ·have k5:h.ag=5∨h.ag=6:=by simpa [aw] using k5
    rw [ai k5] at hS
    cases ps with
    | nil=>
     refine cP ik (hW 19 h.aX) ?_;refine ⟨_,?_,rfl⟩;rw [hS];simp only [wrongOne];exact ax
    | cons p t r=>
     cases r with
     | cons p2 t2 r2=>
      refine cP ik (hW 19 h.aX) ?_;refine ⟨_,?_,rfl⟩;rw [hS];simp only [wrongOne];exact ax
     | nil=>
      obtain ⟨u,us⟩:=t;simp only [wrongOne] at hS;simp only [Ty.wt,Pts.wt] at Ak hk;refine ⟨_,⟨by omega,rfl⟩,?_⟩;refine br ?_ ?_<;>intro c
      ·have c:p.name.s=ay:=by
        have:=c;simp [aw] at this;exact this
       refine ⟨_,⟨by omega,rfl⟩,?_⟩;refine cP Mt (mL p fw (eE (.mk u us)) (eE cx) (by omega) (zU _ _ _ _ _) (zU _ _ _ _ _)) ?_;refine br ?_ ?_<;>intro q
       ·have q:b9 p fw=false:=by simpa [aw,c] using q
        refine cP ik (hW 19 h.aX) ?_;rw [ai (by simp [q])] at hS;refine ⟨_,?_,rfl⟩;rw [hS];exact ax
       ·have q:b9 p fw=true:=by simpa [aw,c] using q
        rw [ah (by simp [q,c])] at hS;refine br ?_ ?_<;>intro x
        ·have x:h.most < 0∨1024 < h.most:=by simpa [aw] using x
         refine cP ik (hW 20 h.aX) ?_;rw [ai x] at hS;refine ⟨_,?_,rfl⟩;rw [hS];exact ax
        ·have x:¬ (h.most < 0∨1024 < h.most):=by simp [aw] at x;omega
         rw [ah x] at hS;refine dS ?_;refine ⟨_,⟨by omega,rfl⟩,?_⟩;refine cD Mj (ih (.mk u us) (depth + 1) (m + 1) (by simp only [Ty.wt];omega) (by simp only [Ty.wt];omega) (by omega) (by omega) (by omega) (by omega)) ?_ (by repeat' (first | exact rfl | exact trivial | exact Or.inr (Or.inl ⟨_,rfl⟩) | exact Or.inr ⟨_,rfl⟩ | exact Or.inl ⟨rfl,rfl⟩ | exact Or.inl rfl | refine Or.inr ⟨_,_,rfl,Nat.zero_le _,rfl,?_⟩ | refine ⟨_,_,rfl,?_,?_⟩ | refine ⟨_,rfl,?_⟩ | exact congrArg (fun z=>DV.v (.int .i64 z)) se | exact congrArg (fun z=>DV.v (.int .i64 z)) (wrap64 (by omega) (by omega))| refine Or.inr (Or.inr (Or.inr ⟨_,_,rfl,?_⟩)) | exact Or.inl rfl | refine Or.inr ?_));refine ⟨_,?_,rfl⟩;rw [hS];exact ax
      ·have c:p.name.s≠ay:=by
        have:=c;simp [aw] at this;exact this
       refine cP ik (hW 19 h.aX) ?_;rw [ai (.inl c)] at hS;refine ⟨_,?_,rfl⟩;rw [hS];exact ax
   ·have k5:¬ (h.ag=5∨h.ag=6):=by simp [aw] at k5;omega
    rw [ah k5] at hS;refine br ?_ ?_<;>intro k7
    ·have k7:h.ag=7∨h.ag=8:=by simpa [aw] using k7
     rw [ai k7] at hS;have hP:wrong (.mk h ps) depth m=fx h ps depth (m + 1):=by rw [hS];all_goals rfl
     refine cP X4 (BT k ih h ps depth (m + 1) hk cL vg (by omega) (by omega) (by omega)) ?_ (gU se);refine ⟨_,?_,rfl⟩;rw [hP];exact ax
    ·have k7:¬ (h.ag=7∨h.ag=8):=by simp [aw] at k7;omega
     rw [ah k7] at hS;refine ⟨_,?_,rfl⟩;rw [hS];exact (gU se)
theorem AB:∀ k,BS k
 | 0=>fun t depth m hk=>by have:=t.eJ;omega
 | k + 1=>fun t depth m hk cL vg zf pk kj=>by
  obtain ⟨h,ps⟩:=t;have eX:=hk;simp only [Ty.wt,Hd.wt] at eX;exact Cm k (AB k) h ps depth m (by omega) cL vg zf pk kj
theorem Cn (t:Ty) (depth m:Int) (cL:t.wt<=1099511627776) (vg:0<=depth) (zf:depth<=25) (pk:0<=m) (kj:m<=512) :
  aV prog 117 [wD (0,0) m,.agg (eE t),.v (.int .i64 depth)] (wD (wrong t depth m).1 (wrong t depth m).2):=
 AB t.wt t depth m (aR _) cL vg zf pk kj
def eaA:List Ty->Int->Ft × Int
 | [],m=>((0,0),m)
 | t :: r,m=>if (cy t m).1.1≠0 then cy t m else eaA r (cy t m).2
theorem NZ (z:Ty):∀ (l:List (Wd × Ty)) (m:Int),((eaA (l.map (fun x=>x.2) ++ [z]) m).1.1=0↔(eaR z l m).1.1=0)/\((eaR z l m).1.1≠0->eaA (l.map (fun x=>x.2) ++ [z]) m=eaR z l m)
 | [],m=>by
  show ((eaA [z] m).1.1=0↔(cy z m).1.1=0)/\((cy z m).1.1≠0->eaA [z] m=cy z m);simp only [eaA];by_cases h:(cy z m).1.1=0
  ·simp [h]
  ·simp [h]
 | x :: r,m=>by
  have ih:=NZ z r (cy x.2 m).2;simp only [List.map_cons,List.cons_append,eaA,eaR];by_cases h:(cy x.2 m).1.1=0
  ·simp only [h,ne_eq,not_true,if_false];exact ih
  ·simp [h]
def eaK (F:Ty->Ft):List Ty->Ft
 | []=>(0,0)
 | t :: r=>if (F t).1≠0 then F t else eaK F r
theorem N1 (F:Ty->Ft) (z:Ty):∀ l:List (Wd × Ty),((eaK F (l.map (fun x=>x.2) ++ [z])).1=0↔(eaL F (F z) l).1=0)/\((eaL F (F z) l).1≠0->eaK F (l.map (fun x=>x.2) ++ [z])=eaL F (F z) l)
 | []=>by
  show ((eaK F [z]).1=0↔(F z).1=0)/\((F z).1≠0->eaK F [z]=F z);simp only [eaK];by_cases h:(F z).1=0
  ·simp [h]
  ·simp [h]
 | x :: r=>by
  have ih:=N1 F z r;simp only [List.map_cons,List.cons_append,eaK,eaL];by_cases h:(F x.2).1=0
  ·simp only [h,ne_eq,not_true,if_false];exact ih
  ·simp [h]
theorem Hy {F:Ty->Ft}:∀ {l:List Ty},(eaK F l).1=0->∀ t∈l,(F t).1=0
 | [],_,t,ht=>by cases ht
 | u :: r,h,t,ht=>by
  rw [eaK] at h;split at h
  ·rename_i h1;exact (h1 h).elim
  ·rename_i h1;rcases bI ht with rfl | ht
   ·simpa using h1
   ·exact Hy h t ht
theorem I8 (S:Sch):l6 S=if (latF S.ae S.order).1≠0 then latF S.ae S.order
 else if (eK S).1≠0 then eK S
 else if (eaA (gM S) 0).1.1≠0 then (eaA (gM S) 0).1
 else if (eaK (lr S) (gM S)).1≠0 then eaK (lr S) (gM S)
 else loopF S:=by
 have h1:=NZ S.root S.types 0;have h2:=N1 (lr S) S.root S.types;unfold l6 gM fD;by_cases a:(eaR S.root S.types 0).1.1=0
 ·have a':=h1.1.2 a;simp only [a,a',ne_eq,not_true,if_false];by_cases b:(eaL (lr S) (lr S S.root) S.types).1=0
  ·have b':=h2.1.2 b;simp only [b,b',ne_eq,not_true,if_false]
  ·rw [h2.2 b]
 ·rw [h1.2 a];by_cases b:(eaL (lr S) (lr S S.root) S.types).1=0
  ·have b':=h2.1.2 b;simp only [b,b',a,ne_eq,not_true,not_false_eq_true,if_false,if_true]
  ·rw [h2.2 b]
abbrev Vt (S:Sch) (T:List Ty) (m:Int) (e:Nat):St:=
 ⟨[(1,⟨[],.loc 0 0⟩),(2,⟨[],.loc 1 0⟩),(5,⟨[],.sl 9 (iR T) none⟩),(6,⟨[],.v (.int .i64 m)⟩),(7,⟨[],.v (.int .i64 e)⟩)],[gk S,[.v (.int .i64 0),.v (.int .i64 0)]],[]⟩
abbrev ZG (S:Sch) (T:List Ty) (e:Nat):St:=
 ⟨[(1,⟨[],.loc 0 0⟩),(2,⟨[],.loc 1 0⟩),(5,⟨[],.sl 9 (iR T) none⟩),(11,⟨[],.v (.int .i64 e)⟩)],[gk S,[.v (.int .i64 0),.v (.int .i64 0)]],[]⟩
abbrev Vu (S:Sch) (e:Nat):St:=
 ⟨[(1,⟨[],.loc 0 0⟩),(2,⟨[],.loc 1 0⟩),(13,⟨[],.v (.int .i64 e)⟩)],[gk S,[.v (.int .i64 0),.v (.int .i64 0)]],[]⟩
theorem Co {S:Sch} (hs:S.wt<=1099511627776):∀ t∈gM S,t.wt<=1099511627776:=by
 intro t ht;unfold Sch.wt at hs;rcases List.mem_append.1 ht with h | h
 ·obtain ⟨x,hx,rfl⟩:=List.mem_map.1 h;have:=il hx;omega
 ·simp only [List.mem_singleton] at h;subst h;omega
theorem Cp (S:Sch) (hs:S.wt<=1099511627776):aV prog 60 [.agg (gk S)] (l6 S).d:=by
 have KJ:=Co hs;unfold Sch.wt at hs;have hN:=eo S.types;have fv:=km S.types;have KK:=Cj S.ae S.order (by omega) (by omega);have ZH:=Ck S (by omega);have fG:=EE S (by omega);have ZI:=fun t ht=>rJ S (by omega) (by omega) _ t (aR _) (KJ t ht);have hF:=I8 S;have hlen:(gM S).length=S.types.length + 1:=by simp [gM,fD]
 have hnF:(eK S).1=0->S.types.length<=64:=fun h=>by
  unfold eK at h;split at h
  ·cases h
  ·omega
 obtain ⟨ae,order,types,⟨rh,rp⟩⟩:=S;simp only at hs hN fv KK ZH hlen hnF hF;generalize hT:gM ⟨ae,order,types,.mk rh rp⟩=T at KJ fG ZI hlen hF;refine eG 104 [.cell 2 45] func60 rfl ntmps60 rfl fun _ _ _ _=>?_;generalize l6 ⟨ae,order,types,.mk rh rp⟩=F at hF ⊢;refine cP XJ KK ?_;refine br ?_ ?_<;>intro h1
 ·have h1:(latF ae order).1≠0:=sU h1;rw [ai h1] at hF;refine ⟨_,?_,rfl⟩;rw [hF];exact ax
 have h1:(latF ae order).1=0:=sU h1;rw [ah (by simp [h1])] at hF;refine cP XK ZH ?_;refine br ?_ ?_<;>intro h2
 ·have h2:(eK ⟨ae,order,types,.mk rh rp⟩).1≠0:=sU h2;rw [ai h2] at hF;refine ⟨_,?_,rfl⟩;rw [hF];exact ax
 have h2:(eK ⟨ae,order,types,.mk rh rp⟩).1=0:=sU h2;rw [ah (by simp [h2])] at hF;have Vv:=hnF h2;refine cP Xu fG ?_
 refine bz (fun j st=>∃ (e:Nat) (m:Int),st=Vt ⟨ae,order,types,.mk rh rp⟩ T m e/\e<=types.length + 1/\0<=m/\m<=512/\eaA T 0=eaA (T.drop e) m/\j=types.length + 1 - e) (types.length + 1)
  (Vt ⟨ae,order,types,.mk rh rp⟩ T 0 0) (aj ⟨_,rfl⟩ wA rfl rfl rfl wB) ⟨0,0,rfl,by omega,by omega,by omega,rfl,by omega⟩ ?_
 rintro j st ⟨e,m,rfl,he,pk,kj,aN,rfl⟩;refine br ?_ ?_<;>intro hL
 ·have ap:e < types.length + 1:=by have:=hL;simp [ep,hlen] at this;omega
  obtain ⟨t,ht⟩:∃ t,T[e]? = some t:=⟨_,gE (by omega)⟩;have Ni:=KJ t (mG ht);have aW:eaA (T.drop e) m=if (cy t m).1.1≠0 then cy t m else eaA (T.drop (e + 1)) (cy t m).2:=by rw [drop_cons ht,eaA]
  have Vw:cy t m=if (wrong t 1 0).1.1≠0 then ((wrong t 1 0).1,m) else if 512 < m + t.cnt then ((8,t.h.aX),m + t.cnt) else ((0,0),m + t.cnt):=rfl
  have QY:=Cn t 1 0 Ni (by omega) (by omega) (by omega) (by omega);have bQ:=ll _ t (aR _) Ni;have oM:=t.ff;obtain ⟨u,us⟩:=t;refine iX (kQ ht) ?_;refine cP Mj QY ?_;refine br ?_ ?_<;>intro g1
  ·have g1:(wrong (.mk u us) 1 0).1.1≠0:=sU g1;rw [ai g1] at Vw;rw [aN,aW,Vw,ai g1,ai g1] at hF;refine ⟨_,?_,rfl⟩;rw [hF];exact ax
  have g1:(wrong (.mk u us) 1 0).1.1=0:=sU g1;rw [ah (by simp [g1])] at Vw;refine iX (kQ ht) ?_;refine cP Qg bQ ?_;have C8:IntKind.i64.wrap (m + ((Ty.mk u us).cnt:Int))=m + (Ty.mk u us).cnt:=wrap64 (by omega) (by omega);refine br ?_ ?_<;>intro g2
  ·have g2:512 < IntKind.i64.wrap (m + ((Ty.mk u us).cnt:Int)):=of_decide_eq_true g2;rw [C8] at g2;rw [ai g2] at Vw;rw [aN,aW,Vw,ai (by simp),ai (by simp)] at hF;refine iX (kQ ht) ?_;refine ⟨_,?_,rfl⟩;rw [hF];exact ax
  ·have g2:¬ 512 < IntKind.i64.wrap (m + ((Ty.mk u us).cnt:Int)):=of_decide_eq_false g2;rw [C8] at g2;rw [ah g2] at Vw;rw [Vw,ah (by simp)] at aW;exact ⟨Vt ⟨ae,order,types,.mk rh rp⟩ T (m + (Ty.mk u us).cnt) (e + 1),(aj ⟨_,rfl⟩ wA rfl rfl rfl (wB2 C8 (aJ ap (by omega)))),types.length + 1 - (e + 1),by omega,e + 1,_,rfl,by omega,by omega,by omega,by rw [aN,aW],rfl⟩
 have aQ:e=types.length + 1:=by have:=hL;simp [ep,hlen] at this;omega
 rw [aN,List.drop_of_length_le (by omega),show eaA [] m=((0,0),m) from rfl,ah (by simp)] at hF
 refine bz (fun j st=>∃ (e:Nat),st=ZG ⟨ae,order,types,.mk rh rp⟩ T e/\e<=types.length + 1/\eaK (lr ⟨ae,order,types,.mk rh rp⟩) T=eaK (lr ⟨ae,order,types,.mk rh rp⟩) (T.drop e)/\j=types.length + 1 - e) (types.length + 1)
  (ZG ⟨ae,order,types,.mk rh rp⟩ T 0) (aj ⟨_,rfl⟩ wA rfl rfl rfl wB) ⟨0,rfl,by omega,rfl,by omega⟩ ?_
 clear aN hL aQ he e;rintro j st ⟨e,rfl,he,aN,rfl⟩;refine br ?_ ?_<;>intro hL
 ·have ap:e < types.length + 1:=by have:=hL;simp [ep,hlen] at this;omega
  obtain ⟨t,ht⟩:∃ t,T[e]? = some t:=⟨_,gE (by omega)⟩;have aW:eaK (lr ⟨ae,order,types,.mk rh rp⟩) (T.drop e)=if (lr ⟨ae,order,types,.mk rh rp⟩ t).1≠0 then lr ⟨ae,order,types,.mk rh rp⟩ t else eaK (lr ⟨ae,order,types,.mk rh rp⟩) (T.drop (e + 1)):=by rw [drop_cons ht,eaK]
  have hu:=ZI t (mG ht);obtain ⟨u,us⟩:=t;apply oN (fun _=>false) 5 6 [0,1,2,3,4,5,6,7] [0,1,2,3,4,6,5,7] 2 2 mo (by decide +kernel)
  ·refine iX (kQ ht) ?_;refine cD Mk hu ?_;refine (?_:@Eq St _ _);exact rfl
  ·refine iX (kQ ht) ?_;refine cD Mk hu ?_;refine (⟨rfl,rfl,?_⟩:_/\_/\_)
   repeat' (first | exact trivial | refine ⟨rfl,?_⟩)
  ·rfl
  refine br ?_ ?_<;>intro g
  ·have g:(lr ⟨ae,order,types,.mk rh rp⟩ (.mk u us)).1≠0:=sU g;rw [aN,aW,ai g,ai g] at hF;refine ⟨_,?_,rfl⟩;rw [hF];exact ax
  ·have g:(lr ⟨ae,order,types,.mk rh rp⟩ (.mk u us)).1=0:=sU g;rw [ah (by simp [g])] at aW;exact rE ⟨_,by omega,e + 1,rfl,by omega,by rw [aN,aW],rfl⟩ (aj ⟨_,rfl⟩ wA rfl rfl rfl (dt (aJ ap (by omega))))
 have aQ:e=types.length + 1:=by have:=hL;simp [ep,hlen] at this;omega
 have Io:(eaK (lr ⟨ae,order,types,.mk rh rp⟩) T).1=0:=by rw [aN,List.drop_of_length_le (by omega)];all_goals rfl
 rw [aN,List.drop_of_length_le (by omega),show eaK (lr ⟨ae,order,types,.mk rh rp⟩) []=(0,0) from rfl,ah (by simp)] at hF
 have S7:∀ x∈types,uX ⟨ae,order,types,.mk rh rp⟩ x.2=true:=fun x hx=>Cf (Hy Io x.2 (by
  rw [<- hT]
  exact List.mem_append_left _ (List.mem_map_of_mem hx)))
 have he99:=xN ⟨ae,order,types,.mk rh rp⟩ Vv S7
 have hlo:F=match bN (fun i=>(endI ⟨ae,order,types,.mk rh rp⟩ (types.length + 1) i).isNone) types.length with
  | none=>(0,0)
  | some i=>(11,U1 (uW ⟨ae,order,types,.mk rh rp⟩) i):=hF
 refine bz (fun j st=>∃ e:Nat,st=Vu ⟨ae,order,types,.mk rh rp⟩ e/\e<=types.length/\(∀ i,i < e->(endI ⟨ae,order,types,.mk rh rp⟩ (types.length + 1) i).isNone=false)/\j=types.length - e) types.length
  (Vu ⟨ae,order,types,.mk rh rp⟩ 0) (aj ⟨_,rfl⟩ wA rfl rfl rfl wB) ⟨0,rfl,by omega,fun _ h=>by omega,by omega⟩ ?_
 clear aN hL aQ he e;rintro j st ⟨e,rfl,he,fq,rfl⟩;refine br ?_ ?_<;>intro hL
 ·have ap:e < types.length:=by have:=hL;simp [hN] at this;exact this
  obtain ⟨x,hx⟩:=gX ap;have Nz:(uW ⟨ae,order,types,.mk rh rp⟩)[e]? = some x.1:=I5 hx;have h9:=he99 e ap;obtain ⟨xw,⟨xh,xp⟩⟩:=x;refine cP Ml h9 ?_;refine br ?_ ?_<;>intro g
  ·have g:endI ⟨ae,order,types,.mk rh rp⟩ (types.length + 1) e=none:=gC.1 g;have C5:=bB (p:=fun i=>(endI ⟨ae,order,types,.mk rh rp⟩ (types.length + 1) i).isNone) ap (by simp only [g];rfl) fq;rw [C5] at hlo;simp only [lp Nz] at hlo;refine iX (dNms_get hx) ?_;refine ⟨_,?_,rfl⟩;rw [hlo];exact ax
  ·have g:¬ endI ⟨ae,order,types,.mk rh rp⟩ (types.length + 1) e=none:=fun hn=>by have h3:=gC.2 hn;rw [g] at h3;cases h3
   refine ⟨Vu ⟨ae,order,types,.mk rh rp⟩ (e + 1),(aj ⟨_,rfl⟩ wA rfl rfl rfl (dt (aJ ap (by omega)))),types.length - (e + 1),by omega,e + 1,rfl,by omega,fun i hi=>?_,rfl⟩;rcases eP hi with hi | rfl
   ·exact fq i hi
   ·exact Option.isNone_eq_false_iff.2 (Option.isSome_iff_ne_none.2 g)
 ·have aQ:e=types.length:=sW hN hL;rw [aQ] at fq;rw [bP fq] at hlo;refine ⟨_,?_,rfl⟩;rw [hlo];exact ax
theorem aE {l:List Ed} {i:Nat} {e:Ed} (h:l[i]? = some e):(cG l)[i]? = some (Ce e):=by simp [cG,h]
def Q6 (lev:List Wd->Int) (s:Sch) (t:Ty) (k:Nat):Nd:=⟨t.h.ag,t.h.aX,t.h.lo,t.h.hi,t.h.most,aC t.h.af,edsP lev s t.ps (k + 1)⟩
mutual
theorem vx (lev:List Wd->Int) (s:Sch):∀ (t:Ty) (k:Nat),ndsT lev s t k=(flatT t).zipIdx.map fun x=>Q6 lev s x.1 (k + x.2)
 | .mk h ps,k=>by
  have ih:=Cq lev s ps (k + 1);rw [ndsT,flatT];split
  ·rfl
  ·rw [ih,List.zipIdx_cons,List.map_cons];rw [List.zipIdx_succ,List.map_map];refine congr (congrArg List.cons rfl) (List.map_congr_left fun x _=>?_);simp only [Function.comp];congr 1;omega
theorem Cq (lev:List Wd->Int) (s:Sch):∀ (ps:Pts) (k:Nat),xC lev s ps k=(flatP ps).zipIdx.map fun x=>Q6 lev s x.1 (k + x.2)
 | .nil,k=>rfl
 | .cons p u r,k=>by
  rw [xC,flatP,List.zipIdx_append,List.map_append]
  cases hb:p.bare with
  | true=>
   simp only [if_true,List.zipIdx_nil,List.map_nil,List.nil_append,List.length_nil,Nat.add_zero];exact Cq lev s r k
  | false=>
   simp only [Bool.false_eq_true,if_false];rw [vx lev s u k,Cq lev s r (k + u.nn),kr];refine congrArg _ ?_;rw [List.zipIdx_eq_map_add (l:=flatP r) (i:=0 + u.nn)];rw [List.map_map];refine List.map_congr_left fun x _=>?_;simp only [Function.comp];congr 1;omega
end
theorem Cr {X:Lx} {L:List ByteArray}:∀ {ps:Pts},(knP X L ps).1=0->∀ {p:Ph} {u:Ty},(p,u)∈ps.toList->p.bare=false->(knT X L u).1=0
 | .nil,_,p,u,h,_=>by cases h
 | .cons q v r,hk,p,u,h,hb=>by
  rcases bI h with h | h
  ·cases h;exact (ti hk).1 hb
  ·exact Cr (ti hk).2 h hb
theorem tw {w:Int} (h:decide (w=0)=true):l5 w=3:=by unfold l5;rw [ai (of_decide_eq_true h)]
theorem tx {w:Int} (h:decide (w=0)=false):l5 w=w:=by unfold l5;rw [ah (of_decide_eq_false h)]
theorem gT {L:List Ed} {lev:List Wd->Int} {p:Ph} {to w z:Int} (hw:l5 p.wide=w) (ht:to=z):cG L ++ [[.v (.string p.name.s),.v (.bool p.bare),.v (.int .i64 p.name.a),.v (.int .i64 z),.v (.int .i64 (lev p.label)),.v (.int .i64 w),.v (.int .i64 p.ck),.v (.int .i64 p.cn),.v (.int .i64 (lev p.cl)),.v (.int .i64 p.ca)]]=cG (L ++ [xB lev p to]):=by
 subst hw ht;simp [cG,Ce,xB]
abbrev ZJ (S:Sch) (f:Nat->Nat->Bool) (t:Ty) (me:Nat) (q e:Nat):St:=
 ⟨[(1,⟨[],.sl 1 (cW (dJ S.ae.length f)) none⟩),(3,⟨[],.v (.int .i64 me)⟩),(4,⟨[],.loc 0 0⟩),(6,⟨[],.loc 1 0⟩),(8,⟨[],.loc 2 0⟩),(9,⟨[],.loc 3 0⟩),(10,⟨[],.v (.int .i64 e)⟩)],
  [gk S,eE t,[.v (.int .i64 0),.v (.int .i64 0),.v (.int .i64 0),.v (.int .i64 0),.v (.int .i64 0),.v (.slice none 0 0),.v (.slice none 0 0)],
  [.v (.int .i64 t.h.ag),.v (.int .i64 t.h.aX),.v (.int .i64 t.h.lo),.v (.int .i64 t.h.hi),.v (.int .i64 t.h.most),.sl 1 (fl (aC (t.h.af.take e))) (some 0),.v (.slice none 0 0)]],[⟨q,9,1,none⟩]⟩
abbrev EG (S:Sch) (f:Nat->Nat->Bool) (t:Ty) (q1 q2:Nat) (L:List Ed) (nx e:Nat):St:=
 ⟨[(1,⟨[],.sl 1 (cW (dJ S.ae.length f)) none⟩),(4,⟨[],.loc 0 0⟩),(6,⟨[],.loc 1 0⟩),(8,⟨[],.loc 2 0⟩),(9,⟨[],.loc 3 0⟩),(11,⟨[],.v (.int .i64 nx)⟩),(12,⟨[],.v (.int .i64 e)⟩)],
  [gk S,eE t,[.v (.int .i64 0),.v (.int .i64 0),.v (.int .i64 0),.v (.int .i64 0),.v (.int .i64 0),.v (.slice none 0 0),.v (.slice none 0 0)],
  [.v (.int .i64 t.h.ag),.v (.int .i64 t.h.aX),.v (.int .i64 t.h.lo),.v (.int .i64 t.h.hi),.v (.int .i64 t.h.most),.sl 1 (fl (aC t.h.af)) (some 0),.sl 10 (cG L) (some 1)]],[⟨q1,9,1,none⟩,⟨q2,146,10,none⟩]⟩
set_option maxHeartbeats 2000000 in
theorem Hz (S:Sch) (hS:S.wt<=1099511627776) (hl:(latF S.ae S.order).1=0) (Vv:S.types.length<=64) (hr:∀ x∈S.types,uX S x.2=true) (hlo:∀ i,i < S.types.length->∃ k,endI S (S.types.length + 1) i=some k)
  (t:Ty) (ht:t.wt<=1099511627776) (hk:(lr S t).1=0) (me:Nat) (UU:me<=1099511627776) :
  aV prog 70 [.agg (gk S),.sl 1 (cW (dJ S.ae.length (fy S.ae.length (dQ (aC S.ae) S.order)))) none,.agg (eE t),.v (.int .i64 me)] (.agg (gL (Q6 (jx S) S t me))):=by
 obtain ⟨hL,Vf⟩:=om hl;have jT:=hL.pos;unfold Sch.wt at hS;have Hj:=fun l (h:wdsWt l<=1099511627776)=>KI S.ae (fy S.ae.length (dQ (aC S.ae) S.order)) jT Vf (by omega) l h;have hls:∀ l,jx S l=B9 (fy S.ae.length (dQ (aC S.ae) S.order)) (aC S.ae) l:=fun _=>rfl;have Q7:=fun s i k=>xO S Vv (by omega) hr s i k;have gZ:=kN S;generalize fy S.ae.length (dQ (aC S.ae) S.order)=f at Hj hls ⊢;obtain ⟨h,ps⟩:=t;have Va:=(mW hk).2;simp only [Ty.wt,Hd.wt] at ht;have nv:=ps.gz;have hc:=ps.ff;have lA:=ps.hU;have hwl:=bL h.af;generalize Wo:jx S=lev at hls ⊢;obtain ⟨ae,order,types,⟨rh,rp⟩⟩:=S;simp only at hS Vv hr hlo Hj hls Q7 gZ Va;refine eG 131 [.cell 8 128] func70 rfl ntmps70 rfl fun _ _ _ _=>?_;refine lJ (fun e=>ZJ ⟨ae,order,types,.mk rh rp⟩ f (.mk h ps) me e e) h.af.length (dc 4 ⟨0,9,1,none⟩ rfl rfl rfl pS rfl rfl mi) ?_;intro e he;refine br ?_ ?_<;>intro hL
 ·have ap:e < h.af.length:=by have:=hL;simp [aA] at this;exact this
  obtain ⟨w,hw⟩:=gX ap;have dK:=kk hw;have dm:(fl (aC (h.af.take e))).length=e:=by simp [fl,aC];omega
  refine dS ?_;refine iX (aY hw) ?_;refine ⟨dm,⟨by simp only [Ty.h];rw [dm];simp [maxLen];omega,by simp only [Ty.h];rw [dm];simp;omega⟩,?_⟩;exact rE ⟨_,by omega,e + 1,rfl,by omega,rfl⟩ (au 4 rfl (gF (aJ ap (by omega)) dK) rfl rfl rfl (wB2 (aJ ap (by omega)) dK))
 have aQ:e=h.af.length:=by have:=hL;simp [aA] at this;omega
 have ZK:IntKind.i64.wrap ((me:Int) + 1)=((me + 1:Nat):Int):=by rw [wrap64 (by omega) (by omega)];omega
 have JT:fl (aC (h.af.take e))=fl (aC h.af):=by rw [aQ,List.take_length]
 refine bz (fun j st=>∃ (e q nx:Nat) (L:List Ed),st=EG ⟨ae,order,types,.mk rh rp⟩ f (.mk h ps) h.af.length q L nx e/\q=e/\L.length=e/\e<=ps.len/\nx + (ps.drop e).nn=me + 1 + ps.nn/\edsP lev ⟨ae,order,types,.mk rh rp⟩ ps (me + 1)=L ++ edsP lev ⟨ae,order,types,.mk rh rp⟩ (ps.drop e) nx/\j=ps.len - e) ps.len
  (EG ⟨ae,order,types,.mk rh rp⟩ f (.mk h ps) e 0 [] (me + 1) 0) (dc 4 ⟨0,146,10,none⟩ rfl rfl rfl (gF ZK JT) rfl rfl (wB2 ZK JT)) ⟨0,0,me + 1,[],by rw [aQ],rfl,rfl,by omega,rfl,rfl,by omega⟩ ?_
 clear he hL aQ JT e;rintro j st ⟨e,q,nx,L,rfl,hq,ZD,he,eT,aN,rfl⟩;refine br ?_ ?_<;>intro hL
 ·have ap:e < ps.len:=by simpa [aO] using hL
  obtain ⟨p,u,hx⟩:=Pts.fc ap;have yO:=Pts.gV (mG hx);have hw1:p.name.wt + wdsWt p.label + wdsWt p.cl<=p.wt:=by simp only [Ph.wt];omega
  rw [Pts.drop_cons hx,edsP] at aN;rw [Pts.drop_cons hx,Pts.nn] at eT;have y7:=Hj p.label (by omega);have QJ:=Hj p.cl (by omega);unfold Ku at y7 QJ;rw [<- hls] at y7 QJ;obtain ⟨uh,us⟩:=u;refine iX (cp hx) ?_;refine br ?_ ?_<;>intro hw
  all_goals
   refine cP Se y7 ?_;refine cP Se QJ ?_;have dm:(cG L).length=q:=by rw [aT,ZD,hq]
   refine br ?_ ?_<;>intro hB
   ·have hB:p.bare=true:=hB;have sf:vv ⟨ae,order,types,.mk rh rp⟩ p (.mk uh us) nx = -1:=by simp [vv,hB]
    rw [hB] at aN eT;refine ⟨dm,⟨by rw [dm];simp [maxLen];omega,by rw [dm];simp;omega⟩,?_⟩;exact ⟨EG ⟨ae,order,types,.mk rh rp⟩ f (.mk h ps) h.af.length (q + 1) (L ++ [xB lev p (vv ⟨ae,order,types,.mk rh rp⟩ p (.mk uh us) nx)]) nx (e + 1),(au 4 rfl (by repeat' (first | exact rfl | exact az rfl | exact aD (aJ ap (by omega)) | exact cO (gT (tw hw) sf) rfl | exact cO (gT (tx hw) sf) rfl | refine ⟨_,_,rfl,?_,?_⟩)) rfl rfl rfl (by repeat' (first | exact trivial | exact az rfl | exact aD (aJ ap (by omega)) | exact cO (gT (tw hw) sf) rfl | exact cO (gT (tx hw) sf) rfl | refine ⟨⟨_,rfl,?_⟩,?_⟩))),ps.len - (e + 1),by omega,e + 1,q + 1,nx,_,rfl,by omega,by simp [ZD],by omega,by rw [<- eT];simp,by rw [aN];simp,rfl⟩
   ·have hB:p.bare=false:=hB;have jP:=Cr Va (mG hx) hB;refine br ?_ ?_<;>intro h9
    ·have h9:uh.ag=9:=sU h9;obtain ⟨i,hi⟩:=Option.ne_none_iff_exists'.1 ((mW jP).1 h9);obtain ⟨k,hk⟩:=hlo i (by have:=(dD hi).1;omega);have sf:vv ⟨ae,order,types,.mk rh rp⟩ p (.mk uh us) nx=(firstA ⟨ae,order,types,.mk rh rp⟩ k:Int):=by simp [vv,hB,oi,Ty.h,h9,U9,hi,namedN,hk]
     refine cP Xv (Q7 uh.name.s i k hi hk) ?_;refine ⟨dm,⟨by rw [dm];simp [maxLen];omega,by rw [dm];simp;omega⟩,?_⟩;exact ⟨EG ⟨ae,order,types,.mk rh rp⟩ f (.mk h ps) h.af.length (q + 1) (L ++ [xB lev p (vv ⟨ae,order,types,.mk rh rp⟩ p (.mk uh us) nx)]) nx (e + 1),(au 4 rfl (by repeat' (first | exact rfl | exact az rfl | exact aD (aJ ap (by omega)) | exact cO (gT (tw hw) sf) rfl | exact cO (gT (tx hw) sf) rfl | refine ⟨_,_,rfl,?_,?_⟩)) rfl rfl rfl (by repeat' (first | exact trivial | exact az rfl | exact aD (aJ ap (by omega)) | exact cO (gT (tw hw) sf) rfl | exact cO (gT (tx hw) sf) rfl | refine ⟨⟨_,rfl,?_⟩,?_⟩))),ps.len - (e + 1),by omega,e + 1,q + 1,nx,_,rfl,by omega,by simp [ZD],by omega,by rw [<- eT];simp [hB,Ty.nn,h9],by rw [aN];simp [hB,Ty.nn,h9],rfl⟩
    ·have h9:¬ uh.ag=9:=sU h9;have sf:vv ⟨ae,order,types,.mk rh rp⟩ p (.mk uh us) nx=(nx:Int):=by simp [vv,hB,oi,Ty.h,h9]
     have hnn:=(Ty.mk uh us).hU;have Ly:=(Ty.mk uh us).ff
     have C8:IntKind.i64.wrap ((nx:Int) + (iR (flatT (.mk uh us))).length)=((nx + (Ty.mk uh us).nn:Nat):Int):=by
      rw [ep,kr,wrap64 (by omega) (by omega)];omega
     refine cP Qi (oZ _ (.mk uh us) (aR _) (by omega)) ?_;refine ⟨dm,⟨by rw [dm];simp [maxLen];omega,by rw [dm];simp;omega⟩,?_⟩;exact ⟨EG ⟨ae,order,types,.mk rh rp⟩ f (.mk h ps) h.af.length (q + 1) (L ++ [xB lev p (vv ⟨ae,order,types,.mk rh rp⟩ p (.mk uh us) nx)]) (nx + (Ty.mk uh us).nn) (e + 1),(au 4 rfl (by repeat' (first | exact rfl | exact az rfl | exact aD (aJ ap (by omega)) | exact aD C8 | exact cO (gT (tw hw) sf) rfl | exact cO (gT (tx hw) sf) rfl | refine ⟨_,_,rfl,?_,?_⟩)) rfl rfl rfl (by repeat' (first | exact trivial | exact az rfl | exact aD (aJ ap (by omega)) | exact aD C8 | exact cO (gT (tw hw) sf) rfl | exact cO (gT (tx hw) sf) rfl | refine ⟨⟨_,rfl,?_⟩,?_⟩))),ps.len - (e + 1),by omega,e + 1,q + 1,(nx + (Ty.mk uh us).nn),_,rfl,by omega,by simp [ZD],by omega,by rw [<- eT];simp [hB];omega,by rw [aN];simp [hB],rfl⟩
 have aQ:e=ps.len:=by simp [aO] at hL;omega
 rw [aQ,Pts.dH,edsP,List.append_nil] at aN;unfold Q6;simp only [Ty.h,Ty.ps];rw [aN];exact ⟨_,ax,rfl⟩
def ndsA (lev:List Wd->Int) (s:Sch):List Ty->Nat->List Nd
 | [],_=>[]
 | t :: r,k=>ndsT lev s t k ++ ndsA lev s r (k + t.nn)
def rK (l:List Ty):Nat:=(l.map Ty.nn).sum
theorem ov (t:Ty) (l:List Ty):rK (t :: l)=t.nn + rK l:=by simp [rK]
theorem vy (a b:List Ty):rK (a ++ b)=rK a + rK b:=by simp [rK]
theorem l7 (lev:List Wd->Int) (s:Sch):∀ (l:List Ty) (k:Nat),(ndsA lev s l k).length=rK l
 | [],_=>rfl
 | t :: r,k=>by simp only [ndsA,List.length_append,kO,l7 lev s r,ov]
theorem xP (lev:List Wd->Int) (s:Sch):∀ (a b:List Ty) (k:Nat),ndsA lev s (a ++ b) k=ndsA lev s a k ++ ndsA lev s b (k + rK a)
 | [],b,k=>by simp [ndsA,rK]
 | t :: r,b,k=>by rw [List.cons_append,ndsA,ndsA,xP lev s r b,List.append_assoc,ov,Nat.add_assoc]
theorem xQ (lev:List Wd->Int) (s:Sch):∀ (l:List (Wd × Ty)) (k:Nat),ndsAll lev s l k=ndsA lev s (l.map fun x=>x.2) k
 | [],_=>rfl
 | x :: r,k=>by rw [ndsAll,List.map_cons,ndsA,xQ lev s r]
theorem xR (s:Sch):(rF s).length=rK (fD s):=by rw [rF,xQ,l7];all_goals rfl
theorem o0 (s:Sch):ba s=ndsA (jx s) s (gM s) 0:=by
 unfold ba gM;rw [xP,xR,rF,xQ,ndsA,ndsA,List.append_nil,Nat.zero_add];rfl
theorem KL {lev:List Wd->Int} {s:Sch} {l:List Ty} {e:Nat} {t:Ty} (h:l[e]? = some t):ndsA lev s (l.take (e + 1)) 0=ndsA lev s (l.take e) 0 ++ ndsT lev s t (ndsA lev s (l.take e) 0).length:=by
 rw [List.take_add_one,h,xP,l7,Nat.zero_add];simp [ndsA]
theorem EH (l:List Ty):∀ e,rK (l.take e)<=rK l:=by
 intro e;have:=vy (l.take e) (l.drop e);rw [List.take_append_drop] at this;omega
theorem N2 (s:Sch):rK (gM s)<=s.wt:=by
 have key:∀ l:List (Wd × Ty),rK (l.map fun x=>x.2)<=nmsWt l:=by
  intro l
  induction l with
  | nil=>exact aR _
  | cons x r ih=>
   have:=x.2.hU;have:=x.2.ff;simp only [List.map_cons,ov,nmsWt];omega
 have h1:=key s.types;have h2:=s.root.hU;have h3:=s.root.ff;unfold gM;rw [vy,ov];unfold Sch.wt fD;simp only [rK,List.map_nil,List.sum_nil] at h1 ⊢;omega
mutual
theorem xS {X:Lx} {L:List ByteArray}:∀ (t:Ty),(knT X L t).1=0->∀ u∈flatT t,(knT X L u).1=0
 | .mk h ps,hk,u,hu=>by
  rw [flatT] at hu;split at hu
  ·cases hu
  ·rcases bI hu with rfl | hu
   ·exact hk
   ·exact EI ps (mW hk).2 u hu
theorem EI {X:Lx} {L:List ByteArray}:∀ (ps:Pts),(knP X L ps).1=0->∀ u∈flatP ps,(knT X L u).1=0
 | .nil,_,u,hu=>by cases hu
 | .cons p v r,hk,u,hu=>by
  rw [flatP] at hu;rcases List.mem_append.1 hu with hu | hu
  ·cases hb:p.bare with
   | true=>rw [hb] at hu;cases hu
   | false=>rw [hb] at hu;exact xS v ((ti hk).1 hb) u hu
  ·exact EI r (ti hk).2 u hu
end
mutual
theorem xT:∀ (t:Ty),∀ u∈flatT t,u.wt<=t.wt
 | .mk h ps,u,hu=>by
  rw [flatT] at hu;split at hu
  ·cases hu
  ·rcases bI hu with rfl | hu
   ·exact aR _
   ·have:=EJ ps u hu;simp only [Ty.wt];omega
theorem EJ:∀ (ps:Pts),∀ u∈flatP ps,u.wt<=ps.wt
 | .nil,u,hu=>by cases hu
 | .cons p v r,u,hu=>by
  rw [flatP] at hu;simp only [Pts.wt];rcases List.mem_append.1 hu with hu | hu
  ·split at hu
   ·cases hu
   ·have:=xT v u hu;omega
  ·have:=EJ r u hu;omega
end
theorem N3 {lev:List Wd->Int} {s:Sch} {t u:Ty} {n k:Nat} (h:(flatT t)[k]? = some u):(ndsT lev s t n)[k]? = some (Q6 lev s u (n + k)):=by
 rw [vx,List.getElem?_map,List.getElem?_zipIdx,h];simp
structure AD (S:Sch):Prop where
 lat:(latF S.ae S.order).1=0
 l64:S.types.length<=64
 kn:∀ t∈gM S,(lr S t).1=0
 ends:∀ i,i < S.types.length->∃ k,endI S (S.types.length + 1) i=some k
 wr:∀ t∈gM S,(wrong t 1 0).1.1=0
theorem N4:∀ {l:List Ty} {m:Int},(eaA l m).1.1=0->∀ t∈l,(wrong t 1 0).1.1=0
 | [],_,_,t,ht=>by cases ht
 | u :: r,m,h,t,ht=>by
  rw [eaA] at h;split at h
  ·rename_i h1;exact (h1 h).elim
  ·rename_i h1;rcases bI ht with rfl | ht
   ·exact (oY (sU h1)).2.2.1
   ·exact N4 h t ht
theorem xU {S:Sch} (h:(l6 S).1=0):AD S:=by
 rw [I8] at h;split at h
 ·rename_i h1;exact (h1 h).elim
 rename_i h1;split at h
 ·rename_i h2;exact (h2 h).elim
 rename_i h2;split at h
 ·rename_i h3;exact (h3 h).elim
 rename_i h3;split at h
 ·rename_i h4;exact (h4 h).elim
 rename_i h4
 exact {
  lat:=sU h1
  l64:=by
   have h2:(eK S).1=0:=sU h2;unfold eK at h2;split at h2
   ·cases h2
   ·omega
  kn:=Hy (sU h4)
  ends:=Et h
  wr:=N4 (sU h3) }
theorem AD.refs {S:Sch} (h:AD S):∀ x∈S.types,uX S x.2=true:=fun x hx=>Cf (h.kn x.2 (List.mem_append_left _ (List.mem_map_of_mem hx)))
abbrev wC (S:Sch) (f:Nat->Nat->Bool) (N:DV) (z:Int):List DV:=[.sl 2 (bO S.ae) none,.sl 1 (cW (dJ S.ae.length f)) none,N,.v (.int .i64 z)]
abbrev N5 (S:Sch) (T:List Ty) (f:Nat->Nat->Bool) (L:List Nd) (z:Int) (e q:Nat):St:=
 ⟨[(1,⟨[],.loc 0 0⟩),(2,⟨[],.loc 1 0⟩),(3,⟨[],.loc 2 0⟩),(4,⟨[],.sl 9 (iR T) none⟩),(5,⟨[],.v (.int .i64 e)⟩)],[gk S,[.v (.slice none 0 0),.v (.slice none 0 0),.v (.slice none 0 0),.v (.int .i64 0)],wC S f (.sl 7 (bq L) (some 0)) z],[⟨q,128,7,none⟩]⟩
abbrev Tf (S:Sch) (T:List Ty) (f:Nat->Nat->Bool) (L:List Nd) (z:Int) (e:Nat) (F:List Ty) (k q:Nat):St:=
 ⟨[(1,⟨[],.loc 0 0⟩),(2,⟨[],.loc 1 0⟩),(3,⟨[],.loc 2 0⟩),(4,⟨[],.sl 9 (iR T) none⟩),(5,⟨[],.v (.int .i64 e)⟩),(6,⟨[],.sl 9 (iR F) none⟩),(7,⟨[],.v (.int .i64 k)⟩)],[gk S,[.v (.slice none 0 0),.v (.slice none 0 0),.v (.slice none 0 0),.v (.int .i64 0)],wC S f (.sl 7 (bq L) (some 0)) z],[⟨q,128,7,none⟩]⟩
theorem Cs (S:Sch) (hS:S.wt<=1099511627776) (hR:(l6 S).1=0) :
  aV prog 24 [.agg (gk S)] (.agg (wC S (fy S.ae.length (dQ (aC S.ae) S.order)) (.sl 7 (bq (ba S)) none) (gl S))):=by
 have PD:=xU hR;obtain ⟨_,Vf⟩:=om PD.lat;have KJ:=Co hS;have UD:=N2 S;have hN0:=(qb PD.lat).2.2.1;have hrr:=PD.refs;have eW:=fun t ht hk me UU=>Hz S hS PD.lat PD.l64 hrr PD.ends t ht hk me UU;have hwS:=hS;unfold Sch.wt at hS;have Q8:=Ez S.ae S.order Vf (by omega) (by omega) hN0;have fG:=EE S (by have:=PD.l64;omega);have hlen:(gM S).length=S.types.length + 1:=by simp [gM,fD]
 have Vv:=PD.l64;have Q7:=fun s i k=>xO S Vv (by omega) hrr s i k;have Io:=PD.kn;have xV:=PD.ends;have gZ:=kN S
 have og:(gM S)[S.types.length]? = some S.root:=by
  unfold gM;rw [List.getElem?_append_right (by simp [fD])];simp [fD]
 have Tg:=xR S
 have k0:(gM S).take S.types.length=fD S:=by
  unfold gM;rw [List.take_append_of_le_length (by simp [fD])];exact List.take_of_length_le (by simp [fD])
 rw [o0];unfold gl;generalize jx S=lev at eW ⊢;generalize fy S.ae.length (dQ (aC S.ae) S.order)=f at eW Q8 ⊢;obtain ⟨ae,order,types,⟨rh,rp⟩⟩:=S;simp only at hS Q8 hlen Vv xV gZ og k0;generalize hT:gM ⟨ae,order,types,.mk rh rp⟩=T at KJ UD fG hlen Io og k0 ⊢;refine eG 67 [.cell 2 68] func24 rfl ntmps24 rfl fun _ _ _ _=>?_;apply oN (fun _=>false) 6 8 [0,1,2,3,4,5,6,7,8,9] [0,1,2,3,4,5,8,6,7,9] 2 2 mo (by decide +kernel)
 ·refine cD Uq Q8 ?_;refine (?_:@Eq St _ _);exact rfl
 ·refine cD Uq Q8 ?_;refine (⟨rfl,rfl,?_⟩:_/\_/\_)
  repeat' (first | exact trivial | refine ⟨rfl,?_⟩)
 ·rfl
 refine cP Xu fG ?_
 have hLN:∀ e,(ndsA lev ⟨ae,order,types,.mk rh rp⟩ (T.take e) 0).length<=1099511627776:=fun e=>by
  rw [l7];have:=EH T e;omega
 refine bz (fun j st=>∃ (e q:Nat) (z:Int),st=N5 ⟨ae,order,types,.mk rh rp⟩ T f (ndsA lev ⟨ae,order,types,.mk rh rp⟩ (T.take e) 0) z e q/\q=(ndsA lev ⟨ae,order,types,.mk rh rp⟩ (T.take e) 0).length/\e<=types.length + 1/\(e=types.length + 1->z=(rK (T.take types.length):Nat))/\j=types.length + 1 - e) (types.length + 1)
  (N5 ⟨ae,order,types,.mk rh rp⟩ T f [] 0 0 0) (dc 3 ⟨0,128,7,none⟩ rfl rfl rfl pS rfl rfl mi) ⟨0,0,0,rfl,rfl,by omega,fun h=>by omega,by omega⟩ ?_
 rintro j st ⟨e,q,z,rfl,hq,he,hz,rfl⟩;refine br ?_ ?_<;>intro hL
 ·have ap:e < types.length + 1:=by have:=hL;simp [ep,hlen] at this;omega
  obtain ⟨t,ht⟩:∃ t,T[e]? = some t:=⟨_,gE (by omega)⟩;have Ni:=KJ t (mG ht);have htk':=Io t (mG ht);have JQ:=oZ _ t (aR _) Ni;have hfk:=xS t htk';have Y6:=xT t;have Wt:=KL (lev:=lev) (s:=⟨ae,order,types,.mk rh rp⟩) ht;have hfln:=kr t;have fv:=kO lev ⟨ae,order,types,.mk rh rp⟩ t (ndsA lev ⟨ae,order,types,.mk rh rp⟩ (T.take e) 0).length;have eZ:=fun k u (h:(flatT t)[k]? = some u)=>N3 (lev:=lev) (s:=⟨ae,order,types,.mk rh rp⟩) (n:=(ndsA lev ⟨ae,order,types,.mk rh rp⟩ (T.take e) 0).length) h;have hLe:=hLN e;have Vx:=hLN (e + 1);have Wu:=l7 lev ⟨ae,order,types,.mk rh rp⟩ (T.take e) 0;rw [Wt,List.length_append] at Vx;obtain ⟨u,us⟩:=t;generalize ndsA lev ⟨ae,order,types,.mk rh rp⟩ (T.take e) 0=L at hq Wt fv eZ hLe Vx Wu ⊢;generalize ndsT lev ⟨ae,order,types,.mk rh rp⟩ (.mk u us) L.length=M at Wt fv eZ Vx;generalize flatT (.mk u us)=F at JQ hfk Y6 hfln eZ;have bH:((bq L).length:Int)=(L.length:Int):=by rw [cw]
  refine iX (kQ ht) ?_;refine cP Qi JQ ?_
  refine bz (fun j st=>∃ (k q:Nat),st=Tf ⟨ae,order,types,.mk rh rp⟩ T f (L ++ M.take k) (L.length:Int) e F k q/\q=(L ++ M.take k).length/\k<=F.length/\j=F.length - k) F.length
   (Tf ⟨ae,order,types,.mk rh rp⟩ T f (L ++ []) (L.length:Int) e F 0 q) (au 3 rfl (by repeat' (first | exact rfl | exact az rfl | exact aD bH | exact cO (by rw [List.append_nil]) rfl | refine ⟨_,_,rfl,?_,?_⟩)) rfl rfl rfl (by repeat' (first | exact trivial | exact az rfl | exact aD bH | exact cO (by rw [List.append_nil]) rfl | refine ⟨⟨_,rfl,?_⟩,?_⟩))) ⟨0,q,rfl,by simp [hq],by omega,by omega⟩ ?_
  rintro j st ⟨k,q',rfl,jh,hk,rfl⟩;refine br ?_ ?_<;>intro kM
  ·have jP:k < F.length:=by have:=kM;simp [ep] at this;exact this
   obtain ⟨v,hv⟩:∃ v,F[k]? = some v:=⟨_,gE jP⟩;have V7:=mG hv;have hvw:=Y6 v V7;have dm:(bq (L ++ M.take k)).length=q':=by rw [cw,jh]
   have kh:q'=L.length + k:=by rw [jh,List.length_append,zLenT];omega
   have hnd:=eW v (by omega) (hfk v V7) (bq (L ++ M.take k)).length (by omega)
   have dK:bq (L ++ M.take k) ++ [gL (Q6 lev ⟨ae,order,types,.mk rh rp⟩ v (bq (L ++ M.take k)).length)]=bq (L ++ M.take (k + 1)):=by
    rw [List.take_add_one,eZ k v hv,dm,kh];simp [bq]
   obtain ⟨vh,vp⟩:=v;refine dS ?_;refine iX (kQ hv) ?_;refine cD en70 hnd ?_;refine ⟨dm,⟨by rw [dm];simp [maxLen];omega,by rw [dm];simp;omega⟩,?_⟩;exact rE ⟨_,by omega,k + 1,q' + 1,rfl,by rw [kh];simp;omega,by omega,rfl⟩ (au 3 rfl (gF (aJ jP (by omega)) dK) rfl rfl rfl (wB2 (aJ jP (by omega)) dK))
  ·have aQ:k=F.length:=by have:=kM;simp [ep] at this;omega
   have hM:M.take k=M:=List.take_of_length_le (by omega);rw [hM] at jh;refine ⟨N5 ⟨ae,order,types,.mk rh rp⟩ T f (ndsA lev ⟨ae,order,types,.mk rh rp⟩ (T.take (e + 1)) 0) (L.length:Int) (e + 1) q',(au 3 rfl (by repeat' (first | exact rfl | exact az rfl | exact aD (aJ ap (by omega)) | exact cO (by rw [Wt,hM]) rfl | refine ⟨_,_,rfl,?_,?_⟩)) rfl rfl rfl (by repeat' (first | exact trivial | exact az rfl | exact aD (aJ ap (by omega)) | exact cO (by rw [Wt,hM]) rfl | refine ⟨⟨_,rfl,?_⟩,?_⟩))),types.length + 1 - (e + 1),by omega,e + 1,q',_,rfl,by rw [Wt,jh],by omega,fun he1=>?_,rfl⟩;rw [Wu,show e=types.length by omega]
 ·have aQ:e=types.length + 1:=by have:=hL;simp [ep,hlen] at this;omega
  have hTa:T.take e=T:=List.take_of_length_le (by omega);rw [hTa];have hz:=hz aQ;rw [k0,<- Tg] at hz;have S7:=Io (.mk rh rp) (mG og);refine br ?_ ?_<;>intro h9
  ·have h9:rh.ag=9:=sU h9;obtain ⟨i,hi⟩:=Option.ne_none_iff_exists'.1 ((mW S7).1 h9);obtain ⟨k,hk⟩:=xV i (by have:=(dD hi).1;omega);have sf:oi ⟨ae,order,types,.mk rh rp⟩ (.mk rh rp) (rF ⟨ae,order,types,.mk rh rp⟩).length=(firstA ⟨ae,order,types,.mk rh rp⟩ k:Int):=by simp [oi,Ty.h,h9,U9,hi,namedN,hk]
   refine cP Xv (Q7 rh.name.s i k hi hk) ?_;rw [sf];exact ⟨_,ax,rfl⟩
  ·have h9:¬ rh.ag=9:=sU h9;have sf:oi ⟨ae,order,types,.mk rh rp⟩ (.mk rh rp) (rF ⟨ae,order,types,.mk rh rp⟩).length=z:=by simp [oi,Ty.h,h9,hz]
   rw [sf];exact ⟨_,ax,rfl⟩
def Th (t:Ty):Prop:=∃ d m,(wrong t d m).1.1=0
def I9 (ag:Int) (p:Ph) (t:Ty):Prop:=(p.bare=true/\ag=8/\sameTy t cx=true/\b9 p fM=true)∨(p.bare=false/\(dY p).1=0/\Th t)
structure TyF (h:Hd) (ps:Pts):Prop where
 k1:1<=h.ag
 k9:h.ag<=9
 own:wQ h ps=true
 int:h.ag=2->h.lo<=h.hi
 text:h.ag=3->0<=h.most/\h.most<=4096
 enum:h.ag=4->jo h=(0,0)
 one:h.ag=5∨h.ag=6->∃ p t,ps = .cons p t .nil/\p.name.s=ay/\b9 p fw=true/\0<=h.most/\h.most<=1024/\Th t
 many:h.ag=7∨h.ag=8->ps.len<=64/\(h.ag=8->ps.len≠0)/\∀ i p t,ps.toList[i]? = some (p,t)->aK (pNames ps) i p.name=0/\I9 h.ag p t
theorem Vy {h:Hd} {ps:Pts} (ho:¬ uU (.mk h ps)=false):wQ h ps=true:=by
 rw [IJ];cases hb:sameTy (.mk h ps) (mask (.mk h ps))
 ·exact absurd hb ho
 ·rfl
theorem ow {ag:Int} {all:List Wd}:∀ {ps:Pts} {i:Nat} {d m:Int},(wrongPts ag all i ps d m).1.1=0->(ag=7∨ag=8)->∀ j p t,ps.toList[j]? = some (p,t)->aK all (i + j) p.name=0/\I9 ag p t
 | .nil,i,d,m,_,_,j,p,t,hx=>by simp [Pts.toList] at hx
 | .cons q u r,i,d,m,he,hk,j,p,t,hx=>by
  simp only [wrongPts] at he;by_cases c0:aK all i q.name≠0
  ·rw [ai c0] at he;exact absurd he c0
  rw [ah c0] at he;have c0:aK all i q.name=0:=sU c0
  have step:∀ d' m',(wrongPts ag all (i + 1) r d' m').1.1=0->I9 ag q u->aK all (i + j) p.name=0/\I9 ag p t:=by
   intro d' m' h hq
   cases j with
   | zero=>
    simp only [Pts.toList,List.getElem?_cons_zero,oI,Prod.mk.injEq] at hx;obtain ⟨rfl,rfl⟩:=hx;exact ⟨c0,hq⟩
   | succ j=>
    simp only [Pts.toList,List.getElem?_cons_succ] at hx;have:=ow h hk j p t hx
    rwa [show i + 1 + j=i + (j + 1) by omega] at this
  by_cases c1:q.bare=true
  ·rw [ai c1] at he;by_cases c2:ag=7∨sameTy u cx=false∨b9 q fM=false
   ·rw [ai c2] at he;simp at he
   rw [ah c2] at he;refine step d m he (.inl ⟨c1,?_,?_,?_⟩)
   ·rcases hk with hk | hk
    ·exact absurd (.inl hk) c2
    ·exact hk
   ·cases hb:sameTy u cx
    ·exact absurd (.inr (.inl hb)) c2
    ·rfl
   ·cases hb:b9 q fM
    ·exact absurd (.inr (.inr hb)) c2
    ·rfl
  ·rw [ah c1] at he;by_cases c2:(dY q).1≠0
   ·rw [ai c2] at he;exact absurd he c2
   rw [ah c2] at he;by_cases c3:(wrong u (d + 1) m).1.1≠0
   ·rw [ai c3] at he;exact absurd he c3
   rw [ah c3] at he;exact step d _ he (.inr ⟨by simpa using c1,by simpa using c2,d + 1,m,by simpa using c3⟩)
theorem N6:∀ {t:Ty},Th t->TyF t.h t.ps
 | .mk h ps,⟨d,m,he⟩=>by
  simp only [Ty.h,Ty.ps];simp only [wrong] at he;by_cases c0:24 < d
  ·rw [ai c0] at he;simp at he
  rw [ah c0] at he;by_cases c1:512 < m + 1
  ·rw [ai c1] at he;simp at he
  rw [ah c1] at he;by_cases c2:h.ag < 1∨9 < h.ag
  ·rw [ai c2] at he;simp at he
  rw [ah c2] at he;by_cases c3:uU (.mk h ps)=false
  ·rw [ai c3] at he;simp at he
  rw [ah c3] at he;by_cases c4:(h.ag=2/\h.hi < h.lo)∨(h.ag=3/\(h.most < 0∨4096 < h.most))
  ·rw [ai c4] at he;simp at he
  rw [ah c4] at he;by_cases c5:h.ag=9/\bi h.name.s=false
  ·rw [ai c5] at he;simp at he
  rw [ah c5] at he;refine { k1:=by omega,k9:=by omega,own:=Vy c3,int:=fun h2=>by omega,text:=fun h3=>by omega,enum:=fun h4=>?_,one:=fun h5=>?_,many:=fun h7=>?_ }
  ·rw [ai h4] at he;exact zV h he
  ·rw [ah (by omega),ai h5] at he
   match ps,he with
   | .nil,he=>simp [wrongOne] at he
   | .cons p t (.cons _ _ _),he=>simp [wrongOne] at he
   | .cons p t .nil,he=>
    simp only [wrongOne] at he;by_cases e0:p.name.s≠ay∨b9 p fw=false
    ·rw [ai e0] at he;simp at he
    rw [ah e0] at he;by_cases e1:h.most < 0∨1024 < h.most
    ·rw [ai e1] at he;simp at he
    rw [ah e1] at he;refine ⟨p,t,rfl,Classical.byContradiction fun hn=>e0 (.inl hn),?_,by omega,by omega,d + 1,_,he⟩;cases hb:b9 p fw
    ·exact absurd (.inr hb) e0
    ·rfl
  ·rw [ah (by omega),ah (by omega),ai h7] at he;by_cases e0:h.ag=8/\ps.len=0
   ·rw [ai e0] at he;simp at he
   rw [ah e0] at he;by_cases e1:64 < ps.len
   ·rw [ai e1] at he;simp at he
   rw [ah e1] at he;refine ⟨by omega,fun h8=>fun hl=>e0 ⟨h8,hl⟩,fun i p t hx=>?_⟩;have:=ow he h7 i p t hx
   rwa [Nat.zero_add] at this
theorem TyF.sub {h:Hd} {ps:Pts} (hF:TyF h ps) {p:Ph} {u:Ty} (hm:(p,u)∈ps.toList) (hb:p.bare=false):Th u:=by
 obtain ⟨i,hi⟩:=List.mem_iff_getElem?.1 hm
 have hlen:0 < ps.len:=by
  cases ps with
  | nil=>simp [Pts.toList] at hm
  | cons _ _ _=>simp [Pts.len]
 have hk:5<=h.ag/\h.ag<=8:=by
  have h1:=hF.own;unfold wQ at h1;simp only [aP,Bool.or_eq_true,decide_eq_true_eq] at h1;have:=h1.1.1.2;omega
 by_cases h5:h.ag=5∨h.ag=6
 ·obtain ⟨q,t,rfl,_,_,_,_,hw⟩:=hF.one h5;simp only [Pts.toList,List.mem_singleton,Prod.mk.injEq] at hm;rw [hm.2];exact hw
 ·rcases ((hF.many (by omega)).2.2 i p u hi).2 with h1 | h1
  ·rw [h1.1] at hb;cases hb
  ·exact h1.2.2
mutual
theorem EK:∀ (t:Ty),Th t->∀ u∈flatT t,Th u
 | .mk h ps,hw,u,hu=>by
  rw [flatT] at hu;split at hu
  ·cases hu
  ·rcases bI hu with rfl | hu
   ·exact hw
   ·exact EL ps (fun p v hm hb=>(N6 hw).sub hm hb) u hu
theorem EL:∀ (ps:Pts),(∀ p v,(p,v)∈ps.toList->p.bare=false->Th v)->∀ u∈flatP ps,Th u
 | .nil,_,u,hu=>by cases hu
 | .cons p v r,hw,u,hu=>by
  rw [flatP] at hu;rcases List.mem_append.1 hu with hu | hu
  ·cases hb:p.bare with
   | true=>rw [hb] at hu;cases hu
   | false=>rw [hb] at hu;exact EK v (hw p v (by simp [Pts.toList]) hb) u hu
  ·exact EL r (fun q w hm=>hw q w (by simp [Pts.toList,hm])) u hu
end
mutual
theorem EM:∀ (t:Ty),∀ u∈flatT t,u.h.ag≠9
 | .mk h ps,u,hu=>by
  rw [flatT] at hu;split at hu
  ·cases hu
  ·rename_i h9;rcases bI hu with rfl | hu
   ·exact h9
   ·exact EN ps u hu
theorem EN:∀ (ps:Pts),∀ u∈flatP ps,u.h.ag≠9
 | .nil,u,hu=>by cases hu
 | .cons p v r,u,hu=>by
  rw [flatP] at hu;rcases List.mem_append.1 hu with hu | hu
  ·split at hu
   ·cases hu
   ·exact EM v u hu
  ·exact EN r u hu
end
mutual
theorem AE:∀ (t:Ty) (j:Nat) (u:Ty),(flatT t)[j]? = some u->j + u.nn<=t.nn
 | .mk h ps,j,u,hu=>by
  rw [flatT] at hu;by_cases h9:h.ag=9
  ·rw [ai h9] at hu;simp at hu
  rw [ah h9] at hu
  cases j with
  | zero=>
   simp only [List.getElem?_cons_zero,oI] at hu;subst hu;omega
  | succ j=>
   simp only [List.getElem?_cons_succ] at hu;have:=tz ps j u hu;rw [Ty.nn,ah h9];omega
theorem tz:∀ (ps:Pts) (j:Nat) (u:Ty),(flatP ps)[j]? = some u->j + u.nn<=ps.nn
 | .nil,j,u,hu=>by simp [flatP] at hu
 | .cons p v r,j,u,hu=>by
  rw [flatP] at hu;rw [Pts.nn]
  cases hb:p.bare with
  | true=>
   rw [hb] at hu;have:=tz r j u (sU hu);simp only [if_true];omega
  | false=>
   rw [hb] at hu;simp only [Bool.false_eq_true,if_false] at hu ⊢;by_cases hj:j < (flatT v).length
   ·rw [cj hj] at hu;have:=AE v j u hu;omega
   ·rw [List.getElem?_append_right (by omega)] at hu;have:=tz r _ u hu;have h2:=kr v;omega
end
theorem xW {lev:List Wd->Int} {s:Sch}:∀ {ps:Pts} {k:Nat} {e:Ed},e∈edsP lev s ps k->∃ p u k',(p,u)∈ps.toList/\e=xB lev p (vv s p u k')/\(p.bare=false->k' + u.nn<=k + ps.nn)
 | .nil,k,e,he=>by simp [edsP] at he
 | .cons p u r,k,e,he=>by
  rw [edsP] at he;rcases bI he with rfl | he
  ·refine ⟨p,u,k,by simp [Pts.toList],rfl,fun hb=>?_⟩;rw [Pts.nn,hb];simp
  ·obtain ⟨q,v,k',h1,h2,h3⟩:=xW he;refine ⟨q,v,k',by simp [Pts.toList,h1],h2,fun hb=>?_⟩;have:=h3 hb;rw [Pts.nn];omega
theorem qf {lev:List Wd->Int} {s:Sch}:∀ {ps:Pts} {k:Nat},(edsP lev s ps k).map Ed.name=aC (pNames ps)
 | .nil,k=>rfl
 | .cons p u r,k=>by
  rw [edsP,List.map_cons,qf (ps:=r)];rfl
theorem AF {f:Nat->Nat->Bool} {n:Nat} (hL:gm f n):∀ e,e<=n->∃ b,b < n/\∀ x,x < e->f b x=true
 | 0,_=>⟨0,hL.pos,fun x hx=>by omega⟩
 | e + 1,he=>by
  obtain ⟨b,hb,dG⟩:=AF hL e (by omega);obtain ⟨k,hk⟩:=hL.mt b e hb (by omega);obtain ⟨g1,g2,g3,g4⟩:=p9 hk;refine ⟨k,g1,fun x hx=>?_⟩;rcases eP hx with hx | rfl
  ·exact hL.tr k b x g1 hb (by omega) g2 (dG x hx)
  ·exact g3
theorem uv {f:Nat->Nat->Bool} {n:Nat} (hL:gm f n) (l:List Nat) (hl:∀ x∈l,x < n):∃ c,fj f n l=some c:=by
 have key:∀ e,e<=l.length->∃ c,fj f n (l.take e)=some c:=by
  intro e
  induction e with
  | zero=>
   intro _;obtain ⟨b,hb,dG⟩:=AF hL n (aR _);exact ⟨b,qa hL hb dG⟩
  | succ e ih=>
   intro he;obtain ⟨c,hc⟩:=ih (by omega);obtain ⟨x,hx⟩:∃ x,l[e]? = some x:=⟨_,gE (by omega)⟩;have C4:=hl x (mG hx);obtain ⟨k,hk⟩:=hL.jn c x (oX hc) C4;rw [List.take_add_one,hx];exact ⟨k,ur hL (fun y hy=>hl y (List.mem_of_mem_take hy)) C4 hc hk⟩
 have:=key l.length (aR _)
 rwa [List.take_length] at this
theorem AG {L:List ByteArray}:∀ {l:List Wd},(labW L l).1=0->∀ w∈l,∃ i,du L w.s=some i
 | [],_,w,hw=>by cases hw
 | x :: r,h,w,hw=>by
  rw [labW] at h;split at h
  ·cases h
  ·rename_i h1;rcases bI hw with rfl | hw
   ·exact Option.ne_none_iff_exists'.1 h1
   ·exact AG h w hw
theorem KM {f:Nat->Nat->Bool} {L:List ByteArray} (hL:gm f L.length) {l:List Wd} (h:(labW L l).1=0):∃ c:Nat,B9 f L l=c/\c < L.length:=by
 obtain ⟨c,hc⟩:=uv hL (mU L l) (fun x hx=>by
  unfold mU at hx;obtain ⟨w,hw,rfl⟩:=List.mem_map.1 hx;obtain ⟨i,hi⟩:=AG h w hw;rw [hi]
  exact (dD hi).1)
 refine ⟨c,?_,oX hc⟩;unfold B9;rw [ai h,hc];rfl
structure N7 (L N:Nat) (e:Ed):Prop where
 to0:e.bare=true->e.to = -1
 to1:e.bare=false->∃ k:Nat,e.to=k/\k < N
 lab:∃ k:Nat,e.label=k/\k < L
 seen:∃ k:Nat,e.seen=k/\k < L
 wide:1<=e.wide/\e.wide<=64
 ck:0<=e.ck/\e.ck<=3
 cn:(e.ck=0->e.cn=0)/\(e.ck=1->1<=e.cn)/\(e.ck=2->0<=e.cn/\e.cn<=4096)/\(e.ck=3->e.cn=0)
structure cK (L N:Nat) (n:Nd):Prop where
 k1:1<=n.ag
 k8:n.ag<=8
 lohi:n.ag=2->n.lo<=n.hi
 lo0:n.ag≠2->n.lo=0/\n.hi=0
 Ja:n.ag=3->0<=n.most/\n.most<=4096
 uw:n.ag=5->0<=n.most/\n.most<=1024
 Ti:n.ag≠3->n.ag≠5->n.most=0
 af:n.ag=4->n.af ≠ []/\n.af.length<=64/\n.af.Nodup/\∀ s∈n.af,bi s=true
 Vz:n.ag≠4->n.af=[]
 leaf:n.ag < 5->n.ak=[]
 one:n.ag=5∨n.ag=6->∃ e,n.ak=[e]/\e.bare=false/\e.name=ay
 many:n.ag=7∨n.ag=8->n.ak.length<=64/\(n.ag=8->n.ak ≠ [])/\(n.ak.map Ed.name).Nodup/\∀ e∈n.ak,bi e.name=true
 bare:∀ e∈n.ak,e.bare=true->n.ag=8
 fU:∀ e∈n.ak,N7 L N e
theorem xX {l:List Wd} (h:∀ j x,l[j]? = some x->aK l j x=0):(aC l).Nodup/\∀ x∈l,bi x.s=true:=by
 have key:∀ e,e<=l.length->(aC (l.take e)).Nodup:=by
  intro e
  induction e with
  | zero=>intro _;simp [aC]
  | succ e ih=>
   intro he;obtain ⟨x,hx⟩:∃ x,l[e]? = some x:=⟨_,gE (by omega)⟩;exact mT hx (ih (by omega)) (h e x hx)
 refine ⟨by have:=key l.length (aR _);rwa [List.take_length] at this,fun x hx=>?_⟩;obtain ⟨j,hj⟩:=List.mem_iff_getElem?.1 hx;have:=h j x hj;unfold aK at this;cases hb:bi x.s
 ·rw [hb] at this;simp at this
 ·rfl
theorem AH {all:List Wd}:∀ {l:List Wd} {i:Nat},(enumL all i l).1=0->∀ j x,l[j]? = some x->aK all (i + j) x=0
 | [],i,_,j,x,hx=>by simp at hx
 | y :: r,i,h,j,x,hx=>by
  rw [enumL] at h;split at h
  ·rename_i h1;exact (h1 h).elim
  ·rename_i h1
   cases j with
   | zero=>
    simp only [List.getElem?_cons_zero,oI] at hx;subst hx;simpa using h1
   | succ j=>
    simp only [List.getElem?_cons_succ] at hx;have:=AH h j x hx
    rwa [show i + 1 + j=i + (j + 1) by omega] at this
theorem Ct {h:Hd} (he:jo h=(0,0)):h.af ≠ []/\h.af.length<=64/\(aC h.af).Nodup/\∀ x∈h.af,bi x.s=true:=by
 unfold jo at he;split at he
 ·cases he
 ·rename_i h1;split at he
  ·cases he
  ·rename_i h2;refine ⟨h1,by omega,?_⟩
   exact xX fun j x hx=>by
    have:=AH (all:=h.af) (i:=0) (by rw [he]) j x hx
    rwa [Nat.zero_add] at this
theorem Jb {X:Lx} {L:List ByteArray}:∀ {ps:Pts},(knP X L ps).1=0->∀ {p:Ph} {u:Ty},(p,u)∈ps.toList->(X.bad p.label).1=0/\(X.bad p.cl).1=0
 | .nil,_,p,u,h=>by cases h
 | .cons q v r,hk,p,u,h=>by
  have hr:=(ti hk).2;rw [knP] at hk;split at hk
  ·rename_i h1;exact (h1 hk).elim
  rename_i h1;split at hk
  ·rename_i h2;exact (h2 hk).elim
  rename_i h2;rcases bI h with h | h
  ·cases h;exact ⟨by simpa using h1,by simpa using h2⟩
  ·exact Jb hr h
theorem tA {p q:Ph} (h:b9 p q=true):p.bare=q.bare/\p.wide=q.wide/\p.ck=q.ck/\p.cn=q.cn:=by
 unfold b9 at h;simp only [aP,beq_iff_eq,decide_eq_true_eq] at h;exact ⟨h.1.1.1.1.1,h.1.1.1.1.2,h.1.1.2,h.1.2⟩
theorem N8 {w:Int} (h:0<=w/\w<=64):1<=l5 w/\l5 w<=64:=by
 unfold l5;split<;>omega
theorem HA {p:Ph} (h:(bo p).1=0):(0<=p.ck/\p.ck<=3)/\(p.ck=0->p.cn=0)/\(p.ck=1->1<=p.cn)/\(p.ck=2->0<=p.cn/\p.cn<=4096)/\(p.ck=3->p.cn=0):=by
 unfold bo at h;by_cases c0:p.ck=0
 ·rw [ai c0] at h;by_cases c1:p.cn=0/\p.cl=[]
  ·exact ⟨by omega,fun _=>c1.1,by omega,by omega,by omega⟩
  ·rw [ah c1] at h;simp at h
 rw [ah c0] at h;by_cases c1:p.ck < 0∨3 < p.ck
 ·rw [ai c1] at h;simp at h
 rw [ah c1] at h;by_cases c2:(p.ck=1/\p.cn < 1)∨(p.ck=2/\(p.cn < 0∨4096 < p.cn))∨(p.ck=3/\p.cn≠0)
 ·rw [ai c2] at h;simp at h
 exact ⟨by omega,by omega,by omega,by omega,by omega⟩
theorem KN {p:Ph} (h:(dY p).1=0):(0<=p.wide/\p.wide<=64)/\(bo p).1=0:=by
 unfold dY at h;by_cases c0:p.wide < 0∨64 < p.wide
 ·rw [ai c0] at h;simp at h
 rw [ah c0] at h;by_cases c1:(cd p.label).1≠0
 ·rw [ai c1] at h;exact absurd h c1
 rw [ah c1] at h;exact ⟨by omega,h⟩
theorem Cu {t:Ty} (h:t.h.ag≠9):1<=t.nn:=by
 obtain ⟨h',ps⟩:=t;have h:¬ h'.ag=9:=h;rw [Ty.nn,ah h];omega
theorem AJ {S:Sch} {k:Nat} {x:Wd × Ty} (hx:S.types[k]? = some x):firstA S k + x.2.nn<=rK (gM S):=by
 have h1:=oh hx;rw [<- h1]
 have h2:firstA S (k + 1)=rK ((fD S).take (k + 1)):=by
  unfold firstA rK fD;rw [<- List.map_take,List.map_map];rfl
 have h3:=EH (fD S) (k + 1);have h4:rK (gM S)=rK (fD S) + rK [S.root]:=vy _ _;omega
theorem EO {lev:List Wd->Int} {s:Sch} {n:Nd}:∀ {l:List Ty} {k i:Nat},(ndsA lev s l k)[i]? = some n->∃ t∈l,∃ u∈flatT t,n=Q6 lev s u (k + i)/\i + u.nn<=rK l
 | [],k,i,h=>by simp [ndsA] at h
 | t :: r,k,i,h=>by
  rw [ndsA] at h;rw [ov];have hl:=kO lev s t k;by_cases hi:i < t.nn
  ·rw [cj (by omega),vx,List.getElem?_map,List.getElem?_zipIdx] at h
   cases hu:(flatT t)[i]? with
   | none=>rw [hu] at h;simp at h
   | some u=>
    rw [hu] at h;simp only [Option.map_some,oI] at h;have:=AE t i u hu;exact ⟨t,List.mem_cons_self,u,mG hu,by rw [<- h];simp,by omega⟩
  ·rw [List.getElem?_append_right (by omega),hl] at h;obtain ⟨t',h1,u,h2,h3,h4⟩:=EO h;refine ⟨t',de _ h1,u,h2,?_,by omega⟩;rw [h3];congr 1;omega
theorem qg (S:Sch):(ba S).length=rK (gM S):=by rw [o0,l7]
theorem KO {S:Sch} (hF:AD S) {i:Nat} {n:Nd} (h:(ba S)[i]? = some n):cK S.ae.length (ba S).length n:=by
 rw [qg];rw [o0] at h;obtain ⟨t,ht,u,hu,rfl,jT⟩:=EO h;rw [Nat.zero_add];have QY:=EK t ⟨_,_,hF.wr t ht⟩ u hu;have hk:=xS t (hF.kn t ht) u hu;have hk9:=EM t u hu;have hT:=N6 QY;obtain ⟨hLat,_⟩:=om hF.lat;have fv:=dW S.ae;have xV:=hF.ends;obtain ⟨uh,us⟩:=u;simp only [Ty.h,Ty.ps] at hT hk9;have Va:=(mW hk).2;have gh:=hT.own;unfold wQ at gh;simp only [aP,Bool.or_eq_true,decide_eq_true_eq] at gh;obtain ⟨⟨⟨⟨o1,o2⟩,o3⟩,o4⟩,o5⟩:=gh;have k1:=hT.k1;have k9:=hT.k9
 have Wo:∀ l:List Wd,(labW (aC S.ae) l).1=0->∃ k:Nat,jx S l=k/\k < S.ae.length:=by
  intro l hl;have:=KM (f:=fy S.ae.length (dQ (aC S.ae) S.order)) (L:=aC S.ae) (by rw [fv];exact hLat) hl
  rwa [fv] at this
 have sf:∀ (p:Ph) (v:Ty) (k':Nat),(p,v)∈us.toList->(p.bare=false->k' + v.nn<=i + 1 + us.nn)->(p.bare=true->vv S p v k' = -1)/\(p.bare=false->∃ k:Nat,vv S p v k'=k/\k < rK (gM S)):=by
  intro p v k' hm dG;refine ⟨fun hb=>by simp [vv,hb],fun hb=>?_⟩;have hkv:=Cr Va hm hb;obtain ⟨vh,vs⟩:=v;by_cases h9:vh.ag=9
  ·obtain ⟨j,hj⟩:=Option.ne_none_iff_exists'.1 ((mW hkv).1 h9);have nS:=(dD hj).1;rw [kN] at nS;obtain ⟨k,hk⟩:=xV j nS;have eC:=rB hk;obtain ⟨x,hx⟩:∃ x,S.types[k]? = some x:=⟨_,gE eC.1⟩;have h1:=AJ hx;have h2:=Cu (eC.2 x hx);refine ⟨firstA S k,?_,by omega⟩;simp [vv,hb,oi,Ty.h,h9,U9,hj,namedN,hk]
  ·have h1:=Cu (t:=.mk vh vs) h9;have h2:=dG hb;have h3:(Ty.mk uh us).nn=1 + us.nn:=by rw [Ty.nn,ah hk9]
   refine ⟨k',by simp [vv,hb,oi,Ty.h,h9],by omega⟩
 have Eh:∀ p v,(p,v)∈us.toList->(0<=p.wide/\p.wide<=64)/\(0<=p.ck/\p.ck<=3)/\((p.ck=0->p.cn=0)/\(p.ck=1->1<=p.cn)/\(p.ck=2->0<=p.cn/\p.cn<=4096)/\(p.ck=3->p.cn=0))/\(p.bare=true->uh.ag=8):=by
  intro p v hm;obtain ⟨j,hj⟩:=List.mem_iff_getElem?.1 hm
  have hlen:us.len≠0:=by
   cases us with
   | nil=>simp [Pts.toList] at hm
   | cons _ _ _=>simp [Pts.len]
  by_cases h5:uh.ag=5∨uh.ag=6
  ·obtain ⟨q,t',rfl,_,nv,_,_,_⟩:=hT.one h5;simp only [Pts.toList,List.mem_singleton,Prod.mk.injEq] at hm;obtain ⟨rfl,rfl⟩:=hm;obtain ⟨w1,w2,w3,w4⟩:=tA nv;have z1:fw.wide=0:=rfl;have z2:fw.ck=0:=rfl;have z3:fw.cn=0:=rfl;have z4:fw.bare=false:=rfl;rw [z1] at w2;rw [z2] at w3;rw [z3] at w4;rw [z4] at w1;refine ⟨by omega,by omega,⟨by omega,by omega,by omega,by omega⟩,fun hb=>?_⟩;rw [w1] at hb;cases hb
  ·obtain ⟨_,hP⟩:=(hT.many (by omega)).2.2 j p v hj;rcases hP with ⟨hb,h8,_,nv⟩ | ⟨hb,hp,_⟩
   ·obtain ⟨w1,w2,w3,w4⟩:=tA nv;have z1:fM.wide=0:=rfl;have z2:fM.ck=0:=rfl;have z3:fM.cn=0:=rfl;rw [z1] at w2;rw [z2] at w3;rw [z3] at w4;exact ⟨by omega,by omega,⟨by omega,by omega,by omega,by omega⟩,fun _=>h8⟩
   ·obtain ⟨w1,w2⟩:=KN hp;obtain ⟨w3,w4⟩:=HA w2;exact ⟨w1,w3,w4,fun h=>by rw [hb] at h;cases h⟩
 have ZL:us.len=0->us = .nil:=fun h=>by
  cases us with
  | nil=>rfl
  | cons _ _ _=>simp [Pts.len] at h
 refine {
  k1:=k1
  k8:=by show uh.ag<=8;omega
  lohi:=hT.int
  lo0:=fun h2=>?_
  Ja:=hT.text
  uw:=fun h5=>?_
  Ti:=fun h3 h5=>?_
  af:=fun h4=>?_
  Vz:=fun h4=>?_
  leaf:=fun h5=>?_
  one:=fun h5=>?_
  many:=fun h7=>?_
  bare:=fun e he hb=>?_
  fU:=fun e he=>?_ }
 ·show uh.lo=0/\uh.hi=0;exact o1.resolve_left h2
 ·obtain ⟨q,t',rfl,_,_,pk,kj,_⟩:=hT.one (.inl h5);exact ⟨pk,kj⟩
 ·show uh.most=0;exact o2.resolve_left (fun h=>h.elim h3 h5)
 ·obtain ⟨e1,e2,e3,e4⟩:=Ct (hT.enum h4);show aC uh.af ≠ []/\(aC uh.af).length<=64/\(aC uh.af).Nodup/\∀ s∈aC uh.af,bi s=true;refine ⟨fun h=>e1 (by simpa [aC] using h),by rw [dW];exact e2,e3,fun s hs=>?_⟩;unfold aC at hs;obtain ⟨w,hw,rfl⟩:=List.mem_map.1 hs;exact e4 w hw
 ·show aC uh.af=[];have:=o4.resolve_right h4;have:uh.af=[]:=List.eq_nil_of_length_eq_zero this;rw [this];all_goals rfl
 ·show edsP (jx S) S us (i + 1)=[];have VA:uh.ag < 5:=h5;rw [ZL (o3.resolve_right (by omega))];rfl
 ·show ∃ e,edsP (jx S) S us (i + 1)=[e]/\_;obtain ⟨q,t',rfl,hn,nv,_,_,_⟩:=hT.one h5;refine ⟨xB (jx S) q (vv S q t' (i + 1)),rfl,?_,hn⟩;exact (tA nv).1
 ·show (edsP (jx S) S us (i + 1)).length<=64/\(_->edsP (jx S) S us (i + 1) ≠ [])/\((edsP (jx S) S us (i + 1)).map Ed.name).Nodup/\∀ e∈edsP (jx S) S us (i + 1),bi e.name=true;obtain ⟨m1,m2,m3⟩:=hT.many h7
  have fG:∀ j x,(pNames us)[j]? = some x->aK (pNames us) j x=0:=by
   intro j x hx
   have hj:j < us.len:=by
    have:=(gS hx).1
    rwa [gW] at this
   obtain ⟨p,t',hp⟩:=Pts.fc hj;rw [gY hp] at hx;simp only [oI] at hx;rw [<- hx];exact (m3 j p t' hp).1
  obtain ⟨n1,n2⟩:=xX fG;refine ⟨by rw [rC];exact m1,fun h8 hn=>m2 h8 ?_,by rw [qf];exact n1,fun e he=>?_⟩
  ·have:=rC (jx S) S us (i + 1);rw [hn] at this;simpa using this.symm
  ·have:e.name∈aC (pNames us):=by rw [<- qf (lev:=jx S) (s:=S) (k:=i + 1)];exact List.mem_map_of_mem he
   unfold aC at this;obtain ⟨w,hw,h⟩:=List.mem_map.1 this;rw [<- h];exact n2 w hw
 ·obtain ⟨p,v,k',h1,rfl,_⟩:=xW he;exact (Eh p v h1).2.2.2 hb
 ·obtain ⟨p,v,k',h1,rfl,h3⟩:=xW he;obtain ⟨h4,h5⟩:=sf p v k' h1 h3;obtain ⟨h6,h7,h8,_⟩:=Eh p v h1;obtain ⟨h9,zA⟩:=Jb Va h1;exact { to0:=h4,to1:=h5,lab:=Wo _ h9,seen:=Wo _ zA,wide:=N8 h6,ck:=h7,cn:=h8 }
theorem HB {S:Sch} (hF:AD S):∃ k:Nat,gl S=k/\k < (ba S).length:=by
 rw [qg];have S7:=hF.kn S.root (by unfold gM;simp);have xV:=hF.ends;have eB:=xR S;have pu:rK (gM S)=rK (fD S) + S.root.nn:=by unfold gM;rw [vy];simp [rK]
 unfold gl;obtain ⟨ae,order,types,⟨rh,rp⟩⟩:=S;simp only at S7 xV pu;by_cases h9:rh.ag=9
 ·obtain ⟨j,hj⟩:=Option.ne_none_iff_exists'.1 ((mW S7).1 h9);have nS:=(dD hj).1;rw [kN] at nS;obtain ⟨k,hk⟩:=xV j nS;have eC:=rB hk;obtain ⟨x,hx⟩:∃ x,(Sch.mk ae order types (.mk rh rp)).types[k]? = some x:=⟨_,gE eC.1⟩;have h1:=AJ hx;have h2:=Cu (eC.2 x hx);exact ⟨firstA ⟨ae,order,types,.mk rh rp⟩ k,by simp [oi,Ty.h,h9,U9,hj,namedN,hk],by omega⟩
 ·have h1:=Cu (t:=.mk rh rp) h9;exact ⟨(rF ⟨ae,order,types,.mk rh rp⟩).length,by simp [oi,Ty.h,h9],by omega⟩
theorem EP {lev:List Wd->Int} {s:Sch} {n:Nd}:∀ {l:List Ty} {k:Nat},n∈ndsA lev s l k->∃ t∈l,∃ u∈flatT t,∃ k',n=Q6 lev s u k'
 | [],_,h=>by cases h
 | t :: r,k,h=>by
  rw [ndsA] at h;rcases List.mem_append.1 h with h | h
  ·rw [vx] at h;obtain ⟨x,hx,rfl⟩:=List.mem_map.1 h;have:=(List.mem_zipIdx hx).2.2;refine ⟨t,List.mem_cons_self,x.1,?_,_,rfl⟩;rw [this];exact List.getElem_mem _
  ·obtain ⟨t',ht,h⟩:=EP h;exact ⟨t',de _ ht,h⟩
theorem o6 {S:Sch} {n:Nd} (h:n∈ba S) (hS:S.wt<=1099511627776):n.af.length<=1099511627776/\n.ak.length<=1099511627776:=by
 rw [o0] at h;obtain ⟨t,ht,u,hu,k,rfl⟩:=EP h;have h1:=Co hS t ht;have h2:=xT t u hu;obtain ⟨uh,us⟩:=u;have h3:=bL uh.af;have h4:=us.gz;simp only [Ty.wt,Hd.wt] at h2;simp only [Q6,Ty.h,Ty.ps,dW,rC];omega
abbrev zNd:List DV:=[.v (.int .i64 0),.v (.int .i64 0),.v (.int .i64 0),.v (.int .i64 0),.v (.int .i64 0),.v (.slice none 0 0),.v (.slice none 0 0)]
structure fm (S:Sch) (ND:List Nd) (PC:List DV):Prop where
 fine:AD S
 wt:S.wt<=1099511627776
 Ao:ND=ba S
 ok:∀ n∈ND,cK S.ae.length ND.length n
 nl:ND.length<=1099511627776
 len:aV prog 103 [.pt PC 0] (.v (.int .i64 ND.length))
 root:aV prog 13 [.pt PC 0] (.v (.int .i64 (gl S)))
 aq:∀ (i:Nat) n,ND[i]? = some n->aV prog 44 [.pt PC 0,.v (.int .i64 i)] (.tup [.agg (gL n),.v (.bool true)])
 Tj:∀ i:Int,(i < 0∨ND.length<=i)->aV prog 44 [.pt PC 0,.v (.int .i64 i)] (.tup [.agg zNd,.v (.bool false)])
 lat:∃ aM js,(fX S aM js).OK/\aV prog 139 [.pt PC 0] (fX S aM js).pd
theorem N9 {S:Sch} {d:DV} (hS:S.wt<=1099511627776) (h0:(l6 S).1=0) (hd:NL S d):∃ PC,d = .pt PC 0/\fm S (ba S) PC:=by
 obtain ⟨aM,lL,js,hX,hT,jQ,rfl⟩:=hd;have hF:=xU h0;have bQ:=fun n (h:n∈ba S)=>o6 h hS
 refine ⟨_,rfl,{
  fine:=hF
  wt:=hS
  Ao:=rfl
  ok:=fun n hn=>?_
  nl:=by rw [qg];exact Nat.le_trans (N2 S) hS
  len:=tp _ _ _ _ _ _
  root:=Hk _ _ _ _ _ _
  aq:=fun i n h=>Hl _ _ _ _ _ _ i n h (bQ n (mG h)).1 (bQ n (mG h)).2
  Tj:=fun i h=>Hm _ _ _ _ _ _ i h
  lat:=⟨aM,js,hX,KA _ _ _ _ _ _⟩ }⟩
 obtain ⟨i,hi⟩:=List.mem_iff_getElem?.1 hn;exact KO hF hi
def HC (S:Sch) (r:DV):Prop:=((l6 S).1≠0/\r = .tup [.v (.pointer none),(l6 S).d])∨((l6 S).1=0/\∃ PC,fm S (ba S) PC/\r = .tup [.pt PC 0,Ft.d (0,0)])
theorem AK {S:Sch} (hS:S.wt<=1099511627776) {r:DV} {os:List (List DV)} {tk:List TkE} (h:Hg S r os tk):HC S r:=by
 unfold Hg at h;by_cases h0:(l6 S).1=0
 ·rw [ah (by rw [h0];simp)] at h;obtain ⟨d,hd,rfl⟩:=h;obtain ⟨PC,rfl,hP⟩:=N9 hS h0 hd;exact .inr ⟨h0,PC,hP,rfl⟩
 ·rw [ai h0] at h;exact .inl ⟨h0,h⟩
inductive Val where
 | mk (k n:Int) (s:ByteArray) (ks:List Val)
def Val.k:Val->Int | .mk k _ _ _=>k
def Val.n:Val->Int | .mk _ n _ _=>n
def Val.s:Val->ByteArray | .mk _ _ s _=>s
def Val.ks:Val->List Val | .mk _ _ _ ks=>ks
mutual
def dVal:Val->List DV
 | .mk k n s ks=>[.v (.int .i64 k),.v (.int .i64 n),.v (.string s),.sl 4 (dVals ks) none]
def dVals:List Val->List (List DV)
 | []=>[]
 | v :: r=>dVal v :: dVals r
end
theorem bU:∀ l:List Val,dVals l=l.map dVal
 | []=>rfl
 | v :: r=>by rw [dVals,bU r];all_goals rfl
theorem bV (l:List Val):(dVals l).length=l.length:=by rw [bU,List.length_map]
theorem iq {l:List Val} {e:Nat} {x:Val} (h:l[e]? = some x):(dVals l)[e]? = some (dVal x):=by rw [bU,List.getElem?_map,h];all_goals rfl
theorem HD {l:List Val} {e:Nat} {x:Val} (h:l[e]? = some x):dVals (l.take e) ++ [dVal x]=dVals (l.take (e + 1)):=by
 rw [bU,bU,List.take_add_one,h];simp
mutual
def Val.wt:Val->Nat
 | .mk _ _ s ks=>64 + s.size + dZ ks
def dZ:List Val->Nat
 | []=>0
 | v :: r=>v.wt + dZ r
end
theorem Val.eJ:∀ v:Val,64<=v.wt
 | .mk _ _ _ _=>by rw [Val.wt];omega
theorem jM:∀ {l:List Val} {x:Val},x∈l->x.wt<=dZ l
 | v :: r,x,h=>by
  rcases bI h with rfl | h
  ·rw [dZ];omega
  ·have:=jM h;rw [dZ];omega
theorem gN:∀ l:List Val,64 * l.length<=dZ l
 | []=>aR _
 | v :: r=>by
  have:=gN r;have:=v.eJ;rw [dZ,List.length_cons];omega
mutual
def jN:Val->Nat
 | .mk _ _ _ ks=>1 + j3 ks
def j3:List Val->Nat
 | []=>0
 | v :: r=>jN v + j3 r
end
mutual
def xY:Val->Nat
 | .mk _ _ _ ks=>iV ks + 1
def iV:List Val->Nat
 | []=>0
 | v :: r=>max (xY v) (iV r)
end
mutual
theorem vz:∀ v:Val,jN v<=v.wt/\xY v<=v.wt
 | .mk _ _ _ ks=>by
  have:=xZ ks;rw [jN,xY,Val.wt];omega
theorem xZ:∀ l:List Val,j3 l<=dZ l/\iV l<=dZ l
 | []=>⟨aR _,aR _⟩
 | v :: r=>by
  have h1:=vz v;have h2:=xZ r;rw [j3,iV,dZ];omega
end
theorem qh:∀ (l:List Val) (x:Val),j3 (l ++ [x])=j3 l + jN x
 | [],x=>by simp [j3]
 | v :: r,x=>by rw [List.cons_append,j3,j3,qh r];omega
theorem x4:∀ (l:List Val) (x:Val),iV (l ++ [x])=max (iV l) (xY x)
 | [],x=>by simp [iV]
 | v :: r,x=>by rw [List.cons_append,iV,iV,x4 r];omega
theorem dE {α:Type} {l:List α} {e:Nat} {x:α} (h:l[e]? = some x):l.take (e + 1)=l.take e ++ [x]:=by rw [List.take_add_one,h];all_goals rfl
theorem x5 (l:List Val):∀ e,j3 (l.take e)<=dZ l/\iV (l.take e)<=dZ l:=fun e=>by
 have h1:=xZ (l.take e)
 have h2:∀ (l:List Val) e,dZ (l.take e)<=dZ l:=by
  intro l
  induction l with
  | nil=>intro e;simp [dZ]
  | cons v r ih=>
   intro e
   cases e with
   | zero=>simp [dZ]
   | succ e=>have:=ih e;simp only [List.take_succ_cons,dZ];omega
 have:=h2 l e;omega
abbrev szSt (v:Val) (n d e:Nat):St:=
 ⟨[(1,⟨[],.loc 0 0⟩),(4,⟨[],.v (.int .i64 n)⟩),(5,⟨[],.v (.int .i64 d)⟩),(6,⟨[],.v (.int .i64 e)⟩)],[dVal v],[]⟩
theorem ox:∀ (k:Nat) (v:Val),v.wt<=k->v.wt<=1099511627776->aV prog 7 [.agg (dVal v)] (.tup [.v (.int .i64 (jN v:Nat)),.v (.int .i64 (xY v:Nat))])
 | 0,v,h,_=>by have:=v.eJ;omega
 | k + 1,.mk q n s ks,h,hb=>by
  have ih:=ox k;have bH:=bV ks;have eC:=gN ks;have k0:=x5 ks;rw [Val.wt] at h hb;rw [jN,xY];refine eG 35 [.tmp 2,.tmp 3] func7 rfl ntmps7 rfl fun _ _ _ _=>?_;refine lJ (fun e=>szSt (.mk q n s ks) (1 + j3 (ks.take e)) (iV (ks.take e)) e) ks.length (aj ⟨_,rfl⟩ wA rfl rfl rfl wB) ?_;intro e he;refine br ?_ ?_<;>intro hL
  ·have ap:e < ks.length:=by have:=hL;simp [bH] at this;exact this
   obtain ⟨x,hx⟩:=gX ap;have SY:=jM (mG hx);have hc:=qh (ks.take e) x;have hd:=x4 (ks.take e) x;rw [<- dE hx] at hc hd;have h1:=k0 (e + 1);have hi:=ih x (by omega) (by omega);have hcx:=vz x;obtain ⟨xk,xn,xs,xl⟩:=x;refine iX (iq hx) ?_;refine cP en7 hi ?_;have hw:IntKind.i64.wrap (((1 + j3 (ks.take e):Nat):Int) + ((jN (.mk xk xn xs xl):Nat):Int))=((1 + j3 (ks.take (e + 1)):Nat):Int):=by rw [wrap64 (by omega) (by omega)];omega
   refine br ?_ ?_<;>intro g
   ·have g:iV (ks.take e) < xY (.mk xk xn xs xl):=sU g;have JW:((xY (.mk xk xn xs xl):Nat):Int)=((iV (ks.take (e + 1)):Nat):Int):=by omega
    exact rE ⟨_,by omega,e + 1,rfl,by omega,rfl⟩ (aj ⟨_,rfl⟩ wA rfl rfl rfl (zI hw JW (aJ ap (by omega))))
   ·have g:¬ iV (ks.take e) < xY (.mk xk xn xs xl):=sU g;have JW:((iV (ks.take e):Nat):Int)=((iV (ks.take (e + 1)):Nat):Int):=by omega
    exact rE ⟨_,by omega,e + 1,rfl,by omega,rfl⟩ (aj ⟨_,rfl⟩ wA rfl rfl rfl (zI hw JW (aJ ap (by omega))))
  ·have aQ:e=ks.length:=sW bH hL;subst aQ;have h1:=k0 ks.length;rw [List.take_length] at h1 ⊢;have hw:IntKind.i64.wrap (((iV ks:Nat):Int) + 1)=((iV ks + 1:Nat):Int):=by rw [wrap64 (by omega) (by omega)];omega
   refine ⟨_,(gU hw),rfl⟩
abbrev ctSt (ks:List Val) (n e:Nat):St:=
 ⟨[(3,⟨[],.v (.int .i64 n)⟩),(7,⟨[],.sl 4 (dVals ks) none⟩),(8,⟨[],.v (.int .i64 (dVals ks).length)⟩),(9,⟨[],.v (.int .i64 e)⟩)],[],[]⟩
theorem ux:∀ (k:Nat) (v:Val),v.wt<=k->v.wt<=1099511627776->aV prog 19 [.agg (dVal v)] (.v (.int .i64 (jN v:Nat)))
 | 0,v,h,_=>by have:=v.eJ;omega
 | k + 1,.mk q n s ks,h,hb=>by
  have ih:=ux k;have bH:=bV ks;have eC:=gN ks;have k0:=x5 ks;rw [Val.wt] at h hb;rw [jN];refine eG 19 [.tmp 2] func19 rfl ntmps19 rfl fun _ _ _ _=>?_;refine lJ (fun e=>ctSt ks (1 + j3 (ks.take e)) e) ks.length (aj ⟨_,rfl⟩ wA rfl rfl rfl wB) ?_;intro e he;refine br ?_ ?_<;>intro hL
  ·have ap:e < ks.length:=by have:=hL;simp [bH] at this;exact this
   obtain ⟨x,hx⟩:=gX ap;have SY:=jM (mG hx);have hc:=qh (ks.take e) x;rw [<- dE hx] at hc;have h1:=k0 (e + 1);have hi:=ih x (by omega) (by omega);obtain ⟨xk,xn,xs,xl⟩:=x;refine iX (iq hx) ?_;refine cP Xi hi ?_;have hw:IntKind.i64.wrap (((1 + j3 (ks.take e):Nat):Int) + ((jN (.mk xk xn xs xl):Nat):Int))=((1 + j3 (ks.take (e + 1)):Nat):Int):=by rw [wrap64 (by omega) (by omega)];omega
   exact rE ⟨_,by omega,e + 1,rfl,by omega,rfl⟩ (aj ⟨_,rfl⟩ wA rfl rfl rfl (wB2 hw (aJ ap (by omega))))
  ·have aQ:e=ks.length:=sW bH hL;subst aQ;rw [List.take_length];exact (rfl:_=_)
theorem EQ:prog.cellsOf 34=4:=by kernel_rfl
theorem Jc {m:Nat} (ih:∀ k,k<=m->∀ ds,Typ prog k 34 ds->∃ v:Val,ds=dVal v/\v.wt<=wgL ds) :
  ∀ {es:List (List DV)},(∀ cs∈es,Typ prog m 34 cs)->∃ l:List Val,es=dVals l/\dZ l<=wgEs es
 | [],h=>⟨[],rfl,by simp [dZ]⟩
 | cs :: r,h=>by
  obtain ⟨l,rfl,hl⟩:=Jc ih (es:=r) (fun c hc=>h c (de _ hc));obtain ⟨v,rfl,hv⟩:=ih m (aR _) cs (h cs (by simp));exact ⟨v :: l,rfl,by simp only [dZ,wgEs];omega⟩
theorem typ_val:∀ (n:Nat) (ds:List DV),Typ prog n 34 ds->∃ v:Val,ds=dVal v/\v.wt<=wgL ds:=by
 intro n
 induction n using Nat.strongRecOn with
 | _ n ih=>
  intro ds h;obtain ⟨m,rfl,hf⟩:=mN Tryz.underlying34 h;obtain ⟨a1,b1,rfl,h1,a2,b2,rfl,h2,a3,b3,rfl,h3,a4,b4,rfl,h4,rfl⟩:=hf;obtain ⟨k,rfl,_⟩:=lV h1;obtain ⟨z,rfl,_⟩:=lV h2;obtain ⟨s,rfl⟩:=BZ Tryz.underlying9 h3;obtain ⟨j,es,rfl,rfl,gD⟩:=sQ Tryz.underlying32 h4;obtain ⟨l,rfl,wl⟩:=Jc (fun i hi=>ih i (by omega)) gD;rw [EQ];refine ⟨.mk k z s l,rfl,?_⟩;simp only [Val.wt,fg,wgL,wgD] at *;omega
end Go.Proofs.YtadhpeooehkklaaGreat
namespace Go.Proofs.YtadhpeooehkklaaGreat
open Go Go.RowKit Dv
def tyVS:List TypeId:=[34,32,9,3]
theorem tyVS_ok:∀ t∈tyVS,lE Tryz.prog tyVS t=true:=by
 have h:(tyVS.all fun t=>lE Tryz.prog tyVS t)=true:=by kernel_rfl
 exact fun t ht=>List.all_eq_true.1 h t ht
end Go.Proofs.YtadhpeooehkklaaGreat
set_option maxRecDepth 100000
namespace Go.Proofs.YtadhpeooehkklaaGreat
open Go Go.RowKit Dv Go.Proofs.Tryz
mutual
def sameV:Val->Val->Bool
 | .mk k n s ks,.mk k' n' s' ks'=>decide (k=k') && decide (n=n') && decide (s=s') && sameVs ks ks'
def sameVs:List Val->List Val->Bool
 | [],[]=>true
 | v :: r,w :: q=>sameV v w && sameVs r q
 | _,_=>false
end
theorem x6:∀ {a b:List Val},a.length≠b.length->sameVs a b=false
 | [],[],h=>(h rfl).elim
 | v :: r,w :: q,h=>by rw [sameVs,x6 (a:=r) (b:=q) (sU h),Bool.and_false]
 | [],_ :: _,_=>by simp [sameVs]
 | _ :: _,[],_=>by simp [sameVs]
mutual
theorem AL:∀ {a b:Val},sameV a b=true↔a=b
 | .mk k n s ks,.mk k' n' s' ks'=>by
  have:=@x7 ks ks';simp only [sameV,aP,decide_eq_true_eq,this,Val.mk.injEq,and_assoc]
theorem x7:∀ {a b:List Val},sameVs a b=true↔a=b
 | [],[]=>by simp [sameVs]
 | v :: r,w :: q=>by
  have h1:=@AL v w;have h2:=@x7 r q;simp only [sameVs,aP,h1,h2,List.cons.injEq]
 | [],_ :: _=>by simp [sameVs]
 | _ :: _,[]=>by simp [sameVs]
end
theorem x8 (v:Val):sameV v v=true:=AL.2 rfl
def AM (n:Nd) (v:Val):Bool:=
 if 0 < v.ks.length∨(v.k≠3/\v.s≠ay)∨(v.k=3/\v.n≠0) then false
 else if n.ag=1 then decide (v.k=1) && (decide (v.n=0) || decide (v.n=1))
 else if n.ag=2 then decide (v.k=2) && decide (n.lo<=v.n) && decide (v.n<=n.hi)
 else if n.ag=3 then decide (v.k=3) && decide ((v.s.size:Int)<=n.most)
 else decide (v.k=4) && decide (0<=v.n) && decide (v.n < n.af.length)
def eM (v:Val):Bool:=decide (v.s=ay) && (decide (v.n=0) || decide (v.k=8))
def to0 (n:Nd):Int:=match n.ak[0]? with | some e=>e.to | none=>0
def pv (n:Nd) (v:Val):Option Ed:=if v.k=8/\0<=v.n/\v.n < n.ak.length then n.ak[v.n.toNat]? else none
def kidsL (n:Nd) (v:Val):List Int:=
 if n.ag=5∨n.ag=6 then List.replicate v.ks.length (to0 n)
 else if n.ag=7 then n.ak.map Ed.to
 else match pv n v with | none=>[] | some e=>if e.bare=true then [] else [e.to]
def er (n:Nd) (v:Val):Bool:=
 if n.ag=5∨n.ag=6 then eM v && decide (v.k=n.ag) && decide ((v.ks.length:Int)<=if n.ag=6 then 1 else n.most)
 else if n.ag=7 then eM v && decide (v.k=7) && decide (n.ak.length=v.ks.length)
 else match pv n v with | none=>false | some _=>eM v && decide ((kidsL n v).length=v.ks.length)
def l8 (ND:List Nd) (i:Int):Option Nd:=if i < 0 then none else ND[i.toNat]?
mutual
def fitV (ND:List Nd):Val->Int->Bool
 | .mk k n s ks,i=>match l8 ND i with
  | none=>false
  | some d=>if d.ag < 5 then AM d (.mk k n s ks) else er d (.mk k n s ks) && fitVs ND ks (kidsL d (.mk k n s ks))
def fitVs (ND:List Nd):List Val->List Int->Bool
 | v :: r,i :: l=>fitV ND v i && fitVs ND r l
 | _,_=>true
end
def Jd (n:Nd) (v:Val) (j:Nat):Int:=
 if n.ag=5 then (if (j:Int) < n.most then to0 n else -1)
 else if n.ag=6 then (if j < 1 then to0 n else -1)
 else if n.ag=7 then (match n.ak[j]? with | some e=>e.to | none=>-1)
 else if n.ag=8 then (if j < 1/\0<=v.n/\v.n < n.ak.length then (match n.ak[v.n.toNat]? with | some e=>e.to | none=>-1) else -1)
 else -1
def x9 (n:Nd) (v:Val):Bool:=decide (v.k≠n.ag) || (decide (v.k≠3) && decide (v.s≠ay)) || (decide (0 < v.s.size) && decide (n.most < (v.s.size:Int)))
def ER (n:Nd) (v:Val):Bool:=
 if n.ag=1 then decide (v.n=0) || decide (v.n=1)
 else if n.ag=2 then decide (n.lo<=v.n) && decide (v.n<=n.hi)
 else if n.ag=4 then decide (0<=v.n) && decide (v.n < n.af.length)
 else if n.ag=7 then decide (v.n=0) && decide (v.ks.length=n.ak.length)
 else if n.ag=8 then (if 0<=v.n/\v.n < n.ak.length then (match n.ak[v.n.toNat]? with | some e=>decide (decide (v.ks.length=0)=e.bare) | none=>false) else false)
 else decide (v.n=0)
mutual
def ya (ND:List Nd):Val->Int->Bool
 | .mk k n s ks,i=>match l8 ND i with
  | none=>false
  | some d=>if x9 d (.mk k n s ks)=true then false else ER d (.mk k n s ks) && refVs ND ks (Jd d (.mk k n s ks)) 0
def refVs (ND:List Nd):List Val->(Nat->Int)->Nat->Bool
 | [],_,_=>true
 | v :: r,f,j=>ya ND v (f j) && refVs ND r f (j + 1)
end
theorem AN (ND:List Nd) (v:Val):ya ND v (-1)=false:=by
 obtain ⟨k,n,s,ks⟩:=v;rw [ya];rfl
theorem HE {ND:List Nd}:∀ {ks:List Val} {f:Nat->Int} {j:Nat},f j = -1->refVs ND ks f j=decide (ks=[])
 | [],f,j,h=>by simp [refVs]
 | v :: r,f,j,h=>by rw [refVs,h,AN];simp
theorem oy {ND:List Nd}:∀ {ks:List Val} {f:Nat->Int} {l:List Int} {j:Nat},(∀ v∈ks,∀ i,fitV ND v i=ya ND v i)->l.length=ks.length->(∀ e i,l[e]? = some i->f (j + e)=i)->refVs ND ks f j=fitVs ND ks l
 | [],f,[],j,_,_,_=>by simp [refVs,fitVs]
 | v :: r,f,i :: l,j,ih,hl,h=>by
  have h0:=h 0 i rfl;rw [Nat.add_zero] at h0
  rw [refVs,fitVs,h0,ih v (by simp) i,oy (fun x hx=>ih x (by simp [hx])) (sU hl) fun e i' he=>by
   have:=h (e + 1) i' (sU he)
   rwa [show j + 1 + e=j + (e + 1) by omega]]
 | [],f,_ :: _,j,_,hl,_=>by simp at hl
 | _ :: _,f,[],j,_,hl,_=>by simp at hl
theorem o7 {ND:List Nd}:∀ {ks:List Val} {f:Nat->Int} {j m:Nat},j<=m->f m = -1->m < j + ks.length->refVs ND ks f j=false
 | [],f,j,m,h1,_,h3=>by simp at h3;omega
 | v :: r,f,j,m,h1,h2,h3=>by
  rw [refVs];by_cases h:j=m
  ·subst h;rw [h2,AN];all_goals rfl
  ·rw [o7 (m:=m) (by omega) h2 (by simp at h3;omega),Bool.and_false]
theorem Oa {L:Nat} {ND:List Nd} {d:Nd} (hd:cK L ND.length d) (v:Val) (ih:∀ x∈v.ks,∀ i,fitV ND x i=ya ND x i) :
  (if d.ag < 5 then AM d v else er d v && fitVs ND v.ks (kidsL d v))=if x9 d v=true then false else ER d v && refVs ND v.ks (Jd d v) 0:=by
 have jU:=hd.k1;have HF:=hd.k8;have he:(ay:ByteArray).size=0:=rfl;have hse:v.s=ay->v.s.size=0:=fun h=>by rw [h];all_goals rfl
 by_cases h5:d.ag < 5
 ·rw [ai h5]
  have sf:Jd d v 0 = -1:=by
   unfold Jd;rw [ah (by omega),ah (by omega),ah (by omega),ah (by omega)]
  rw [HE sf];unfold AM x9 ER;have hif:∀ (P:Prop) [Decidable P] (b:Bool),(if P then false else b)=(!decide P && b):=fun P _ b=>by split<;>simp_all
  have KQ:(0 < v.ks.length)↔v.ks ≠ []:=List.length_pos_iff;have hif2:∀ (P b:Bool),(if P=true then false else b)=(!P && b):=fun P b=>by cases P<;>rfl
  rw [hif2,hif];have hm3:=hd.Ja;have pk:=hd.Ti;rw [Bool.eq_iff_iff];rcases (show d.ag=1∨d.ag=2∨d.ag=3∨d.ag=4 by omega) with c | c | c | c
  all_goals
   by_cases hs:v.s=ay
   ·have:=hse hs;by_cases hk:v.ks=[]
    ·simp [c,hs,hk,he]
     first | omega | done
    ·simp [c,hs,hk,he]
   ·by_cases hk:v.ks=[]
    ·have ue:¬ v.s=ByteArray.empty:=hs;simp [c,hs,hk,ue]
     first | omega | done
    ·simp [c,hs,hk]
 rw [ah h5];rcases Decidable.em (¬ v.k=d.ag) with Ob | Ob
 ·have hb:x9 d v=true:=by simp [x9,Ob]
  rw [ai hb];unfold er;by_cases c:d.ag=5∨d.ag=6
  ·rw [ai c];simp [Ob]
  rw [ah c];by_cases c7:d.ag=7
  ·rw [ai c7];have:¬ v.k=7:=by omega
   simp [this]
  rw [ah c7];have:pv d v=none:=by unfold pv;rw [ah (by omega)]
  rw [this];all_goals rfl
 have Ob:v.k=d.ag:=Decidable.not_not.1 Ob;rcases Decidable.em (¬ v.s=ay) with hs | hs
 ·have hb:x9 d v=true:=by simp [x9,hs,Ob];left;omega
  have hp:eM v=false:=by simp [eM,hs]
  rw [ai hb];unfold er;rw [hp];split
  ·simp
  ·split
   ·simp
   ·split<;>simp
 have hs:v.s=ay:=Decidable.not_not.1 hs
 have hb:x9 d v=false:=by
  have:=hse hs;simp [x9,Ob,hs,he]
 rw [ah (by rw [hb];simp)];by_cases c5:d.ag=5
 ·have hm:=hd.uw c5
  have bw:ER d v=decide (v.n=0):=by
   unfold ER;rw [ah (by omega),ah (by omega),ah (by omega),ah (by omega),ah (by omega)]
  have J4:er d v=(decide (v.n=0) && decide ((v.ks.length:Int)<=d.most)):=by
   unfold er eM;rw [ai (.inl c5),ah (by omega)];simp [hs,Ob,c5]
  have eC:kidsL d v=List.replicate v.ks.length (to0 d):=by unfold kidsL;rw [ai (.inl c5)]
  rw [bw,J4,eC];by_cases dG:(v.ks.length:Int)<=d.most
  ·rw [oy (l:=List.replicate v.ks.length (to0 d)) ih (by simp) fun e i he=>by
    have ap:e < v.ks.length:=by
     have:=(gS he).1;simpa using this
    rw [List.getElem?_replicate,ai ap] at he;simp only [oI] at he;unfold Jd
    rw [ai c5,ai (by omega),he]]
   simp [dG]
  ·rw [o7 (m:=d.most.toNat) (by omega) (by unfold Jd;rw [ai c5,ah (by omega)]) (by omega)];simp [dG]
 by_cases c6:d.ag=6
 ·have bw:ER d v=decide (v.n=0):=by
   unfold ER;rw [ah (by omega),ah (by omega),ah (by omega),ah (by omega),ah (by omega)]
  have J4:er d v=(decide (v.n=0) && decide (v.ks.length<=1)):=by
   unfold er eM;rw [ai (.inr c6),ai c6];have:((v.ks.length:Int)<=1)↔v.ks.length<=1:=by omega
   simp [hs,Ob,c6,this]
  have eC:kidsL d v=List.replicate v.ks.length (to0 d):=by unfold kidsL;rw [ai (.inr c6)]
  rw [bw,J4,eC];by_cases dG:v.ks.length<=1
  ·rw [oy (l:=List.replicate v.ks.length (to0 d)) ih (by simp) fun e i he=>by
    have ap:e < v.ks.length:=by
     have:=(gS he).1;simpa using this
    rw [List.getElem?_replicate,ai ap] at he;simp only [oI] at he;unfold Jd
    rw [ah c5,ai c6,ai (by omega),he]]
   simp [dG]
  ·rw [o7 (m:=1) (by omega) (by unfold Jd;rw [ah c5,ai c6,ah (by omega)]) (by omega)];simp [dG]
 by_cases c7:d.ag=7
 ·have bw:ER d v=(decide (v.n=0) && decide (v.ks.length=d.ak.length)):=by
   unfold ER;rw [ah (by omega),ah (by omega),ah (by omega),ai c7]
  have J4:er d v=(decide (v.n=0) && decide (v.ks.length=d.ak.length)):=by
   unfold er eM;rw [ah (by omega),ai c7];have:(d.ak.length=v.ks.length)↔(v.ks.length=d.ak.length):=eq_comm;simp [hs,Ob,c7,this]
  have eC:kidsL d v=d.ak.map Ed.to:=by unfold kidsL;rw [ah (by omega),ai c7]
  rw [bw,J4,eC];by_cases dG:v.ks.length=d.ak.length
  ·rw [oy (l:=d.ak.map Ed.to) ih (by simp [dG]) fun e i he=>by
    rw [List.getElem?_map] at he;unfold Jd;rw [ah c5,ah c6,ai c7,Nat.zero_add]
    cases hx:d.ak[e]? with
    | none=>rw [hx] at he;cases he
    | some x=>rw [hx] at he;simpa using he]
  ·simp [dG]
 have c8:d.ag=8:=by omega
 have bw:ER d v=(if 0<=v.n/\v.n < d.ak.length then (match d.ak[v.n.toNat]? with | some e=>decide (decide (v.ks.length=0)=e.bare) | none=>false) else false):=by
  unfold ER;rw [ah (by omega),ah (by omega),ah (by omega),ah c7,ai c8]
 rcases Decidable.em (¬ (0<=v.n/\v.n < d.ak.length)) with hr | hr
 ·have ht:pv d v=none:=by unfold pv;rw [ah (fun h=>hr h.2)]
  have J4:er d v=false:=by unfold er;rw [ah (by omega),ah c7,ht]
  rw [J4,bw,ah hr];all_goals rfl
 have hr:0<=v.n/\v.n < d.ak.length:=Decidable.not_not.1 hr;obtain ⟨e,hx⟩:∃ e,d.ak[v.n.toNat]? = some e:=⟨_,gE (by omega)⟩;have ht:pv d v=some e:=by unfold pv;rw [ai ⟨by omega,hr⟩,hx]
 have eC:kidsL d v=if e.bare=true then [] else [e.to]:=by unfold kidsL;rw [ah (by omega),ah c7,ht]
 have J4:er d v=decide ((kidsL d v).length=v.ks.length):=by
  unfold er;rw [ah (by omega),ah c7,ht];have hp:eM v=true:=by simp [eM,hs,Ob,c8]
  simp only [hp,Bool.true_and]
 have htr:∀ j,Jd d v j=if j < 1 then e.to else -1:=fun j=>by
  unfold Jd;rw [ah c5,ah c6,ah c7,ai c8,hx];by_cases hj:j < 1
  ·rw [ai ⟨hj,hr⟩,ai hj]
  ·rw [ah (fun h=>hj h.1),ah hj]
 rw [J4,bw,ai hr,hx,eC];simp only
 cases hbr:e.bare with
 | true=>
  simp only [if_true];by_cases hl:v.ks.length=0
  ·have Oc:=List.eq_nil_of_length_eq_zero hl;rw [Oc];simp [fitVs,refVs]
  ·have:decide (([]:List Int).length=v.ks.length)=false:=decide_eq_false fun h=>hl (by simpa using h.symm);rw [this];simp [hl]
 | false=>
  simp only [Bool.false_eq_true,if_false];by_cases hl:v.ks.length=1
  ·rw [oy (l:=[e.to]) ih (by simp [hl]) fun j i he=>by
    have hj:j < 1:=by have:=(gS he).1;simpa using this
    have:j=0:=by omega
    subst this;rw [htr]
    simpa using he]
   simp [hl]
  ·have h1:¬ ([e.to]:List Int).length=v.ks.length:=by simpa using fun h=>hl h.symm
   by_cases hz:v.ks.length=0
   ·simp [hz]
   ·rw [o7 (m:=1) (by omega) (by rw [htr];simp) (by omega)];simp only [Bool.and_false];have:decide (([e.to]:List Int).length=v.ks.length)=false:=by simpa using fun h=>hl h.symm
    rw [this];all_goals rfl
mutual
theorem Od {L:Nat} {ND:List Nd} (bw:∀ n∈ND,cK L ND.length n):∀ (v:Val) (i:Int),fitV ND v i=ya ND v i
 | .mk k n s ks,i=>by
  have ih:=Je bw ks;rw [fitV,ya];unfold l8;split
  ·rfl
  ·rename_i h;split at h
   ·cases h
   ·exact Oa (bw _ (mG h)) (.mk k n s ks) ih
theorem Je {L:Nat} {ND:List Nd} (bw:∀ n∈ND,cK L ND.length n):∀ (ks:List Val),∀ x∈ks,∀ i:Int,fitV ND x i=ya ND x i
 | [],x,hx,_=>by cases hx
 | v :: r,x,hx,i=>by
  rcases bI hx with hx | hx
  ·rw [hx];exact Od bw v i
  ·exact Je bw r x hx i
end
end Go.Proofs.YtadhpeooehkklaaGreat
