/- Part 5 of the proof: resolve.Build; Reading a plan: Len, Root, Lattice, Node, Find; slices.Clone; of no plan as well; The reference of chapter 17: Great, Same; The program's comparing of schemas; The law's example: a type that leads to itself; The law of no plan: the call returns true; The document's relations: Leads; The document's lattices: Find, pairs, Leq, Loop; The document's lattices: what is wrong; The document's labels: over, Least, Of; The document's schemas: Find, word, all, Flat, End, Start; The document's schemas: Flat, End, Start; The document's schemas: named, unknown; The reference's Wrong returns what is wrong with a type; The document's schemas: what is wrong; The document's nodes: Same, of equal ones; the law's node; The document's nodes: node; The document's plan: Build; What is known of a type with which nothing is wrong; labels have levels; What is known of the nodes of a plan; A plan, as its readers know it; Values, plain; how many are in one, how deep they lie; What is read of a value, as the plain data; What the frames of laws over values share; The greatest multiple of a unit that is at most a number; UTF-8: the program's lead, value; UTF-8: the program's Decode; UTF-8: the document's reckoned, Scalar, Encode; UTF-8: the document's Scalar, Encode. No condition. -/
import Derived.Test.YtgjagnmeonoehaaGreatMv3
import Derived.Test.YtgjagnmeonoehaaGreatMv4
set_option linter.all false
set_option maxRecDepth 100000
namespace Go.Proofs.YtgjagnmeonoehaaGreat
open Go Go.RowKit Dv Go.Proofs.Tryz
abbrev Ps (s:Sch) (aF:List Nat) (lc:List DV) (m:Int) (f1 f2:Int) (n:Nat) (base:List DV) (e:Nat):St:=
 ⟨[aE 1 4,aE 3 3,aE 6 0,bh 59 11 (dNms s.types),ay 60 ((dNms s.types).length),ay 61 e],
  [bC s (.pt lc 0) (.loc 1 0) m,MT s aF lc n,[.v (.int .i64 f1),.v (.int .i64 f2)],[.v (.int .i64 0),.v (.int .i64 0)],eH s],[HC n base]⟩
theorem wV (s:Sch) (hs:s.wt<=1099511627776):Ev prog 11 [.agg (eH s)] [] [] (HG s):=by
 have hF:=kP.eq_1 s;have hw:=hs;simp only [Sch.wt] at hw;have hwl:=bu s.ae;have Yf:=jJ s.types;have N9:=Ez s.ae s.order (by omega) (by omega);have uo:=fun lc=>BQ s lc (by omega)
 have cw:∀ t,(t=s.root∨∃ x∈s.types,t=x.2)->t.wt<=1099511627776:=fun t ht=>by
  rcases ht with rfl | ⟨x,hx,rfl⟩
  ·omega
  ·have:=gI hx;omega
 have abx:=fun lc aF=>HB s lc aF 0 (by omega) (by omega) (by omega) cw;have aby:=fun (X:Lx) (hX:X.OK) (aF:List Nat) (hT:ij (tL s) aF) (kZ:aF.length<=1099511627776) (m:Int)=>Lz s X.pd (HA s aF (im X.af (cQ X.af X.aF) X.rows X.js)) m (by omega) 49 Wh (knT X (tL s)) (fun t ht=>wO hX s aF (.pt (im X.af (cQ X.af X.aF) X.rows X.js) 0) (.v (.slice none 0 0)) (.v (.int .i64 0)) (.v (.slice none 0 0)) m hT kZ t.wt t (aQ _) (cw t ht));have W0:(eK s).1=0->s.types.length<=64:=fun h=>by grind [eK]
 have hLx:=fun d h hd=>@SB s d h hd (by omega);have U3:=fun (lat:DV) (aF:List Nat) (a b c e0:DV) (m:Int)=>Hz s lat aF a b c e0 m;have Pt:=fun (lc:List DV) (aF:List Nat) (m:Int)=>EJ s lc aF m;have dE:=fun (X:Lx) (hX:X.OK) (aF:List Nat) (m:Int) (hT:ij (tL s) aF) (kZ:aF.length<=1099511627776) (t:Ty) (ht:t.wt<=1099511627776)=>zZ hX s aF m hT kZ t.wt t (aQ _) ht;refine eG 85 [.tmp 2,.cell 3 44] func11 rfl ntmps11 rfl fun _ _ _ _=>?_;generalize hS:s=S at *;obtain ⟨ae,order,types,⟨rh,rp⟩⟩:=s;subst hS;refine bS en45 rfl N9 ax (fun r hr=>?_);by_cases hL:(latF ae order).1≠0
 ·have hL':=hL;rw [ap (show (latF (Sch.mk ae order types (.mk rh rp)).ae (Sch.mk ae order types (.mk rh rp)).order).1≠0 from hL)] at hF;unfold Hs at hr;rw [ap (show (latF (Sch.mk ae order types (.mk rh rp)).ae (Sch.mk ae order types (.mk rh rp)).order).1≠0 from hL)] at hr;subst hr;refine br ?_ ?_<;>intro h
  ·refine dS ?_;exact ⟨_,ax,nH (os:=[]) (tk:=[]) hF hL⟩
  ·exfalso;simp at h;exact hL h
 unfold Hs at hr;rw [aj (show ¬ (latF (Sch.mk ae order types (.mk rh rp)).ae (Sch.mk ae order types (.mk rh rp)).order).1≠0 from hL)] at hF hr;obtain ⟨d,hd,rfl⟩:=hr;have hL0:(latF ae order).1=0:=sU hL;obtain ⟨aF,js,hX,rfl⟩:=hLx d hL0 hd;generalize W2:dB ⟨ae,order,types,.mk rh rp⟩ aF js=X at hX;refine br (fun h=>?_) (fun _=>?_)
 ·exfalso;simp at h;exact hL h
 refine CallG.abn 0 4 rfl rfl rfl rfl (CallG.abn 1 3 rfl rfl rfl rfl ?_);refine gY 2 0 en46 rfl rfl rfl fA fA (uo (im X.af (cQ X.af X.aF) X.rows X.js)) (fun r fX bX hΦ h1 h2=>?_);obtain ⟨rfl,La⟩:=hΦ;have h2:=List.eq_nil_of_length_eq_zero h2;subst h2;by_cases J8:(eK ⟨ae,order,types,.mk rh rp⟩).1≠0
 ·rw [ap J8] at hF
  obtain ⟨a,b,rfl⟩:∃ a b,fX=[a,b]:=by
   match fX,h1 with
   | [a,b],_=>exact ⟨a,b,rfl⟩
  refine br ?_ ?_<;>intro h
  ·refine dS ?_;exact ⟨_,ax,nH (os:=[]) (tk:=[]) hF J8⟩
  ·exfalso;simp at h;exact J8 h
 rw [aj J8] at hF;have abz:(eK ⟨ae,order,types,.mk rh rp⟩).1=0:=sU J8;have Pu:=W0 abz;obtain ⟨kQ,hT,kZ,rfl⟩:=La abz;refine br (fun h=>?_) (fun _=>?_)
 ·exfalso;simp at h;exact J8 h
 refine gY 2 0 Zc rfl rfl rfl fA fA (abx (im X.af (cQ X.af X.aF) X.rows X.js) kQ) (fun r fX bX hΦ h1 h2=>?_);obtain ⟨rfl,rfl⟩:=hΦ;have h2:=List.eq_nil_of_length_eq_zero h2;subst h2;by_cases hR:(eaR (.mk rh rp) types 0).1.1≠0
 ·rw [ap (show (eaR (Sch.mk ae order types (.mk rh rp)).root (Sch.mk ae order types (.mk rh rp)).types 0).1.1≠0 from hR)] at hF;refine br ?_ ?_<;>intro h
  ·refine dS ?_;exact ⟨_,ax,nH (os:=[]) (tk:=[]) hF hR⟩
  ·exfalso;simp at h;exact hR h
 rw [aj (show ¬ (eaR (Sch.mk ae order types (.mk rh rp)).root (Sch.mk ae order types (.mk rh rp)).types 0).1.1≠0 from hR)] at hF;have hR0:(eaR (.mk rh rp) types 0).1.1=0:=sU hR;refine br (fun h=>?_) (fun _=>?_)
 ·exfalso;simp at h;exact hR h
 have hea:=aby X hX kQ hT (by have:types.length<=64:=Pu;have:kQ.length<=types.length:=kZ;omega) (eaR (.mk rh rp) types 0).2;have W3:∀ t,knT X (tL ⟨ae,order,types,.mk rh rp⟩) t=lK ⟨ae,order,types,.mk rh rp⟩ t:=fun t=>by rw [<- W2];exact WY _ _ _ t
 have hfeq:eaL (knT X (tL ⟨ae,order,types,.mk rh rp⟩)) (knT X (tL ⟨ae,order,types,.mk rh rp⟩) (.mk rh rp)) types=eaL (lK ⟨ae,order,types,.mk rh rp⟩) (lK ⟨ae,order,types,.mk rh rp⟩ (.mk rh rp)) types:=by
  rw [show knT X (tL ⟨ae,order,types,.mk rh rp⟩)=lK ⟨ae,order,types,.mk rh rp⟩ from funext W3]
 refine J2 Zc hea ax rfl rfl ?_;by_cases hK:(eaL (lK ⟨ae,order,types,.mk rh rp⟩) (lK ⟨ae,order,types,.mk rh rp⟩ (.mk rh rp)) types).1≠0
 ·rw [ap (show (eaL (lK ⟨ae,order,types,.mk rh rp⟩) (lK ⟨ae,order,types,.mk rh rp⟩ (Sch.mk ae order types (.mk rh rp)).root) (Sch.mk ae order types (.mk rh rp)).types).1≠0 from hK)] at hF;refine br ?_ ?_<;>intro h
  ·refine dS ?_;refine ⟨.tup [.v (.pointer none),(eaL (knT X (tL ⟨ae,order,types,.mk rh rp⟩)) (knT X (tL ⟨ae,order,types,.mk rh rp⟩) (.mk rh rp)) types).d],ax,?_⟩;rw [hfeq];exact nH (os:=[]) (tk:=[]) hF hK
  ·grind
 rw [aj (show ¬ (eaL (lK ⟨ae,order,types,.mk rh rp⟩) (lK ⟨ae,order,types,.mk rh rp⟩ (Sch.mk ae order types (.mk rh rp)).root) (Sch.mk ae order types (.mk rh rp)).types).1≠0 from hK)] at hF;have hK0:(eaL (lK ⟨ae,order,types,.mk rh rp⟩) (lK ⟨ae,order,types,.mk rh rp⟩ (.mk rh rp)) types).1=0:=sU hK;refine br (fun h=>?_) (fun _=>?_)
 ·grind
 have hw2:wdsWt ae + prsWt order + nmsWt types + (Ty.mk rh rp).wt<=1099511627776:=hw;have hnmw:nmsWt types<=1099511627776:=by omega
 obtain ⟨Kb,iS⟩:=Pq hK0;have hkr':(knT X (tL ⟨ae,order,types,.mk rh rp⟩) (.mk rh rp)).1=0:=by rw [W3];exact Kb
 have abA:∀ x∈types,(knT X (tL ⟨ae,order,types,.mk rh rp⟩) x.2).1=0:=fun x hx=>by rw [W3];exact iS x hx
 have abB:∀ x∈types,uz ⟨ae,order,types,.mk rh rp⟩ x.2=true:=fun x hx=>BT (abA x hx);have SG:kQ.length<=1099511627776:=by have:types.length<=64:=Pu;have:kQ.length<=types.length:=kZ;omega
 refine J2 en50 (U3 X.pd kQ X.pd (.v (.slice none 0 0)) (.v (.int .i64 0)) (.v (.slice none 0 0)) (eaR (.mk rh rp) types 0).2 hT SG Pu abB) ax rfl rfl ?_;by_cases hO:(loopF ⟨ae,order,types,.mk rh rp⟩).1≠0
 ·refine br ?_ ?_<;>intro h
  ·refine dS ?_;exact ⟨_,ax,nH (os:=[]) (tk:=[]) hF hO⟩
  ·exfalso;simp at h;exact hO h
 have hO0:(loopF ⟨ae,order,types,.mk rh rp⟩).1=0:=sU hO;have U4:(kP ⟨ae,order,types,.mk rh rp⟩).1=0:=by rw [hF];exact hO0
 refine br (fun h=>?_) (fun _=>?_)
 ·exfalso;simp at h;exact hO h
 refine gY 2 0 en51 rfl rfl rfl fA fA (Pt (im X.af (cQ X.af X.aF) X.rows X.js) kQ (eaR (.mk rh rp) types 0).2 hT SG Pu abB hnmw (EM hO0)) (fun r fX bX hΦ h1 h2=>?_);subst hΦ;have h2:=List.eq_nil_of_length_eq_zero h2;subst h2;clear uo abx aby U3 Pt hea N9;have hN:(dNms types).length=types.length:=dM types;obtain ⟨HI,D0,hcm,abC⟩:=Pr (Int.le_refl 0) hR0;generalize (eaR (.mk rh rp) types 0).2=m at hcm abC ⊢
 refine aV (fun j st=>∃ (e n:Nat) (base:List DV) (N:List Nd),st=Ps ⟨ae,order,types,.mk rh rp⟩ kQ (im X.af (cQ X.af X.aF) X.rows X.js) m (loopF ⟨ae,order,types,.mk rh rp⟩).1 (loopF ⟨ae,order,types,.mk rh rp⟩).2 n base e/\e<=types.length/\n=N.length/\base=(dq N).flatten/\N ++ ndsAll (iM ⟨ae,order,types,.mk rh rp⟩) ⟨ae,order,types,.mk rh rp⟩ (types.drop e) n=qP ⟨ae,order,types,.mk rh rp⟩/\j=types.length - e) types.length
  (Ps ⟨ae,order,types,.mk rh rp⟩ kQ (im X.af (cQ X.af X.aF) X.rows X.js) m (loopF ⟨ae,order,types,.mk rh rp⟩).1 (loopF ⟨ae,order,types,.mk rh rp⟩).2 0 [] 0) (dx 5 ⟨0,91,7,some []⟩ rfl rfl rfl pP rfl rfl kj) ⟨0,0,[],[],rfl,by omega,rfl,rfl,rfl,by omega⟩ ?_
 rintro j st ⟨e,n,base,N,rfl,he,hn,VL,hNN,rfl⟩;have hl64':types.length<=64:=Pu;have HJ:X.lev=iM ⟨ae,order,types,.mk rh rp⟩:=by rw [<- W2];all_goals rfl
 have htot:(qP ⟨ae,order,types,.mk rh rp⟩).length + (Ty.mk rh rp).nn<=512:=by
  have h1:=wU types;have h2:=(Ty.mk rh rp).gy;have h3:(qP ⟨ae,order,types,.mk rh rp⟩).length=(types.map fun x=>x.2.nn).sum:=wT _ _ _ _;omega
 have hbl:base.length=n * 7:=by rw [VL,hn,Ab]
 have hNl:n + (ndsAll (iM ⟨ae,order,types,.mk rh rp⟩) ⟨ae,order,types,.mk rh rp⟩ (types.drop e) n).length=(qP ⟨ae,order,types,.mk rh rp⟩).length:=by rw [<- hNN,List.length_append,hn]
 refine br ?_ ?_<;>intro hL
 ·have au:e < types.length:=by have:=hL;simp [hN] at this;exact this
  obtain ⟨x,hx⟩:=gX au;have Yh:=mG hx;rw [drop_cons hx,ndsAll] at hNN hNl;rw [List.length_append] at hNl;have hZ:=kb (iM ⟨ae,order,types,.mk rh rp⟩) ⟨ae,order,types,.mk rh rp⟩ x.2 n;have Hy:=dE X hX kQ m hT SG x.2 (cw x.2 (.inr ⟨x,Yh,rfl⟩)) (abA x Yh) n base (by omega) hbl;rw [HJ] at Hy;obtain ⟨xw,⟨xh,xp⟩⟩:=x;refine iX (dNms_get hx) ?_;refine gY 2 1 RV rfl rfl rfl fA fA Hy (fun r fX bX hΦ h1 h2=>?_);obtain ⟨rfl,rfl,rfl⟩:=hΦ;refine ⟨Ps ⟨ae,order,types,.mk rh rp⟩ kQ (im X.af (cQ X.af X.aF) X.rows X.js) m (loopF ⟨ae,order,types,.mk rh rp⟩).1 (loopF ⟨ae,order,types,.mk rh rp⟩).2 (n + (ndsT (iM ⟨ae,order,types,.mk rh rp⟩) ⟨ae,order,types,.mk rh rp⟩ (.mk xh xp) n).length) (base ++ (dq (ndsT (iM ⟨ae,order,types,.mk rh rp⟩) ⟨ae,order,types,.mk rh rp⟩ (.mk xh xp) n)).flatten) (e + 1),(dj 5 (kH (aN au (by omega))) (cY (aN au (by omega)))),types.length - (e + 1),by omega,e + 1,_,_,N ++ ndsT (iM ⟨ae,order,types,.mk rh rp⟩) ⟨ae,order,types,.mk rh rp⟩ (.mk xh xp) n,rfl,by omega,by rw [List.length_append,hn],by rw [VL];simp [dq],?_,rfl⟩;rw [List.append_assoc,hZ];exact hNN
 have hge:e=types.length:=sW hN hL;subst hge;rw [List.drop_length,ndsAll,List.append_nil] at hNN;rw [List.drop_length,ndsAll,List.length_nil,Nat.add_zero] at hNl;have hnr:=dE X hX kQ m hT SG (.mk rh rp) (by omega) hkr' n base (by omega) hbl;rw [HJ] at hnr;intro E a w hr;have mX:=kW hr;obtain ⟨b0,ty0,KU,gM,hw0,Dm⟩:=mX.env.bxs 0 _ rfl;obtain ⟨b1,ty1,arr1,iD,hw1,Nu⟩:=mX.env.bxs 1 _ rfl;obtain ⟨v13,hv13,hp13⟩:=RvL.get (i:=13) (d:=.loc 1 0) Dm.1 rfl;have abE:v13 = .pointer (some ⟨b1,0,none⟩):=by grind [Rv]
 subst abE
 have ko:w.drew.cell? ⟨b0,13,none⟩=some (.pointer (some ⟨b1,0,none⟩)):=by
  rw [cm hw0];simpa using hv13
 have V6:=Sv mX.env [0,1,2,3];generalize zo:maskL [0,1,2,3] 0 _=bxm at V6;have hbmi:∀ (i:Nat) cs,bxm[i]? = some cs->cs ≠ []->2<=i:=fun i cs hi bf=>by grind [maskL]
 refine iU (C:=fun w'=>CC E bxm w.drew w' /\ w'.cell? ⟨b0,13,none⟩=some (.pointer (some ⟨b1,0,none⟩))) (W:=fun i=>Nat.beq i 10) (Q:=fun a w=>kq _ _ .normal a w) mo (by decide +kernel) (fun _ _ h=>h) ⟨⟨fun _ _ _ _ _ _=>rfl,mX.env.sub⟩,ko⟩ ?_;show Go.Proofs.YtgjagnmeonoehaaGreat.Dv.runT _ _ _ _ _ [0,1,2,3,4,5,6,7,8,9,10] _ _;refine eL mX rfl rfl rfl rfl rfl rfl (fun a0 h0=>?_);refine eL h0 rfl rfl rfl rfl rfl rfl (fun a1 h1=>?_);refine eL h1 rfl rfl rfl rfl rfl rfl (fun a2 h2=>?_);refine Sx h2 rfl iD rfl rfl gM rfl rfl (fun w' h=>h.2) ⟨⟨fun _ _ _ _ _ _=>rfl,mX.env.sub⟩,ko⟩ rfl rfl (fun a3 h3=>?_);refine eL h3 rfl rfl rfl rfl rfl rfl (fun a4 h4=>?_);refine eL h4 rfl rfl rfl rfl rfl rfl (fun a5 h5=>?_);refine Sw h5 rfl (bx:=bxm) (Su h5 V6 (fun w' h=>h.1)) ⟨⟨fun _ _ _ _ _ _=>rfl,mX.env.sub⟩,ko⟩ rfl rfl (by rw [<- zo];rfl) rfl (fun a6 h6=>?_);refine Sy h6 rfl rfl rfl rfl rfl rfl RV 2 1 rfl rfl fA fA hnr rfl rfl ?_;intro v r fX bX E' w' hΦ _ _ cf Bn hx hβ hh;obtain ⟨rfl,rfl,rfl⟩:=hΦ;refine ⟨fun _ hC=>⟨⟨fun i b cs hb hcs bf=>?_,fun x v hxv=>cf.env.sub x v (hx.c x v hxv)⟩,?_⟩,?_⟩
 ·exact hh i b (hbmi i cs hcs bf) hb
 ·obtain ⟨b0',ty0',arr0',W4,hw0',hc0'⟩:=cf.env.bxs 0 _ rfl;rw [hβ,gM] at W4;simp only [oI] at W4;subst W4;obtain ⟨u13,hu13,abF⟩:=RvL.get (i:=13) (d:=.loc 1 0) hc0'.1 rfl;unfold Rv at abF;obtain ⟨b,hb,rfl⟩:=abF;rw [hβ,iD] at hb;simp only [oI] at hb;subst hb;rw [cm hw0'];simpa using hu13
 have h7:=aX (dst:=some 77) cf rfl _ v Bn;have hrN:(qP ⟨ae,order,types,.mk rh rp⟩).length=n:=by rw [<- hNN,hn]
 have oY:base ++ (dq (ndsT (iM ⟨ae,order,types,.mk rh rp⟩) ⟨ae,order,types,.mk rh rp⟩ (.mk rh rp) n)).flatten=(dq (aS ⟨ae,order,types,.mk rh rp⟩)).flatten:=by grind [aS,dq]
 have abG:(dq (aS ⟨ae,order,types,.mk rh rp⟩)).length=n + (ndsT (iM ⟨ae,order,types,.mk rh rp⟩) ⟨ae,order,types,.mk rh rp⟩ (.mk rh rp) n).length:=by
  unfold aS;rw [hrN];simp [dq,hrN]
 obtain ⟨E3,h8⟩:=Sz h7 1 1 0 (ns:=dq (aS ⟨ae,order,types,.mk rh rp⟩)) (congrArg (fun b=>some (HC (n + (ndsT (iM ⟨ae,order,types,.mk rh rp⟩) ⟨ae,order,types,.mk rh rp⟩ (.mk rh rp) n).length) b)) oY) (fun x hx=>by
  simp only [dq,List.mem_map] at hx;obtain ⟨y,_,rfl⟩:=hx
  rfl) abG rfl rfl List.length_replicate
 refine eL h8 rfl rfl rfl rfl rfl rfl (fun a8 h9=>?_);refine eL h9 rfl rfl rfl rfl rfl rfl (fun a9 td=>?_);refine LG td rfl rfl rfl rfl rfl rfl ?_;refine ⟨.tup [.pt [X.pd,.sl 7 (dq (aS ⟨ae,order,types,.mk rh rp⟩)) none,.v (.int .i64 (nG ⟨ae,order,types,.mk rh rp⟩ (.mk rh rp) n)),.pt (cQ (tL ⟨ae,order,types,.mk rh rp⟩) kQ) 0,.sl 1 (dInts (namedL ⟨ae,order,types,.mk rh rp⟩)) none] 0,Ft.d (0,0)],ax,SD (os:=[]) (tk:=[]) U4 ⟨aF,kQ,js,by rw [W2];exact hX,hT,kZ,?_⟩⟩;rw [U2,W2,cr,hrN]
theorem SI (es:List (List DV)) (hl:es.length<=1099511627776):Ev prog 95 [.sl 1 es none] [] [] (fun r _ _=>r = .sl 1 es none∨(es=[]/\r = .v (.slice none 0 0))):=by
 refine eG 8 [.tmp 2] func95 rfl ntmps95 rfl fun _ _ _ _=>?_;refine Pn ⟨_,rfl⟩ rfl rfl rfl rfl (fun b hb=>?_);refine br ?_ ?_<;>intro h
 ·have h:b=true:=h;have he:es=[]:=Classical.byContradiction fun hn=>by rw [hb hn] at h;cases h
  subst he;exact Or.inr ⟨rfl,rfl⟩
 ·refine EL rfl rfl rfl rfl (hk:=?_);refine ⟨rfl,⟨by simp [maxLen];omega,by simp;omega⟩,?_⟩;exact ⟨_,ax,Or.inl rfl⟩
theorem SJ (es:List (List DV)) (hl:es.length<=1099511627776):Ev prog 96 [.sl 10 es none] [] [] (fun r _ _=>r = .sl 10 es none∨(es=[]/\r = .v (.slice none 0 0))):=by
 refine eG 8 [.tmp 2] func96 rfl ntmps96 rfl fun _ _ _ _=>?_;refine Pn ⟨_,rfl⟩ rfl rfl rfl rfl (fun b hb=>?_);refine br ?_ ?_<;>intro h
 ·have h:b=true:=h;have he:es=[]:=Classical.byContradiction fun hn=>by rw [hb hn] at h;cases h
  subst he;exact Or.inr ⟨rfl,rfl⟩
 ·refine EL rfl rfl rfl rfl (hk:=?_);refine ⟨rfl,⟨by simp [maxLen];omega,by simp;omega⟩,?_⟩;exact ⟨_,ax,Or.inl rfl⟩
def plD (lc:List DV) (BS:List Nd) (root:Int) (L:List ByteArray) (aF:List Nat) (named:List Nat):DV:=.pt [.pt lc 0,.sl 7 (dq BS) none,.v (.int .i64 root),.pt (cQ L aF) 0,.sl 1 (dInts named) none] 0
theorem nI (l:List Nd):(dq l).length=l.length:=by simp [dq]
theorem nJ {l:List Nd} {i:Nat} {n:Nd} (h:l[i]? = some n):(dq l)[i]? = some (kO n):=by simp [dq,h]
section
variable (lc:List DV) (BS:List Nd) (root:Int) (L:List ByteArray) (aF:List Nat) (named:List Nat)
theorem su:EvP prog 94 [plD lc BS root L aF named] (.v (.int .i64 BS.length)):=by
 refine eG 10 [.tmp 2] func94 rfl ntmps94 rfl fun _ _ _ _=>?_;refine (Be ?_:);rw [nI]
theorem HK:EvP prog 37 [plD lc BS root L aF named] (.v (.int .i64 root)):=by
 refine eG 9 [.tmp 2] func37 rfl ntmps37 rfl fun _ _ _ _=>?_;exact (rfl:_=_)
theorem LI:EvP prog 72 [plD lc BS root L aF named] (.pt lc 0):=by
 refine eG 9 [.tmp 2] func72 rfl ntmps72 rfl fun _ _ _ _=>?_;exact ⟨_,ax,rfl⟩
theorem HL (i:Nat) (n:Nd) (h:BS[i]? = some n) (hn:n.af.length<=1099511627776) (he:n.aw.length<=1099511627776) :
  EvP prog 36 [plD lc BS root L aF named,.v (.int .i64 i)] (.tup [.agg (kO n),.v (.bool true)]):=by
 have au:=(gS h).1;have hlen:=su lc BS root L aF named;have Nu:=SI (eV n.af) (by rw [cg];exact hn);have nZ:=SJ (fN n.aw) (by rw [cF];exact he);refine eG 32 [.cell 4 91,.tmp 5] func36 rfl ntmps36 rfl fun _ _ _ _=>?_;refine cP Zl hlen ?_;refine br ?_ ?_<;>intro g
 ·exfalso;simp [pickB] at g;omega
 refine iX (nJ h) ?_;refine dS ?_;refine qp en95 rfl Nu ax (fun r1 hr1=>?_);rcases hr1 with rfl | ⟨h1,rfl⟩
 ·refine qp Zm rfl nZ ax (fun r2 hr2=>?_);rcases hr2 with rfl | ⟨h2,rfl⟩
  ·exact ⟨.tup [.agg (kO n),.v (.bool true)],ax,rfl⟩
  ·exact ⟨.tup [.agg (kO n),.v (.bool true)],(by repeat' (first | exact rfl | exact trivial | exact Or.inr (Or.inl ⟨_,rfl⟩) | exact Or.inr ⟨_,rfl⟩ | exact Or.inl ⟨rfl,rfl⟩ | exact Or.inl rfl | refine Or.inr ⟨_,_,rfl,Nat.zero_le _,rfl,?_⟩ | refine ⟨_,_,rfl,?_,?_⟩ | refine ⟨_,rfl,?_⟩ | exact Or.inl ⟨h2,rfl⟩ | refine Or.inr (Or.inr (Or.inr ⟨_,_,rfl,?_⟩)) | exact Or.inl rfl | refine Or.inr ?_)),rfl⟩
 ·refine qp Zm rfl nZ ax (fun r2 hr2=>?_);rcases hr2 with rfl | ⟨h2,rfl⟩
  ·exact ⟨.tup [.agg (kO n),.v (.bool true)],(by repeat' (first | exact rfl | exact trivial | exact Or.inr (Or.inl ⟨_,rfl⟩) | exact Or.inr ⟨_,rfl⟩ | exact Or.inl ⟨rfl,rfl⟩ | exact Or.inl rfl | refine Or.inr ⟨_,_,rfl,Nat.zero_le _,rfl,?_⟩ | refine ⟨_,_,rfl,?_,?_⟩ | refine ⟨_,rfl,?_⟩ | exact Or.inl ⟨h1,rfl⟩ | refine Or.inr (Or.inr (Or.inr ⟨_,_,rfl,?_⟩)) | exact Or.inl rfl | refine Or.inr ?_)),rfl⟩
  ·exact ⟨.tup [.agg (kO n),.v (.bool true)],(by repeat' (first | exact rfl | exact trivial | exact Or.inr (Or.inl ⟨_,rfl⟩) | exact Or.inr ⟨_,rfl⟩ | exact Or.inl ⟨rfl,rfl⟩ | exact Or.inl rfl | refine Or.inr ⟨_,_,rfl,Nat.zero_le _,rfl,?_⟩ | refine ⟨_,_,rfl,?_,?_⟩ | refine ⟨_,rfl,?_⟩ | exact Or.inl ⟨h1,rfl⟩ | exact Or.inl ⟨h2,rfl⟩ | refine Or.inr (Or.inr (Or.inr ⟨_,_,rfl,?_⟩)) | exact Or.inl rfl | refine Or.inr ?_)),rfl⟩
theorem HM (i:Int) (h:i < 0∨BS.length<=i) :
  EvP prog 36 [plD lc BS root L aF named,.v (.int .i64 i)] (.tup [.agg [.v (.int .i64 0),.v (.int .i64 0),.v (.int .i64 0),.v (.int .i64 0),.v (.int .i64 0),.v (.slice none 0 0),.v (.slice none 0 0)],.v (.bool false)]):=by
 have hlen:=su lc BS root L aF named;refine eG 32 [.cell 4 91,.tmp 5] func36 rfl ntmps36 rfl fun _ _ _ _=>?_;refine br ?_ ?_<;>intro g
 ·refine cP Zl hlen ?_;refine br ?_ ?_<;>intro g2
  ·exact ⟨_,ax,rfl⟩
  ·exfalso;simp at g;simp [pickB,g] at g2;omega
 ·exact ⟨_,ax,rfl⟩
end
abbrev uU (s:Sch) (n d k q:Int) (e:Nat):St:=
 ⟨[aE 1 0,ay 3 n,ay 4 d,ay 5 e],[eH s],[]⟩
theorem BU (s:Sch) (cw:s.wt<=1099511627776):Ev prog 43 [.agg (eH s)] [] [] (fun d _ _=>∃ b:Bool,d = .v (.bool b)):=by
 have h1:=bu s.ae;have h2:=iI s.order;have h3:=jJ s.types;simp only [Sch.wt] at cw;have cW:=ku s.root.wt s.root (aQ _) (by omega);obtain ⟨ae,order,types,⟨h,ps⟩⟩:=s;simp only at h1 h2 h3 cw cW;refine eG 60 [.tmp 2] func43 rfl ntmps43 rfl fun _ _ _ _=>?_;refine br ?_ ?_<;>intro _
 ·exact ⟨true,rfl⟩
 refine cP Jy cW ?_;refine aV (fun j st=>∃ (e:Nat) (n d:Int),st=uU ⟨ae,order,types,.mk h ps⟩ n d 0 0 e/\e<=types.length/\j=types.length - e) types.length (uU ⟨ae,order,types,.mk h ps⟩ (Ty.mk h ps).cnt (Ty.mk h ps).deep 0 0 0) (bp wB) ⟨0,_,_,rfl,by omega,by omega⟩ ?_;rintro j st ⟨e,n,d,rfl,he,rfl⟩;refine br ?_ ?_<;>intro hL
 ·have au:e < types.length:=by have:=hL;simp [dM] at this;exact this
  obtain ⟨w,hw⟩:=gX au;have D0:=gI (mG hw);have hs:=ku w.2.wt w.2 (aQ _) (by omega);obtain ⟨w,u,us⟩:=w;simp only at hs;refine iX (dNms_get hw) ?_;refine cP Jy hs ?_;refine br ?_ ?_<;>intro _
  ·exact ⟨uU ⟨ae,order,types,.mk h ps⟩ _ _ 0 0 (e + 1),(bp (cY (aN au (by omega)))),types.length - (e + 1),by omega,e + 1,_,_,rfl,by omega,rfl⟩
  ·exact ⟨uU ⟨ae,order,types,.mk h ps⟩ _ _ 0 0 (e + 1),(bp (cY (aN au (by omega)))),types.length - (e + 1),by omega,e + 1,_,_,rfl,by omega,rfl⟩
 exact ⟨_,rfl⟩
def samePrs:List (Wd × Wd)->List (Wd × Wd)->Bool
 | [],[]=>true
 | x :: r,y :: s=>(decide (x.1.s=y.1.s) && decide (x.2.s=y.2.s)) && samePrs r s
 | _,_=>false
def sameNms:List (Wd × Ty)->List (Wd × Ty)->Bool
 | [],[]=>true
 | x :: r,y :: s=>(decide (x.1.s=y.1.s) && sameTy x.2 y.2) && sameNms r s
 | _,_=>false
def Ju (a b:Sch):Bool:=sameWds a.ae b.ae && samePrs a.order b.order && sameTy a.root b.root && sameNms a.types b.types
def cB (r:List Bool):List DV:=r.map fun b=>DV.v (.bool b)
def wW (r:List Bool):List (List DV):=r.map fun b=>[DV.v (.bool b)]
def dr (m:List (List Bool)):List (List DV):=m.map fun r=>[DV.sl 1 (wW r) none]
theorem sw (r:List Bool):(cB r).length=r.length:=by simp [cB]
theorem uV (r:List Bool):(wW r).length=r.length:=by simp [wW]
theorem wX (m:List (List Bool)):(dr m).length=m.length:=by simp [dr]
theorem Pv {r:List Bool} {i:Nat} {b:Bool} (h:r[i]? = some b):(cB r)[i]? = some (DV.v (.bool b)):=by simp [cB,h]
theorem BV (r:List Bool) (i:Nat) (b:Bool):(cB r).set i (DV.v (.bool b))=cB (r.set i b):=by simp [cB,List.map_set]
theorem Kc {r:List Bool} {i:Nat} {b:Bool} (h:r[i]? = some b):(wW r)[i]? = some [DV.v (.bool b)]:=by simp [wW,h]
theorem Pw {m:List (List Bool)} {i:Nat} {r:List Bool} (h:m[i]? = some r):(dr m)[i]? = some [DV.sl 1 (wW r) none]:=by simp [dr,h]
theorem qQ (r:List Bool):(wW r).flatten=cB r:=by
 induction r with
 | nil=>rfl
 | cons b r ih=>simp only [wW,cB,List.map_cons,List.flatten_cons] at ih ⊢;rw [ih];all_goals rfl
theorem LJ (n:Nat):(List.replicate n (vL [Value.bool false])).flatten=cB (List.replicate n false):=by
 induction n with
 | zero=>rfl
 | succ n ih=>simp only [List.replicate_succ,List.flatten_cons,ih];rfl
theorem cu {n m:Nat} {tk:List TkE} {l:List DV} {r:List Bool} (h:l=cB r):WeL n m tk l (cB r):=by
 subst h;refine wh _ fun x hx=>?_;obtain ⟨z,_,rfl⟩:=List.mem_map.1 hx;exact ⟨_,rfl⟩
theorem U5 {bx:List (List DV)} {N n0 m0 n:Nat} {r:List Bool} (hr:r.length=n) (hN:N<=0) (hb:bx[0]? = some (cB r)):Cc bx N n0 m0 (.sl 1 (wW r) none) (.ms 0 1 0 n n):=by
 simp only [Cc];refine Or.inr (Or.inr (Or.inl ⟨0,0,n,_,by rw [uV,hr],hN,hb,?_,?_,?_⟩))
 ·grind [qQ,sw,uV]
 ·grind [wW]
 ·intro x hx;rw [qQ] at hx;obtain ⟨_,_,rfl⟩:=List.mem_map.1 hx;exact .inl ⟨_,rfl⟩
def fO (n:Nat) (l:List (Nat × Nat)):List (List Bool):=(List.range n).map (uw n l)
theorem HN (n:Nat) (l:List (Nat × Nat)):(fO n l).length=n:=by simp [fO]
theorem HO {n a:Nat} (l:List (Nat × Nat)) (h:a < n):(fO n l)[a]? = some (uw n l a):=by simp [fO,List.getElem?_range h]
theorem LK {n:Nat} {l:List (Nat × Nat)} (h:r7 n l):fO n l=dW n (eQ n l):=by
 unfold fO dW;exact List.map_congr_left fun a ha=>Sf h (List.mem_range.1 ha)
def jt (l:List (Nat × Nat)) (r:List Bool) (e:Nat):List Bool:=(l.take e).foldl gW r
theorem HP (l:List (Nat × Nat)) (r:List Bool) (e:Nat):(jt l r e).length=r.length:=ph (l.take e) r
theorem EO {l:List (Nat × Nat)} {r:List Bool} {e:Nat} {p:Nat × Nat} (h:l[e]? = some p):jt l r (e + 1)=gW (jt l r e) p:=by
 unfold jt;rw [List.take_add_one,h];simp
abbrev ldSt (n:Nat) (l:List (Nat × Nat)) (q e:Nat):St:=
 ⟨[ay 0 n,bh 1 2 (mb l),(5,⟨[],.sl 1 (dr ((fO n l).take e)) (some 0)⟩),ay 6 e],[],[⟨q,186,1,none⟩]⟩
abbrev abI (n:Nat) (l:List (Nat × Nat)) (q e:Nat) (r:List Bool) (k:Nat):St:=
 ⟨[ay 0 n,bh 1 2 (mb l),(5,⟨[],.sl 1 (dr ((fO n l).take e)) (some 0)⟩),ay 6 e,(7,⟨[],.ms 0 1 0 n n⟩),ay 8 k],[cB r],[⟨q,186,1,none⟩]⟩
abbrev abJ (n:Nat) (l:List (Nat × Nat)) (q e:Nat) (r:List Bool) (k i:Nat):St:=
 ⟨[ay 0 n,bh 1 2 (mb l),(5,⟨[],.sl 1 (dr ((fO n l).take e)) (some 0)⟩),ay 6 e,(7,⟨[],.ms 0 1 0 n n⟩),ay 8 k,ay 9 i],[cB r],[⟨q,186,1,none⟩]⟩
abbrev abK (n:Nat) (l:List (Nat × Nat)) (q e:Nat) (r:List Bool):St:=
 ⟨[ay 0 n,bh 1 2 (mb l),ay 6 e,(46,⟨[],.sl 1 (dr ((fO n l).take e)) (some 0)⟩),bh 47 1 (wW r)],[],[⟨q,186,1,none⟩]⟩
theorem HQ (n:Nat) (hn:n<=64) (l:List (Nat × Nat)) (hP:r7 n l) (hb:l.length<=1099511627776) :
  EvP prog 120 [.v (.int .i64 n),.sl 2 (mb l) none] (.sl 1 (dr (fO n l)) none):=by
 have hNl:=gU l;have hML:=HN n l;refine eG 51 [.tmp 4] func120 rfl ntmps120 rfl fun _ _ _ _=>?_;refine lJ (fun e=>ldSt n l e e) n (fU ⟨0,186,1,none⟩ rfl ⟨_,rfl⟩ rfl wA rfl rfl kj) ?_;intro e he;refine br ?_ ?_<;>intro hL
 ·have au:e < n:=by have:=hL;simp at this;exact this
  have hr0l:((List.replicate n false).set e true).length=n:=by simp
  refine ⟨⟨rfl,by omega,by omega,by omega⟩,?_⟩;refine ⟨⟨by omega,by omega⟩,?_⟩;refine ⟨by rw [LJ,sw,List.length_replicate];omega,?_⟩
  have gM:((List.replicate (n:Int).toNat (vL [Value.bool false])).flatten).set (0 + (e:Int).toNat * 1) (DV.v (.bool true))=cB (cR l ((List.replicate n false).set e true) 0):=by
   rw [LJ,show 0 + (e:Int).toNat * 1=e by omega,show (n:Int).toNat=n by omega,BV];rfl
  refine lJ (fun k=>abI n l e e (cR l ((List.replicate n false).set e true) k) k) n (dj 1 (kH gM) (cY gM)) ?_;intro k hk;have eM:=fw l ((List.replicate n false).set e true) k;have yt:=eJ l ((List.replicate n false).set e true) k;refine br ?_ ?_<;>intro oQ
  ·have iS:k < n:=by have:=oQ;simp at this;exact this
   generalize cR l ((List.replicate n false).set e true) k=r at eM yt ⊢;rw [hr0l] at eM;refine lJ (fun i=>abJ n l e e (jt l r i) k i) l.length (dj 1 pP kj) ?_;intro i hi;have mW:=HP l r i;refine br ?_ ?_<;>intro hL3
   ·have hit:i < l.length:=by have:=hL3;simp [hNl] at this;exact this
    obtain ⟨p,hp⟩:∃ p,l[i]? = some p:=⟨_,gE hit⟩;obtain ⟨RO,V8⟩:=hP p (mG hp);have Yi:=EO (r:=r) hp;obtain ⟨b,iD⟩:∃ b,(jt l r i)[p.1]? = some b:=⟨_,gE (by omega)⟩;have MK:(jt l r i).getD p.1 false=b:=by simp [eN,iD]
    rw [gW,MK] at Yi;refine iX (wb hp) ?_;refine ⟨⟨by decide,by decide⟩,?_⟩;refine ⟨⟨by omega,by omega⟩,?_⟩;refine ⟨_,(show (cB (jt l r i))[0 + (p.1:Int).toNat * 1]? = some (.v (.bool b)) by rw [show 0 + (p.1:Int).toNat * 1=p.1 by omega];exact Pv iD),?_⟩;refine br ?_ ?_<;>intro g
    ·have g:b=true:=g;rw [ap g] at Yi;refine iX (wb hp) ?_;refine ⟨⟨by decide,by decide⟩,?_⟩;refine ⟨⟨by omega,by omega⟩,?_⟩;refine ⟨by rw [sw];omega,?_⟩;have gF:(cB (jt l r i)).set (0 + (p.2:Int).toNat * 1) (DV.v (.bool true))=cB (jt l r (i + 1)):=by grind [BV]
     exact rE ⟨_,by omega,i + 1,rfl,by omega,rfl⟩ (dj 1 (yy gF (aN hit (by omega))) (iT gF (aN hit (by omega))))
    ·have g:¬ b=true:=by rw [show b=false from g];decide
     rw [aj g] at Yi;exact rE ⟨_,by omega,i + 1,rfl,by omega,rfl⟩ (dj 1 (by repeat' (first | exact rfl | exact az rfl | exact cu (by rw [Yi]) | exact aD (aN hit (by omega)) | refine ⟨_,_,rfl,?_,?_⟩)) (by repeat' (first | exact trivial | exact az rfl | exact cu (by rw [Yi]) | exact aD (aN hit (by omega)) | refine ⟨⟨_,rfl,?_⟩,?_⟩)))
   ·have hge:i=l.length:=sW hNl hL3;subst hge;have LL:jt l r l.length=cR l ((List.replicate n false).set e true) (k + 1):=by rw [yt,jt,List.take_length];all_goals rfl
    exact rE ⟨_,by omega,k + 1,rfl,by omega,rfl⟩ (dj 1 (by repeat' (first | exact rfl | exact az rfl | exact cu (by rw [LL]) | exact aD (aN iS (by omega)) | refine ⟨_,_,rfl,?_,?_⟩)) (by repeat' (first | exact trivial | exact az rfl | exact cu (by rw [LL]) | exact aD (aN iS (by omega)) | refine ⟨⟨_,rfl,?_⟩,?_⟩)))
  ·have hge:k=n:=by have:=oQ;simp at this;omega
   subst hge;have oY:cR l ((List.replicate k false).set e true) k=uw k l e:=rfl;rw [oY];have hrw:=qE k l e;refine KO.wk (.Jv (st':=abK k l e e (uw k l e)) 0 rfl rfl rfl rfl ?_) rfl rfl ?_
   ·refine ⟨⟨_,rfl,?_⟩,⟨_,rfl,?_⟩,⟨_,rfl,?_⟩,⟨_,rfl,?_⟩,⟨_,rfl,U5 hrw (by omega) rfl⟩,trivial⟩
    ·simp only [Cc]
    ·grind [Cc]
    ·simp only [Cc]
    ·grind [Cc]
   ·have fg:(dr ((fO k l).take e)).length=e:=by rw [wX,zLenT,hML];omega
    have ek:dr ((fO k l).take e) ++ [[DV.sl 1 (wW (uw k l e)) none]]=dr ((fO k l).take (e + 1)):=by rw [List.take_add_one,HO l au];simp [dr]
    refine ⟨fg,⟨by rw [fg];simp [maxLen];omega,by rw [fg];simp;omega⟩,?_⟩;exact rE ⟨_,by omega,e + 1,rfl,by omega,rfl⟩ (bp (iT (aN au (by omega)) ek))
 ·have hge:e=n:=by have:=hL;simp at this;omega
  subst hge;have ht:(fO e l).take e=fO e l:=by rw [List.take_of_length_le (by rw [hML];omega)]
  rw [ht];exact ⟨_,ax,rfl⟩
theorem cq {n m:Nat} {bX:List TkE} {x y:Bool} (h:x=y):We n m bX (.v (.bool x)) (.v (.bool y)):=.inl ⟨by rw [h],rfl⟩
theorem ke {l:List Wd} {j:Nat} {w:Wd} (h:l[j]? = some w):(aA l)[j]? = some w.s:=by simp [aA,h]
theorem Kd {L:List ByteArray} {s:ByteArray} (h:∀ j,j < L.length->L[j]? ≠ some s):cV L s=none:=r9 fun j hj=>by grind
abbrev U6 (l:List Wd) (s:ByteArray) (e:Nat):St:=
 ⟨[bh 0 2 (bG l),(1,⟨[],.v (.string s)⟩),ay 5 e],[],[]⟩
theorem fy (l:List Wd) (s:ByteArray) (hs:wdsWt l<=1099511627776) :
  EvP prog 205 [.sl 2 (bG l) none,.v (.string s)] (.v (.int .i64 (oz (cV (aA l) s)))):=by
 have mW:=bu l;have hZ:=dD l;refine eG 20 [.tmp 4] func205 rfl ntmps205 rfl fun _ _ _ _=>?_;refine lI (fun j st=>∃ e:Nat,st=U6 l s e/\e<=l.length/\(∀ j,j < e->(aA l)[j]? ≠ some s)/\j=l.length - e) ⟨0,rfl,by omega,fun _ h=>by omega,rfl⟩ (bp wB) ?_;rintro j st ⟨e,rfl,he,gO,rfl⟩;refine br ?_ ?_<;>intro hL
 ·have au:e < l.length:=by simpa [aC] using hL
  obtain ⟨w,hw⟩:=gX au;refine ⟨j2 w,⟨by omega,aT hw⟩,?_⟩;refine br ?_ ?_<;>intro hq
  ·have hq:w.s=s:=sU hq;rw [BJ (p:=e) (by rw [ke hw,hq]) (fun j hj=>Nat.le_of_not_lt fun hl=>gO j hl hj)];exact (rfl:_=_)
  ·have hq:¬ w.s=s:=sU hq;refine ⟨U6 l s (e + 1),(bp (cY (aN au (by omega)))),l.length - (e + 1),by omega,e + 1,rfl,by omega,fun j hj=>?_,rfl⟩;rcases kE hj with hj | rfl
   ·exact gO j hj
   ·rw [ke hw];simpa using hq
 ·have hge:e=l.length:=by have:=hL;simp [aC] at this;omega
  rw [Kd (fun j hj=>gO j (by omega))];exact (rfl:_=_)
theorem fQ {o:Option Nat}:decide (oz o < 0)=true↔o=none:=by
 cases o with
 | none=>simp [oz]
 | some k=>grind [oz]
theorem EP {L:List ByteArray}:∀ {o:List (Wd × Wd)},(numF L o).1=0->∀ x∈o,(∃ a,cV L x.1.s=some a)/\∃ b,cV L x.2.s=some b
 | [],_,x,hx=>by cases hx
 | p :: r,h,x,hx=>by
  rw [numF] at h;split at h
  ·exact absurd h (by simp)
  rename_i h1;split at h
  ·exact absurd h (by simp)
  rename_i h2;rcases cO hx with rfl | hx
  ·exact ⟨Option.ne_none_iff_exists'.1 h1,Option.ne_none_iff_exists'.1 h2⟩
  ·exact EP h x hx
abbrev abN (l:List Wd) (o:List (Wd × Wd)) (q e:Nat):St:=
 ⟨[bh 0 2 (bG l),bh 1 4 (mS o),(5,⟨[],.sl 2 (mb (dz (aA l) (o.take e))) (some 0)⟩),ay 6 e],[],[⟨q,291,2,none⟩]⟩
theorem HR (l:List Wd) (o:List (Wd × Wd)) (hs:wdsWt l<=1099511627776) (CV:prsWt o<=1099511627776) (hF:(numF (aA l) o).1=0) :
  EvP prog 121 [.sl 2 (bG l) none,.sl 4 (mS o) none] (.sl 2 (mb (dz (aA l) o)) none):=by
 have mW:=iI o;refine eG 34 [.tmp 4] func121 rfl ntmps121 rfl fun _ _ _ _=>?_;refine lJ (fun e=>abN l o e e) o.length (fU ⟨0,291,2,none⟩ rfl ⟨_,rfl⟩ rfl wA rfl rfl kj) ?_;intro e he;refine br ?_ ?_<;>intro hL
 ·have au:e < o.length:=by simpa [fV] using hL
  obtain ⟨w,hw⟩:=gX au;obtain ⟨⟨a,ha⟩,⟨b,hb⟩⟩:=EP hF w (mG hw);have JP:=fy l w.1.s hs;have yG:=fy l w.2.s hs;rw [ha] at JP;rw [hb] at yG;refine dI ?_;refine ⟨MQ w,⟨by omega,gT hw⟩,?_⟩;refine cD vI JP ?_;refine ⟨MQ w,⟨by omega,gT hw⟩,?_⟩;refine cD vI yG ?_;refine ⟨by simp [gU,dz];omega,⟨by simp [gU,dz,maxLen];omega,by simp [gU,dz];omega⟩,?_⟩;exact rE ⟨_,by omega,e + 1,rfl,by omega,rfl⟩ (bp (iT (aN au (by omega)) (zP hw ha hb)))
 ·have hge:e=o.length:=by
   have:=hL;simp [fV] at this;omega
  have ht:o.take e=o:=by rw [hge,List.take_length]
  rw [ht];exact ⟨_,ax,rfl⟩
theorem EQ (l:List Wd) (o:List (Wd × Wd)) (hl:l.length<=32) (hs:wdsWt l<=1099511627776) (CV:prsWt o<=1099511627776) (hF:(numF (aA l) o).1=0) :
  EvP prog 53 [.sl 2 (bG l) none,.sl 4 (mS o) none] (.sl 1 (dr (dW l.length (eQ l.length (dz (aA l) o)))) none):=by
 have mW:=iI o;have hP:r7 l.length (dz (aA l) o):=by have:=oi hF;rwa [dD] at this
 have hN:=aC l;have J9:=HQ l.length (by omega) (dz (aA l) o) hP (by simp [dz];omega);rw [LK hP] at J9;refine eG 11 [.tmp 4] func53 rfl ntmps53 rfl fun _ _ _ _=>?_;refine cP Zw (HR l o hs CV hF) ?_;rw [hN];refine cP Zv J9 ?_;exact ⟨_,ax,rfl⟩
theorem ER (n:Nat) (f:Nat->Nat->Bool):(dW n f).length=n:=by simp [dW]
theorem jM (n:Nat) (f:Nat->Nat->Bool):(dr (dW n f)).length=n:=by rw [wX,ER]
theorem eS {n:Nat} {f:Nat->Nat->Bool} {a:Nat} (ha:a < n):(dr (dW n f))[a]? = some [DV.sl 1 (wW ((List.range n).map (f a))) none]:=Pw (Em ha)
theorem dK {n:Nat} {f:Nat->Nat->Bool} {a b:Nat} (hb:b < n):(wW ((List.range n).map (f a)))[b]? = some [DV.v (.bool (f a b))]:=Kc (by simp [List.getElem?_range hb])
abbrev U7 (n:Nat) (f:Nat->Nat->Bool) (e:Nat):St:=
 ⟨[bh 0 1 (dr (dW n f)),ay 3 e],[],[]⟩
abbrev W5 (n:Nat) (f:Nat->Nat->Bool) (e k:Nat):St:=
 ⟨[bh 0 1 (dr (dW n f)),ay 3 e,ay 4 k],[],[]⟩
theorem ES (n:Nat) (f:Nat->Nat->Bool) (hn:n<=64) :
  EvP prog 275 [.sl 1 (dr (dW n f)) none] (.v (.int .i64 (oz (bB (kx n f) n)))):=by
 have fg:=jM n f;refine eG 39 [.tmp 2] func275 rfl ntmps275 rfl fun _ _ _ _=>?_;refine lI (fun j st=>∃ e:Nat,st=U7 n f e/\e<=n/\(∀ a,a < e->kx n f a=false)/\j=n - e) ⟨0,rfl,by omega,fun _ h=>by omega,rfl⟩ (bp wB) ?_;rintro j st ⟨e,rfl,he,gO,rfl⟩;refine br ?_ ?_<;>intro hL
 ·have au:e < n:=sV fg hL;refine lI (fun j st=>∃ k:Nat,st=W5 n f e k/\k<=n/\(∀ b,b < k->(decide (e≠b) && (f e b && f b e))=false)/\j=n - k) ⟨0,rfl,by omega,fun _ h=>by omega,rfl⟩ (bp wB) ?_;rintro j st ⟨k,rfl,hk,Px,rfl⟩;refine br ?_ ?_<;>intro oQ
  ·have iS:k < n:=sV fg oQ;have mF:(decide (e≠k) && (f e k && f k e))=false->∀ b,b < k + 1->(decide (e≠b) && (f e b && f b e))=false:=fun h b hb=>by grind
   refine br ?_ ?_<;>intro g1
   ·have g1:e≠k:=by have:=g1;simp at this;omega
    refine iX (eS au) ?_;refine iX (dK iS) ?_;refine br ?_ ?_<;>intro g2
    ·have g2:f e k=true:=by simpa [pickB] using g2
     refine iX (eS iS) ?_;refine iX (dK au) ?_;refine br ?_ ?_<;>intro g3
     ·have g3:f k e=true:=by simpa [pickB] using g3
      have hp:kx n f e=true:=List.any_eq_true.2 ⟨k,List.mem_range.2 iS,by simp [g1,g2,g3]⟩;rw [cI au hp gO];exact (rfl:_=_)
     ·have g3:f k e=false:=by simpa [pickB] using g3
      exact rE ⟨_,by omega,k + 1,rfl,by omega,mF (by simp [g3]),rfl⟩ (bp (cY (aN iS (by omega))))
    ·have g2:f e k=false:=by simpa [pickB] using g2
     exact rE ⟨_,by omega,k + 1,rfl,by omega,mF (by simp [g2]),rfl⟩ (bp (cY (aN iS (by omega))))
   ·have g1:e=k:=by have:=g1;simp at this;omega
    exact rE ⟨_,by omega,k + 1,rfl,by omega,mF (by simp [g1]),rfl⟩ (bp (cY (aN iS (by omega))))
  ·have hge:k=n:=sW fg oQ;refine ⟨U7 n f (e + 1),(bp (cY (aN au (by omega)))),n - (e + 1),by omega,e + 1,rfl,by omega,fun j hj=>?_,rfl⟩;rcases kE hj with hj | rfl
   ·exact gO j hj
   ·grind [kx]
 ·have hge:e=n:=sW fg hL;subst hge;rw [cT gO];exact (rfl:_=_)
abbrev tuSt (n:Nat) (f:Nat->Nat->Bool) (q e:Nat):St:=
 ⟨[bh 0 1 (dr (dW n f)),(3,⟨[],.sl 1 (dr ((dW n fun a b=>f b a).take e)) (some 0)⟩),ay 4 e],[],[⟨q,186,1,none⟩]⟩
abbrev abO (n:Nat) (f:Nat->Nat->Bool) (q e:Nat) (r:List Bool) (k:Nat):St:=
 ⟨[bh 0 1 (dr (dW n f)),(3,⟨[],.sl 1 (dr ((dW n fun a b=>f b a).take e)) (some 0)⟩),ay 4 e,(5,⟨[],.ms 0 1 0 n n⟩),ay 6 k],[cB r],[⟨q,186,1,none⟩]⟩
abbrev abP (n:Nat) (f:Nat->Nat->Bool) (q e:Nat) (r:List Bool):St:=
 ⟨[bh 0 1 (dr (dW n f)),ay 4 e,(32,⟨[],.sl 1 (dr ((dW n fun a b=>f b a).take e)) (some 0)⟩),bh 33 1 (wW r)],[],[⟨q,186,1,none⟩]⟩
def lm (n:Nat) (f:Nat->Nat->Bool) (e k:Nat):List Bool:=(List.range n).map fun b=>if b < k then f b e else false
theorem sx (n:Nat) (f:Nat->Nat->Bool) (e k:Nat):(lm n f e k).length=n:=by simp [lm]
theorem HS (n:Nat) (f:Nat->Nat->Bool) (e:Nat):lm n f e 0=List.replicate n false:=by
 refine List.ext_getElem? fun i=>?_
 grind [lm,sx]
theorem HT (n:Nat) (f:Nat->Nat->Bool) (e k:Nat):(lm n f e k).set k (f k e)=lm n f e (k + 1):=by
 refine List.ext_getElem? fun i=>?_
 grind [lm,sx]
theorem HU (n:Nat) (f:Nat->Nat->Bool) (e:Nat):lm n f e n=(List.range n).map (fun b=>f b e):=by simp_all [lm]
theorem LM (n:Nat) (f:Nat->Nat->Bool) (hn:n<=64) :
  EvP prog 276 [.sl 1 (dr (dW n f)) none] (.sl 1 (dr (dW n fun a b=>f b a)) none):=by
 have fg:=jM n f;have hML:=ER n fun a b=>f b a;refine eG 37 [.tmp 2] func276 rfl ntmps276 rfl fun _ _ _ _=>?_;refine lJ (fun e=>tuSt n f e e) n (fU ⟨0,186,1,none⟩ rfl ⟨_,rfl⟩ rfl wA rfl rfl kj) ?_;intro e he;refine br ?_ ?_<;>intro hL
 ·have au:e < n:=sV fg hL;refine ⟨⟨rfl,by omega,by rw [fg];omega,by rw [fg];omega⟩,?_⟩;rw [fg];have gM:(List.replicate (n:Int).toNat (vL [Value.bool false])).flatten=cB (lm n f e 0):=by grind [LJ,HS]
  refine lJ (fun k=>abO n f e e (lm n f e k) k) n (dj 1 (kH gM) (cY gM)) ?_;intro k hk;refine br ?_ ?_<;>intro oQ
  ·have iS:k < n:=sV fg oQ;refine iX (eS iS) ?_;refine iX (dK au) ?_;refine ⟨⟨by omega,by omega⟩,?_⟩;refine ⟨by rw [sw,sx];omega,?_⟩
   have gF:(cB (lm n f e k)).set (0 + (k:Int).toNat * 1) (DV.v (.bool (f (k:Int).toNat (e:Int).toNat)))=cB (lm n f e (k + 1)):=by
    rw [show 0 + (k:Int).toNat * 1=k by omega,BV,kS,kS,HT]
   exact rE ⟨_,by omega,k + 1,rfl,by omega,rfl⟩ (dj 1 (yy gF (aN iS (by omega))) (iT gF (aN iS (by omega))))
  ·have hge:k=n:=sW fg oQ;subst hge;rw [HU];refine KO.wk (.Jv (st':=abP k f e e ((List.range k).map fun b=>f b e)) 0 rfl rfl rfl rfl ?_) rfl rfl ?_
   ·refine ⟨⟨_,rfl,?_⟩,⟨_,rfl,?_⟩,⟨_,rfl,?_⟩,⟨_,rfl,U5 (by simp) (by omega) rfl⟩,trivial⟩
    ·grind [Cc]
    ·simp only [Cc]
    ·grind [Cc]
   ·have hmr:(dr ((dW k fun a b=>f b a).take e)).length=e:=by rw [wX,zLenT,hML];omega
    have ek:dr ((dW k fun a b=>f b a).take e) ++ [[DV.sl 1 (wW ((List.range k).map fun b=>f b e)) none]]=dr ((dW k fun a b=>f b a).take (e + 1)):=by rw [List.take_add_one,Em au];simp [dr]
    refine ⟨hmr,⟨by rw [hmr];simp [maxLen];omega,by rw [hmr];simp;omega⟩,?_⟩;exact rE ⟨_,by omega,e + 1,rfl,by omega,rfl⟩ (bp (iT (aN au (by omega)) ek))
 ·have hge:e=n:=sW fg hL;subst hge;rw [List.take_of_length_le (by rw [hML];omega)];exact ⟨_,ax,rfl⟩
def U8 (f:Nat->Nat->Bool) (n a b c:Nat):Bool:=(f a c && f b c) && (List.range n).all fun d=>!(f a d && f b d) || f c d
def ln (f:Nat->Nat->Bool) (n a b:Nat):Option Nat:=bB (U8 f n a b) n
def mV (f:Nat->Nat->Bool) (a b c k:Nat):Bool:=(f a c && f b c) && (List.range k).all fun d=>!(f a d && f b d) || f c d
theorem LN (f:Nat->Nat->Bool) (a b c k:Nat):mV f a b c (k + 1)=(mV f a b c k && (!(f a k && f b k) || f c k)):=by
 simp only [mV,List.range_succ,List.all_append,List.all_cons,List.all_nil,Bool.and_true,Bool.and_assoc]
theorem Ac (f:Nat->Nat->Bool) (a b c:Nat):mV f a b c 0=(f a c && f b c):=by simp [mV]
abbrev abQ (n:Nat) (f:Nat->Nat->Bool) (a b e:Nat):St:=
 ⟨[bh 0 1 (dr (dW n f)),ay 1 a,ay 2 b,ay 7 e],[],[]⟩
abbrev Ke (n:Nat) (f:Nat->Nat->Bool) (a b e:Nat) (x:Bool) (k:Nat):St:=
 ⟨[bh 0 1 (dr (dW n f)),ay 1 a,ay 2 b,ay 7 e,DB 8 x,ay 9 k],[],[]⟩
theorem tD (n:Nat) (f:Nat->Nat->Bool) (hn:n<=64) (a b:Nat) (ha:a < n) (hb:b < n) :
  EvP prog 210 [.sl 1 (dr (dW n f)) none,.v (.int .i64 a),.v (.int .i64 b)] (.v (.int .i64 (oz (ln f n a b)))):=by
 have fg:=jM n f;refine eG 66 [.tmp 6] func210 rfl ntmps210 rfl fun _ _ _ _=>?_;refine lI (fun j st=>∃ e:Nat,st=abQ n f a b e/\e<=n/\(∀ c,c < e->U8 f n a b c=false)/\j=n - e) ⟨0,rfl,by omega,fun _ h=>by omega,rfl⟩ (bp wB) ?_;rintro j st ⟨e,rfl,he,gO,rfl⟩;refine br ?_ ?_<;>intro hL
 ·have au:e < n:=sV fg hL;refine iX (eS ha) ?_;refine iX (dK au) ?_;have e1:(f a e == true)=true->f b e=mV f a b e 0:=fun g=>by rw [Ac,show f a e=true by simpa using g];simp
  have e2:(f a e == true)=false->false=mV f a b e 0:=fun g=>by rw [Ac,show f a e=false by simpa using g];simp
  refine have body:=?_;br (fun g1=>⟨_,⟨by omega,eS hb⟩,⟨_,⟨by omega,dK au⟩,aV (fun j st=>∃ k:Nat,st=Ke n f a b e (mV f a b e k) k/\k<=n/\j=n - k) n (Ke n f a b e (mV f a b e 0) 0) (bp (by repeat' (first | exact trivial | exact az rfl | exact (show We _ _ _ (DV.v (.bool (f b e))) _ from cq (e1 g1)) | refine ⟨⟨_,rfl,?_⟩,?_⟩))) ⟨0,rfl,by omega,by omega⟩ body⟩⟩) (fun g1=>aV (fun j st=>∃ k:Nat,st=Ke n f a b e (mV f a b e k) k/\k<=n/\j=n - k) n (Ke n f a b e (mV f a b e 0) 0) (bp (by repeat' (first | exact trivial | exact az rfl | exact (show We _ _ _ (DV.v (.bool false)) _ from cq (e2 g1)) | refine ⟨⟨_,rfl,?_⟩,?_⟩))) ⟨0,rfl,by omega,by omega⟩ body);rintro j st ⟨k,rfl,hk,rfl⟩;refine br ?_ ?_<;>intro oQ
  ·have iS:k < n:=sV fg oQ;have U9:=LN f a b e k;refine iX (eS ha) ?_;refine iX (dK iS) ?_;refine br ?_ ?_<;>intro g1
   ·refine iX (eS hb) ?_;refine iX (dK iS) ?_;refine br ?_ ?_<;>intro g2
    ·refine iX (eS au) ?_;refine iX (dK iS) ?_;refine br ?_ ?_<;>intro g3
     ·have hx:false=mV f a b e (k + 1):=by simp [pickB] at g1 g2 g3;rw [U9];simp [g1,g2,g3]
      exact rE ⟨_,by omega,k + 1,rfl,by omega,rfl⟩ (bp (iT (aN iS (by omega)) hx))
     ·have hx:mV f a b e k=mV f a b e (k + 1):=by simp [pickB] at g1 g2 g3;rw [U9];simp [g1,g2,g3]
      exact rE ⟨_,by omega,k + 1,rfl,by omega,rfl⟩ (bp (iT (aN iS (by omega)) hx))
    ·have hx:mV f a b e k=mV f a b e (k + 1):=by simp [pickB] at g1 g2;rw [U9];simp [g1,g2]
     exact rE ⟨_,by omega,k + 1,rfl,by omega,rfl⟩ (bp (iT (aN iS (by omega)) hx))
   ·have hx:mV f a b e k=mV f a b e (k + 1):=by simp [pickB] at g1;rw [U9];simp [g1]
    exact rE ⟨_,by omega,k + 1,rfl,by omega,rfl⟩ (bp (iT (aN iS (by omega)) hx))
  ·have hge:k=n:=sW fg oQ;subst hge;refine br ?_ ?_<;>intro g
   ·have g:U8 f k a b e=true:=g;rw [ln,cI au g gO];exact (rfl:_=_)
   ·have g:U8 f k a b e=false:=g;refine ⟨abQ k f a b (e + 1),(bp (cY (aN au (by omega)))),k - (e + 1),by omega,e + 1,rfl,by omega,fun j hj=>?_,rfl⟩;rcases kE hj with hj | rfl
    ·exact gO j hj
    ·exact g
 ·have hge:e=n:=sW fg hL;subst hge;rw [ln,cT gO];exact (rfl:_=_)
theorem Py {l:List Wd} {i:Nat} {w:Wd} (hw:l[i]? = some w):∃ p,cV (aA l) w.s=some p/\(p < i↔cH (l.take i) w.s=true):=by
 cases h:cV (aA l) w.s with
 | none=>exact absurd (mG (ke hw)) (yM.1 h)
 | some p=>
  refine ⟨p,rfl,?_⟩;obtain ⟨h1,h2,h3⟩:=dh h;rw [dD] at h1;have Rk:∃ v,l[p]? = some v/\v.s=w.s:=by grind [ke]
  obtain ⟨v,hv,yw⟩:=Rk;unfold cH;rw [List.any_eq_true];refine ⟨fun au=>⟨v,mG (i:=p) (by rw [cx,ap au];exact hv),by simp [yw]⟩,fun ⟨x,hx,CW⟩=>?_⟩;obtain ⟨j,hj⟩:=List.getElem?_of_mem hx
  grind [ke]
theorem BW {f:Nat->Nat->Bool} {n a b c:Nat}:U8 f n a b c=true↔f a c=true/\f b c=true/\∀ d,d < n->f a d=true->f b d=true->f c d=true:=by grind [U8]
structure SK (f:Nat->Nat->Bool) (n:Nat):Prop where
 rfl':∀ a,a < n->f a a=true
 Lw:∀ a b,a < n->b < n->f a b=true->f b a=true->a=b
theorem SK.flip {f:Nat->Nat->Bool} {n:Nat} (h:SK f n):SK (fun x y=>f y x) n:=⟨h.rfl',fun a b ha hb h1 h2=>h.Lw a b ha hb h2 h1⟩
theorem Pz {f:Nat->Nat->Bool} {n a b c:Nat} (h:SK f n) (hc:c < n) (hj:U8 f n a b c=true):ff f n a b=some c:=by
 obtain ⟨h1,h2,h3⟩:=BW.1 hj
 have key:∀ e,e<=n->c < e->bestA (fun c=>f a c && f b c) f e=some c:=by
  intro e
  induction e with
  | zero=>intro _ h;omega
  | succ e ih=>
   intro he hce;rw [bestA];by_cases hec:e=c
   ·subst hec;rw [ap];simp only [h1,h2,Bool.and_true,Bool.true_and]
    cases ho:bestA (fun c=>f a c && f b c) f e with
    | none=>rfl
    | some o=>
     have hp:=si ho;have hl:=nz ho;simp only [aP] at hp;exact h3 o (by omega) hp.1 hp.2
   ·rw [ih (by omega) (by omega),aj];simp only [aP,Ew,not_and];intro hp hec2;exact hec (h.Lw e c (by omega) hc hec2 (h3 e (by omega) hp.1 hp.2))
 grind [ff,ny]
theorem qR {f:Nat->Nat->Bool} {n a b:Nat} (h:SK f n):(ff f n a b).isNone=(ln f n a b).isNone:=by
 cases hj:ln f n a b with
 | some c=>
  obtain ⟨hc,hi,_⟩:=dN hj;rw [Pz h hc hi]
 | none=>
  cases hk:ff f n a b with
  | none=>rfl
  | some k=>
   obtain ⟨h1,h2,h3,h4⟩:=pq hk;have:=dJ hj k h1;rw [BW.2 ⟨h2,h3,h4⟩] at this;cases this
def oR (f:Nat->Nat->Bool) (n a b:Nat):Bool:=(ln f n a b).isNone || (ln (fun x y=>f y x) n a b).isNone
theorem Kf {f:Nat->Nat->Bool} {n a b:Nat} (h:SK f n):lh f n a b=oR f n a b:=by
 unfold lh oR;rw [qR h,show jd f n a b=ff (fun x y=>f y x) n a b from rfl,qR h.flip]
theorem wY {f:Nat->Nat->Bool} {n b:Nat} (h:SK f n) (hb:b < n):(ln f n b b).isNone=false:=by
 have hi:U8 f n b b b=true:=BW.2 ⟨h.rfl' b hb,h.rfl' b hb,fun d _ h1 _=>h1⟩
 cases hj:ln f n b b with
 | some c=>rfl
 | none=>rw [dJ hj b hb] at hi;cases hi
theorem SL {f:Nat->Nat->Bool} {n b:Nat} (h:SK f n) (hb:b < n):nA f n b=(List.range b).any fun a=>oR f n a b:=by
 unfold nA;rw [List.range_succ,List.any_append];simp only [List.any_cons,List.any_nil,Bool.or_false];rw [Kf h,show oR f n b b=false by unfold oR;rw [wY h hb,wY h.flip hb];rfl,Bool.or_false]
 grind [Kf]
theorem W6 {n:Nat} {l:List (Nat × Nat)} (hP:r7 n l) (h4:bB (kx n (eQ n l)) n=none):SK (eQ n l) n where
 rfl':=fun a ha=>r8 hP ha
 Lw:=fun a b ha hb h6 h7=>by grind [dJ,kx]
abbrev abR (l:List Wd) (o:List (Wd × Wd)) (e:Nat):St:=
 ⟨[bh 0 2 (bG l),bh 1 4 (mS o),aE 4 0,ay 5 e],[[.v (.int .i64 0),.v (.int .i64 0)]],[]⟩
abbrev abS (l:List Wd) (o:List (Wd × Wd)) (e:Nat):St:=
 ⟨[bh 0 2 (bG l),bh 1 4 (mS o),aE 4 0,ay 6 e],[[.v (.int .i64 0),.v (.int .i64 0)]],[]⟩
abbrev Va (l:List Wd) (n:Nat) (f:Nat->Nat->Bool) (e:Nat):St:=
 ⟨[bh 0 2 (bG l),aE 4 0,bh 7 1 (dr (dW n f)),bh 9 1 (dr (dW n fun a b=>f b a)),ay 10 e],[[.v (.int .i64 0),.v (.int .i64 0)]],[]⟩
abbrev Vb (l:List Wd) (n:Nat) (f:Nat->Nat->Bool) (e k:Nat):St:=
 ⟨[bh 0 2 (bG l),aE 4 0,bh 7 1 (dr (dW n f)),bh 9 1 (dr (dW n fun a b=>f b a)),ay 10 e,ay 11 k],[[.v (.int .i64 0),.v (.int .i64 0)]],[]⟩
theorem BX (l:List Wd) (o:List (Wd × Wd)) (hs:wdsWt l<=1099511627776) (CV:prsWt o<=1099511627776) :
  EvP prog 240 [.sl 2 (bG l) none,.sl 4 (mS o) none] (latF l o).d:=by
 have mW:=bu l;have hsl2:=iI o;have hF:latF l o=latF l o:=rfl
 conv at hF=>rhs;unfold latF
 refine eG 150 [.cell 4 44] func240 rfl ntmps240 rfl fun _ _ _ _=>?_;generalize latF l o=F at hF ⊢;refine br ?_ ?_<;>intro h
 ·have h:l=[]:=by simpa [aC] using h
  rw [show fW l o=(15,0) by rw [fW,ap h],ap (by decide)] at hF;refine ⟨_,?_,rfl⟩;rw [hF];exact ax
 have h:¬ l=[]:=by simpa [aC] using h
 refine br ?_ ?_<;>intro h1
 ·have h1:32 < l.length:=by simp [aC] at h1;omega
  obtain ⟨x,hx⟩:∃ x,l[32]? = some x:=⟨_,gE h1⟩;rw [show fW l o=(8,x.a) by rw [fW,aj h,ap h1,hx];rfl,ap (by simp)] at hF;refine ⟨j2 x,⟨by omega,aT hx⟩,?_⟩;refine ⟨_,?_,rfl⟩;rw [hF];exact ax
 have h1:¬ 32 < l.length:=by simp [aC] at h1;omega
 refine br ?_ ?_<;>intro h2
 ·have h2:256 < o.length:=by simp [fV] at h2;omega
  obtain ⟨x,hx⟩:∃ x,o[256]? = some x:=⟨_,gE h2⟩;rw [show fW l o=(8,x.1.a) by rw [fW,aj h,aj h1,ap h2,hx];rfl,ap (by simp)] at hF;refine ⟨MQ x,⟨by omega,gT hx⟩,?_⟩;refine ⟨_,?_,rfl⟩;rw [hF];exact ax
 have h2:¬ 256 < o.length:=by simp [fV] at h2;omega
 rw [show fW l o=(0,0) by rw [fW,aj h,aj h1,aj h2],aj (by decide)] at hF;have h0:enumL l 0 l=enumL l 0 (l.drop 0):=rfl;refine lI (fun j st=>∃ e:Nat,st=abR l o e/\e<=l.length/\enumL l 0 l=enumL l e (l.drop e)/\j=l.length - e) ⟨0,rfl,by omega,rfl,rfl⟩ (bp wB) ?_;rintro j st ⟨e,rfl,he,aO,rfl⟩;refine br ?_ ?_<;>intro hL
 ·have au:e < l.length:=by simpa [aC] using hL
  obtain ⟨w,hw⟩:=gX au;have Gz:=iE (mG hw);have aW:enumL l e (l.drop e)=if aG l e w≠0 then (aG l e w,w.a) else enumL l (e + 1) (l.drop (e + 1)):=by rw [drop_cons hw,enumL]
  obtain ⟨p,hp,Jh⟩:=Py hw;have hf:=fy l w.s hs;rw [hp] at hf;refine ⟨j2 w,⟨by omega,aT hw⟩,?_⟩;refine cP JA (kp w.s (by omega)) ?_;refine br ?_ ?_<;>intro hN
  ·have hN:bd w.s=false:=sU hN;have hf:aG l e w=9:=by simp [aG,hN]
   rw [aO,aW,hf,ap (show (9:Int)≠0 by decide),ap (by simp)] at hF;refine ⟨j2 w,⟨by omega,aT hw⟩,?_⟩;refine ⟨_,?_,rfl⟩;rw [hF];exact ax
  ·have hN:bd w.s=true:=sU hN;refine ⟨j2 w,⟨by omega,aT hw⟩,?_⟩;refine cP vI hf ?_;refine br ?_ ?_<;>intro h2
   ·have h2:p < e:=by have:=h2;simp [oz] at this;exact this
    have hf:aG l e w=10:=by simp [aG,hN,Jh.1 h2]
    rw [aO,aW,hf,ap (show (10:Int)≠0 by decide),ap (by simp)] at hF;refine ⟨j2 w,⟨by omega,aT hw⟩,?_⟩;refine ⟨_,?_,rfl⟩;rw [hF];exact ax
   ·have h2:¬ p < e:=by have:=h2;simp [oz] at this;omega
    have hd:cH (l.take e) w.s=false:=by grind
    have hf:aG l e w=0:=by simp [aG,hN,hd]
    rw [hf,aj (by simp)] at aW;exact rE ⟨_,by omega,e + 1,rfl,by omega,by rw [aO,aW],rfl⟩ (bp (cY (aN au (by omega))))
 have hge:e=l.length:=by have:=hL;simp [aC] at this;omega
 rw [aO,hge,List.drop_length,show enumL l l.length []=(0,0) from rfl,aj (by decide)] at hF;refine lI (fun j st=>∃ e:Nat,st=abS l o e/\e<=o.length/\numF (aA l) o=numF (aA l) (o.drop e)/\j=o.length - e) ⟨0,rfl,by omega,rfl,rfl⟩ (bp wB) ?_;clear aO hL hge he e;rintro j st ⟨e,rfl,he,aO,rfl⟩;refine br ?_ ?_<;>intro hL
 ·have au:e < o.length:=by simpa [fV] using hL
  obtain ⟨w,hw⟩:=gX au;have aW:numF (aA l) (o.drop e)=if cV (aA l) w.1.s=none then (17,w.1.a) else if cV (aA l) w.2.s=none then (17,w.2.a) else numF (aA l) (o.drop (e + 1)):=by rw [drop_cons hw,numF]
  refine ⟨MQ w,⟨by omega,gT hw⟩,?_⟩;refine cP vI (fy l w.1.s hs) ?_;refine br ?_ ?_<;>intro ha
  ·have ha:=fQ.1 ha;rw [aO,aW,ap ha,ap (by simp)] at hF;refine ⟨MQ w,⟨by omega,gT hw⟩,?_⟩;refine ⟨_,?_,rfl⟩;rw [hF];exact ax
  have ha:¬ cV (aA l) w.1.s=none:=fun hn=>by have:=fQ.2 hn;rw [ha] at this;cases this
  refine ⟨MQ w,⟨by omega,gT hw⟩,?_⟩;refine cP vI (fy l w.2.s hs) ?_;refine br ?_ ?_<;>intro hb
  ·have hb:=fQ.1 hb;rw [aO,aW,aj ha,ap hb,ap (by simp)] at hF;refine ⟨MQ w,⟨by omega,gT hw⟩,?_⟩;refine ⟨_,?_,rfl⟩;rw [hF];exact ax
  have hb:¬ cV (aA l) w.2.s=none:=fun hn=>by have:=fQ.2 hn;rw [hb] at this;cases this
  rw [aj ha,aj hb] at aW;exact rE ⟨_,by omega,e + 1,rfl,by omega,by rw [aO,aW],rfl⟩ (bp (cY (aN au (by omega))))
 have hge:e=o.length:=by have:=hL;simp [fV] at this;omega
 rw [hge,List.drop_length,show numF (aA l) []=(0,0) from rfl] at aO;rw [aO,aj (by decide)] at hF;have oH:(numF (aA l) o).1=0:=by rw [aO]
 have hP:r7 l.length (dz (aA l) o):=by have:=oi oH;rwa [dD] at this
 have hpo:=W6 hP;have fg:=jM l.length (eQ l.length (dz (aA l) o));refine cP Wi (EQ l o (by omega) hs CV oH) ?_;generalize eQ l.length (dz (aA l) o)=f at hF hpo fg ⊢;refine cP Z5 (ES l.length f (by omega)) ?_
 cases hlo:bB (kx l.length f) l.length with
 | some a=>
  rw [hlo] at hF;have ha:=(dN hlo).1;obtain ⟨x,hx⟩:∃ x,l[a]? = some x:=⟨_,gE ha⟩;simp only [ky hx] at hF;refine ⟨j2 x,⟨by simp only [oz];omega,aT hx⟩,?_⟩;refine ⟨_,?_,rfl⟩;rw [hF];exact ax
 | none=>
 have hpo:=hpo hlo;rw [hlo] at hF;simp only at hF;refine cP Z6 (LM l.length f (by omega)) ?_;refine lI (fun j st=>∃ e:Nat,st=Va l l.length f e/\e<=l.length/\(∀ b,b < e->nA f l.length b=false)/\j=l.length - e) ⟨0,rfl,by omega,fun _ h=>by omega,rfl⟩ (bp wB) ?_;clear aO hL hge he e;rintro j st ⟨e,rfl,he,gO,rfl⟩;refine br ?_ ?_<;>intro hL
 ·have au:e < l.length:=sV fg hL;have X3:=SL hpo au;refine lI (fun j st=>∃ k:Nat,st=Vb l l.length f e k/\k<=e/\(∀ a,a < k->oR f l.length a e=false)/\j=e - k) ⟨0,rfl,by omega,fun _ h=>by omega,rfl⟩ (bp wB) ?_;rintro j st ⟨k,rfl,hk,Px,rfl⟩;refine br ?_ ?_<;>intro oQ
  ·have iS:k < e:=sU oQ;obtain ⟨x,hx⟩:=gX au
   have abT:oR f l.length k e=true->F=(12,x.a):=fun Ey=>by
    rw [cI au (by rw [X3,List.any_eq_true];exact ⟨k,by simpa using iS,Ey⟩) gO] at hF;simp only [ky hx] at hF;exact hF
   refine cP Uf (tD l.length f (by omega) k e (by omega) au) ?_;refine br ?_ ?_<;>intro g1
   ·have g1:¬ ln f l.length k e=none:=fun hn=>by rw [fQ.2 hn] at g1;cases g1
    refine cP Uf (tD l.length (fun a b=>f b a) (by omega) k e (by omega) au) ?_;refine br ?_ ?_<;>intro g2
    ·have g2:ln (fun a b=>f b a) l.length k e=none:=by
      rw [<- fQ];simpa [pickB] using g2
     have hF:=abT (by unfold oR;rw [g2];simp);refine ⟨j2 x,⟨by omega,aT hx⟩,?_⟩;refine ⟨_,?_,rfl⟩;rw [hF];exact ax
    ·have g2:¬ ln (fun a b=>f b a) l.length k e=none:=fun hn=>by
      have h3:=fQ.2 hn;simp [pickB] at g2;have h3:=of_decide_eq_true h3;omega
     refine ⟨Vb l l.length f e (k + 1),(bp (cY (aN iS (by omega)))),e - (k + 1),by omega,k + 1,rfl,by omega,fun j hj=>?_,rfl⟩;rcases kE hj with hj | rfl
     ·exact Px j hj
     ·unfold oR;rw [Option.isNone_eq_false_iff.2 (Option.isSome_iff_ne_none.2 g1),Option.isNone_eq_false_iff.2 (Option.isSome_iff_ne_none.2 g2)];rfl
   ·have g1:ln f l.length k e=none:=by
     rw [<- fQ];simpa using g1
    have hF:=abT (by unfold oR;rw [g1];rfl);refine ⟨j2 x,⟨by omega,aT hx⟩,?_⟩;refine ⟨_,?_,rfl⟩;rw [hF];exact ax
  ·have hge:k=e:=by have:=oQ;simp at this;omega
   subst hge;refine ⟨Va l l.length f (k + 1),(bp (cY (aN au (by omega)))),l.length - (k + 1),by omega,k + 1,rfl,by omega,fun j hj=>?_,rfl⟩;rcases kE hj with hj | rfl
   ·exact gO j hj
   ·grind
 ·have hge:e=l.length:=sW fg hL;subst hge;rw [cT gO] at hF;simp only at hF;refine ⟨_,?_,rfl⟩;rw [hF];exact ax
abbrev ovSt (n:Nat) (f:Nat->Nat->Bool) (l:List Nat) (c e:Nat):St:=
 ⟨[bh 0 1 (dr (dW n f)),bh 1 1 (dInts l),ay 2 c,ay 7 e],[],[]⟩
theorem Ad (n:Nat) (f:Nat->Nat->Bool) (hn:n<=64) (l:List Nat) (hl:∀ i∈l,i < n) (BR:l.length<=1099511627776) (c:Nat) (hc:c < n) :
  EvP prog 257 [.sl 1 (dr (dW n f)) none,.sl 1 (dInts l) none,.v (.int .i64 c)] (.v (.bool (iq f l c))):=by
 have fg:=jM n f;have MP:=bz l;refine eG 25 [.tmp 6] func257 rfl ntmps257 rfl fun _ _ _ _=>?_;refine lI (fun j st=>∃ e:Nat,st=ovSt n f l c e/\e<=l.length/\iq f l c=iq f (l.drop e) c/\j=l.length - e) ⟨0,rfl,by omega,rfl,rfl⟩ (bp wB) ?_;rintro j st ⟨e,rfl,he,aO,rfl⟩;rw [aO];refine br ?_ ?_<;>intro hL
 ·have au:e < l.length:=by have:=hL;simp [MP] at this;exact this
  obtain ⟨i,hi⟩:=gX au;have uL:=hl i (mG hi);have aW:iq f (l.drop e) c=(f i c && iq f (l.drop (e + 1)) c):=by unfold iq;rw [drop_cons hi,List.all_cons]
  refine iX (ef hi) ?_;refine iX (eS uL) ?_;refine iX (dK hc) ?_;refine br ?_ ?_<;>intro g
  ·have g:f i c=false:=sU g;rw [aW,g,Bool.false_and];exact (rfl:_=_)
  ·have g:f i c=true:=sU g;rw [g,Bool.true_and] at aW;exact rE ⟨_,by omega,e + 1,rfl,by omega,aW,rfl⟩ (bp (cY (aN au (by omega))))
 ·have hge:e=l.length:=sW MP hL;rw [hge,List.drop_length];exact (rfl:_=_)
def wZ (f:Nat->Nat->Bool) (l:List Nat) (c k:Nat):Bool:=iq f l c && (List.range k).all fun d=>!iq f l d || f c d
theorem LO (f:Nat->Nat->Bool) (l:List Nat) (c:Nat):wZ f l c 0=iq f l c:=by simp [wZ]
theorem LP (f:Nat->Nat->Bool) (l:List Nat) (c k:Nat):wZ f l c (k + 1)=(wZ f l c k && (!iq f l k || f c k)):=by grind [wZ]
abbrev abU (n:Nat) (f:Nat->Nat->Bool) (l:List Nat) (e:Nat):St:=
 ⟨[bh 0 1 (dr (dW n f)),bh 1 1 (dInts l),ay 5 e],[],[]⟩
abbrev abV (n:Nat) (f:Nat->Nat->Bool) (l:List Nat) (e:Nat) (x:Bool) (k:Nat):St:=
 ⟨[bh 0 1 (dr (dW n f)),bh 1 1 (dInts l),ay 5 e,DB 6 x,ay 7 k],[],[]⟩
theorem HX (n:Nat) (f:Nat->Nat->Bool) (hn:n<=64) (l:List Nat) (hl:∀ i∈l,i < n) (BR:l.length<=1099511627776) :
  EvP prog 206 [.sl 1 (dr (dW n f)) none,.sl 1 (dInts l) none] (.v (.int .i64 (oz (fM f n l)))):=by
 have fg:=jM n f;refine eG 40 [.tmp 4] func206 rfl ntmps206 rfl fun _ _ _ _=>?_;refine lI (fun j st=>∃ e:Nat,st=abU n f l e/\e<=n/\(∀ c,c < e->EB f n l c=false)/\j=n - e) ⟨0,rfl,by omega,fun _ h=>by omega,rfl⟩ (bp wB) ?_;rintro j st ⟨e,rfl,he,gO,rfl⟩;refine br ?_ ?_<;>intro hL
 ·have au:e < n:=sV fg hL;refine cP Un (Ad n f hn l hl BR e au) ?_;refine lJ (fun k=>abV n f l e (wZ f l e k) k) n (bp (cY ((LO f l e).symm))) ?_;intro k hk;refine br ?_ ?_<;>intro oQ
  ·have iS:k < n:=sV fg oQ;have U9:=LP f l e k;refine cP Un (Ad n f hn l hl BR k iS) ?_;refine br ?_ ?_<;>intro g1
   ·refine iX (eS au) ?_;refine iX (dK iS) ?_;refine br ?_ ?_<;>intro g2
    ·have hx:false=wZ f l e (k + 1):=by simp [pickB] at g1 g2;rw [U9];simp [g1,g2]
     exact rE ⟨_,by omega,k + 1,rfl,by omega,rfl⟩ (bp (iT (aN iS (by omega)) hx))
    ·have hx:wZ f l e k=wZ f l e (k + 1):=by simp [pickB] at g1 g2;rw [U9];simp [g1,g2]
     exact rE ⟨_,by omega,k + 1,rfl,by omega,rfl⟩ (bp (iT (aN iS (by omega)) hx))
   ·have hx:wZ f l e k=wZ f l e (k + 1):=by simp [pickB] at g1;rw [U9];simp [g1]
    exact rE ⟨_,by omega,k + 1,rfl,by omega,rfl⟩ (bp (iT (aN iS (by omega)) hx))
  ·have hge:k=n:=sW fg oQ;subst hge;refine br ?_ ?_<;>intro g
   ·have g:EB f k l e=true:=g;rw [fM,cI au g gO];exact (rfl:_=_)
   ·have g:EB f k l e=false:=g;refine ⟨abU k f l (e + 1),(bp (cY (aN au (by omega)))),k - (e + 1),by omega,e + 1,rfl,by omega,fun j hj=>?_,rfl⟩;rcases kE hj with hj | rfl
    ·exact gO j hj
    ·exact g
 ·have hge:e=n:=sW fg hL;subst hge;rw [fM,cT gO];exact (rfl:_=_)
abbrev W7 (lv:List Wd) (f:Nat->Nat->Bool) (l:List Wd) (q e:Nat):St:=
 ⟨[bh 0 2 (bG lv),bh 1 1 (dr (dW lv.length f)),bh 2 2 (bG l),aE 7 0,(8,⟨[],.sl 1 (dInts (mj (aA lv) (l.take e))) (some 0)⟩),ay 9 e],[[.v (.int .i64 0),.v (.int .i64 0)]],[⟨q,3,1,none⟩]⟩
theorem SM {L:List ByteArray} {l:List Wd} {i:Nat} (h:i∈mj L l) (hL:0 < L.length):i < L.length:=by
 unfold mj at h;obtain ⟨w,_,rfl⟩:=List.mem_map.1 h
 cases hx:cV L w.s with
 | none=>simpa using hL
 | some p=>exact (dh hx).1
theorem HY {L:List ByteArray} {l:List Wd} {e i:Nat} {w:Wd} (h:l[e]? = some w) (hi:cV L w.s=some i):dInts (mj L (l.take e)) ++ [[DV.v (.int .i64 (oz (some i)))]]=dInts (mj L (l.take (e + 1))):=by
 rw [sm h hi];simp [dInts,oz]
theorem LQ (lv:List Wd) (f:Nat->Nat->Bool) (h0:0 < lv.length) (hn:lv.length<=32) (hs:wdsWt lv<=1099511627776) (l:List Wd) (hl:wdsWt l<=1099511627776) :
  EvP prog 122 [.sl 2 (bG lv) none,.sl 1 (dr (dW lv.length f)) none,.sl 2 (bG l) none] (Ly f (aA lv) l):=by
 have mW:=bu l;have hZ:=dD lv;unfold Ly BN;refine eG 40 [.tmp 6,.cell 7 44] func122 rfl ntmps122 rfl fun _ _ _ _=>?_;refine lI (fun j st=>∃ e:Nat,st=W7 lv f l e e/\e<=l.length/\labW (aA lv) l=labW (aA lv) (l.drop e)/\j=l.length - e) ⟨0,rfl,by omega,rfl,rfl⟩ (fU ⟨0,3,1,none⟩ rfl ⟨_,rfl⟩ rfl wA rfl rfl kj) ?_;rintro j st ⟨e,rfl,he,aO,rfl⟩;rw [aO];refine br ?_ ?_<;>intro hL
 ·have au:e < l.length:=by simpa [aC] using hL
  obtain ⟨w,hw⟩:=gX au;have aW:=sj (L:=aA lv) hw;refine ⟨j2 w,⟨by omega,aT hw⟩,?_⟩;refine cP vI (fy lv w.s hs) ?_;refine br ?_ ?_<;>intro ha
  ·have ha:=fQ.1 ha;rw [aW,ap ha];refine dS ?_;refine ⟨j2 w,⟨by omega,aT hw⟩,?_⟩;exact ⟨_,ax,rfl⟩
  ·cases hi:cV (aA lv) w.s with
   | none=>have:=fQ.2 hi;rw [ha] at this;cases this
   | some i=>
   rw [aj (by rw [hi];simp)] at aW;refine ⟨by simp [bz,mj];omega,⟨by simp [bz,mj,maxLen];omega,by simp [bz,mj];omega⟩,?_⟩;exact rE ⟨_,by omega,e + 1,rfl,by omega,aW,rfl⟩ (bp (iT (aN au (by omega)) (HY hw hi)))
 ·have hge:e=l.length:=by have:=hL;simp [aC] at this;omega
  rw [hge,List.drop_length,List.take_length];refine cP ZM (HX lv.length f (by omega) (mj (aA lv) l) (fun i hi=>by have:=SM hi (by omega);omega) (by simp [mj];omega)) ?_;rw [<- hZ];exact ⟨_,ax,rfl⟩
theorem W8 {S:Sch} {e:Nat} {x:Wd × Ty} (h:S.types[e]? = some x):(tL S)[e]? = some x.1.s:=by simp [tL,aA,uy,h]
abbrev Vc (S:Sch) (s:ByteArray) (e:Nat):St:=
 ⟨[(1,⟨[],.v (.string s)⟩),aE 2 0,ay 5 e],[eH S],[]⟩
theorem kA (S:Sch) (s:ByteArray) (hl:S.types.length<=1099511627776) :
  EvP prog 124 [.agg (eH S),.v (.string s)] (.v (.int .i64 (oz (cV (tL S) s)))):=by
 have hN:=dM S.types;have gl:=ka S;have jC:=@W8 S;obtain ⟨ae,order,types,⟨rh,rp⟩⟩:=S;simp only at hl hN gl jC;refine eG 23 [.tmp 4] func124 rfl ntmps124 rfl fun _ _ _ _=>?_;refine lI (fun j st=>∃ e:Nat,st=Vc ⟨ae,order,types,.mk rh rp⟩ s e/\e<=types.length/\(∀ j,j < e->(tL ⟨ae,order,types,.mk rh rp⟩)[j]? ≠ some s)/\j=types.length - e) ⟨0,rfl,by omega,fun _ h=>by omega,rfl⟩ (bp wB) ?_;rintro j st ⟨e,rfl,he,gO,rfl⟩;refine br ?_ ?_<;>intro hL
 ·have au:e < types.length:=by have:=hL;simp [hN] at this;exact this
  obtain ⟨x,hx⟩:=gX au;have hg:=jC hx;obtain ⟨xw,⟨xh,xp⟩⟩:=x;refine iX (dNms_get hx) ?_;refine br ?_ ?_<;>intro hq
  ·have hq:xw.s=s:=sU hq;rw [BJ (p:=e) (by rw [hg,hq]) (fun j hj=>Nat.le_of_not_lt fun hl=>gO j hl hj)];exact (rfl:_=_)
  ·have hq:¬ xw.s=s:=sU hq;refine ⟨Vc ⟨ae,order,types,.mk rh rp⟩ s (e + 1),(bp (cY (aN au (by omega)))),types.length - (e + 1),by omega,e + 1,rfl,by omega,fun j hj=>?_,rfl⟩;rcases kE hj with hj | rfl
   ·exact gO j hj
   ·rw [hg];simpa using hq
 ·have hge:e=types.length:=sW hN hL;rw [Kd (fun j hj=>gO j (by omega))];exact (rfl:_=_)
abbrev abW (S:Sch) (l:List Wd) (e:Nat):St:=
 ⟨[bh 1 2 (bG l),aE 2 0,aE 4 1,ay 5 e],[eH S,[.v (.int .i64 0),.v (.int .i64 0)]],[]⟩
theorem EU (S:Sch) (hs:wdsWt S.ae<=1099511627776) (l:List Wd) (hl:wdsWt l<=1099511627776) :
  EvP prog 283 [.agg (eH S),.sl 2 (bG l) none] (labW (aA S.ae) l).d:=by
 have mW:=bu l;obtain ⟨ae,order,types,⟨rh,rp⟩⟩:=S;simp only at hs;refine eG 28 [.cell 4 44] func283 rfl ntmps283 rfl fun _ _ _ _=>?_;refine lI (fun j st=>∃ e:Nat,st=abW ⟨ae,order,types,.mk rh rp⟩ l e/\e<=l.length/\labW (aA ae) l=labW (aA ae) (l.drop e)/\j=l.length - e) ⟨0,rfl,by omega,rfl,rfl⟩ (bp wB) ?_;rintro j st ⟨e,rfl,he,aO,rfl⟩;rw [aO];refine br ?_ ?_<;>intro hL
 ·have au:e < l.length:=by simpa [aC] using hL
  obtain ⟨w,hw⟩:=gX au;have aW:=sj (L:=aA ae) hw;refine dI ?_;refine ⟨j2 w,⟨by omega,aT hw⟩,?_⟩;refine cD vI (fy ae w.s hs) ?_;refine br ?_ ?_<;>intro ha
  ·have ha:=fQ.1 ha;rw [aW,ap ha];refine ⟨j2 w,⟨by omega,aT hw⟩,?_⟩;exact ⟨_,ax,rfl⟩
  ·rw [aj (fun hn=>by have:=fQ.2 hn;rw [ha] at this;cases this)] at aW;exact rE ⟨_,by omega,e + 1,rfl,by omega,aW,rfl⟩ (bp (cY (aN au (by omega))))
 ·have hge:e=l.length:=by have:=hL;simp [aC] at this;omega
  rw [hge,List.drop_length];exact ⟨_,ax,rfl⟩
def ia (l:List Ty):List (List DV):=l.map dX
theorem dQ (l:List Ty):(ia l).length=l.length:=by simp [ia]
theorem kf {l:List Ty} {j:Nat} {t:Ty} (h:l[j]? = some t):(ia l)[j]? = some (dX t):=by simp [ia,h]
def fZ (S:Sch):List Ty:=S.types.map fun x=>x.2
def gd (S:Sch):List Ty:=fZ S ++ [S.root]
abbrev abX (S:Sch) (q e:Nat):St:=
 ⟨[aE 1 0,(3,⟨[],.sl 9 (ia ((fZ S).take e)) (some 0)⟩),ay 4 e],[eH S],[⟨q,29,9,none⟩]⟩
theorem EV (S:Sch) (hl:S.types.length<=1099511627776) :
  EvP prog 54 [.agg (eH S)] (.sl 9 (ia (gd S)) none):=by
 have hN:=dM S.types;obtain ⟨ae,order,types,⟨rh,rp⟩⟩:=S;simp only at hl hN;refine eG 26 [.tmp 2] func54 rfl ntmps54 rfl fun _ _ _ _=>?_;refine lJ (fun e=>abX ⟨ae,order,types,.mk rh rp⟩ e e) types.length (dx 1 ⟨0,29,9,none⟩ rfl rfl rfl pP rfl rfl kj) ?_;intro e he;have gl:(ia ((fZ ⟨ae,order,types,.mk rh rp⟩).take e)).length=e:=by simp [ia,fZ];omega
 refine br ?_ ?_<;>intro hL
 ·have au:e < types.length:=by have:=hL;simp [hN] at this;exact this
  obtain ⟨x,hx⟩:=gX au
  have ek:ia ((fZ ⟨ae,order,types,.mk rh rp⟩).take e) ++ [dX x.2]=ia ((fZ ⟨ae,order,types,.mk rh rp⟩).take (e + 1)):=by
   rw [List.take_add_one];simp [fZ,hx,ia]
  obtain ⟨xw,⟨xh,xp⟩⟩:=x;refine iX (dNms_get hx) ?_;refine ⟨gl,⟨by rw [gl];simp [maxLen];omega,by rw [gl];simp;omega⟩,?_⟩;exact rE ⟨_,by omega,e + 1,rfl,by omega,rfl⟩ (dj 1 (yy (aN au (by omega)) ek) (iT (aN au (by omega)) ek))
 ·have hge:e=types.length:=sW hN hL;have Na:ia ((fZ ⟨ae,order,types,.mk rh rp⟩).take e) ++ [dX (.mk rh rp)]=ia (gd ⟨ae,order,types,.mk rh rp⟩):=by grind [fZ,gd,ia]
  refine ⟨gl,⟨by rw [gl];simp [maxLen];omega,by rw [gl];simp;omega⟩,?_⟩;rw [<- Na];exact ⟨_,ax,rfl⟩
mutual
def flatT:Ty->List Ty
 | .mk h ps=>if h.ag=9 then [] else .mk h ps :: flatP ps
def flatP:Pts->List Ty
 | .nil=>[]
 | .cons p t r=>(if p.bare then [] else flatT t) ++ flatP r
end
mutual
theorem jN:∀ t:Ty,(flatT t).length=t.nn
 | .mk h ps=>by
  have:=sy ps
  grind [flatT,Ty.nn]
theorem sy:∀ ps:Pts,(flatP ps).length=ps.nn
 | .nil=>rfl
 | .cons p t r=>by
  have:=jN t;have:=sy r
  grind [flatP,Pts.nn]
end
theorem SO {P:Program} {f:FuncId} {args:List DV} {e:Nat} {es:List (List DV)} (h:Ev P f args [] [] (fun r _ _=>r = .sl e es none∨(es=[]/\r = .v (.slice none 0 0)))):EvP P f args (.sl e es none):=by
 intro E w vs hE ht hv;refine (h E w vs hE ht hv).mono ?_;rintro e' w' ⟨v,rfl,hM,hs,d,os,E',h1,h2,h3,h4,h5,h6⟩;rcases h6 with rfl | ⟨rfl,rfl⟩
 ·exact ⟨v,rfl,hM,hs,_,os,E',h1,h2,h3,h4,h5,rfl⟩
 ·refine ⟨v,rfl,hM,hs,.sl e [] none,os,E',h1,h2,h3,h4,?_,rfl⟩;unfold Rv at h5 ⊢;exact ⟨_,0,0,h5.1,⟨rfl,aQ _⟩,fun hn=>(hn rfl).elim,fun k hk=>by cases hk⟩
abbrev W9 (t:Ty) (L:List Ty) (q e:Nat):St:=
 ⟨[aE 1 0,(3,⟨[],.sl 9 (ia L) (some 0)⟩),ay 4 e],[dX t],[⟨q,29,9,none⟩]⟩
theorem oq:∀ (k:Nat) (t:Ty),t.wt<=k->t.wt<=1099511627776 ->
  EvP prog 55 [.agg (dX t)] (.sl 9 (ia (flatT t)) none)
 | 0,t,hn,_=>by have:=t.dy;omega
 | k + 1,.mk h ps,hn,cw=>by
  simp only [Ty.wt,Hd.wt] at hn cw;have gn:=ps.fK;have hc:=ps.eF;have nZ:=ps.gy;have Ng:=sy ps;refine SO ?_;refine qg (s:=false) (bt:=[]) (mu:=[9]) (hbt:=fun p hp=>by cases hp) (fr:=false) (P:=prog) tt fo 5000 34 [.tmp 2] func55 rfl ntmps55 rfl (nL rfl) (fun _ _ _ _=>?_);refine br ?_ ?_<;>intro h9
  ·have h9:h.ag=9:=sU h9;have:flatT (.mk h ps)=[]:=by simp [flatT,h9]
   exact .inr ⟨by rw [this];rfl,rfl⟩
  have h9:¬ h.ag=9:=sU h9;have Vd:flatT (.mk h ps) = .mk h ps :: flatP ps:=by simp [flatT,h9]
  refine WX rfl rfl rfl rfl rfl rfl rfl rfl ?_
  refine aV (fun j st=>∃ (e q:Nat) (L:List Ty),st=W9 (.mk h ps) L q e/\q=L.length/\e<=ps.len/\flatT (.mk h ps)=L ++ flatP (ps.drop e)/\j=ps.len - e) ps.len
   (W9 (.mk h ps) [.mk h ps] 1 0) (dj 1 pP kj) ⟨0,1,_,rfl,rfl,by omega,Vd,by omega⟩ ?_
  rintro j st ⟨e,q,L,rfl,hq,he,bf,rfl⟩
  have hLl:L.length<=1 + ps.nn:=by
   have:=congrArg List.length bf;rw [Vd] at this;simp at this;omega
  refine br ?_ ?_<;>intro hL
  ·have au:e < ps.len:=by simpa [aH] using hL
   obtain ⟨p,t,hx⟩:=Pts.eE au;have D0:=Pts.gq (mG hx);rw [Pts.drop_cons hx] at bf;simp only [flatP] at bf;obtain ⟨u,us⟩:=t;refine iX (bQ hx) ?_;refine br ?_ ?_<;>intro hB
   ·have hB:p.bare=false:=sU hB;have bf:flatT (.mk h ps)=(L ++ flatT (.mk u us)) ++ flatP (ps.drop (e + 1)):=by rw [bf,hB,List.append_assoc];all_goals rfl
    have BR:L.length + (flatT (.mk u us)).length<=1 + ps.nn:=by
     have:=congrArg List.length bf;rw [Vd] at this;simp at this;omega
    have ek:ia L ++ ia (flatT (.mk u us))=ia (L ++ flatT (.mk u us)):=by simp [ia]
    refine iX (bQ hx) ?_;refine cP RW (oq k (.mk u us) (by omega) (by omega)) ?_;refine ⟨by rw [dQ,hq],⟨by simp only [dQ,maxLen];omega,by simp only [dQ];omega⟩,?_⟩;exact ⟨W9 (.mk h ps) (L ++ flatT (.mk u us)) (q + (ia (flatT (.mk u us))).length) (e + 1),(dj 1 (yy (aN au (by omega)) ek) (iT (aN au (by omega)) ek)),ps.len - (e + 1),by omega,e + 1,_,_,rfl,by rw [dQ,List.length_append,hq],by omega,bf,rfl⟩
   ·have hB:p.bare=true:=sU hB;rw [hB] at bf;exact rE ⟨_,by omega,e + 1,q,L,rfl,hq,by omega,bf,rfl⟩ (dj 1 (kH (aN au (by omega))) (cY (aN au (by omega))))
  ·have hge:e=ps.len:=by simp [aH] at hL;omega
   rw [hge,Pts.dn] at bf;simp only [flatP,List.append_nil] at bf;rw [bf];exact ⟨_,ax,.inl rfl⟩
theorem xc (S:Sch) (hl:S.types.length<=1099511627776) (hr:∀ x∈S.types,uz S x.2=true):∀ (k i:Nat),i < S.types.length->k<=99 ->
  EvP prog 123 [.agg (eH S),.v (.int .i64 i),.v (.int .i64 k)] (.v (.int .i64 (oz (endI S (k + 1) i))))
 | k,i,hi,hk=>by
  have hN:=dM S.types;have BL:=fun s=>kA S s hl;have ih:∀ k' j,k=k' + 1->j < S.types.length->EvP prog 123 [.agg (eH S),.v (.int .i64 j),.v (.int .i64 k')] (.v (.int .i64 (oz (endI S (k' + 1) j)))):=fun k' j he hj=>xc S hl hr k' j hj (by omega);obtain ⟨x,hx⟩:∃ x,S.types[i]? = some x:=⟨_,gE hi⟩;have mU:=hr x (mG hx);have gl:=ka S;obtain ⟨xw,⟨xh,xp⟩⟩:=x;have hE:endI S (k + 1) i=if xh.ag=9 then endI S k ((cV (tL S) xh.name.s).getD 0) else some i:=by rw [endI,hx];all_goals rfl
  obtain ⟨ae,order,types,⟨rh,rp⟩⟩:=S;simp only at hl hN hi hx mU gl;refine eG 32 [.tmp 6] func123 rfl ntmps123 rfl fun _ _ _ _=>?_;refine iX (dNms_get hx) ?_;refine br ?_ ?_<;>intro h9
  ·have h9:¬ xh.ag=9:=sU h9;rw [aj h9] at hE;rw [hE];exact (rfl:_=_)
  have h9:xh.ag=9:=sU h9;rw [ap h9] at hE;rw [hE];refine br ?_ ?_<;>intro h1
  ·have h1:k=0:=by have:=h1;simp at this;omega
   subst h1;exact (rfl:_=_)
  have h1:1<=k:=by have:=h1;simp at this;omega
  obtain ⟨k',rfl⟩:∃ k',k=k' + 1:=⟨k - 1,by omega⟩;have Rh:=of_decide_eq_true mU h9;obtain ⟨j,hj⟩:∃ j,cV (tL ⟨ae,order,types,.mk rh rp⟩) xh.name.s=some j:=Option.ne_none_iff_exists'.1 Rh;have pO:=(dh hj).1;rw [gl] at pO;have hf:=BL xh.name.s;rw [hj] at hf ⊢;have gD:IntKind.i64.wrap (((k' + 1:Nat):Int) - 1)=(k':Int):=by rw [wrap64 (by omega) (by omega)];omega
  refine dI ?_;refine iX (dNms_get hx) ?_;refine cD Jz hf ?_;refine cD NJ (ih k' j rfl pO) ?_ (rz gD);exact (rfl:_=_)
theorem sA {S:Sch}:∀ {k i j:Nat},endI S k i=some j->endI S (k + 1) i=some j
 | 0,i,j,h=>by cases h
 | k + 1,i,j,h=>by
  rw [endI] at h ⊢
  cases hx:S.types[i]? with
  | none=>rw [hx] at h;cases h
  | some x=>
   rw [hx] at h;simp only at h ⊢;split at h
   ·rename_i h9;rw [ap h9];exact sA h
   ·rename_i h9;rw [aj h9];exact h
def xe (S:Sch) (k:Nat):List Bool:=(List.range S.types.length).map fun i=>(endI S k i).isSome
theorem qS (S:Sch) (k:Nat):(xe S k).length=S.types.length:=by simp [xe]
theorem xf {S:Sch} {k i:Nat} (hi:i < S.types.length):(xe S k).getD i false=(endI S k i).isSome:=by grind [xe]
theorem SP (S:Sch) (k:Nat):Se (xe S k) (xe S (k + 1)):=by
 intro i h;by_cases hi:i < S.types.length
 ·rw [xf hi] at h ⊢;obtain ⟨j,hj⟩:=Option.isSome_iff_exists.1 h;rw [sA hj];rfl
 ·grind [qS]
theorem PA {S:Sch} {k:Nat} (h:xe S k=xe S (k + 1)):∀ i,endI S (k + 2) i=endI S (k + 1) i:=by
 intro i
 have key:∀ {j:Nat},j < S.types.length->(endI S k j).isSome=(endI S (k + 1) j).isSome:=fun {j} hj=>by
  rw [<- xf hj,<- xf hj,h]
 have same:∀ j,endI S (k + 1) j=endI S k j:=fun j=>by
  cases h1:endI S k j with
  | some m=>exact sA h1
  | none=>
   cases h2:endI S (k + 1) j with
   | none=>rfl
   | some m=>grind [endI]
 grind [endI]
theorem Ae (S:Sch):∀ k,(∀ i,endI S (k + 1) i=endI S k i)∨k<=wu (xe S k)
 | 0=>.inr (Nat.zero_le _)
 | k + 1=>by
  rcases Ae S k with h | h
  ·grind [endI]
  ·rcases (wv (by rw [qS,qS]) (SP S k)).1 with h2 | h2
   ·exact .inl (PA h2)
   ·exact .inr (by omega)
theorem EW {S:Sch}:∀ {k:Nat},S.types.length + 1<=k->∀ i,endI S k i=endI S (S.types.length + 1) i:=by
 have aW:∀ i,endI S (S.types.length + 2) i=endI S (S.types.length + 1) i:=fun i=>by
  rcases Ae S (S.types.length + 1) with h | h
  ·exact h i
  ·grind [JW,xe,qS]
 have key:∀ d i,endI S (S.types.length + 1 + (d + 1)) i=endI S (S.types.length + 1 + d) i:=by
  intro d
  induction d with
  | zero=>exact aW
  | succ d ih=>grind [endI]
 intro k hk i;obtain ⟨d,rfl⟩:∃ d,k=S.types.length + 1 + d:=⟨k - (S.types.length + 1),by omega⟩;clear hk
 induction d with
 | zero=>rfl
 | succ d ih=>rw [key,ih]
theorem xg (S:Sch) (hl:S.types.length<=64) (hr:∀ x∈S.types,uz S x.2=true) (i:Nat) (hi:i < S.types.length) :
  EvP prog 123 [.agg (eH S),.v (.int .i64 i),.v (.int .i64 (99:Nat))] (.v (.int .i64 (oz (endI S (S.types.length + 1) i)))):=by
 have:=xc S (by omega) hr 99 i hi (aQ _)
 rwa [EW (by omega)] at this
abbrev abZ (S:Sch) (k n e:Nat):St:=
 ⟨[aE 2 0,ay 5 k,ay 6 n,ay 7 e],[eH S],[]⟩
theorem xi (S:Sch) (hl:S.types.length<=64) (hs:nmsWt S.types<=1099511627776) (hr:∀ x∈S.types,uz S x.2=true) (s:ByteArray) (i k:Nat) (hi:cV (tL S) s=some i) (hk:endI S (S.types.length + 1) i=some k) :
  EvP prog 57 [.agg (eH S),.v (.string s)] (.v (.int .i64 (firstA S k))):=by
 have hN:=dM S.types;have MP:=(dh hi).1;rw [ka] at MP;have lG:=(qL hk).1;have hf:=kA S s (by omega);have he:=xg S hl hr i MP;rw [hi] at hf;rw [hk] at he;have hfa:=@nE S;have J4:=zX S;obtain ⟨ae,order,types,⟨rh,rp⟩⟩:=S;simp only at hl hs hN MP lG hfa J4;refine eG 29 [.tmp 4] func57 rfl ntmps57 rfl fun _ _ _ _=>?_;refine dI ?_;refine cD Jz hf ?_;refine cD NJ he ?_;refine lJ (fun e=>abZ ⟨ae,order,types,.mk rh rp⟩ k (firstA ⟨ae,order,types,.mk rh rp⟩ e) e) k (bp wB) ?_;intro e hek;refine br ?_ ?_<;>intro hL
 ·have au:e < k:=sU hL;obtain ⟨x,hx⟩:∃ x,types[e]? = some x:=⟨_,gE (by omega)⟩;have Gz:=gI (mG hx);have h1:=hfa hx;have h2:=J4 e;have h3:=J4 (e + 1);have h4:=jN x.2;obtain ⟨xw,⟨xh,xp⟩⟩:=x;simp only at Gz h1 h4;refine iX (dNms_get hx) ?_;refine cP RW (oq _ (.mk xh xp) (aQ _) (by omega)) ?_;have yB:IntKind.i64.wrap ((firstA ⟨ae,order,types,.mk rh rp⟩ e:Int) + (ia (flatT (.mk xh xp))).length)=(firstA ⟨ae,order,types,.mk rh rp⟩ (e + 1):Int):=by grind [dQ,wrap64]
  exact rE ⟨_,by omega,e + 1,rfl,by omega,rfl⟩ (bp (iT yB (aN au (by omega))))
 ·have hge:e=k:=by have:=hL;simp at this;omega
  subst hge;exact (rfl:_=_)
theorem Kg {S:Sch} {e:Nat} {x:Wd × Ty} (h:S.types[e]? = some x):(uy S)[e]? = some x.1:=by simp [uy,h]
abbrev ab0 (S:Sch) (e:Nat):St:=
 ⟨[aE 1 0,aE 2 1,ay 3 e],[eH S,[.v (.int .i64 0),.v (.int .i64 0)]],[]⟩
theorem BZ (S:Sch) (hs:nmsWt S.types<=1099511627776) :
  EvP prog 241 [.agg (eH S)] (eK S).d:=by
 have hN:=dM S.types;have hZ:=jJ S.types;have gl:=J7 S;have hF:=eK.eq_1 S;have jC:=@Kg S;have BL:=fun s=>kA S s (by omega);have hTL:tL S=aA (uy S):=rfl;obtain ⟨ae,order,types,⟨rh,rp⟩⟩:=S;simp only at hs hN hZ gl jC hF;generalize hQ:uy ⟨ae,order,types,.mk rh rp⟩=Q at gl hF jC hTL;refine eG 47 [.cell 2 44] func241 rfl ntmps241 rfl fun _ _ _ _=>?_;generalize eK ⟨ae,order,types,.mk rh rp⟩=F at hF ⊢;refine br ?_ ?_<;>intro h
 ·have h:64 < types.length:=by simp [hN] at h;omega
  obtain ⟨x,hx⟩:∃ x,types[64]? = some x:=⟨_,gE h⟩;have WR:=jC hx;rw [ap h,ky WR] at hF;obtain ⟨xw,⟨xh,xp⟩⟩:=x;refine iX (dNms_get hx) ?_;refine ⟨_,?_,rfl⟩;rw [hF];exact ax
 have h:¬ 64 < types.length:=by simp [hN] at h;omega
 rw [aj h] at hF;refine lI (fun j st=>∃ e:Nat,st=ab0 ⟨ae,order,types,.mk rh rp⟩ e/\e<=types.length/\enumL Q 0 Q=enumL Q e (Q.drop e)/\j=types.length - e) ⟨0,rfl,by omega,rfl,rfl⟩ (bp wB) ?_;rintro j st ⟨e,rfl,he,aO,rfl⟩;rw [aO] at hF;refine br ?_ ?_<;>intro hL
 ·have au:e < types.length:=by have:=hL;simp [hN] at this;exact this
  obtain ⟨x,hx⟩:=gX au;have Gz:=gI (mG hx);have hq:=jC hx;have aW:=pk hq;obtain ⟨p,hp,Jh⟩:=Py hq;obtain ⟨xw,⟨xh,xp⟩⟩:=x;simp only [Wd.wt] at Gz hq aW hp Jh;have hf:=BL xw.s;rw [hTL,hp] at hf;have hlab:=l8 [xw] (by simp only [wdsWt,Wd.wt];omega);have yC:bM [xw]=if bd xw.s then (0,0) else (9,xw.a):=by simp [bM,badWd]
  refine iX (dNms_get hx) ?_;refine cP NW hlab ?_;refine br ?_ ?_<;>intro hN
  ·have hN:(bM [xw]).1≠0:=sU hN
   cases bI:bd xw.s with
   | true=>rw [yC,bI] at hN;exact absurd rfl hN
   | false=>
   rw [bI] at yC;have yC:bM [xw]=(9,xw.a):=yC;have hf9:aG Q e xw=9:=by simp [aG,bI]
   rw [aW,hf9,ap (by decide)] at hF;refine ⟨_,?_,rfl⟩;rw [hF,yC];exact ax
  ·have hN:(bM [xw]).1=0:=sU hN
   cases bI:bd xw.s with
   | false=>rw [yC,bI] at hN;exact absurd hN (by simp)
   | true=>
   refine cP Jz hf ?_;refine br ?_ ?_<;>intro h2
   ·have h2:p < e:=by have:=h2;simp [oz] at this;exact this
    have hf10:aG Q e xw=10:=by simp [aG,bI,Jh.1 h2]
    rw [aW,hf10,ap (by decide)] at hF;refine ⟨_,?_,rfl⟩;rw [hF];exact ax
   ·have h2:¬ p < e:=by have:=h2;simp [oz] at this;omega
    have hd:cH (Q.take e) xw.s=false:=by grind
    have hf0:aG Q e xw=0:=by simp [aG,bI,hd]
    rw [hf0,aj (by simp)] at aW;exact rE ⟨_,by omega,e + 1,rfl,by omega,by rw [aO,aW],rfl⟩ (bp (cY (aN au (by omega))))
 ·have hge:e=types.length:=sW hN hL;rw [hge,<- gl,List.drop_length] at hF;refine ⟨_,?_,rfl⟩;rw [hF];exact ax
abbrev Kh (S:Sch) (t:Ty) (e:Nat):St:=
 ⟨[aE 2 0,aE 3 1,aE 4 2,ay 5 e],[eH S,dX t,[.v (.int .i64 0),.v (.int .i64 0)]],[]⟩
theorem qT (S:Sch) (hl:S.types.length<=1099511627776) (hs:wdsWt S.ae<=1099511627776):∀ (k:Nat) (t:Ty),t.wt<=k->t.wt<=1099511627776 ->
  EvP prog 243 [.agg (eH S),.agg (dX t)] (lK S t).d
 | 0,t,hn,_=>by have:=t.dy;omega
 | k + 1,.mk h ps,hn,cw=>by
  have ih:=qT S hl hs k;simp only [Ty.wt,Hd.wt] at hn cw;have gn:=ps.fK;have hf:=kA S h.name.s hl;have Yj:=fun l hl=>EU S hs l hl;have hS:lK S (.mk h ps)=if h.ag=9/\cV (tL S) h.name.s=none then (15,h.name.a) else knP ⟨aA S.ae,[],[],[],fun _ _=>false⟩ (tL S) ps:=by rw [lK,knT]
  have hS0:knP ⟨aA S.ae,[],[],[],fun _ _=>false⟩ (tL S) ps=knP ⟨aA S.ae,[],[],[],fun _ _=>false⟩ (tL S) (ps.drop 0):=by rw [Pts.drop]
  have hK:∀ e p u,ps.toList[e]? = some (p,u)->knP ⟨aA S.ae,[],[],[],fun _ _=>false⟩ (tL S) (ps.drop e)=if (labW (aA S.ae) p.label).1≠0 then labW (aA S.ae) p.label else if (labW (aA S.ae) p.cl).1≠0 then labW (aA S.ae) p.cl else if p.bare then knP ⟨aA S.ae,[],[],[],fun _ _=>false⟩ (tL S) (ps.drop (e + 1)) else if (lK S u).1≠0 then lK S u else knP ⟨aA S.ae,[],[],[],fun _ _=>false⟩ (tL S) (ps.drop (e + 1)):=fun e p u hx=>by
   rw [Pts.drop_cons hx,knP];all_goals rfl
  have hK0:knP ⟨aA S.ae,[],[],[],fun _ _=>false⟩ (tL S) .nil=(0,0):=by rw [knP]
  generalize knP ⟨aA S.ae,[],[],[],fun _ _=>false⟩ (tL S)=KP at hS hS0 hK hK0;obtain ⟨ae,order,types,⟨rh,rp⟩⟩:=S;refine eG 64 [.cell 4 44] func243 rfl ntmps243 rfl fun _ _ _ _=>?_;generalize lK ⟨ae,order,types,.mk rh rp⟩ (.mk h ps)=F at hS ⊢;refine have body:=?_;br (fun h9=>call_p Jz hf ax rfl (br (fun hx=>?_) (fun hx=>aV (fun j st=>∃ e:Nat,st=Kh ⟨ae,order,types,.mk rh rp⟩ (.mk h ps) e/\e<=ps.len/\F=KP (ps.drop e)/\j=ps.len - e) ps.len (Kh ⟨ae,order,types,.mk rh rp⟩ (.mk h ps) 0) (bp wB) ⟨0,rfl,by omega,?_,by omega⟩ body))) (fun h9=>aV (fun j st=>∃ e:Nat,st=Kh ⟨ae,order,types,.mk rh rp⟩ (.mk h ps) e/\e<=ps.len/\F=KP (ps.drop e)/\j=ps.len - e) ps.len (Kh ⟨ae,order,types,.mk rh rp⟩ (.mk h ps) 0) (bp wB) ⟨0,rfl,by omega,?_,by omega⟩ body)
  rotate_left
  ·have h9:h.ag=9:=sU h9;have hx:cV (tL ⟨ae,order,types,.mk rh rp⟩) h.name.s=none:=fQ.1 (by simpa [pickB] using hx);rw [ap ⟨h9,hx⟩] at hS;refine ⟨_,?_,rfl⟩;rw [hS];exact ax
  ·have hx:¬ cV (tL ⟨ae,order,types,.mk rh rp⟩) h.name.s=none:=fun hn=>by
    have h3:=fQ.2 hn;simp [pickB] at hx;have h3:=of_decide_eq_true h3;omega
   rw [aj (fun hc=>hx hc.2),hS0] at hS;exact hS
  ·grind
  rintro j st ⟨e,rfl,he,aO,rfl⟩;refine br ?_ ?_<;>intro hL
  ·have au:e < ps.len:=by simpa [aH] using hL
   obtain ⟨p,t,hx⟩:=Pts.eE au;have D0:=Pts.gq (mG hx);have hk:=hK e p t hx;have hw1:wdsWt p.label + wdsWt p.cl<=p.wt:=by simp only [Ph.wt];omega
   obtain ⟨u,us⟩:=t;refine iX (bQ hx) ?_;refine cP Ur (Yj p.label (by omega)) ?_;refine br ?_ ?_<;>intro b1
   ·have b1:(labW (aA ae) p.label).1=0:=sU b1;rw [aj (by simp [b1])] at hk;refine cP Ur (Yj p.cl (by omega)) ?_;refine br ?_ ?_<;>intro b2
    ·have b2:(labW (aA ae) p.cl).1=0/\p.bare=false:=by
      rw [ai] at b2;simpa using b2
     obtain ⟨b2,b3⟩:=b2;rw [aj (by simp [b2]),aj (by simp [b3])] at hk;refine cP NV (ih (.mk u us) (by omega) (by omega)) ?_;refine br ?_ ?_<;>intro b4
     ·have b4:(lK ⟨ae,order,types,.mk rh rp⟩ (.mk u us)).1≠0:=sU b4;rw [ap b4] at hk
      (refine ⟨_,?_,rfl⟩;rw [aO,hk];exact ax)
     ·have b4:(lK ⟨ae,order,types,.mk rh rp⟩ (.mk u us)).1=0:=sU b4;rw [aj (by simp [b4])] at hk;exact rE ⟨_,by omega,e + 1,rfl,by omega,by rw [aO,hk],rfl⟩ (bp (cY (aN au (by omega))))
    ·refine br ?_ ?_<;>intro b4
     ·have b4:(labW (aA ae) p.cl).1≠0:=sU b4;rw [ap b4] at hk
      (refine ⟨_,?_,rfl⟩;rw [aO,hk];exact ax)
     ·have b4:(labW (aA ae) p.cl).1=0:=sU b4
      have b3:p.bare=true:=by
       rw [ai] at b2;simpa [b4] using b2
      rw [aj (by simp [b4]),ap b3] at hk;exact rE ⟨_,by omega,e + 1,rfl,by omega,by rw [aO,hk],rfl⟩ (bp (cY (aN au (by omega))))
   ·have b1:¬ (labW (aA ae) p.label).1=0:=sU b1;rw [ap b1] at hk;refine br ?_ ?_<;>intro b2
    ·rw [ai] at b2;simp [b1] at b2
    ·refine br ?_ ?_<;>intro b4
     ·(refine ⟨_,?_,rfl⟩;rw [aO,hk];exact ax)
     ·simp [b1] at b4
  ·have hge:e=ps.len:=by simp [aH] at hL;omega
   rw [hge,Pts.dn] at aO;refine ⟨_,?_,rfl⟩;rw [aO,hK0];exact ax
abbrev Ki (h:Hd) (ps:Pts) (e:Nat) (depth m:Int):St:=
 ⟨[ay 2 depth,aE 3 0,aE 4 1,aE 6 2,ay 7 e],[[.v (.int .i64 0),.v (.int .i64 0),.v (.int .i64 m)],dX (.mk h ps),[.v (.int .i64 0),.v (.int .i64 0),.v (.int .i64 0)]],[]⟩
theorem B0 (k:Nat) (ih:Bu k) (h:Hd) (ps:Pts) (depth m:Int) (hk:ps.wt<=k) (cw:(Ty.mk h ps).wt<=1099511627776) (zu:0<=depth) (uM:depth<=25) (lN:0<=m) (jk:m<=512) :
  EvP prog 242 [wD (0,0) m,.agg (dX (.mk h ps)),.v (.int .i64 depth)] (wD (wrong (.mk h ps) depth m).1 (wrong (.mk h ps) depth m).2):=by
 have zV:=cw;simp only [Ty.wt,Hd.wt] at zV;have gn:=ps.fK;have Wt:=bu h.af;have rC:IntKind.i64.wrap (m + 1)=m + 1:=wrap64 (by omega) (by omega)
 have hW:∀ e a,EvP prog 278 [.agg [.v (.int .i64 0),.v (.int .i64 0),.v (.int .i64 (IntKind.i64.wrap (m + 1)))],.v (.int .i64 e),.v (.int .i64 a)] (wD (e,a) (m + 1)):=by
  intro e a;rw [rC];exact eu (0,0) (m + 1) e a
 have hS:=wrong.eq_def (.mk h ps) depth m;simp only at hS;refine eG 201 [.cell 6 335] func242 rfl ntmps242 rfl fun _ _ _ _=>?_;refine br ?_ ?_<;>intro c
 ·have c:24 < depth:=of_decide_eq_true c;refine cP gH (hW 6 h.at') ?_;rw [ap c] at hS;refine ⟨_,?_,rfl⟩;rw [hS];exact ax
 have c:¬ 24 < depth:=of_decide_eq_false c;rw [aj c] at hS;refine br ?_ ?_<;>intro c
 ·have c:512 < IntKind.i64.wrap (m + 1):=of_decide_eq_true c;rw [rC] at c;refine cP gH (hW 8 h.at') ?_;rw [ap c] at hS;refine ⟨_,?_,rfl⟩;rw [hS];exact ax
 have c:¬ 512 < IntKind.i64.wrap (m + 1):=of_decide_eq_false c;rw [rC] at c;rw [aj c] at hS;refine br ?_ ?_<;>intro c
 ·have c:h.ag < 1∨9 < h.ag:=by simpa [aq] using c
  refine cP gH (hW 14 h.at') ?_;rw [ap c] at hS;refine ⟨_,?_,rfl⟩;rw [hS];exact ax
 have c:¬ (h.ag < 1∨9 < h.ag):=by simp [aq] at c;omega
 rw [aj c] at hS;refine cP Z7 (G4 (.mk h ps) (by omega)) ?_;refine br ?_ ?_<;>intro c
 ·have c:vS (.mk h ps)=false:=by simpa [vS] using c
  refine cP gH (hW 19 h.at') ?_;rw [ap c] at hS;refine ⟨_,?_,rfl⟩;rw [hS];exact ax
 have c:¬ vS (.mk h ps)=false:=by simpa [vS] using c
 rw [aj c] at hS;refine br ?_ ?_<;>intro c
 ·have c:(h.ag=2/\h.hi < h.lo)∨(h.ag=3/\(h.most < 0∨4096 < h.most)):=by simp [aq,ai] at c;omega
  refine cP gH (hW 20 h.at') ?_;rw [ap c] at hS;refine ⟨_,?_,rfl⟩;rw [hS];exact ax
 have c:¬ ((h.ag=2/\h.hi < h.lo)∨(h.ag=3/\(h.most < 0∨4096 < h.most))):=by simp [aq,ai] at c;omega
 rw [aj c] at hS;refine br ?_ ?_<;>intro k9
 ·have k9:h.ag=9:=sU k9;refine cP JA (kp h.name.s (by simp only [Wd.wt] at zV;omega)) ?_;refine br ?_ ?_<;>intro q
  ·have q:bd h.name.s=false:=by simpa [ai,k9] using q
   refine cP gH (hW 9 h.name.a) ?_;rw [ap ⟨k9,q⟩] at hS;refine ⟨_,?_,rfl⟩;rw [hS];exact ax
  ·have q:bd h.name.s=true:=by simpa [ai,k9] using q
   rw [aj (by simp [q]),aj (by omega),aj (by omega),aj (by omega)] at hS;refine br (fun x=>?_) (fun _=>?_)
   ·have:=of_decide_eq_true x;omega
   refine br (fun x=>?_) (fun _=>?_)
   ·simp [aq] at x;omega
   refine br (fun x=>?_) (fun _=>?_)
   ·simp [aq] at x;omega
   refine ⟨_,?_,rfl⟩;rw [hS];exact (rz rC)
 ·have k9:¬ h.ag=9:=sU k9;rw [aj (by simp [k9])] at hS;refine br ?_ ?_<;>intro k4
  ·have k4:h.ag=4:=of_decide_eq_true k4;rw [ap k4] at hS;refine br ?_ ?_<;>intro c
   ·have c:h.af=[]:=by simp [aC] at c;exact c
    refine cP gH (hW 15 h.at') ?_;refine ⟨_,?_,rfl⟩;rw [hS];simp only [iG,ap c];exact ax
   have c:¬ h.af=[]:=by simp [aC] at c;exact c
   refine br ?_ ?_<;>intro c2
   ·have au:64 < h.af.length:=by simp [aC] at c2;omega
    obtain ⟨x,hx⟩:=gX au;refine dS ?_;refine ⟨j2 x,⟨by omega,aT hx⟩,?_⟩;refine cD gH (hW 8 x.a) ?_;refine ⟨_,?_,rfl⟩;rw [hS];simp only [iG,aj c,ap au,hx,Option.getD_some];exact ax
   have c2:¬ 64 < h.af.length:=by simp [aC] at c2;omega
   have hE:iG h=enumL h.af 0 h.af:=by simp only [iG,aj c,aj c2]
   rw [hE] at hS
   refine aV (fun j st=>∃ (e:Nat),st=Ki h ps e depth (m + 1)/\e<=h.af.length/\enumL h.af 0 h.af=enumL h.af e (h.af.drop e)/\j=h.af.length - e) h.af.length
    (Ki h ps 0 depth (m + 1)) (dj 3 (kH rC) (cY rC)) ⟨0,rfl,by omega,rfl,by omega⟩ ?_
   rintro j st ⟨e,rfl,he,aO,rfl⟩;refine br ?_ ?_<;>intro hL
   ·have au:e < h.af.length:=by simpa [aC] using hL
    obtain ⟨x,hx⟩:=gX au;rw [drop_cons hx] at aO;simp only [enumL] at aO;refine cP Uq (oN h.af e x (by omega) hx) ?_;refine br ?_ ?_<;>intro hl
    ·have hl:aG h.af e x≠0:=sU hl;rw [ap hl] at aO;refine dS ?_;refine ⟨j2 x,⟨by omega,aT hx⟩,?_⟩;refine cD gH (eu (0,0) (m + 1) _ x.a) ?_;refine ⟨_,?_,rfl⟩;rw [hS,aO];exact ax
    ·have hl:aG h.af e x=0:=sU hl;rw [aj (by simp [hl])] at aO;exact rE ⟨_,by omega,e + 1,rfl,by omega,aO,rfl⟩ (bp (cY (aN au (by omega))))
   ·have hge:e=h.af.length:=by simp [aC] at hL;omega
    rw [hge,List.drop_length] at aO;simp only [enumL] at aO;rw [aO] at hS;refine br (fun x=>?_) (fun _=>?_)
    ·simp [aq] at x;omega
    refine br (fun x=>?_) (fun _=>?_)
    ·simp [aq] at x;omega
    refine ⟨_,?_,rfl⟩;rw [hS];exact ax
  ·have k4:¬ h.ag=4:=of_decide_eq_false k4;rw [aj k4] at hS;refine br ?_ ?_<;>intro k5
   ·have k5:h.ag=5∨h.ag=6:=by simpa [aq] using k5
    rw [ap k5] at hS
    cases ps with
    | nil=>
     refine cP gH (hW 19 h.at') ?_;refine ⟨_,?_,rfl⟩;rw [hS];simp only [wrongOne];exact ax
    | cons p t r=>
     cases r with
     | cons p2 t2 r2=>
      refine cP gH (hW 19 h.at') ?_;refine ⟨_,?_,rfl⟩;rw [hS];simp only [wrongOne];exact ax
     | nil=>
      obtain ⟨u,us⟩:=t;simp only [wrongOne] at hS;simp only [Ty.wt,Pts.wt] at zV hk;refine ⟨_,⟨by omega,rfl⟩,?_⟩;refine br ?_ ?_<;>intro c
      ·have c:p.name.s=av:=by
        have:=c;simp [aq] at this;exact this
       refine ⟨_,⟨by omega,rfl⟩,?_⟩;refine cP NX (l7 p fp (dX (.mk u us)) (dX cJ) (by omega) (zy _ _ _ _ _) (zy _ _ _ _ _)) ?_;refine br ?_ ?_<;>intro q
       ·have q:cC p fp=false:=by simpa [aq,c] using q
        refine cP gH (hW 19 h.at') ?_;rw [ap (by simp [q])] at hS;refine ⟨_,?_,rfl⟩;rw [hS];exact ax
       ·have q:cC p fp=true:=by simpa [aq,c] using q
        rw [aj (by simp [q,c])] at hS;refine br ?_ ?_<;>intro x
        ·have x:h.most < 0∨1024 < h.most:=by simpa [aq] using x
         refine cP gH (hW 20 h.at') ?_;rw [ap x] at hS;refine ⟨_,?_,rfl⟩;rw [hS];exact ax
        ·have x:¬ (h.most < 0∨1024 < h.most):=by simp [aq] at x;omega
         rw [aj x] at hS;refine dS ?_;refine ⟨_,⟨by omega,rfl⟩,?_⟩;refine cD NU (ih (.mk u us) (depth + 1) (m + 1) (by simp only [Ty.wt];omega) (by simp only [Ty.wt];omega) (by omega) (by omega) (by omega) (by omega)) ?_ (by repeat' (first | exact rfl | exact trivial | exact Or.inr (Or.inl ⟨_,rfl⟩) | exact Or.inr ⟨_,rfl⟩ | exact Or.inl ⟨rfl,rfl⟩ | exact Or.inl rfl | refine Or.inr ⟨_,_,rfl,Nat.zero_le _,rfl,?_⟩ | refine ⟨_,_,rfl,?_,?_⟩ | refine ⟨_,rfl,?_⟩ | exact congrArg (fun z=>DV.v (.int .i64 z)) rC | exact congrArg (fun z=>DV.v (.int .i64 z)) (wrap64 (by omega) (by omega))| refine Or.inr (Or.inr (Or.inr ⟨_,_,rfl,?_⟩)) | exact Or.inl rfl | refine Or.inr ?_));refine ⟨_,?_,rfl⟩;rw [hS];exact ax
      ·have c:p.name.s≠av:=by
        have:=c;simp [aq] at this;exact this
       refine cP gH (hW 19 h.at') ?_;rw [ap (.inl c)] at hS;refine ⟨_,?_,rfl⟩;rw [hS];exact ax
   ·have k5:¬ (h.ag=5∨h.ag=6):=by simp [aq] at k5;omega
    rw [aj k5] at hS;refine br ?_ ?_<;>intro k7
    ·have k7:h.ag=7∨h.ag=8:=by simpa [aq] using k7
     rw [ap k7] at hS;have hP:wrong (.mk h ps) depth m=eX h ps depth (m + 1):=by rw [hS];all_goals rfl
     refine cP Z8 (Bv k ih h ps depth (m + 1) hk cw zu (by omega) (by omega) (by omega)) ?_ (rz rC);refine ⟨_,?_,rfl⟩;rw [hP];exact ax
    ·have k7:¬ (h.ag=7∨h.ag=8):=by simp [aq] at k7;omega
     rw [aj k7] at hS;refine ⟨_,?_,rfl⟩;rw [hS];exact (rz rC)
theorem Af:∀ k,Bu k
 | 0=>fun t depth m hk=>by have:=t.dy;omega
 | k + 1=>fun t depth m hk cw zu uM lN jk=>by
  obtain ⟨h,ps⟩:=t;have gD:=hk;simp only [Ty.wt,Hd.wt] at gD;exact B0 k (Af k) h ps depth m (by omega) cw zu uM lN jk
theorem B1 (t:Ty) (depth m:Int) (cw:t.wt<=1099511627776) (zu:0<=depth) (uM:depth<=25) (lN:0<=m) (jk:m<=512) :
  EvP prog 242 [wD (0,0) m,.agg (dX t),.v (.int .i64 depth)] (wD (wrong t depth m).1 (wrong t depth m).2):=
 Af t.wt t depth m (aQ _) cw zu uM lN jk
def eaA:List Ty->Int->Ft × Int
 | [],m=>((0,0),m)
 | t :: r,m=>if (bU t m).1.1≠0 then bU t m else eaA r (bU t m).2
theorem PB (z:Ty):∀ (l:List (Wd × Ty)) (m:Int),((eaA (l.map (fun x=>x.2) ++ [z]) m).1.1=0↔(eaR z l m).1.1=0)/\((eaR z l m).1.1≠0->eaA (l.map (fun x=>x.2) ++ [z]) m=eaR z l m)
 | [],m=>by
  show ((eaA [z] m).1.1=0↔(bU z m).1.1=0)/\((bU z m).1.1≠0->eaA [z] m=bU z m)
  grind [eaA,bU]
 | x :: r,m=>by
  have ih:=PB z r (bU x.2 m).2
  grind [eaA,eaR,bU]
def eaK (F:Ty->Ft):List Ty->Ft
 | []=>(0,0)
 | t :: r=>if (F t).1≠0 then F t else eaK F r
theorem PD (F:Ty->Ft) (z:Ty):∀ l:List (Wd × Ty),((eaK F (l.map (fun x=>x.2) ++ [z])).1=0↔(eaL F (F z) l).1=0)/\((eaL F (F z) l).1≠0->eaK F (l.map (fun x=>x.2) ++ [z])=eaL F (F z) l)
 | []=>by
  show ((eaK F [z]).1=0↔(F z).1=0)/\((F z).1≠0->eaK F [z]=F z)
  grind [eaK]
 | x :: r=>by
  have ih:=PD F z r
  grind [eaK,eaL]
theorem HZ {F:Ty->Ft}:∀ {l:List Ty},(eaK F l).1=0->∀ t∈l,(F t).1=0
 | [],_,t,ht=>by cases ht
 | u :: r,h,t,ht=>by
  rw [eaK] at h;split at h
  ·rename_i h1;exact (h1 h).elim
  ·rename_i h1;rcases cO ht with rfl | ht
   ·simpa using h1
   ·exact HZ h t ht
theorem Kj (S:Sch):kP S=if (latF S.ae S.order).1≠0 then latF S.ae S.order
 else if (eK S).1≠0 then eK S
 else if (eaA (gd S) 0).1.1≠0 then (eaA (gd S) 0).1
 else if (eaK (lK S) (gd S)).1≠0 then eaK (lK S) (gd S)
 else loopF S:=by
 have h1:=PB S.root S.types 0;have h2:=PD (lK S) S.root S.types;unfold kP gd fZ;by_cases a:(eaR S.root S.types 0).1.1=0
 ·grind
 ·grind
abbrev Xa (S:Sch) (T:List Ty) (m:Int) (e:Nat):St:=
 ⟨[aE 1 0,aE 2 1,bh 5 9 (ia T),ay 6 m,ay 7 e],[eH S,[.v (.int .i64 0),.v (.int .i64 0)]],[]⟩
abbrev ab1 (S:Sch) (T:List Ty) (e:Nat):St:=
 ⟨[aE 1 0,aE 2 1,bh 5 9 (ia T),ay 11 e],[eH S,[.v (.int .i64 0),.v (.int .i64 0)]],[]⟩
abbrev Xb (S:Sch) (e:Nat):St:=
 ⟨[aE 1 0,aE 2 1,ay 13 e],[eH S,[.v (.int .i64 0),.v (.int .i64 0)]],[]⟩
theorem B2 {S:Sch} (hs:S.wt<=1099511627776):∀ t∈gd S,t.wt<=1099511627776:=by
 intro t ht;unfold Sch.wt at hs;rcases List.mem_append.1 ht with h | h
 ·obtain ⟨x,hx,rfl⟩:=List.mem_map.1 h;have:=gI hx;omega
 all_goals grind
theorem B3 (S:Sch) (hs:S.wt<=1099511627776):EvP prog 185 [.agg (eH S)] (kP S).d:=by
 have Yk:=B2 hs;unfold Sch.wt at hs;have hN:=dM S.types;have hZ:=jJ S.types;have ej:=BX S.ae S.order (by omega) (by omega);have ab2:=BZ S (by omega);have jA:=EV S (by omega);have ab3:=fun t ht=>qT S (by omega) (by omega) _ t (aQ _) (Yk t ht);have hF:=Kj S;have hlen:(gd S).length=S.types.length + 1:=by simp [gd,fZ]
 have hnF:(eK S).1=0->S.types.length<=64:=fun h=>by grind [eK]
 obtain ⟨ae,order,types,⟨rh,rp⟩⟩:=S;simp only at hs hN hZ ej ab2 hlen hnF hF;generalize hT:gd ⟨ae,order,types,.mk rh rp⟩=T at Yk jA ab3 hlen hF;refine eG 104 [.cell 2 44] func185 rfl ntmps185 rfl fun _ _ _ _=>?_;generalize kP ⟨ae,order,types,.mk rh rp⟩=F at hF ⊢;refine cP ZU ej ?_;refine br ?_ ?_<;>intro h1
 ·have h1:(latF ae order).1≠0:=sU h1;rw [ap h1] at hF;refine ⟨_,?_,rfl⟩;rw [hF];exact ax
 have h1:(latF ae order).1=0:=sU h1;rw [aj (by simp [h1])] at hF;refine cP ZV ab2 ?_;refine br ?_ ?_<;>intro h2
 ·have h2:(eK ⟨ae,order,types,.mk rh rp⟩).1≠0:=sU h2;rw [ap h2] at hF;refine ⟨_,?_,rfl⟩;rw [hF];exact ax
 have h2:(eK ⟨ae,order,types,.mk rh rp⟩).1=0:=sU h2;rw [aj (by simp [h2])] at hF;have Xc:=hnF h2;refine cP Ze jA ?_
 refine aV (fun j st=>∃ (e:Nat) (m:Int),st=Xa ⟨ae,order,types,.mk rh rp⟩ T m e/\e<=types.length + 1/\0<=m/\m<=512/\eaA T 0=eaA (T.drop e) m/\j=types.length + 1 - e) (types.length + 1)
  (Xa ⟨ae,order,types,.mk rh rp⟩ T 0 0) (bp wB) ⟨0,0,rfl,by omega,by omega,by omega,rfl,by omega⟩ ?_
 rintro j st ⟨e,m,rfl,he,lN,jk,aO,rfl⟩;refine br ?_ ?_<;>intro hL
 ·have au:e < types.length + 1:=by have:=hL;simp [dQ,hlen] at this;omega
  obtain ⟨t,ht⟩:∃ t,T[e]? = some t:=⟨_,gE (by omega)⟩;have O1:=Yk t (mG ht);have aW:eaA (T.drop e) m=if (bU t m).1.1≠0 then bU t m else eaA (T.drop (e + 1)) (bU t m).2:=by rw [drop_cons ht,eaA]
  have Xd:bU t m=if (wrong t 1 0).1.1≠0 then ((wrong t 1 0).1,m) else if 512 < m + t.cnt then ((8,t.h.at'),m + t.cnt) else ((0,0),m + t.cnt):=rfl
  have HI:=B1 t 1 0 O1 (by omega) (by omega) (by omega) (by omega);have bZ:=ku _ t (aQ _) O1;have Nq:=t.eF;obtain ⟨u,us⟩:=t;refine iX (kf ht) ?_;refine cP NU HI ?_;refine br ?_ ?_<;>intro g1
  ·have g1:(wrong (.mk u us) 1 0).1.1≠0:=sU g1;rw [ap g1] at Xd;rw [aO,aW,Xd,ap g1,ap g1] at hF;refine ⟨_,?_,rfl⟩;rw [hF];exact ax
  have g1:(wrong (.mk u us) 1 0).1.1=0:=sU g1;rw [aj (by simp [g1])] at Xd;refine iX (kf ht) ?_;refine cP Jy bZ ?_;have yB:IntKind.i64.wrap (m + ((Ty.mk u us).cnt:Int))=m + (Ty.mk u us).cnt:=wrap64 (by omega) (by omega);refine br ?_ ?_<;>intro g2
  ·have g2:512 < IntKind.i64.wrap (m + ((Ty.mk u us).cnt:Int)):=of_decide_eq_true g2;rw [yB] at g2;rw [ap g2] at Xd;rw [aO,aW,Xd,ap (by simp),ap (by simp)] at hF;refine iX (kf ht) ?_;refine ⟨_,?_,rfl⟩;rw [hF];exact ax
  ·have g2:¬ 512 < IntKind.i64.wrap (m + ((Ty.mk u us).cnt:Int)):=of_decide_eq_false g2;rw [yB] at g2;rw [aj g2] at Xd;rw [Xd,aj (by simp)] at aW;exact ⟨Xa ⟨ae,order,types,.mk rh rp⟩ T (m + (Ty.mk u us).cnt) (e + 1),(bp (iT yB (aN au (by omega)))),types.length + 1 - (e + 1),by omega,e + 1,_,rfl,by omega,by omega,by omega,by rw [aO,aW],rfl⟩
 have hge:e=types.length + 1:=by have:=hL;simp [dQ,hlen] at this;omega
 rw [aO,List.drop_of_length_le (by omega),show eaA [] m=((0,0),m) from rfl,aj (by simp)] at hF
 refine aV (fun j st=>∃ (e:Nat),st=ab1 ⟨ae,order,types,.mk rh rp⟩ T e/\e<=types.length + 1/\eaK (lK ⟨ae,order,types,.mk rh rp⟩) T=eaK (lK ⟨ae,order,types,.mk rh rp⟩) (T.drop e)/\j=types.length + 1 - e) (types.length + 1)
  (ab1 ⟨ae,order,types,.mk rh rp⟩ T 0) (bp wB) ⟨0,rfl,by omega,rfl,by omega⟩ ?_
 clear aO hL hge he e;rintro j st ⟨e,rfl,he,aO,rfl⟩;refine br ?_ ?_<;>intro hL
 ·have au:e < types.length + 1:=by have:=hL;simp [dQ,hlen] at this;omega
  obtain ⟨t,ht⟩:∃ t,T[e]? = some t:=⟨_,gE (by omega)⟩;have aW:eaK (lK ⟨ae,order,types,.mk rh rp⟩) (T.drop e)=if (lK ⟨ae,order,types,.mk rh rp⟩ t).1≠0 then lK ⟨ae,order,types,.mk rh rp⟩ t else eaK (lK ⟨ae,order,types,.mk rh rp⟩) (T.drop (e + 1)):=by rw [drop_cons ht,eaK]
  have hu:=ab3 t (mG ht);obtain ⟨u,us⟩:=t;apply n8 (fun _=>false) 5 6 [0,1,2,3,4,5,6,7] [0,1,2,3,4,6,5,7] 2 2 mo (by decide +kernel)
  ·refine iX (kf ht) ?_;refine cD NV hu ?_;refine (?_:@Eq St _ _);exact rfl
  ·refine iX (kf ht) ?_;refine cD NV hu ?_;refine (⟨rfl,rfl,?_⟩:_/\_/\_)
   repeat' (first | exact trivial | refine ⟨rfl,?_⟩)
  ·rfl
  refine br ?_ ?_<;>intro g
  ·have g:(lK ⟨ae,order,types,.mk rh rp⟩ (.mk u us)).1≠0:=sU g;rw [aO,aW,ap g,ap g] at hF;refine ⟨_,?_,rfl⟩;rw [hF];exact ax
  ·have g:(lK ⟨ae,order,types,.mk rh rp⟩ (.mk u us)).1=0:=sU g;rw [aj (by simp [g])] at aW;exact rE ⟨_,by omega,e + 1,rfl,by omega,by rw [aO,aW],rfl⟩ (bp (cY (aN au (by omega))))
 have hge:e=types.length + 1:=by have:=hL;simp [dQ,hlen] at this;omega
 have Nl:(eaK (lK ⟨ae,order,types,.mk rh rp⟩) T).1=0:=by rw [aO,List.drop_of_length_le (by omega)];all_goals rfl
 rw [aO,List.drop_of_length_le (by omega),show eaK (lK ⟨ae,order,types,.mk rh rp⟩) []=(0,0) from rfl,aj (by simp)] at hF
 have Kb:∀ x∈types,uz ⟨ae,order,types,.mk rh rp⟩ x.2=true:=fun x hx=>BT (HZ Nl x.2 (by
  rw [<- hT]
  exact List.mem_append_left _ (List.mem_map_of_mem hx)))
 have he99:=xg ⟨ae,order,types,.mk rh rp⟩ Xc Kb
 have hlo:F=match bB (fun i=>(endI ⟨ae,order,types,.mk rh rp⟩ (types.length + 1) i).isNone) types.length with
  | none=>(0,0)
  | some i=>(11,WM (uy ⟨ae,order,types,.mk rh rp⟩) i):=hF
 refine aV (fun j st=>∃ e:Nat,st=Xb ⟨ae,order,types,.mk rh rp⟩ e/\e<=types.length/\(∀ i,i < e->(endI ⟨ae,order,types,.mk rh rp⟩ (types.length + 1) i).isNone=false)/\j=types.length - e) types.length
  (Xb ⟨ae,order,types,.mk rh rp⟩ 0) (bp wB) ⟨0,rfl,by omega,fun _ h=>by omega,by omega⟩ ?_
 clear aO hL hge he e;rintro j st ⟨e,rfl,he,gO,rfl⟩;refine br ?_ ?_<;>intro hL
 ·have au:e < types.length:=by have:=hL;simp [hN] at this;exact this
  obtain ⟨x,hx⟩:=gX au;have WR:(uy ⟨ae,order,types,.mk rh rp⟩)[e]? = some x.1:=Kg hx;have h9:=he99 e au;obtain ⟨xw,⟨xh,xp⟩⟩:=x;refine cP NJ h9 ?_;refine br ?_ ?_<;>intro g
  ·have g:endI ⟨ae,order,types,.mk rh rp⟩ (types.length + 1) e=none:=fQ.1 g;have CX:=cI (p:=fun i=>(endI ⟨ae,order,types,.mk rh rp⟩ (types.length + 1) i).isNone) au (by simp only [g];rfl) gO;rw [CX] at hlo;simp only [ky WR] at hlo;refine iX (dNms_get hx) ?_;refine ⟨_,?_,rfl⟩;rw [hlo];exact ax
  ·have g:¬ endI ⟨ae,order,types,.mk rh rp⟩ (types.length + 1) e=none:=fun hn=>by have h3:=fQ.2 hn;rw [g] at h3;cases h3
   refine ⟨Xb ⟨ae,order,types,.mk rh rp⟩ (e + 1),(bp (cY (aN au (by omega)))),types.length - (e + 1),by omega,e + 1,rfl,by omega,fun i hi=>?_,rfl⟩;rcases kE hi with hi | rfl
   ·exact gO i hi
   ·exact Option.isNone_eq_false_iff.2 (Option.isSome_iff_ne_none.2 g)
 ·have hge:e=types.length:=sW hN hL;rw [hge] at gO;rw [cT gO] at hlo;refine ⟨_,?_,rfl⟩;rw [hlo];exact ax
theorem bm {l:List Ed} {i:Nat} {e:Ed} (h:l[i]? = some e):(fN l)[i]? = some (nF e):=by simp [fN,h]
def SQ (lev:List Wd->Int) (s:Sch) (t:Ty) (k:Nat):Nd:=⟨t.h.ag,t.h.at',t.h.lo,t.h.hi,t.h.most,aA t.h.af,edsP lev s t.ps (k + 1)⟩
mutual
theorem uW (lev:List Wd->Int) (s:Sch):∀ (t:Ty) (k:Nat),ndsT lev s t k=(flatT t).zipIdx.map fun x=>SQ lev s x.1 (k + x.2)
 | .mk h ps,k=>by
  have ih:=B4 lev s ps (k + 1);rw [ndsT,flatT];split
  ·rfl
  ·rw [ih,List.zipIdx_cons,List.map_cons];rw [List.zipIdx_succ,List.map_map];refine congr (congrArg List.cons rfl) (List.map_congr_left fun x _=>?_);simp only [Function.comp];congr 1;omega
theorem B4 (lev:List Wd->Int) (s:Sch):∀ (ps:Pts) (k:Nat),wQ lev s ps k=(flatP ps).zipIdx.map fun x=>SQ lev s x.1 (k + x.2)
 | .nil,k=>rfl
 | .cons p u r,k=>by
  rw [wQ,flatP,List.zipIdx_append,List.map_append]
  cases hb:p.bare with
  | true=>
   simp only [if_true,List.zipIdx_nil,List.map_nil,List.nil_append,List.length_nil,Nat.add_zero];exact B4 lev s r k
  | false=>
   simp only [Bool.false_eq_true,if_false];rw [uW lev s u k,B4 lev s r (k + u.nn),jN];refine congrArg _ ?_;rw [List.zipIdx_eq_map_add (l:=flatP r) (i:=0 + u.nn)];rw [List.map_map];refine List.map_congr_left fun x _=>?_;simp only [Function.comp];congr 1;omega
end
theorem B5 {X:Lx} {L:List ByteArray}:∀ {ps:Pts},(knP X L ps).1=0->∀ {p:Ph} {u:Ty},(p,u)∈ps.toList->p.bare=false->(knT X L u).1=0
 | .nil,_,p,u,h,_=>by cases h
 | .cons q v r,hk,p,u,h,hb=>by
  rcases cO h with h | h
  ·cases h;exact (sq hk).1 hb
  ·exact B5 (sq hk).2 h hb
theorem sB {w:Int} (h:decide (w=0)=true):lk w=3:=by unfold lk;rw [ap (of_decide_eq_true h)]
theorem sC {w:Int} (h:decide (w=0)=false):lk w=w:=by unfold lk;rw [aj (of_decide_eq_false h)]
theorem gm {L:List Ed} {lev:List Wd->Int} {p:Ph} {to w z:Int} (hw:lk p.wide=w) (ht:to=z):fN L ++ [[.v (.string p.name.s),.v (.bool p.bare),.v (.int .i64 p.name.a),.v (.int .i64 z),.v (.int .i64 (lev p.label)),.v (.int .i64 w),.v (.int .i64 p.ck),.v (.int .i64 p.cn),.v (.int .i64 (lev p.cl)),.v (.int .i64 p.ca)]]=fN (L ++ [wP lev p to]):=by
 subst hw ht;simp [fN,nF,wP]
abbrev ab4 (S:Sch) (f:Nat->Nat->Bool) (t:Ty) (me:Nat) (q e:Nat):St:=
 ⟨[bh 1 1 (dr (dW S.ae.length f)),ay 3 me,aE 4 0,aE 6 1,aE 8 2,aE 9 3,ay 10 e],
  [eH S,dX t,[.v (.int .i64 0),.v (.int .i64 0),.v (.int .i64 0),.v (.int .i64 0),.v (.int .i64 0),.v (.slice none 0 0),.v (.slice none 0 0)],
  [.v (.int .i64 t.h.ag),.v (.int .i64 t.h.at'),.v (.int .i64 t.h.lo),.v (.int .i64 t.h.hi),.v (.int .i64 t.h.most),.sl 1 (eV (aA (t.h.af.take e))) (some 0),.v (.slice none 0 0)]],[⟨q,9,1,none⟩]⟩
abbrev EY (S:Sch) (f:Nat->Nat->Bool) (t:Ty) (q1 q2:Nat) (L:List Ed) (nx e:Nat):St:=
 ⟨[bh 1 1 (dr (dW S.ae.length f)),aE 4 0,aE 6 1,aE 8 2,aE 9 3,ay 11 nx,ay 12 e],
  [eH S,dX t,[.v (.int .i64 0),.v (.int .i64 0),.v (.int .i64 0),.v (.int .i64 0),.v (.int .i64 0),.v (.slice none 0 0),.v (.slice none 0 0)],
  [.v (.int .i64 t.h.ag),.v (.int .i64 t.h.at'),.v (.int .i64 t.h.lo),.v (.int .i64 t.h.hi),.v (.int .i64 t.h.most),.sl 1 (eV (aA t.h.af)) (some 0),.sl 10 (fN L) (some 1)]],[⟨q1,9,1,none⟩,⟨q2,144,10,none⟩]⟩
set_option maxHeartbeats 2000000 in
theorem H0 (S:Sch) (hS:S.wt<=1099511627776) (hl:(latF S.ae S.order).1=0) (Xc:S.types.length<=64) (hr:∀ x∈S.types,uz S x.2=true) (hlo:∀ i,i < S.types.length->∃ k,endI S (S.types.length + 1) i=some k)
  (t:Ty) (ht:t.wt<=1099511627776) (hk:(lK S t).1=0) (me:Nat) (hme:me<=1099511627776) :
  EvP prog 56 [.agg (eH S),.sl 1 (dr (dW S.ae.length (eQ S.ae.length (dz (aA S.ae) S.order)))) none,.agg (dX t),.v (.int .i64 me)] (.agg (kO (SQ (iM S) S t me))):=by
 obtain ⟨hL,Po⟩:=ll hl;have jX:=hL.pos;unfold Sch.wt at hS;have HJ:=fun l (h:wdsWt l<=1099511627776)=>LQ S.ae (eQ S.ae.length (dz (aA S.ae) S.order)) jX Po (by omega) l h;have hls:∀ l,iM S l=BN (eQ S.ae.length (dz (aA S.ae) S.order)) (aA S.ae) l:=fun _=>rfl;have SR:=fun s i k=>xi S Xc (by omega) hr s i k;have gl:=ka S;generalize eQ S.ae.length (dz (aA S.ae) S.order)=f at HJ hls ⊢;obtain ⟨h,ps⟩:=t;have WW:=(mn hk).2;simp only [Ty.wt,Hd.wt] at ht;have gn:=ps.fK;have hc:=ps.eF;have nZ:=ps.gy;have hwl:=bu h.af;generalize UU:iM S=lev at hls ⊢;obtain ⟨ae,order,types,⟨rh,rp⟩⟩:=S;simp only at hS Xc hr hlo HJ hls SR gl WW;refine eG 131 [.cell 8 132] func56 rfl ntmps56 rfl fun _ _ _ _=>?_;refine lJ (fun e=>ab4 ⟨ae,order,types,.mk rh rp⟩ f (.mk h ps) me e e) h.af.length (dx 4 ⟨0,9,1,none⟩ rfl rfl rfl pP rfl rfl kj) ?_;intro e he;refine br ?_ ?_<;>intro hL
 ·have au:e < h.af.length:=by have:=hL;simp [aC] at this;exact this
  obtain ⟨w,hw⟩:=gX au;have ek:=jI hw;have fg:(eV (aA (h.af.take e))).length=e:=by simp [eV,aA];omega
  refine dS ?_;refine iX (aT hw) ?_;refine ⟨fg,⟨by simp only [Ty.h];rw [fg];simp [maxLen];omega,by simp only [Ty.h];rw [fg];simp;omega⟩,?_⟩;exact rE ⟨_,by omega,e + 1,rfl,by omega,rfl⟩ (dj 4 (yy (aN au (by omega)) ek) (iT (aN au (by omega)) ek))
 have hge:e=h.af.length:=by have:=hL;simp [aC] at this;omega
 have ab5:IntKind.i64.wrap ((me:Int) + 1)=((me + 1:Nat):Int):=by rw [wrap64 (by omega) (by omega)];omega
 have GN:eV (aA (h.af.take e))=eV (aA h.af):=by rw [hge,List.take_length]
 refine aV (fun j st=>∃ (e q nx:Nat) (L:List Ed),st=EY ⟨ae,order,types,.mk rh rp⟩ f (.mk h ps) h.af.length q L nx e/\q=e/\L.length=e/\e<=ps.len/\nx + (ps.drop e).nn=me + 1 + ps.nn/\edsP lev ⟨ae,order,types,.mk rh rp⟩ ps (me + 1)=L ++ edsP lev ⟨ae,order,types,.mk rh rp⟩ (ps.drop e) nx/\j=ps.len - e) ps.len
  (EY ⟨ae,order,types,.mk rh rp⟩ f (.mk h ps) e 0 [] (me + 1) 0) (dx 4 ⟨0,144,10,none⟩ rfl rfl rfl (yy ab5 GN) rfl rfl (iT ab5 GN)) ⟨0,0,me + 1,[],by rw [hge],rfl,rfl,by omega,rfl,rfl,by omega⟩ ?_
 clear he hL hge GN e;rintro j st ⟨e,q,nx,L,rfl,hq,hLl,he,Hy,aO,rfl⟩;refine br ?_ ?_<;>intro hL
 ·have au:e < ps.len:=by simpa [aH] using hL
  obtain ⟨p,u,hx⟩:=Pts.eE au;have D0:=Pts.gq (mG hx);have hw1:p.name.wt + wdsWt p.label + wdsWt p.cl<=p.wt:=by simp only [Ph.wt];omega
  rw [Pts.drop_cons hx,edsP] at aO;rw [Pts.drop_cons hx,Pts.nn] at Hy;have Dp:=HJ p.label (by omega);have UY:=HJ p.cl (by omega);unfold Ly at Dp UY;rw [<- hls] at Dp UY;obtain ⟨uh,us⟩:=u;refine iX (bQ hx) ?_;refine br ?_ ?_<;>intro hw
  all_goals
   refine cP T5 Dp ?_;refine cP T5 UY ?_;have fg:(fN L).length=q:=by rw [cF,hLl,hq]
   refine br ?_ ?_<;>intro hB
   ·have hB:p.bare=true:=hB;have qM:uT ⟨ae,order,types,.mk rh rp⟩ p (.mk uh us) nx = -1:=by simp [uT,hB]
    rw [hB] at aO Hy;refine ⟨fg,⟨by rw [fg];simp [maxLen];omega,by rw [fg];simp;omega⟩,?_⟩;exact ⟨EY ⟨ae,order,types,.mk rh rp⟩ f (.mk h ps) h.af.length (q + 1) (L ++ [wP lev p (uT ⟨ae,order,types,.mk rh rp⟩ p (.mk uh us) nx)]) nx (e + 1),(dj 4 (by repeat' (first | exact rfl | exact az rfl | exact aD (aN au (by omega)) | exact cy (gm (sB hw) qM) rfl | exact cy (gm (sC hw) qM) rfl | refine ⟨_,_,rfl,?_,?_⟩)) (by repeat' (first | exact trivial | exact az rfl | exact aD (aN au (by omega)) | exact cy (gm (sB hw) qM) rfl | exact cy (gm (sC hw) qM) rfl | refine ⟨⟨_,rfl,?_⟩,?_⟩))),ps.len - (e + 1),by omega,e + 1,q + 1,nx,_,rfl,by omega,by simp [hLl],by omega,by rw [<- Hy];simp,by rw [aO];simp,rfl⟩
   ·have hB:p.bare=false:=hB;have iS:=B5 WW (mG hx) hB;refine br ?_ ?_<;>intro h9
    ·have h9:uh.ag=9:=sU h9;obtain ⟨i,hi⟩:=Option.ne_none_iff_exists'.1 ((mn iS).1 h9);obtain ⟨k,hk⟩:=hlo i (by have:=(dh hi).1;omega);have qM:uT ⟨ae,order,types,.mk rh rp⟩ p (.mk uh us) nx=(firstA ⟨ae,order,types,.mk rh rp⟩ k:Int):=by simp [uT,hB,nG,Ty.h,h9,WV,hi,namedN,hk]
     refine cP Zf (SR uh.name.s i k hi hk) ?_;refine ⟨fg,⟨by rw [fg];simp [maxLen];omega,by rw [fg];simp;omega⟩,?_⟩;exact ⟨EY ⟨ae,order,types,.mk rh rp⟩ f (.mk h ps) h.af.length (q + 1) (L ++ [wP lev p (uT ⟨ae,order,types,.mk rh rp⟩ p (.mk uh us) nx)]) nx (e + 1),(dj 4 (by repeat' (first | exact rfl | exact az rfl | exact aD (aN au (by omega)) | exact cy (gm (sB hw) qM) rfl | exact cy (gm (sC hw) qM) rfl | refine ⟨_,_,rfl,?_,?_⟩)) (by repeat' (first | exact trivial | exact az rfl | exact aD (aN au (by omega)) | exact cy (gm (sB hw) qM) rfl | exact cy (gm (sC hw) qM) rfl | refine ⟨⟨_,rfl,?_⟩,?_⟩))),ps.len - (e + 1),by omega,e + 1,q + 1,nx,_,rfl,by omega,by simp [hLl],by omega,by rw [<- Hy];simp [hB,Ty.nn,h9],by rw [aO];simp [hB,Ty.nn,h9],rfl⟩
    ·have h9:¬ uh.ag=9:=sU h9;have qM:uT ⟨ae,order,types,.mk rh rp⟩ p (.mk uh us) nx=(nx:Int):=by simp [uT,hB,nG,Ty.h,h9]
     have hnn:=(Ty.mk uh us).gy;have hct:=(Ty.mk uh us).eF
     have yB:IntKind.i64.wrap ((nx:Int) + (ia (flatT (.mk uh us))).length)=((nx + (Ty.mk uh us).nn:Nat):Int):=by
      rw [dQ,jN,wrap64 (by omega) (by omega)];omega
     refine cP RW (oq _ (.mk uh us) (aQ _) (by omega)) ?_;refine ⟨fg,⟨by rw [fg];simp [maxLen];omega,by rw [fg];simp;omega⟩,?_⟩;exact ⟨EY ⟨ae,order,types,.mk rh rp⟩ f (.mk h ps) h.af.length (q + 1) (L ++ [wP lev p (uT ⟨ae,order,types,.mk rh rp⟩ p (.mk uh us) nx)]) (nx + (Ty.mk uh us).nn) (e + 1),(dj 4 (by repeat' (first | exact rfl | exact az rfl | exact aD (aN au (by omega)) | exact aD yB | exact cy (gm (sB hw) qM) rfl | exact cy (gm (sC hw) qM) rfl | refine ⟨_,_,rfl,?_,?_⟩)) (by repeat' (first | exact trivial | exact az rfl | exact aD (aN au (by omega)) | exact aD yB | exact cy (gm (sB hw) qM) rfl | exact cy (gm (sC hw) qM) rfl | refine ⟨⟨_,rfl,?_⟩,?_⟩))),ps.len - (e + 1),by omega,e + 1,q + 1,(nx + (Ty.mk uh us).nn),_,rfl,by omega,by simp [hLl],by omega,by rw [<- Hy];simp [hB];omega,by rw [aO];simp [hB],rfl⟩
 have hge:e=ps.len:=by simp [aH] at hL;omega
 rw [hge,Pts.dn,edsP,List.append_nil] at aO;unfold SQ;simp only [Ty.h,Ty.ps];rw [aO];exact ⟨_,ax,rfl⟩
def ndsA (lev:List Wd->Int) (s:Sch):List Ty->Nat->List Nd
 | [],_=>[]
 | t :: r,k=>ndsT lev s t k ++ ndsA lev s r (k + t.nn)
def sD (l:List Ty):Nat:=(l.map Ty.nn).sum
theorem nK (t:Ty) (l:List Ty):sD (t :: l)=t.nn + sD l:=by simp [sD]
theorem uX (a b:List Ty):sD (a ++ b)=sD a + sD b:=by simp [sD]
theorem lp (lev:List Wd->Int) (s:Sch):∀ (l:List Ty) (k:Nat),(ndsA lev s l k).length=sD l
 | [],_=>rfl
 | t :: r,k=>by simp only [ndsA,List.length_append,kb,lp lev s r,nK]
theorem xj (lev:List Wd->Int) (s:Sch):∀ (a b:List Ty) (k:Nat),ndsA lev s (a ++ b) k=ndsA lev s a k ++ ndsA lev s b (k + sD a)
 | [],b,k=>by simp [ndsA,sD]
 | t :: r,b,k=>by rw [List.cons_append,ndsA,ndsA,xj lev s r b,List.append_assoc,nK,Nat.add_assoc]
theorem xm (lev:List Wd->Int) (s:Sch):∀ (l:List (Wd × Ty)) (k:Nat),ndsAll lev s l k=ndsA lev s (l.map fun x=>x.2) k
 | [],_=>rfl
 | x :: r,k=>by rw [ndsAll,List.map_cons,ndsA,xm lev s r]
theorem xr (s:Sch):(qP s).length=sD (fZ s):=by rw [qP,xm,lp];all_goals rfl
theorem jO (s:Sch):aS s=ndsA (iM s) s (gd s) 0:=by
 unfold aS gd;rw [xj,xr,qP,xm,ndsA,ndsA,List.append_nil,Nat.zero_add];rfl
theorem LR {lev:List Wd->Int} {s:Sch} {l:List Ty} {e:Nat} {t:Ty} (h:l[e]? = some t):ndsA lev s (l.take (e + 1)) 0=ndsA lev s (l.take e) 0 ++ ndsT lev s t (ndsA lev s (l.take e) 0).length:=by
 rw [List.take_add_one,h,xj,lp,Nat.zero_add];simp [ndsA]
theorem EZ (l:List Ty):∀ e,sD (l.take e)<=sD l:=by
 intro e;have:=uX (l.take e) (l.drop e);rw [List.take_append_drop] at this;omega
theorem H3 (s:Sch):sD (gd s)<=s.wt:=by
 have key:∀ l:List (Wd × Ty),sD (l.map fun x=>x.2)<=nmsWt l:=by
  intro l
  induction l with
  | nil=>exact aQ _
  | cons x r ih=>
   have:=x.2.gy;have:=x.2.eF
   grind [nK,nmsWt]
 have h1:=key s.types;have h2:=s.root.gy;have h3:=s.root.eF
 grind [gd,uX,nK,Sch.wt,fZ,sD]
mutual
theorem xu {X:Lx} {L:List ByteArray}:∀ (t:Ty),(knT X L t).1=0->∀ u∈flatT t,(knT X L u).1=0
 | .mk h ps,hk,u,hu=>by
  rw [flatT] at hu;split at hu
  ·cases hu
  ·rcases cO hu with rfl | hu
   ·exact hk
   ·exact E4 ps (mn hk).2 u hu
theorem E4 {X:Lx} {L:List ByteArray}:∀ (ps:Pts),(knP X L ps).1=0->∀ u∈flatP ps,(knT X L u).1=0
 | .nil,_,u,hu=>by cases hu
 | .cons p v r,hk,u,hu=>by
  rw [flatP] at hu;rcases List.mem_append.1 hu with hu | hu
  ·cases hb:p.bare with
   | true=>rw [hb] at hu;cases hu
   | false=>rw [hb] at hu;exact xu v ((sq hk).1 hb) u hu
  ·exact E4 r (sq hk).2 u hu
end
mutual
theorem xx:∀ (t:Ty),∀ u∈flatT t,u.wt<=t.wt
 | .mk h ps,u,hu=>by
  rw [flatT] at hu;split at hu
  ·cases hu
  ·rcases cO hu with rfl | hu
   ·exact aQ _
   ·have:=E5 ps u hu;simp only [Ty.wt];omega
theorem E5:∀ (ps:Pts),∀ u∈flatP ps,u.wt<=ps.wt
 | .nil,u,hu=>by cases hu
 | .cons p v r,u,hu=>by
  rw [flatP] at hu;simp only [Pts.wt];rcases List.mem_append.1 hu with hu | hu
  ·split at hu
   ·cases hu
   ·have:=xx v u hu;omega
  ·have:=E5 r u hu;omega
end
theorem PE {lev:List Wd->Int} {s:Sch} {t u:Ty} {n k:Nat} (h:(flatT t)[k]? = some u):(ndsT lev s t n)[k]? = some (SQ lev s u (n + k)):=by grind [uW]
structure tE (S:Sch):Prop where
 lat:(latF S.ae S.order).1=0
 l64:S.types.length<=64
 kn:∀ t∈gd S,(lK S t).1=0
 ends:∀ i,i < S.types.length->∃ k,endI S (S.types.length + 1) i=some k
 wr:∀ t∈gd S,(wrong t 1 0).1.1=0
theorem PF:∀ {l:List Ty} {m:Int},(eaA l m).1.1=0->∀ t∈l,(wrong t 1 0).1.1=0
 | [],_,_,t,ht=>by cases ht
 | u :: r,m,h,t,ht=>by
  rw [eaA] at h;split at h
  ·rename_i h1;exact (h1 h).elim
  ·rename_i h1;rcases cO ht with rfl | ht
   ·exact (oo (sU h1)).2.2.1
   ·exact PF h t ht
theorem qU {S:Sch} (h:(kP S).1=0):tE S:=by
 rw [Kj] at h;split at h
 ·rename_i h1;exact (h1 h).elim
 rename_i h1;split at h
 ·rename_i h2;exact (h2 h).elim
 rename_i h2;split at h
 ·rename_i h3;exact (h3 h).elim
 rename_i h3;split at h
 ·rename_i h4;exact (h4 h).elim
 rename_i h4
 exact {
  lat:=sU h1
  l64:=by grind [eK]
  kn:=HZ (sU h4)
  ends:=EM h
  wr:=PF (sU h3) }
theorem tE.refs {S:Sch} (h:tE S):∀ x∈S.types,uz S x.2=true:=fun x hx=>BT (h.kn x.2 (List.mem_append_left _ (List.mem_map_of_mem hx)))
abbrev wC (S:Sch) (f:Nat->Nat->Bool) (N:DV) (z:Int):List DV:=[.sl 2 (bG S.ae) none,.sl 1 (dr (dW S.ae.length f)) none,N,.v (.int .i64 z)]
abbrev PG (S:Sch) (T:List Ty) (f:Nat->Nat->Bool) (L:List Nd) (z:Int) (e q:Nat):St:=
 ⟨[aE 1 0,aE 2 1,aE 3 2,bh 4 9 (ia T),ay 5 e],[eH S,[.v (.slice none 0 0),.v (.slice none 0 0),.v (.slice none 0 0),.v (.int .i64 0)],wC S f (.sl 7 (dq L) (some 0)) z],[⟨q,132,7,none⟩]⟩
abbrev Ve (S:Sch) (T:List Ty) (f:Nat->Nat->Bool) (L:List Nd) (z:Int) (e:Nat) (F:List Ty) (k q:Nat):St:=
 ⟨[aE 1 0,aE 2 1,aE 3 2,bh 4 9 (ia T),ay 5 e,bh 6 9 (ia F),ay 7 k],[eH S,[.v (.slice none 0 0),.v (.slice none 0 0),.v (.slice none 0 0),.v (.int .i64 0)],wC S f (.sl 7 (dq L) (some 0)) z],[⟨q,132,7,none⟩]⟩
theorem B6 (S:Sch) (hS:S.wt<=1099511627776) (hR:(kP S).1=0) :
  EvP prog 12 [.agg (eH S)] (.agg (wC S (eQ S.ae.length (dz (aA S.ae) S.order)) (.sl 7 (dq (aS S)) none) (cr S))):=by
 have Rm:=qU hR;obtain ⟨_,Po⟩:=ll Rm.lat;have Yk:=B2 hS;have Wt:=H3 S;have hN0:=(mq Rm.lat).2.2.1;have hrr:=Rm.refs;have dE:=fun t ht hk me hme=>H0 S hS Rm.lat Rm.l64 hrr Rm.ends t ht hk me hme;have hwS:=hS;unfold Sch.wt at hS;have SU:=EQ S.ae S.order Po (by omega) (by omega) hN0;have jA:=EV S (by have:=Rm.l64;omega);have hlen:(gd S).length=S.types.length + 1:=by simp [gd,fZ]
 have Xc:=Rm.l64;have SR:=fun s i k=>xi S Xc (by omega) hrr s i k;have Nl:=Rm.kn;have xy:=Rm.ends;have gl:=ka S;have cW:(gd S)[S.types.length]? = some S.root:=by grind [gd,fZ]
 have H4:=xr S;have ig:(gd S).take S.types.length=fZ S:=by grind [gd,fZ]
 rw [jO];unfold cr;generalize iM S=lev at dE ⊢;generalize eQ S.ae.length (dz (aA S.ae) S.order)=f at dE SU ⊢;obtain ⟨ae,order,types,⟨rh,rp⟩⟩:=S;simp only at hS SU hlen Xc xy gl cW ig;generalize hT:gd ⟨ae,order,types,.mk rh rp⟩=T at Yk Wt jA hlen Nl cW ig ⊢;refine eG 67 [.cell 2 50] func12 rfl ntmps12 rfl fun _ _ _ _=>?_;apply n8 (fun _=>false) 6 8 [0,1,2,3,4,5,6,7,8,9] [0,1,2,3,4,5,8,6,7,9] 2 2 mo (by decide +kernel)
 ·refine cD Wi SU ?_;refine (?_:@Eq St _ _);exact rfl
 ·refine cD Wi SU ?_;refine (⟨rfl,rfl,?_⟩:_/\_/\_)
  repeat' (first | exact trivial | refine ⟨rfl,?_⟩)
 ·rfl
 refine cP Ze jA ?_
 have hLN:∀ e,(ndsA lev ⟨ae,order,types,.mk rh rp⟩ (T.take e) 0).length<=1099511627776:=fun e=>by
  rw [lp];have:=EZ T e;omega
 refine aV (fun j st=>∃ (e q:Nat) (z:Int),st=PG ⟨ae,order,types,.mk rh rp⟩ T f (ndsA lev ⟨ae,order,types,.mk rh rp⟩ (T.take e) 0) z e q/\q=(ndsA lev ⟨ae,order,types,.mk rh rp⟩ (T.take e) 0).length/\e<=types.length + 1/\(e=types.length + 1->z=(sD (T.take types.length):Nat))/\j=types.length + 1 - e) (types.length + 1)
  (PG ⟨ae,order,types,.mk rh rp⟩ T f [] 0 0 0) (dx 3 ⟨0,132,7,none⟩ rfl rfl rfl pP rfl rfl kj) ⟨0,0,0,rfl,rfl,by omega,fun h=>by omega,by omega⟩ ?_
 rintro j st ⟨e,q,z,rfl,hq,he,hz,rfl⟩;refine br ?_ ?_<;>intro hL
 ·have au:e < types.length + 1:=by have:=hL;simp [dQ,hlen] at this;omega
  obtain ⟨t,ht⟩:∃ t,T[e]? = some t:=⟨_,gE (by omega)⟩;have O1:=Yk t (mG ht);have htk':=Nl t (mG ht);have Ng:=oq _ t (aQ _) O1;have hfk:=xu t htk';have hfw:=xx t;have Ym:=LR (lev:=lev) (s:=⟨ae,order,types,.mk rh rp⟩) ht;have hfln:=jN t;have hZ:=kb lev ⟨ae,order,types,.mk rh rp⟩ t (ndsA lev ⟨ae,order,types,.mk rh rp⟩ (T.take e) 0).length;have jC:=fun k u (h:(flatT t)[k]? = some u)=>PE (lev:=lev) (s:=⟨ae,order,types,.mk rh rp⟩) (n:=(ndsA lev ⟨ae,order,types,.mk rh rp⟩ (T.take e) 0).length) h;have hLe:=hLN e;have Xe:=hLN (e + 1);have hLs:=lp lev ⟨ae,order,types,.mk rh rp⟩ (T.take e) 0;rw [Ym,List.length_append] at Xe;obtain ⟨u,us⟩:=t;generalize ndsA lev ⟨ae,order,types,.mk rh rp⟩ (T.take e) 0=L at hq Ym hZ jC hLe Xe hLs ⊢;generalize ndsT lev ⟨ae,order,types,.mk rh rp⟩ (.mk u us) L.length=M at Ym hZ jC Xe;generalize flatT (.mk u us)=F at Ng hfk hfw hfln jC;have de:((dq L).length:Int)=(L.length:Int):=by rw [nI]
  refine iX (kf ht) ?_;refine cP RW Ng ?_
  refine aV (fun j st=>∃ (k q:Nat),st=Ve ⟨ae,order,types,.mk rh rp⟩ T f (L ++ M.take k) (L.length:Int) e F k q/\q=(L ++ M.take k).length/\k<=F.length/\j=F.length - k) F.length
   (Ve ⟨ae,order,types,.mk rh rp⟩ T f (L ++ []) (L.length:Int) e F 0 q) (dj 3 (by repeat' (first | exact rfl | exact az rfl | exact aD de | exact cy (by rw [List.append_nil]) rfl | refine ⟨_,_,rfl,?_,?_⟩)) (by repeat' (first | exact trivial | exact az rfl | exact aD de | exact cy (by rw [List.append_nil]) rfl | refine ⟨⟨_,rfl,?_⟩,?_⟩))) ⟨0,q,rfl,by simp [hq],by omega,by omega⟩ ?_
  rintro j st ⟨k,q',rfl,kX,hk,rfl⟩;refine br ?_ ?_<;>intro oQ
  ·have iS:k < F.length:=by have:=oQ;simp [dQ] at this;exact this
   obtain ⟨v,hv⟩:∃ v,F[k]? = some v:=⟨_,gE iS⟩;have XZ:=mG hv;have hvw:=hfw v XZ;have fg:(dq (L ++ M.take k)).length=q':=by rw [nI,kX]
   have jB:q'=L.length + k:=by rw [kX,List.length_append,zLenT];omega
   have hnd:=dE v (by omega) (hfk v XZ) (dq (L ++ M.take k)).length (by omega)
   have ek:dq (L ++ M.take k) ++ [kO (SQ lev ⟨ae,order,types,.mk rh rp⟩ v (dq (L ++ M.take k)).length)]=dq (L ++ M.take (k + 1)):=by
    rw [List.take_add_one,jC k v hv,fg,jB];simp [dq]
   obtain ⟨vh,vp⟩:=v;refine dS ?_;refine iX (kf hv) ?_;refine cD en56 hnd ?_;refine ⟨fg,⟨by rw [fg];simp [maxLen];omega,by rw [fg];simp;omega⟩,?_⟩;exact rE ⟨_,by omega,k + 1,q' + 1,rfl,by rw [jB];simp;omega,by omega,rfl⟩ (dj 3 (yy (aN iS (by omega)) ek) (iT (aN iS (by omega)) ek))
  ·have hge:k=F.length:=by have:=oQ;simp [dQ] at this;omega
   have hM:M.take k=M:=List.take_of_length_le (by omega);rw [hM] at kX;refine ⟨PG ⟨ae,order,types,.mk rh rp⟩ T f (ndsA lev ⟨ae,order,types,.mk rh rp⟩ (T.take (e + 1)) 0) (L.length:Int) (e + 1) q',(dj 3 (by repeat' (first | exact rfl | exact az rfl | exact aD (aN au (by omega)) | exact cy (by rw [Ym,hM]) rfl | refine ⟨_,_,rfl,?_,?_⟩)) (by repeat' (first | exact trivial | exact az rfl | exact aD (aN au (by omega)) | exact cy (by rw [Ym,hM]) rfl | refine ⟨⟨_,rfl,?_⟩,?_⟩))),types.length + 1 - (e + 1),by omega,e + 1,q',_,rfl,by rw [Ym,kX],by omega,fun Xf=>?_,rfl⟩;rw [hLs,show e=types.length by omega]
 ·have hge:e=types.length + 1:=by have:=hL;simp [dQ,hlen] at this;omega
  have hTa:T.take e=T:=List.take_of_length_le (by omega);rw [hTa];have hz:=hz hge;rw [ig,<- H4] at hz;have Kb:=Nl (.mk rh rp) (mG cW);refine br ?_ ?_<;>intro h9
  ·have h9:rh.ag=9:=sU h9;obtain ⟨i,hi⟩:=Option.ne_none_iff_exists'.1 ((mn Kb).1 h9);obtain ⟨k,hk⟩:=xy i (by have:=(dh hi).1;omega);have qM:nG ⟨ae,order,types,.mk rh rp⟩ (.mk rh rp) (qP ⟨ae,order,types,.mk rh rp⟩).length=(firstA ⟨ae,order,types,.mk rh rp⟩ k:Int):=by simp [nG,Ty.h,h9,WV,hi,namedN,hk]
   refine cP Zf (SR rh.name.s i k hi hk) ?_;rw [qM];exact ⟨_,ax,rfl⟩
  ·have h9:¬ rh.ag=9:=sU h9;have qM:nG ⟨ae,order,types,.mk rh rp⟩ (.mk rh rp) (qP ⟨ae,order,types,.mk rh rp⟩).length=z:=by simp [nG,Ty.h,h9,hz]
   rw [qM];exact ⟨_,ax,rfl⟩
def Vf (t:Ty):Prop:=∃ d m,(wrong t d m).1.1=0
def Kk (ag:Int) (p:Ph) (t:Ty):Prop:=(p.bare=true/\ag=8/\sameTy t cJ=true/\cC p jo=true)∨(p.bare=false/\(dT p).1=0/\Vf t)
structure TyF (h:Hd) (ps:Pts):Prop where
 k1:1<=h.ag
 k9:h.ag<=9
 own:vX h ps=true
 int:h.ag=2->h.lo<=h.hi
 text:h.ag=3->0<=h.most/\h.most<=4096
 enum:h.ag=4->iG h=(0,0)
 one:h.ag=5∨h.ag=6->∃ p t,ps = .cons p t .nil/\p.name.s=av/\cC p fp=true/\0<=h.most/\h.most<=1024/\Vf t
 many:h.ag=7∨h.ag=8->ps.len<=64/\(h.ag=8->ps.len≠0)/\∀ i p t,ps.toList[i]? = some (p,t)->aG (pNames ps) i p.name=0/\Kk h.ag p t
theorem Xg {h:Hd} {ps:Pts} (ho:¬ vS (.mk h ps)=false):vX h ps=true:=by
 rw [JL];cases hb:sameTy (.mk h ps) (mask (.mk h ps))
 ·exact absurd hb ho
 ·rfl
theorem nM {ag:Int} {all:List Wd}:∀ {ps:Pts} {i:Nat} {d m:Int},(wrongPts ag all i ps d m).1.1=0->(ag=7∨ag=8)->∀ j p t,ps.toList[j]? = some (p,t)->aG all (i + j) p.name=0/\Kk ag p t
 | .nil,i,d,m,_,_,j,p,t,hx=>by simp [Pts.toList] at hx
 | .cons q u r,i,d,m,he,hk,j,p,t,hx=>by
  simp only [wrongPts] at he;by_cases c0:aG all i q.name≠0
  ·rw [ap c0] at he;exact absurd he c0
  rw [aj c0] at he;have c0:aG all i q.name=0:=sU c0
  have step:∀ d' m',(wrongPts ag all (i + 1) r d' m').1.1=0->Kk ag q u->aG all (i + j) p.name=0/\Kk ag p t:=by
   intro d' m' h hq
   cases j with
   | zero=>grind [Pts.toList]
   | succ j=>
    simp only [Pts.toList,List.getElem?_cons_succ] at hx;have:=nM h hk j p t hx
    grind
  by_cases c1:q.bare=true
  ·rw [ap c1] at he;by_cases c2:ag=7∨sameTy u cJ=false∨cC q jo=false
   ·rw [ap c2] at he;simp at he
   rw [aj c2] at he;refine step d m he (.inl ⟨c1,?_,?_,?_⟩)
   all_goals grind
  ·rw [aj c1] at he;by_cases c2:(dT q).1≠0
   ·rw [ap c2] at he;exact absurd he c2
   rw [aj c2] at he;by_cases c3:(wrong u (d + 1) m).1.1≠0
   ·rw [ap c3] at he;exact absurd he c3
   rw [aj c3] at he;exact step d _ he (.inr ⟨by simpa using c1,by simpa using c2,d + 1,m,by simpa using c3⟩)
theorem H5:∀ {t:Ty},Vf t->TyF t.h t.ps
 | .mk h ps,⟨d,m,he⟩=>by
  simp only [Ty.h,Ty.ps];simp only [wrong] at he;by_cases c0:24 < d
  ·rw [ap c0] at he;simp at he
  rw [aj c0] at he;by_cases c1:512 < m + 1
  ·rw [ap c1] at he;simp at he
  rw [aj c1] at he;by_cases c2:h.ag < 1∨9 < h.ag
  ·rw [ap c2] at he;simp at he
  rw [aj c2] at he;by_cases c3:vS (.mk h ps)=false
  ·rw [ap c3] at he;simp at he
  rw [aj c3] at he;by_cases c4:(h.ag=2/\h.hi < h.lo)∨(h.ag=3/\(h.most < 0∨4096 < h.most))
  ·rw [ap c4] at he;simp at he
  rw [aj c4] at he;by_cases c5:h.ag=9/\bd h.name.s=false
  ·rw [ap c5] at he;simp at he
  rw [aj c5] at he;refine { k1:=by omega,k9:=by omega,own:=Xg c3,int:=fun h2=>by omega,text:=fun h3=>by omega,enum:=fun h4=>?_,one:=fun h5=>?_,many:=fun h7=>?_ }
  ·rw [ap h4] at he;exact zA h he
  ·rw [aj (by omega),ap h5] at he
   match ps,he with
   | .nil,he=>simp [wrongOne] at he
   | .cons p t (.cons _ _ _),he=>simp [wrongOne] at he
   | .cons p t .nil,he=>
    simp only [wrongOne] at he;by_cases e0:p.name.s≠av∨cC p fp=false
    ·rw [ap e0] at he;simp at he
    rw [aj e0] at he;by_cases e1:h.most < 0∨1024 < h.most
    ·rw [ap e1] at he;simp at he
    rw [aj e1] at he;refine ⟨p,t,rfl,Classical.byContradiction fun hn=>e0 (.inl hn),?_,by omega,by omega,d + 1,_,he⟩
    grind
  ·rw [aj (by omega),aj (by omega),ap h7] at he;by_cases e0:h.ag=8/\ps.len=0
   ·rw [ap e0] at he;simp at he
   rw [aj e0] at he;by_cases e1:64 < ps.len
   ·rw [ap e1] at he;simp at he
   rw [aj e1] at he;refine ⟨by omega,fun h8=>fun hl=>e0 ⟨h8,hl⟩,fun i p t hx=>?_⟩;have:=nM he h7 i p t hx
   rwa [Nat.zero_add] at this
theorem TyF.sub {h:Hd} {ps:Pts} (hF:TyF h ps) {p:Ph} {u:Ty} (hm:(p,u)∈ps.toList) (hb:p.bare=false):Vf u:=by
 obtain ⟨i,hi⟩:=List.mem_iff_getElem?.1 hm
 have hlen:0 < ps.len:=by
  cases ps with
  | nil=>simp [Pts.toList] at hm
  | cons _ _ _=>simp [Pts.len]
 have hk:5<=h.ag/\h.ag<=8:=by
  have h1:=hF.own
  grind [vX]
 by_cases h5:h.ag=5∨h.ag=6
 ·obtain ⟨q,t,rfl,_,_,_,_,hw⟩:=hF.one h5
  grind [Pts.toList]
 ·rcases ((hF.many (by omega)).2.2 i p u hi).2 with h1 | h1
  ·rw [h1.1] at hb;cases hb
  ·exact h1.2.2
mutual
theorem xz:∀ (t:Ty),Vf t->∀ u∈flatT t,Vf u
 | .mk h ps,hw,u,hu=>by
  rw [flatT] at hu;split at hu
  ·cases hu
  ·rcases cO hu with rfl | hu
   ·exact hw
   ·exact E6 ps (fun p v hm hb=>(H5 hw).sub hm hb) u hu
theorem E6:∀ (ps:Pts),(∀ p v,(p,v)∈ps.toList->p.bare=false->Vf v)->∀ u∈flatP ps,Vf u
 | .nil,_,u,hu=>by cases hu
 | .cons p v r,hw,u,hu=>by
  rw [flatP] at hu;rcases List.mem_append.1 hu with hu | hu
  ·cases hb:p.bare with
   | true=>rw [hb] at hu;cases hu
   | false=>rw [hb] at hu;exact xz v (hw p v (by simp [Pts.toList]) hb) u hu
  ·exact E6 r (fun q w hm=>hw q w (by simp [Pts.toList,hm])) u hu
end
mutual
theorem E7:∀ (t:Ty),∀ u∈flatT t,u.h.ag≠9
 | .mk h ps,u,hu=>by
  rw [flatT] at hu;split at hu
  ·cases hu
  ·rename_i h9;rcases cO hu with rfl | hu
   ·exact h9
   ·exact E8 ps u hu
theorem E8:∀ (ps:Pts),∀ u∈flatP ps,u.h.ag≠9
 | .nil,u,hu=>by cases hu
 | .cons p v r,u,hu=>by
  rw [flatP] at hu;rcases List.mem_append.1 hu with hu | hu
  ·split at hu
   ·cases hu
   ·exact E7 v u hu
  ·exact E8 r u hu
end
mutual
theorem Ag:∀ (t:Ty) (j:Nat) (u:Ty),(flatT t)[j]? = some u->j + u.nn<=t.nn
 | .mk h ps,j,u,hu=>by
  rw [flatT] at hu;by_cases h9:h.ag=9
  ·rw [ap h9] at hu;simp at hu
  rw [aj h9] at hu
  cases j with
  | zero=>grind
  | succ j=>
   simp only [List.getElem?_cons_succ] at hu;have:=sE ps j u hu;rw [Ty.nn,aj h9];omega
theorem sE:∀ (ps:Pts) (j:Nat) (u:Ty),(flatP ps)[j]? = some u->j + u.nn<=ps.nn
 | .nil,j,u,hu=>by simp [flatP] at hu
 | .cons p v r,j,u,hu=>by
  rw [flatP] at hu;rw [Pts.nn]
  cases hb:p.bare with
  | true=>
   rw [hb] at hu;have:=sE r j u (sU hu);simp only [if_true];omega
  | false=>
   rw [hb] at hu;simp only [Bool.false_eq_true,if_false] at hu ⊢;by_cases hj:j < (flatT v).length
   ·rw [dC hj] at hu;have:=Ag v j u hu;omega
   ·rw [List.getElem?_append_right (by omega)] at hu;have:=sE r _ u hu;have h2:=jN v;omega
end
theorem qV {lev:List Wd->Int} {s:Sch}:∀ {ps:Pts} {k:Nat} {e:Ed},e∈edsP lev s ps k->∃ p u k',(p,u)∈ps.toList/\e=wP lev p (uT s p u k')/\(p.bare=false->k' + u.nn<=k + ps.nn)
 | .nil,k,e,he=>by simp [edsP] at he
 | .cons p u r,k,e,he=>by
  rw [edsP] at he;rcases cO he with rfl | he
  ·grind [Pts.toList,Pts.nn]
  ·obtain ⟨q,v,k',h1,h2,h3⟩:=qV he
   grind [Pts.toList,Pts.nn]
theorem px {lev:List Wd->Int} {s:Sch}:∀ {ps:Pts} {k:Nat},(edsP lev s ps k).map Ed.name=aA (pNames ps)
 | .nil,k=>rfl
 | .cons p u r,k=>by
  rw [edsP,List.map_cons,px (ps:=r)];rfl
theorem Ah {f:Nat->Nat->Bool} {n:Nat} (hL:fY f n):∀ e,e<=n->∃ b,b < n/\∀ x,x < e->f b x=true
 | 0,_=>⟨0,hL.pos,fun x hx=>by omega⟩
 | e + 1,he=>by
  obtain ⟨b,hb,fF⟩:=Ah hL e (by omega);obtain ⟨k,hk⟩:=hL.mt b e hb (by omega);obtain ⟨g1,g2,g3,g4⟩:=pu hk;refine ⟨k,g1,fun x hx=>?_⟩;rcases kE hx with hx | rfl
  ·exact hL.tr k b x g1 hb (by omega) g2 (fF x hx)
  ·exact g3
theorem tF {f:Nat->Nat->Bool} {n:Nat} (hL:fY f n) (l:List Nat) (hl:∀ x∈l,x < n):∃ c,fM f n l=some c:=by
 have key:∀ e,e<=l.length->∃ c,fM f n (l.take e)=some c:=by
  intro e
  induction e with
  | zero=>
   intro _;obtain ⟨b,hb,fF⟩:=Ah hL n (aQ _);exact ⟨b,pw hL hb fF⟩
  | succ e ih=>
   intro he;obtain ⟨c,hc⟩:=ih (by omega);obtain ⟨x,hx⟩:∃ x,l[e]? = some x:=⟨_,gE (by omega)⟩;have yx:=hl x (mG hx);obtain ⟨k,hk⟩:=hL.jn c x (om hc) yx;rw [List.take_add_one,hx]
   grind [tB]
 have:=key l.length (aQ _)
 rwa [List.take_length] at this
theorem Ai {L:List ByteArray}:∀ {l:List Wd},(labW L l).1=0->∀ w∈l,∃ i,cV L w.s=some i
 | [],_,w,hw=>by cases hw
 | x :: r,h,w,hw=>by
  rw [labW] at h;split at h
  ·cases h
  ·rename_i h1;rcases cO hw with rfl | hw
   ·exact Option.ne_none_iff_exists'.1 h1
   ·exact Ai h w hw
theorem LS {f:Nat->Nat->Bool} {L:List ByteArray} (hL:fY f L.length) {l:List Wd} (h:(labW L l).1=0):∃ c:Nat,BN f L l=c/\c < L.length:=by
 obtain ⟨c,hc⟩:=tF hL (mj L l) (fun x hx=>by
  unfold mj at hx;obtain ⟨w,hw,rfl⟩:=List.mem_map.1 hx;obtain ⟨i,hi⟩:=Ai h w hw;rw [hi]
  exact (dh hi).1)
 refine ⟨c,?_,om hc⟩;unfold BN;rw [ap h,hc];rfl
structure ab6 (L N:Nat) (e:Ed):Prop where
 to0:e.bare=true->e.to = -1
 to1:e.bare=false->∃ k:Nat,e.to=k/\k < N
 lab:∃ k:Nat,e.label=k/\k < L
 seen:∃ k:Nat,e.seen=k/\k < L
 wide:1<=e.wide/\e.wide<=64
 ck:0<=e.ck/\e.ck<=3
 cn:(e.ck=0->e.cn=0)/\(e.ck=1->1<=e.cn)/\(e.ck=2->0<=e.cn/\e.cn<=4096)/\(e.ck=3->e.cn=0)
structure dt (L N:Nat) (n:Nd):Prop where
 k1:1<=n.ag
 k8:n.ag<=8
 lohi:n.ag=2->n.lo<=n.hi
 lo0:n.ag≠2->n.lo=0/\n.hi=0
 ab7:n.ag=3->0<=n.most/\n.most<=4096
 ab8:n.ag=5->0<=n.most/\n.most<=1024
 ab9:n.ag≠3->n.ag≠5->n.most=0
 af:n.ag=4->n.af ≠ []/\n.af.length<=64/\n.af.Nodup/\∀ s∈n.af,bd s=true
 Xh:n.ag≠4->n.af=[]
 leaf:n.ag < 5->n.aw=[]
 one:n.ag=5∨n.ag=6->∃ e,n.aw=[e]/\e.bare=false/\e.name=av
 many:n.ag=7∨n.ag=8->n.aw.length<=64/\(n.ag=8->n.aw ≠ [])/\(n.aw.map Ed.name).Nodup/\∀ e∈n.aw,bd e.name=true
 bare:∀ e∈n.aw,e.bare=true->n.ag=8
 fD:∀ e∈n.aw,ab6 L N e
theorem pz {l:List Wd} (h:∀ j x,l[j]? = some x->aG l j x=0):(aA l).Nodup/\∀ x∈l,bd x.s=true:=by
 have key:∀ e,e<=l.length->(aA (l.take e)).Nodup:=by
  intro e
  induction e with
  | zero=>intro _;simp [aA]
  | succ e ih=>
   intro he;obtain ⟨x,hx⟩:∃ x,l[e]? = some x:=⟨_,gE (by omega)⟩
   grind [mi]
 refine ⟨by have:=key l.length (aQ _);rwa [List.take_length] at this,fun x hx=>?_⟩;obtain ⟨j,hj⟩:=List.mem_iff_getElem?.1 hx
 grind [aG,bd]
theorem sF {all:List Wd}:∀ {l:List Wd} {i:Nat},(enumL all i l).1=0->∀ j x,l[j]? = some x->aG all (i + j) x=0
 | [],i,_,j,x,hx=>by simp at hx
 | y :: r,i,h,j,x,hx=>by
  rw [enumL] at h;split at h
  ·rename_i h1;exact (h1 h).elim
  ·rename_i h1
   cases j with
   | zero=>grind
   | succ j=>
    simp only [List.getElem?_cons_succ] at hx;have:=sF h j x hx
    grind
theorem B7 {h:Hd} (he:iG h=(0,0)):h.af ≠ []/\h.af.length<=64/\(aA h.af).Nodup/\∀ x∈h.af,bd x.s=true:=by
 unfold iG at he;split at he
 ·cases he
 ·rename_i h1;split at he
  ·cases he
  ·rename_i h2;refine ⟨h1,by omega,?_⟩
   exact pz fun j x hx=>by
    have:=sF (all:=h.af) (i:=0) (by rw [he]) j x hx
    rwa [Nat.zero_add] at this
theorem Kl {X:Lx} {L:List ByteArray}:∀ {ps:Pts},(knP X L ps).1=0->∀ {p:Ph} {u:Ty},(p,u)∈ps.toList->(X.bad p.label).1=0/\(X.bad p.cl).1=0
 | .nil,_,p,u,h=>by cases h
 | .cons q v r,hk,p,u,h=>by
  have hr:=(sq hk).2;rw [knP] at hk;split at hk
  ·rename_i h1;exact (h1 hk).elim
  rename_i h1;split at hk
  ·rename_i h2;exact (h2 hk).elim
  rename_i h2;rcases cO h with h | h
  ·grind
  ·exact Kl hr h
theorem ou {p q:Ph} (h:cC p q=true):p.bare=q.bare/\p.wide=q.wide/\p.ck=q.ck/\p.cn=q.cn:=by grind [cC]
theorem PH {w:Int} (h:0<=w/\w<=64):1<=lk w/\lk w<=64:=by
 unfold lk;split<;>omega
theorem H6 {p:Ph} (h:(aY p).1=0):(0<=p.ck/\p.ck<=3)/\(p.ck=0->p.cn=0)/\(p.ck=1->1<=p.cn)/\(p.ck=2->0<=p.cn/\p.cn<=4096)/\(p.ck=3->p.cn=0):=by grind [aY]
theorem LU {p:Ph} (h:(dT p).1=0):(0<=p.wide/\p.wide<=64)/\(aY p).1=0:=by grind [dT,bM]
theorem B8 {t:Ty} (h:t.h.ag≠9):1<=t.nn:=by
 obtain ⟨h',ps⟩:=t;have h:¬ h'.ag=9:=h;rw [Ty.nn,aj h];omega
theorem Aj {S:Sch} {k:Nat} {x:Wd × Ty} (hx:S.types[k]? = some x):firstA S k + x.2.nn<=sD (gd S):=by
 have h1:=nE hx;rw [<- h1]
 have h2:firstA S (k + 1)=sD ((fZ S).take (k + 1)):=by
  unfold firstA sD fZ;rw [<- List.map_take,List.map_map];rfl
 grind [EZ,fZ,sD,gd,uX]
theorem xA {lev:List Wd->Int} {s:Sch} {n:Nd}:∀ {l:List Ty} {k i:Nat},(ndsA lev s l k)[i]? = some n->∃ t∈l,∃ u∈flatT t,n=SQ lev s u (k + i)/\i + u.nn<=sD l
 | [],k,i,h=>by simp [ndsA] at h
 | t :: r,k,i,h=>by
  rw [ndsA] at h;rw [nK];have hl:=kb lev s t k;by_cases hi:i < t.nn
  ·rw [dC (by omega),uW,List.getElem?_map,List.getElem?_zipIdx] at h
   cases hu:(flatT t)[i]? with
   | none=>rw [hu] at h;simp at h
   | some u=>
    rw [hu] at h;simp only [Option.map_some,oI] at h;have:=Ag t i u hu;exact ⟨t,List.mem_cons_self,u,mG hu,by rw [<- h];simp,by omega⟩
  ·rw [List.getElem?_append_right (by omega),hl] at h;obtain ⟨t',h1,u,h2,h3,h4⟩:=xA h
   grind
theorem mr (S:Sch):(aS S).length=sD (gd S):=by rw [jO,lp]
theorem sG {S:Sch} (hF:tE S) {i:Nat} {n:Nd} (h:(aS S)[i]? = some n):dt S.ae.length (aS S).length n:=by
 rw [mr];rw [jO] at h;obtain ⟨t,ht,u,hu,rfl,jX⟩:=xA h;rw [Nat.zero_add];have HI:=xz t ⟨_,_,hF.wr t ht⟩ u hu;have hk:=xu t (hF.kn t ht) u hu;have hk9:=E7 t u hu;have hT:=H5 HI;obtain ⟨aca,_⟩:=ll hF.lat;have hZ:=dD S.ae;have xy:=hF.ends;obtain ⟨uh,us⟩:=u;simp only [Ty.h,Ty.ps] at hT hk9;have WW:=(mn hk).2;have dc:=hT.own;unfold vX at dc;simp only [aP,Bool.or_eq_true,decide_eq_true_eq] at dc;obtain ⟨⟨⟨⟨o1,o2⟩,o3⟩,o4⟩,o5⟩:=dc;have k1:=hT.k1;have k9:=hT.k9
 have UU:∀ l:List Wd,(labW (aA S.ae) l).1=0->∃ k:Nat,iM S l=k/\k < S.ae.length:=by
  intro l hl;have:=LS (f:=eQ S.ae.length (dz (aA S.ae) S.order)) (L:=aA S.ae) (by rw [hZ];exact aca) hl
  rwa [hZ] at this
 have qM:∀ (p:Ph) (v:Ty) (k':Nat),(p,v)∈us.toList->(p.bare=false->k' + v.nn<=i + 1 + us.nn)->(p.bare=true->uT S p v k' = -1)/\(p.bare=false->∃ k:Nat,uT S p v k'=k/\k < sD (gd S)):=by
  intro p v k' hm fF;refine ⟨fun hb=>by simp [uT,hb],fun hb=>?_⟩;have hkv:=B5 WW hm hb;obtain ⟨vh,vs⟩:=v;by_cases h9:vh.ag=9
  ·obtain ⟨j,hj⟩:=Option.ne_none_iff_exists'.1 ((mn hkv).1 h9);have pO:=(dh hj).1;rw [ka] at pO;obtain ⟨k,hk⟩:=xy j pO;have lG:=qL hk;obtain ⟨x,hx⟩:∃ x,S.types[k]? = some x:=⟨_,gE lG.1⟩;have h1:=Aj hx
   grind [B8,firstA,uT,nG,Ty.h,WV,namedN]
  ·grind [B8,Ty.nn,uT,nG,Ty.h]
 have ED:∀ p v,(p,v)∈us.toList->(0<=p.wide/\p.wide<=64)/\(0<=p.ck/\p.ck<=3)/\((p.ck=0->p.cn=0)/\(p.ck=1->1<=p.cn)/\(p.ck=2->0<=p.cn/\p.cn<=4096)/\(p.ck=3->p.cn=0))/\(p.bare=true->uh.ag=8):=by
  intro p v hm;obtain ⟨j,hj⟩:=List.mem_iff_getElem?.1 hm
  have hlen:us.len≠0:=by
   cases us with
   | nil=>simp [Pts.toList] at hm
   | cons _ _ _=>simp [Pts.len]
  by_cases h5:uh.ag=5∨uh.ag=6
  ·obtain ⟨q,t',rfl,_,gn,_,_,_⟩:=hT.one h5;simp only [Pts.toList,List.mem_singleton,Prod.mk.injEq] at hm;obtain ⟨rfl,rfl⟩:=hm;obtain ⟨w1,w2,w3,w4⟩:=ou gn;have z1:fp.wide=0:=rfl;have z2:fp.ck=0:=rfl;have z3:fp.cn=0:=rfl;have z4:fp.bare=false:=rfl
   grind
  ·obtain ⟨_,hP⟩:=(hT.many (by omega)).2.2 j p v hj;rcases hP with ⟨hb,h8,_,gn⟩ | ⟨hb,hp,_⟩
   ·obtain ⟨w1,w2,w3,w4⟩:=ou gn;have z1:jo.wide=0:=rfl;have z2:jo.ck=0:=rfl;have z3:jo.cn=0:=rfl;omega
   ·obtain ⟨w1,w2⟩:=LU hp;obtain ⟨w3,w4⟩:=H6 w2
    grind
 have acb:us.len=0->us = .nil:=fun h=>by
  cases us with
  | nil=>rfl
  | cons _ _ _=>simp [Pts.len] at h
 refine {
  k1:=k1
  k8:=by show uh.ag<=8;omega
  lohi:=hT.int
  lo0:=fun h2=>?_
  ab7:=hT.text
  ab8:=fun h5=>?_
  ab9:=fun h3 h5=>?_
  af:=fun h4=>?_
  Xh:=fun h4=>?_
  leaf:=fun h5=>?_
  one:=fun h5=>?_
  many:=fun h7=>?_
  bare:=fun e he hb=>?_
  fD:=fun e he=>?_ }
 ·show uh.lo=0/\uh.hi=0;exact o1.resolve_left h2
 ·obtain ⟨q,t',rfl,_,_,lN,jk,_⟩:=hT.one (.inl h5);exact ⟨lN,jk⟩
 ·show uh.most=0;exact o2.resolve_left (fun h=>h.elim h3 h5)
 ·obtain ⟨e1,e2,e3,e4⟩:=B7 (hT.enum h4);show aA uh.af ≠ []/\(aA uh.af).length<=64/\(aA uh.af).Nodup/\∀ s∈aA uh.af,bd s=true
  grind [aA,dD]
 ·show aA uh.af=[];have:=o4.resolve_right h4;have:uh.af=[]:=List.eq_nil_of_length_eq_zero this;rw [this];all_goals rfl
 ·show edsP (iM S) S us (i + 1)=[];have hk5:uh.ag < 5:=h5;rw [acb (o3.resolve_right (by omega))];rfl
 ·show ∃ e,edsP (iM S) S us (i + 1)=[e]/\_;obtain ⟨q,t',rfl,hn,gn,_,_,_⟩:=hT.one h5;refine ⟨wP (iM S) q (uT S q t' (i + 1)),rfl,?_,hn⟩;exact (ou gn).1
 ·show (edsP (iM S) S us (i + 1)).length<=64/\(_->edsP (iM S) S us (i + 1) ≠ [])/\((edsP (iM S) S us (i + 1)).map Ed.name).Nodup/\∀ e∈edsP (iM S) S us (i + 1),bd e.name=true;obtain ⟨m1,m2,m3⟩:=hT.many h7;have jA:∀ j x,(pNames us)[j]? = some x->aG (pNames us) j x=0:=by grind [gw,Pts.eE,gx]
  obtain ⟨n1,n2⟩:=pz jA;refine ⟨by rw [qN];exact m1,fun h8 hn=>m2 h8 ?_,by rw [px];exact n1,fun e he=>?_⟩
  ·grind [qN,iM]
  ·have:e.name∈aA (pNames us):=by rw [<- px (lev:=iM S) (s:=S) (k:=i + 1)];exact List.mem_map_of_mem he
   grind [aA]
 ·obtain ⟨p,v,k',h1,rfl,_⟩:=qV he;exact (ED p v h1).2.2.2 hb
 ·obtain ⟨p,v,k',h1,rfl,h3⟩:=qV he;obtain ⟨h4,h5⟩:=qM p v k' h1 h3;obtain ⟨h6,h7,h8,_⟩:=ED p v h1;obtain ⟨h9,td⟩:=Kl WW h1;exact { to0:=h4,to1:=h5,lab:=UU _ h9,seen:=UU _ td,wide:=PH h6,ck:=h7,cn:=h8 }
theorem H7 {S:Sch} (hF:tE S):∃ k:Nat,cr S=k/\k < (aS S).length:=by
 rw [mr];have Kb:=hF.kn S.root (by unfold gd;simp);have xy:=hF.ends;have eM:=xr S;have Na:sD (gd S)=sD (fZ S) + S.root.nn:=by unfold gd;rw [uX];simp [sD]
 unfold cr;obtain ⟨ae,order,types,⟨rh,rp⟩⟩:=S;simp only at Kb xy Na;by_cases h9:rh.ag=9
 ·obtain ⟨j,hj⟩:=Option.ne_none_iff_exists'.1 ((mn Kb).1 h9);have pO:=(dh hj).1;rw [ka] at pO;obtain ⟨k,hk⟩:=xy j pO;have lG:=qL hk;obtain ⟨x,hx⟩:∃ x,(Sch.mk ae order types (.mk rh rp)).types[k]? = some x:=⟨_,gE lG.1⟩;have h1:=Aj hx
  grind [B8,firstA,nG,Ty.h,WV,namedN]
 ·grind [B8,qP,nG,Ty.h]
theorem xB {lev:List Wd->Int} {s:Sch} {n:Nd}:∀ {l:List Ty} {k:Nat},n∈ndsA lev s l k->∃ t∈l,∃ u∈flatT t,∃ k',n=SQ lev s u k'
 | [],_,h=>by cases h
 | t :: r,k,h=>by
  rw [ndsA] at h;rcases List.mem_append.1 h with h | h
  ·grind [uW]
  ·obtain ⟨t',ht,h⟩:=xB h;exact ⟨t',gC _ ht,h⟩
theorem lr {S:Sch} {n:Nd} (h:n∈aS S) (hS:S.wt<=1099511627776):n.af.length<=1099511627776/\n.aw.length<=1099511627776:=by
 rw [jO] at h;obtain ⟨t,ht,u,hu,k,rfl⟩:=xB h;have h1:=B2 hS t ht;have h2:=xx t u hu;obtain ⟨uh,us⟩:=u;have h3:=bu uh.af;have h4:=us.fK
 grind [Ty.wt,Hd.wt,SQ,Ty.h,Ty.ps,dD,qN]
abbrev zNd:List DV:=[.v (.int .i64 0),.v (.int .i64 0),.v (.int .i64 0),.v (.int .i64 0),.v (.int .i64 0),.v (.slice none 0 0),.v (.slice none 0 0)]
structure eT (S:Sch) (ND:List Nd) (PC:List DV):Prop where
 fine:tE S
 wt:S.wt<=1099511627776
 BS:ND=aS S
 ok:∀ n∈ND,dt S.ae.length ND.length n
 nl:ND.length<=1099511627776
 len:EvP prog 94 [.pt PC 0] (.v (.int .i64 ND.length))
 root:EvP prog 37 [.pt PC 0] (.v (.int .i64 (cr S)))
 ah:∀ (i:Nat) n,ND[i]? = some n->EvP prog 36 [.pt PC 0,.v (.int .i64 i)] (.tup [.agg (kO n),.v (.bool true)])
 Vg:∀ i:Int,(i < 0∨ND.length<=i)->EvP prog 36 [.pt PC 0,.v (.int .i64 i)] (.tup [.agg zNd,.v (.bool false)])
 lat:∃ aF js,(dB S aF js).OK/\EvP prog 72 [.pt PC 0] (dB S aF js).pd
theorem PI {S:Sch} {d:DV} (hS:S.wt<=1099511627776) (h0:(kP S).1=0) (hd:Pp S d):∃ PC,d = .pt PC 0/\eT S (aS S) PC:=by
 obtain ⟨aF,kQ,js,hX,hT,kZ,rfl⟩:=hd;have hF:=qU h0;have bZ:=fun n (h:n∈aS S)=>lr h hS
 refine ⟨_,rfl,{
  fine:=hF
  wt:=hS
  BS:=rfl
  ok:=fun n hn=>?_
  nl:=by rw [mr];exact Nat.le_trans (H3 S) hS
  len:=su _ _ _ _ _ _
  root:=HK _ _ _ _ _ _
  ah:=fun i n h=>HL _ _ _ _ _ _ i n h (bZ n (mG h)).1 (bZ n (mG h)).2
  Vg:=fun i h=>HM _ _ _ _ _ _ i h
  lat:=⟨aF,js,hX,LI _ _ _ _ _ _⟩ }⟩
 obtain ⟨i,hi⟩:=List.mem_iff_getElem?.1 hn;exact sG hF hi
def H8 (S:Sch) (r:DV):Prop:=((kP S).1≠0/\r = .tup [.v (.pointer none),(kP S).d])∨((kP S).1=0/\∃ PC,eT S (aS S) PC/\r = .tup [.pt PC 0,Ft.d (0,0)])
theorem Ak {S:Sch} (hS:S.wt<=1099511627776) {r:DV} {os:List (List DV)} {tk:List TkE} (h:HG S r os tk):H8 S r:=by
 unfold HG at h;by_cases h0:(kP S).1=0
 ·rw [aj (by rw [h0];simp)] at h;obtain ⟨d,hd,rfl⟩:=h;obtain ⟨PC,rfl,hP⟩:=PI hS h0 hd;exact .inr ⟨h0,PC,hP,rfl⟩
 ·rw [ap h0] at h;exact .inl ⟨h0,h⟩
inductive Val where
 | mk (k n:Int) (s:ByteArray) (ks:List Val)
def Val.k:Val->Int | .mk k _ _ _=>k
def Val.n:Val->Int | .mk _ n _ _=>n
def Val.s:Val->ByteArray | .mk _ _ s _=>s
def Val.ks:Val->List Val | .mk _ _ _ ks=>ks
mutual
def aZ:Val->List DV
 | .mk k n s ks=>[.v (.int .i64 k),.v (.int .i64 n),.v (.string s),.sl 4 (dVals ks) none]
def dVals:List Val->List (List DV)
 | []=>[]
 | v :: r=>aZ v :: dVals r
end
theorem lu:∀ l:List Val,dVals l=l.map aZ
 | []=>rfl
 | v :: r=>by rw [dVals,lu r];all_goals rfl
theorem bl (l:List Val):(dVals l).length=l.length:=by rw [lu,List.length_map]
theorem cp {l:List Val} {e:Nat} {x:Val} (h:l[e]? = some x):(dVals l)[e]? = some (aZ x):=by rw [lu,List.getElem?_map,h];all_goals rfl
theorem H9 {l:List Val} {e:Nat} {x:Val} (h:l[e]? = some x):dVals (l.take e) ++ [aZ x]=dVals (l.take (e + 1)):=by
 rw [lu,lu,List.take_add_one,h];simp
mutual
def Val.wt:Val->Nat
 | .mk _ _ s ks=>64 + s.size + ch ks
def ch:List Val->Nat
 | []=>0
 | v :: r=>v.wt + ch r
end
theorem Val.dy:∀ v:Val,64<=v.wt
 | .mk _ _ _ _=>by rw [Val.wt];omega
theorem du:∀ {l:List Val} {x:Val},x∈l->x.wt<=ch l
 | v :: r,x,h=>by
  rcases cO h with rfl | h
  ·rw [ch];omega
  ·have:=du h;rw [ch];omega
theorem cG:∀ l:List Val,64 * l.length<=ch l
 | []=>aQ _
 | v :: r=>by
  have:=cG r;have:=v.dy;rw [ch,List.length_cons];omega
mutual
def Fa:Val->Nat
 | .mk _ _ _ ks=>1 + lx ks
def lx:List Val->Nat
 | []=>0
 | v :: r=>Fa v + lx r
end
mutual
def yR:Val->Nat
 | .mk _ _ _ ks=>ir ks + 1
def ir:List Val->Nat
 | []=>0
 | v :: r=>max (yR v) (ir r)
end
mutual
theorem Km:∀ v:Val,Fa v<=v.wt/\yR v<=v.wt
 | .mk _ _ _ ks=>by
  have:=xC ks;rw [Fa,yR,Val.wt];omega
theorem xC:∀ l:List Val,lx l<=ch l/\ir l<=ch l
 | []=>⟨aQ _,aQ _⟩
 | v :: r=>by
  have h1:=Km v;have h2:=xC r;rw [lx,ir,ch];omega
end
theorem xD:∀ (l:List Val) (x:Val),lx (l ++ [x])=lx l + Fa x
 | [],x=>by simp [lx]
 | v :: r,x=>by rw [List.cons_append,lx,lx,xD r];omega
theorem xE:∀ (l:List Val) (x:Val),ir (l ++ [x])=max (ir l) (yR x)
 | [],x=>by simp [ir]
 | v :: r,x=>by rw [List.cons_append,ir,ir,xE r];omega
theorem sH {α:Type} {l:List α} {e:Nat} {x:α} (h:l[e]? = some x):l.take (e + 1)=l.take e ++ [x]:=by rw [List.take_add_one,h];all_goals rfl
theorem Ia (l:List Val):∀ e,lx (l.take e)<=ch l/\ir (l.take e)<=ch l:=fun e=>by
 have h1:=xC (l.take e)
 have h2:∀ (l:List Val) e,ch (l.take e)<=ch l:=by
  intro l
  induction l with
  | nil=>intro e;simp [ch]
  | cons v r ih=>
   intro e
   cases e with
   | zero=>simp [ch]
   | succ e=>have:=ih e;simp only [List.take_succ_cons,ch];omega
 have:=h2 l e;omega
abbrev szSt (v:Val) (n d e:Nat):St:=
 ⟨[aE 1 0,ay 4 n,ay 5 d,ay 6 e],[aZ v],[]⟩
theorem tG:∀ (k:Nat) (v:Val),v.wt<=k->v.wt<=1099511627776->EvP prog 42 [.agg (aZ v)] (.tup [.v (.int .i64 (Fa v:Nat)),.v (.int .i64 (yR v:Nat))])
 | 0,v,h,_=>by have:=v.dy;omega
 | k + 1,.mk q n s ks,h,hb=>by
  have ih:=tG k;have de:=bl ks;have lG:=cG ks;have ig:=Ia ks;rw [Val.wt] at h hb;rw [Fa,yR];refine eG 35 [.tmp 2,.tmp 3] func42 rfl ntmps42 rfl fun _ _ _ _=>?_;refine lJ (fun e=>szSt (.mk q n s ks) (1 + lx (ks.take e)) (ir (ks.take e)) e) ks.length (bp wB) ?_;intro e he;refine br ?_ ?_<;>intro hL
  ·have au:e < ks.length:=by have:=hL;simp [de] at this;exact this
   obtain ⟨x,hx⟩:=gX au;have UW:=du (mG hx);have hc:=xD (ks.take e) x;have hd:=xE (ks.take e) x;rw [<- sH hx] at hc hd;have h1:=ig (e + 1);have hi:=ih x (by omega) (by omega);have SV:=Km x;obtain ⟨xk,xn,xs,xl⟩:=x;refine iX (cp hx) ?_;refine cP Zb hi ?_;have hw:IntKind.i64.wrap (((1 + lx (ks.take e):Nat):Int) + ((Fa (.mk xk xn xs xl):Nat):Int))=((1 + lx (ks.take (e + 1)):Nat):Int):=by rw [wrap64 (by omega) (by omega)];omega
   refine br ?_ ?_<;>intro g
   ·have g:ir (ks.take e) < yR (.mk xk xn xs xl):=sU g;have DF:((yR (.mk xk xn xs xl):Nat):Int)=((ir (ks.take (e + 1)):Nat):Int):=by omega
    exact rE ⟨_,by omega,e + 1,rfl,by omega,rfl⟩ (bp (Rc hw DF (aN au (by omega))))
   ·have g:¬ ir (ks.take e) < yR (.mk xk xn xs xl):=sU g;have DF:((ir (ks.take e):Nat):Int)=((ir (ks.take (e + 1)):Nat):Int):=by omega
    exact rE ⟨_,by omega,e + 1,rfl,by omega,rfl⟩ (bp (Rc hw DF (aN au (by omega))))
  ·have hge:e=ks.length:=sW de hL;subst hge;have h1:=ig ks.length;rw [List.take_length] at h1 ⊢;have hw:IntKind.i64.wrap (((ir ks:Nat):Int) + 1)=((ir ks + 1:Nat):Int):=by rw [wrap64 (by omega) (by omega)];omega
   refine ⟨_,(rz hw),rfl⟩
theorem tH:prog.cellsOf 34=4:=by kernel_rfl
end Go.Proofs.YtgjagnmeonoehaaGreat
namespace Go.Proofs.YtgjagnmeonoehaaGreat
open Go Go.RowKit Dv
def tyVS:List TypeId:=[34,32,9,3]
theorem tyVS_ok:∀ t∈tyVS,kL Tryz.prog tyVS t=true:=by
 have h:(tyVS.all fun t=>kL Tryz.prog tyVS t)=true:=by kernel_rfl
 exact fun t ht=>List.all_eq_true.1 h t ht
end Go.Proofs.YtgjagnmeonoehaaGreat
set_option maxRecDepth 100000
namespace Go.Proofs.YtgjagnmeonoehaaGreat
open Go Go.RowKit Dv Go.Proofs.Tryz
def aJ (n u:Int):Int × Bool:=if u < 1 then (0,false) else if n - n % u < -9223372036854775808 then (0,false) else (n - n % u,true)
def B9 (r:Int × Bool):DV:=.tup [.v (.int .i64 r.1),.v (.bool r.2)]
theorem PJ {n u:Int} (hu:1<=u):(n.tmod u < 0->n.tmod u + u=n % u)/\(¬ n.tmod u < 0->n.tmod u=n % u):=by
 have h1:=Int.emod_nonneg n (show u≠0 by omega);have h2:=Int.emod_lt_of_pos n (show 0 < u by omega);have h3:=Int.tmod_eq_emod (a:=n) (b:=u);have h4:(u.natAbs:Int)=u:=Int.natAbs_of_nonneg (by omega);rw [h3];split<;>omega
theorem iN (n u:Int) (hn : -9223372036854775808<=n/\n<=9223372036854775807) (hu : -9223372036854775808<=u/\u<=9223372036854775807):EvP prog 214 [.v (.int .i64 n),.v (.int .i64 u)] (B9 (aJ n u)):=by
 have hF:aJ n u=if u < 1 then (0,false) else if n - n % u < -9223372036854775808 then (0,false) else (n - n % u,true):=rfl
 generalize aJ n u=F at hF ⊢;refine eG 24 [.tmp 4,.tmp 5] func214 rfl ntmps214 rfl fun _ _ _ _=>?_;refine br ?_ ?_<;>intro c
 ·have c:u < 1:=sU c;rw [ap c] at hF;subst hF;exact ⟨_,ax,rfl⟩
 have c:¬ u < 1:=sU c;rw [aj c] at hF;have hm:=PJ (n:=n) (u:=u) (by omega);have h1:=Int.emod_nonneg n (show u≠0 by omega);have h2:=Int.emod_lt_of_pos n (show 0 < u by omega);have h5 : -u<=n.tmod u/\n.tmod u < u:=by omega
 have Q9:IntKind.i64.wrap (-9223372036854775808 + n % u) = -9223372036854775808 + n % u:=wrap64 (by omega) (by omega);refine ⟨⟨rfl,by omega⟩,?_⟩;refine br ?_ ?_<;>intro g
 ·have g:n.tmod u < 0:=sU g;have hw2:IntKind.i64.wrap (n.tmod u + u)=n % u:=by rw [hm.1 g];exact wrap64 (by omega) (by omega)
  refine br ?_ ?_<;>intro h
  ·have h:n < IntKind.i64.wrap (-9223372036854775808 + IntKind.i64.wrap (n.tmod u + u)):=sU h;rw [hw2,Q9] at h;rw [ap (by omega)] at hF;subst hF;exact ⟨_,ax,rfl⟩
  ·have h:¬ n < IntKind.i64.wrap (-9223372036854775808 + IntKind.i64.wrap (n.tmod u + u)):=sU h;rw [hw2,Q9] at h;rw [aj (by omega)] at hF;have yB:IntKind.i64.wrap (n - IntKind.i64.wrap (n.tmod u + u))=n - n % u:=by rw [hw2];exact wrap64 (by omega) (by omega)
   refine ⟨.tup [.v (.int .i64 (IntKind.i64.wrap (n - IntKind.i64.wrap (n.tmod u + u)))),.v (.bool true)],ax,?_⟩;rw [hF];exact congrArg (fun z=>DV.tup [.v (.int .i64 z),.v (.bool true)]) yB
 ·have g:¬ n.tmod u < 0:=sU g;have hw2:n.tmod u=n % u:=hm.2 g;refine br ?_ ?_<;>intro h
  ·have h:n < IntKind.i64.wrap (-9223372036854775808 + n.tmod u):=sU h;rw [hw2,Q9] at h;rw [ap (by omega)] at hF;subst hF;exact ⟨_,ax,rfl⟩
  ·have h:¬ n < IntKind.i64.wrap (-9223372036854775808 + n.tmod u):=sU h;rw [hw2,Q9] at h;rw [aj (by omega)] at hF;have yB:IntKind.i64.wrap (n - n.tmod u)=n - n % u:=by rw [hw2];exact wrap64 (by omega) (by omega)
   refine ⟨.tup [.v (.int .i64 (IntKind.i64.wrap (n - n.tmod u))),.v (.bool true)],ax,?_⟩;rw [hF];exact congrArg (fun z=>DV.tup [.v (.int .i64 z),.v (.bool true)]) yB
def bc (c:Nat):Nat:=if c < 128 then 1 else if 194<=c/\c<=223 then 2 else if 224<=c/\c<=239 then 3 else if 240<=c/\c<=244 then 4 else 0
def iu (c:Nat):Nat:=if c=224 then 160 else if c=240 then 144 else 128
def iv (c:Nat):Nat:=if c=237 then 159 else if c=244 then 143 else 191
theorem LV (c:Nat):EvP prog 337 [.v (.int .u8 c)] (.tup [.v (.int .i64 (bc c:Nat)),.v (.int .u8 (iu c:Nat)),.v (.int .u8 (iv c:Nat))]):=by
 have hN:bc c=if c < 128 then 1 else if 194<=c/\c<=223 then 2 else if 224<=c/\c<=239 then 3 else if 240<=c/\c<=244 then 4 else 0:=rfl
 have hL:iu c=if c=224 then 160 else if c=240 then 144 else 128:=rfl
 have hH:iv c=if c=237 then 159 else if c=244 then 143 else 191:=rfl
 generalize bc c=N at hN ⊢;generalize iu c=L at hL ⊢;generalize iv c=H at hH ⊢;refine eG 41 [.tmp 2,.tmp 3,.tmp 4] func337 rfl ntmps337 rfl fun _ _ _ _=>?_;refine br ?_ ?_<;>intro c1
 ·have c1:(c:Int) < 128:=sU c1;refine br ?_ ?_<;>intro g
  ·have g:(c:Int)=224:=sU g
   have hn:N=1:=by
    rw [hN]
    repeat' split
    all_goals omega
   have hl:L=160:=by
    rw [hL]
    repeat' split
    all_goals omega
   have hh:H=191:=by
    rw [hH]
    repeat' split
    all_goals omega
   rw [hn,hl,hh];exact ⟨_,ax,rfl⟩
  have SX:¬ (c:Int)=224:=sU g;refine br ?_ ?_<;>intro g
  ·have g:(c:Int)=237:=sU g
   have hn:N=1:=by
    rw [hN]
    repeat' split
    all_goals omega
   have hl:L=128:=by
    rw [hL]
    repeat' split
    all_goals omega
   have hh:H=159:=by
    rw [hH]
    repeat' split
    all_goals omega
   rw [hn,hl,hh];exact ⟨_,ax,rfl⟩
  have SY:¬ (c:Int)=237:=sU g;refine br ?_ ?_<;>intro g
  ·have g:(c:Int)=240:=sU g
   have hn:N=1:=by
    rw [hN]
    repeat' split
    all_goals omega
   have hl:L=144:=by
    rw [hL]
    repeat' split
    all_goals omega
   have hh:H=191:=by
    rw [hH]
    repeat' split
    all_goals omega
   rw [hn,hl,hh];exact ⟨_,ax,rfl⟩
  have S0:¬ (c:Int)=240:=sU g;refine br ?_ ?_<;>intro g
  ·have g:(c:Int)=244:=sU g
   have hn:N=1:=by
    rw [hN]
    repeat' split
    all_goals omega
   have hl:L=128:=by
    rw [hL]
    repeat' split
    all_goals omega
   have hh:H=143:=by
    rw [hH]
    repeat' split
    all_goals omega
   rw [hn,hl,hh];exact ⟨_,ax,rfl⟩
  have S1:¬ (c:Int)=244:=sU g
  have hn:N=1:=by
   rw [hN]
   repeat' split
   all_goals omega
  have hl:L=128:=by
   rw [hL]
   repeat' split
   all_goals omega
  have hh:H=191:=by
   rw [hH]
   repeat' split
   all_goals omega
  rw [hn,hl,hh];exact ⟨_,ax,rfl⟩
 have c1:¬ (c:Int) < 128:=sU c1;refine br ?_ ?_<;>intro k
 ·have k:194<=(c:Int)/\(c:Int)<=223:=by simpa [ai] using k
  refine br ?_ ?_<;>intro g
  ·have g:(c:Int)=224:=sU g
   have hn:N=2:=by
    rw [hN]
    repeat' split
    all_goals omega
   have hl:L=160:=by
    rw [hL]
    repeat' split
    all_goals omega
   have hh:H=191:=by
    rw [hH]
    repeat' split
    all_goals omega
   rw [hn,hl,hh];exact ⟨_,ax,rfl⟩
  have SX:¬ (c:Int)=224:=sU g;refine br ?_ ?_<;>intro g
  ·have g:(c:Int)=237:=sU g
   have hn:N=2:=by
    rw [hN]
    repeat' split
    all_goals omega
   have hl:L=128:=by
    rw [hL]
    repeat' split
    all_goals omega
   have hh:H=159:=by
    rw [hH]
    repeat' split
    all_goals omega
   rw [hn,hl,hh];exact ⟨_,ax,rfl⟩
  have SY:¬ (c:Int)=237:=sU g;refine br ?_ ?_<;>intro g
  ·have g:(c:Int)=240:=sU g
   have hn:N=2:=by
    rw [hN]
    repeat' split
    all_goals omega
   have hl:L=144:=by
    rw [hL]
    repeat' split
    all_goals omega
   have hh:H=191:=by
    rw [hH]
    repeat' split
    all_goals omega
   rw [hn,hl,hh];exact ⟨_,ax,rfl⟩
  have S0:¬ (c:Int)=240:=sU g;refine br ?_ ?_<;>intro g
  ·have g:(c:Int)=244:=sU g
   have hn:N=2:=by
    rw [hN]
    repeat' split
    all_goals omega
   have hl:L=128:=by
    rw [hL]
    repeat' split
    all_goals omega
   have hh:H=143:=by
    rw [hH]
    repeat' split
    all_goals omega
   rw [hn,hl,hh];exact ⟨_,ax,rfl⟩
  have S1:¬ (c:Int)=244:=sU g
  have hn:N=2:=by
   rw [hN]
   repeat' split
   all_goals omega
  have hl:L=128:=by
   rw [hL]
   repeat' split
   all_goals omega
  have hh:H=191:=by
   rw [hH]
   repeat' split
   all_goals omega
  rw [hn,hl,hh];exact ⟨_,ax,rfl⟩
 have k194:¬ (194<=(c:Int)/\(c:Int)<=223):=by simpa [ai] using k
 refine br ?_ ?_<;>intro k
 ·have k:224<=(c:Int)/\(c:Int)<=239:=by simpa [ai] using k
  refine br ?_ ?_<;>intro g
  ·have g:(c:Int)=224:=sU g
   have hn:N=3:=by
    rw [hN]
    repeat' split
    all_goals omega
   have hl:L=160:=by
    rw [hL]
    repeat' split
    all_goals omega
   have hh:H=191:=by
    rw [hH]
    repeat' split
    all_goals omega
   rw [hn,hl,hh];exact ⟨_,ax,rfl⟩
  have SX:¬ (c:Int)=224:=sU g;refine br ?_ ?_<;>intro g
  ·have g:(c:Int)=237:=sU g
   have hn:N=3:=by
    rw [hN]
    repeat' split
    all_goals omega
   have hl:L=128:=by
    rw [hL]
    repeat' split
    all_goals omega
   have hh:H=159:=by
    rw [hH]
    repeat' split
    all_goals omega
   rw [hn,hl,hh];exact ⟨_,ax,rfl⟩
  have SY:¬ (c:Int)=237:=sU g;refine br ?_ ?_<;>intro g
  ·have g:(c:Int)=240:=sU g
   have hn:N=3:=by
    rw [hN]
    repeat' split
    all_goals omega
   have hl:L=144:=by
    rw [hL]
    repeat' split
    all_goals omega
   have hh:H=191:=by
    rw [hH]
    repeat' split
    all_goals omega
   rw [hn,hl,hh];exact ⟨_,ax,rfl⟩
  have S0:¬ (c:Int)=240:=sU g;refine br ?_ ?_<;>intro g
  ·have g:(c:Int)=244:=sU g
   have hn:N=3:=by
    rw [hN]
    repeat' split
    all_goals omega
   have hl:L=128:=by
    rw [hL]
    repeat' split
    all_goals omega
   have hh:H=143:=by
    rw [hH]
    repeat' split
    all_goals omega
   rw [hn,hl,hh];exact ⟨_,ax,rfl⟩
  have S1:¬ (c:Int)=244:=sU g
  have hn:N=3:=by
   rw [hN]
   repeat' split
   all_goals omega
  have hl:L=128:=by
   rw [hL]
   repeat' split
   all_goals omega
  have hh:H=191:=by
   rw [hH]
   repeat' split
   all_goals omega
  rw [hn,hl,hh];exact ⟨_,ax,rfl⟩
 have k224:¬ (224<=(c:Int)/\(c:Int)<=239):=by simpa [ai] using k
 refine br ?_ ?_<;>intro k
 ·have k:240<=(c:Int)/\(c:Int)<=244:=by simpa [ai] using k
  refine br ?_ ?_<;>intro g
  ·have g:(c:Int)=224:=sU g
   have hn:N=4:=by
    rw [hN]
    repeat' split
    all_goals omega
   have hl:L=160:=by
    rw [hL]
    repeat' split
    all_goals omega
   have hh:H=191:=by
    rw [hH]
    repeat' split
    all_goals omega
   rw [hn,hl,hh];exact ⟨_,ax,rfl⟩
  have SX:¬ (c:Int)=224:=sU g;refine br ?_ ?_<;>intro g
  ·have g:(c:Int)=237:=sU g
   have hn:N=4:=by
    rw [hN]
    repeat' split
    all_goals omega
   have hl:L=128:=by
    rw [hL]
    repeat' split
    all_goals omega
   have hh:H=159:=by
    rw [hH]
    repeat' split
    all_goals omega
   rw [hn,hl,hh];exact ⟨_,ax,rfl⟩
  have SY:¬ (c:Int)=237:=sU g;refine br ?_ ?_<;>intro g
  ·have g:(c:Int)=240:=sU g
   have hn:N=4:=by
    rw [hN]
    repeat' split
    all_goals omega
   have hl:L=144:=by
    rw [hL]
    repeat' split
    all_goals omega
   have hh:H=191:=by
    rw [hH]
    repeat' split
    all_goals omega
   rw [hn,hl,hh];exact ⟨_,ax,rfl⟩
  have S0:¬ (c:Int)=240:=sU g;refine br ?_ ?_<;>intro g
  ·have g:(c:Int)=244:=sU g
   have hn:N=4:=by
    rw [hN]
    repeat' split
    all_goals omega
   have hl:L=128:=by
    rw [hL]
    repeat' split
    all_goals omega
   have hh:H=143:=by
    rw [hH]
    repeat' split
    all_goals omega
   rw [hn,hl,hh];exact ⟨_,ax,rfl⟩
  have S1:¬ (c:Int)=244:=sU g
  have hn:N=4:=by
   rw [hN]
   repeat' split
   all_goals omega
  have hl:L=128:=by
   rw [hL]
   repeat' split
   all_goals omega
  have hh:H=191:=by
   rw [hH]
   repeat' split
   all_goals omega
  rw [hn,hl,hh];exact ⟨_,ax,rfl⟩
 have k240:¬ (240<=(c:Int)/\(c:Int)<=244):=by simpa [ai] using k
 refine br ?_ ?_<;>intro g
 ·have g:(c:Int)=224:=sU g
  have hn:N=0:=by
   rw [hN]
   repeat' split
   all_goals omega
  have hl:L=160:=by
   rw [hL]
   repeat' split
   all_goals omega
  have hh:H=191:=by
   rw [hH]
   repeat' split
   all_goals omega
  rw [hn,hl,hh];exact ⟨_,ax,rfl⟩
 have SX:¬ (c:Int)=224:=sU g;refine br ?_ ?_<;>intro g
 ·have g:(c:Int)=237:=sU g
  have hn:N=0:=by
   rw [hN]
   repeat' split
   all_goals omega
  have hl:L=128:=by
   rw [hL]
   repeat' split
   all_goals omega
  have hh:H=159:=by
   rw [hH]
   repeat' split
   all_goals omega
  rw [hn,hl,hh];exact ⟨_,ax,rfl⟩
 have SY:¬ (c:Int)=237:=sU g;refine br ?_ ?_<;>intro g
 ·have g:(c:Int)=240:=sU g
  have hn:N=0:=by
   rw [hN]
   repeat' split
   all_goals omega
  have hl:L=144:=by
   rw [hL]
   repeat' split
   all_goals omega
  have hh:H=191:=by
   rw [hH]
   repeat' split
   all_goals omega
  rw [hn,hl,hh];exact ⟨_,ax,rfl⟩
 have S0:¬ (c:Int)=240:=sU g;refine br ?_ ?_<;>intro g
 ·have g:(c:Int)=244:=sU g
  have hn:N=0:=by
   rw [hN]
   repeat' split
   all_goals omega
  have hl:L=128:=by
   rw [hL]
   repeat' split
   all_goals omega
  have hh:H=143:=by
   rw [hH]
   repeat' split
   all_goals omega
  rw [hn,hl,hh];exact ⟨_,ax,rfl⟩
 have S1:¬ (c:Int)=244:=sU g
 have hn:N=0:=by
  rw [hN]
  repeat' split
  all_goals omega
 have hl:L=128:=by
  rw [hL]
  repeat' split
  all_goals omega
 have hh:H=191:=by
  rw [hH]
  repeat' split
  all_goals omega
 rw [hn,hl,hh];exact ⟨_,ax,rfl⟩
def recV:List UInt8->Int
 | [a]=>a.toNat
 | [a,b]=>(a.toNat - 192) * 64 + (b.toNat - 128)
 | [a,b,c]=>(a.toNat - 224) * 4096 + (b.toNat - 128) * 64 + (c.toNat - 128)
 | [a,b,c,d]=>(a.toNat - 240) * 262144 + (b.toNat - 128) * 4096 + (c.toNat - 128) * 64 + (d.toNat - 128)
 | _=>0
def PK:List UInt8->Bool
 | [a]=>decide (a.toNat < 128)
 | [a,b]=>decide (192<=a.toNat/\a.toNat < 224/\128<=b.toNat/\b.toNat < 192)
 | [a,b,c]=>decide (224<=a.toNat/\a.toNat < 240/\128<=b.toNat/\b.toNat < 192/\128<=c.toNat/\c.toNat < 192)
 | [a,b,c,d]=>decide (240<=a.toNat/\a.toNat < 248/\128<=b.toNat/\b.toNat < 192/\128<=c.toNat/\c.toNat < 192/\128<=d.toNat/\d.toNat < 192)
 | _=>false
theorem LW {n:Int} (h1 : -2147483648<=n) (h2:n<=2147483647):IntKind.i32.wrap n=n:=by
 simp [IntKind.wrap,IntKind.min,IntKind.max,IntKind.signed,IntKind.bits];omega
theorem S2 {x:Nat} (h:x < 4294967296):(BitVec.ofInt 32 (x:Int)).toNat=x:=by
 rw [BitVec.toNat_ofInt];omega
theorem PL {x m:Nat} (k:Nat) (hk:m=2 ^ k - 1) (hm:m < 256) (h:x < 256):IntKind.i32.wrap ((BitVec.ofInt IntKind.i32.bits (IntKind.i32.wrap (x:Int)) &&& BitVec.ofInt IntKind.i32.bits (m:Int)).toNat:Nat)=((x % 2 ^ k:Nat):Int):=by
 rw [LW (n:=(x:Int)) (by omega) (by omega)];show IntKind.i32.wrap ((BitVec.ofInt 32 (x:Int) &&& BitVec.ofInt 32 (m:Int)).toNat:Nat)=_;rw [BitVec.toNat_and,S2 (by omega),S2 (by omega),hk,Nat.and_two_pow_sub_one_eq_mod];have:=Nat.mod_le x (2 ^ k);exact LW (by omega) (by omega)
theorem Al {x:Nat} (hx:x < 256):IntKind.i32.wrap (IntKind.u8.wrap ((BitVec.ofInt IntKind.u8.bits (x:Int) &&& BitVec.ofInt IntKind.u8.bits 63).toNat:Nat))=((x % 64:Nat):Int):=by
 show IntKind.i32.wrap (IntKind.u8.wrap ((BitVec.ofInt 8 (x:Int) &&& BitVec.ofInt 8 63).toNat:Nat))=_;have e:(BitVec.ofInt 8 (x:Int)).toNat=x:=by rw [BitVec.toNat_ofInt];omega
 rw [BitVec.toNat_and,e,show (BitVec.ofInt 8 63).toNat=2 ^ 6 - 1 from rfl,Nat.and_two_pow_sub_one_eq_mod];rw [IntKind.wrap_u8'];rw [LW (by omega) (by omega)];omega
theorem LX {x y:Nat} (h:x < 1000000) (hy:y < 64):IntKind.i32.wrap ((BitVec.ofInt IntKind.i32.bits (IntKind.i32.wrap ((x:Int) * 2 ^ min (Int.toNat 6) IntKind.i32.bits)) ||| BitVec.ofInt IntKind.i32.bits (y:Int)).toNat:Nat)=((x * 64 + y:Nat):Int):=by
 show IntKind.i32.wrap ((BitVec.ofInt 32 (IntKind.i32.wrap ((x:Int) * 64)) ||| BitVec.ofInt 32 (y:Int)).toNat:Nat)=_;rw [LW (n:=(x:Int) * 64) (by omega) (by omega),show (x:Int) * 64=((x * 64:Nat):Int) by omega,BitVec.toNat_or,S2 (by omega),S2 (by omega)];have:=Nat.shiftLeft_add_eq_or_of_lt (i:=6) (b:=y) hy x;rw [Nat.shiftLeft_eq] at this
 grind [LW]
theorem yS {s:ByteArray} {l:List UInt8} (hl:tx s=l) {z:Int} (k:Nat) (hz:z.toNat=k):eW s z.toNat=(l.getD k 0).toNat:=by
 rw [hz,<- hl];all_goals rfl
theorem Ib (s:ByteArray) (h:1<=s.size/\s.size<=4):Ev prog 338 [.v (.string s)] [] [] (fun r _ _=>∃ z:Int,r = .v (.int .i32 z)/\(PK (tx s)=true->z=recV (tx s))):=by
 have gl:=cE s;refine eG 57 [.tmp 2] func338 rfl ntmps338 rfl fun _ _ _ _=>?_;refine br ?_ ?_<;>intro c1
 ·refine ⟨⟨by omega,by omega⟩,?_⟩;have c1:s.size=1:=by have:=of_decide_eq_true c1;omega
  obtain ⟨a,hl⟩:∃ a,tx s=[a]:=by
   rw [c1] at gl
   match tx s,gl with
   | [a],_=>exact ⟨a,rfl⟩
  refine ⟨_,rfl,fun _=>?_⟩;have ha:=a.toNat_lt;rw [yS hl 0 rfl,hl];exact LW (by show _<=(a.toNat:Int);omega) (by show (a.toNat:Int)<=_;omega)
 ·refine dI ?_;refine ⟨⟨by omega,by omega⟩,?_⟩;have hw7:IntKind.i64.wrap (7 - (s.size:Int))=7 - s.size:=wrap64 (by omega) (by omega);have hw2:IntKind.i64.wrap (1 + 1)=2:=rfl;have Q9:IntKind.i64.wrap (IntKind.i64.wrap (1 + 1) + 1)=3:=rfl
  have c1:¬ s.size=1:=by
   have:=of_decide_eq_false c1;omega
  refine ⟨by rw [hw7];omega,?_⟩;refine br ?_ ?_<;>intro c4
  ·have c4:s.size=4:=by have:=of_decide_eq_true c4;omega
   refine ⟨by omega,?_⟩;refine ⟨⟨by first | omega | (rw [hw2];omega),by first | omega | (rw [hw2];omega)⟩,?_⟩;refine ⟨by omega,?_⟩;refine ⟨⟨by first | omega | (rw [hw2];omega),by first | omega | (rw [hw2];omega)⟩,?_⟩;refine ⟨by omega,?_⟩;refine ⟨⟨by first | omega | (rw [Q9];omega),by first | omega | (rw [Q9];omega)⟩,?_⟩
   obtain ⟨a,b,c,d,hl⟩:∃ a b c d,tx s=[a,b,c,d]:=by
    rw [c4] at gl
    match tx s,gl with
    | [a,b,c,d],_=>exact ⟨a,b,c,d,rfl⟩
   refine ⟨_,rfl,fun hi=>?_⟩;have ha:=a.toNat_lt;have hb:=b.toNat_lt;have hc:=c.toNat_lt;have hd:=d.toNat_lt;have hm:IntKind.i32.wrap (IntKind.i32.wrap (1 * 2 ^ min (IntKind.i64.wrap (7 - (s.size:Int))).toNat IntKind.i32.bits) - 1)=((7:Nat):Int):=by rw [c4];all_goals rfl
   rw [hm,yS hl 0 rfl,yS hl 1 rfl,yS hl 2 rfl,yS hl 3 rfl];simp only [List.getD_cons_zero,List.getD_cons_succ];rw [PL 3 rfl (by omega) ha,Al hb,LX (by omega) (by omega),Al hc,LX (by omega) (by omega),Al hd,LX (by omega) (by omega)];rw [hl] at hi ⊢;rw [PK,decide_eq_true_iff] at hi;simp only [recV];omega
  have c4:¬ s.size=4:=by have:=of_decide_eq_false c4;omega
  refine br ?_ ?_<;>intro c3
  ·have c3:s.size=3:=by have:=of_decide_eq_true c3;omega
   refine ⟨by omega,?_⟩;refine ⟨⟨by first | omega | (rw [hw2];omega),by first | omega | (rw [hw2];omega)⟩,?_⟩;refine ⟨by omega,?_⟩;refine ⟨⟨by first | omega | (rw [hw2];omega),by first | omega | (rw [hw2];omega)⟩,?_⟩
   obtain ⟨a,b,c,hl⟩:∃ a b c,tx s=[a,b,c]:=by
    rw [c3] at gl
    match tx s,gl with
    | [a,b,c],_=>exact ⟨a,b,c,rfl⟩
   refine ⟨_,rfl,fun hi=>?_⟩;have ha:=a.toNat_lt;have hb:=b.toNat_lt;have hc:=c.toNat_lt;have hm:IntKind.i32.wrap (IntKind.i32.wrap (1 * 2 ^ min (IntKind.i64.wrap (7 - (s.size:Int))).toNat IntKind.i32.bits) - 1)=((15:Nat):Int):=by rw [c3];all_goals rfl
   rw [hm,yS hl 0 rfl,yS hl 1 rfl,yS hl 2 rfl];simp only [List.getD_cons_zero,List.getD_cons_succ];rw [PL 4 rfl (by omega) ha,Al hb,LX (by omega) (by omega),Al hc,LX (by omega) (by omega)];rw [hl] at hi ⊢;rw [PK,decide_eq_true_iff] at hi;simp only [recV];omega
  have c3:¬ s.size=3:=by have:=of_decide_eq_false c3;omega
  refine br ?_ ?_<;>intro c2
  ·have c2:s.size=2:=by have:=of_decide_eq_true c2;omega
   refine ⟨by omega,?_⟩;refine ⟨⟨by first | omega | (rw [hw2];omega),by first | omega | (rw [hw2];omega)⟩,?_⟩
   obtain ⟨a,b,hl⟩:∃ a b,tx s=[a,b]:=by
    rw [c2] at gl
    match tx s,gl with
    | [a,b],_=>exact ⟨a,b,rfl⟩
   refine ⟨_,rfl,fun hi=>?_⟩;have ha:=a.toNat_lt;have hb:=b.toNat_lt;have hm:IntKind.i32.wrap (IntKind.i32.wrap (1 * 2 ^ min (IntKind.i64.wrap (7 - (s.size:Int))).toNat IntKind.i32.bits) - 1)=((31:Nat):Int):=by rw [c2];all_goals rfl
   rw [hm,yS hl 0 rfl,yS hl 1 rfl];simp only [List.getD_cons_zero,List.getD_cons_succ];rw [PL 5 rfl (by omega) ha,Al hb,LX (by omega) (by omega)];rw [hl] at hi ⊢;rw [PK,decide_eq_true_iff] at hi;simp only [recV];omega
  ·exfalso;have:=of_decide_eq_false c2;omega
def jx (c i b:Nat):Bool:=if i=0 then decide (iu c<=b) && decide (b<=iv c) else decide (128<=b) && decide (b<=191)
def allC (c:Nat) (r:List UInt8) (k:Nat):Bool:=(List.range k).all fun i=>match r[i]? with
 | some b=>jx c i b.toNat
 | none=>false
theorem LY (c:Nat) (r:List UInt8) (k:Nat):allC c r (k + 1)=(allC c r k && match r[k]? with | some b=>jx c k b.toNat | none=>false):=by grind [allC]
theorem uY {c:Nat} {r:List UInt8} {k n:Nat} (h:k < n) (hk:(match r[k]? with | some b=>jx c k b.toNat | none=>false)=false):allC c r n=false:=by grind [allC]
def okU:List UInt8->Bool
 | []=>false
 | c :: r=>decide (1<=bc c.toNat) && allC c.toNat r (bc c.toNat - 1)
def dV:List UInt8->Nat
 | []=>0
 | c :: r=>if okU (c :: r)=true then bc c.toNat else 1
theorem Ic {c:UInt8} {r:List UInt8} (h:okU (c :: r)=true):PK ((c :: r).take (bc c.toNat))=true:=by
 unfold okU at h;rw [aP,decide_eq_true_iff] at h;obtain ⟨h1,h2⟩:=h;have hb:∀ i,i < bc c.toNat - 1->∃ b:UInt8,r[i]? = some b/\128<=b.toNat/\b.toNat < 192:=fun i hi=>by grind [allC,jx,iu,iv]
 have hn:(bc c.toNat=1/\c.toNat < 128)∨(bc c.toNat=2/\192<=c.toNat/\c.toNat < 224)∨(bc c.toNat=3/\224<=c.toNat/\c.toNat < 240)∨(bc c.toNat=4/\240<=c.toNat/\c.toNat < 248):=by grind [bc]
 rcases hn with ⟨hn,hc⟩ | ⟨hn,hc⟩ | ⟨hn,hc⟩ | ⟨hn,hc⟩<;>rw [hn] at hb ⊢
 ·simp [PK,hc]
 ·obtain ⟨b,h5,h6⟩:=hb 0 (by omega)
  match r,h5 with
  | x :: r,h5=>grind [PK]
 ·obtain ⟨b,h5,h6⟩:=hb 0 (by omega);obtain ⟨b',h7,h8⟩:=hb 1 (by omega)
  match r,h5,h7 with
  | x :: y :: r,h5,h7=>grind [PK]
 ·obtain ⟨b,h5,h6⟩:=hb 0 (by omega);obtain ⟨b',h7,h8⟩:=hb 1 (by omega);obtain ⟨b2,h9,td⟩:=hb 2 (by omega)
  match r,h5,h7,h9 with
  | x :: y :: v :: r,h5,h7,h9=>simp_all [PK]
set_option maxHeartbeats 4000000 in
theorem Am (s:ByteArray) (at':Nat) (hs:s.size<=1099511627776) (c:UInt8) (r:List UInt8) (h:(tx s).drop at'=c :: r) :
  Ev prog 308 [.v (.string s),.v (.int .i64 at')] [] [] (fun d _ _=>∃ (z:Int) (n:Nat),d = .tup [.v (.int .i32 z),.v (.int .i64 n),.v (.bool (okU (c :: r)))]/\(okU (c :: r)=true->n=bc c.toNat/\z=recV ((c :: r).take n))/\1<=n):=by
 have hlen:at' < s.size:=by
  have:=congrArg List.length h;rw [List.length_drop,cE] at this;simp at this;omega
 have hB:tx (s.extract (at':Int).toNat (s.size:Int).toNat)=c :: r:=by
  rw [<- h];simp [tx,kS];exact List.take_of_length_le (by rw [List.length_drop];have:=cE s;unfold tx at this;omega)
 have bZ:(s.extract (at':Int).toNat (s.size:Int).toNat).size=r.length + 1:=by rw [<- cE,hB];all_goals rfl
 have MG:∀ (k:Nat) b,r[k]? = some b->eW (s.extract (at':Int).toNat (s.size:Int).toNat) (k + 1)=b.toNat:=fun k b hk=>by
  show ((tx _).getD (k + 1) 0).toNat=_;rw [hB];simp [eN,hk]
 have J9:EvP prog 337 [.v (.int .u8 (eW (s.extract (at':Int).toNat (s.size:Int).toNat) 0:Nat))] (.tup [.v (.int .i64 (bc c.toNat:Nat)),.v (.int .u8 (iu c.toNat:Nat)),.v (.int .u8 (iv c.toNat:Nat))]):=by
  have:eW (s.extract (at':Int).toNat (s.size:Int).toNat) 0=c.toNat:=by
   show ((tx _).getD 0 0).toNat=_;rw [hB];rfl
  rw [this];exact LV c.toNat
 have hv:=fun (k:Nat) (h1:1<=k) (h2:k<=4) (h3:k<=r.length + 1)=>Ib ((s.extract (at':Int).toNat (s.size:Int).toNat).extract 0 k) (by
  have:((s.extract (at':Int).toNat (s.size:Int).toNat).extract 0 k).size=k:=by
   rw [ByteArray.size_extract,bZ];omega
  omega)
 have hu:okU (c :: r)=(decide (1<=bc c.toNat) && allC c.toNat r (bc c.toNat - 1)):=rfl;have uL:=Ic (c:=c) (r:=r);generalize okU (c :: r)=U at hu uL ⊢
 have hn4:bc c.toNat<=4:=by
  unfold bc
  repeat' split
  all_goals omega
 refine eG 60 [.tmp 4,.tmp 5,.tmp 6] func308 rfl ntmps308 rfl fun _ _ _ _=>?_;refine br (fun c=>absurd c (by simp [aq];omega)) (fun _=>?_);refine ⟨⟨by omega,by omega,by omega⟩,?_⟩;refine ⟨⟨by omega,by rw [bZ];omega⟩,?_⟩;refine cP aaj J9 ?_;refine br ?_ ?_<;>intro g
 ·have g:bc c.toNat=0:=by have:=of_decide_eq_true g;omega
  have bI:U=false:=by rw [hu,g];all_goals rfl
  subst bI;exact ⟨.tup [.v (.int .i32 0),.v (.int .i64 (1:Nat)),.v (.bool false)],ax,0,1,rfl,fun h=>(by cases h),by omega⟩
 have g:1<=bc c.toNat:=by have:=of_decide_eq_false g;omega
 refine aV (fun j st=>∃ i:Nat,st=⟨[(0,⟨[],.v (.string (s.extract (at':Int).toNat (s.size:Int).toNat))⟩),ay 7 (bc c.toNat:Nat),(8,⟨[],.v (.int .u8 ((if i=0 then iu c.toNat else 128:Nat):Int))⟩),(9,⟨[],.v (.int .u8 ((if i=0 then iv c.toNat else 191:Nat):Int))⟩),ay 10 ((i + 1:Nat):Int)],[],[]⟩/\i + 1<=bc c.toNat/\allC c.toNat r i=true/\j=bc c.toNat - (i + 1)) (bc c.toNat - (0 + 1))
  ⟨[(0,⟨[],.v (.string (s.extract (at':Int).toNat (s.size:Int).toNat))⟩),ay 7 (bc c.toNat:Nat),(8,⟨[],.v (.int .u8 ((if 0=0 then iu c.toNat else 128:Nat):Int))⟩),(9,⟨[],.v (.int .u8 ((if 0=0 then iv c.toNat else 191:Nat):Int))⟩),ay 10 ((0 + 1:Nat):Int)],[],[]⟩ (bp kj) ⟨0,rfl,by omega,rfl,by omega⟩ ?_
 rintro j st ⟨i,rfl,hi,ha,rfl⟩;refine br ?_ ?_<;>intro hL
 ·have au:i + 1 < bc c.toNat:=by have:=of_decide_eq_true hL;omega
  refine br ?_ ?_<;>intro k
  ·have k:i < r.length:=by
    have:=k;have mO:(s.extract at' s.size).size=r.length + 1:=bZ;simp [mO] at this;omega
   obtain ⟨b,hb⟩:∃ b,r[i]? = some b:=⟨_,gE k⟩;have X4:=MG i b hb;refine ⟨⟨by omega,by rw [bZ];omega⟩,?_⟩
   have hcb:jx c.toNat i b.toNat=(decide ((if i=0 then iu c.toNat else 128)<=b.toNat) && decide (b.toNat<=(if i=0 then iv c.toNat else 191))):=by
    unfold jx;split<;>rfl
   have has:=LY c.toNat r i;rw [ha,hb,Bool.true_and] at has;simp only [hcb] at has;have e:eW (s.extract (at':Int).toNat (s.size:Int).toNat) (((i + 1:Nat):Int)).toNat=b.toNat:=X4;refine br ?_ ?_<;>intro k2
   ·have k2:(if i=0 then iu c.toNat else 128)<=b.toNat:=by
     have k3:=k2;rw [e] at k3;generalize (if i=0 then iu c.toNat else 128)=lo at k3 ⊢;simp [aq] at k3;omega
    refine ⟨⟨by omega,by rw [bZ];omega⟩,?_⟩;refine br ?_ ?_<;>intro k4
    ·have k4:¬ b.toNat<=(if i=0 then iv c.toNat else 191):=by
      have k3:=k4;rw [e] at k3;generalize (if i=0 then iv c.toNat else 191)=hi at k3 ⊢;simp [aq] at k3;omega
     have hf:=uY (c:=c.toNat) (r:=r) (k:=i) (n:=bc c.toNat - 1) (by omega) (by rw [hb];simp only [hcb];simp [k4]);rw [hf,Bool.and_false] at hu;subst hu;exact ⟨.tup [.v (.int .i32 0),.v (.int .i64 ((i + 1:Nat):Int)),.v (.bool false)],ax,0,i + 1,rfl,fun h=>(by cases h),by omega⟩
    ·have k4:b.toNat<=(if i=0 then iv c.toNat else 191):=by
      have k3:=k4;rw [e] at k3;generalize (if i=0 then iv c.toNat else 191)=hi at k3 ⊢;simp [aq] at k3;omega
     rw [decide_eq_true k2,decide_eq_true k4] at has;exact rE ⟨_,by omega,i + 1,rfl,by omega,has,rfl⟩ (bp (cY (aN au (by omega))))
   ·have k2:¬ (if i=0 then iu c.toNat else 128)<=b.toNat:=by
     have k3:=k2;rw [e] at k3;generalize (if i=0 then iu c.toNat else 128)=lo at k3 ⊢;simp [aq] at k3;omega
    have hf:=uY (c:=c.toNat) (r:=r) (k:=i) (n:=bc c.toNat - 1) (by omega) (by rw [hb];simp only [hcb];simp [k2]);rw [hf,Bool.and_false] at hu;subst hu;exact ⟨.tup [.v (.int .i32 0),.v (.int .i64 ((i + 1:Nat):Int)),.v (.bool false)],ax,0,i + 1,rfl,fun h=>(by cases h),by omega⟩
  ·have k:r.length<=i:=by
    have:=k;have mO:(s.extract at' s.size).size=r.length + 1:=bZ;simp [mO] at this;omega
   have hf:=uY (c:=c.toNat) (r:=r) (k:=i) (n:=bc c.toNat - 1) (by omega) (by rw [kT k]);rw [hf,Bool.and_false] at hu;subst hu;exact ⟨.tup [.v (.int .i32 0),.v (.int .i64 ((i + 1:Nat):Int)),.v (.bool false)],ax,0,i + 1,rfl,fun h=>(by cases h),by omega⟩
 ·have hge:i + 1=bc c.toNat:=by have:=of_decide_eq_false hL;omega
  have hu1:U=true:=by
   rw [hu,<- hge];simp [ha]
  subst hu1
  have eM:bc c.toNat<=r.length + 1:=by
   rcases Nat.lt_or_ge r.length (bc c.toNat - 1) with h | h
   ·have hf:=uY (c:=c.toNat) (r:=r) (k:=r.length) (n:=bc c.toNat - 1) h (by rw [kT (aQ _)]);rw [<- hge,Nat.add_sub_cancel,ha] at hf;cases hf
   ·omega
  have hv:=hv (bc c.toNat) (by omega) hn4 eM;refine ⟨⟨by omega,by omega,by rw [bZ];omega⟩,?_⟩;refine bS aak rfl hv ax (fun q hq=>?_);obtain ⟨z,rfl,hz⟩:=hq;rw [show tx ((s.extract (at':Int).toNat (s.size:Int).toNat).extract 0 (bc c.toNat))=(c :: r).take (bc c.toNat) from by rw [<- hB,(by simp [tx]:∀ (B:ByteArray) k,tx (B.extract 0 k)=(tx B).take k)]] at hz;exact ⟨.tup [.v (.int .i32 z),.v (.int .i64 (bc c.toNat:Nat)),.v (.bool true)],ax,z,bc c.toNat,rfl,fun _=>⟨rfl,hz (uL rfl)⟩,by omega⟩
def PM (z:Int):Bool:=decide (0<=z) && decide (z<=1114111) && (decide (z < 55296) || decide (57343 < z))
def LZ (n:Nat):List UInt8:=
 if n < 128 then [UInt8.ofNat n] else if n < 2048 then [UInt8.ofNat (192 + n / 64),UInt8.ofNat (128 + n % 64)]
 else if n < 65536 then [UInt8.ofNat (224 + n / 4096),UInt8.ofNat (128 + n / 64 % 64),UInt8.ofNat (128 + n % 64)]
 else [UInt8.ofNat (240 + n / 262144),UInt8.ofNat (128 + n / 4096 % 64),UInt8.ofNat (128 + n / 64 % 64),UInt8.ofNat (128 + n % 64)]
def acd (z:Int):List UInt8:=if PM z=true then LZ z.toNat else []
end Go.Proofs.YtgjagnmeonoehaaGreat
