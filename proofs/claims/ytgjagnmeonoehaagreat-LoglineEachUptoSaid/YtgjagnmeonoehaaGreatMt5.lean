/- Part 5 of the proof: resolve.Build; Reading a plan: Len, Root, Lattice, Node, Find; slices.Clone; of no plan as well; The reference of chapter 17: Great, Same; The program's comparing of schemas; The law's example: a type that leads to itself; The law of no plan: the call returns true; The document's relations: Leads; The document's lattices: Find, pairs, Leq, Loop; The document's lattices: what is wrong; The document's labels: over, Least, Of; The document's schemas: Find, word, all, Flat, End, Start; The document's schemas: Flat, End, Start; The document's schemas: named, unknown; The reference's Wrong returns what is wrong with a type; The document's schemas: what is wrong; The document's nodes: Same, of equal ones; the law's node; The document's nodes: node; The document's plan: Build; What is known of a type with which nothing is wrong; labels have levels; What is known of the nodes of a plan; A plan, as its readers know it; Values, plain; how many are in one, how deep they lie; What is read of a value, as the plain data; What the frames of laws over values share; The greatest multiple of a unit that is at most a number; UTF-8: the program's lead, value; UTF-8: the program's Decode. No condition. -/
import Derived.Test.YtgjagnmeonoehaaGreatMt3
import Derived.Test.YtgjagnmeonoehaaGreatMt4
set_option linter.all false
set_option maxRecDepth 100000
namespace Go.Proofs.YtgjagnmeonoehaaGreat
open Go Go.RowKit Dv Go.Proofs.Tryz
abbrev NH (s:Sch) (az:List Nat) (lc:List DV) (m:Int) (f1 f2:Int) (n:Nat) (base:List DV) (e:Nat):St:=
 ⟨[aw 1 4,aw 3 3,aw 6 0,aU 59 11 (dNms s.types),ap 60 ((dNms s.types).length),ap 61 e],
  [bC s (.pt lc 0) (.loc 1 0) m,Lm s az lc n,[.v (.int .i64 f1),.v (.int .i64 f2)],[.v (.int .i64 0),.v (.int .i64 0)],eu s],[Gh n base]⟩
theorem we (s:Sch) (hs:s.wt<=1099511627776):Ev prog 11 [.agg (eu s)] [] [] (Gk s):=by
 have hF:=kx.eq_1 s;have hw:=hs;simp only [Sch.wt] at hw;have hwl:=bi s.ae;have hwn:=jf s.types;have PN:=Dj s.ae s.order (by omega) (by omega);have tJ:=fun lc=>A0 s lc (by omega)
 have bW:∀ t,(t=s.root∨∃ x∈s.types,t=x.2)->t.wt<=1099511627776:=fun t ht=>by
  rcases ht with rfl | ⟨x,hx,rfl⟩
  ·omega
  ·have:=fZ hx;omega
 have Y6:=fun lc az=>Gg s lc az 0 (by omega) (by omega) (by omega) bW;have Y7:=fun (X:Lx) (hX:X.OK) (az:List Nat) (hT:gJ (tL s) az) (kB:az.length<=1099511627776) (m:Int)=>Ki s X.pd (Gf s az (gL X.af (cC X.af X.az) X.rows X.js)) m (by omega) 49 TH (knT X (tL s)) (fun t ht=>vW hX s az (.pt (gL X.af (cC X.af X.az) X.rows X.js) 0) (.v (.slice none 0 0)) (.v (.int .i64 0)) (.v (.slice none 0 0)) m hT kB t.wt t (aJ _) (bW t ht));have Uy:(ej s).1=0->s.types.length<=64:=fun h=>by grind [ej]
 have hLx:=fun d h hd=>@Qp s d h hd (by omega);have Sm:=fun (lat:DV) (az:List Nat) (a b c e0:DV) (m:Int)=>Ge s lat az a b c e0 m;have NI:=fun (lc:List DV) (az:List Nat) (m:Int)=>Dy s lc az m;have dM:=fun (X:Lx) (hX:X.OK) (az:List Nat) (m:Int) (hT:gJ (tL s) az) (kB:az.length<=1099511627776) (t:Ty) (ht:t.wt<=1099511627776)=>zs hX s az m hT kB t.wt t (aJ _) ht;refine eG 85 [.tmp 2,.cell 3 44] func11 rfl ntmps11 rfl fun _ _ _ _=>?_;generalize hS:s=S at *;obtain ⟨ae,order,types,⟨rh,rp⟩⟩:=s;subst hS;refine bp en45 rfl PN ax (fun r hr=>?_);by_cases hL:(latF ae order).1≠0
 ·have hL':=hL;rw [aj (show (latF (Sch.mk ae order types (.mk rh rp)).ae (Sch.mk ae order types (.mk rh rp)).order).1≠0 from hL)] at hF;unfold F5 at hr;rw [aj (show (latF (Sch.mk ae order types (.mk rh rp)).ae (Sch.mk ae order types (.mk rh rp)).order).1≠0 from hL)] at hr;subst hr;refine br ?_ ?_<;>intro h
  ·refine dS ?_;exact ⟨_,ax,nh (os:=[]) (tk:=[]) hF hL⟩
  ·exfalso;simp at h;exact hL h
 unfold F5 at hr;rw [ai (show ¬ (latF (Sch.mk ae order types (.mk rh rp)).ae (Sch.mk ae order types (.mk rh rp)).order).1≠0 from hL)] at hF hr;obtain ⟨d,hd,rfl⟩:=hr;have hL0:(latF ae order).1=0:=sU hL;obtain ⟨az,js,hX,rfl⟩:=hLx d hL0 hd;generalize O5:dm ⟨ae,order,types,.mk rh rp⟩ az js=X at hX;refine br (fun h=>?_) (fun _=>?_)
 ·exfalso;simp at h;exact hL h
 refine CallG.YW 0 4 rfl rfl rfl rfl (CallG.YW 1 3 rfl rfl rfl rfl ?_);refine fK 2 0 en46 rfl rfl rfl iq iq (tJ (gL X.af (cC X.af X.az) X.rows X.js)) (fun r gF bP hΦ h1 h2=>?_);obtain ⟨rfl,JW⟩:=hΦ;have h2:=List.eq_nil_of_length_eq_zero h2;subst h2;by_cases IJ:(ej ⟨ae,order,types,.mk rh rp⟩).1≠0
 ·rw [aj IJ] at hF
  obtain ⟨a,b,rfl⟩:∃ a b,gF=[a,b]:=by
   match gF,h1 with
   | [a,b],_=>exact ⟨a,b,rfl⟩
  refine br ?_ ?_<;>intro h
  ·refine dS ?_;exact ⟨_,ax,nh (os:=[]) (tk:=[]) hF IJ⟩
  ·exfalso;simp at h;exact IJ h
 rw [ai IJ] at hF;have Y8:(ej ⟨ae,order,types,.mk rh rp⟩).1=0:=sU IJ;have NJ:=Uy Y8;obtain ⟨ky,hT,kB,rfl⟩:=JW Y8;refine br (fun h=>?_) (fun _=>?_)
 ·exfalso;simp at h;exact IJ h
 refine fK 2 0 WI rfl rfl rfl iq iq (Y6 (gL X.af (cC X.af X.az) X.rows X.js) ky) (fun r gF bP hΦ h1 h2=>?_);obtain ⟨rfl,rfl⟩:=hΦ;have h2:=List.eq_nil_of_length_eq_zero h2;subst h2;by_cases hR:(eaR (.mk rh rp) types 0).1.1≠0
 ·rw [aj (show (eaR (Sch.mk ae order types (.mk rh rp)).root (Sch.mk ae order types (.mk rh rp)).types 0).1.1≠0 from hR)] at hF;refine br ?_ ?_<;>intro h
  ·refine dS ?_;exact ⟨_,ax,nh (os:=[]) (tk:=[]) hF hR⟩
  ·exfalso;simp at h;exact hR h
 rw [ai (show ¬ (eaR (Sch.mk ae order types (.mk rh rp)).root (Sch.mk ae order types (.mk rh rp)).types 0).1.1≠0 from hR)] at hF;have hR0:(eaR (.mk rh rp) types 0).1.1=0:=sU hR;refine br (fun h=>?_) (fun _=>?_)
 ·exfalso;simp at h;exact hR h
 have hea:=Y7 X hX ky hT (by have:types.length<=64:=NJ;have:ky.length<=types.length:=kB;omega) (eaR (.mk rh rp) types 0).2;have Uz:∀ t,knT X (tL ⟨ae,order,types,.mk rh rp⟩) t=lg ⟨ae,order,types,.mk rh rp⟩ t:=fun t=>by rw [<- O5];exact Ux _ _ _ t
 have hfeq:eaL (knT X (tL ⟨ae,order,types,.mk rh rp⟩)) (knT X (tL ⟨ae,order,types,.mk rh rp⟩) (.mk rh rp)) types=eaL (lg ⟨ae,order,types,.mk rh rp⟩) (lg ⟨ae,order,types,.mk rh rp⟩ (.mk rh rp)) types:=by
  rw [show knT X (tL ⟨ae,order,types,.mk rh rp⟩)=lg ⟨ae,order,types,.mk rh rp⟩ from funext Uz]
 refine ID WI hea ax rfl rfl ?_;by_cases hK:(eaL (lg ⟨ae,order,types,.mk rh rp⟩) (lg ⟨ae,order,types,.mk rh rp⟩ (.mk rh rp)) types).1≠0
 ·rw [aj (show (eaL (lg ⟨ae,order,types,.mk rh rp⟩) (lg ⟨ae,order,types,.mk rh rp⟩ (Sch.mk ae order types (.mk rh rp)).root) (Sch.mk ae order types (.mk rh rp)).types).1≠0 from hK)] at hF;refine br ?_ ?_<;>intro h
  ·refine dS ?_;refine ⟨.tup [.v (.pointer none),(eaL (knT X (tL ⟨ae,order,types,.mk rh rp⟩)) (knT X (tL ⟨ae,order,types,.mk rh rp⟩) (.mk rh rp)) types).d],ax,?_⟩;rw [hfeq];exact nh (os:=[]) (tk:=[]) hF hK
  ·grind
 rw [ai (show ¬ (eaL (lg ⟨ae,order,types,.mk rh rp⟩) (lg ⟨ae,order,types,.mk rh rp⟩ (Sch.mk ae order types (.mk rh rp)).root) (Sch.mk ae order types (.mk rh rp)).types).1≠0 from hK)] at hF;have hK0:(eaL (lg ⟨ae,order,types,.mk rh rp⟩) (lg ⟨ae,order,types,.mk rh rp⟩ (.mk rh rp)) types).1=0:=sU hK;refine br (fun h=>?_) (fun _=>?_)
 ·grind
 have nG:wdsWt ae + prsWt order + nmsWt types + (Ty.mk rh rp).wt<=1099511627776:=hw;have hnmw:nmsWt types<=1099511627776:=by omega
 obtain ⟨IL,gC⟩:=NE hK0;have hkr':(knT X (tL ⟨ae,order,types,.mk rh rp⟩) (.mk rh rp)).1=0:=by rw [Uz];exact IL
 have Y9:∀ x∈types,(knT X (tL ⟨ae,order,types,.mk rh rp⟩) x.2).1=0:=fun x hx=>by rw [Uz];exact gC x hx
 have Za:∀ x∈types,tP ⟨ae,order,types,.mk rh rp⟩ x.2=true:=fun x hx=>A1 (Y9 x hx);have Qs:ky.length<=1099511627776:=by have:types.length<=64:=NJ;have:ky.length<=types.length:=kB;omega
 refine ID en50 (Sm X.pd ky X.pd (.v (.slice none 0 0)) (.v (.int .i64 0)) (.v (.slice none 0 0)) (eaR (.mk rh rp) types 0).2 hT Qs NJ Za) ax rfl rfl ?_;by_cases hO:(loopF ⟨ae,order,types,.mk rh rp⟩).1≠0
 ·refine br ?_ ?_<;>intro h
  ·refine dS ?_;exact ⟨_,ax,nh (os:=[]) (tk:=[]) hF hO⟩
  ·exfalso;simp at h;exact hO h
 have hO0:(loopF ⟨ae,order,types,.mk rh rp⟩).1=0:=sU hO;have hF0:(kx ⟨ae,order,types,.mk rh rp⟩).1=0:=by rw [hF];exact hO0
 refine br (fun h=>?_) (fun _=>?_)
 ·exfalso;simp at h;exact hO h
 refine fK 2 0 en51 rfl rfl rfl iq iq (NI (gL X.af (cC X.af X.az) X.rows X.js) ky (eaR (.mk rh rp) types 0).2 hT Qs NJ Za hnmw (DB hO0)) (fun r gF bP hΦ h1 h2=>?_);subst hΦ;have h2:=List.eq_nil_of_length_eq_zero h2;subst h2;clear tJ Y6 Y7 Sm NI hea PN;have hN:(dNms types).length=types.length:=dz types;obtain ⟨Gm,CP,hcm,Zb⟩:=NF (Int.le_refl 0) hR0;generalize (eaR (.mk rh rp) types 0).2=m at hcm Zb ⊢
 refine aQ (fun j st=>∃ (e n:Nat) (base:List DV) (N:List Nd),st=NH ⟨ae,order,types,.mk rh rp⟩ ky (gL X.af (cC X.af X.az) X.rows X.js) m (loopF ⟨ae,order,types,.mk rh rp⟩).1 (loopF ⟨ae,order,types,.mk rh rp⟩).2 n base e/\e<=types.length/\n=N.length/\base=(cX N).flatten/\N ++ ndsAll (ij ⟨ae,order,types,.mk rh rp⟩) ⟨ae,order,types,.mk rh rp⟩ (types.drop e) n=qj ⟨ae,order,types,.mk rh rp⟩/\j=types.length - e) types.length
  (NH ⟨ae,order,types,.mk rh rp⟩ ky (gL X.af (cC X.af X.az) X.rows X.js) m (loopF ⟨ae,order,types,.mk rh rp⟩).1 (loopF ⟨ae,order,types,.mk rh rp⟩).2 0 [] 0) (de 5 ⟨0,91,7,some []⟩ rfl rfl rfl tH rfl rfl jT) ⟨0,0,[],[],rfl,by omega,rfl,rfl,rfl,by omega⟩ ?_
 rintro j st ⟨e,n,base,N,rfl,he,hn,Pn,Zc,rfl⟩;have hl64':types.length<=64:=NJ;have Gn:X.lev=ij ⟨ae,order,types,.mk rh rp⟩:=by rw [<- O5];all_goals rfl
 have htot:(qj ⟨ae,order,types,.mk rh rp⟩).length + (Ty.mk rh rp).nn<=512:=by
  have h1:=wb types;have h2:=(Ty.mk rh rp).fT;have h3:(qj ⟨ae,order,types,.mk rh rp⟩).length=(types.map fun x=>x.2.nn).sum:=v8 _ _ _ _;omega
 have hbl:base.length=n * 7:=by rw [Pn,hn,zy]
 have Fx:n + (ndsAll (ij ⟨ae,order,types,.mk rh rp⟩) ⟨ae,order,types,.mk rh rp⟩ (types.drop e) n).length=(qj ⟨ae,order,types,.mk rh rp⟩).length:=by rw [<- Zc,List.length_append,hn]
 refine br ?_ ?_<;>intro hL
 ·have al:e < types.length:=by have:=hL;simp [hN] at this;exact this
  obtain ⟨x,hx⟩:=gX al;have VL:=mG hx;rw [drop_cons hx,ndsAll] at Zc Fx;rw [List.length_append] at Fx;have gW:=jJ (ij ⟨ae,order,types,.mk rh rp⟩) ⟨ae,order,types,.mk rh rp⟩ x.2 n;have Ll:=dM X hX ky m hT Qs x.2 (bW x.2 (.inr ⟨x,VL,rfl⟩)) (Y9 x VL) n base (by omega) hbl;rw [Gn] at Ll;obtain ⟨xw,⟨xh,xp⟩⟩:=x;refine iX (dNms_get hx) ?_;refine fK 2 1 PJ rfl rfl rfl iq iq Ll (fun r gF bP hΦ h1 h2=>?_);obtain ⟨rfl,rfl,rfl⟩:=hΦ;refine ⟨NH ⟨ae,order,types,.mk rh rp⟩ ky (gL X.af (cC X.af X.az) X.rows X.js) m (loopF ⟨ae,order,types,.mk rh rp⟩).1 (loopF ⟨ae,order,types,.mk rh rp⟩).2 (n + (ndsT (ij ⟨ae,order,types,.mk rh rp⟩) ⟨ae,order,types,.mk rh rp⟩ (.mk xh xp) n).length) (base ++ (cX (ndsT (ij ⟨ae,order,types,.mk rh rp⟩) ⟨ae,order,types,.mk rh rp⟩ (.mk xh xp) n)).flatten) (e + 1),(wkB 5 (yL (nxt al (by omega))) (wB1 (nxt al (by omega)))),types.length - (e + 1),by omega,e + 1,_,_,N ++ ndsT (ij ⟨ae,order,types,.mk rh rp⟩) ⟨ae,order,types,.mk rh rp⟩ (.mk xh xp) n,rfl,by omega,by rw [List.length_append,hn],by rw [Pn];simp [cX],?_,rfl⟩;rw [List.append_assoc,gW];exact Zc
 have aM:e=types.length:=sW hN hL;subst aM;rw [List.drop_length,ndsAll,List.append_nil] at Zc;rw [List.drop_length,ndsAll,List.length_nil,Nat.add_zero] at Fx;have hnr:=dM X hX ky m hT Qs (.mk rh rp) (by omega) hkr' n base (by omega) hbl;rw [Gn] at hnr;intro E a w hr;have nH:=mH hr;obtain ⟨b0,ty0,Jz,gI,hw0,LH⟩:=nH.env.eo 0 _ rfl;obtain ⟨b1,ty1,arr1,gT,hw1,JF⟩:=nH.env.eo 1 _ rfl;obtain ⟨v13,hv13,hp13⟩:=RvL.get (i:=13) (d:=.loc 1 0) LH.1 rfl;have Zd:v13 = .pointer (some ⟨b1,0,none⟩):=by grind [Rv]
 subst Zd
 have j2:w.drew.cell? ⟨b0,13,none⟩=some (.pointer (some ⟨b1,0,none⟩)):=by
  rw [cd hw0];simpa using hv13
 have Tw:=Qj nH.env [0,1,2,3];generalize yT:maskL [0,1,2,3] 0 _=bxm at Tw;have hbmi:∀ (i:Nat) cs,bxm[i]? = some cs->cs ≠ []->2<=i:=fun i cs hi aT=>by grind [maskL]
 refine km (C:=fun w'=>CC E bxm w.drew w' /\ w'.cell? ⟨b0,13,none⟩=some (.pointer (some ⟨b1,0,none⟩))) (W:=fun i=>Nat.beq i 10) (Q:=fun a w=>kq _ _ .normal a w) mo (by decide +kernel) (fun _ _ h=>h) ⟨⟨fun _ _ _ _ _ _=>rfl,nH.env.sub⟩,j2⟩ ?_;show Go.Proofs.YtgjagnmeonoehaaGreat.Dv.runT _ _ _ _ _ [0,1,2,3,4,5,6,7,8,9,10] _ _;refine lY nH rfl rfl rfl rfl rfl rfl (fun a0 h0=>?_);refine lY h0 rfl rfl rfl rfl rfl rfl (fun a1 h1=>?_);refine lY h1 rfl rfl rfl rfl rfl rfl (fun a2 h2=>?_);refine Ql h2 rfl gT rfl rfl gI rfl rfl (fun w' h=>h.2) ⟨⟨fun _ _ _ _ _ _=>rfl,nH.env.sub⟩,j2⟩ rfl rfl (fun a3 h3=>?_);refine lY h3 rfl rfl rfl rfl rfl rfl (fun a4 h4=>?_);refine lY h4 rfl rfl rfl rfl rfl rfl (fun a5 h5=>?_);refine Qk h5 rfl (bx:=bxm) (Qi h5 Tw (fun w' h=>h.1)) ⟨⟨fun _ _ _ _ _ _=>rfl,nH.env.sub⟩,j2⟩ rfl rfl (by rw [<- yT];rfl) rfl (fun a6 h6=>?_);refine Qm h6 rfl rfl rfl rfl rfl rfl PJ 2 1 rfl rfl iq iq hnr rfl rfl ?_;intro v r gF bP E' w' hΦ _ _ cq Ij hx hβ hh;obtain ⟨rfl,rfl,rfl⟩:=hΦ;refine ⟨fun _ hC=>⟨⟨fun i b cs hb cx aT=>?_,fun x v hxv=>cq.env.sub x v (hx.c x v hxv)⟩,?_⟩,?_⟩
 ·exact hh i b (hbmi i cs cx aT) hb
 ·obtain ⟨b0',ty0',arr0',UA,hw0',hc0'⟩:=cq.env.eo 0 _ rfl;rw [hβ,gI] at UA;simp only [oI] at UA;subst UA;obtain ⟨u13,hu13,Ze⟩:=RvL.get (i:=13) (d:=.loc 1 0) hc0'.1 rfl;unfold Rv at Ze;obtain ⟨b,hb,rfl⟩:=Ze;rw [hβ,gT] at hb;simp only [oI] at hb;subst hb;rw [cd hw0'];simpa using hu13
 have h7:=aV (dst:=some 77) cq rfl _ v Ij;have hrN:(qj ⟨ae,order,types,.mk rh rp⟩).length=n:=by rw [<- Zc,hn]
 have qZ:base ++ (cX (ndsT (ij ⟨ae,order,types,.mk rh rp⟩) ⟨ae,order,types,.mk rh rp⟩ (.mk rh rp) n)).flatten=(cX (ay ⟨ae,order,types,.mk rh rp⟩)).flatten:=by grind [ay,cX]
 have Zf:(cX (ay ⟨ae,order,types,.mk rh rp⟩)).length=n + (ndsT (ij ⟨ae,order,types,.mk rh rp⟩) ⟨ae,order,types,.mk rh rp⟩ (.mk rh rp) n).length:=by
  unfold ay;rw [hrN];simp [cX,hrN]
 obtain ⟨E3,h8⟩:=Qn h7 1 1 0 (ns:=cX (ay ⟨ae,order,types,.mk rh rp⟩)) (congrArg (fun b=>some (Gh (n + (ndsT (ij ⟨ae,order,types,.mk rh rp⟩) ⟨ae,order,types,.mk rh rp⟩ (.mk rh rp) n).length) b)) qZ) (fun x hx=>by
  simp only [cX,List.mem_map] at hx;obtain ⟨y,_,rfl⟩:=hx
  rfl) Zf rfl rfl List.length_replicate
 refine lY h8 rfl rfl rfl rfl rfl rfl (fun a8 h9=>?_);refine lY h9 rfl rfl rfl rfl rfl rfl (fun a9 sx=>?_);refine Km sx rfl rfl rfl rfl rfl rfl ?_;refine ⟨.tup [.pt [X.pd,.sl 7 (cX (ay ⟨ae,order,types,.mk rh rp⟩)) none,.v (.int .i64 (ng ⟨ae,order,types,.mk rh rp⟩ (.mk rh rp) n)),.pt (cC (tL ⟨ae,order,types,.mk rh rp⟩) ky) 0,.sl 1 (dInts (namedL ⟨ae,order,types,.mk rh rp⟩)) none] 0,Ft.d (0,0)],ax,Qq (os:=[]) (tk:=[]) hF0 ⟨az,ky,js,by rw [O5];exact hX,hT,kB,?_⟩⟩;rw [Sk,O5,bz,hrN]
theorem Qt (es:List (List DV)) (hl:es.length<=1099511627776):Ev prog 95 [.sl 1 es none] [] [] (fun r _ _=>r = .sl 1 es none∨(es=[]/\r = .v (.slice none 0 0))):=by
 refine eG 8 [.tmp 2] func95 rfl ntmps95 rfl fun _ _ _ _=>?_;refine NB ⟨_,rfl⟩ rfl rfl rfl rfl (fun b hb=>?_);refine br ?_ ?_<;>intro h
 ·have h:b=true:=h;have he:es=[]:=Classical.byContradiction fun hn=>by rw [hb hn] at h;cases h
  subst he;exact Or.inr ⟨rfl,rfl⟩
 ·refine DA rfl rfl rfl rfl (hk:=?_);refine ⟨rfl,⟨by simp [maxLen];omega,by simp;omega⟩,?_⟩;exact ⟨_,ax,Or.inl rfl⟩
theorem Qu (es:List (List DV)) (hl:es.length<=1099511627776):Ev prog 96 [.sl 10 es none] [] [] (fun r _ _=>r = .sl 10 es none∨(es=[]/\r = .v (.slice none 0 0))):=by
 refine eG 8 [.tmp 2] func96 rfl ntmps96 rfl fun _ _ _ _=>?_;refine NB ⟨_,rfl⟩ rfl rfl rfl rfl (fun b hb=>?_);refine br ?_ ?_<;>intro h
 ·have h:b=true:=h;have he:es=[]:=Classical.byContradiction fun hn=>by rw [hb hn] at h;cases h
  subst he;exact Or.inr ⟨rfl,rfl⟩
 ·refine DA rfl rfl rfl rfl (hk:=?_);refine ⟨rfl,⟨by simp [maxLen];omega,by simp;omega⟩,?_⟩;exact ⟨_,ax,Or.inl rfl⟩
def Zg (lc:List DV) (B2:List Nd) (root:Int) (L:List ByteArray) (az:List Nat) (named:List Nat):DV:=.pt [.pt lc 0,.sl 7 (cX B2) none,.v (.int .i64 root),.pt (cC L az) 0,.sl 1 (dInts named) none] 0
theorem jK (l:List Nd):(cX l).length=l.length:=by simp [cX]
theorem fy {l:List Nd} {i:Nat} {n:Nd} (h:l[i]? = some n):(cX l)[i]? = some (kN n):=by simp [cX,h]
section
variable (lc:List DV) (B2:List Nd) (root:Int) (L:List ByteArray) (az:List Nat) (named:List Nat)
theorem rU:EvP prog 94 [Zg lc B2 root L az named] (.v (.int .i64 B2.length)):=by
 refine eG 10 [.tmp 2] func94 rfl ntmps94 rfl fun _ _ _ _=>?_;refine (rb ?_:);rw [jK]
theorem Gp:EvP prog 37 [Zg lc B2 root L az named] (.v (.int .i64 root)):=by
 refine eG 9 [.tmp 2] func37 rfl ntmps37 rfl fun _ _ _ _=>?_;exact (rfl:_=_)
theorem Ko:EvP prog 72 [Zg lc B2 root L az named] (.pt lc 0):=by
 refine eG 9 [.tmp 2] func72 rfl ntmps72 rfl fun _ _ _ _=>?_;exact ⟨_,ax,rfl⟩
theorem Gq (i:Nat) (n:Nd) (h:B2[i]? = some n) (hn:n.af.length<=1099511627776) (he:n.aq.length<=1099511627776) :
  EvP prog 36 [Zg lc B2 root L az named,.v (.int .i64 i)] (.tup [.agg (kN n),.v (.bool true)]):=by
 have al:=(gS h).1;have hlen:=rU lc B2 root L az named;have JF:=Qt (ey n.af) (by rw [bL];exact hn);have mE:=Qu (eM n.aq) (by rw [cj];exact he);refine eG 32 [.cell 4 91,.tmp 5] func36 rfl ntmps36 rfl fun _ _ _ _=>?_;refine cP WR hlen ?_;refine br ?_ ?_<;>intro g
 ·exfalso;simp [pickB] at g;omega
 refine iX (fy h) ?_;refine dS ?_;refine pK en95 rfl JF ax (fun r1 hr1=>?_);rcases hr1 with rfl | ⟨h1,rfl⟩
 ·refine pK WS rfl mE ax (fun r2 hr2=>?_);rcases hr2 with rfl | ⟨h2,rfl⟩
  ·exact ⟨.tup [.agg (kN n),.v (.bool true)],ax,rfl⟩
  ·exact ⟨.tup [.agg (kN n),.v (.bool true)],(by repeat' (first | exact rfl | exact trivial | exact Or.inr (Or.inl ⟨_,rfl⟩) | exact Or.inr ⟨_,rfl⟩ | exact Or.inl ⟨rfl,rfl⟩ | exact Or.inl rfl | refine Or.inr ⟨_,_,rfl,Nat.zero_le _,rfl,?_⟩ | refine ⟨_,_,rfl,?_,?_⟩ | refine ⟨_,rfl,?_⟩ | exact Or.inl ⟨h2,rfl⟩ | refine Or.inr (Or.inr (Or.inr ⟨_,_,rfl,?_⟩)) | exact Or.inl rfl | refine Or.inr ?_)),rfl⟩
 ·refine pK WS rfl mE ax (fun r2 hr2=>?_);rcases hr2 with rfl | ⟨h2,rfl⟩
  ·exact ⟨.tup [.agg (kN n),.v (.bool true)],(by repeat' (first | exact rfl | exact trivial | exact Or.inr (Or.inl ⟨_,rfl⟩) | exact Or.inr ⟨_,rfl⟩ | exact Or.inl ⟨rfl,rfl⟩ | exact Or.inl rfl | refine Or.inr ⟨_,_,rfl,Nat.zero_le _,rfl,?_⟩ | refine ⟨_,_,rfl,?_,?_⟩ | refine ⟨_,rfl,?_⟩ | exact Or.inl ⟨h1,rfl⟩ | refine Or.inr (Or.inr (Or.inr ⟨_,_,rfl,?_⟩)) | exact Or.inl rfl | refine Or.inr ?_)),rfl⟩
  ·exact ⟨.tup [.agg (kN n),.v (.bool true)],(by repeat' (first | exact rfl | exact trivial | exact Or.inr (Or.inl ⟨_,rfl⟩) | exact Or.inr ⟨_,rfl⟩ | exact Or.inl ⟨rfl,rfl⟩ | exact Or.inl rfl | refine Or.inr ⟨_,_,rfl,Nat.zero_le _,rfl,?_⟩ | refine ⟨_,_,rfl,?_,?_⟩ | refine ⟨_,rfl,?_⟩ | exact Or.inl ⟨h1,rfl⟩ | exact Or.inl ⟨h2,rfl⟩ | refine Or.inr (Or.inr (Or.inr ⟨_,_,rfl,?_⟩)) | exact Or.inl rfl | refine Or.inr ?_)),rfl⟩
theorem Gr (i:Int) (h:i < 0∨B2.length<=i) :
  EvP prog 36 [Zg lc B2 root L az named,.v (.int .i64 i)] (.tup [.agg [.v (.int .i64 0),.v (.int .i64 0),.v (.int .i64 0),.v (.int .i64 0),.v (.int .i64 0),.v (.slice none 0 0),.v (.slice none 0 0)],.v (.bool false)]):=by
 have hlen:=rU lc B2 root L az named;refine eG 32 [.cell 4 91,.tmp 5] func36 rfl ntmps36 rfl fun _ _ _ _=>?_;refine br ?_ ?_<;>intro g
 ·refine cP WR hlen ?_;refine br ?_ ?_<;>intro g2
  ·exact ⟨_,ax,rfl⟩
  ·exfalso;simp at g;simp [pickB,g] at g2;omega
 ·exact ⟨_,ax,rfl⟩
end
theorem NK:EvP prog 72 [.v (.pointer none)] (.v (.pointer none)):=by
 refine eG 9 [.tmp 2] func72 rfl ntmps72 rfl fun _ _ _ _=>?_;exact (rfl:_=_)
abbrev uo (s:Sch) (n d k q:Int) (e:Nat):St:=
 ⟨[aw 1 0,ap 3 n,ap 4 d,ap 5 e],[eu s],[]⟩
theorem A2 (s:Sch) (bW:s.wt<=1099511627776):Ev prog 43 [.agg (eu s)] [] [] (fun d _ _=>∃ b:Bool,d = .v (.bool b)):=by
 have h1:=bi s.ae;have h2:=ib s.order;have h3:=jf s.types;simp only [Sch.wt] at bW;have fi:=j5 s.root.wt s.root (aJ _) (by omega);obtain ⟨ae,order,types,⟨h,ps⟩⟩:=s;simp only at h1 h2 h3 bW fi;refine eG 60 [.tmp 2] func43 rfl ntmps43 rfl fun _ _ _ _=>?_;refine br ?_ ?_<;>intro _
 ·exact ⟨true,rfl⟩
 refine cP H5 fi ?_;refine aQ (fun j st=>∃ (e:Nat) (n d:Int),st=uo ⟨ae,order,types,.mk h ps⟩ n d 0 0 e/\e<=types.length/\j=types.length - e) types.length (uo ⟨ae,order,types,.mk h ps⟩ (Ty.mk h ps).cnt (Ty.mk h ps).deep 0 0 0) (wkM wB) ⟨0,_,_,rfl,by omega,by omega⟩ ?_;rintro j st ⟨e,n,d,rfl,he,rfl⟩;refine br ?_ ?_<;>intro hL
 ·have al:e < types.length:=by have:=hL;simp [dz] at this;exact this
  obtain ⟨w,hw⟩:=gX al;have CP:=fZ (mG hw);have hs:=j5 w.2.wt w.2 (aJ _) (by omega);obtain ⟨w,u,us⟩:=w;simp only at hs;refine iX (dNms_get hw) ?_;refine cP H5 hs ?_;refine br ?_ ?_<;>intro _
  ·exact ⟨uo ⟨ae,order,types,.mk h ps⟩ _ _ 0 0 (e + 1),(wkM (wB1 (nxt al (by omega)))),types.length - (e + 1),by omega,e + 1,_,_,rfl,by omega,rfl⟩
  ·exact ⟨uo ⟨ae,order,types,.mk h ps⟩ _ _ 0 0 (e + 1),(wkM (wB1 (nxt al (by omega)))),types.length - (e + 1),by omega,e + 1,_,_,rfl,by omega,rfl⟩
 exact ⟨_,rfl⟩
def samePrs:List (Wd × Wd)->List (Wd × Wd)->Bool
 | [],[]=>true
 | x :: r,y :: s=>(decide (x.1.s=y.1.s) && decide (x.2.s=y.2.s)) && samePrs r s
 | _,_=>false
def sameNms:List (Wd × Ty)->List (Wd × Ty)->Bool
 | [],[]=>true
 | x :: r,y :: s=>(decide (x.1.s=y.1.s) && sameTy x.2 y.2) && sameNms r s
 | _,_=>false
def H0 (a b:Sch):Bool:=sameWds a.ae b.ae && samePrs a.order b.order && sameTy a.root b.root && sameNms a.types b.types
def cB (r:List Bool):List DV:=r.map fun b=>DV.v (.bool b)
def wg (r:List Bool):List (List DV):=r.map fun b=>[DV.v (.bool b)]
def cu (m:List (List Bool)):List (List DV):=m.map fun r=>[DV.sl 1 (wg r) none]
theorem rV (r:List Bool):(cB r).length=r.length:=by simp [cB]
theorem uq (r:List Bool):(wg r).length=r.length:=by simp [wg]
theorem wh (m:List (List Bool)):(cu m).length=m.length:=by simp [cu]
theorem NL {r:List Bool} {i:Nat} {b:Bool} (h:r[i]? = some b):(cB r)[i]? = some (DV.v (.bool b)):=by simp [cB,h]
theorem A3 (r:List Bool) (i:Nat) (b:Bool):(cB r).set i (DV.v (.bool b))=cB (r.set i b):=by simp [cB,List.map_set]
theorem IM {r:List Bool} {i:Nat} {b:Bool} (h:r[i]? = some b):(wg r)[i]? = some [DV.v (.bool b)]:=by simp [wg,h]
theorem NN {m:List (List Bool)} {i:Nat} {r:List Bool} (h:m[i]? = some r):(cu m)[i]? = some [DV.sl 1 (wg r) none]:=by simp [cu,h]
theorem qk (r:List Bool):(wg r).flatten=cB r:=by
 induction r with
 | nil=>rfl
 | cons b r ih=>simp only [wg,cB,List.map_cons,List.flatten_cons] at ih ⊢;rw [ih];all_goals rfl
theorem Kp (n:Nat):(List.replicate n (vL [Value.bool false])).flatten=cB (List.replicate n false):=by
 induction n with
 | zero=>rfl
 | succ n ih=>simp only [List.replicate_succ,List.flatten_cons,ih];rfl
theorem bV {n m:Nat} {tk:List TkE} {l:List DV} {r:List Bool} (h:l=cB r):WeL n m tk l (cB r):=by
 subst h;refine vD _ fun x hx=>?_;obtain ⟨z,_,rfl⟩:=List.mem_map.1 hx;exact ⟨_,rfl⟩
theorem Sn {bx:List (List DV)} {N n0 m0 n:Nat} {r:List Bool} (hr:r.length=n) (hN:N<=0) (hb:bx[0]? = some (cB r)):Cc bx N n0 m0 (.sl 1 (wg r) none) (.ms 0 1 0 n n):=by
 simp only [Cc];refine Or.inr (Or.inr (Or.inl ⟨0,0,n,_,by rw [uq,hr],hN,hb,?_,?_,?_⟩))
 ·grind [qk,rV,uq]
 ·grind [wg]
 ·intro x hx;rw [qk] at hx;obtain ⟨_,_,rfl⟩:=List.mem_map.1 hx;exact .inl ⟨_,rfl⟩
def fo (n:Nat) (l:List (Nat × Nat)):List (List Bool):=(List.range n).map (tN n l)
theorem Gs (n:Nat) (l:List (Nat × Nat)):(fo n l).length=n:=by simp [fo]
theorem Gt {n a:Nat} (l:List (Nat × Nat)) (h:a < n):(fo n l)[a]? = some (tN n l a):=by simp [fo,List.getElem?_range h]
theorem Kq {n:Nat} {l:List (Nat × Nat)} (h:rF n l):fo n l=dj n (ee n l):=by
 unfold fo dj;exact List.map_congr_left fun a ha=>PZ h (List.mem_range.1 ha)
def iK (l:List (Nat × Nat)) (r:List Bool) (e:Nat):List Bool:=(l.take e).foldl gz r
theorem Gu (l:List (Nat × Nat)) (r:List Bool) (e:Nat):(iK l r e).length=r.length:=oQ (l.take e) r
theorem DD {l:List (Nat × Nat)} {r:List Bool} {e:Nat} {p:Nat × Nat} (h:l[e]? = some p):iK l r (e + 1)=gz (iK l r e) p:=by
 unfold iK;rw [List.take_add_one,h];simp
abbrev ldSt (n:Nat) (l:List (Nat × Nat)) (q e:Nat):St:=
 ⟨[ap 0 n,aU 1 2 (lP l),(5,⟨[],.sl 1 (cu ((fo n l).take e)) (some 0)⟩),ap 6 e],[],[⟨q,186,1,none⟩]⟩
abbrev Zh (n:Nat) (l:List (Nat × Nat)) (q e:Nat) (r:List Bool) (k:Nat):St:=
 ⟨[ap 0 n,aU 1 2 (lP l),(5,⟨[],.sl 1 (cu ((fo n l).take e)) (some 0)⟩),ap 6 e,(7,⟨[],.ms 0 1 0 n n⟩),ap 8 k],[cB r],[⟨q,186,1,none⟩]⟩
abbrev Zi (n:Nat) (l:List (Nat × Nat)) (q e:Nat) (r:List Bool) (k i:Nat):St:=
 ⟨[ap 0 n,aU 1 2 (lP l),(5,⟨[],.sl 1 (cu ((fo n l).take e)) (some 0)⟩),ap 6 e,(7,⟨[],.ms 0 1 0 n n⟩),ap 8 k,ap 9 i],[cB r],[⟨q,186,1,none⟩]⟩
abbrev Zj (n:Nat) (l:List (Nat × Nat)) (q e:Nat) (r:List Bool):St:=
 ⟨[ap 0 n,aU 1 2 (lP l),ap 6 e,(46,⟨[],.sl 1 (cu ((fo n l).take e)) (some 0)⟩),aU 47 1 (wg r)],[],[⟨q,186,1,none⟩]⟩
theorem Gv (n:Nat) (hn:n<=64) (l:List (Nat × Nat)) (hP:rF n l) (hb:l.length<=1099511627776) :
  EvP prog 120 [.v (.int .i64 n),.sl 2 (lP l) none] (.sl 1 (cu (fo n l)) none):=by
 have Fx:=gx l;have Zk:=Gs n l;refine eG 51 [.tmp 4] func120 rfl ntmps120 rfl fun _ _ _ _=>?_;refine lJ (fun e=>ldSt n l e e) n (fq ⟨0,186,1,none⟩ rfl ⟨_,rfl⟩ rfl wA rfl rfl jT) ?_;intro e he;refine br ?_ ?_<;>intro hL
 ·have al:e < n:=by have:=hL;simp at this;exact this
  have hr0l:((List.replicate n false).set e true).length=n:=by simp
  refine ⟨⟨rfl,by omega,by omega,by omega⟩,?_⟩;refine ⟨⟨by omega,by omega⟩,?_⟩;refine ⟨by rw [Kp,rV,List.length_replicate];omega,?_⟩
  have gI:((List.replicate (n:Int).toNat (vL [Value.bool false])).flatten).set (0 + (e:Int).toNat * 1) (DV.v (.bool true))=cB (cE l ((List.replicate n false).set e true) 0):=by
   rw [Kp,show 0 + (e:Int).toNat * 1=e by omega,show (n:Int).toNat=n by omega,A3];rfl
  refine lJ (fun k=>Zh n l e e (cE l ((List.replicate n false).set e true) k) k) n (wkB 1 (yL gI) (wB1 gI)) ?_;intro k hk;have gD:=eX l ((List.replicate n false).set e true) k;have xW:=ef l ((List.replicate n false).set e true) k;refine br ?_ ?_<;>intro nb
  ·have gC:k < n:=by have:=nb;simp at this;exact this
   generalize cE l ((List.replicate n false).set e true) k=r at gD xW ⊢;rw [hr0l] at gD;refine lJ (fun i=>Zi n l e e (iK l r i) k i) l.length (wkB 1 tH jT) ?_;intro i hi;have mh:=Gu l r i;refine br ?_ ?_<;>intro hL3
   ·have Zl:i < l.length:=by have:=hL3;simp [Fx] at this;exact this
    obtain ⟨p,hp⟩:∃ p,l[i]? = some p:=⟨_,gE Zl⟩;obtain ⟨PD,Tz⟩:=hP p (mG hp);have VM:=DD (r:=r) hp;obtain ⟨b,gT⟩:∃ b,(iK l r i)[p.1]? = some b:=⟨_,gE (by omega)⟩;have Ld:(iK l r i).getD p.1 false=b:=by simp [ek,gT]
    rw [gz,Ld] at VM;refine iX (vA hp) ?_;refine ⟨⟨by decide,by decide⟩,?_⟩;refine ⟨⟨by omega,by omega⟩,?_⟩;refine ⟨_,(show (cB (iK l r i))[0 + (p.1:Int).toNat * 1]? = some (.v (.bool b)) by rw [show 0 + (p.1:Int).toNat * 1=p.1 by omega];exact NL gT),?_⟩;refine br ?_ ?_<;>intro g
    ·have g:b=true:=g;rw [aj g] at VM;refine iX (vA hp) ?_;refine ⟨⟨by decide,by decide⟩,?_⟩;refine ⟨⟨by omega,by omega⟩,?_⟩;refine ⟨by rw [rV];omega,?_⟩;have gg:(cB (iK l r i)).set (0 + (p.2:Int).toNat * 1) (DV.v (.bool true))=cB (iK l r (i + 1)):=by grind [A3]
     exact rE ⟨_,by omega,i + 1,rfl,by omega,rfl⟩ (wkB 1 (wA2 gg (nxt Zl (by omega))) (wB2 gg (nxt Zl (by omega))))
    ·have g:¬ b=true:=by rw [show b=false from g];decide
     rw [ai g] at VM;exact rE ⟨_,by omega,i + 1,rfl,by omega,rfl⟩ (wkB 1 (by repeat' (first | exact rfl | exact we_rfl rfl | exact bV (by rw [VM]) | exact we_int (nxt Zl (by omega)) | refine ⟨_,_,rfl,?_,?_⟩)) (by repeat' (first | exact trivial | exact we_rfl rfl | exact bV (by rw [VM]) | exact we_int (nxt Zl (by omega)) | refine ⟨⟨_,rfl,?_⟩,?_⟩)))
   ·have aM:i=l.length:=sW Fx hL3;subst aM;have A4:iK l r l.length=cE l ((List.replicate n false).set e true) (k + 1):=by rw [xW,iK,List.take_length];all_goals rfl
    exact rE ⟨_,by omega,k + 1,rfl,by omega,rfl⟩ (wkB 1 (by repeat' (first | exact rfl | exact we_rfl rfl | exact bV (by rw [A4]) | exact we_int (nxt gC (by omega)) | refine ⟨_,_,rfl,?_,?_⟩)) (by repeat' (first | exact trivial | exact we_rfl rfl | exact bV (by rw [A4]) | exact we_int (nxt gC (by omega)) | refine ⟨⟨_,rfl,?_⟩,?_⟩)))
  ·have aM:k=n:=by have:=nb;simp at this;omega
   subst aM;have qZ:cE l ((List.replicate k false).set e true) k=tN k l e:=rfl;rw [qZ];have hrw:=p9 k l e;refine HE.wk (.H3 (st':=Zj k l e e (tN k l e)) 0 rfl rfl rfl rfl ?_) rfl rfl ?_
   ·refine ⟨⟨_,rfl,?_⟩,⟨_,rfl,?_⟩,⟨_,rfl,?_⟩,⟨_,rfl,?_⟩,⟨_,rfl,Sn hrw (by omega) rfl⟩,trivial⟩
    ·simp only [Cc]
    ·grind [Cc]
    ·simp only [Cc]
    ·grind [Cc]
   ·have dF:(cu ((fo k l).take e)).length=e:=by rw [wh,dE,Zk];omega
    have di:cu ((fo k l).take e) ++ [[DV.sl 1 (wg (tN k l e)) none]]=cu ((fo k l).take (e + 1)):=by rw [List.take_add_one,Gt l al];simp [cu]
    refine ⟨dF,⟨by rw [dF];simp [maxLen];omega,by rw [dF];simp;omega⟩,?_⟩;exact rE ⟨_,by omega,e + 1,rfl,by omega,rfl⟩ (wkM (wB2 (nxt al (by omega)) di))
 ·have aM:e=n:=by have:=hL;simp at this;omega
  subst aM;have ht:(fo e l).take e=fo e l:=by rw [List.take_of_length_le (by rw [Zk];omega)]
  rw [ht];exact ⟨_,ax,rfl⟩
theorem bQ {n m:Nat} {bP:List TkE} {x y:Bool} (h:x=y):We n m bP (.v (.bool x)) (.v (.bool y)):=.inl ⟨by rw [h],rfl⟩
theorem jL {l:List Wd} {j:Nat} {w:Wd} (h:l[j]? = some w):(au l)[j]? = some w.s:=by simp [au,h]
theorem IP {L:List ByteArray} {s:ByteArray} (h:∀ j,j < L.length->L[j]? ≠ some s):cI L s=none:=rH fun j hj=>by grind
abbrev Sp (l:List Wd) (s:ByteArray) (e:Nat):St:=
 ⟨[aU 0 2 (bq l),(1,⟨[],.v (.string s)⟩),ap 5 e],[],[]⟩
theorem eZ (l:List Wd) (s:ByteArray) (hs:wdsWt l<=1099511627776) :
  EvP prog 205 [.sl 2 (bq l) none,.v (.string s)] (.v (.int .i64 (oz (cI (au l) s)))):=by
 have mh:=bi l;have gW:=dq l;refine eG 20 [.tmp 4] func205 rfl ntmps205 rfl fun _ _ _ _=>?_;refine lI (fun j st=>∃ e:Nat,st=Sp l s e/\e<=l.length/\(∀ j,j < e->(au l)[j]? ≠ some s)/\j=l.length - e) ⟨0,rfl,by omega,fun _ h=>by omega,rfl⟩ (wkM wB) ?_;rintro j st ⟨e,rfl,he,fH,rfl⟩;refine br ?_ ?_<;>intro hL
 ·have al:e < l.length:=by simpa [av] using hL
  obtain ⟨w,hw⟩:=gX al;refine ⟨jA w,⟨by omega,aK hw⟩,?_⟩;refine br ?_ ?_<;>intro hq
  ·have hq:w.s=s:=sU hq;rw [AU (p:=e) (by rw [jL hw,hq]) (fun j hj=>Nat.le_of_not_lt fun hl=>fH j hl hj)];exact (rfl:_=_)
  ·have hq:¬ w.s=s:=sU hq;refine ⟨Sp l s (e + 1),(wkM (wB1 (nxt al (by omega)))),l.length - (e + 1),by omega,e + 1,rfl,by omega,fun j hj=>?_,rfl⟩;rcases lh hj with hj | rfl
   ·exact fH j hj
   ·rw [jL hw];simpa using hq
 ·have aM:e=l.length:=by have:=hL;simp [av] at this;omega
  rw [IP (fun j hj=>fH j (by omega))];exact (rfl:_=_)
theorem fp {o:Option Nat}:decide (oz o < 0)=true↔o=none:=by
 cases o with
 | none=>simp [oz]
 | some k=>grind [oz]
theorem DE {L:List ByteArray}:∀ {o:List (Wd × Wd)},(numF L o).1=0->∀ x∈o,(∃ a,cI L x.1.s=some a)/\∃ b,cI L x.2.s=some b
 | [],_,x,hx=>by cases hx
 | p :: r,h,x,hx=>by
  rw [numF] at h;split at h
  ·exact absurd h (by simp)
  rename_i h1;split at h
  ·exact absurd h (by simp)
  rename_i h2;rcases dg hx with rfl | hx
  ·exact ⟨Option.ne_none_iff_exists'.1 h1,Option.ne_none_iff_exists'.1 h2⟩
  ·exact DE h x hx
abbrev Zm (l:List Wd) (o:List (Wd × Wd)) (q e:Nat):St:=
 ⟨[aU 0 2 (bq l),aU 1 4 (mv o),(5,⟨[],.sl 2 (lP (cW (au l) (o.take e))) (some 0)⟩),ap 6 e],[],[⟨q,291,2,none⟩]⟩
theorem Gw (l:List Wd) (o:List (Wd × Wd)) (hs:wdsWt l<=1099511627776) (Fc:prsWt o<=1099511627776) (hF:(numF (au l) o).1=0) :
  EvP prog 121 [.sl 2 (bq l) none,.sl 4 (mv o) none] (.sl 2 (lP (cW (au l) o)) none):=by
 have mh:=ib o;refine eG 34 [.tmp 4] func121 rfl ntmps121 rfl fun _ _ _ _=>?_;refine lJ (fun e=>Zm l o e e) o.length (fq ⟨0,291,2,none⟩ rfl ⟨_,rfl⟩ rfl wA rfl rfl jT) ?_;intro e he;refine br ?_ ?_<;>intro hL
 ·have al:e < o.length:=by simpa [fv] using hL
  obtain ⟨w,hw⟩:=gX al;obtain ⟨⟨a,ha⟩,⟨b,hb⟩⟩:=DE hF w (mG hw);have J3:=eZ l w.1.s hs;have yE:=eZ l w.2.s hs;rw [ha] at J3;rw [hb] at yE;refine dI ?_;refine ⟨Lj w,⟨by omega,gw hw⟩,?_⟩;refine cD u6 J3 ?_;refine ⟨Lj w,⟨by omega,gw hw⟩,?_⟩;refine cD u6 yE ?_;refine ⟨by simp [gx,cW];omega,⟨by simp [gx,cW,maxLen];omega,by simp [gx,cW];omega⟩,?_⟩;exact rE ⟨_,by omega,e + 1,rfl,by omega,rfl⟩ (wkM (wB2 (nxt al (by omega)) (zi hw ha hb)))
 ·have aM:e=o.length:=by
   have:=hL;simp [fv] at this;omega
  have ht:o.take e=o:=by rw [aM,List.take_length]
  rw [ht];exact ⟨_,ax,rfl⟩
theorem DF (l:List Wd) (o:List (Wd × Wd)) (hl:l.length<=32) (hs:wdsWt l<=1099511627776) (Fc:prsWt o<=1099511627776) (hF:(numF (au l) o).1=0) :
  EvP prog 53 [.sl 2 (bq l) none,.sl 4 (mv o) none] (.sl 1 (cu (dj l.length (ee l.length (cW (au l) o)))) none):=by
 have mh:=ib o;have hP:rF l.length (cW (au l) o):=by have:=nR hF;rwa [dq] at this
 have hN:=av l;have Qf:=Gv l.length (by omega) (cW (au l) o) hP (by simp [cW];omega);rw [Kq hP] at Qf;refine eG 11 [.tmp 4] func53 rfl ntmps53 rfl fun _ _ _ _=>?_;refine cP W0 (Gw l o hs Fc hF) ?_;rw [hN];refine cP WZ Qf ?_;exact ⟨_,ax,rfl⟩
theorem DG (n:Nat) (f:Nat->Nat->Bool):(dj n f).length=n:=by simp [dj]
theorem ik (n:Nat) (f:Nat->Nat->Bool):(cu (dj n f)).length=n:=by rw [wh,DG]
theorem dr {n:Nat} {f:Nat->Nat->Bool} {a:Nat} (ha:a < n):(cu (dj n f))[a]? = some [DV.sl 1 (wg ((List.range n).map (f a))) none]:=NN (Dc ha)
theorem cz {n:Nat} {f:Nat->Nat->Bool} {a b:Nat} (hb:b < n):(wg ((List.range n).map (f a)))[b]? = some [DV.v (.bool (f a b))]:=IM (by simp [List.getElem?_range hb])
abbrev Sq (n:Nat) (f:Nat->Nat->Bool) (e:Nat):St:=
 ⟨[aU 0 1 (cu (dj n f)),ap 3 e],[],[]⟩
abbrev UB (n:Nat) (f:Nat->Nat->Bool) (e k:Nat):St:=
 ⟨[aU 0 1 (cu (dj n f)),ap 3 e,ap 4 k],[],[]⟩
theorem DH (n:Nat) (f:Nat->Nat->Bool) (hn:n<=64) :
  EvP prog 275 [.sl 1 (cu (dj n f)) none] (.v (.int .i64 (oz (bJ (j8 n f) n)))):=by
 have dF:=ik n f;refine eG 39 [.tmp 2] func275 rfl ntmps275 rfl fun _ _ _ _=>?_;refine lI (fun j st=>∃ e:Nat,st=Sq n f e/\e<=n/\(∀ a,a < e->j8 n f a=false)/\j=n - e) ⟨0,rfl,by omega,fun _ h=>by omega,rfl⟩ (wkM wB) ?_;rintro j st ⟨e,rfl,he,fH,rfl⟩;refine br ?_ ?_<;>intro hL
 ·have al:e < n:=sV dF hL;refine lI (fun j st=>∃ k:Nat,st=UB n f e k/\k<=n/\(∀ b,b < k->(decide (e≠b) && (f e b && f b e))=false)/\j=n - k) ⟨0,rfl,by omega,fun _ h=>by omega,rfl⟩ (wkM wB) ?_;rintro j st ⟨k,rfl,hk,NO,rfl⟩;refine br ?_ ?_<;>intro nb
  ·have gC:k < n:=sV dF nb;have CX:(decide (e≠k) && (f e k && f k e))=false->∀ b,b < k + 1->(decide (e≠b) && (f e b && f b e))=false:=fun h b hb=>by grind
   refine br ?_ ?_<;>intro g1
   ·have g1:e≠k:=by have:=g1;simp at this;omega
    refine iX (dr al) ?_;refine iX (cz gC) ?_;refine br ?_ ?_<;>intro g2
    ·have g2:f e k=true:=by simpa [pickB] using g2
     refine iX (dr gC) ?_;refine iX (cz al) ?_;refine br ?_ ?_<;>intro g3
     ·have g3:f k e=true:=by simpa [pickB] using g3
      have hp:j8 n f e=true:=List.any_eq_true.2 ⟨k,List.mem_range.2 gC,by simp [g1,g2,g3]⟩;rw [cH al hp fH];exact (rfl:_=_)
     ·have g3:f k e=false:=by simpa [pickB] using g3
      exact rE ⟨_,by omega,k + 1,rfl,by omega,CX (by simp [g3]),rfl⟩ (wkM (wB1 (nxt gC (by omega))))
    ·have g2:f e k=false:=by simpa [pickB] using g2
     exact rE ⟨_,by omega,k + 1,rfl,by omega,CX (by simp [g2]),rfl⟩ (wkM (wB1 (nxt gC (by omega))))
   ·have g1:e=k:=by have:=g1;simp at this;omega
    exact rE ⟨_,by omega,k + 1,rfl,by omega,CX (by simp [g1]),rfl⟩ (wkM (wB1 (nxt gC (by omega))))
  ·have aM:k=n:=sW dF nb;refine ⟨Sq n f (e + 1),(wkM (wB1 (nxt al (by omega)))),n - (e + 1),by omega,e + 1,rfl,by omega,fun j hj=>?_,rfl⟩;rcases lh hj with hj | rfl
   ·exact fH j hj
   ·grind [j8]
 ·have aM:e=n:=sW dF hL;subst aM;rw [dh fH];exact (rfl:_=_)
abbrev tuSt (n:Nat) (f:Nat->Nat->Bool) (q e:Nat):St:=
 ⟨[aU 0 1 (cu (dj n f)),(3,⟨[],.sl 1 (cu ((dj n fun a b=>f b a).take e)) (some 0)⟩),ap 4 e],[],[⟨q,186,1,none⟩]⟩
abbrev Zn (n:Nat) (f:Nat->Nat->Bool) (q e:Nat) (r:List Bool) (k:Nat):St:=
 ⟨[aU 0 1 (cu (dj n f)),(3,⟨[],.sl 1 (cu ((dj n fun a b=>f b a).take e)) (some 0)⟩),ap 4 e,(5,⟨[],.ms 0 1 0 n n⟩),ap 6 k],[cB r],[⟨q,186,1,none⟩]⟩
abbrev Zo (n:Nat) (f:Nat->Nat->Bool) (q e:Nat) (r:List Bool):St:=
 ⟨[aU 0 1 (cu (dj n f)),ap 4 e,(32,⟨[],.sl 1 (cu ((dj n fun a b=>f b a).take e)) (some 0)⟩),aU 33 1 (wg r)],[],[⟨q,186,1,none⟩]⟩
def kR (n:Nat) (f:Nat->Nat->Bool) (e k:Nat):List Bool:=(List.range n).map fun b=>if b < k then f b e else false
theorem rW (n:Nat) (f:Nat->Nat->Bool) (e k:Nat):(kR n f e k).length=n:=by simp [kR]
theorem Gx (n:Nat) (f:Nat->Nat->Bool) (e:Nat):kR n f e 0=List.replicate n false:=by
 refine List.ext_getElem? fun i=>?_
 grind [kR,rW]
theorem Gy (n:Nat) (f:Nat->Nat->Bool) (e k:Nat):(kR n f e k).set k (f k e)=kR n f e (k + 1):=by
 refine List.ext_getElem? fun i=>?_
 grind [kR,rW]
theorem Gz (n:Nat) (f:Nat->Nat->Bool) (e:Nat):kR n f e n=(List.range n).map (fun b=>f b e):=by simp_all [kR]
theorem Kr (n:Nat) (f:Nat->Nat->Bool) (hn:n<=64) :
  EvP prog 276 [.sl 1 (cu (dj n f)) none] (.sl 1 (cu (dj n fun a b=>f b a)) none):=by
 have dF:=ik n f;have Zk:=DG n fun a b=>f b a;refine eG 37 [.tmp 2] func276 rfl ntmps276 rfl fun _ _ _ _=>?_;refine lJ (fun e=>tuSt n f e e) n (fq ⟨0,186,1,none⟩ rfl ⟨_,rfl⟩ rfl wA rfl rfl jT) ?_;intro e he;refine br ?_ ?_<;>intro hL
 ·have al:e < n:=sV dF hL;refine ⟨⟨rfl,by omega,by rw [dF];omega,by rw [dF];omega⟩,?_⟩;rw [dF];have gI:(List.replicate (n:Int).toNat (vL [Value.bool false])).flatten=cB (kR n f e 0):=by grind [Kp,Gx]
  refine lJ (fun k=>Zn n f e e (kR n f e k) k) n (wkB 1 (yL gI) (wB1 gI)) ?_;intro k hk;refine br ?_ ?_<;>intro nb
  ·have gC:k < n:=sV dF nb;refine iX (dr gC) ?_;refine iX (cz al) ?_;refine ⟨⟨by omega,by omega⟩,?_⟩;refine ⟨by rw [rV,rW];omega,?_⟩
   have gg:(cB (kR n f e k)).set (0 + (k:Int).toNat * 1) (DV.v (.bool (f (k:Int).toNat (e:Int).toNat)))=cB (kR n f e (k + 1)):=by
    rw [show 0 + (k:Int).toNat * 1=k by omega,A3,jU,jU,Gy]
   exact rE ⟨_,by omega,k + 1,rfl,by omega,rfl⟩ (wkB 1 (wA2 gg (nxt gC (by omega))) (wB2 gg (nxt gC (by omega))))
  ·have aM:k=n:=sW dF nb;subst aM;rw [Gz];refine HE.wk (.H3 (st':=Zo k f e e ((List.range k).map fun b=>f b e)) 0 rfl rfl rfl rfl ?_) rfl rfl ?_
   ·refine ⟨⟨_,rfl,?_⟩,⟨_,rfl,?_⟩,⟨_,rfl,?_⟩,⟨_,rfl,Sn (by simp) (by omega) rfl⟩,trivial⟩
    ·grind [Cc]
    ·simp only [Cc]
    ·grind [Cc]
   ·have Zp:(cu ((dj k fun a b=>f b a).take e)).length=e:=by rw [wh,dE,Zk];omega
    have di:cu ((dj k fun a b=>f b a).take e) ++ [[DV.sl 1 (wg ((List.range k).map fun b=>f b e)) none]]=cu ((dj k fun a b=>f b a).take (e + 1)):=by rw [List.take_add_one,Dc al];simp [cu]
    refine ⟨Zp,⟨by rw [Zp];simp [maxLen];omega,by rw [Zp];simp;omega⟩,?_⟩;exact rE ⟨_,by omega,e + 1,rfl,by omega,rfl⟩ (wkM (wB2 (nxt al (by omega)) di))
 ·have aM:e=n:=sW dF hL;subst aM;rw [List.take_of_length_le (by rw [Zk];omega)];exact ⟨_,ax,rfl⟩
def Sr (f:Nat->Nat->Bool) (n a b c:Nat):Bool:=(f a c && f b c) && (List.range n).all fun d=>!(f a d && f b d) || f c d
def jM (f:Nat->Nat->Bool) (n a b:Nat):Option Nat:=bJ (Sr f n a b) n
def my (f:Nat->Nat->Bool) (a b c k:Nat):Bool:=(f a c && f b c) && (List.range k).all fun d=>!(f a d && f b d) || f c d
theorem Ks (f:Nat->Nat->Bool) (a b c k:Nat):my f a b c (k + 1)=(my f a b c k && (!(f a k && f b k) || f c k)):=by
 simp only [my,List.range_succ,List.all_append,List.all_cons,List.all_nil,Bool.and_true,Bool.and_assoc]
theorem zA (f:Nat->Nat->Bool) (a b c:Nat):my f a b c 0=(f a c && f b c):=by simp [my]
abbrev Zq (n:Nat) (f:Nat->Nat->Bool) (a b e:Nat):St:=
 ⟨[aU 0 1 (cu (dj n f)),ap 1 a,ap 2 b,ap 7 e],[],[]⟩
abbrev IQ (n:Nat) (f:Nat->Nat->Bool) (a b e:Nat) (x:Bool) (k:Nat):St:=
 ⟨[aU 0 1 (cu (dj n f)),ap 1 a,ap 2 b,ap 7 e,Ar 8 x,ap 9 k],[],[]⟩
theorem ka (n:Nat) (f:Nat->Nat->Bool) (hn:n<=64) (a b:Nat) (ha:a < n) (hb:b < n) :
  EvP prog 210 [.sl 1 (cu (dj n f)) none,.v (.int .i64 a),.v (.int .i64 b)] (.v (.int .i64 (oz (jM f n a b)))):=by
 have dF:=ik n f;refine eG 66 [.tmp 6] func210 rfl ntmps210 rfl fun _ _ _ _=>?_;refine lI (fun j st=>∃ e:Nat,st=Zq n f a b e/\e<=n/\(∀ c,c < e->Sr f n a b c=false)/\j=n - e) ⟨0,rfl,by omega,fun _ h=>by omega,rfl⟩ (wkM wB) ?_;rintro j st ⟨e,rfl,he,fH,rfl⟩;refine br ?_ ?_<;>intro hL
 ·have al:e < n:=sV dF hL;refine iX (dr ha) ?_;refine iX (cz al) ?_;have e1:(f a e == true)=true->f b e=my f a b e 0:=fun g=>by rw [zA,show f a e=true by simpa using g];simp
  have e2:(f a e == true)=false->false=my f a b e 0:=fun g=>by rw [zA,show f a e=false by simpa using g];simp
  refine have body:=?_;br (fun g1=>⟨_,⟨by omega,dr hb⟩,⟨_,⟨by omega,cz al⟩,aQ (fun j st=>∃ k:Nat,st=IQ n f a b e (my f a b e k) k/\k<=n/\j=n - k) n (IQ n f a b e (my f a b e 0) 0) (wkM (by repeat' (first | exact trivial | exact we_rfl rfl | exact (show We _ _ _ (DV.v (.bool (f b e))) _ from bQ (e1 g1)) | refine ⟨⟨_,rfl,?_⟩,?_⟩))) ⟨0,rfl,by omega,by omega⟩ body⟩⟩) (fun g1=>aQ (fun j st=>∃ k:Nat,st=IQ n f a b e (my f a b e k) k/\k<=n/\j=n - k) n (IQ n f a b e (my f a b e 0) 0) (wkM (by repeat' (first | exact trivial | exact we_rfl rfl | exact (show We _ _ _ (DV.v (.bool false)) _ from bQ (e2 g1)) | refine ⟨⟨_,rfl,?_⟩,?_⟩))) ⟨0,rfl,by omega,by omega⟩ body);rintro j st ⟨k,rfl,hk,rfl⟩;refine br ?_ ?_<;>intro nb
  ·have gC:k < n:=sV dF nb;have Kt:=Ks f a b e k;refine iX (dr ha) ?_;refine iX (cz gC) ?_;refine br ?_ ?_<;>intro g1
   ·refine iX (dr hb) ?_;refine iX (cz gC) ?_;refine br ?_ ?_<;>intro g2
    ·refine iX (dr al) ?_;refine iX (cz gC) ?_;refine br ?_ ?_<;>intro g3
     ·have hx:false=my f a b e (k + 1):=by simp [pickB] at g1 g2 g3;rw [Kt];simp [g1,g2,g3]
      exact rE ⟨_,by omega,k + 1,rfl,by omega,rfl⟩ (wkM (wB2 (nxt gC (by omega)) hx))
     ·have hx:my f a b e k=my f a b e (k + 1):=by simp [pickB] at g1 g2 g3;rw [Kt];simp [g1,g2,g3]
      exact rE ⟨_,by omega,k + 1,rfl,by omega,rfl⟩ (wkM (wB2 (nxt gC (by omega)) hx))
    ·have hx:my f a b e k=my f a b e (k + 1):=by simp [pickB] at g1 g2;rw [Kt];simp [g1,g2]
     exact rE ⟨_,by omega,k + 1,rfl,by omega,rfl⟩ (wkM (wB2 (nxt gC (by omega)) hx))
   ·have hx:my f a b e k=my f a b e (k + 1):=by simp [pickB] at g1;rw [Kt];simp [g1]
    exact rE ⟨_,by omega,k + 1,rfl,by omega,rfl⟩ (wkM (wB2 (nxt gC (by omega)) hx))
  ·have aM:k=n:=sW dF nb;subst aM;refine br ?_ ?_<;>intro g
   ·have g:Sr f k a b e=true:=g;rw [jM,cH al g fH];exact (rfl:_=_)
   ·have g:Sr f k a b e=false:=g;refine ⟨Zq k f a b (e + 1),(wkM (wB1 (nxt al (by omega)))),k - (e + 1),by omega,e + 1,rfl,by omega,fun j hj=>?_,rfl⟩;rcases lh hj with hj | rfl
    ·exact fH j hj
    ·exact g
 ·have aM:e=n:=sW dF hL;subst aM;rw [jM,dh fH];exact (rfl:_=_)
theorem NP {l:List Wd} {i:Nat} {w:Wd} (hw:l[i]? = some w):∃ p,cI (au l) w.s=some p/\(p < i↔cp (l.take i) w.s=true):=by
 cases h:cI (au l) w.s with
 | none=>exact absurd (mG (jL hw)) (ya.1 h)
 | some p=>
  refine ⟨p,rfl,?_⟩;obtain ⟨h1,h2,h3⟩:=cQ h;rw [dq] at h1;have GA:∃ v,l[p]? = some v/\v.s=w.s:=by grind [jL]
  obtain ⟨v,hv,xX⟩:=GA;unfold cp;rw [List.any_eq_true];refine ⟨fun al=>⟨v,mG (i:=p) (by rw [bY,aj al];exact hv),by simp [xX]⟩,fun ⟨x,hx,Cn⟩=>?_⟩;obtain ⟨j,hj⟩:=List.getElem?_of_mem hx
  grind [jL]
theorem A5 {f:Nat->Nat->Bool} {n a b c:Nat}:Sr f n a b c=true↔f a c=true/\f b c=true/\∀ d,d < n->f a d=true->f b d=true->f c d=true:=by grind [Sr]
structure O6 (f:Nat->Nat->Bool) (n:Nat):Prop where
 rfl':∀ a,a < n->f a a=true
 Ga:∀ a b,a < n->b < n->f a b=true->f b a=true->a=b
theorem O6.flip {f:Nat->Nat->Bool} {n:Nat} (h:O6 f n):O6 (fun x y=>f y x) n:=⟨h.rfl',fun a b ha hb h1 h2=>h.Ga a b ha hb h2 h1⟩
theorem DI {f:Nat->Nat->Bool} {n a b c:Nat} (h:O6 f n) (hc:c < n) (hj:Sr f n a b c=true):eK f n a b=some c:=by
 obtain ⟨h1,h2,h3⟩:=A5.1 hj
 have key:∀ e,e<=n->c < e->bestA (fun c=>f a c && f b c) f e=some c:=by
  intro e
  induction e with
  | zero=>intro _ h;omega
  | succ e ih=>
   intro he hce;rw [bestA];by_cases hec:e=c
   ·subst hec;rw [aj];simp only [h1,h2,Bool.and_true,Bool.true_and]
    cases ho:bestA (fun c=>f a c && f b c) f e with
    | none=>rfl
    | some o=>
     have hp:=rO ho;have hl:=mZ ho;simp only [aO] at hp;exact h3 o (by omega) hp.1 hp.2
   ·rw [ih (by omega) (by omega),ai];simp only [aO,Dh,not_and];intro hp hec2;exact hec (h.Ga e c (by omega) hc hec2 (h3 e (by omega) hp.1 hp.2))
 grind [eK,mY]
theorem l4 {f:Nat->Nat->Bool} {n a b:Nat} (h:O6 f n):(eK f n a b).isNone=(jM f n a b).isNone:=by
 cases hj:jM f n a b with
 | some c=>
  obtain ⟨hc,hi,_⟩:=dT hj;rw [DI h hc hi]
 | none=>
  cases hk:eK f n a b with
  | none=>rfl
  | some k=>
   obtain ⟨h1,h2,h3,h4⟩:=oU hk;have:=dx hj k h1;rw [A5.2 ⟨h2,h3,h4⟩] at this;cases this
def oy (f:Nat->Nat->Bool) (n a b:Nat):Bool:=(jM f n a b).isNone || (jM (fun x y=>f y x) n a b).isNone
theorem IU {f:Nat->Nat->Bool} {n a b:Nat} (h:O6 f n):kL f n a b=oy f n a b:=by
 unfold kL oy;rw [l4 h,show iz f n a b=eK (fun x y=>f y x) n a b from rfl,l4 h.flip]
theorem wi {f:Nat->Nat->Bool} {n b:Nat} (h:O6 f n) (hb:b < n):(jM f n b b).isNone=false:=by
 have hi:Sr f n b b b=true:=A5.2 ⟨h.rfl' b hb,h.rfl' b hb,fun d _ h1 _=>h1⟩
 cases hj:jM f n b b with
 | some c=>rfl
 | none=>rw [dx hj b hb] at hi;cases hi
theorem Qv {f:Nat->Nat->Bool} {n b:Nat} (h:O6 f n) (hb:b < n):na f n b=(List.range b).any fun a=>oy f n a b:=by
 unfold na;rw [List.range_succ,List.any_append];simp only [List.any_cons,List.any_nil,Bool.or_false];rw [IU h,show oy f n b b=false by unfold oy;rw [wi h hb,wi h.flip hb];rfl,Bool.or_false]
 grind [IU]
theorem UC {n:Nat} {l:List (Nat × Nat)} (hP:rF n l) (h4:bJ (j8 n (ee n l)) n=none):O6 (ee n l) n where
 rfl':=fun a ha=>rG hP ha
 Ga:=fun a b ha hb h6 h7=>by grind [dx,j8]
abbrev Zr (l:List Wd) (o:List (Wd × Wd)) (e:Nat):St:=
 ⟨[aU 0 2 (bq l),aU 1 4 (mv o),aw 4 0,ap 5 e],[[.v (.int .i64 0),.v (.int .i64 0)]],[]⟩
abbrev Zs (l:List Wd) (o:List (Wd × Wd)) (e:Nat):St:=
 ⟨[aU 0 2 (bq l),aU 1 4 (mv o),aw 4 0,ap 6 e],[[.v (.int .i64 0),.v (.int .i64 0)]],[]⟩
abbrev Ss (l:List Wd) (n:Nat) (f:Nat->Nat->Bool) (e:Nat):St:=
 ⟨[aU 0 2 (bq l),aw 4 0,aU 7 1 (cu (dj n f)),aU 9 1 (cu (dj n fun a b=>f b a)),ap 10 e],[[.v (.int .i64 0),.v (.int .i64 0)]],[]⟩
abbrev Su (l:List Wd) (n:Nat) (f:Nat->Nat->Bool) (e k:Nat):St:=
 ⟨[aU 0 2 (bq l),aw 4 0,aU 7 1 (cu (dj n f)),aU 9 1 (cu (dj n fun a b=>f b a)),ap 10 e,ap 11 k],[[.v (.int .i64 0),.v (.int .i64 0)]],[]⟩
theorem A6 (l:List Wd) (o:List (Wd × Wd)) (hs:wdsWt l<=1099511627776) (Fc:prsWt o<=1099511627776) :
  EvP prog 240 [.sl 2 (bq l) none,.sl 4 (mv o) none] (latF l o).d:=by
 have mh:=bi l;have hsl2:=ib o;have hF:latF l o=latF l o:=rfl
 conv at hF=>rhs;unfold latF
 refine eG 150 [.cell 4 44] func240 rfl ntmps240 rfl fun _ _ _ _=>?_;generalize latF l o=F at hF ⊢;refine br ?_ ?_<;>intro h
 ·have h:l=[]:=by simpa [av] using h
  rw [show fw l o=(15,0) by rw [fw,aj h],aj (by decide)] at hF;refine ⟨_,?_,rfl⟩;rw [hF];exact ax
 have h:¬ l=[]:=by simpa [av] using h
 refine br ?_ ?_<;>intro h1
 ·have h1:32 < l.length:=by simp [av] at h1;omega
  obtain ⟨x,hx⟩:∃ x,l[32]? = some x:=⟨_,gE h1⟩;rw [show fw l o=(8,x.a) by rw [fw,ai h,aj h1,hx];rfl,aj (by simp)] at hF;refine ⟨jA x,⟨by omega,aK hx⟩,?_⟩;refine ⟨_,?_,rfl⟩;rw [hF];exact ax
 have h1:¬ 32 < l.length:=by simp [av] at h1;omega
 refine br ?_ ?_<;>intro h2
 ·have h2:256 < o.length:=by simp [fv] at h2;omega
  obtain ⟨x,hx⟩:∃ x,o[256]? = some x:=⟨_,gE h2⟩;rw [show fw l o=(8,x.1.a) by rw [fw,ai h,ai h1,aj h2,hx];rfl,aj (by simp)] at hF;refine ⟨Lj x,⟨by omega,gw hx⟩,?_⟩;refine ⟨_,?_,rfl⟩;rw [hF];exact ax
 have h2:¬ 256 < o.length:=by simp [fv] at h2;omega
 rw [show fw l o=(0,0) by rw [fw,ai h,ai h1,ai h2],ai (by decide)] at hF;have h0:enumL l 0 l=enumL l 0 (l.drop 0):=rfl;refine lI (fun j st=>∃ e:Nat,st=Zr l o e/\e<=l.length/\enumL l 0 l=enumL l e (l.drop e)/\j=l.length - e) ⟨0,rfl,by omega,rfl,rfl⟩ (wkM wB) ?_;rintro j st ⟨e,rfl,he,aG,rfl⟩;refine br ?_ ?_<;>intro hL
 ·have al:e < l.length:=by simpa [av] using hL
  obtain ⟨w,hw⟩:=gX al;have ub:=gY (mG hw);have aY:enumL l e (l.drop e)=if aA l e w≠0 then (aA l e w,w.a) else enumL l (e + 1) (l.drop (e + 1)):=by rw [drop_cons hw,enumL]
  obtain ⟨p,hp,EV⟩:=NP hw;have hf:=eZ l w.s hs;rw [hp] at hf;refine ⟨jA w,⟨by omega,aK hw⟩,?_⟩;refine cP H7 (j4 w.s (by omega)) ?_;refine br ?_ ?_<;>intro hN
  ·have hN:bc w.s=false:=sU hN;have hf:aA l e w=9:=by simp [aA,hN]
   rw [aG,aY,hf,aj (show (9:Int)≠0 by decide),aj (by simp)] at hF;refine ⟨jA w,⟨by omega,aK hw⟩,?_⟩;refine ⟨_,?_,rfl⟩;rw [hF];exact ax
  ·have hN:bc w.s=true:=sU hN;refine ⟨jA w,⟨by omega,aK hw⟩,?_⟩;refine cP u6 hf ?_;refine br ?_ ?_<;>intro h2
   ·have h2:p < e:=by have:=h2;simp [oz] at this;exact this
    have hf:aA l e w=10:=by simp [aA,hN,EV.1 h2]
    rw [aG,aY,hf,aj (show (10:Int)≠0 by decide),aj (by simp)] at hF;refine ⟨jA w,⟨by omega,aK hw⟩,?_⟩;refine ⟨_,?_,rfl⟩;rw [hF];exact ax
   ·have h2:¬ p < e:=by have:=h2;simp [oz] at this;omega
    have hd:cp (l.take e) w.s=false:=by grind
    have hf:aA l e w=0:=by simp [aA,hN,hd]
    rw [hf,ai (by simp)] at aY;exact rE ⟨_,by omega,e + 1,rfl,by omega,by rw [aG,aY],rfl⟩ (wkM (wB1 (nxt al (by omega))))
 have aM:e=l.length:=by have:=hL;simp [av] at this;omega
 rw [aG,aM,List.drop_length,show enumL l l.length []=(0,0) from rfl,ai (by decide)] at hF;refine lI (fun j st=>∃ e:Nat,st=Zs l o e/\e<=o.length/\numF (au l) o=numF (au l) (o.drop e)/\j=o.length - e) ⟨0,rfl,by omega,rfl,rfl⟩ (wkM wB) ?_;clear aG hL aM he e;rintro j st ⟨e,rfl,he,aG,rfl⟩;refine br ?_ ?_<;>intro hL
 ·have al:e < o.length:=by simpa [fv] using hL
  obtain ⟨w,hw⟩:=gX al;have aY:numF (au l) (o.drop e)=if cI (au l) w.1.s=none then (17,w.1.a) else if cI (au l) w.2.s=none then (17,w.2.a) else numF (au l) (o.drop (e + 1)):=by rw [drop_cons hw,numF]
  refine ⟨Lj w,⟨by omega,gw hw⟩,?_⟩;refine cP u6 (eZ l w.1.s hs) ?_;refine br ?_ ?_<;>intro ha
  ·have ha:=fp.1 ha;rw [aG,aY,aj ha,aj (by simp)] at hF;refine ⟨Lj w,⟨by omega,gw hw⟩,?_⟩;refine ⟨_,?_,rfl⟩;rw [hF];exact ax
  have ha:¬ cI (au l) w.1.s=none:=fun hn=>by have:=fp.2 hn;rw [ha] at this;cases this
  refine ⟨Lj w,⟨by omega,gw hw⟩,?_⟩;refine cP u6 (eZ l w.2.s hs) ?_;refine br ?_ ?_<;>intro hb
  ·have hb:=fp.1 hb;rw [aG,aY,ai ha,aj hb,aj (by simp)] at hF;refine ⟨Lj w,⟨by omega,gw hw⟩,?_⟩;refine ⟨_,?_,rfl⟩;rw [hF];exact ax
  have hb:¬ cI (au l) w.2.s=none:=fun hn=>by have:=fp.2 hn;rw [hb] at this;cases this
  rw [ai ha,ai hb] at aY;exact rE ⟨_,by omega,e + 1,rfl,by omega,by rw [aG,aY],rfl⟩ (wkM (wB1 (nxt al (by omega))))
 have aM:e=o.length:=by have:=hL;simp [fv] at this;omega
 rw [aM,List.drop_length,show numF (au l) []=(0,0) from rfl] at aG;rw [aG,ai (by decide)] at hF;have oe:(numF (au l) o).1=0:=by rw [aG]
 have hP:rF l.length (cW (au l) o):=by have:=nR oe;rwa [dq] at this
 have hpo:=UC hP;have dF:=ik l.length (ee l.length (cW (au l) o));refine cP TI (DF l o (by omega) hs Fc oe) ?_;generalize ee l.length (cW (au l) o)=f at hF hpo dF ⊢;refine cP Xy (DH l.length f (by omega)) ?_
 cases hlo:bJ (j8 l.length f) l.length with
 | some a=>
  rw [hlo] at hF;have ha:=(dT hlo).1;obtain ⟨x,hx⟩:∃ x,l[a]? = some x:=⟨_,gE ha⟩;simp only [j9 hx] at hF;refine ⟨jA x,⟨by simp only [oz];omega,aK hx⟩,?_⟩;refine ⟨_,?_,rfl⟩;rw [hF];exact ax
 | none=>
 have hpo:=hpo hlo;rw [hlo] at hF;simp only at hF;refine cP Xz (Kr l.length f (by omega)) ?_;refine lI (fun j st=>∃ e:Nat,st=Ss l l.length f e/\e<=l.length/\(∀ b,b < e->na f l.length b=false)/\j=l.length - e) ⟨0,rfl,by omega,fun _ h=>by omega,rfl⟩ (wkM wB) ?_;clear aG hL aM he e;rintro j st ⟨e,rfl,he,fH,rfl⟩;refine br ?_ ?_<;>intro hL
 ·have al:e < l.length:=sV dF hL;have Vv:=Qv hpo al;refine lI (fun j st=>∃ k:Nat,st=Su l l.length f e k/\k<=e/\(∀ a,a < k->oy f l.length a e=false)/\j=e - k) ⟨0,rfl,by omega,fun _ h=>by omega,rfl⟩ (wkM wB) ?_;rintro j st ⟨k,rfl,hk,NO,rfl⟩;refine br ?_ ?_<;>intro nb
  ·have gC:k < e:=sU nb;obtain ⟨x,hx⟩:=gX al
   have NQ:oy f l.length k e=true->F=(12,x.a):=fun AW=>by
    rw [cH al (by rw [Vv,List.any_eq_true];exact ⟨k,by simpa using gC,AW⟩) fH] at hF;simp only [j9 hx] at hF;exact hF
   refine cP Ia (ka l.length f (by omega) k e (by omega) al) ?_;refine br ?_ ?_<;>intro g1
   ·have g1:¬ jM f l.length k e=none:=fun hn=>by rw [fp.2 hn] at g1;cases g1
    refine cP Ia (ka l.length (fun a b=>f b a) (by omega) k e (by omega) al) ?_;refine br ?_ ?_<;>intro g2
    ·have g2:jM (fun a b=>f b a) l.length k e=none:=by
      rw [<- fp];simpa [pickB] using g2
     have hF:=NQ (by unfold oy;rw [g2];simp);refine ⟨jA x,⟨by omega,aK hx⟩,?_⟩;refine ⟨_,?_,rfl⟩;rw [hF];exact ax
    ·have g2:¬ jM (fun a b=>f b a) l.length k e=none:=fun hn=>by
      have h3:=fp.2 hn;simp [pickB] at g2;have h3:=of_decide_eq_true h3;omega
     refine ⟨Su l l.length f e (k + 1),(wkM (wB1 (nxt gC (by omega)))),e - (k + 1),by omega,k + 1,rfl,by omega,fun j hj=>?_,rfl⟩;rcases lh hj with hj | rfl
     ·exact NO j hj
     ·unfold oy;rw [Option.isNone_eq_false_iff.2 (Option.isSome_iff_ne_none.2 g1),Option.isNone_eq_false_iff.2 (Option.isSome_iff_ne_none.2 g2)];rfl
   ·have g1:jM f l.length k e=none:=by
     rw [<- fp];simpa using g1
    have hF:=NQ (by unfold oy;rw [g1];rfl);refine ⟨jA x,⟨by omega,aK hx⟩,?_⟩;refine ⟨_,?_,rfl⟩;rw [hF];exact ax
  ·have aM:k=e:=by have:=nb;simp at this;omega
   subst aM;refine ⟨Ss l l.length f (k + 1),(wkM (wB1 (nxt al (by omega)))),l.length - (k + 1),by omega,k + 1,rfl,by omega,fun j hj=>?_,rfl⟩;rcases lh hj with hj | rfl
   ·exact fH j hj
   ·grind
 ·have aM:e=l.length:=sW dF hL;subst aM;rw [dh fH] at hF;simp only at hF;refine ⟨_,?_,rfl⟩;rw [hF];exact ax
abbrev ovSt (n:Nat) (f:Nat->Nat->Bool) (l:List Nat) (c e:Nat):St:=
 ⟨[aU 0 1 (cu (dj n f)),aU 1 1 (dInts l),ap 2 c,ap 7 e],[],[]⟩
theorem zB (n:Nat) (f:Nat->Nat->Bool) (hn:n<=64) (l:List Nat) (hl:∀ i∈l,i < n) (uj:l.length<=1099511627776) (c:Nat) (hc:c < n) :
  EvP prog 257 [.sl 1 (cu (dj n f)) none,.sl 1 (dInts l) none,.v (.int .i64 c)] (.v (.bool (gA f l c))):=by
 have dF:=ik n f;have Li:=bl l;refine eG 25 [.tmp 6] func257 rfl ntmps257 rfl fun _ _ _ _=>?_;refine lI (fun j st=>∃ e:Nat,st=ovSt n f l c e/\e<=l.length/\gA f l c=gA f (l.drop e) c/\j=l.length - e) ⟨0,rfl,by omega,rfl,rfl⟩ (wkM wB) ?_;rintro j st ⟨e,rfl,he,aG,rfl⟩;rw [aG];refine br ?_ ?_<;>intro hL
 ·have al:e < l.length:=by have:=hL;simp [Li] at this;exact this
  obtain ⟨i,hi⟩:=gX al;have ru:=hl i (mG hi);have aY:gA f (l.drop e) c=(f i c && gA f (l.drop (e + 1)) c):=by unfold gA;rw [drop_cons hi,List.all_cons]
  refine iX (dK hi) ?_;refine iX (dr ru) ?_;refine iX (cz hc) ?_;refine br ?_ ?_<;>intro g
  ·have g:f i c=false:=sU g;rw [aY,g,Bool.false_and];exact (rfl:_=_)
  ·have g:f i c=true:=sU g;rw [g,Bool.true_and] at aY;exact rE ⟨_,by omega,e + 1,rfl,by omega,aY,rfl⟩ (wkM (wB1 (nxt al (by omega))))
 ·have aM:e=l.length:=sW Li hL;rw [aM,List.drop_length];exact (rfl:_=_)
def wj (f:Nat->Nat->Bool) (l:List Nat) (c k:Nat):Bool:=gA f l c && (List.range k).all fun d=>!gA f l d || f c d
theorem Ku (f:Nat->Nat->Bool) (l:List Nat) (c:Nat):wj f l c 0=gA f l c:=by simp [wj]
theorem Kv (f:Nat->Nat->Bool) (l:List Nat) (c k:Nat):wj f l c (k + 1)=(wj f l c k && (!gA f l k || f c k)):=by grind [wj]
abbrev Zt (n:Nat) (f:Nat->Nat->Bool) (l:List Nat) (e:Nat):St:=
 ⟨[aU 0 1 (cu (dj n f)),aU 1 1 (dInts l),ap 5 e],[],[]⟩
abbrev Zu (n:Nat) (f:Nat->Nat->Bool) (l:List Nat) (e:Nat) (x:Bool) (k:Nat):St:=
 ⟨[aU 0 1 (cu (dj n f)),aU 1 1 (dInts l),ap 5 e,Ar 6 x,ap 7 k],[],[]⟩
theorem GB (n:Nat) (f:Nat->Nat->Bool) (hn:n<=64) (l:List Nat) (hl:∀ i∈l,i < n) (uj:l.length<=1099511627776) :
  EvP prog 206 [.sl 1 (cu (dj n f)) none,.sl 1 (dInts l) none] (.v (.int .i64 (oz (ei f n l)))):=by
 have dF:=ik n f;refine eG 40 [.tmp 4] func206 rfl ntmps206 rfl fun _ _ _ _=>?_;refine lI (fun j st=>∃ e:Nat,st=Zt n f l e/\e<=n/\(∀ c,c < e->rP f n l c=false)/\j=n - e) ⟨0,rfl,by omega,fun _ h=>by omega,rfl⟩ (wkM wB) ?_;rintro j st ⟨e,rfl,he,fH,rfl⟩;refine br ?_ ?_<;>intro hL
 ·have al:e < n:=sV dF hL;refine cP RD (zB n f hn l hl uj e al) ?_;refine lJ (fun k=>Zu n f l e (wj f l e k) k) n (wkM (wB1 ((Ku f l e).symm))) ?_;intro k hk;refine br ?_ ?_<;>intro nb
  ·have gC:k < n:=sV dF nb;have Kt:=Kv f l e k;refine cP RD (zB n f hn l hl uj k gC) ?_;refine br ?_ ?_<;>intro g1
   ·refine iX (dr al) ?_;refine iX (cz gC) ?_;refine br ?_ ?_<;>intro g2
    ·have hx:false=wj f l e (k + 1):=by simp [pickB] at g1 g2;rw [Kt];simp [g1,g2]
     exact rE ⟨_,by omega,k + 1,rfl,by omega,rfl⟩ (wkM (wB2 (nxt gC (by omega)) hx))
    ·have hx:wj f l e k=wj f l e (k + 1):=by simp [pickB] at g1 g2;rw [Kt];simp [g1,g2]
     exact rE ⟨_,by omega,k + 1,rfl,by omega,rfl⟩ (wkM (wB2 (nxt gC (by omega)) hx))
   ·have hx:wj f l e k=wj f l e (k + 1):=by simp [pickB] at g1;rw [Kt];simp [g1]
    exact rE ⟨_,by omega,k + 1,rfl,by omega,rfl⟩ (wkM (wB2 (nxt gC (by omega)) hx))
  ·have aM:k=n:=sW dF nb;subst aM;refine br ?_ ?_<;>intro g
   ·have g:rP f k l e=true:=g;rw [ei,cH al g fH];exact (rfl:_=_)
   ·have g:rP f k l e=false:=g;refine ⟨Zt k f l (e + 1),(wkM (wB1 (nxt al (by omega)))),k - (e + 1),by omega,e + 1,rfl,by omega,fun j hj=>?_,rfl⟩;rcases lh hj with hj | rfl
    ·exact fH j hj
    ·exact g
 ·have aM:e=n:=sW dF hL;subst aM;rw [ei,dh fH];exact (rfl:_=_)
abbrev UD (lv:List Wd) (f:Nat->Nat->Bool) (l:List Wd) (q e:Nat):St:=
 ⟨[aU 0 2 (bq lv),aU 1 1 (cu (dj lv.length f)),aU 2 2 (bq l),aw 7 0,(8,⟨[],.sl 1 (dInts (lV (au lv) (l.take e))) (some 0)⟩),ap 9 e],[[.v (.int .i64 0),.v (.int .i64 0)]],[⟨q,3,1,none⟩]⟩
theorem Qw {L:List ByteArray} {l:List Wd} {i:Nat} (h:i∈lV L l) (hL:0 < L.length):i < L.length:=by
 unfold lV at h;obtain ⟨w,_,rfl⟩:=List.mem_map.1 h
 cases hx:cI L w.s with
 | none=>simpa using hL
 | some p=>exact (cQ hx).1
theorem GC {L:List ByteArray} {l:List Wd} {e i:Nat} {w:Wd} (h:l[e]? = some w) (hi:cI L w.s=some i):dInts (lV L (l.take e)) ++ [[DV.v (.int .i64 (oz (some i)))]]=dInts (lV L (l.take (e + 1))):=by
 rw [rR h hi];simp [dInts,oz]
theorem Kw (lv:List Wd) (f:Nat->Nat->Bool) (h0:0 < lv.length) (hn:lv.length<=32) (hs:wdsWt lv<=1099511627776) (l:List Wd) (hl:wdsWt l<=1099511627776) :
  EvP prog 122 [.sl 2 (bq lv) none,.sl 1 (cu (dj lv.length f)) none,.sl 2 (bq l) none] (Kh f (au lv) l):=by
 have mh:=bi l;have gW:=dq lv;unfold Kh AX;refine eG 40 [.tmp 6,.cell 7 44] func122 rfl ntmps122 rfl fun _ _ _ _=>?_;refine lI (fun j st=>∃ e:Nat,st=UD lv f l e e/\e<=l.length/\labW (au lv) l=labW (au lv) (l.drop e)/\j=l.length - e) ⟨0,rfl,by omega,rfl,rfl⟩ (fq ⟨0,3,1,none⟩ rfl ⟨_,rfl⟩ rfl wA rfl rfl jT) ?_;rintro j st ⟨e,rfl,he,aG,rfl⟩;rw [aG];refine br ?_ ?_<;>intro hL
 ·have al:e < l.length:=by simpa [av] using hL
  obtain ⟨w,hw⟩:=gX al;have aY:=rQ (L:=au lv) hw;refine ⟨jA w,⟨by omega,aK hw⟩,?_⟩;refine cP u6 (eZ lv w.s hs) ?_;refine br ?_ ?_<;>intro ha
  ·have ha:=fp.1 ha;rw [aY,aj ha];refine dS ?_;refine ⟨jA w,⟨by omega,aK hw⟩,?_⟩;exact ⟨_,ax,rfl⟩
  ·cases hi:cI (au lv) w.s with
   | none=>have:=fp.2 hi;rw [ha] at this;cases this
   | some i=>
   rw [ai (by rw [hi];simp)] at aY;refine ⟨by simp [bl,lV];omega,⟨by simp [bl,lV,maxLen];omega,by simp [bl,lV];omega⟩,?_⟩;exact rE ⟨_,by omega,e + 1,rfl,by omega,aY,rfl⟩ (wkM (wB2 (nxt al (by omega)) (GC hw hi)))
 ·have aM:e=l.length:=by have:=hL;simp [av] at this;omega
  rw [aM,List.drop_length,List.take_length];refine cP Xj (GB lv.length f (by omega) (lV (au lv) l) (fun i hi=>by have:=Qw hi (by omega);omega) (by simp [lV];omega)) ?_;rw [<- gW];exact ⟨_,ax,rfl⟩
theorem UE {S:Sch} {e:Nat} {x:Wd × Ty} (h:S.types[e]? = some x):(tL S)[e]? = some x.1.s:=by simp [tL,au,tO,h]
abbrev Sv (S:Sch) (s:ByteArray) (e:Nat):St:=
 ⟨[(1,⟨[],.v (.string s)⟩),aw 2 0,ap 5 e],[eu S],[]⟩
theorem kb (S:Sch) (s:ByteArray) (hl:S.types.length<=1099511627776) :
  EvP prog 124 [.agg (eu S),.v (.string s)] (.v (.int .i64 (oz (cI (tL S) s)))):=by
 have hN:=dz S.types;have eN:=jI S;have iS:=@UE S;obtain ⟨ae,order,types,⟨rh,rp⟩⟩:=S;simp only at hl hN eN iS;refine eG 23 [.tmp 4] func124 rfl ntmps124 rfl fun _ _ _ _=>?_;refine lI (fun j st=>∃ e:Nat,st=Sv ⟨ae,order,types,.mk rh rp⟩ s e/\e<=types.length/\(∀ j,j < e->(tL ⟨ae,order,types,.mk rh rp⟩)[j]? ≠ some s)/\j=types.length - e) ⟨0,rfl,by omega,fun _ h=>by omega,rfl⟩ (wkM wB) ?_;rintro j st ⟨e,rfl,he,fH,rfl⟩;refine br ?_ ?_<;>intro hL
 ·have al:e < types.length:=by have:=hL;simp [hN] at this;exact this
  obtain ⟨x,hx⟩:=gX al;have hg:=iS hx;obtain ⟨xw,⟨xh,xp⟩⟩:=x;refine iX (dNms_get hx) ?_;refine br ?_ ?_<;>intro hq
  ·have hq:xw.s=s:=sU hq;rw [AU (p:=e) (by rw [hg,hq]) (fun j hj=>Nat.le_of_not_lt fun hl=>fH j hl hj)];exact (rfl:_=_)
  ·have hq:¬ xw.s=s:=sU hq;refine ⟨Sv ⟨ae,order,types,.mk rh rp⟩ s (e + 1),(wkM (wB1 (nxt al (by omega)))),types.length - (e + 1),by omega,e + 1,rfl,by omega,fun j hj=>?_,rfl⟩;rcases lh hj with hj | rfl
   ·exact fH j hj
   ·rw [hg];simpa using hq
 ·have aM:e=types.length:=sW hN hL;rw [IP (fun j hj=>fH j (by omega))];exact (rfl:_=_)
abbrev Zv (S:Sch) (l:List Wd) (e:Nat):St:=
 ⟨[aU 1 2 (bq l),aw 2 0,aw 4 1,ap 5 e],[eu S,[.v (.int .i64 0),.v (.int .i64 0)]],[]⟩
theorem DJ (S:Sch) (hs:wdsWt S.ae<=1099511627776) (l:List Wd) (hl:wdsWt l<=1099511627776) :
  EvP prog 283 [.agg (eu S),.sl 2 (bq l) none] (labW (au S.ae) l).d:=by
 have mh:=bi l;obtain ⟨ae,order,types,⟨rh,rp⟩⟩:=S;simp only at hs;refine eG 28 [.cell 4 44] func283 rfl ntmps283 rfl fun _ _ _ _=>?_;refine lI (fun j st=>∃ e:Nat,st=Zv ⟨ae,order,types,.mk rh rp⟩ l e/\e<=l.length/\labW (au ae) l=labW (au ae) (l.drop e)/\j=l.length - e) ⟨0,rfl,by omega,rfl,rfl⟩ (wkM wB) ?_;rintro j st ⟨e,rfl,he,aG,rfl⟩;rw [aG];refine br ?_ ?_<;>intro hL
 ·have al:e < l.length:=by simpa [av] using hL
  obtain ⟨w,hw⟩:=gX al;have aY:=rQ (L:=au ae) hw;refine dI ?_;refine ⟨jA w,⟨by omega,aK hw⟩,?_⟩;refine cD u6 (eZ ae w.s hs) ?_;refine br ?_ ?_<;>intro ha
  ·have ha:=fp.1 ha;rw [aY,aj ha];refine ⟨jA w,⟨by omega,aK hw⟩,?_⟩;exact ⟨_,ax,rfl⟩
  ·rw [ai (fun hn=>by have:=fp.2 hn;rw [ha] at this;cases this)] at aY;exact rE ⟨_,by omega,e + 1,rfl,by omega,aY,rfl⟩ (wkM (wB1 (nxt al (by omega))))
 ·have aM:e=l.length:=by have:=hL;simp [av] at this;omega
  rw [aM,List.drop_length];exact ⟨_,ax,rfl⟩
def gG (l:List Ty):List (List DV):=l.map dG
theorem dA (l:List Ty):(gG l).length=l.length:=by simp [gG]
theorem jN {l:List Ty} {j:Nat} {t:Ty} (h:l[j]? = some t):(gG l)[j]? = some (dG t):=by simp [gG,h]
def fA (S:Sch):List Ty:=S.types.map fun x=>x.2
def fB (S:Sch):List Ty:=fA S ++ [S.root]
abbrev Zw (S:Sch) (q e:Nat):St:=
 ⟨[aw 1 0,(3,⟨[],.sl 9 (gG ((fA S).take e)) (some 0)⟩),ap 4 e],[eu S],[⟨q,29,9,none⟩]⟩
theorem DK (S:Sch) (hl:S.types.length<=1099511627776) :
  EvP prog 54 [.agg (eu S)] (.sl 9 (gG (fB S)) none):=by
 have hN:=dz S.types;obtain ⟨ae,order,types,⟨rh,rp⟩⟩:=S;simp only at hl hN;refine eG 26 [.tmp 2] func54 rfl ntmps54 rfl fun _ _ _ _=>?_;refine lJ (fun e=>Zw ⟨ae,order,types,.mk rh rp⟩ e e) types.length (de 1 ⟨0,29,9,none⟩ rfl rfl rfl tH rfl rfl jT) ?_;intro e he;have eN:(gG ((fA ⟨ae,order,types,.mk rh rp⟩).take e)).length=e:=by simp [gG,fA];omega
 refine br ?_ ?_<;>intro hL
 ·have al:e < types.length:=by have:=hL;simp [hN] at this;exact this
  obtain ⟨x,hx⟩:=gX al
  have di:gG ((fA ⟨ae,order,types,.mk rh rp⟩).take e) ++ [dG x.2]=gG ((fA ⟨ae,order,types,.mk rh rp⟩).take (e + 1)):=by
   rw [List.take_add_one];simp [fA,hx,gG]
  obtain ⟨xw,⟨xh,xp⟩⟩:=x;refine iX (dNms_get hx) ?_;refine ⟨eN,⟨by rw [eN];simp [maxLen];omega,by rw [eN];simp;omega⟩,?_⟩;exact rE ⟨_,by omega,e + 1,rfl,by omega,rfl⟩ (wkB 1 (wA2 (nxt al (by omega)) di) (wB2 (nxt al (by omega)) di))
 ·have aM:e=types.length:=sW hN hL;have Pq:gG ((fA ⟨ae,order,types,.mk rh rp⟩).take e) ++ [dG (.mk rh rp)]=gG (fB ⟨ae,order,types,.mk rh rp⟩):=by grind [fA,fB,gG]
  refine ⟨eN,⟨by rw [eN];simp [maxLen];omega,by rw [eN];simp;omega⟩,?_⟩;rw [<- Pq];exact ⟨_,ax,rfl⟩
mutual
def flatT:Ty->List Ty
 | .mk h ps=>if h.ag=9 then [] else .mk h ps :: flatP ps
def flatP:Pts->List Ty
 | .nil=>[]
 | .cons p t r=>(if p.bare then [] else flatT t) ++ flatP r
end
mutual
theorem ji:∀ t:Ty,(flatT t).length=t.nn
 | .mk h ps=>by
  have:=rX ps
  grind [flatT,Ty.nn]
theorem rX:∀ ps:Pts,(flatP ps).length=ps.nn
 | .nil=>rfl
 | .cons p t r=>by
  have:=ji t;have:=rX r
  grind [flatP,Pts.nn]
end
theorem Qx {P:Program} {f:FuncId} {args:List DV} {e:Nat} {es:List (List DV)} (h:Ev P f args [] [] (fun r _ _=>r = .sl e es none∨(es=[]/\r = .v (.slice none 0 0)))):EvP P f args (.sl e es none):=by
 intro E w vs hE ht hv;refine (h E w vs hE ht hv).mono ?_;rintro e' w' ⟨v,rfl,hM,hs,d,os,E',h1,h2,h3,h4,h5,h6⟩;rcases h6 with rfl | ⟨rfl,rfl⟩
 ·exact ⟨v,rfl,hM,hs,_,os,E',h1,h2,h3,h4,h5,rfl⟩
 ·refine ⟨v,rfl,hM,hs,.sl e [] none,os,E',h1,h2,h3,h4,?_,rfl⟩;unfold Rv at h5 ⊢;exact ⟨_,0,0,h5.1,⟨rfl,aJ _⟩,fun hn=>(hn rfl).elim,fun k hk=>by cases hk⟩
abbrev UF (t:Ty) (L:List Ty) (q e:Nat):St:=
 ⟨[aw 1 0,(3,⟨[],.sl 9 (gG L) (some 0)⟩),ap 4 e],[dG t],[⟨q,29,9,none⟩]⟩
theorem nU:∀ (k:Nat) (t:Ty),t.wt<=k->t.wt<=1099511627776 ->
  EvP prog 55 [.agg (dG t)] (.sl 9 (gG (flatT t)) none)
 | 0,t,hn,_=>by have:=t.cT;omega
 | k + 1,.mk h ps,hn,bW=>by
  simp only [Ty.wt,Hd.wt] at hn bW;have iP:=ps.fk;have hc:=ps.dY;have mE:=ps.fT;have LI:=rX ps;refine Qx ?_;refine Ap (s:=false) (bt:=[]) (mu:=[9]) (hbt:=fun p hp=>by cases hp) (fr:=false) (P:=prog) tt om 5000 34 [.tmp 2] func55 rfl ntmps55 rfl (nL rfl) (fun _ _ _ _=>?_);refine br ?_ ?_<;>intro h9
  ·have h9:h.ag=9:=sU h9;have:flatT (.mk h ps)=[]:=by simp [flatT,h9]
   exact .inr ⟨by rw [this];rfl,rfl⟩
  have h9:¬ h.ag=9:=sU h9;have Sw:flatT (.mk h ps) = .mk h ps :: flatP ps:=by simp [flatT,h9]
  refine Uw rfl rfl rfl rfl rfl rfl rfl rfl ?_
  refine aQ (fun j st=>∃ (e q:Nat) (L:List Ty),st=UF (.mk h ps) L q e/\q=L.length/\e<=ps.len/\flatT (.mk h ps)=L ++ flatP (ps.drop e)/\j=ps.len - e) ps.len
   (UF (.mk h ps) [.mk h ps] 1 0) (wkB 1 tH jT) ⟨0,1,_,rfl,rfl,by omega,Sw,by omega⟩ ?_
  rintro j st ⟨e,q,L,rfl,hq,he,aT,rfl⟩
  have Zx:L.length<=1 + ps.nn:=by
   have:=congrArg List.length aT;rw [Sw] at this;simp at this;omega
  refine br ?_ ?_<;>intro hL
  ·have al:e < ps.len:=by simpa [aD] using hL
   obtain ⟨p,t,hx⟩:=Pts.dX al;have CP:=Pts.fM (mG hx);rw [Pts.drop_cons hx] at aT;simp only [flatP] at aT;obtain ⟨u,us⟩:=t;refine iX (bF hx) ?_;refine br ?_ ?_<;>intro hB
   ·have hB:p.bare=false:=sU hB;have aT:flatT (.mk h ps)=(L ++ flatT (.mk u us)) ++ flatP (ps.drop (e + 1)):=by rw [aT,hB,List.append_assoc];all_goals rfl
    have uj:L.length + (flatT (.mk u us)).length<=1 + ps.nn:=by
     have:=congrArg List.length aT;rw [Sw] at this;simp at this;omega
    have di:gG L ++ gG (flatT (.mk u us))=gG (L ++ flatT (.mk u us)):=by simp [gG]
    refine iX (bF hx) ?_;refine cP PK (nU k (.mk u us) (by omega) (by omega)) ?_;refine ⟨by rw [dA,hq],⟨by simp only [dA,maxLen];omega,by simp only [dA];omega⟩,?_⟩;exact ⟨UF (.mk h ps) (L ++ flatT (.mk u us)) (q + (gG (flatT (.mk u us))).length) (e + 1),(wkB 1 (wA2 (nxt al (by omega)) di) (wB2 (nxt al (by omega)) di)),ps.len - (e + 1),by omega,e + 1,_,_,rfl,by rw [dA,List.length_append,hq],by omega,aT,rfl⟩
   ·have hB:p.bare=true:=sU hB;rw [hB] at aT;exact rE ⟨_,by omega,e + 1,q,L,rfl,hq,by omega,aT,rfl⟩ (wkB 1 (yL (nxt al (by omega))) (wB1 (nxt al (by omega))))
  ·have aM:e=ps.len:=by simp [aD] at hL;omega
   rw [aM,Pts.cV] at aT;simp only [flatP,List.append_nil] at aT;rw [aT];exact ⟨_,ax,.inl rfl⟩
theorem wm (S:Sch) (hl:S.types.length<=1099511627776) (hr:∀ x∈S.types,tP S x.2=true):∀ (k i:Nat),i < S.types.length->k<=99 ->
  EvP prog 123 [.agg (eu S),.v (.int .i64 i),.v (.int .i64 k)] (.v (.int .i64 (oz (endI S (k + 1) i))))
 | k,i,hi,hk=>by
  have hN:=dz S.types;have AV:=fun s=>kb S s hl;have ih:∀ k' j,k=k' + 1->j < S.types.length->EvP prog 123 [.agg (eu S),.v (.int .i64 j),.v (.int .i64 k')] (.v (.int .i64 (oz (endI S (k' + 1) j)))):=fun k' j he hj=>wm S hl hr k' j hj (by omega);obtain ⟨x,hx⟩:∃ x,S.types[i]? = some x:=⟨_,gE hi⟩;have mA:=hr x (mG hx);have eN:=jI S;obtain ⟨xw,⟨xh,xp⟩⟩:=x;have hE:endI S (k + 1) i=if xh.ag=9 then endI S k ((cI (tL S) xh.name.s).getD 0) else some i:=by rw [endI,hx];all_goals rfl
  obtain ⟨ae,order,types,⟨rh,rp⟩⟩:=S;simp only at hl hN hi hx mA eN;refine eG 32 [.tmp 6] func123 rfl ntmps123 rfl fun _ _ _ _=>?_;refine iX (dNms_get hx) ?_;refine br ?_ ?_<;>intro h9
  ·have h9:¬ xh.ag=9:=sU h9;rw [ai h9] at hE;rw [hE];exact (rfl:_=_)
  have h9:xh.ag=9:=sU h9;rw [aj h9] at hE;rw [hE];refine br ?_ ?_<;>intro h1
  ·have h1:k=0:=by have:=h1;simp at this;omega
   subst h1;exact (rfl:_=_)
  have h1:1<=k:=by have:=h1;simp at this;omega
  obtain ⟨k',rfl⟩:∃ k',k=k' + 1:=⟨k - 1,by omega⟩;have O2:=of_decide_eq_true mA h9;obtain ⟨j,hj⟩:∃ j,cI (tL ⟨ae,order,types,.mk rh rp⟩) xh.name.s=some j:=Option.ne_none_iff_exists'.1 O2;have n8:=(cQ hj).1;rw [eN] at n8;have hf:=AV xh.name.s;rw [hj] at hf ⊢;have gB:IntKind.i64.wrap (((k' + 1:Nat):Int) - 1)=(k':Int):=by rw [wrap64 (by omega) (by omega)];omega
  refine dI ?_;refine iX (dNms_get hx) ?_;refine cD H6 hf ?_;refine cD L9 (ih k' j rfl n8) ?_ (ra gB);exact (rfl:_=_)
theorem rY {S:Sch}:∀ {k i j:Nat},endI S k i=some j->endI S (k + 1) i=some j
 | 0,i,j,h=>by cases h
 | k + 1,i,j,h=>by
  rw [endI] at h ⊢
  cases hx:S.types[i]? with
  | none=>rw [hx] at h;cases h
  | some x=>
   rw [hx] at h;simp only at h ⊢;split at h
   ·rename_i h9;rw [aj h9];exact rY h
   ·rename_i h9;rw [ai h9];exact h
def ye (S:Sch) (k:Nat):List Bool:=(List.range S.types.length).map fun i=>(endI S k i).isSome
theorem ql (S:Sch) (k:Nat):(ye S k).length=S.types.length:=by simp [ye]
theorem wo {S:Sch} {k i:Nat} (hi:i < S.types.length):(ye S k).getD i false=(endI S k i).isSome:=by grind [ye]
theorem Qy (S:Sch) (k:Nat):PY (ye S k) (ye S (k + 1)):=by
 intro i h;by_cases hi:i < S.types.length
 ·rw [wo hi] at h ⊢;obtain ⟨j,hj⟩:=Option.isSome_iff_exists.1 h;rw [rY hj];rfl
 ·grind [ql]
theorem NR {S:Sch} {k:Nat} (h:ye S k=ye S (k + 1)):∀ i,endI S (k + 2) i=endI S (k + 1) i:=by
 intro i
 have key:∀ {j:Nat},j < S.types.length->(endI S k j).isSome=(endI S (k + 1) j).isSome:=fun {j} hj=>by
  rw [<- wo hj,<- wo hj,h]
 have same:∀ j,endI S (k + 1) j=endI S k j:=fun j=>by
  cases h1:endI S k j with
  | some m=>exact rY h1
  | none=>
   cases h2:endI S (k + 1) j with
   | none=>rfl
   | some m=>grind [endI]
 grind [endI]
theorem zC (S:Sch):∀ k,(∀ i,endI S (k + 1) i=endI S k i)∨k<=vI (ye S k)
 | 0=>.inr (Nat.zero_le _)
 | k + 1=>by
  rcases zC S k with h | h
  ·grind [endI]
  ·rcases (vJ (by rw [ql,ql]) (Qy S k)).1 with h2 | h2
   ·exact .inl (NR h2)
   ·exact .inr (by omega)
theorem DL {S:Sch}:∀ {k:Nat},S.types.length + 1<=k->∀ i,endI S k i=endI S (S.types.length + 1) i:=by
 have aY:∀ i,endI S (S.types.length + 2) i=endI S (S.types.length + 1) i:=fun i=>by
  rcases zC S (S.types.length + 1) with h | h
  ·exact h i
  ·grind [Iz,ye,ql]
 have key:∀ d i,endI S (S.types.length + 1 + (d + 1)) i=endI S (S.types.length + 1 + d) i:=by
  intro d
  induction d with
  | zero=>exact aY
  | succ d ih=>grind [endI]
 intro k hk i;obtain ⟨d,rfl⟩:∃ d,k=S.types.length + 1 + d:=⟨k - (S.types.length + 1),by omega⟩;clear hk
 induction d with
 | zero=>rfl
 | succ d ih=>rw [key,ih]
theorem wu (S:Sch) (hl:S.types.length<=64) (hr:∀ x∈S.types,tP S x.2=true) (i:Nat) (hi:i < S.types.length) :
  EvP prog 123 [.agg (eu S),.v (.int .i64 i),.v (.int .i64 (99:Nat))] (.v (.int .i64 (oz (endI S (S.types.length + 1) i)))):=by
 have:=wm S (by omega) hr 99 i hi (aJ _)
 rwa [DL (by omega)] at this
abbrev Zy (S:Sch) (k n e:Nat):St:=
 ⟨[aw 2 0,ap 5 k,ap 6 n,ap 7 e],[eu S],[]⟩
theorem wv (S:Sch) (hl:S.types.length<=64) (hs:nmsWt S.types<=1099511627776) (hr:∀ x∈S.types,tP S x.2=true) (s:ByteArray) (i k:Nat) (hi:cI (tL S) s=some i) (hk:endI S (S.types.length + 1) i=some k) :
  EvP prog 57 [.agg (eu S),.v (.string s)] (.v (.int .i64 (firstA S k))):=by
 have hN:=dz S.types;have Li:=(cQ hi).1;rw [jI] at Li;have iT:=(qg hk).1;have hf:=kb S s (by omega);have he:=wu S hl hr i Li;rw [hi] at hf;rw [hk] at he;have hfa:=@nf S;have IF:=zq S;obtain ⟨ae,order,types,⟨rh,rp⟩⟩:=S;simp only at hl hs hN Li iT hfa IF;refine eG 29 [.tmp 4] func57 rfl ntmps57 rfl fun _ _ _ _=>?_;refine dI ?_;refine cD H6 hf ?_;refine cD L9 he ?_;refine lJ (fun e=>Zy ⟨ae,order,types,.mk rh rp⟩ k (firstA ⟨ae,order,types,.mk rh rp⟩ e) e) k (wkM wB) ?_;intro e hek;refine br ?_ ?_<;>intro hL
 ·have al:e < k:=sU hL;obtain ⟨x,hx⟩:∃ x,types[e]? = some x:=⟨_,gE (by omega)⟩;have ub:=fZ (mG hx);have h1:=hfa hx;have h2:=IF e;have h3:=IF (e + 1);have h4:=ji x.2;obtain ⟨xw,⟨xh,xp⟩⟩:=x;simp only at ub h1 h4;refine iX (dNms_get hx) ?_;refine cP PK (nU _ (.mk xh xp) (aJ _) (by omega)) ?_;have sE:IntKind.i64.wrap ((firstA ⟨ae,order,types,.mk rh rp⟩ e:Int) + (gG (flatT (.mk xh xp))).length)=(firstA ⟨ae,order,types,.mk rh rp⟩ (e + 1):Int):=by grind [dA,wrap64]
  exact rE ⟨_,by omega,e + 1,rfl,by omega,rfl⟩ (wkM (wB2 sE (nxt al (by omega))))
 ·have aM:e=k:=by have:=hL;simp at this;omega
  subst aM;exact (rfl:_=_)
theorem IV {S:Sch} {e:Nat} {x:Wd × Ty} (h:S.types[e]? = some x):(tO S)[e]? = some x.1:=by simp [tO,h]
abbrev Zz (S:Sch) (e:Nat):St:=
 ⟨[aw 1 0,aw 2 1,ap 3 e],[eu S,[.v (.int .i64 0),.v (.int .i64 0)]],[]⟩
theorem A7 (S:Sch) (hs:nmsWt S.types<=1099511627776) :
  EvP prog 241 [.agg (eu S)] (ej S).d:=by
 have hN:=dz S.types;have gW:=jf S.types;have eN:=II S;have hF:=ej.eq_1 S;have iS:=@IV S;have AV:=fun s=>kb S s (by omega);have YP:tL S=au (tO S):=rfl;obtain ⟨ae,order,types,⟨rh,rp⟩⟩:=S;simp only at hs hN gW eN iS hF;generalize hQ:tO ⟨ae,order,types,.mk rh rp⟩=Q at eN hF iS YP;refine eG 47 [.cell 2 44] func241 rfl ntmps241 rfl fun _ _ _ _=>?_;generalize ej ⟨ae,order,types,.mk rh rp⟩=F at hF ⊢;refine br ?_ ?_<;>intro h
 ·have h:64 < types.length:=by simp [hN] at h;omega
  obtain ⟨x,hx⟩:∃ x,types[64]? = some x:=⟨_,gE h⟩;have Uq:=iS hx;rw [aj h,j9 Uq] at hF;obtain ⟨xw,⟨xh,xp⟩⟩:=x;refine iX (dNms_get hx) ?_;refine ⟨_,?_,rfl⟩;rw [hF];exact ax
 have h:¬ 64 < types.length:=by simp [hN] at h;omega
 rw [ai h] at hF;refine lI (fun j st=>∃ e:Nat,st=Zz ⟨ae,order,types,.mk rh rp⟩ e/\e<=types.length/\enumL Q 0 Q=enumL Q e (Q.drop e)/\j=types.length - e) ⟨0,rfl,by omega,rfl,rfl⟩ (wkM wB) ?_;rintro j st ⟨e,rfl,he,aG,rfl⟩;rw [aG] at hF;refine br ?_ ?_<;>intro hL
 ·have al:e < types.length:=by have:=hL;simp [hN] at this;exact this
  obtain ⟨x,hx⟩:=gX al;have ub:=fZ (mG hx);have hq:=iS hx;have aY:=oS hq;obtain ⟨p,hp,EV⟩:=NP hq;obtain ⟨xw,⟨xh,xp⟩⟩:=x;simp only [Wd.wt] at ub hq aY hp EV;have hf:=AV xw.s;rw [YP,hp] at hf;have hlab:=lH [xw] (by simp only [wdsWt,Wd.wt];omega);have ue:bA [xw]=if bc xw.s then (0,0) else (9,xw.a):=by simp [bA,badWd]
  refine iX (dNms_get hx) ?_;refine cP Mj hlab ?_;refine br ?_ ?_<;>intro hN
  ·have hN:(bA [xw]).1≠0:=sU hN
   cases bu:bc xw.s with
   | true=>rw [ue,bu] at hN;exact absurd rfl hN
   | false=>
   rw [bu] at ue;have ue:bA [xw]=(9,xw.a):=ue;have hf9:aA Q e xw=9:=by simp [aA,bu]
   rw [aY,hf9,aj (by decide)] at hF;refine ⟨_,?_,rfl⟩;rw [hF,ue];exact ax
  ·have hN:(bA [xw]).1=0:=sU hN
   cases bu:bc xw.s with
   | false=>rw [ue,bu] at hN;exact absurd hN (by simp)
   | true=>
   refine cP H6 hf ?_;refine br ?_ ?_<;>intro h2
   ·have h2:p < e:=by have:=h2;simp [oz] at this;exact this
    have hf10:aA Q e xw=10:=by simp [aA,bu,EV.1 h2]
    rw [aY,hf10,aj (by decide)] at hF;refine ⟨_,?_,rfl⟩;rw [hF];exact ax
   ·have h2:¬ p < e:=by have:=h2;simp [oz] at this;omega
    have hd:cp (Q.take e) xw.s=false:=by grind
    have hf0:aA Q e xw=0:=by simp [aA,bu,hd]
    rw [hf0,ai (by simp)] at aY;exact rE ⟨_,by omega,e + 1,rfl,by omega,by rw [aG,aY],rfl⟩ (wkM (wB1 (nxt al (by omega))))
 ·have aM:e=types.length:=sW hN hL;rw [aM,<- eN,List.drop_length] at hF;refine ⟨_,?_,rfl⟩;rw [hF];exact ax
abbrev IW (S:Sch) (t:Ty) (e:Nat):St:=
 ⟨[aw 2 0,aw 3 1,aw 4 2,ap 5 e],[eu S,dG t,[.v (.int .i64 0),.v (.int .i64 0)]],[]⟩
theorem qm (S:Sch) (hl:S.types.length<=1099511627776) (hs:wdsWt S.ae<=1099511627776):∀ (k:Nat) (t:Ty),t.wt<=k->t.wt<=1099511627776 ->
  EvP prog 243 [.agg (eu S),.agg (dG t)] (lg S t).d
 | 0,t,hn,_=>by have:=t.cT;omega
 | k + 1,.mk h ps,hn,bW=>by
  have ih:=qm S hl hs k;simp only [Ty.wt,Hd.wt] at hn bW;have iP:=ps.fk;have hf:=kb S h.name.s hl;have UG:=fun l hl=>DJ S hs l hl;have hS:lg S (.mk h ps)=if h.ag=9/\cI (tL S) h.name.s=none then (15,h.name.a) else knP ⟨au S.ae,[],[],[],fun _ _=>false⟩ (tL S) ps:=by rw [lg,knT]
  have YN:knP ⟨au S.ae,[],[],[],fun _ _=>false⟩ (tL S) ps=knP ⟨au S.ae,[],[],[],fun _ _=>false⟩ (tL S) (ps.drop 0):=by rw [Pts.drop]
  have hK:∀ e p u,ps.toList[e]? = some (p,u)->knP ⟨au S.ae,[],[],[],fun _ _=>false⟩ (tL S) (ps.drop e)=if (labW (au S.ae) p.label).1≠0 then labW (au S.ae) p.label else if (labW (au S.ae) p.cl).1≠0 then labW (au S.ae) p.cl else if p.bare then knP ⟨au S.ae,[],[],[],fun _ _=>false⟩ (tL S) (ps.drop (e + 1)) else if (lg S u).1≠0 then lg S u else knP ⟨au S.ae,[],[],[],fun _ _=>false⟩ (tL S) (ps.drop (e + 1)):=fun e p u hx=>by
   rw [Pts.drop_cons hx,knP];all_goals rfl
  have hK0:knP ⟨au S.ae,[],[],[],fun _ _=>false⟩ (tL S) .nil=(0,0):=by rw [knP]
  generalize knP ⟨au S.ae,[],[],[],fun _ _=>false⟩ (tL S)=KP at hS YN hK hK0;obtain ⟨ae,order,types,⟨rh,rp⟩⟩:=S;refine eG 64 [.cell 4 44] func243 rfl ntmps243 rfl fun _ _ _ _=>?_;generalize lg ⟨ae,order,types,.mk rh rp⟩ (.mk h ps)=F at hS ⊢;refine have body:=?_;br (fun h9=>call_p H6 hf ax rfl (br (fun hx=>?_) (fun hx=>aQ (fun j st=>∃ e:Nat,st=IW ⟨ae,order,types,.mk rh rp⟩ (.mk h ps) e/\e<=ps.len/\F=KP (ps.drop e)/\j=ps.len - e) ps.len (IW ⟨ae,order,types,.mk rh rp⟩ (.mk h ps) 0) (wkM wB) ⟨0,rfl,by omega,?_,by omega⟩ body))) (fun h9=>aQ (fun j st=>∃ e:Nat,st=IW ⟨ae,order,types,.mk rh rp⟩ (.mk h ps) e/\e<=ps.len/\F=KP (ps.drop e)/\j=ps.len - e) ps.len (IW ⟨ae,order,types,.mk rh rp⟩ (.mk h ps) 0) (wkM wB) ⟨0,rfl,by omega,?_,by omega⟩ body)
  rotate_left
  ·have h9:h.ag=9:=sU h9;have hx:cI (tL ⟨ae,order,types,.mk rh rp⟩) h.name.s=none:=fp.1 (by simpa [pickB] using hx);rw [aj ⟨h9,hx⟩] at hS;refine ⟨_,?_,rfl⟩;rw [hS];exact ax
  ·have hx:¬ cI (tL ⟨ae,order,types,.mk rh rp⟩) h.name.s=none:=fun hn=>by
    have h3:=fp.2 hn;simp [pickB] at hx;have h3:=of_decide_eq_true h3;omega
   rw [ai (fun hc=>hx hc.2),YN] at hS;exact hS
  ·grind
  rintro j st ⟨e,rfl,he,aG,rfl⟩;refine br ?_ ?_<;>intro hL
  ·have al:e < ps.len:=by simpa [aD] using hL
   obtain ⟨p,t,hx⟩:=Pts.dX al;have CP:=Pts.fM (mG hx);have hk:=hK e p t hx;have hw1:wdsWt p.label + wdsWt p.cl<=p.wt:=by simp only [Ph.wt];omega
   obtain ⟨u,us⟩:=t;refine iX (bF hx) ?_;refine cP RJ (UG p.label (by omega)) ?_;refine br ?_ ?_<;>intro b1
   ·have b1:(labW (au ae) p.label).1=0:=sU b1;rw [ai (by simp [b1])] at hk;refine cP RJ (UG p.cl (by omega)) ?_;refine br ?_ ?_<;>intro b2
    ·have b2:(labW (au ae) p.cl).1=0/\p.bare=false:=by
      rw [pickB_and] at b2;simpa using b2
     obtain ⟨b2,b3⟩:=b2;rw [ai (by simp [b2]),ai (by simp [b3])] at hk;refine cP Mi (ih (.mk u us) (by omega) (by omega)) ?_;refine br ?_ ?_<;>intro b4
     ·have b4:(lg ⟨ae,order,types,.mk rh rp⟩ (.mk u us)).1≠0:=sU b4;rw [aj b4] at hk
      (refine ⟨_,?_,rfl⟩;rw [aG,hk];exact ax)
     ·have b4:(lg ⟨ae,order,types,.mk rh rp⟩ (.mk u us)).1=0:=sU b4;rw [ai (by simp [b4])] at hk;exact rE ⟨_,by omega,e + 1,rfl,by omega,by rw [aG,hk],rfl⟩ (wkM (wB1 (nxt al (by omega))))
    ·refine br ?_ ?_<;>intro b4
     ·have b4:(labW (au ae) p.cl).1≠0:=sU b4;rw [aj b4] at hk
      (refine ⟨_,?_,rfl⟩;rw [aG,hk];exact ax)
     ·have b4:(labW (au ae) p.cl).1=0:=sU b4
      have b3:p.bare=true:=by
       rw [pickB_and] at b2;simpa [b4] using b2
      rw [ai (by simp [b4]),aj b3] at hk;exact rE ⟨_,by omega,e + 1,rfl,by omega,by rw [aG,hk],rfl⟩ (wkM (wB1 (nxt al (by omega))))
   ·have b1:¬ (labW (au ae) p.label).1=0:=sU b1;rw [aj b1] at hk;refine br ?_ ?_<;>intro b2
    ·rw [pickB_and] at b2;simp [b1] at b2
    ·refine br ?_ ?_<;>intro b4
     ·(refine ⟨_,?_,rfl⟩;rw [aG,hk];exact ax)
     ·simp [b1] at b4
  ·have aM:e=ps.len:=by simp [aD] at hL;omega
   rw [aM,Pts.cV] at aG;refine ⟨_,?_,rfl⟩;rw [aG,hK0];exact ax
abbrev IX (h:Hd) (ps:Pts) (e:Nat) (depth m:Int):St:=
 ⟨[ap 2 depth,aw 3 0,aw 4 1,aw 6 2,ap 7 e],[[.v (.int .i64 0),.v (.int .i64 0),.v (.int .i64 m)],dG (.mk h ps),[.v (.int .i64 0),.v (.int .i64 0),.v (.int .i64 0)]],[]⟩
theorem A8 (k:Nat) (ih:AG k) (h:Hd) (ps:Pts) (depth m:Int) (hk:ps.wt<=k) (bW:(Ty.mk h ps).wt<=1099511627776) (yX:0<=depth) (EY:depth<=25) (mz:0<=m) (iE:m<=512) :
  EvP prog 242 [wD (0,0) m,.agg (dG (.mk h ps)),.v (.int .i64 depth)] (wD (wrong (.mk h ps) depth m).1 (wrong (.mk h ps) depth m).2):=by
 have zo:=bW;simp only [Ty.wt,Hd.wt] at zo;have iP:=ps.fk;have TY:=bi h.af;have qP:IntKind.i64.wrap (m + 1)=m + 1:=wrap64 (by omega) (by omega)
 have hW:∀ e a,EvP prog 278 [.agg [.v (.int .i64 0),.v (.int .i64 0),.v (.int .i64 (IntKind.i64.wrap (m + 1)))],.v (.int .i64 e),.v (.int .i64 a)] (wD (e,a) (m + 1)):=by
  intro e a;rw [qP];exact dR (0,0) (m + 1) e a
 have hS:=wrong.eq_def (.mk h ps) depth m;simp only at hS;refine eG 201 [.cell 6 335] func242 rfl ntmps242 rfl fun _ _ _ _=>?_;refine br ?_ ?_<;>intro c
 ·have c:24 < depth:=of_decide_eq_true c;refine cP fX (hW 6 h.at') ?_;rw [aj c] at hS;refine ⟨_,?_,rfl⟩;rw [hS];exact ax
 have c:¬ 24 < depth:=of_decide_eq_false c;rw [ai c] at hS;refine br ?_ ?_<;>intro c
 ·have c:512 < IntKind.i64.wrap (m + 1):=of_decide_eq_true c;rw [qP] at c;refine cP fX (hW 8 h.at') ?_;rw [aj c] at hS;refine ⟨_,?_,rfl⟩;rw [hS];exact ax
 have c:¬ 512 < IntKind.i64.wrap (m + 1):=of_decide_eq_false c;rw [qP] at c;rw [ai c] at hS;refine br ?_ ?_<;>intro c
 ·have c:h.ag < 1∨9 < h.ag:=by simpa [ak] using c
  refine cP fX (hW 14 h.at') ?_;rw [aj c] at hS;refine ⟨_,?_,rfl⟩;rw [hS];exact ax
 have c:¬ (h.ag < 1∨9 < h.ag):=by simp [ak] at c;omega
 rw [ai c] at hS;refine cP XA (FH (.mk h ps) (by omega)) ?_;refine br ?_ ?_<;>intro c
 ·have c:vi (.mk h ps)=false:=by simpa [vi] using c
  refine cP fX (hW 19 h.at') ?_;rw [aj c] at hS;refine ⟨_,?_,rfl⟩;rw [hS];exact ax
 have c:¬ vi (.mk h ps)=false:=by simpa [vi] using c
 rw [ai c] at hS;refine br ?_ ?_<;>intro c
 ·have c:(h.ag=2/\h.hi < h.lo)∨(h.ag=3/\(h.most < 0∨4096 < h.most)):=by simp [ak,pickB_and] at c;omega
  refine cP fX (hW 20 h.at') ?_;rw [aj c] at hS;refine ⟨_,?_,rfl⟩;rw [hS];exact ax
 have c:¬ ((h.ag=2/\h.hi < h.lo)∨(h.ag=3/\(h.most < 0∨4096 < h.most))):=by simp [ak,pickB_and] at c;omega
 rw [ai c] at hS;refine br ?_ ?_<;>intro k9
 ·have k9:h.ag=9:=sU k9;refine cP H7 (j4 h.name.s (by simp only [Wd.wt] at zo;omega)) ?_;refine br ?_ ?_<;>intro q
  ·have q:bc h.name.s=false:=by simpa [pickB_and,k9] using q
   refine cP fX (hW 9 h.name.a) ?_;rw [aj ⟨k9,q⟩] at hS;refine ⟨_,?_,rfl⟩;rw [hS];exact ax
  ·have q:bc h.name.s=true:=by simpa [pickB_and,k9] using q
   rw [ai (by simp [q]),ai (by omega),ai (by omega),ai (by omega)] at hS;refine br (fun x=>?_) (fun _=>?_)
   ·have:=of_decide_eq_true x;omega
   refine br (fun x=>?_) (fun _=>?_)
   ·simp [ak] at x;omega
   refine br (fun x=>?_) (fun _=>?_)
   ·simp [ak] at x;omega
   refine ⟨_,?_,rfl⟩;rw [hS];exact (ra qP)
 ·have k9:¬ h.ag=9:=sU k9;rw [ai (by simp [k9])] at hS;refine br ?_ ?_<;>intro k4
  ·have k4:h.ag=4:=of_decide_eq_true k4;rw [aj k4] at hS;refine br ?_ ?_<;>intro c
   ·have c:h.af=[]:=by simp [av] at c;exact c
    refine cP fX (hW 15 h.at') ?_;refine ⟨_,?_,rfl⟩;rw [hS];simp only [hZ,aj c];exact ax
   have c:¬ h.af=[]:=by simp [av] at c;exact c
   refine br ?_ ?_<;>intro c2
   ·have al:64 < h.af.length:=by simp [av] at c2;omega
    obtain ⟨x,hx⟩:=gX al;refine dS ?_;refine ⟨jA x,⟨by omega,aK hx⟩,?_⟩;refine cD fX (hW 8 x.a) ?_;refine ⟨_,?_,rfl⟩;rw [hS];simp only [hZ,ai c,aj al,hx,Option.getD_some];exact ax
   have c2:¬ 64 < h.af.length:=by simp [av] at c2;omega
   have hE:hZ h=enumL h.af 0 h.af:=by simp only [hZ,ai c,ai c2]
   rw [hE] at hS
   refine aQ (fun j st=>∃ (e:Nat),st=IX h ps e depth (m + 1)/\e<=h.af.length/\enumL h.af 0 h.af=enumL h.af e (h.af.drop e)/\j=h.af.length - e) h.af.length
    (IX h ps 0 depth (m + 1)) (wkB 3 (yL qP) (wB1 qP)) ⟨0,rfl,by omega,rfl,by omega⟩ ?_
   rintro j st ⟨e,rfl,he,aG,rfl⟩;refine br ?_ ?_<;>intro hL
   ·have al:e < h.af.length:=by simpa [av] using hL
    obtain ⟨x,hx⟩:=gX al;rw [drop_cons hx] at aG;simp only [enumL] at aG;refine cP RI (ou h.af e x (by omega) hx) ?_;refine br ?_ ?_<;>intro hl
    ·have hl:aA h.af e x≠0:=sU hl;rw [aj hl] at aG;refine dS ?_;refine ⟨jA x,⟨by omega,aK hx⟩,?_⟩;refine cD fX (dR (0,0) (m + 1) _ x.a) ?_;refine ⟨_,?_,rfl⟩;rw [hS,aG];exact ax
    ·have hl:aA h.af e x=0:=sU hl;rw [ai (by simp [hl])] at aG;exact rE ⟨_,by omega,e + 1,rfl,by omega,aG,rfl⟩ (wkM (wB1 (nxt al (by omega))))
   ·have aM:e=h.af.length:=by simp [av] at hL;omega
    rw [aM,List.drop_length] at aG;simp only [enumL] at aG;rw [aG] at hS;refine br (fun x=>?_) (fun _=>?_)
    ·simp [ak] at x;omega
    refine br (fun x=>?_) (fun _=>?_)
    ·simp [ak] at x;omega
    refine ⟨_,?_,rfl⟩;rw [hS];exact ax
  ·have k4:¬ h.ag=4:=of_decide_eq_false k4;rw [ai k4] at hS;refine br ?_ ?_<;>intro k5
   ·have k5:h.ag=5∨h.ag=6:=by simpa [ak] using k5
    rw [aj k5] at hS
    cases ps with
    | nil=>
     refine cP fX (hW 19 h.at') ?_;refine ⟨_,?_,rfl⟩;rw [hS];simp only [wrongOne];exact ax
    | cons p t r=>
     cases r with
     | cons p2 t2 r2=>
      refine cP fX (hW 19 h.at') ?_;refine ⟨_,?_,rfl⟩;rw [hS];simp only [wrongOne];exact ax
     | nil=>
      obtain ⟨u,us⟩:=t;simp only [wrongOne] at hS;simp only [Ty.wt,Pts.wt] at zo hk;refine ⟨_,⟨by omega,rfl⟩,?_⟩;refine br ?_ ?_<;>intro c
      ·have c:p.name.s=emptyB:=by
        have:=c;simp [ak] at this;exact this
       refine ⟨_,⟨by omega,rfl⟩,?_⟩;refine cP Mk (lG p eS (dG (.mk u us)) (dG cr) (by omega) (y4 _ _ _ _ _) (y4 _ _ _ _ _)) ?_;refine br ?_ ?_<;>intro q
       ·have q:ch p eS=false:=by simpa [ak,c] using q
        refine cP fX (hW 19 h.at') ?_;rw [aj (by simp [q])] at hS;refine ⟨_,?_,rfl⟩;rw [hS];exact ax
       ·have q:ch p eS=true:=by simpa [ak,c] using q
        rw [ai (by simp [q,c])] at hS;refine br ?_ ?_<;>intro x
        ·have x:h.most < 0∨1024 < h.most:=by simpa [ak] using x
         refine cP fX (hW 20 h.at') ?_;rw [aj x] at hS;refine ⟨_,?_,rfl⟩;rw [hS];exact ax
        ·have x:¬ (h.most < 0∨1024 < h.most):=by simp [ak] at x;omega
         rw [ai x] at hS;refine dS ?_;refine ⟨_,⟨by omega,rfl⟩,?_⟩;refine cD Mh (ih (.mk u us) (depth + 1) (m + 1) (by simp only [Ty.wt];omega) (by simp only [Ty.wt];omega) (by omega) (by omega) (by omega) (by omega)) ?_ (by repeat' (first | exact rfl | exact trivial | exact Or.inr (Or.inl ⟨_,rfl⟩) | exact Or.inr ⟨_,rfl⟩ | exact Or.inl ⟨rfl,rfl⟩ | exact Or.inl rfl | refine Or.inr ⟨_,_,rfl,Nat.zero_le _,rfl,?_⟩ | refine ⟨_,_,rfl,?_,?_⟩ | refine ⟨_,rfl,?_⟩ | exact congrArg (fun z=>DV.v (.int .i64 z)) qP | exact congrArg (fun z=>DV.v (.int .i64 z)) (wrap64 (by omega) (by omega))| refine Or.inr (Or.inr (Or.inr ⟨_,_,rfl,?_⟩)) | exact Or.inl rfl | refine Or.inr ?_));refine ⟨_,?_,rfl⟩;rw [hS];exact ax
      ·have c:p.name.s≠emptyB:=by
        have:=c;simp [ak] at this;exact this
       refine cP fX (hW 19 h.at') ?_;rw [aj (.inl c)] at hS;refine ⟨_,?_,rfl⟩;rw [hS];exact ax
   ·have k5:¬ (h.ag=5∨h.ag=6):=by simp [ak] at k5;omega
    rw [ai k5] at hS;refine br ?_ ?_<;>intro k7
    ·have k7:h.ag=7∨h.ag=8:=by simpa [ak] using k7
     rw [aj k7] at hS;have hP:wrong (.mk h ps) depth m=eD h ps depth (m + 1):=by rw [hS];all_goals rfl
     refine cP XB (AH k ih h ps depth (m + 1) hk bW yX (by omega) (by omega) (by omega)) ?_ (ra qP);refine ⟨_,?_,rfl⟩;rw [hP];exact ax
    ·have k7:¬ (h.ag=7∨h.ag=8):=by simp [ak] at k7;omega
     rw [ai k7] at hS;refine ⟨_,?_,rfl⟩;rw [hS];exact (ra qP)
theorem zD:∀ k,AG k
 | 0=>fun t depth m hk=>by have:=t.cT;omega
 | k + 1=>fun t depth m hk bW yX EY mz iE=>by
  obtain ⟨h,ps⟩:=t;have gB:=hk;simp only [Ty.wt,Hd.wt] at gB;exact A8 k (zD k) h ps depth m (by omega) bW yX EY mz iE
theorem A9 (t:Ty) (depth m:Int) (bW:t.wt<=1099511627776) (yX:0<=depth) (EY:depth<=25) (mz:0<=m) (iE:m<=512) :
  EvP prog 242 [wD (0,0) m,.agg (dG t),.v (.int .i64 depth)] (wD (wrong t depth m).1 (wrong t depth m).2):=
 zD t.wt t depth m (aJ _) bW yX EY mz iE
def eaA:List Ty->Int->Ft × Int
 | [],m=>((0,0),m)
 | t :: r,m=>if (bK t m).1.1≠0 then bK t m else eaA r (bK t m).2
theorem NS (z:Ty):∀ (l:List (Wd × Ty)) (m:Int),((eaA (l.map (fun x=>x.2) ++ [z]) m).1.1=0↔(eaR z l m).1.1=0)/\((eaR z l m).1.1≠0->eaA (l.map (fun x=>x.2) ++ [z]) m=eaR z l m)
 | [],m=>by
  show ((eaA [z] m).1.1=0↔(bK z m).1.1=0)/\((bK z m).1.1≠0->eaA [z] m=bK z m)
  grind [eaA,bK]
 | x :: r,m=>by
  have ih:=NS z r (bK x.2 m).2
  grind [eaA,eaR,bK]
def eaK (F:Ty->Ft):List Ty->Ft
 | []=>(0,0)
 | t :: r=>if (F t).1≠0 then F t else eaK F r
theorem NT (F:Ty->Ft) (z:Ty):∀ l:List (Wd × Ty),((eaK F (l.map (fun x=>x.2) ++ [z])).1=0↔(eaL F (F z) l).1=0)/\((eaL F (F z) l).1≠0->eaK F (l.map (fun x=>x.2) ++ [z])=eaL F (F z) l)
 | []=>by
  show ((eaK F [z]).1=0↔(F z).1=0)/\((F z).1≠0->eaK F [z]=F z)
  grind [eaK]
 | x :: r=>by
  have ih:=NT F z r
  grind [eaK,eaL]
theorem GD {F:Ty->Ft}:∀ {l:List Ty},(eaK F l).1=0->∀ t∈l,(F t).1=0
 | [],_,t,ht=>by cases ht
 | u :: r,h,t,ht=>by
  rw [eaK] at h;split at h
  ·rename_i h1;exact (h1 h).elim
  ·rename_i h1;rcases dg ht with rfl | ht
   ·simpa using h1
   ·exact GD h t ht
theorem IY (S:Sch):kx S=if (latF S.ae S.order).1≠0 then latF S.ae S.order
 else if (ej S).1≠0 then ej S
 else if (eaA (fB S) 0).1.1≠0 then (eaA (fB S) 0).1
 else if (eaK (lg S) (fB S)).1≠0 then eaK (lg S) (fB S)
 else loopF S:=by
 have h1:=NS S.root S.types 0;have h2:=NT (lg S) S.root S.types;unfold kx fB fA;by_cases a:(eaR S.root S.types 0).1.1=0
 ·grind
 ·grind
abbrev UH (S:Sch) (T:List Ty) (m:Int) (e:Nat):St:=
 ⟨[aw 1 0,aw 2 1,aU 5 9 (gG T),ap 6 m,ap 7 e],[eu S,[.v (.int .i64 0),.v (.int .i64 0)]],[]⟩
abbrev ZA (S:Sch) (T:List Ty) (e:Nat):St:=
 ⟨[aw 1 0,aw 2 1,aU 5 9 (gG T),ap 11 e],[eu S,[.v (.int .i64 0),.v (.int .i64 0)]],[]⟩
abbrev UI (S:Sch) (e:Nat):St:=
 ⟨[aw 1 0,aw 2 1,ap 13 e],[eu S,[.v (.int .i64 0),.v (.int .i64 0)]],[]⟩
theorem Ba {S:Sch} (hs:S.wt<=1099511627776):∀ t∈fB S,t.wt<=1099511627776:=by
 intro t ht;unfold Sch.wt at hs;rcases List.mem_append.1 ht with h | h
 ·obtain ⟨x,hx,rfl⟩:=List.mem_map.1 h;have:=fZ hx;omega
 all_goals grind
theorem Bb (S:Sch) (hs:S.wt<=1099511627776):EvP prog 185 [.agg (eu S)] (kx S).d:=by
 have VN:=Ba hs;unfold Sch.wt at hs;have hN:=dz S.types;have gW:=jf S.types;have kS:=A6 S.ae S.order (by omega) (by omega);have ZB:=A7 S (by omega);have iQ:=DK S (by omega);have ZC:=fun t ht=>qm S (by omega) (by omega) _ t (aJ _) (VN t ht);have hF:=IY S;have hlen:(fB S).length=S.types.length + 1:=by simp [fB,fA]
 have hnF:(ej S).1=0->S.types.length<=64:=fun h=>by grind [ej]
 obtain ⟨ae,order,types,⟨rh,rp⟩⟩:=S;simp only at hs hN gW kS ZB hlen hnF hF;generalize hT:fB ⟨ae,order,types,.mk rh rp⟩=T at VN iQ ZC hlen hF;refine eG 104 [.cell 2 44] func185 rfl ntmps185 rfl fun _ _ _ _=>?_;generalize kx ⟨ae,order,types,.mk rh rp⟩=F at hF ⊢;refine cP Xo kS ?_;refine br ?_ ?_<;>intro h1
 ·have h1:(latF ae order).1≠0:=sU h1;rw [aj h1] at hF;refine ⟨_,?_,rfl⟩;rw [hF];exact ax
 have h1:(latF ae order).1=0:=sU h1;rw [ai (by simp [h1])] at hF;refine cP Xp ZB ?_;refine br ?_ ?_<;>intro h2
 ·have h2:(ej ⟨ae,order,types,.mk rh rp⟩).1≠0:=sU h2;rw [aj h2] at hF;refine ⟨_,?_,rfl⟩;rw [hF];exact ax
 have h2:(ej ⟨ae,order,types,.mk rh rp⟩).1=0:=sU h2;rw [ai (by simp [h2])] at hF;have UJ:=hnF h2;refine cP WK iQ ?_
 refine aQ (fun j st=>∃ (e:Nat) (m:Int),st=UH ⟨ae,order,types,.mk rh rp⟩ T m e/\e<=types.length + 1/\0<=m/\m<=512/\eaA T 0=eaA (T.drop e) m/\j=types.length + 1 - e) (types.length + 1)
  (UH ⟨ae,order,types,.mk rh rp⟩ T 0 0) (wkM wB) ⟨0,0,rfl,by omega,by omega,by omega,rfl,by omega⟩ ?_
 rintro j st ⟨e,m,rfl,he,mz,iE,aG,rfl⟩;refine br ?_ ?_<;>intro hL
 ·have al:e < types.length + 1:=by have:=hL;simp [dA,hlen] at this;omega
  obtain ⟨t,ht⟩:∃ t,T[e]? = some t:=⟨_,gE (by omega)⟩;have Nc:=VN t (mG ht);have aY:eaA (T.drop e) m=if (bK t m).1.1≠0 then bK t m else eaA (T.drop (e + 1)) (bK t m).2:=by rw [drop_cons ht,eaA]
  have Qz:bK t m=if (wrong t 1 0).1.1≠0 then ((wrong t 1 0).1,m) else if 512 < m + t.cnt then ((8,t.h.at'),m + t.cnt) else ((0,0),m + t.cnt):=rfl
  have Gm:=A9 t 1 0 Nc (by omega) (by omega) (by omega) (by omega);have bM:=j5 _ t (aJ _) Nc;have O1:=t.dY;obtain ⟨u,us⟩:=t;refine iX (jN ht) ?_;refine cP Mh Gm ?_;refine br ?_ ?_<;>intro g1
  ·have g1:(wrong (.mk u us) 1 0).1.1≠0:=sU g1;rw [aj g1] at Qz;rw [aG,aY,Qz,aj g1,aj g1] at hF;refine ⟨_,?_,rfl⟩;rw [hF];exact ax
  have g1:(wrong (.mk u us) 1 0).1.1=0:=sU g1;rw [ai (by simp [g1])] at Qz;refine iX (jN ht) ?_;refine cP H5 bM ?_;have sE:IntKind.i64.wrap (m + ((Ty.mk u us).cnt:Int))=m + (Ty.mk u us).cnt:=wrap64 (by omega) (by omega);refine br ?_ ?_<;>intro g2
  ·have g2:512 < IntKind.i64.wrap (m + ((Ty.mk u us).cnt:Int)):=of_decide_eq_true g2;rw [sE] at g2;rw [aj g2] at Qz;rw [aG,aY,Qz,aj (by simp),aj (by simp)] at hF;refine iX (jN ht) ?_;refine ⟨_,?_,rfl⟩;rw [hF];exact ax
  ·have g2:¬ 512 < IntKind.i64.wrap (m + ((Ty.mk u us).cnt:Int)):=of_decide_eq_false g2;rw [sE] at g2;rw [ai g2] at Qz;rw [Qz,ai (by simp)] at aY;exact ⟨UH ⟨ae,order,types,.mk rh rp⟩ T (m + (Ty.mk u us).cnt) (e + 1),(wkM (wB2 sE (nxt al (by omega)))),types.length + 1 - (e + 1),by omega,e + 1,_,rfl,by omega,by omega,by omega,by rw [aG,aY],rfl⟩
 have aM:e=types.length + 1:=by have:=hL;simp [dA,hlen] at this;omega
 rw [aG,List.drop_of_length_le (by omega),show eaA [] m=((0,0),m) from rfl,ai (by simp)] at hF
 refine aQ (fun j st=>∃ (e:Nat),st=ZA ⟨ae,order,types,.mk rh rp⟩ T e/\e<=types.length + 1/\eaK (lg ⟨ae,order,types,.mk rh rp⟩) T=eaK (lg ⟨ae,order,types,.mk rh rp⟩) (T.drop e)/\j=types.length + 1 - e) (types.length + 1)
  (ZA ⟨ae,order,types,.mk rh rp⟩ T 0) (wkM wB) ⟨0,rfl,by omega,rfl,by omega⟩ ?_
 clear aG hL aM he e;rintro j st ⟨e,rfl,he,aG,rfl⟩;refine br ?_ ?_<;>intro hL
 ·have al:e < types.length + 1:=by have:=hL;simp [dA,hlen] at this;omega
  obtain ⟨t,ht⟩:∃ t,T[e]? = some t:=⟨_,gE (by omega)⟩;have aY:eaK (lg ⟨ae,order,types,.mk rh rp⟩) (T.drop e)=if (lg ⟨ae,order,types,.mk rh rp⟩ t).1≠0 then lg ⟨ae,order,types,.mk rh rp⟩ t else eaK (lg ⟨ae,order,types,.mk rh rp⟩) (T.drop (e + 1)):=by rw [drop_cons ht,eaK]
  have hu:=ZC t (mG ht);obtain ⟨u,us⟩:=t;apply nI (fun _=>false) 5 6 [0,1,2,3,4,5,6,7] [0,1,2,3,4,6,5,7] 2 2 mo (by decide +kernel)
  ·refine iX (jN ht) ?_;refine cD Mi hu ?_;refine (?_:@Eq St _ _);exact rfl
  ·refine iX (jN ht) ?_;refine cD Mi hu ?_;refine (⟨rfl,rfl,?_⟩:_/\_/\_)
   repeat' (first | exact trivial | refine ⟨rfl,?_⟩)
  ·rfl
  refine br ?_ ?_<;>intro g
  ·have g:(lg ⟨ae,order,types,.mk rh rp⟩ (.mk u us)).1≠0:=sU g;rw [aG,aY,aj g,aj g] at hF;refine ⟨_,?_,rfl⟩;rw [hF];exact ax
  ·have g:(lg ⟨ae,order,types,.mk rh rp⟩ (.mk u us)).1=0:=sU g;rw [ai (by simp [g])] at aY;exact rE ⟨_,by omega,e + 1,rfl,by omega,by rw [aG,aY],rfl⟩ (wkM (wB1 (nxt al (by omega))))
 have aM:e=types.length + 1:=by have:=hL;simp [dA,hlen] at this;omega
 have LN:(eaK (lg ⟨ae,order,types,.mk rh rp⟩) T).1=0:=by rw [aG,List.drop_of_length_le (by omega)];all_goals rfl
 rw [aG,List.drop_of_length_le (by omega),show eaK (lg ⟨ae,order,types,.mk rh rp⟩) []=(0,0) from rfl,ai (by simp)] at hF
 have IL:∀ x∈types,tP ⟨ae,order,types,.mk rh rp⟩ x.2=true:=fun x hx=>A1 (GD LN x.2 (by
  rw [<- hT]
  exact List.mem_append_left _ (List.mem_map_of_mem hx)))
 have he99:=wu ⟨ae,order,types,.mk rh rp⟩ UJ IL
 have hlo:F=match bJ (fun i=>(endI ⟨ae,order,types,.mk rh rp⟩ (types.length + 1) i).isNone) types.length with
  | none=>(0,0)
  | some i=>(11,Um (tO ⟨ae,order,types,.mk rh rp⟩) i):=hF
 refine aQ (fun j st=>∃ e:Nat,st=UI ⟨ae,order,types,.mk rh rp⟩ e/\e<=types.length/\(∀ i,i < e->(endI ⟨ae,order,types,.mk rh rp⟩ (types.length + 1) i).isNone=false)/\j=types.length - e) types.length
  (UI ⟨ae,order,types,.mk rh rp⟩ 0) (wkM wB) ⟨0,rfl,by omega,fun _ h=>by omega,by omega⟩ ?_
 clear aG hL aM he e;rintro j st ⟨e,rfl,he,fH,rfl⟩;refine br ?_ ?_<;>intro hL
 ·have al:e < types.length:=by have:=hL;simp [hN] at this;exact this
  obtain ⟨x,hx⟩:=gX al;have Uq:(tO ⟨ae,order,types,.mk rh rp⟩)[e]? = some x.1:=IV hx;have h9:=he99 e al;obtain ⟨xw,⟨xh,xp⟩⟩:=x;refine cP L9 h9 ?_;refine br ?_ ?_<;>intro g
  ·have g:endI ⟨ae,order,types,.mk rh rp⟩ (types.length + 1) e=none:=fp.1 g;have B0:=cH (p:=fun i=>(endI ⟨ae,order,types,.mk rh rp⟩ (types.length + 1) i).isNone) al (by simp only [g];rfl) fH;rw [B0] at hlo;simp only [j9 Uq] at hlo;refine iX (dNms_get hx) ?_;refine ⟨_,?_,rfl⟩;rw [hlo];exact ax
  ·have g:¬ endI ⟨ae,order,types,.mk rh rp⟩ (types.length + 1) e=none:=fun hn=>by have h3:=fp.2 hn;rw [g] at h3;cases h3
   refine ⟨UI ⟨ae,order,types,.mk rh rp⟩ (e + 1),(wkM (wB1 (nxt al (by omega)))),types.length - (e + 1),by omega,e + 1,rfl,by omega,fun i hi=>?_,rfl⟩;rcases lh hi with hi | rfl
   ·exact fH i hi
   ·exact Option.isNone_eq_false_iff.2 (Option.isSome_iff_ne_none.2 g)
 ·have aM:e=types.length:=sW hN hL;rw [aM] at fH;rw [dh fH] at hlo;refine ⟨_,?_,rfl⟩;rw [hlo];exact ax
theorem bn {l:List Ed} {i:Nat} {e:Ed} (h:l[i]? = some e):(eM l)[i]? = some (tQ e):=by simp [eM,h]
def QA (lev:List Wd->Int) (s:Sch) (t:Ty) (k:Nat):Nd:=⟨t.h.ag,t.h.at',t.h.lo,t.h.hi,t.h.most,au t.h.af,edsP lev s t.ps (k + 1)⟩
mutual
theorem ur (lev:List Wd->Int) (s:Sch):∀ (t:Ty) (k:Nat),ndsT lev s t k=(flatT t).zipIdx.map fun x=>QA lev s x.1 (k + x.2)
 | .mk h ps,k=>by
  have ih:=Bc lev s ps (k + 1);rw [ndsT,flatT];split
  ·rfl
  ·rw [ih,List.zipIdx_cons,List.map_cons];rw [List.zipIdx_succ,List.map_map];refine congr (congrArg List.cons rfl) (List.map_congr_left fun x _=>?_);simp only [Function.comp];congr 1;omega
theorem Bc (lev:List Wd->Int) (s:Sch):∀ (ps:Pts) (k:Nat),vY lev s ps k=(flatP ps).zipIdx.map fun x=>QA lev s x.1 (k + x.2)
 | .nil,k=>rfl
 | .cons p u r,k=>by
  rw [vY,flatP,List.zipIdx_append,List.map_append]
  cases hb:p.bare with
  | true=>
   simp only [if_true,List.zipIdx_nil,List.map_nil,List.nil_append,List.length_nil,Nat.add_zero];exact Bc lev s r k
  | false=>
   simp only [Bool.false_eq_true,if_false];rw [ur lev s u k,Bc lev s r (k + u.nn),ji];refine congrArg _ ?_;rw [List.zipIdx_eq_map_add (l:=flatP r) (i:=0 + u.nn)];rw [List.map_map];refine List.map_congr_left fun x _=>?_;simp only [Function.comp];congr 1;omega
end
theorem Bd {X:Lx} {L:List ByteArray}:∀ {ps:Pts},(knP X L ps).1=0->∀ {p:Ph} {u:Ty},(p,u)∈ps.toList->p.bare=false->(knT X L u).1=0
 | .nil,_,p,u,h,_=>by cases h
 | .cons q v r,hk,p,u,h,hb=>by
  rcases dg h with h | h
  ·cases h;exact (rS hk).1 hb
  ·exact Bd (rS hk).2 h hb
theorem rZ {w:Int} (h:decide (w=0)=true):kO w=3:=by unfold kO;rw [aj (of_decide_eq_true h)]
theorem r6 {w:Int} (h:decide (w=0)=false):kO w=w:=by unfold kO;rw [ai (of_decide_eq_false h)]
theorem fL {L:List Ed} {lev:List Wd->Int} {p:Ph} {to w z:Int} (hw:kO p.wide=w) (ht:to=z):eM L ++ [[.v (.string p.name.s),.v (.bool p.bare),.v (.int .i64 p.name.a),.v (.int .i64 z),.v (.int .i64 (lev p.label)),.v (.int .i64 w),.v (.int .i64 p.ck),.v (.int .i64 p.cn),.v (.int .i64 (lev p.cl)),.v (.int .i64 p.ca)]]=eM (L ++ [vX lev p to]):=by
 subst hw ht;simp [eM,tQ,vX]
abbrev ZD (S:Sch) (f:Nat->Nat->Bool) (t:Ty) (me:Nat) (q e:Nat):St:=
 ⟨[aU 1 1 (cu (dj S.ae.length f)),ap 3 me,aw 4 0,aw 6 1,aw 8 2,aw 9 3,ap 10 e],
  [eu S,dG t,[.v (.int .i64 0),.v (.int .i64 0),.v (.int .i64 0),.v (.int .i64 0),.v (.int .i64 0),.v (.slice none 0 0),.v (.slice none 0 0)],
  [.v (.int .i64 t.h.ag),.v (.int .i64 t.h.at'),.v (.int .i64 t.h.lo),.v (.int .i64 t.h.hi),.v (.int .i64 t.h.most),.sl 1 (ey (au (t.h.af.take e))) (some 0),.v (.slice none 0 0)]],[⟨q,9,1,none⟩]⟩
abbrev DM (S:Sch) (f:Nat->Nat->Bool) (t:Ty) (q1 q2:Nat) (L:List Ed) (nx e:Nat):St:=
 ⟨[aU 1 1 (cu (dj S.ae.length f)),aw 4 0,aw 6 1,aw 8 2,aw 9 3,ap 11 nx,ap 12 e],
  [eu S,dG t,[.v (.int .i64 0),.v (.int .i64 0),.v (.int .i64 0),.v (.int .i64 0),.v (.int .i64 0),.v (.slice none 0 0),.v (.slice none 0 0)],
  [.v (.int .i64 t.h.ag),.v (.int .i64 t.h.at'),.v (.int .i64 t.h.lo),.v (.int .i64 t.h.hi),.v (.int .i64 t.h.most),.sl 1 (ey (au t.h.af)) (some 0),.sl 10 (eM L) (some 1)]],[⟨q1,9,1,none⟩,⟨q2,144,10,none⟩]⟩
set_option maxHeartbeats 2000000 in
theorem GF (S:Sch) (hS:S.wt<=1099511627776) (hl:(latF S.ae S.order).1=0) (UJ:S.types.length<=64) (hr:∀ x∈S.types,tP S x.2=true) (hlo:∀ i,i < S.types.length->∃ k,endI S (S.types.length + 1) i=some k)
  (t:Ty) (ht:t.wt<=1099511627776) (hk:(lg S t).1=0) (me:Nat) (hme:me<=1099511627776) :
  EvP prog 56 [.agg (eu S),.sl 1 (cu (dj S.ae.length (ee S.ae.length (cW (au S.ae) S.order)))) none,.agg (dG t),.v (.int .i64 me)] (.agg (kN (QA (ij S) S t me))):=by
 obtain ⟨hL,Kn⟩:=kQ hl;have kk:=hL.pos;unfold Sch.wt at hS;have Gn:=fun l (h:wdsWt l<=1099511627776)=>Kw S.ae (ee S.ae.length (cW (au S.ae) S.order)) kk Kn (by omega) l h;have hls:∀ l,ij S l=AX (ee S.ae.length (cW (au S.ae) S.order)) (au S.ae) l:=fun _=>rfl;have QB:=fun s i k=>wv S UJ (by omega) hr s i k;have eN:=jI S;generalize ee S.ae.length (cW (au S.ae) S.order)=f at Gn hls ⊢;obtain ⟨h,ps⟩:=t;have Uv:=(lX hk).2;simp only [Ty.wt,Hd.wt] at ht;have iP:=ps.fk;have hc:=ps.dY;have mE:=ps.fT;have hwl:=bi h.af;generalize Se:ij S=lev at hls ⊢;obtain ⟨ae,order,types,⟨rh,rp⟩⟩:=S;simp only at hS UJ hr hlo Gn hls QB eN Uv;refine eG 131 [.cell 8 132] func56 rfl ntmps56 rfl fun _ _ _ _=>?_;refine lJ (fun e=>ZD ⟨ae,order,types,.mk rh rp⟩ f (.mk h ps) me e e) h.af.length (de 4 ⟨0,9,1,none⟩ rfl rfl rfl tH rfl rfl jT) ?_;intro e he;refine br ?_ ?_<;>intro hL
 ·have al:e < h.af.length:=by have:=hL;simp [av] at this;exact this
  obtain ⟨w,hw⟩:=gX al;have di:=je hw;have dF:(ey (au (h.af.take e))).length=e:=by simp [ey,au];omega
  refine dS ?_;refine iX (aK hw) ?_;refine ⟨dF,⟨by simp only [Ty.h];rw [dF];simp [maxLen];omega,by simp only [Ty.h];rw [dF];simp;omega⟩,?_⟩;exact rE ⟨_,by omega,e + 1,rfl,by omega,rfl⟩ (wkB 4 (wA2 (nxt al (by omega)) di) (wB2 (nxt al (by omega)) di))
 have aM:e=h.af.length:=by have:=hL;simp [av] at this;omega
 have ZE:IntKind.i64.wrap ((me:Int) + 1)=((me + 1:Nat):Int):=by rw [wrap64 (by omega) (by omega)];omega
 have Fm:ey (au (h.af.take e))=ey (au h.af):=by rw [aM,List.take_length]
 refine aQ (fun j st=>∃ (e q nx:Nat) (L:List Ed),st=DM ⟨ae,order,types,.mk rh rp⟩ f (.mk h ps) h.af.length q L nx e/\q=e/\L.length=e/\e<=ps.len/\nx + (ps.drop e).nn=me + 1 + ps.nn/\edsP lev ⟨ae,order,types,.mk rh rp⟩ ps (me + 1)=L ++ edsP lev ⟨ae,order,types,.mk rh rp⟩ (ps.drop e) nx/\j=ps.len - e) ps.len
  (DM ⟨ae,order,types,.mk rh rp⟩ f (.mk h ps) e 0 [] (me + 1) 0) (de 4 ⟨0,144,10,none⟩ rfl rfl rfl (wA2 ZE Fm) rfl rfl (wB2 ZE Fm)) ⟨0,0,me + 1,[],by rw [aM],rfl,rfl,by omega,rfl,rfl,by omega⟩ ?_
 clear he hL aM Fm e;rintro j st ⟨e,q,nx,L,rfl,hq,Zx,he,Ll,aG,rfl⟩;refine br ?_ ?_<;>intro hL
 ·have al:e < ps.len:=by simpa [aD] using hL
  obtain ⟨p,u,hx⟩:=Pts.dX al;have CP:=Pts.fM (mG hx);have hw1:p.name.wt + wdsWt p.label + wdsWt p.cl<=p.wt:=by simp only [Ph.wt];omega
  rw [Pts.drop_cons hx,edsP] at aG;rw [Pts.drop_cons hx,Pts.nn] at Ll;have HR:=Gn p.label (by omega);have Sg:=Gn p.cl (by omega);unfold Kh at HR Sg;rw [<- hls] at HR Sg;obtain ⟨uh,us⟩:=u;refine iX (bF hx) ?_;refine br ?_ ?_<;>intro hw
  all_goals
   refine cP Rm HR ?_;refine cP Rm Sg ?_;have dF:(eM L).length=q:=by rw [cj,Zx,hq]
   refine br ?_ ?_<;>intro hB
   ·have hB:p.bare=true:=hB;have ox:um ⟨ae,order,types,.mk rh rp⟩ p (.mk uh us) nx = -1:=by simp [um,hB]
    rw [hB] at aG Ll;refine ⟨dF,⟨by rw [dF];simp [maxLen];omega,by rw [dF];simp;omega⟩,?_⟩;exact ⟨DM ⟨ae,order,types,.mk rh rp⟩ f (.mk h ps) h.af.length (q + 1) (L ++ [vX lev p (um ⟨ae,order,types,.mk rh rp⟩ p (.mk uh us) nx)]) nx (e + 1),(wkB 4 (by repeat' (first | exact rfl | exact we_rfl rfl | exact we_int (nxt al (by omega)) | exact bZ (fL (rZ hw) ox) rfl | exact bZ (fL (r6 hw) ox) rfl | refine ⟨_,_,rfl,?_,?_⟩)) (by repeat' (first | exact trivial | exact we_rfl rfl | exact we_int (nxt al (by omega)) | exact bZ (fL (rZ hw) ox) rfl | exact bZ (fL (r6 hw) ox) rfl | refine ⟨⟨_,rfl,?_⟩,?_⟩))),ps.len - (e + 1),by omega,e + 1,q + 1,nx,_,rfl,by omega,by simp [Zx],by omega,by rw [<- Ll];simp,by rw [aG];simp,rfl⟩
   ·have hB:p.bare=false:=hB;have gC:=Bd Uv (mG hx) hB;refine br ?_ ?_<;>intro h9
    ·have h9:uh.ag=9:=sU h9;obtain ⟨i,hi⟩:=Option.ne_none_iff_exists'.1 ((lX gC).1 h9);obtain ⟨k,hk⟩:=hlo i (by have:=(cQ hi).1;omega);have ox:um ⟨ae,order,types,.mk rh rp⟩ p (.mk uh us) nx=(firstA ⟨ae,order,types,.mk rh rp⟩ k:Int):=by simp [um,hB,ng,Ty.h,h9,Uu,hi,namedN,hk]
     refine cP WL (QB uh.name.s i k hi hk) ?_;refine ⟨dF,⟨by rw [dF];simp [maxLen];omega,by rw [dF];simp;omega⟩,?_⟩;exact ⟨DM ⟨ae,order,types,.mk rh rp⟩ f (.mk h ps) h.af.length (q + 1) (L ++ [vX lev p (um ⟨ae,order,types,.mk rh rp⟩ p (.mk uh us) nx)]) nx (e + 1),(wkB 4 (by repeat' (first | exact rfl | exact we_rfl rfl | exact we_int (nxt al (by omega)) | exact bZ (fL (rZ hw) ox) rfl | exact bZ (fL (r6 hw) ox) rfl | refine ⟨_,_,rfl,?_,?_⟩)) (by repeat' (first | exact trivial | exact we_rfl rfl | exact we_int (nxt al (by omega)) | exact bZ (fL (rZ hw) ox) rfl | exact bZ (fL (r6 hw) ox) rfl | refine ⟨⟨_,rfl,?_⟩,?_⟩))),ps.len - (e + 1),by omega,e + 1,q + 1,nx,_,rfl,by omega,by simp [Zx],by omega,by rw [<- Ll];simp [hB,Ty.nn,h9],by rw [aG];simp [hB,Ty.nn,h9],rfl⟩
    ·have h9:¬ uh.ag=9:=sU h9;have ox:um ⟨ae,order,types,.mk rh rp⟩ p (.mk uh us) nx=(nx:Int):=by simp [um,hB,ng,Ty.h,h9]
     have hnn:=(Ty.mk uh us).fT;have hct:=(Ty.mk uh us).dY
     have sE:IntKind.i64.wrap ((nx:Int) + (gG (flatT (.mk uh us))).length)=((nx + (Ty.mk uh us).nn:Nat):Int):=by
      rw [dA,ji,wrap64 (by omega) (by omega)];omega
     refine cP PK (nU _ (.mk uh us) (aJ _) (by omega)) ?_;refine ⟨dF,⟨by rw [dF];simp [maxLen];omega,by rw [dF];simp;omega⟩,?_⟩;exact ⟨DM ⟨ae,order,types,.mk rh rp⟩ f (.mk h ps) h.af.length (q + 1) (L ++ [vX lev p (um ⟨ae,order,types,.mk rh rp⟩ p (.mk uh us) nx)]) (nx + (Ty.mk uh us).nn) (e + 1),(wkB 4 (by repeat' (first | exact rfl | exact we_rfl rfl | exact we_int (nxt al (by omega)) | exact we_int sE | exact bZ (fL (rZ hw) ox) rfl | exact bZ (fL (r6 hw) ox) rfl | refine ⟨_,_,rfl,?_,?_⟩)) (by repeat' (first | exact trivial | exact we_rfl rfl | exact we_int (nxt al (by omega)) | exact we_int sE | exact bZ (fL (rZ hw) ox) rfl | exact bZ (fL (r6 hw) ox) rfl | refine ⟨⟨_,rfl,?_⟩,?_⟩))),ps.len - (e + 1),by omega,e + 1,q + 1,(nx + (Ty.mk uh us).nn),_,rfl,by omega,by simp [Zx],by omega,by rw [<- Ll];simp [hB];omega,by rw [aG];simp [hB],rfl⟩
 have aM:e=ps.len:=by simp [aD] at hL;omega
 rw [aM,Pts.cV,edsP,List.append_nil] at aG;unfold QA;simp only [Ty.h,Ty.ps];rw [aG];exact ⟨_,ax,rfl⟩
def ndsA (lev:List Wd->Int) (s:Sch):List Ty->Nat->List Nd
 | [],_=>[]
 | t :: r,k=>ndsT lev s t k ++ ndsA lev s r (k + t.nn)
def r7 (l:List Ty):Nat:=(l.map Ty.nn).sum
theorem ni (t:Ty) (l:List Ty):r7 (t :: l)=t.nn + r7 l:=by simp [r7]
theorem uu (a b:List Ty):r7 (a ++ b)=r7 a + r7 b:=by simp [r7]
theorem kT (lev:List Wd->Int) (s:Sch):∀ (l:List Ty) (k:Nat),(ndsA lev s l k).length=r7 l
 | [],_=>rfl
 | t :: r,k=>by simp only [ndsA,List.length_append,jJ,kT lev s r,ni]
theorem wx (lev:List Wd->Int) (s:Sch):∀ (a b:List Ty) (k:Nat),ndsA lev s (a ++ b) k=ndsA lev s a k ++ ndsA lev s b (k + r7 a)
 | [],b,k=>by simp [ndsA,r7]
 | t :: r,b,k=>by rw [List.cons_append,ndsA,ndsA,wx lev s r b,List.append_assoc,ni,Nat.add_assoc]
theorem wy (lev:List Wd->Int) (s:Sch):∀ (l:List (Wd × Ty)) (k:Nat),ndsAll lev s l k=ndsA lev s (l.map fun x=>x.2) k
 | [],_=>rfl
 | x :: r,k=>by rw [ndsAll,List.map_cons,ndsA,wy lev s r]
theorem wz (s:Sch):(qj s).length=r7 (fA s):=by rw [qj,wy,kT];all_goals rfl
theorem jj (s:Sch):ay s=ndsA (ij s) s (fB s) 0:=by
 unfold ay fB;rw [wx,wz,qj,wy,ndsA,ndsA,List.append_nil,Nat.zero_add];rfl
theorem Kx {lev:List Wd->Int} {s:Sch} {l:List Ty} {e:Nat} {t:Ty} (h:l[e]? = some t):ndsA lev s (l.take (e + 1)) 0=ndsA lev s (l.take e) 0 ++ ndsT lev s t (ndsA lev s (l.take e) 0).length:=by
 rw [List.take_add_one,h,wx,kT,Nat.zero_add];simp [ndsA]
theorem DN (l:List Ty):∀ e,r7 (l.take e)<=r7 l:=by
 intro e;have:=uu (l.take e) (l.drop e);rw [List.take_append_drop] at this;omega
theorem GG (s:Sch):r7 (fB s)<=s.wt:=by
 have key:∀ l:List (Wd × Ty),r7 (l.map fun x=>x.2)<=nmsWt l:=by
  intro l
  induction l with
  | nil=>exact aJ _
  | cons x r ih=>
   have:=x.2.fT;have:=x.2.dY
   grind [ni,nmsWt]
 have h1:=key s.types;have h2:=s.root.fT;have h3:=s.root.dY
 grind [fB,uu,ni,Sch.wt,fA,r7]
mutual
theorem wE {X:Lx} {L:List ByteArray}:∀ (t:Ty),(knT X L t).1=0->∀ u∈flatT t,(knT X L u).1=0
 | .mk h ps,hk,u,hu=>by
  rw [flatT] at hu;split at hu
  ·cases hu
  ·rcases dg hu with rfl | hu
   ·exact hk
   ·exact DO ps (lX hk).2 u hu
theorem DO {X:Lx} {L:List ByteArray}:∀ (ps:Pts),(knP X L ps).1=0->∀ u∈flatP ps,(knT X L u).1=0
 | .nil,_,u,hu=>by cases hu
 | .cons p v r,hk,u,hu=>by
  rw [flatP] at hu;rcases List.mem_append.1 hu with hu | hu
  ·cases hb:p.bare with
   | true=>rw [hb] at hu;cases hu
   | false=>rw [hb] at hu;exact wE v ((rS hk).1 hb) u hu
  ·exact DO r (rS hk).2 u hu
end
mutual
theorem wF:∀ (t:Ty),∀ u∈flatT t,u.wt<=t.wt
 | .mk h ps,u,hu=>by
  rw [flatT] at hu;split at hu
  ·cases hu
  ·rcases dg hu with rfl | hu
   ·exact aJ _
   ·have:=DP ps u hu;simp only [Ty.wt];omega
theorem DP:∀ (ps:Pts),∀ u∈flatP ps,u.wt<=ps.wt
 | .nil,u,hu=>by cases hu
 | .cons p v r,u,hu=>by
  rw [flatP] at hu;simp only [Pts.wt];rcases List.mem_append.1 hu with hu | hu
  ·split at hu
   ·cases hu
   ·have:=wF v u hu;omega
  ·have:=DP r u hu;omega
end
theorem NU {lev:List Wd->Int} {s:Sch} {t u:Ty} {n k:Nat} (h:(flatT t)[k]? = some u):(ndsT lev s t n)[k]? = some (QA lev s u (n + k)):=by grind [ur]
structure sM (S:Sch):Prop where
 lat:(latF S.ae S.order).1=0
 l64:S.types.length<=64
 kn:∀ t∈fB S,(lg S t).1=0
 ends:∀ i,i < S.types.length->∃ k,endI S (S.types.length + 1) i=some k
 wr:∀ t∈fB S,(wrong t 1 0).1.1=0
theorem NV:∀ {l:List Ty} {m:Int},(eaA l m).1.1=0->∀ t∈l,(wrong t 1 0).1.1=0
 | [],_,_,t,ht=>by cases ht
 | u :: r,m,h,t,ht=>by
  rw [eaA] at h;split at h
  ·rename_i h1;exact (h1 h).elim
  ·rename_i h1;rcases dg ht with rfl | ht
   ·exact (nT (sU h1)).2.2.1
   ·exact NV h t ht
theorem qp {S:Sch} (h:(kx S).1=0):sM S:=by
 rw [IY] at h;split at h
 ·rename_i h1;exact (h1 h).elim
 rename_i h1;split at h
 ·rename_i h2;exact (h2 h).elim
 rename_i h2;split at h
 ·rename_i h3;exact (h3 h).elim
 rename_i h3;split at h
 ·rename_i h4;exact (h4 h).elim
 rename_i h4
 exact {
  lat:=sU h1
  l64:=by grind [ej]
  kn:=GD (sU h4)
  ends:=DB h
  wr:=NV (sU h3) }
theorem sM.refs {S:Sch} (h:sM S):∀ x∈S.types,tP S x.2=true:=fun x hx=>A1 (h.kn x.2 (List.mem_append_left _ (List.mem_map_of_mem hx)))
abbrev wC (S:Sch) (f:Nat->Nat->Bool) (N:DV) (z:Int):List DV:=[.sl 2 (bq S.ae) none,.sl 1 (cu (dj S.ae.length f)) none,N,.v (.int .i64 z)]
abbrev NW (S:Sch) (T:List Ty) (f:Nat->Nat->Bool) (L:List Nd) (z:Int) (e q:Nat):St:=
 ⟨[aw 1 0,aw 2 1,aw 3 2,aU 4 9 (gG T),ap 5 e],[eu S,[.v (.slice none 0 0),.v (.slice none 0 0),.v (.slice none 0 0),.v (.int .i64 0)],wC S f (.sl 7 (cX L) (some 0)) z],[⟨q,132,7,none⟩]⟩
abbrev Sx (S:Sch) (T:List Ty) (f:Nat->Nat->Bool) (L:List Nd) (z:Int) (e:Nat) (F:List Ty) (k q:Nat):St:=
 ⟨[aw 1 0,aw 2 1,aw 3 2,aU 4 9 (gG T),ap 5 e,aU 6 9 (gG F),ap 7 k],[eu S,[.v (.slice none 0 0),.v (.slice none 0 0),.v (.slice none 0 0),.v (.int .i64 0)],wC S f (.sl 7 (cX L) (some 0)) z],[⟨q,132,7,none⟩]⟩
theorem qq (S:Sch) (hS:S.wt<=1099511627776) (hR:(kx S).1=0) :
  EvP prog 12 [.agg (eu S)] (.agg (wC S (ee S.ae.length (cW (au S.ae) S.order)) (.sl 7 (cX (ay S)) none) (bz S))):=by
 have O7:=qp hR;obtain ⟨_,Kn⟩:=kQ O7.lat;have VN:=Ba hS;have TY:=GG S;have hN0:=(lZ O7.lat).2.2.1;have hrr:=O7.refs;have dM:=fun t ht hk me hme=>GF S hS O7.lat O7.l64 hrr O7.ends t ht hk me hme;have hwS:=hS;unfold Sch.wt at hS;have QC:=DF S.ae S.order Kn (by omega) (by omega) hN0;have iQ:=DK S (by have:=O7.l64;omega);have hlen:(fB S).length=S.types.length + 1:=by simp [fB,fA]
 have UJ:=O7.l64;have QB:=fun s i k=>wv S UJ (by omega) hrr s i k;have LN:=O7.kn;have wH:=O7.ends;have eN:=jI S;have fi:(fB S)[S.types.length]? = some S.root:=by grind [fB,fA]
 have IZ:=wz S;have iG:(fB S).take S.types.length=fA S:=by grind [fB,fA]
 rw [jj];unfold bz;generalize ij S=lev at dM ⊢;generalize ee S.ae.length (cW (au S.ae) S.order)=f at dM QC ⊢;obtain ⟨ae,order,types,⟨rh,rp⟩⟩:=S;simp only at hS QC hlen UJ wH eN fi iG;generalize hT:fB ⟨ae,order,types,.mk rh rp⟩=T at VN TY iQ hlen LN fi iG ⊢;refine eG 67 [.cell 2 50] func12 rfl ntmps12 rfl fun _ _ _ _=>?_;apply nI (fun _=>false) 6 8 [0,1,2,3,4,5,6,7,8,9] [0,1,2,3,4,5,8,6,7,9] 2 2 mo (by decide +kernel)
 ·refine cD TI QC ?_;refine (?_:@Eq St _ _);exact rfl
 ·refine cD TI QC ?_;refine (⟨rfl,rfl,?_⟩:_/\_/\_)
  repeat' (first | exact trivial | refine ⟨rfl,?_⟩)
 ·rfl
 refine cP WK iQ ?_
 have hLN:∀ e,(ndsA lev ⟨ae,order,types,.mk rh rp⟩ (T.take e) 0).length<=1099511627776:=fun e=>by
  rw [kT];have:=DN T e;omega
 refine aQ (fun j st=>∃ (e q:Nat) (z:Int),st=NW ⟨ae,order,types,.mk rh rp⟩ T f (ndsA lev ⟨ae,order,types,.mk rh rp⟩ (T.take e) 0) z e q/\q=(ndsA lev ⟨ae,order,types,.mk rh rp⟩ (T.take e) 0).length/\e<=types.length + 1/\(e=types.length + 1->z=(r7 (T.take types.length):Nat))/\j=types.length + 1 - e) (types.length + 1)
  (NW ⟨ae,order,types,.mk rh rp⟩ T f [] 0 0 0) (de 3 ⟨0,132,7,none⟩ rfl rfl rfl tH rfl rfl jT) ⟨0,0,0,rfl,rfl,by omega,fun h=>by omega,by omega⟩ ?_
 rintro j st ⟨e,q,z,rfl,hq,he,hz,rfl⟩;refine br ?_ ?_<;>intro hL
 ·have al:e < types.length + 1:=by have:=hL;simp [dA,hlen] at this;omega
  obtain ⟨t,ht⟩:∃ t,T[e]? = some t:=⟨_,gE (by omega)⟩;have Nc:=VN t (mG ht);have htk':=LN t (mG ht);have LI:=nU _ t (aJ _) Nc;have hfk:=wE t htk';have YS:=wF t;have VO:=Kx (lev:=lev) (s:=⟨ae,order,types,.mk rh rp⟩) ht;have hfln:=ji t;have gW:=jJ lev ⟨ae,order,types,.mk rh rp⟩ t (ndsA lev ⟨ae,order,types,.mk rh rp⟩ (T.take e) 0).length;have iS:=fun k u (h:(flatT t)[k]? = some u)=>NU (lev:=lev) (s:=⟨ae,order,types,.mk rh rp⟩) (n:=(ndsA lev ⟨ae,order,types,.mk rh rp⟩ (T.take e) 0).length) h;have hLe:=hLN e;have UK:=hLN (e + 1);have hLs:=kT lev ⟨ae,order,types,.mk rh rp⟩ (T.take e) 0;rw [VO,List.length_append] at UK;obtain ⟨u,us⟩:=t;generalize ndsA lev ⟨ae,order,types,.mk rh rp⟩ (T.take e) 0=L at hq VO gW iS hLe UK hLs ⊢;generalize ndsT lev ⟨ae,order,types,.mk rh rp⟩ (.mk u us) L.length=M at VO gW iS UK;generalize flatT (.mk u us)=F at LI hfk YS hfln iS;have dc:((cX L).length:Int)=(L.length:Int):=by rw [jK]
  refine iX (jN ht) ?_;refine cP PK LI ?_
  refine aQ (fun j st=>∃ (k q:Nat),st=Sx ⟨ae,order,types,.mk rh rp⟩ T f (L ++ M.take k) (L.length:Int) e F k q/\q=(L ++ M.take k).length/\k<=F.length/\j=F.length - k) F.length
   (Sx ⟨ae,order,types,.mk rh rp⟩ T f (L ++ []) (L.length:Int) e F 0 q) (wkB 3 (by repeat' (first | exact rfl | exact we_rfl rfl | exact we_int dc | exact bZ (by rw [List.append_nil]) rfl | refine ⟨_,_,rfl,?_,?_⟩)) (by repeat' (first | exact trivial | exact we_rfl rfl | exact we_int dc | exact bZ (by rw [List.append_nil]) rfl | refine ⟨⟨_,rfl,?_⟩,?_⟩))) ⟨0,q,rfl,by simp [hq],by omega,by omega⟩ ?_
  rintro j st ⟨k,q',rfl,ml,hk,rfl⟩;refine br ?_ ?_<;>intro nb
  ·have gC:k < F.length:=by have:=nb;simp [dA] at this;exact this
   obtain ⟨v,hv⟩:∃ v,F[k]? = some v:=⟨_,gE gC⟩;have Vr:=mG hv;have hvw:=YS v Vr;have dF:(cX (L ++ M.take k)).length=q':=by rw [jK,ml]
   have kA:q'=L.length + k:=by rw [ml,List.length_append,dE];omega
   have hnd:=dM v (by omega) (hfk v Vr) (cX (L ++ M.take k)).length (by omega)
   have di:cX (L ++ M.take k) ++ [kN (QA lev ⟨ae,order,types,.mk rh rp⟩ v (cX (L ++ M.take k)).length)]=cX (L ++ M.take (k + 1)):=by
    rw [List.take_add_one,iS k v hv,dF,kA];simp [cX]
   obtain ⟨vh,vp⟩:=v;refine dS ?_;refine iX (jN hv) ?_;refine cD en56 hnd ?_;refine ⟨dF,⟨by rw [dF];simp [maxLen];omega,by rw [dF];simp;omega⟩,?_⟩;exact rE ⟨_,by omega,k + 1,q' + 1,rfl,by rw [kA];simp;omega,by omega,rfl⟩ (wkB 3 (wA2 (nxt gC (by omega)) di) (wB2 (nxt gC (by omega)) di))
  ·have aM:k=F.length:=by have:=nb;simp [dA] at this;omega
   have hM:M.take k=M:=List.take_of_length_le (by omega);rw [hM] at ml;refine ⟨NW ⟨ae,order,types,.mk rh rp⟩ T f (ndsA lev ⟨ae,order,types,.mk rh rp⟩ (T.take (e + 1)) 0) (L.length:Int) (e + 1) q',(wkB 3 (by repeat' (first | exact rfl | exact we_rfl rfl | exact we_int (nxt al (by omega)) | exact bZ (by rw [VO,hM]) rfl | refine ⟨_,_,rfl,?_,?_⟩)) (by repeat' (first | exact trivial | exact we_rfl rfl | exact we_int (nxt al (by omega)) | exact bZ (by rw [VO,hM]) rfl | refine ⟨⟨_,rfl,?_⟩,?_⟩))),types.length + 1 - (e + 1),by omega,e + 1,q',_,rfl,by rw [VO,ml],by omega,fun he1=>?_,rfl⟩;rw [hLs,show e=types.length by omega]
 ·have aM:e=types.length + 1:=by have:=hL;simp [dA,hlen] at this;omega
  have hTa:T.take e=T:=List.take_of_length_le (by omega);rw [hTa];have hz:=hz aM;rw [iG,<- IZ] at hz;have IL:=LN (.mk rh rp) (mG fi);refine br ?_ ?_<;>intro h9
  ·have h9:rh.ag=9:=sU h9;obtain ⟨i,hi⟩:=Option.ne_none_iff_exists'.1 ((lX IL).1 h9);obtain ⟨k,hk⟩:=wH i (by have:=(cQ hi).1;omega);have ox:ng ⟨ae,order,types,.mk rh rp⟩ (.mk rh rp) (qj ⟨ae,order,types,.mk rh rp⟩).length=(firstA ⟨ae,order,types,.mk rh rp⟩ k:Int):=by simp [ng,Ty.h,h9,Uu,hi,namedN,hk]
   refine cP WL (QB rh.name.s i k hi hk) ?_;rw [ox];exact ⟨_,ax,rfl⟩
  ·have h9:¬ rh.ag=9:=sU h9;have ox:ng ⟨ae,order,types,.mk rh rp⟩ (.mk rh rp) (qj ⟨ae,order,types,.mk rh rp⟩).length=z:=by simp [ng,Ty.h,h9,hz]
   rw [ox];exact ⟨_,ax,rfl⟩
def Sy (t:Ty):Prop:=∃ d m,(wrong t d m).1.1=0
def I0 (ag:Int) (p:Ph) (t:Ty):Prop:=(p.bare=true/\ag=8/\sameTy t cr=true/\ch p iH=true)∨(p.bare=false/\(dD p).1=0/\Sy t)
structure TyF (h:Hd) (ps:Pts):Prop where
 k1:1<=h.ag
 k9:h.ag<=9
 own:vt h ps=true
 int:h.ag=2->h.lo<=h.hi
 text:h.ag=3->0<=h.most/\h.most<=4096
 enum:h.ag=4->hZ h=(0,0)
 one:h.ag=5∨h.ag=6->∃ p t,ps = .cons p t .nil/\p.name.s=emptyB/\ch p eS=true/\0<=h.most/\h.most<=1024/\Sy t
 many:h.ag=7∨h.ag=8->ps.len<=64/\(h.ag=8->ps.len≠0)/\∀ i p t,ps.toList[i]? = some (p,t)->aA (pNames ps) i p.name=0/\I0 h.ag p t
theorem UL {h:Hd} {ps:Pts} (ho:¬ vi (.mk h ps)=false):vt h ps=true:=by
 rw [Io];cases hb:sameTy (.mk h ps) (mask (.mk h ps))
 ·exact absurd hb ho
 ·rfl
theorem nj {ag:Int} {all:List Wd}:∀ {ps:Pts} {i:Nat} {d m:Int},(wrongPts ag all i ps d m).1.1=0->(ag=7∨ag=8)->∀ j p t,ps.toList[j]? = some (p,t)->aA all (i + j) p.name=0/\I0 ag p t
 | .nil,i,d,m,_,_,j,p,t,hx=>by simp [Pts.toList] at hx
 | .cons q u r,i,d,m,he,hk,j,p,t,hx=>by
  simp only [wrongPts] at he;by_cases c0:aA all i q.name≠0
  ·rw [aj c0] at he;exact absurd he c0
  rw [ai c0] at he;have c0:aA all i q.name=0:=sU c0
  have step:∀ d' m',(wrongPts ag all (i + 1) r d' m').1.1=0->I0 ag q u->aA all (i + j) p.name=0/\I0 ag p t:=by
   intro d' m' h hq
   cases j with
   | zero=>grind [Pts.toList]
   | succ j=>
    simp only [Pts.toList,List.getElem?_cons_succ] at hx;have:=nj h hk j p t hx
    grind
  by_cases c1:q.bare=true
  ·rw [aj c1] at he;by_cases c2:ag=7∨sameTy u cr=false∨ch q iH=false
   ·rw [aj c2] at he;simp at he
   rw [ai c2] at he;refine step d m he (.inl ⟨c1,?_,?_,?_⟩)
   all_goals grind
  ·rw [ai c1] at he;by_cases c2:(dD q).1≠0
   ·rw [aj c2] at he;exact absurd he c2
   rw [ai c2] at he;by_cases c3:(wrong u (d + 1) m).1.1≠0
   ·rw [aj c3] at he;exact absurd he c3
   rw [ai c3] at he;exact step d _ he (.inr ⟨by simpa using c1,by simpa using c2,d + 1,m,by simpa using c3⟩)
theorem GH:∀ {t:Ty},Sy t->TyF t.h t.ps
 | .mk h ps,⟨d,m,he⟩=>by
  simp only [Ty.h,Ty.ps];simp only [wrong] at he;by_cases c0:24 < d
  ·rw [aj c0] at he;simp at he
  rw [ai c0] at he;by_cases c1:512 < m + 1
  ·rw [aj c1] at he;simp at he
  rw [ai c1] at he;by_cases c2:h.ag < 1∨9 < h.ag
  ·rw [aj c2] at he;simp at he
  rw [ai c2] at he;by_cases c3:vi (.mk h ps)=false
  ·rw [aj c3] at he;simp at he
  rw [ai c3] at he;by_cases c4:(h.ag=2/\h.hi < h.lo)∨(h.ag=3/\(h.most < 0∨4096 < h.most))
  ·rw [aj c4] at he;simp at he
  rw [ai c4] at he;by_cases c5:h.ag=9/\bc h.name.s=false
  ·rw [aj c5] at he;simp at he
  rw [ai c5] at he;refine { k1:=by omega,k9:=by omega,own:=UL c3,int:=fun h2=>by omega,text:=fun h3=>by omega,enum:=fun h4=>?_,one:=fun h5=>?_,many:=fun h7=>?_ }
  ·rw [aj h4] at he;exact y5 h he
  ·rw [ai (by omega),aj h5] at he
   match ps,he with
   | .nil,he=>simp [wrongOne] at he
   | .cons p t (.cons _ _ _),he=>simp [wrongOne] at he
   | .cons p t .nil,he=>
    simp only [wrongOne] at he;by_cases e0:p.name.s≠emptyB∨ch p eS=false
    ·rw [aj e0] at he;simp at he
    rw [ai e0] at he;by_cases e1:h.most < 0∨1024 < h.most
    ·rw [aj e1] at he;simp at he
    rw [ai e1] at he;refine ⟨p,t,rfl,Classical.byContradiction fun hn=>e0 (.inl hn),?_,by omega,by omega,d + 1,_,he⟩
    grind
  ·rw [ai (by omega),ai (by omega),aj h7] at he;by_cases e0:h.ag=8/\ps.len=0
   ·rw [aj e0] at he;simp at he
   rw [ai e0] at he;by_cases e1:64 < ps.len
   ·rw [aj e1] at he;simp at he
   rw [ai e1] at he;refine ⟨by omega,fun h8=>fun hl=>e0 ⟨h8,hl⟩,fun i p t hx=>?_⟩;have:=nj he h7 i p t hx
   rwa [Nat.zero_add] at this
theorem TyF.sub {h:Hd} {ps:Pts} (hF:TyF h ps) {p:Ph} {u:Ty} (hm:(p,u)∈ps.toList) (hb:p.bare=false):Sy u:=by
 obtain ⟨i,hi⟩:=List.mem_iff_getElem?.1 hm
 have hlen:0 < ps.len:=by
  cases ps with
  | nil=>simp [Pts.toList] at hm
  | cons _ _ _=>simp [Pts.len]
 have hk:5<=h.ag/\h.ag<=8:=by
  have h1:=hF.own
  grind [vt]
 by_cases h5:h.ag=5∨h.ag=6
 ·obtain ⟨q,t,rfl,_,_,_,_,hw⟩:=hF.one h5
  grind [Pts.toList]
 ·rcases ((hF.many (by omega)).2.2 i p u hi).2 with h1 | h1
  ·rw [h1.1] at hb;cases hb
  ·exact h1.2.2
mutual
theorem wI:∀ (t:Ty),Sy t->∀ u∈flatT t,Sy u
 | .mk h ps,hw,u,hu=>by
  rw [flatT] at hu;split at hu
  ·cases hu
  ·rcases dg hu with rfl | hu
   ·exact hw
   ·exact DQ ps (fun p v hm hb=>(GH hw).sub hm hb) u hu
theorem DQ:∀ (ps:Pts),(∀ p v,(p,v)∈ps.toList->p.bare=false->Sy v)->∀ u∈flatP ps,Sy u
 | .nil,_,u,hu=>by cases hu
 | .cons p v r,hw,u,hu=>by
  rw [flatP] at hu;rcases List.mem_append.1 hu with hu | hu
  ·cases hb:p.bare with
   | true=>rw [hb] at hu;cases hu
   | false=>rw [hb] at hu;exact wI v (hw p v (by simp [Pts.toList]) hb) u hu
  ·exact DQ r (fun q w hm=>hw q w (by simp [Pts.toList,hm])) u hu
end
mutual
theorem DR:∀ (t:Ty),∀ u∈flatT t,u.h.ag≠9
 | .mk h ps,u,hu=>by
  rw [flatT] at hu;split at hu
  ·cases hu
  ·rename_i h9;rcases dg hu with rfl | hu
   ·exact h9
   ·exact DS ps u hu
theorem DS:∀ (ps:Pts),∀ u∈flatP ps,u.h.ag≠9
 | .nil,u,hu=>by cases hu
 | .cons p v r,u,hu=>by
  rw [flatP] at hu;rcases List.mem_append.1 hu with hu | hu
  ·split at hu
   ·cases hu
   ·exact DR v u hu
  ·exact DS r u hu
end
mutual
theorem zE:∀ (t:Ty) (j:Nat) (u:Ty),(flatT t)[j]? = some u->j + u.nn<=t.nn
 | .mk h ps,j,u,hu=>by
  rw [flatT] at hu;by_cases h9:h.ag=9
  ·rw [aj h9] at hu;simp at hu
  rw [ai h9] at hu
  cases j with
  | zero=>grind
  | succ j=>
   simp only [List.getElem?_cons_succ] at hu;have:=r8 ps j u hu;rw [Ty.nn,ai h9];omega
theorem r8:∀ (ps:Pts) (j:Nat) (u:Ty),(flatP ps)[j]? = some u->j + u.nn<=ps.nn
 | .nil,j,u,hu=>by simp [flatP] at hu
 | .cons p v r,j,u,hu=>by
  rw [flatP] at hu;rw [Pts.nn]
  cases hb:p.bare with
  | true=>
   rw [hb] at hu;have:=r8 r j u (sU hu);simp only [if_true];omega
  | false=>
   rw [hb] at hu;simp only [Bool.false_eq_true,if_false] at hu ⊢;by_cases hj:j < (flatT v).length
   ·rw [eF hj] at hu;have:=zE v j u hu;omega
   ·rw [List.getElem?_append_right (by omega)] at hu;have:=r8 r _ u hu;have h2:=ji v;omega
end
theorem qu {lev:List Wd->Int} {s:Sch}:∀ {ps:Pts} {k:Nat} {e:Ed},e∈edsP lev s ps k->∃ p u k',(p,u)∈ps.toList/\e=vX lev p (um s p u k')/\(p.bare=false->k' + u.nn<=k + ps.nn)
 | .nil,k,e,he=>by simp [edsP] at he
 | .cons p u r,k,e,he=>by
  rw [edsP] at he;rcases dg he with rfl | he
  ·grind [Pts.toList,Pts.nn]
  ·obtain ⟨q,v,k',h1,h2,h3⟩:=qu he
   grind [Pts.toList,Pts.nn]
theorem oX {lev:List Wd->Int} {s:Sch}:∀ {ps:Pts} {k:Nat},(edsP lev s ps k).map Ed.name=au (pNames ps)
 | .nil,k=>rfl
 | .cons p u r,k=>by
  rw [edsP,List.map_cons,oX (ps:=r)];rfl
theorem zG {f:Nat->Nat->Bool} {n:Nat} (hL:eY f n):∀ e,e<=n->∃ b,b < n/\∀ x,x < e->f b x=true
 | 0,_=>⟨0,hL.pos,fun x hx=>by omega⟩
 | e + 1,he=>by
  obtain ⟨b,hb,fW⟩:=zG hL e (by omega);obtain ⟨k,hk⟩:=hL.mt b e hb (by omega);obtain ⟨g1,g2,g3,g4⟩:=oV hk;refine ⟨k,g1,fun x hx=>?_⟩;rcases lh hx with hx | rfl
  ·exact hL.tr k b x g1 hb (by omega) g2 (fW x hx)
  ·exact g3
theorem sN {f:Nat->Nat->Bool} {n:Nat} (hL:eY f n) (l:List Nat) (hl:∀ x∈l,x < n):∃ c,ei f n l=some c:=by
 have key:∀ e,e<=l.length->∃ c,ei f n (l.take e)=some c:=by
  intro e
  induction e with
  | zero=>
   intro _;obtain ⟨b,hb,fW⟩:=zG hL n (aJ _);exact ⟨b,oW hL hb fW⟩
  | succ e ih=>
   intro he;obtain ⟨c,hc⟩:=ih (by omega);obtain ⟨x,hx⟩:∃ x,l[e]? = some x:=⟨_,gE (by omega)⟩;have uP:=hl x (mG hx);obtain ⟨k,hk⟩:=hL.jn c x (nS hc) uP;rw [List.take_add_one,hx]
   grind [sK]
 have:=key l.length (aJ _)
 rwa [List.take_length] at this
theorem zH {L:List ByteArray}:∀ {l:List Wd},(labW L l).1=0->∀ w∈l,∃ i,cI L w.s=some i
 | [],_,w,hw=>by cases hw
 | x :: r,h,w,hw=>by
  rw [labW] at h;split at h
  ·cases h
  ·rename_i h1;rcases dg hw with rfl | hw
   ·exact Option.ne_none_iff_exists'.1 h1
   ·exact zH h w hw
theorem Ky {f:Nat->Nat->Bool} {L:List ByteArray} (hL:eY f L.length) {l:List Wd} (h:(labW L l).1=0):∃ c:Nat,AX f L l=c/\c < L.length:=by
 obtain ⟨c,hc⟩:=sN hL (lV L l) (fun x hx=>by
  unfold lV at hx;obtain ⟨w,hw,rfl⟩:=List.mem_map.1 hx;obtain ⟨i,hi⟩:=zH h w hw;rw [hi]
  exact (cQ hi).1)
 refine ⟨c,?_,nS hc⟩;unfold AX;rw [aj h,hc];rfl
structure ZF (L N:Nat) (e:Ed):Prop where
 to0:e.bare=true->e.to = -1
 to1:e.bare=false->∃ k:Nat,e.to=k/\k < N
 lab:∃ k:Nat,e.label=k/\k < L
 seen:∃ k:Nat,e.seen=k/\k < L
 wide:1<=e.wide/\e.wide<=64
 ck:0<=e.ck/\e.ck<=3
 cn:(e.ck=0->e.cn=0)/\(e.ck=1->1<=e.cn)/\(e.ck=2->0<=e.cn/\e.cn<=4096)/\(e.ck=3->e.cn=0)
structure dB (L N:Nat) (n:Nd):Prop where
 k1:1<=n.ag
 k8:n.ag<=8
 lohi:n.ag=2->n.lo<=n.hi
 lo0:n.ag≠2->n.lo=0/\n.hi=0
 Sz:n.ag=3->0<=n.most/\n.most<=4096
 SA:n.ag=5->0<=n.most/\n.most<=1024
 ZG:n.ag≠3->n.ag≠5->n.most=0
 af:n.ag=4->n.af ≠ []/\n.af.length<=64/\n.af.Nodup/\∀ s∈n.af,bc s=true
 UM:n.ag≠4->n.af=[]
 leaf:n.ag < 5->n.aq=[]
 one:n.ag=5∨n.ag=6->∃ e,n.aq=[e]/\e.bare=false/\e.name=emptyB
 many:n.ag=7∨n.ag=8->n.aq.length<=64/\(n.ag=8->n.aq ≠ [])/\(n.aq.map Ed.name).Nodup/\∀ e∈n.aq,bc e.name=true
 bare:∀ e∈n.aq,e.bare=true->n.ag=8
 jV:∀ e∈n.aq,ZF L N e
theorem oY {l:List Wd} (h:∀ j x,l[j]? = some x->aA l j x=0):(au l).Nodup/\∀ x∈l,bc x.s=true:=by
 have key:∀ e,e<=l.length->(au (l.take e)).Nodup:=by
  intro e
  induction e with
  | zero=>intro _;simp [au]
  | succ e ih=>
   intro he;obtain ⟨x,hx⟩:∃ x,l[e]? = some x:=⟨_,gE (by omega)⟩
   grind [lU]
 refine ⟨by have:=key l.length (aJ _);rwa [List.take_length] at this,fun x hx=>?_⟩;obtain ⟨j,hj⟩:=List.mem_iff_getElem?.1 hx
 grind [aA,bc]
theorem r9 {all:List Wd}:∀ {l:List Wd} {i:Nat},(enumL all i l).1=0->∀ j x,l[j]? = some x->aA all (i + j) x=0
 | [],i,_,j,x,hx=>by simp at hx
 | y :: r,i,h,j,x,hx=>by
  rw [enumL] at h;split at h
  ·rename_i h1;exact (h1 h).elim
  ·rename_i h1
   cases j with
   | zero=>grind
   | succ j=>
    simp only [List.getElem?_cons_succ] at hx;have:=r9 h j x hx
    grind
theorem Be {h:Hd} (he:hZ h=(0,0)):h.af ≠ []/\h.af.length<=64/\(au h.af).Nodup/\∀ x∈h.af,bc x.s=true:=by
 unfold hZ at he;split at he
 ·cases he
 ·rename_i h1;split at he
  ·cases he
  ·rename_i h2;refine ⟨h1,by omega,?_⟩
   exact oY fun j x hx=>by
    have:=r9 (all:=h.af) (i:=0) (by rw [he]) j x hx
    rwa [Nat.zero_add] at this
theorem I1 {X:Lx} {L:List ByteArray}:∀ {ps:Pts},(knP X L ps).1=0->∀ {p:Ph} {u:Ty},(p,u)∈ps.toList->(X.bad p.label).1=0/\(X.bad p.cl).1=0
 | .nil,_,p,u,h=>by cases h
 | .cons q v r,hk,p,u,h=>by
  have hr:=(rS hk).2;rw [knP] at hk;split at hk
  ·rename_i h1;exact (h1 hk).elim
  rename_i h1;split at hk
  ·rename_i h2;exact (h2 hk).elim
  rename_i h2;rcases dg h with h | h
  ·grind
  ·exact I1 hr h
theorem nV {p q:Ph} (h:ch p q=true):p.bare=q.bare/\p.wide=q.wide/\p.ck=q.ck/\p.cn=q.cn:=by grind [ch]
theorem NX {w:Int} (h:0<=w/\w<=64):1<=kO w/\kO w<=64:=by
 unfold kO;split<;>omega
theorem GI {p:Ph} (h:(aR p).1=0):(0<=p.ck/\p.ck<=3)/\(p.ck=0->p.cn=0)/\(p.ck=1->1<=p.cn)/\(p.ck=2->0<=p.cn/\p.cn<=4096)/\(p.ck=3->p.cn=0):=by grind [aR]
theorem Kz {p:Ph} (h:(dD p).1=0):(0<=p.wide/\p.wide<=64)/\(aR p).1=0:=by grind [dD,bA]
theorem Bf {t:Ty} (h:t.h.ag≠9):1<=t.nn:=by
 obtain ⟨h',ps⟩:=t;have h:¬ h'.ag=9:=h;rw [Ty.nn,ai h];omega
theorem zI {S:Sch} {k:Nat} {x:Wd × Ty} (hx:S.types[k]? = some x):firstA S k + x.2.nn<=r7 (fB S):=by
 have h1:=nf hx;rw [<- h1]
 have h2:firstA S (k + 1)=r7 ((fA S).take (k + 1)):=by
  unfold firstA r7 fA;rw [<- List.map_take,List.map_map];rfl
 grind [DN,fA,r7,fB,uu]
theorem wJ {lev:List Wd->Int} {s:Sch} {n:Nd}:∀ {l:List Ty} {k i:Nat},(ndsA lev s l k)[i]? = some n->∃ t∈l,∃ u∈flatT t,n=QA lev s u (k + i)/\i + u.nn<=r7 l
 | [],k,i,h=>by simp [ndsA] at h
 | t :: r,k,i,h=>by
  rw [ndsA] at h;rw [ni];have hl:=jJ lev s t k;by_cases hi:i < t.nn
  ·rw [eF (by omega),ur,List.getElem?_map,List.getElem?_zipIdx] at h
   cases hu:(flatT t)[i]? with
   | none=>rw [hu] at h;simp at h
   | some u=>
    rw [hu] at h;simp only [Option.map_some,oI] at h;have:=zE t i u hu;exact ⟨t,List.mem_cons_self,u,mG hu,by rw [<- h];simp,by omega⟩
  ·rw [List.getElem?_append_right (by omega),hl] at h;obtain ⟨t',h1,u,h2,h3,h4⟩:=wJ h
   grind
theorem l5 (S:Sch):(ay S).length=r7 (fB S):=by rw [jj,kT]
theorem sa {S:Sch} (hF:sM S) {i:Nat} {n:Nd} (h:(ay S)[i]? = some n):dB S.ae.length (ay S).length n:=by
 rw [l5];rw [jj] at h;obtain ⟨t,ht,u,hu,rfl,kk⟩:=wJ h;rw [Nat.zero_add];have Gm:=wI t ⟨_,_,hF.wr t ht⟩ u hu;have hk:=wE t (hF.kn t ht) u hu;have hk9:=DR t u hu;have hT:=GH Gm;obtain ⟨ZH,_⟩:=kQ hF.lat;have gW:=dq S.ae;have wH:=hF.ends;obtain ⟨uh,us⟩:=u;simp only [Ty.h,Ty.ps] at hT hk9;have Uv:=(lX hk).2;have cL:=hT.own;unfold vt at cL;simp only [aO,Bool.or_eq_true,decide_eq_true_eq] at cL;obtain ⟨⟨⟨⟨o1,o2⟩,o3⟩,o4⟩,o5⟩:=cL;have k1:=hT.k1;have k9:=hT.k9
 have Se:∀ l:List Wd,(labW (au S.ae) l).1=0->∃ k:Nat,ij S l=k/\k < S.ae.length:=by
  intro l hl;have:=Ky (f:=ee S.ae.length (cW (au S.ae) S.order)) (L:=au S.ae) (by rw [gW];exact ZH) hl
  rwa [gW] at this
 have ox:∀ (p:Ph) (v:Ty) (k':Nat),(p,v)∈us.toList->(p.bare=false->k' + v.nn<=i + 1 + us.nn)->(p.bare=true->um S p v k' = -1)/\(p.bare=false->∃ k:Nat,um S p v k'=k/\k < r7 (fB S)):=by
  intro p v k' hm fW;refine ⟨fun hb=>by simp [um,hb],fun hb=>?_⟩;have hkv:=Bd Uv hm hb;obtain ⟨vh,vs⟩:=v;by_cases h9:vh.ag=9
  ·obtain ⟨j,hj⟩:=Option.ne_none_iff_exists'.1 ((lX hkv).1 h9);have n8:=(cQ hj).1;rw [jI] at n8;obtain ⟨k,hk⟩:=wH j n8;have iT:=qg hk;obtain ⟨x,hx⟩:∃ x,S.types[k]? = some x:=⟨_,gE iT.1⟩;have h1:=zI hx
   grind [Bf,firstA,um,ng,Ty.h,Uu,namedN]
  ·grind [Bf,Ty.nn,um,ng,Ty.h]
 have Dp:∀ p v,(p,v)∈us.toList->(0<=p.wide/\p.wide<=64)/\(0<=p.ck/\p.ck<=3)/\((p.ck=0->p.cn=0)/\(p.ck=1->1<=p.cn)/\(p.ck=2->0<=p.cn/\p.cn<=4096)/\(p.ck=3->p.cn=0))/\(p.bare=true->uh.ag=8):=by
  intro p v hm;obtain ⟨j,hj⟩:=List.mem_iff_getElem?.1 hm
  have hlen:us.len≠0:=by
   cases us with
   | nil=>simp [Pts.toList] at hm
   | cons _ _ _=>simp [Pts.len]
  by_cases h5:uh.ag=5∨uh.ag=6
  ·obtain ⟨q,t',rfl,_,iP,_,_,_⟩:=hT.one h5;simp only [Pts.toList,List.mem_singleton,Prod.mk.injEq] at hm;obtain ⟨rfl,rfl⟩:=hm;obtain ⟨w1,w2,w3,w4⟩:=nV iP;have z1:eS.wide=0:=rfl;have z2:eS.ck=0:=rfl;have z3:eS.cn=0:=rfl;have z4:eS.bare=false:=rfl
   grind
  ·obtain ⟨_,hP⟩:=(hT.many (by omega)).2.2 j p v hj;rcases hP with ⟨hb,h8,_,iP⟩ | ⟨hb,hp,_⟩
   ·obtain ⟨w1,w2,w3,w4⟩:=nV iP;have z1:iH.wide=0:=rfl;have z2:iH.ck=0:=rfl;have z3:iH.cn=0:=rfl;omega
   ·obtain ⟨w1,w2⟩:=Kz hp;obtain ⟨w3,w4⟩:=GI w2
    grind
 have ZI:us.len=0->us = .nil:=fun h=>by
  cases us with
  | nil=>rfl
  | cons _ _ _=>simp [Pts.len] at h
 refine {
  k1:=k1
  k8:=by show uh.ag<=8;omega
  lohi:=hT.int
  lo0:=fun h2=>?_
  Sz:=hT.text
  SA:=fun h5=>?_
  ZG:=fun h3 h5=>?_
  af:=fun h4=>?_
  UM:=fun h4=>?_
  leaf:=fun h5=>?_
  one:=fun h5=>?_
  many:=fun h7=>?_
  bare:=fun e he hb=>?_
  jV:=fun e he=>?_ }
 ·show uh.lo=0/\uh.hi=0;exact o1.resolve_left h2
 ·obtain ⟨q,t',rfl,_,_,mz,iE,_⟩:=hT.one (.inl h5);exact ⟨mz,iE⟩
 ·show uh.most=0;exact o2.resolve_left (fun h=>h.elim h3 h5)
 ·obtain ⟨e1,e2,e3,e4⟩:=Be (hT.enum h4);show au uh.af ≠ []/\(au uh.af).length<=64/\(au uh.af).Nodup/\∀ s∈au uh.af,bc s=true
  grind [au,dq]
 ·show au uh.af=[];have:=o4.resolve_right h4;have:uh.af=[]:=List.eq_nil_of_length_eq_zero this;rw [this];all_goals rfl
 ·show edsP (ij S) S us (i + 1)=[];have hk5:uh.ag < 5:=h5;rw [ZI (o3.resolve_right (by omega))];rfl
 ·show ∃ e,edsP (ij S) S us (i + 1)=[e]/\_;obtain ⟨q,t',rfl,hn,iP,_,_,_⟩:=hT.one h5;refine ⟨vX (ij S) q (um S q t' (i + 1)),rfl,?_,hn⟩;exact (nV iP).1
 ·show (edsP (ij S) S us (i + 1)).length<=64/\(_->edsP (ij S) S us (i + 1) ≠ [])/\((edsP (ij S) S us (i + 1)).map Ed.name).Nodup/\∀ e∈edsP (ij S) S us (i + 1),bc e.name=true;obtain ⟨m1,m2,m3⟩:=hT.many h7;have iQ:∀ j x,(pNames us)[j]? = some x->aA (pNames us) j x=0:=by grind [fN,Pts.dX,fO]
  obtain ⟨n1,n2⟩:=oY iQ;refine ⟨by rw [qh];exact m1,fun h8 hn=>m2 h8 ?_,by rw [oX];exact n1,fun e he=>?_⟩
  ·grind [qh,ij]
  ·have:e.name∈au (pNames us):=by rw [<- oX (lev:=ij S) (s:=S) (k:=i + 1)];exact List.mem_map_of_mem he
   grind [au]
 ·obtain ⟨p,v,k',h1,rfl,_⟩:=qu he;exact (Dp p v h1).2.2.2 hb
 ·obtain ⟨p,v,k',h1,rfl,h3⟩:=qu he;obtain ⟨h4,h5⟩:=ox p v k' h1 h3;obtain ⟨h6,h7,h8,_⟩:=Dp p v h1;obtain ⟨h9,sx⟩:=I1 Uv h1;exact { to0:=h4,to1:=h5,lab:=Se _ h9,seen:=Se _ sx,wide:=NX h6,ck:=h7,cn:=h8 }
theorem GJ {S:Sch} (hF:sM S):∃ k:Nat,bz S=k/\k < (ay S).length:=by
 rw [l5];have IL:=hF.kn S.root (by unfold fB;simp);have wH:=hF.ends;have gD:=wz S;have Pq:r7 (fB S)=r7 (fA S) + S.root.nn:=by unfold fB;rw [uu];simp [r7]
 unfold bz;obtain ⟨ae,order,types,⟨rh,rp⟩⟩:=S;simp only at IL wH Pq;by_cases h9:rh.ag=9
 ·obtain ⟨j,hj⟩:=Option.ne_none_iff_exists'.1 ((lX IL).1 h9);have n8:=(cQ hj).1;rw [jI] at n8;obtain ⟨k,hk⟩:=wH j n8;have iT:=qg hk;obtain ⟨x,hx⟩:∃ x,(Sch.mk ae order types (.mk rh rp)).types[k]? = some x:=⟨_,gE iT.1⟩;have h1:=zI hx
  grind [Bf,firstA,ng,Ty.h,Uu,namedN]
 ·grind [Bf,qj,ng,Ty.h]
theorem wK {lev:List Wd->Int} {s:Sch} {n:Nd}:∀ {l:List Ty} {k:Nat},n∈ndsA lev s l k->∃ t∈l,∃ u∈flatT t,∃ k',n=QA lev s u k'
 | [],_,h=>by cases h
 | t :: r,k,h=>by
  rw [ndsA] at h;rcases List.mem_append.1 h with h | h
  ·grind [ur]
  ·obtain ⟨t',ht,h⟩:=wK h;exact ⟨t',ir _ ht,h⟩
theorem nW {S:Sch} {n:Nd} (h:n∈ay S) (hS:S.wt<=1099511627776):n.af.length<=1099511627776/\n.aq.length<=1099511627776:=by
 rw [jj] at h;obtain ⟨t,ht,u,hu,k,rfl⟩:=wK h;have h1:=Ba hS t ht;have h2:=wF t u hu;obtain ⟨uh,us⟩:=u;have h3:=bi uh.af;have h4:=us.fk
 grind [Ty.wt,Hd.wt,QA,Ty.h,Ty.ps,dq,qh]
abbrev zNd:List DV:=[.v (.int .i64 0),.v (.int .i64 0),.v (.int .i64 0),.v (.int .i64 0),.v (.int .i64 0),.v (.slice none 0 0),.v (.slice none 0 0)]
structure iM (S:Sch) (ND:List Nd) (PC:List DV):Prop where
 fine:sM S
 wt:S.wt<=1099511627776
 B2:ND=ay S
 ok:∀ n∈ND,dB S.ae.length ND.length n
 nl:ND.length<=1099511627776
 len:EvP prog 94 [.pt PC 0] (.v (.int .i64 ND.length))
 root:EvP prog 37 [.pt PC 0] (.v (.int .i64 (bz S)))
 ah:∀ (i:Nat) n,ND[i]? = some n->EvP prog 36 [.pt PC 0,.v (.int .i64 i)] (.tup [.agg (kN n),.v (.bool true)])
 SB:∀ i:Int,(i < 0∨ND.length<=i)->EvP prog 36 [.pt PC 0,.v (.int .i64 i)] (.tup [.agg zNd,.v (.bool false)])
 lat:∃ az js,(dm S az js).OK/\EvP prog 72 [.pt PC 0] (dm S az js).pd
theorem NY {S:Sch} {d:DV} (hS:S.wt<=1099511627776) (h0:(kx S).1=0) (hd:NC S d):∃ PC,d = .pt PC 0/\iM S (ay S) PC:=by
 obtain ⟨az,ky,js,hX,hT,kB,rfl⟩:=hd;have hF:=qp h0;have bM:=fun n (h:n∈ay S)=>nW h hS
 refine ⟨_,rfl,{
  fine:=hF
  wt:=hS
  B2:=rfl
  ok:=fun n hn=>?_
  nl:=by rw [l5];exact Nat.le_trans (GG S) hS
  len:=rU _ _ _ _ _ _
  root:=Gp _ _ _ _ _ _
  ah:=fun i n h=>Gq _ _ _ _ _ _ i n h (bM n (mG h)).1 (bM n (mG h)).2
  SB:=fun i h=>Gr _ _ _ _ _ _ i h
  lat:=⟨az,js,hX,Ko _ _ _ _ _ _⟩ }⟩
 obtain ⟨i,hi⟩:=List.mem_iff_getElem?.1 hn;exact sa hF hi
def GK (S:Sch) (r:DV):Prop:=((kx S).1≠0/\r = .tup [.v (.pointer none),(kx S).d])∨((kx S).1=0/\∃ PC,iM S (ay S) PC/\r = .tup [.pt PC 0,Ft.d (0,0)])
theorem zJ {S:Sch} (hS:S.wt<=1099511627776) {r:DV} {os:List (List DV)} {tk:List TkE} (h:Gk S r os tk):GK S r:=by
 unfold Gk at h;by_cases h0:(kx S).1=0
 ·rw [ai (by rw [h0];simp)] at h;obtain ⟨d,hd,rfl⟩:=h;obtain ⟨PC,rfl,hP⟩:=NY hS h0 hd;exact .inr ⟨h0,PC,hP,rfl⟩
 ·rw [aj h0] at h;exact .inl ⟨h0,h⟩
inductive Val where
 | mk (k n:Int) (s:ByteArray) (ks:List Val)
def Val.k:Val->Int | .mk k _ _ _=>k
def Val.n:Val->Int | .mk _ n _ _=>n
def Val.s:Val->ByteArray | .mk _ _ s _=>s
def Val.ks:Val->List Val | .mk _ _ _ ks=>ks
mutual
def dVal:Val->List DV
 | .mk k n s ks=>[.v (.int .i64 k),.v (.int .i64 n),.v (.string s),.sl 4 (dVals ks) none]
def dVals:List Val->List (List DV)
 | []=>[]
 | v :: r=>dVal v :: dVals r
end
theorem kU:∀ l:List Val,dVals l=l.map dVal
 | []=>rfl
 | v :: r=>by rw [dVals,kU r];all_goals rfl
theorem aX (l:List Val):(dVals l).length=l.length:=by rw [kU,List.length_map]
theorem dVals_get {l:List Val} {e:Nat} {x:Val} (h:l[e]? = some x):(dVals l)[e]? = some (dVal x):=by rw [kU,List.getElem?_map,h];all_goals rfl
theorem wM {l:List Val} {e:Nat} {x:Val} (h:l[e]? = some x):dVals (l.take e) ++ [dVal x]=dVals (l.take (e + 1)):=by
 rw [kU,kU,List.take_add_one,h];simp
mutual
def Val.wt:Val->Nat
 | .mk _ _ s ks=>64 + s.size + cF ks
def cF:List Val->Nat
 | []=>0
 | v :: r=>v.wt + cF r
end
theorem Val.cT:∀ v:Val,64<=v.wt
 | .mk _ _ _ _=>by rw [Val.wt];omega
theorem cJ:∀ {l:List Val} {x:Val},x∈l->x.wt<=cF l
 | v :: r,x,h=>by
  rcases dg h with rfl | h
  ·rw [cF];omega
  ·have:=cJ h;rw [cF];omega
theorem cw:∀ l:List Val,64 * l.length<=cF l
 | []=>aJ _
 | v :: r=>by
  have:=cw r;have:=v.cT;rw [cF,List.length_cons];omega
mutual
def wN:Val->Nat
 | .mk _ _ _ ks=>1 + kV ks
def kV:List Val->Nat
 | []=>0
 | v :: r=>wN v + kV r
end
mutual
def yg:Val->Nat
 | .mk _ _ _ ks=>gM ks + 1
def gM:List Val->Nat
 | []=>0
 | v :: r=>max (yg v) (gM r)
end
mutual
theorem I2:∀ v:Val,wN v<=v.wt/\yg v<=v.wt
 | .mk _ _ _ ks=>by
  have:=wO ks;rw [wN,yg,Val.wt];omega
theorem wO:∀ l:List Val,kV l<=cF l/\gM l<=cF l
 | []=>⟨aJ _,aJ _⟩
 | v :: r=>by
  have h1:=I2 v;have h2:=wO r;rw [kV,gM,cF];omega
end
theorem wP:∀ (l:List Val) (x:Val),kV (l ++ [x])=kV l + wN x
 | [],x=>by simp [kV]
 | v :: r,x=>by rw [List.cons_append,kV,kV,wP r];omega
theorem wQ:∀ (l:List Val) (x:Val),gM (l ++ [x])=max (gM l) (yg x)
 | [],x=>by simp [gM]
 | v :: r,x=>by rw [List.cons_append,gM,gM,wQ r];omega
theorem zK {α:Type} {l:List α} {e:Nat} {x:α} (h:l[e]? = some x):l.take (e + 1)=l.take e ++ [x]:=by rw [List.take_add_one,h];all_goals rfl
theorem GL (l:List Val):∀ e,kV (l.take e)<=cF l/\gM (l.take e)<=cF l:=fun e=>by
 have h1:=wO (l.take e)
 have h2:∀ (l:List Val) e,cF (l.take e)<=cF l:=by
  intro l
  induction l with
  | nil=>intro e;simp [cF]
  | cons v r ih=>
   intro e
   cases e with
   | zero=>simp [cF]
   | succ e=>have:=ih e;simp only [List.take_succ_cons,cF];omega
 have:=h2 l e;omega
abbrev szSt (v:Val) (n d e:Nat):St:=
 ⟨[aw 1 0,ap 4 n,ap 5 d,ap 6 e],[dVal v],[]⟩
theorem sO:∀ (k:Nat) (v:Val),v.wt<=k->v.wt<=1099511627776->EvP prog 42 [.agg (dVal v)] (.tup [.v (.int .i64 (wN v:Nat)),.v (.int .i64 (yg v:Nat))])
 | 0,v,h,_=>by have:=v.cT;omega
 | k + 1,.mk q n s ks,h,hb=>by
  have ih:=sO k;have dc:=aX ks;have iT:=cw ks;have iG:=GL ks;rw [Val.wt] at h hb;rw [wN,yg];refine eG 35 [.tmp 2,.tmp 3] func42 rfl ntmps42 rfl fun _ _ _ _=>?_;refine lJ (fun e=>szSt (.mk q n s ks) (1 + kV (ks.take e)) (gM (ks.take e)) e) ks.length (wkM wB) ?_;intro e he;refine br ?_ ?_<;>intro hL
  ·have al:e < ks.length:=by have:=hL;simp [dc] at this;exact this
   obtain ⟨x,hx⟩:=gX al;have O4:=cJ (mG hx);have hc:=wP (ks.take e) x;have hd:=wQ (ks.take e) x;rw [<- zK hx] at hc hd;have h1:=iG (e + 1);have hi:=ih x (by omega) (by omega);have SC:=I2 x;obtain ⟨xk,xn,xs,xl⟩:=x;refine iX (dVals_get hx) ?_;refine cP WH hi ?_;have hw:IntKind.i64.wrap (((1 + kV (ks.take e):Nat):Int) + ((wN (.mk xk xn xs xl):Nat):Int))=((1 + kV (ks.take (e + 1)):Nat):Int):=by rw [wrap64 (by omega) (by omega)];omega
   refine br ?_ ?_<;>intro g
   ·have g:gM (ks.take e) < yg (.mk xk xn xs xl):=sU g;have LS:((yg (.mk xk xn xs xl):Nat):Int)=((gM (ks.take (e + 1)):Nat):Int):=by omega
    exact rE ⟨_,by omega,e + 1,rfl,by omega,rfl⟩ (wkM (Ra hw LS (nxt al (by omega))))
   ·have g:¬ gM (ks.take e) < yg (.mk xk xn xs xl):=sU g;have LS:((gM (ks.take e):Nat):Int)=((gM (ks.take (e + 1)):Nat):Int):=by omega
    exact rE ⟨_,by omega,e + 1,rfl,by omega,rfl⟩ (wkM (Ra hw LS (nxt al (by omega))))
  ·have aM:e=ks.length:=sW dc hL;subst aM;have h1:=iG ks.length;rw [List.take_length] at h1 ⊢;have hw:IntKind.i64.wrap (((gM ks:Nat):Int) + 1)=((gM ks + 1:Nat):Int):=by rw [wrap64 (by omega) (by omega)];omega
   refine ⟨_,(ra hw),rfl⟩
theorem sP:prog.cellsOf 34=4:=by kernel_rfl
end Go.Proofs.YtgjagnmeonoehaaGreat
namespace Go.Proofs.YtgjagnmeonoehaaGreat
open Go Go.RowKit Dv
def tyVS:List TypeId:=[34,32,9,3]
theorem tyVS_ok:∀ t∈tyVS,lN Tryz.prog tyVS t=true:=by
 have h:(tyVS.all fun t=>lN Tryz.prog tyVS t)=true:=by kernel_rfl
 exact fun t ht=>List.all_eq_true.1 h t ht
end Go.Proofs.YtgjagnmeonoehaaGreat
set_option maxRecDepth 100000
namespace Go.Proofs.YtgjagnmeonoehaaGreat
open Go Go.RowKit Dv Go.Proofs.Tryz
def aF (n u:Int):Int × Bool:=if u < 1 then (0,false) else if n - n % u < -9223372036854775808 then (0,false) else (n - n % u,true)
def wR (r:Int × Bool):DV:=.tup [.v (.int .i64 r.1),.v (.bool r.2)]
theorem qv {n u:Int} (hu:1<=u):(n.tmod u < 0->n.tmod u + u=n % u)/\(¬ n.tmod u < 0->n.tmod u=n % u):=by
 have h1:=Int.emod_nonneg n (show u≠0 by omega);have h2:=Int.emod_lt_of_pos n (show 0 < u by omega);have h3:=Int.tmod_eq_emod (a:=n) (b:=u);have h4:(u.natAbs:Int)=u:=Int.natAbs_of_nonneg (by omega);rw [h3];split<;>omega
theorem l6 (n u:Int) (hn : -9223372036854775808<=n/\n<=9223372036854775807) (hu : -9223372036854775808<=u/\u<=9223372036854775807):EvP prog 214 [.v (.int .i64 n),.v (.int .i64 u)] (wR (aF n u)):=by
 have hF:aF n u=if u < 1 then (0,false) else if n - n % u < -9223372036854775808 then (0,false) else (n - n % u,true):=rfl
 generalize aF n u=F at hF ⊢;refine eG 24 [.tmp 4,.tmp 5] func214 rfl ntmps214 rfl fun _ _ _ _=>?_;refine br ?_ ?_<;>intro c
 ·have c:u < 1:=sU c;rw [aj c] at hF;subst hF;exact ⟨_,ax,rfl⟩
 have c:¬ u < 1:=sU c;rw [ai c] at hF;have hm:=qv (n:=n) (u:=u) (by omega);have h1:=Int.emod_nonneg n (show u≠0 by omega);have h2:=Int.emod_lt_of_pos n (show 0 < u by omega);have h5 : -u<=n.tmod u/\n.tmod u < u:=by omega
 have OX:IntKind.i64.wrap (-9223372036854775808 + n % u) = -9223372036854775808 + n % u:=wrap64 (by omega) (by omega);refine ⟨⟨rfl,by omega⟩,?_⟩;refine br ?_ ?_<;>intro g
 ·have g:n.tmod u < 0:=sU g;have nG:IntKind.i64.wrap (n.tmod u + u)=n % u:=by rw [hm.1 g];exact wrap64 (by omega) (by omega)
  refine br ?_ ?_<;>intro h
  ·have h:n < IntKind.i64.wrap (-9223372036854775808 + IntKind.i64.wrap (n.tmod u + u)):=sU h;rw [nG,OX] at h;rw [aj (by omega)] at hF;subst hF;exact ⟨_,ax,rfl⟩
  ·have h:¬ n < IntKind.i64.wrap (-9223372036854775808 + IntKind.i64.wrap (n.tmod u + u)):=sU h;rw [nG,OX] at h;rw [ai (by omega)] at hF;have sE:IntKind.i64.wrap (n - IntKind.i64.wrap (n.tmod u + u))=n - n % u:=by rw [nG];exact wrap64 (by omega) (by omega)
   refine ⟨.tup [.v (.int .i64 (IntKind.i64.wrap (n - IntKind.i64.wrap (n.tmod u + u)))),.v (.bool true)],ax,?_⟩;rw [hF];exact congrArg (fun z=>DV.tup [.v (.int .i64 z),.v (.bool true)]) sE
 ·have g:¬ n.tmod u < 0:=sU g;have nG:n.tmod u=n % u:=hm.2 g;refine br ?_ ?_<;>intro h
  ·have h:n < IntKind.i64.wrap (-9223372036854775808 + n.tmod u):=sU h;rw [nG,OX] at h;rw [aj (by omega)] at hF;subst hF;exact ⟨_,ax,rfl⟩
  ·have h:¬ n < IntKind.i64.wrap (-9223372036854775808 + n.tmod u):=sU h;rw [nG,OX] at h;rw [ai (by omega)] at hF;have sE:IntKind.i64.wrap (n - n.tmod u)=n - n % u:=by rw [nG];exact wrap64 (by omega) (by omega)
   refine ⟨.tup [.v (.int .i64 (IntKind.i64.wrap (n - n.tmod u))),.v (.bool true)],ax,?_⟩;rw [hF];exact congrArg (fun z=>DV.tup [.v (.int .i64 z),.v (.bool true)]) sE
theorem emod_le {a u:Int} (ha:0<=a) (hu:1<=u):a % u<=a:=by
 have h1:=Int.mul_ediv_add_emod a u;have h2:=Int.mul_nonneg (show 0<=u by omega) (Int.ediv_nonneg ha (show 0<=u by omega));omega
theorem tdiv_le {n u:Int} (hu:1<=u):(0<=n.tdiv u->n.tdiv u<=n.tdiv u * u)/\(n.tdiv u<=0->n.tdiv u * u<=n.tdiv u):=by
 constructor
 ·intro h;have:=Int.mul_le_mul_of_nonneg_left hu h
  rwa [Int.mul_one] at this
 ·intro h;have:=Int.mul_le_mul_of_nonneg_left hu (show 0 <= -(n.tdiv u) by omega);rw [Int.mul_one,Int.neg_mul] at this;omega
theorem Bg {q u l:Int} (hu:1<=u) (hl:l<=0):q < l.tdiv u↔q * u < l:=by
 have h1:=Int.mul_tdiv_add_tmod l u;rw [Int.mul_comm] at h1;have hm:=qv (n:=l) (u:=u) hu;have h2:=Int.emod_nonneg l (show u≠0 by omega);have h3:=Int.emod_lt_of_pos l (show 0 < u by omega)
 have h4 : -u < l.tmod u/\l.tmod u<=0:=by
  have h5:(-l).tmod u = -(l.tmod u):=Int.neg_tmod ..;have h6:(-l).tmod u=(-l) % u:=Int.tmod_eq_emod_of_nonneg (by omega);have h7:=Int.emod_nonneg (-l) (show u≠0 by omega);have h8:=Int.emod_lt_of_pos (-l) (show 0 < u by omega);omega
 constructor
 ·intro h;have:=Int.mul_le_mul_of_nonneg_right (a:=q + 1) (b:=l.tdiv u) (c:=u) (by omega) (by omega);rw [Int.add_mul,Int.one_mul] at this;omega
 ·intro h;rcases Int.lt_or_le q (l.tdiv u) with h9 | h9
  ·exact h9
  ·have:=Int.mul_le_mul_of_nonneg_right (a:=l.tdiv u) (b:=q) (c:=u) (by omega) (by omega);omega
theorem Bh (n u:Int) (hn : -9223372036854775808<=n/\n<=9223372036854775807) (hu : -9223372036854775808<=u/\u<=9223372036854775807):EvP prog 211 [.v (.int .i64 n),.v (.int .i64 u)] (wR (aF n u)):=by
 have hF:aF n u=if u < 1 then (0,false) else if n - n % u < -9223372036854775808 then (0,false) else (n - n % u,true):=rfl
 generalize aF n u=F at hF ⊢;refine eG 26 [.tmp 4,.tmp 5] func211 rfl ntmps211 rfl fun _ _ _ _=>?_;refine br ?_ ?_<;>intro c
 ·have c:u < 1:=sU c;rw [aj c] at hF;subst hF;exact ⟨_,ax,rfl⟩
 have c:¬ u < 1:=sU c;rw [ai c] at hF;have h1:=Int.emod_nonneg n (show u≠0 by omega);have h2:=Int.emod_lt_of_pos n (show 0 < u by omega);have hT:=Int.mul_tdiv_add_tmod n u;rw [Int.mul_comm] at hT;have hm:=qv (n:=n) (u:=u) (by omega);have hb:=tdiv_le (n:=n) (u:=u) (by omega);have hbl:=tdiv_le (n:=-9223372036854775808) (u:=u) (by omega);have hl:=Int.mul_tdiv_add_tmod (-9223372036854775808) u;rw [Int.mul_comm] at hl;have dF:=qv (n:=-9223372036854775808) (u:=u) (by omega);have hml1:=Int.emod_nonneg (-9223372036854775808) (show u≠0 by omega);have hml2:=Int.emod_lt_of_pos (-9223372036854775808) (show 0 < u by omega)
 have hsg:(0<=n->0<=n.tmod u/\n.tmod u<=n)/\(n<=0->n.tmod u<=0/\n<=n.tmod u):=by
  constructor
  ·intro h;rw [Int.tmod_eq_emod_of_nonneg h];exact ⟨h1,emod_le h (by omega)⟩
  ·intro h;have h5:(-n).tmod u = -(n.tmod u):=Int.neg_tmod ..;rw [Int.tmod_eq_emod_of_nonneg (by omega)] at h5;have h7:=Int.emod_nonneg (-n) (show u≠0 by omega);have h8:=emod_le (show 0 <= -n by omega) (show 1<=u by omega);omega
 have mh:(-9223372036854775808:Int).tmod u<=0 /\ -9223372036854775808<=(-9223372036854775808:Int).tmod u:=by
  have h5:(-(-9223372036854775808):Int).tmod u = -((-9223372036854775808:Int).tmod u):=Int.neg_tmod ..;rw [Int.tmod_eq_emod_of_nonneg (by omega)] at h5;have h7:=Int.emod_nonneg (-(-9223372036854775808)) (show u≠0 by omega);have h8:=emod_le (show (0:Int) <= -(-9223372036854775808) by omega) (show 1<=u by omega);omega
 have hTr : -9223372036854775808<=n.tdiv u/\n.tdiv u<=9223372036854775807:=by omega
 have hLr : -9223372036854775808<=(-9223372036854775808:Int).tdiv u/\(-9223372036854775808:Int).tdiv u<=9223372036854775807:=by omega
 have hw5:IntKind.i64.wrap ((-9223372036854775808:Int).tdiv u)=(-9223372036854775808:Int).tdiv u:=wrap64 (by omega) (by omega);have hw1:IntKind.i64.wrap (n.tdiv u)=n.tdiv u:=wrap64 (by omega) (by omega);have nG:IntKind.i64.wrap (IntKind.i64.wrap (n.tdiv u) * u)=n.tdiv u * u:=by rw [hw1];exact wrap64 (by omega) (by omega)
 refine ⟨⟨rfl,by omega⟩,?_⟩;refine br ?_ ?_<;>intro g
 ·have g:n < IntKind.i64.wrap (IntKind.i64.wrap (n.tdiv u) * u):=sU g;rw [nG] at g;have hR:n.tmod u < 0:=by omega
  have Zp:=hm.1 hR;have hqr : -9223372036854775808<=n.tdiv u - 1:=by omega
  have tE:IntKind.i64.wrap (IntKind.i64.wrap (n.tdiv u) - 1)=n.tdiv u - 1:=by rw [hw1];exact wrap64 hqr (by omega)
  have UN:(n.tdiv u - 1) * u=n - n % u:=by rw [Int.sub_mul,Int.one_mul];omega
  refine ⟨⟨rfl,by omega⟩,?_⟩;refine br ?_ ?_<;>intro h
  ·have h:IntKind.i64.wrap (IntKind.i64.wrap (n.tdiv u) - 1) < IntKind.i64.wrap ((-9223372036854775808:Int).tdiv u):=sU h;rw [hw5,tE,Bg (by omega) (by omega),UN] at h;rw [aj (by omega)] at hF;subst hF;exact ⟨_,ax,rfl⟩
  ·have h:¬ IntKind.i64.wrap (IntKind.i64.wrap (n.tdiv u) - 1) < IntKind.i64.wrap ((-9223372036854775808:Int).tdiv u):=sU h;rw [hw5,tE,Bg (by omega) (by omega),UN] at h;rw [ai (by omega)] at hF;have sE:IntKind.i64.wrap (IntKind.i64.wrap (IntKind.i64.wrap (n.tdiv u) - 1) * u)=n - n % u:=by rw [tE,UN];exact wrap64 (by omega) (by omega)
   refine ⟨.tup [.v (.int .i64 (IntKind.i64.wrap (IntKind.i64.wrap (IntKind.i64.wrap (n.tdiv u) - 1) * u))),.v (.bool true)],ax,?_⟩;rw [hF];exact congrArg (fun z=>DV.tup [.v (.int .i64 z),.v (.bool true)]) sE
 ·have g:¬ n < IntKind.i64.wrap (IntKind.i64.wrap (n.tdiv u) * u):=sU g;rw [nG] at g;have hR:¬ n.tmod u < 0:=by omega
  have Zp:=hm.2 hR;have tE:=hw1;have UN:n.tdiv u * u=n - n % u:=by omega
  refine ⟨⟨rfl,by omega⟩,?_⟩;refine br ?_ ?_<;>intro h
  ·have h:IntKind.i64.wrap (n.tdiv u) < IntKind.i64.wrap ((-9223372036854775808:Int).tdiv u):=sU h;rw [hw5,tE,Bg (by omega) (by omega),UN] at h;rw [aj (by omega)] at hF;subst hF;exact ⟨_,ax,rfl⟩
  ·have h:¬ IntKind.i64.wrap (n.tdiv u) < IntKind.i64.wrap ((-9223372036854775808:Int).tdiv u):=sU h;rw [hw5,tE,Bg (by omega) (by omega),UN] at h;rw [ai (by omega)] at hF;have sE:IntKind.i64.wrap (IntKind.i64.wrap (n.tdiv u) * u)=n - n % u:=by rw [tE,UN];exact wrap64 (by omega) (by omega)
   refine ⟨.tup [.v (.int .i64 (IntKind.i64.wrap (IntKind.i64.wrap (n.tdiv u) * u))),.v (.bool true)],ax,?_⟩;rw [hF];exact congrArg (fun z=>DV.tup [.v (.int .i64 z),.v (.bool true)]) sE
def aE (c:Nat):Nat:=if c < 128 then 1 else if 194<=c/\c<=223 then 2 else if 224<=c/\c<=239 then 3 else if 240<=c/\c<=244 then 4 else 0
def gN (c:Nat):Nat:=if c=224 then 160 else if c=240 then 144 else 128
def gO (c:Nat):Nat:=if c=237 then 159 else if c=244 then 143 else 191
theorem KA (c:Nat):EvP prog 337 [.v (.int .u8 c)] (.tup [.v (.int .i64 (aE c:Nat)),.v (.int .u8 (gN c:Nat)),.v (.int .u8 (gO c:Nat))]):=by
 have hN:aE c=if c < 128 then 1 else if 194<=c/\c<=223 then 2 else if 224<=c/\c<=239 then 3 else if 240<=c/\c<=244 then 4 else 0:=rfl
 have hL:gN c=if c=224 then 160 else if c=240 then 144 else 128:=rfl
 have hH:gO c=if c=237 then 159 else if c=244 then 143 else 191:=rfl
 generalize aE c=N at hN ⊢;generalize gN c=L at hL ⊢;generalize gO c=H at hH ⊢;refine eG 41 [.tmp 2,.tmp 3,.tmp 4] func337 rfl ntmps337 rfl fun _ _ _ _=>?_;refine br ?_ ?_<;>intro c1
 ·have c1:(c:Int) < 128:=sU c1;refine br ?_ ?_<;>intro g
  ·have g:(c:Int)=224:=sU g
   have hn:N=1:=by
    rw [hN]
    repeat' split
    all_goals omega
   have hl:L=160:=by
    rw [hL]
    repeat' split
    all_goals omega
   have hh:H=191:=by
    rw [hH]
    repeat' split
    all_goals omega
   rw [hn,hl,hh];exact ⟨_,ax,rfl⟩
  have QD:¬ (c:Int)=224:=sU g;refine br ?_ ?_<;>intro g
  ·have g:(c:Int)=237:=sU g
   have hn:N=1:=by
    rw [hN]
    repeat' split
    all_goals omega
   have hl:L=128:=by
    rw [hL]
    repeat' split
    all_goals omega
   have hh:H=159:=by
    rw [hH]
    repeat' split
    all_goals omega
   rw [hn,hl,hh];exact ⟨_,ax,rfl⟩
  have QE:¬ (c:Int)=237:=sU g;refine br ?_ ?_<;>intro g
  ·have g:(c:Int)=240:=sU g
   have hn:N=1:=by
    rw [hN]
    repeat' split
    all_goals omega
   have hl:L=144:=by
    rw [hL]
    repeat' split
    all_goals omega
   have hh:H=191:=by
    rw [hH]
    repeat' split
    all_goals omega
   rw [hn,hl,hh];exact ⟨_,ax,rfl⟩
  have QF:¬ (c:Int)=240:=sU g;refine br ?_ ?_<;>intro g
  ·have g:(c:Int)=244:=sU g
   have hn:N=1:=by
    rw [hN]
    repeat' split
    all_goals omega
   have hl:L=128:=by
    rw [hL]
    repeat' split
    all_goals omega
   have hh:H=143:=by
    rw [hH]
    repeat' split
    all_goals omega
   rw [hn,hl,hh];exact ⟨_,ax,rfl⟩
  have QG:¬ (c:Int)=244:=sU g
  have hn:N=1:=by
   rw [hN]
   repeat' split
   all_goals omega
  have hl:L=128:=by
   rw [hL]
   repeat' split
   all_goals omega
  have hh:H=191:=by
   rw [hH]
   repeat' split
   all_goals omega
  rw [hn,hl,hh];exact ⟨_,ax,rfl⟩
 have c1:¬ (c:Int) < 128:=sU c1;refine br ?_ ?_<;>intro k
 ·have k:194<=(c:Int)/\(c:Int)<=223:=by simpa [pickB_and] using k
  refine br ?_ ?_<;>intro g
  ·have g:(c:Int)=224:=sU g
   have hn:N=2:=by
    rw [hN]
    repeat' split
    all_goals omega
   have hl:L=160:=by
    rw [hL]
    repeat' split
    all_goals omega
   have hh:H=191:=by
    rw [hH]
    repeat' split
    all_goals omega
   rw [hn,hl,hh];exact ⟨_,ax,rfl⟩
  have QD:¬ (c:Int)=224:=sU g;refine br ?_ ?_<;>intro g
  ·have g:(c:Int)=237:=sU g
   have hn:N=2:=by
    rw [hN]
    repeat' split
    all_goals omega
   have hl:L=128:=by
    rw [hL]
    repeat' split
    all_goals omega
   have hh:H=159:=by
    rw [hH]
    repeat' split
    all_goals omega
   rw [hn,hl,hh];exact ⟨_,ax,rfl⟩
  have QE:¬ (c:Int)=237:=sU g;refine br ?_ ?_<;>intro g
  ·have g:(c:Int)=240:=sU g
   have hn:N=2:=by
    rw [hN]
    repeat' split
    all_goals omega
   have hl:L=144:=by
    rw [hL]
    repeat' split
    all_goals omega
   have hh:H=191:=by
    rw [hH]
    repeat' split
    all_goals omega
   rw [hn,hl,hh];exact ⟨_,ax,rfl⟩
  have QF:¬ (c:Int)=240:=sU g;refine br ?_ ?_<;>intro g
  ·have g:(c:Int)=244:=sU g
   have hn:N=2:=by
    rw [hN]
    repeat' split
    all_goals omega
   have hl:L=128:=by
    rw [hL]
    repeat' split
    all_goals omega
   have hh:H=143:=by
    rw [hH]
    repeat' split
    all_goals omega
   rw [hn,hl,hh];exact ⟨_,ax,rfl⟩
  have QG:¬ (c:Int)=244:=sU g
  have hn:N=2:=by
   rw [hN]
   repeat' split
   all_goals omega
  have hl:L=128:=by
   rw [hL]
   repeat' split
   all_goals omega
  have hh:H=191:=by
   rw [hH]
   repeat' split
   all_goals omega
  rw [hn,hl,hh];exact ⟨_,ax,rfl⟩
 have k194:¬ (194<=(c:Int)/\(c:Int)<=223):=by simpa [pickB_and] using k
 refine br ?_ ?_<;>intro k
 ·have k:224<=(c:Int)/\(c:Int)<=239:=by simpa [pickB_and] using k
  refine br ?_ ?_<;>intro g
  ·have g:(c:Int)=224:=sU g
   have hn:N=3:=by
    rw [hN]
    repeat' split
    all_goals omega
   have hl:L=160:=by
    rw [hL]
    repeat' split
    all_goals omega
   have hh:H=191:=by
    rw [hH]
    repeat' split
    all_goals omega
   rw [hn,hl,hh];exact ⟨_,ax,rfl⟩
  have QD:¬ (c:Int)=224:=sU g;refine br ?_ ?_<;>intro g
  ·have g:(c:Int)=237:=sU g
   have hn:N=3:=by
    rw [hN]
    repeat' split
    all_goals omega
   have hl:L=128:=by
    rw [hL]
    repeat' split
    all_goals omega
   have hh:H=159:=by
    rw [hH]
    repeat' split
    all_goals omega
   rw [hn,hl,hh];exact ⟨_,ax,rfl⟩
  have QE:¬ (c:Int)=237:=sU g;refine br ?_ ?_<;>intro g
  ·have g:(c:Int)=240:=sU g
   have hn:N=3:=by
    rw [hN]
    repeat' split
    all_goals omega
   have hl:L=144:=by
    rw [hL]
    repeat' split
    all_goals omega
   have hh:H=191:=by
    rw [hH]
    repeat' split
    all_goals omega
   rw [hn,hl,hh];exact ⟨_,ax,rfl⟩
  have QF:¬ (c:Int)=240:=sU g;refine br ?_ ?_<;>intro g
  ·have g:(c:Int)=244:=sU g
   have hn:N=3:=by
    rw [hN]
    repeat' split
    all_goals omega
   have hl:L=128:=by
    rw [hL]
    repeat' split
    all_goals omega
   have hh:H=143:=by
    rw [hH]
    repeat' split
    all_goals omega
   rw [hn,hl,hh];exact ⟨_,ax,rfl⟩
  have QG:¬ (c:Int)=244:=sU g
  have hn:N=3:=by
   rw [hN]
   repeat' split
   all_goals omega
  have hl:L=128:=by
   rw [hL]
   repeat' split
   all_goals omega
  have hh:H=191:=by
   rw [hH]
   repeat' split
   all_goals omega
  rw [hn,hl,hh];exact ⟨_,ax,rfl⟩
 have k224:¬ (224<=(c:Int)/\(c:Int)<=239):=by simpa [pickB_and] using k
 refine br ?_ ?_<;>intro k
 ·have k:240<=(c:Int)/\(c:Int)<=244:=by simpa [pickB_and] using k
  refine br ?_ ?_<;>intro g
  ·have g:(c:Int)=224:=sU g
   have hn:N=4:=by
    rw [hN]
    repeat' split
    all_goals omega
   have hl:L=160:=by
    rw [hL]
    repeat' split
    all_goals omega
   have hh:H=191:=by
    rw [hH]
    repeat' split
    all_goals omega
   rw [hn,hl,hh];exact ⟨_,ax,rfl⟩
  have QD:¬ (c:Int)=224:=sU g;refine br ?_ ?_<;>intro g
  ·have g:(c:Int)=237:=sU g
   have hn:N=4:=by
    rw [hN]
    repeat' split
    all_goals omega
   have hl:L=128:=by
    rw [hL]
    repeat' split
    all_goals omega
   have hh:H=159:=by
    rw [hH]
    repeat' split
    all_goals omega
   rw [hn,hl,hh];exact ⟨_,ax,rfl⟩
  have QE:¬ (c:Int)=237:=sU g;refine br ?_ ?_<;>intro g
  ·have g:(c:Int)=240:=sU g
   have hn:N=4:=by
    rw [hN]
    repeat' split
    all_goals omega
   have hl:L=144:=by
    rw [hL]
    repeat' split
    all_goals omega
   have hh:H=191:=by
    rw [hH]
    repeat' split
    all_goals omega
   rw [hn,hl,hh];exact ⟨_,ax,rfl⟩
  have QF:¬ (c:Int)=240:=sU g;refine br ?_ ?_<;>intro g
  ·have g:(c:Int)=244:=sU g
   have hn:N=4:=by
    rw [hN]
    repeat' split
    all_goals omega
   have hl:L=128:=by
    rw [hL]
    repeat' split
    all_goals omega
   have hh:H=143:=by
    rw [hH]
    repeat' split
    all_goals omega
   rw [hn,hl,hh];exact ⟨_,ax,rfl⟩
  have QG:¬ (c:Int)=244:=sU g
  have hn:N=4:=by
   rw [hN]
   repeat' split
   all_goals omega
  have hl:L=128:=by
   rw [hL]
   repeat' split
   all_goals omega
  have hh:H=191:=by
   rw [hH]
   repeat' split
   all_goals omega
  rw [hn,hl,hh];exact ⟨_,ax,rfl⟩
 have k240:¬ (240<=(c:Int)/\(c:Int)<=244):=by simpa [pickB_and] using k
 refine br ?_ ?_<;>intro g
 ·have g:(c:Int)=224:=sU g
  have hn:N=0:=by
   rw [hN]
   repeat' split
   all_goals omega
  have hl:L=160:=by
   rw [hL]
   repeat' split
   all_goals omega
  have hh:H=191:=by
   rw [hH]
   repeat' split
   all_goals omega
  rw [hn,hl,hh];exact ⟨_,ax,rfl⟩
 have QD:¬ (c:Int)=224:=sU g;refine br ?_ ?_<;>intro g
 ·have g:(c:Int)=237:=sU g
  have hn:N=0:=by
   rw [hN]
   repeat' split
   all_goals omega
  have hl:L=128:=by
   rw [hL]
   repeat' split
   all_goals omega
  have hh:H=159:=by
   rw [hH]
   repeat' split
   all_goals omega
  rw [hn,hl,hh];exact ⟨_,ax,rfl⟩
 have QE:¬ (c:Int)=237:=sU g;refine br ?_ ?_<;>intro g
 ·have g:(c:Int)=240:=sU g
  have hn:N=0:=by
   rw [hN]
   repeat' split
   all_goals omega
  have hl:L=144:=by
   rw [hL]
   repeat' split
   all_goals omega
  have hh:H=191:=by
   rw [hH]
   repeat' split
   all_goals omega
  rw [hn,hl,hh];exact ⟨_,ax,rfl⟩
 have QF:¬ (c:Int)=240:=sU g;refine br ?_ ?_<;>intro g
 ·have g:(c:Int)=244:=sU g
  have hn:N=0:=by
   rw [hN]
   repeat' split
   all_goals omega
  have hl:L=128:=by
   rw [hL]
   repeat' split
   all_goals omega
  have hh:H=143:=by
   rw [hH]
   repeat' split
   all_goals omega
  rw [hn,hl,hh];exact ⟨_,ax,rfl⟩
 have QG:¬ (c:Int)=244:=sU g
 have hn:N=0:=by
  rw [hN]
  repeat' split
  all_goals omega
 have hl:L=128:=by
  rw [hL]
  repeat' split
  all_goals omega
 have hh:H=191:=by
  rw [hH]
  repeat' split
  all_goals omega
 rw [hn,hl,hh];exact ⟨_,ax,rfl⟩
def recV:List UInt8->Int
 | [a]=>a.toNat
 | [a,b]=>(a.toNat - 192) * 64 + (b.toNat - 128)
 | [a,b,c]=>(a.toNat - 224) * 4096 + (b.toNat - 128) * 64 + (c.toNat - 128)
 | [a,b,c,d]=>(a.toNat - 240) * 262144 + (b.toNat - 128) * 4096 + (c.toNat - 128) * 64 + (d.toNat - 128)
 | _=>0
def NZ:List UInt8->Bool
 | [a]=>decide (a.toNat < 128)
 | [a,b]=>decide (192<=a.toNat/\a.toNat < 224/\128<=b.toNat/\b.toNat < 192)
 | [a,b,c]=>decide (224<=a.toNat/\a.toNat < 240/\128<=b.toNat/\b.toNat < 192/\128<=c.toNat/\c.toNat < 192)
 | [a,b,c,d]=>decide (240<=a.toNat/\a.toNat < 248/\128<=b.toNat/\b.toNat < 192/\128<=c.toNat/\c.toNat < 192/\128<=d.toNat/\d.toNat < 192)
 | _=>false
theorem KB {n:Int} (h1 : -2147483648<=n) (h2:n<=2147483647):IntKind.i32.wrap n=n:=by
 simp [IntKind.wrap,IntKind.min,IntKind.max,IntKind.signed,IntKind.bits];omega
theorem QH {x:Nat} (h:x < 4294967296):(BitVec.ofInt 32 (x:Int)).toNat=x:=by
 rw [BitVec.toNat_ofInt];omega
theorem N1 {x m:Nat} (k:Nat) (hk:m=2 ^ k - 1) (hm:m < 256) (h:x < 256):IntKind.i32.wrap ((BitVec.ofInt IntKind.i32.bits (IntKind.i32.wrap (x:Int)) &&& BitVec.ofInt IntKind.i32.bits (m:Int)).toNat:Nat)=((x % 2 ^ k:Nat):Int):=by
 rw [KB (n:=(x:Int)) (by omega) (by omega)];show IntKind.i32.wrap ((BitVec.ofInt 32 (x:Int) &&& BitVec.ofInt 32 (m:Int)).toNat:Nat)=_;rw [BitVec.toNat_and,QH (by omega),QH (by omega),hk,Nat.and_two_pow_sub_one_eq_mod];have:=Nat.mod_le x (2 ^ k);exact KB (by omega) (by omega)
theorem zL {x:Nat} (hx:x < 256):IntKind.i32.wrap (IntKind.u8.wrap ((BitVec.ofInt IntKind.u8.bits (x:Int) &&& BitVec.ofInt IntKind.u8.bits 63).toNat:Nat))=((x % 64:Nat):Int):=by
 show IntKind.i32.wrap (IntKind.u8.wrap ((BitVec.ofInt 8 (x:Int) &&& BitVec.ofInt 8 63).toNat:Nat))=_;have e:(BitVec.ofInt 8 (x:Int)).toNat=x:=by rw [BitVec.toNat_ofInt];omega
 rw [BitVec.toNat_and,e,show (BitVec.ofInt 8 63).toNat=2 ^ 6 - 1 from rfl,Nat.and_two_pow_sub_one_eq_mod];rw [IntKind.wrap_u8'];rw [KB (by omega) (by omega)];omega
theorem KC {x y:Nat} (h:x < 1000000) (hy:y < 64):IntKind.i32.wrap ((BitVec.ofInt IntKind.i32.bits (IntKind.i32.wrap ((x:Int) * 2 ^ min (Int.toNat 6) IntKind.i32.bits)) ||| BitVec.ofInt IntKind.i32.bits (y:Int)).toNat:Nat)=((x * 64 + y:Nat):Int):=by
 show IntKind.i32.wrap ((BitVec.ofInt 32 (IntKind.i32.wrap ((x:Int) * 64)) ||| BitVec.ofInt 32 (y:Int)).toNat:Nat)=_;rw [KB (n:=(x:Int) * 64) (by omega) (by omega),show (x:Int) * 64=((x * 64:Nat):Int) by omega,BitVec.toNat_or,QH (by omega),QH (by omega)];have:=Nat.shiftLeft_add_eq_or_of_lt (i:=6) (b:=y) hy x;rw [Nat.shiftLeft_eq] at this
 grind [KB]
theorem yh {s:ByteArray} {l:List UInt8} (hl:tx s=l) {z:Int} (k:Nat) (hz:z.toNat=k):dn s z.toNat=(l.getD k 0).toNat:=by
 rw [hz,<- hl];all_goals rfl
theorem GM (s:ByteArray) (h:1<=s.size/\s.size<=4):Ev prog 338 [.v (.string s)] [] [] (fun r _ _=>∃ z:Int,r = .v (.int .i32 z)/\(NZ (tx s)=true->z=recV (tx s))):=by
 have eN:=bf s;refine eG 57 [.tmp 2] func338 rfl ntmps338 rfl fun _ _ _ _=>?_;refine br ?_ ?_<;>intro c1
 ·refine ⟨⟨by omega,by omega⟩,?_⟩;have c1:s.size=1:=by have:=of_decide_eq_true c1;omega
  obtain ⟨a,hl⟩:∃ a,tx s=[a]:=by
   rw [c1] at eN
   match tx s,eN with
   | [a],_=>exact ⟨a,rfl⟩
  refine ⟨_,rfl,fun _=>?_⟩;have ha:=a.toNat_lt;rw [yh hl 0 rfl,hl];exact KB (by show _<=(a.toNat:Int);omega) (by show (a.toNat:Int)<=_;omega)
 ·refine dI ?_;refine ⟨⟨by omega,by omega⟩,?_⟩;have hw7:IntKind.i64.wrap (7 - (s.size:Int))=7 - s.size:=wrap64 (by omega) (by omega);have nG:IntKind.i64.wrap (1 + 1)=2:=rfl;have OX:IntKind.i64.wrap (IntKind.i64.wrap (1 + 1) + 1)=3:=rfl
  have c1:¬ s.size=1:=by
   have:=of_decide_eq_false c1;omega
  refine ⟨by rw [hw7];omega,?_⟩;refine br ?_ ?_<;>intro c4
  ·have c4:s.size=4:=by have:=of_decide_eq_true c4;omega
   refine ⟨by omega,?_⟩;refine ⟨⟨by first | omega | (rw [nG];omega),by first | omega | (rw [nG];omega)⟩,?_⟩;refine ⟨by omega,?_⟩;refine ⟨⟨by first | omega | (rw [nG];omega),by first | omega | (rw [nG];omega)⟩,?_⟩;refine ⟨by omega,?_⟩;refine ⟨⟨by first | omega | (rw [OX];omega),by first | omega | (rw [OX];omega)⟩,?_⟩
   obtain ⟨a,b,c,d,hl⟩:∃ a b c d,tx s=[a,b,c,d]:=by
    rw [c4] at eN
    match tx s,eN with
    | [a,b,c,d],_=>exact ⟨a,b,c,d,rfl⟩
   refine ⟨_,rfl,fun hi=>?_⟩;have ha:=a.toNat_lt;have hb:=b.toNat_lt;have hc:=c.toNat_lt;have hd:=d.toNat_lt;have hm:IntKind.i32.wrap (IntKind.i32.wrap (1 * 2 ^ min (IntKind.i64.wrap (7 - (s.size:Int))).toNat IntKind.i32.bits) - 1)=((7:Nat):Int):=by rw [c4];all_goals rfl
   rw [hm,yh hl 0 rfl,yh hl 1 rfl,yh hl 2 rfl,yh hl 3 rfl];simp only [List.getD_cons_zero,List.getD_cons_succ];rw [N1 3 rfl (by omega) ha,zL hb,KC (by omega) (by omega),zL hc,KC (by omega) (by omega),zL hd,KC (by omega) (by omega)];rw [hl] at hi ⊢;rw [NZ,decide_eq_true_iff] at hi;simp only [recV];omega
  have c4:¬ s.size=4:=by have:=of_decide_eq_false c4;omega
  refine br ?_ ?_<;>intro c3
  ·have c3:s.size=3:=by have:=of_decide_eq_true c3;omega
   refine ⟨by omega,?_⟩;refine ⟨⟨by first | omega | (rw [nG];omega),by first | omega | (rw [nG];omega)⟩,?_⟩;refine ⟨by omega,?_⟩;refine ⟨⟨by first | omega | (rw [nG];omega),by first | omega | (rw [nG];omega)⟩,?_⟩
   obtain ⟨a,b,c,hl⟩:∃ a b c,tx s=[a,b,c]:=by
    rw [c3] at eN
    match tx s,eN with
    | [a,b,c],_=>exact ⟨a,b,c,rfl⟩
   refine ⟨_,rfl,fun hi=>?_⟩;have ha:=a.toNat_lt;have hb:=b.toNat_lt;have hc:=c.toNat_lt;have hm:IntKind.i32.wrap (IntKind.i32.wrap (1 * 2 ^ min (IntKind.i64.wrap (7 - (s.size:Int))).toNat IntKind.i32.bits) - 1)=((15:Nat):Int):=by rw [c3];all_goals rfl
   rw [hm,yh hl 0 rfl,yh hl 1 rfl,yh hl 2 rfl];simp only [List.getD_cons_zero,List.getD_cons_succ];rw [N1 4 rfl (by omega) ha,zL hb,KC (by omega) (by omega),zL hc,KC (by omega) (by omega)];rw [hl] at hi ⊢;rw [NZ,decide_eq_true_iff] at hi;simp only [recV];omega
  have c3:¬ s.size=3:=by have:=of_decide_eq_false c3;omega
  refine br ?_ ?_<;>intro c2
  ·have c2:s.size=2:=by have:=of_decide_eq_true c2;omega
   refine ⟨by omega,?_⟩;refine ⟨⟨by first | omega | (rw [nG];omega),by first | omega | (rw [nG];omega)⟩,?_⟩
   obtain ⟨a,b,hl⟩:∃ a b,tx s=[a,b]:=by
    rw [c2] at eN
    match tx s,eN with
    | [a,b],_=>exact ⟨a,b,rfl⟩
   refine ⟨_,rfl,fun hi=>?_⟩;have ha:=a.toNat_lt;have hb:=b.toNat_lt;have hm:IntKind.i32.wrap (IntKind.i32.wrap (1 * 2 ^ min (IntKind.i64.wrap (7 - (s.size:Int))).toNat IntKind.i32.bits) - 1)=((31:Nat):Int):=by rw [c2];all_goals rfl
   rw [hm,yh hl 0 rfl,yh hl 1 rfl];simp only [List.getD_cons_zero,List.getD_cons_succ];rw [N1 5 rfl (by omega) ha,zL hb,KC (by omega) (by omega)];rw [hl] at hi ⊢;rw [NZ,decide_eq_true_iff] at hi;simp only [recV];omega
  ·exfalso;have:=of_decide_eq_false c2;omega
def iN (c i b:Nat):Bool:=if i=0 then decide (gN c<=b) && decide (b<=gO c) else decide (128<=b) && decide (b<=191)
def allC (c:Nat) (r:List UInt8) (k:Nat):Bool:=(List.range k).all fun i=>match r[i]? with
 | some b=>iN c i b.toNat
 | none=>false
theorem KD (c:Nat) (r:List UInt8) (k:Nat):allC c r (k + 1)=(allC c r k && match r[k]? with | some b=>iN c k b.toNat | none=>false):=by grind [allC]
theorem uv {c:Nat} {r:List UInt8} {k n:Nat} (h:k < n) (hk:(match r[k]? with | some b=>iN c k b.toNat | none=>false)=false):allC c r n=false:=by grind [allC]
def okU:List UInt8->Bool
 | []=>false
 | c :: r=>decide (1<=aE c.toNat) && allC c.toNat r (aE c.toNat - 1)
def gf:List UInt8->Nat
 | []=>0
 | c :: r=>if okU (c :: r)=true then aE c.toNat else 1
theorem Bi {c:UInt8} {r:List UInt8} (h:okU (c :: r)=true):NZ ((c :: r).take (aE c.toNat))=true:=by
 unfold okU at h;rw [aO,decide_eq_true_iff] at h;obtain ⟨h1,h2⟩:=h;have hb:∀ i,i < aE c.toNat - 1->∃ b:UInt8,r[i]? = some b/\128<=b.toNat/\b.toNat < 192:=fun i hi=>by grind [allC,iN,gN,gO]
 have hn:(aE c.toNat=1/\c.toNat < 128)∨(aE c.toNat=2/\192<=c.toNat/\c.toNat < 224)∨(aE c.toNat=3/\224<=c.toNat/\c.toNat < 240)∨(aE c.toNat=4/\240<=c.toNat/\c.toNat < 248):=by grind [aE]
 rcases hn with ⟨hn,hc⟩ | ⟨hn,hc⟩ | ⟨hn,hc⟩ | ⟨hn,hc⟩<;>rw [hn] at hb ⊢
 ·simp [NZ,hc]
 ·obtain ⟨b,h5,h6⟩:=hb 0 (by omega)
  match r,h5 with
  | x :: r,h5=>grind [NZ]
 ·obtain ⟨b,h5,h6⟩:=hb 0 (by omega);obtain ⟨b',h7,h8⟩:=hb 1 (by omega)
  match r,h5,h7 with
  | x :: y :: r,h5,h7=>grind [NZ]
 ·obtain ⟨b,h5,h6⟩:=hb 0 (by omega);obtain ⟨b',h7,h8⟩:=hb 1 (by omega);obtain ⟨b2,h9,sx⟩:=hb 2 (by omega)
  match r,h5,h7,h9 with
  | x :: y :: v :: r,h5,h7,h9=>simp_all [NZ]
set_option maxHeartbeats 4000000 in
theorem zM (s:ByteArray) (at':Nat) (hs:s.size<=1099511627776) (c:UInt8) (r:List UInt8) (h:(tx s).drop at'=c :: r) :
  Ev prog 308 [.v (.string s),.v (.int .i64 at')] [] [] (fun d _ _=>∃ (z:Int) (n:Nat),d = .tup [.v (.int .i32 z),.v (.int .i64 n),.v (.bool (okU (c :: r)))]/\(okU (c :: r)=true->n=aE c.toNat/\z=recV ((c :: r).take n))/\1<=n):=by
 have hlen:at' < s.size:=by
  have:=congrArg List.length h;rw [List.length_drop,bf] at this;simp at this;omega
 have hB:tx (s.extract (at':Int).toNat (s.size:Int).toNat)=c :: r:=by
  rw [<- h];simp [tx,jU];exact List.take_of_length_le (by rw [List.length_drop];have:=bf s;unfold tx at this;omega)
 have bM:(s.extract (at':Int).toNat (s.size:Int).toNat).size=r.length + 1:=by rw [<- bf,hB];all_goals rfl
 have OZ:∀ (k:Nat) b,r[k]? = some b->dn (s.extract (at':Int).toNat (s.size:Int).toNat) (k + 1)=b.toNat:=fun k b hk=>by
  show ((tx _).getD (k + 1) 0).toNat=_;rw [hB];simp [ek,hk]
 have Qf:EvP prog 337 [.v (.int .u8 (dn (s.extract (at':Int).toNat (s.size:Int).toNat) 0:Nat))] (.tup [.v (.int .i64 (aE c.toNat:Nat)),.v (.int .u8 (gN c.toNat:Nat)),.v (.int .u8 (gO c.toNat:Nat))]):=by
  have:dn (s.extract (at':Int).toNat (s.size:Int).toNat) 0=c.toNat:=by
   show ((tx _).getD 0 0).toNat=_;rw [hB];rfl
  rw [this];exact KA c.toNat
 have hv:=fun (k:Nat) (h1:1<=k) (h2:k<=4) (h3:k<=r.length + 1)=>GM ((s.extract (at':Int).toNat (s.size:Int).toNat).extract 0 k) (by
  have:((s.extract (at':Int).toNat (s.size:Int).toNat).extract 0 k).size=k:=by
   rw [ByteArray.size_extract,bM];omega
  omega)
 have hu:okU (c :: r)=(decide (1<=aE c.toNat) && allC c.toNat r (aE c.toNat - 1)):=rfl;have ru:=Bi (c:=c) (r:=r);generalize okU (c :: r)=U at hu ru ⊢
 have hn4:aE c.toNat<=4:=by
  unfold aE
  repeat' split
  all_goals omega
 refine eG 60 [.tmp 4,.tmp 5,.tmp 6] func308 rfl ntmps308 rfl fun _ _ _ _=>?_;refine br (fun c=>absurd c (by simp [ak];omega)) (fun _=>?_);refine ⟨⟨by omega,by omega,by omega⟩,?_⟩;refine ⟨⟨by omega,by rw [bM];omega⟩,?_⟩;refine cP XP Qf ?_;refine br ?_ ?_<;>intro g
 ·have g:aE c.toNat=0:=by have:=of_decide_eq_true g;omega
  have bu:U=false:=by rw [hu,g];all_goals rfl
  subst bu;exact ⟨.tup [.v (.int .i32 0),.v (.int .i64 (1:Nat)),.v (.bool false)],ax,0,1,rfl,fun h=>(by cases h),by omega⟩
 have g:1<=aE c.toNat:=by have:=of_decide_eq_false g;omega
 refine aQ (fun j st=>∃ i:Nat,st=⟨[(0,⟨[],.v (.string (s.extract (at':Int).toNat (s.size:Int).toNat))⟩),ap 7 (aE c.toNat:Nat),(8,⟨[],.v (.int .u8 ((if i=0 then gN c.toNat else 128:Nat):Int))⟩),(9,⟨[],.v (.int .u8 ((if i=0 then gO c.toNat else 191:Nat):Int))⟩),ap 10 ((i + 1:Nat):Int)],[],[]⟩/\i + 1<=aE c.toNat/\allC c.toNat r i=true/\j=aE c.toNat - (i + 1)) (aE c.toNat - (0 + 1))
  ⟨[(0,⟨[],.v (.string (s.extract (at':Int).toNat (s.size:Int).toNat))⟩),ap 7 (aE c.toNat:Nat),(8,⟨[],.v (.int .u8 ((if 0=0 then gN c.toNat else 128:Nat):Int))⟩),(9,⟨[],.v (.int .u8 ((if 0=0 then gO c.toNat else 191:Nat):Int))⟩),ap 10 ((0 + 1:Nat):Int)],[],[]⟩ (wkM jT) ⟨0,rfl,by omega,rfl,by omega⟩ ?_
 rintro j st ⟨i,rfl,hi,ha,rfl⟩;refine br ?_ ?_<;>intro hL
 ·have al:i + 1 < aE c.toNat:=by have:=of_decide_eq_true hL;omega
  refine br ?_ ?_<;>intro k
  ·have k:i < r.length:=by
    have:=k;have oa:(s.extract at' s.size).size=r.length + 1:=bM;simp [oa] at this;omega
   obtain ⟨b,hb⟩:∃ b,r[i]? = some b:=⟨_,gE k⟩;have Vx:=OZ i b hb;refine ⟨⟨by omega,by rw [bM];omega⟩,?_⟩
   have Yc:iN c.toNat i b.toNat=(decide ((if i=0 then gN c.toNat else 128)<=b.toNat) && decide (b.toNat<=(if i=0 then gO c.toNat else 191))):=by
    unfold iN;split<;>rfl
   have has:=KD c.toNat r i;rw [ha,hb,Bool.true_and] at has;simp only [Yc] at has;have e:dn (s.extract (at':Int).toNat (s.size:Int).toNat) (((i + 1:Nat):Int)).toNat=b.toNat:=Vx;refine br ?_ ?_<;>intro k2
   ·have k2:(if i=0 then gN c.toNat else 128)<=b.toNat:=by
     have k3:=k2;rw [e] at k3;generalize (if i=0 then gN c.toNat else 128)=lo at k3 ⊢;simp [ak] at k3;omega
    refine ⟨⟨by omega,by rw [bM];omega⟩,?_⟩;refine br ?_ ?_<;>intro k4
    ·have k4:¬ b.toNat<=(if i=0 then gO c.toNat else 191):=by
      have k3:=k4;rw [e] at k3;generalize (if i=0 then gO c.toNat else 191)=hi at k3 ⊢;simp [ak] at k3;omega
     have hf:=uv (c:=c.toNat) (r:=r) (k:=i) (n:=aE c.toNat - 1) (by omega) (by rw [hb];simp only [Yc];simp [k4]);rw [hf,Bool.and_false] at hu;subst hu;exact ⟨.tup [.v (.int .i32 0),.v (.int .i64 ((i + 1:Nat):Int)),.v (.bool false)],ax,0,i + 1,rfl,fun h=>(by cases h),by omega⟩
    ·have k4:b.toNat<=(if i=0 then gO c.toNat else 191):=by
      have k3:=k4;rw [e] at k3;generalize (if i=0 then gO c.toNat else 191)=hi at k3 ⊢;simp [ak] at k3;omega
     rw [decide_eq_true k2,decide_eq_true k4] at has;exact rE ⟨_,by omega,i + 1,rfl,by omega,has,rfl⟩ (wkM (wB1 (nxt al (by omega))))
   ·have k2:¬ (if i=0 then gN c.toNat else 128)<=b.toNat:=by
     have k3:=k2;rw [e] at k3;generalize (if i=0 then gN c.toNat else 128)=lo at k3 ⊢;simp [ak] at k3;omega
    have hf:=uv (c:=c.toNat) (r:=r) (k:=i) (n:=aE c.toNat - 1) (by omega) (by rw [hb];simp only [Yc];simp [k2]);rw [hf,Bool.and_false] at hu;subst hu;exact ⟨.tup [.v (.int .i32 0),.v (.int .i64 ((i + 1:Nat):Int)),.v (.bool false)],ax,0,i + 1,rfl,fun h=>(by cases h),by omega⟩
  ·have k:r.length<=i:=by
    have:=k;have oa:(s.extract at' s.size).size=r.length + 1:=bM;simp [oa] at this;omega
   have hf:=uv (c:=c.toNat) (r:=r) (k:=i) (n:=aE c.toNat - 1) (by omega) (by rw [mB k]);rw [hf,Bool.and_false] at hu;subst hu;exact ⟨.tup [.v (.int .i32 0),.v (.int .i64 ((i + 1:Nat):Int)),.v (.bool false)],ax,0,i + 1,rfl,fun h=>(by cases h),by omega⟩
 ·have aM:i + 1=aE c.toNat:=by have:=of_decide_eq_false hL;omega
  have hu1:U=true:=by
   rw [hu,<- aM];simp [ha]
  subst hu1
  have gD:aE c.toNat<=r.length + 1:=by
   rcases Nat.lt_or_ge r.length (aE c.toNat - 1) with h | h
   ·have hf:=uv (c:=c.toNat) (r:=r) (k:=r.length) (n:=aE c.toNat - 1) h (by rw [mB (aJ _)]);rw [<- aM,Nat.add_sub_cancel,ha] at hf;cases hf
   ·omega
  have hv:=hv (aE c.toNat) (by omega) hn4 gD;refine ⟨⟨by omega,by omega,by rw [bM];omega⟩,?_⟩;refine bp XQ rfl hv ax (fun q hq=>?_);obtain ⟨z,rfl,hz⟩:=hq;rw [show tx ((s.extract (at':Int).toNat (s.size:Int).toNat).extract 0 (aE c.toNat))=(c :: r).take (aE c.toNat) from by rw [<- hB,(by simp [tx]:∀ (B:ByteArray) k,tx (B.extract 0 k)=(tx B).take k)]] at hz;exact ⟨.tup [.v (.int .i32 z),.v (.int .i64 (aE c.toNat:Nat)),.v (.bool true)],ax,z,aE c.toNat,rfl,fun _=>⟨rfl,hz (ru rfl)⟩,by omega⟩
end Go.Proofs.YtgjagnmeonoehaaGreat
