/- Part 5 of the proof: resolve.Build; Reading a plan: Len, Root, Lattice, Node, Find; slices.Clone; of no plan as well; The reference of chapter 17: Great, Same; The program's comparing of schemas; The law's example: a type that leads to itself; The law of no plan: the call returns true; The document's relations: Leads; The document's lattices: Find, pairs, Leq, Loop; The document's lattices: what is wrong; The document's labels: over, Least, Of; The document's schemas: Find, word, all, Flat, End, Start; The document's schemas: Flat, End, Start; The document's schemas: named, unknown; The reference's Wrong returns what is wrong with a type; The document's schemas: what is wrong; The document's nodes: Same, of equal ones; the law's node; The document's nodes: node; The document's plan: Build; What is known of a type with which nothing is wrong; labels have levels; What is known of the nodes of a plan; A plan, as its readers know it; A lattice, as its readers know it; Leq; joins are the document's; Values, plain; how many are in one, how deep they lie; Values that are the same; Which values fit which nodes: plain, as the program finds it and as the document says it; tree's leaf, kids, Fits; tree.Fits; the document's To, Fits; Values as they are written: plain; tree.write, Raw; Paths: data, Step compared with itself; ref09.Begins, Same on the same path; ref25.Step; Where steps lead in a plan, and how places are seen, plain. No condition. -/
import Derived.Test.YtgjagnmeonoehaaGreatMw3
import Derived.Test.YtgjagnmeonoehaaGreatMw4
set_option linter.all false
set_option maxRecDepth 100000
namespace Go.Proofs.YtgjagnmeonoehaaGreat
open Go Go.RowKit Dv Go.Proofs.Tryz
abbrev QV (s:Sch) (aJ:List Nat) (lc:List DV) (m:Int) (f1 f2:Int) (n:Nat) (base:List DV) (e:Nat):St:=
 ⟨[aE 1 4,aE 3 3,aE 6 0,aM 59 11 (dNms s.types),au 60 ((dNms s.types).length),au 61 e],
  [bC s (.pt lc 0) (.loc 1 0) m,Ov s aJ lc n,[.v (.int .i64 f1),.v (.int .i64 f2)],[.v (.int .i64 0),.v (.int .i64 0)],fo s],[IZ n base]⟩
theorem yD (s:Sch) (hs:s.wt<=1099511627776):Ev prog 11 [.agg (fo s)] [] [] (I3 s):=by
 have hF:=lU.eq_1 s;have hw:=hs;simp only [Sch.wt] at hw;have hwl:=bI s.ae;have WI:=kv s.types;have PG:=FG s.ae s.order (by omega) (by omega);have vE:=fun lc=>C3 s lc (by omega)
 have cQ:∀ t,(t=s.root∨∃ x∈s.types,t=x.2)->t.wt<=1099511627776:=fun t ht=>by
  rcases ht with rfl | ⟨x,hx,rfl⟩
  ·omega
  ·have:=ig hx;omega
 have ac5:=fun lc aJ=>IY s lc aJ 0 (by omega) (by omega) (by omega) cQ;have ac6:=fun (X:Lx) (hX:X.OK) (aJ:List Nat) (hT:iU (tL s) aJ) (lx:aJ.length<=1099511627776) (m:Int)=>M0 s X.pd (IX s aJ (iW X.af (dt X.af X.aJ) X.rows X.js)) m (by omega) 49 X5 (knT X (tL s)) (fun t ht=>yw hX s aJ (.pt (iW X.af (dt X.af X.aJ) X.rows X.js) 0) (.v (.slice none 0 0)) (.v (.int .i64 0)) (.v (.slice none 0 0)) m hT lx t.wt t (aV _) (cQ t ht));have YU:(fu s).1=0->s.types.length<=64:=fun h=>by grind [fu]
 have hLx:=fun d h hd=>@Ug s d h hd (by omega);have WM:=fun (lat:DV) (aJ:List Nat) (a b c e0:DV) (m:Int)=>IW s lat aJ a b c e0 m;have QW:=fun (lc:List DV) (aJ:List Nat) (m:Int)=>FQ s lc aJ m;have cS:=fun (X:Lx) (hX:X.OK) (aJ:List Nat) (m:Int) (hT:iU (tL s) aJ) (lx:aJ.length<=1099511627776) (t:Ty) (ht:t.wt<=1099511627776)=>Bc hX s aJ m hT lx t.wt t (aV _) ht;refine eG 85 [.tmp 2,.cell 3 44] func11 rfl ntmps11 rfl fun _ _ _ _=>?_;generalize hS:s=S at *;obtain ⟨ae,order,types,⟨rh,rp⟩⟩:=s;subst hS;refine dj en45 rfl PG ax (fun r hr=>?_);by_cases hL:(latF ae order).1≠0
 ·have hL':=hL;rw [ap (show (latF (Sch.mk ae order types (.mk rh rp)).ae (Sch.mk ae order types (.mk rh rp)).order).1≠0 from hL)] at hF;unfold IJ at hr;rw [ap (show (latF (Sch.mk ae order types (.mk rh rp)).ae (Sch.mk ae order types (.mk rh rp)).order).1≠0 from hL)] at hr;subst hr;refine br ?_ ?_<;>intro h
  ·refine dS ?_;exact ⟨_,ax,oU (os:=[]) (tk:=[]) hF hL⟩
  ·exfalso;simp at h;exact hL h
 unfold IJ at hr;rw [aj (show ¬ (latF (Sch.mk ae order types (.mk rh rp)).ae (Sch.mk ae order types (.mk rh rp)).order).1≠0 from hL)] at hF hr;obtain ⟨d,hd,rfl⟩:=hr;have hL0:(latF ae order).1=0:=sU hL;obtain ⟨aJ,js,hX,rfl⟩:=hLx d hL0 hd;generalize hXX:dY ⟨ae,order,types,.mk rh rp⟩ aJ js=X at hX;refine br (fun h=>?_) (fun _=>?_)
 ·exfalso;simp at h;exact hL h
 refine CallG.acY 0 4 rfl rfl rfl rfl (CallG.acY 1 3 rfl rfl rfl rfl ?_);refine fN 2 0 en46 rfl rfl rfl gQ gQ (vE (iW X.af (dt X.af X.aJ) X.rows X.js)) (fun r j4 cM hΦ h1 h2=>?_);obtain ⟨rfl,MD⟩:=hΦ;have h2:=List.eq_nil_of_length_eq_zero h2;subst h2;by_cases Lj:(fu ⟨ae,order,types,.mk rh rp⟩).1≠0
 ·rw [ap Lj] at hF
  obtain ⟨a,b,rfl⟩:∃ a b,j4=[a,b]:=by
   match j4,h1 with
   | [a,b],_=>exact ⟨a,b,rfl⟩
  refine br ?_ ?_<;>intro h
  ·refine dS ?_;exact ⟨_,ax,oU (os:=[]) (tk:=[]) hF Lj⟩
  ·exfalso;simp at h;exact Lj h
 rw [aj Lj] at hF;have ac7:(fu ⟨ae,order,types,.mk rh rp⟩).1=0:=sU Lj;have I4:=YU ac7;obtain ⟨lV,hT,lx,rfl⟩:=MD ac7;refine br (fun h=>?_) (fun _=>?_)
 ·exfalso;simp at h;exact Lj h
 refine fN 2 0 aa2 rfl rfl rfl gQ gQ (ac5 (iW X.af (dt X.af X.aJ) X.rows X.js) lV) (fun r j4 cM hΦ h1 h2=>?_);obtain ⟨rfl,rfl⟩:=hΦ;have h2:=List.eq_nil_of_length_eq_zero h2;subst h2;by_cases hR:(eaR (.mk rh rp) types 0).1.1≠0
 ·rw [ap (show (eaR (Sch.mk ae order types (.mk rh rp)).root (Sch.mk ae order types (.mk rh rp)).types 0).1.1≠0 from hR)] at hF;refine br ?_ ?_<;>intro h
  ·refine dS ?_;exact ⟨_,ax,oU (os:=[]) (tk:=[]) hF hR⟩
  ·exfalso;simp at h;exact hR h
 rw [aj (show ¬ (eaR (Sch.mk ae order types (.mk rh rp)).root (Sch.mk ae order types (.mk rh rp)).types 0).1.1≠0 from hR)] at hF;have hR0:(eaR (.mk rh rp) types 0).1.1=0:=sU hR;refine br (fun h=>?_) (fun _=>?_)
 ·exfalso;simp at h;exact hR h
 have hea:=ac6 X hX lV hT (by have:types.length<=64:=I4;have:lV.length<=types.length:=lx;omega) (eaR (.mk rh rp) types 0).2;have YV:∀ t,knT X (tL ⟨ae,order,types,.mk rh rp⟩) t=mP ⟨ae,order,types,.mk rh rp⟩ t:=fun t=>by rw [<- hXX];exact YT _ _ _ t
 have hfeq:eaL (knT X (tL ⟨ae,order,types,.mk rh rp⟩)) (knT X (tL ⟨ae,order,types,.mk rh rp⟩) (.mk rh rp)) types=eaL (mP ⟨ae,order,types,.mk rh rp⟩) (mP ⟨ae,order,types,.mk rh rp⟩ (.mk rh rp)) types:=by
  rw [show knT X (tL ⟨ae,order,types,.mk rh rp⟩)=mP ⟨ae,order,types,.mk rh rp⟩ from funext YV]
 refine pH aa2 hea ax rfl rfl ?_;by_cases hK:(eaL (mP ⟨ae,order,types,.mk rh rp⟩) (mP ⟨ae,order,types,.mk rh rp⟩ (.mk rh rp)) types).1≠0
 ·rw [ap (show (eaL (mP ⟨ae,order,types,.mk rh rp⟩) (mP ⟨ae,order,types,.mk rh rp⟩ (Sch.mk ae order types (.mk rh rp)).root) (Sch.mk ae order types (.mk rh rp)).types).1≠0 from hK)] at hF;refine br ?_ ?_<;>intro h
  ·refine dS ?_;refine ⟨.tup [.v (.pointer none),(eaL (knT X (tL ⟨ae,order,types,.mk rh rp⟩)) (knT X (tL ⟨ae,order,types,.mk rh rp⟩) (.mk rh rp)) types).d],ax,?_⟩;rw [hfeq];exact oU (os:=[]) (tk:=[]) hF hK
  ·grind
 rw [aj (show ¬ (eaL (mP ⟨ae,order,types,.mk rh rp⟩) (mP ⟨ae,order,types,.mk rh rp⟩ (Sch.mk ae order types (.mk rh rp)).root) (Sch.mk ae order types (.mk rh rp)).types).1≠0 from hK)] at hF;have hK0:(eaL (mP ⟨ae,order,types,.mk rh rp⟩) (mP ⟨ae,order,types,.mk rh rp⟩ (.mk rh rp)) types).1=0:=sU hK;refine br (fun h=>?_) (fun _=>?_)
 ·grind
 have pk:wdsWt ae + prsWt order + nmsWt types + (Ty.mk rh rp).wt<=1099511627776:=hw;have hnmw:nmsWt types<=1099511627776:=by omega
 obtain ⟨WN,jF⟩:=QS hK0;have hkr':(knT X (tL ⟨ae,order,types,.mk rh rp⟩) (.mk rh rp)).1=0:=by rw [YV];exact WN
 have ac8:∀ x∈types,(knT X (tL ⟨ae,order,types,.mk rh rp⟩) x.2).1=0:=fun x hx=>by rw [YV];exact jF x hx
 have ac9:∀ x∈types,vJ ⟨ae,order,types,.mk rh rp⟩ x.2=true:=fun x hx=>C5 (ac8 x hx);have Uj:lV.length<=1099511627776:=by have:types.length<=64:=I4;have:lV.length<=types.length:=lx;omega
 refine pH en50 (WM X.pd lV X.pd (.v (.slice none 0 0)) (.v (.int .i64 0)) (.v (.slice none 0 0)) (eaR (.mk rh rp) types 0).2 hT Uj I4 ac9) ax rfl rfl ?_;by_cases hO:(loopF ⟨ae,order,types,.mk rh rp⟩).1≠0
 ·refine br ?_ ?_<;>intro h
  ·refine dS ?_;exact ⟨_,ax,oU (os:=[]) (tk:=[]) hF hO⟩
  ·exfalso;simp at h;exact hO h
 have hO0:(loopF ⟨ae,order,types,.mk rh rp⟩).1=0:=sU hO;have hF0:(lU ⟨ae,order,types,.mk rh rp⟩).1=0:=by rw [hF];exact hO0
 refine br (fun h=>?_) (fun _=>?_)
 ·exfalso;simp at h;exact hO h
 refine fN 2 0 en51 rfl rfl rfl gQ gQ (QW (iW X.af (dt X.af X.aJ) X.rows X.js) lV (eaR (.mk rh rp) types 0).2 hT Uj I4 ac9 hnmw (FU hO0)) (fun r j4 cM hΦ h1 h2=>?_);subst hΦ;have h2:=List.eq_nil_of_length_eq_zero h2;subst h2;clear vE ac5 ac6 WM QW hea PG;have hN:(dNms types).length=types.length:=eA types;obtain ⟨M8,HD,hcm,ada⟩:=QT (Int.le_refl 0) hR0;generalize (eaR (.mk rh rp) types 0).2=m at hcm ada ⊢
 refine aY (fun j st=>∃ (e n:Nat) (base:List DV) (N:List Nd),st=QV ⟨ae,order,types,.mk rh rp⟩ lV (iW X.af (dt X.af X.aJ) X.rows X.js) m (loopF ⟨ae,order,types,.mk rh rp⟩).1 (loopF ⟨ae,order,types,.mk rh rp⟩).2 n base e/\e<=types.length/\n=N.length/\base=(bG N).flatten/\N ++ ndsAll (iI ⟨ae,order,types,.mk rh rp⟩) ⟨ae,order,types,.mk rh rp⟩ (types.drop e) n=sm ⟨ae,order,types,.mk rh rp⟩/\j=types.length - e) types.length
  (QV ⟨ae,order,types,.mk rh rp⟩ lV (iW X.af (dt X.af X.aJ) X.rows X.js) m (loopF ⟨ae,order,types,.mk rh rp⟩).1 (loopF ⟨ae,order,types,.mk rh rp⟩).2 0 [] 0) (cX 5 ⟨0,91,7,some []⟩ rfl rfl rfl qL rfl rfl lj) ⟨0,0,[],[],rfl,by omega,rfl,rfl,rfl,by omega⟩ ?_
 rintro j st ⟨e,n,base,N,rfl,he,hn,XA,hNN,rfl⟩;have hl64':types.length<=64:=I4;have I5:X.lev=iI ⟨ae,order,types,.mk rh rp⟩:=by rw [<- hXX];all_goals rfl
 have htot:(sm ⟨ae,order,types,.mk rh rp⟩).length + (Ty.mk rh rp).nn<=512:=by
  have h1:=yC types;have h2:=(Ty.mk rh rp).ib;have h3:(sm ⟨ae,order,types,.mk rh rp⟩).length=(types.map fun x=>x.2.nn).sum:=yB _ _ _ _;omega
 have hbl:base.length=n * 7:=by rw [XA,hn,Bi]
 have hNl:n + (ndsAll (iI ⟨ae,order,types,.mk rh rp⟩) ⟨ae,order,types,.mk rh rp⟩ (types.drop e) n).length=(sm ⟨ae,order,types,.mk rh rp⟩).length:=by rw [<- hNN,List.length_append,hn]
 refine br ?_ ?_<;>intro hL
 ·have aq:e < types.length:=by have:=hL;simp [hN] at this;exact this
  obtain ⟨x,hx⟩:=gX aq;have SV:=mG hx;rw [drop_cons hx,ndsAll] at hNN hNl;rw [List.length_append] at hNl;have fI:=kX (iI ⟨ae,order,types,.mk rh rp⟩) ⟨ae,order,types,.mk rh rp⟩ x.2 n;have iP:=cS X hX lV m hT Uj x.2 (cQ x.2 (.inr ⟨x,SV,rfl⟩)) (ac8 x SV) n base (by omega) hbl;rw [I5] at iP;obtain ⟨xw,⟨xh,xp⟩⟩:=x;refine iX (dNms_get hx) ?_;refine fN 2 1 TA rfl rfl rfl gQ gQ iP (fun r j4 cM hΦ h1 h2=>?_);obtain ⟨rfl,rfl,rfl⟩:=hΦ;refine ⟨QV ⟨ae,order,types,.mk rh rp⟩ lV (iW X.af (dt X.af X.aJ) X.rows X.js) m (loopF ⟨ae,order,types,.mk rh rp⟩).1 (loopF ⟨ae,order,types,.mk rh rp⟩).2 (n + (ndsT (iI ⟨ae,order,types,.mk rh rp⟩) ⟨ae,order,types,.mk rh rp⟩ (.mk xh xp) n).length) (base ++ (bG (ndsT (iI ⟨ae,order,types,.mk rh rp⟩) ⟨ae,order,types,.mk rh rp⟩ (.mk xh xp) n)).flatten) (e + 1),(bZ 5 (jM (aG aq (by omega))) (cJ (aG aq (by omega)))),types.length - (e + 1),by omega,e + 1,_,_,N ++ ndsT (iI ⟨ae,order,types,.mk rh rp⟩) ⟨ae,order,types,.mk rh rp⟩ (.mk xh xp) n,rfl,by omega,by rw [List.length_append,hn],by rw [XA];simp [bG],?_,rfl⟩;rw [List.append_assoc,fI];exact hNN
 have hge:e=types.length:=sW hN hL;subst hge;rw [List.drop_length,ndsAll,List.append_nil] at hNN;rw [List.drop_length,ndsAll,List.length_nil,Nat.add_zero] at hNl;have hnr:=cS X hX lV m hT Uj (.mk rh rp) (by omega) hkr' n base (by omega) hbl;rw [I5] at hnr;intro E a w hr;have lZ:=jK hr;obtain ⟨b0,ty0,Mi,iv,hw0,HV⟩:=lZ.env.eM 0 _ rfl;obtain ⟨b1,ty1,arr1,lP,HE,Mp⟩:=lZ.env.eM 1 _ rfl;obtain ⟨v13,hv13,hp13⟩:=RvL.get (i:=13) (d:=.loc 1 0) HV.1 rfl;have ade:v13 = .pointer (some ⟨b1,0,none⟩):=by grind [Rv]
 subst ade
 have ow:w.drew.cell? ⟨b0,13,none⟩=some (.pointer (some ⟨b1,0,none⟩)):=by
  rw [cC hw0];simpa using hv13
 have SR:=Ua lZ.env [0,1,2,3];generalize AG:maskL [0,1,2,3] 0 _=bxm at SR;have hbmi:∀ (i:Nat) cs,bxm[i]? = some cs->cs ≠ []->2<=i:=fun i cs hi bA=>by grind [maskL]
 refine jH (C:=fun w'=>CC E bxm w.drew w' /\ w'.cell? ⟨b0,13,none⟩=some (.pointer (some ⟨b1,0,none⟩))) (W:=fun i=>Nat.beq i 10) (Q:=fun a w=>kq _ _ .normal a w) mo (by decide +kernel) (fun _ _ h=>h) ⟨⟨fun _ _ _ _ _ _=>rfl,lZ.env.sub⟩,ow⟩ ?_;show Go.Proofs.YtgjagnmeonoehaaGreat.Dv.runT _ _ _ _ _ [0,1,2,3,4,5,6,7,8,9,10] _ _;refine fv lZ rfl rfl rfl rfl rfl rfl (fun a0 h0=>?_);refine fv h0 rfl rfl rfl rfl rfl rfl (fun a1 h1=>?_);refine fv h1 rfl rfl rfl rfl rfl rfl (fun a2 h2=>?_);refine Uc h2 rfl lP rfl rfl iv rfl rfl (fun w' h=>h.2) ⟨⟨fun _ _ _ _ _ _=>rfl,lZ.env.sub⟩,ow⟩ rfl rfl (fun a3 h3=>?_);refine fv h3 rfl rfl rfl rfl rfl rfl (fun a4 h4=>?_);refine fv h4 rfl rfl rfl rfl rfl rfl (fun a5 h5=>?_);refine Ub h5 rfl (bx:=bxm) (T9 h5 SR (fun w' h=>h.1)) ⟨⟨fun _ _ _ _ _ _=>rfl,lZ.env.sub⟩,ow⟩ rfl rfl (by rw [<- AG];rfl) rfl (fun a6 h6=>?_);refine Ud h6 rfl rfl rfl rfl rfl rfl TA 2 1 rfl rfl gQ gQ hnr rfl rfl ?_;intro v r j4 cM E' w' hΦ _ _ bS E8 hx hβ hh;obtain ⟨rfl,rfl,rfl⟩:=hΦ;refine ⟨fun _ hC=>⟨⟨fun i b cs hb hcs bA=>?_,fun x v hxv=>bS.env.sub x v (hx.c x v hxv)⟩,?_⟩,?_⟩
 ·exact hh i b (hbmi i cs hcs bA) hb
 ·obtain ⟨b0',ty0',arr0',YW,hw0',hc0'⟩:=bS.env.eM 0 _ rfl;rw [hβ,iv] at YW;simp only [oI] at YW;subst YW;obtain ⟨u13,hu13,adf⟩:=RvL.get (i:=13) (d:=.loc 1 0) hc0'.1 rfl;unfold Rv at adf;obtain ⟨b,hb,rfl⟩:=adf;rw [hβ,lP] at hb;simp only [oI] at hb;subst hb;rw [cC hw0'];simpa using hu13
 have h7:=bi (dst:=some 77) bS rfl _ v E8;have hrN:(sm ⟨ae,order,types,.mk rh rp⟩).length=n:=by rw [<- hNN,hn]
 have n7:base ++ (bG (ndsT (iI ⟨ae,order,types,.mk rh rp⟩) ⟨ae,order,types,.mk rh rp⟩ (.mk rh rp) n)).flatten=(bG (bp ⟨ae,order,types,.mk rh rp⟩)).flatten:=by grind [bp,bG]
 have adg:(bG (bp ⟨ae,order,types,.mk rh rp⟩)).length=n + (ndsT (iI ⟨ae,order,types,.mk rh rp⟩) ⟨ae,order,types,.mk rh rp⟩ (.mk rh rp) n).length:=by
  unfold bp;rw [hrN];simp [bG,hrN]
 obtain ⟨E3,h8⟩:=Ue h7 1 1 0 (ns:=bG (bp ⟨ae,order,types,.mk rh rp⟩)) (congrArg (fun b=>some (IZ (n + (ndsT (iI ⟨ae,order,types,.mk rh rp⟩) ⟨ae,order,types,.mk rh rp⟩ (.mk rh rp) n).length) b)) n7) (fun x hx=>by
  simp only [bG,List.mem_map] at hx;obtain ⟨y,_,rfl⟩:=hx
  rfl) adg rfl rfl List.length_replicate
 refine fv h8 rfl rfl rfl rfl rfl rfl (fun a8 h9=>?_);refine fv h9 rfl rfl rfl rfl rfl rfl (fun a9 vY=>?_);refine M6 vY rfl rfl rfl rfl rfl rfl ?_;refine ⟨.tup [.pt [X.pd,.sl 7 (bG (bp ⟨ae,order,types,.mk rh rp⟩)) none,.v (.int .i64 (oT ⟨ae,order,types,.mk rh rp⟩ (.mk rh rp) n)),.pt (dt (tL ⟨ae,order,types,.mk rh rp⟩) lV) 0,.sl 1 (dInts (namedL ⟨ae,order,types,.mk rh rp⟩)) none] 0,Ft.d (0,0)],ax,Uh (os:=[]) (tk:=[]) hF0 ⟨aJ,lV,js,by rw [hXX];exact hX,hT,lx,?_⟩⟩;rw [WK,hXX,dw,hrN]
theorem Uk (es:List (List DV)) (hl:es.length<=1099511627776):Ev prog 95 [.sl 1 es none] [] [] (fun r _ _=>r = .sl 1 es none∨(es=[]/\r = .v (.slice none 0 0))):=by
 refine eG 8 [.tmp 2] func95 rfl ntmps95 rfl fun _ _ _ _=>?_;refine I2 ⟨_,rfl⟩ rfl rfl rfl rfl (fun b hb=>?_);refine br ?_ ?_<;>intro h
 ·have h:b=true:=h;have he:es=[]:=Classical.byContradiction fun hn=>by rw [hb hn] at h;cases h
  subst he;exact Or.inr ⟨rfl,rfl⟩
 ·refine yA rfl rfl rfl rfl (hk:=?_);refine ⟨rfl,⟨by simp [maxLen];omega,by simp;omega⟩,?_⟩;exact ⟨_,ax,Or.inl rfl⟩
theorem Ul (es:List (List DV)) (hl:es.length<=1099511627776):Ev prog 96 [.sl 10 es none] [] [] (fun r _ _=>r = .sl 10 es none∨(es=[]/\r = .v (.slice none 0 0))):=by
 refine eG 8 [.tmp 2] func96 rfl ntmps96 rfl fun _ _ _ _=>?_;refine I2 ⟨_,rfl⟩ rfl rfl rfl rfl (fun b hb=>?_);refine br ?_ ?_<;>intro h
 ·have h:b=true:=h;have he:es=[]:=Classical.byContradiction fun hn=>by rw [hb hn] at h;cases h
  subst he;exact Or.inr ⟨rfl,rfl⟩
 ·refine yA rfl rfl rfl rfl (hk:=?_);refine ⟨rfl,⟨by simp [maxLen];omega,by simp;omega⟩,?_⟩;exact ⟨_,ax,Or.inl rfl⟩
def plD (lc:List DV) (zR:List Nd) (root:Int) (L:List ByteArray) (aJ:List Nat) (named:List Nat):DV:=.pt [.pt lc 0,.sl 7 (bG zR) none,.v (.int .i64 root),.pt (dt L aJ) 0,.sl 1 (dInts named) none] 0
theorem eT (l:List Nd):(bG l).length=l.length:=by simp [bG]
theorem eB {l:List Nd} {i:Nat} {n:Nd} (h:l[i]? = some n):(bG l)[i]? = some (j5 n):=by simp [bG,h]
section
variable (lc:List DV) (zR:List Nd) (root:Int) (L:List ByteArray) (aJ:List Nat) (named:List Nat)
theorem ui:EvP prog 94 [plD lc zR root L aJ named] (.v (.int .i64 zR.length)):=by
 refine eG 10 [.tmp 2] func94 rfl ntmps94 rfl fun _ _ _ _=>?_;refine (qM ?_:);rw [eT]
theorem I6:EvP prog 37 [plD lc zR root L aJ named] (.v (.int .i64 root)):=by
 refine eG 9 [.tmp 2] func37 rfl ntmps37 rfl fun _ _ _ _=>?_;exact (rfl:_=_)
theorem M9:EvP prog 72 [plD lc zR root L aJ named] (.pt lc 0):=by
 refine eG 9 [.tmp 2] func72 rfl ntmps72 rfl fun _ _ _ _=>?_;exact ⟨_,ax,rfl⟩
theorem I7 (i:Nat) (n:Nd) (h:zR[i]? = some n) (hn:n.af.length<=1099511627776) (he:n.ai.length<=1099511627776) :
  EvP prog 36 [plD lc zR root L aJ named,.v (.int .i64 i)] (.tup [.agg (j5 n),.v (.bool true)]):=by
 have aq:=(gS h).1;have hlen:=ui lc zR root L aJ named;have Mp:=Uk (fF n.af) (by rw [cG];exact hn);have oe:=Ul (dT n.ai) (by rw [bw];exact he);refine eG 32 [.cell 4 91,.tmp 5] func36 rfl ntmps36 rfl fun _ _ _ _=>?_;refine cP Pe hlen ?_;refine br ?_ ?_<;>intro g
 ·exfalso;simp [pickB] at g;omega
 refine iX (eB h) ?_;refine dS ?_;refine rP en95 rfl Mp ax (fun r1 hr1=>?_);rcases hr1 with rfl | ⟨h1,rfl⟩
 ·refine rP aa9 rfl oe ax (fun r2 oi=>?_);rcases oi with rfl | ⟨h2,rfl⟩
  ·exact ⟨.tup [.agg (j5 n),.v (.bool true)],ax,rfl⟩
  ·exact ⟨.tup [.agg (j5 n),.v (.bool true)],(by repeat' (first | exact rfl | exact trivial | exact Or.inr (Or.inl ⟨_,rfl⟩) | exact Or.inr ⟨_,rfl⟩ | exact Or.inl ⟨rfl,rfl⟩ | exact Or.inl rfl | refine Or.inr ⟨_,_,rfl,Nat.zero_le _,rfl,?_⟩ | refine ⟨_,_,rfl,?_,?_⟩ | refine ⟨_,rfl,?_⟩ | exact Or.inl ⟨h2,rfl⟩ | refine Or.inr (Or.inr (Or.inr ⟨_,_,rfl,?_⟩)) | exact Or.inl rfl | refine Or.inr ?_)),rfl⟩
 ·refine rP aa9 rfl oe ax (fun r2 oi=>?_);rcases oi with rfl | ⟨h2,rfl⟩
  ·exact ⟨.tup [.agg (j5 n),.v (.bool true)],(by repeat' (first | exact rfl | exact trivial | exact Or.inr (Or.inl ⟨_,rfl⟩) | exact Or.inr ⟨_,rfl⟩ | exact Or.inl ⟨rfl,rfl⟩ | exact Or.inl rfl | refine Or.inr ⟨_,_,rfl,Nat.zero_le _,rfl,?_⟩ | refine ⟨_,_,rfl,?_,?_⟩ | refine ⟨_,rfl,?_⟩ | exact Or.inl ⟨h1,rfl⟩ | refine Or.inr (Or.inr (Or.inr ⟨_,_,rfl,?_⟩)) | exact Or.inl rfl | refine Or.inr ?_)),rfl⟩
  ·exact ⟨.tup [.agg (j5 n),.v (.bool true)],(by repeat' (first | exact rfl | exact trivial | exact Or.inr (Or.inl ⟨_,rfl⟩) | exact Or.inr ⟨_,rfl⟩ | exact Or.inl ⟨rfl,rfl⟩ | exact Or.inl rfl | refine Or.inr ⟨_,_,rfl,Nat.zero_le _,rfl,?_⟩ | refine ⟨_,_,rfl,?_,?_⟩ | refine ⟨_,rfl,?_⟩ | exact Or.inl ⟨h1,rfl⟩ | exact Or.inl ⟨h2,rfl⟩ | refine Or.inr (Or.inr (Or.inr ⟨_,_,rfl,?_⟩)) | exact Or.inl rfl | refine Or.inr ?_)),rfl⟩
theorem I8 (i:Int) (h:i < 0∨zR.length<=i) :
  EvP prog 36 [plD lc zR root L aJ named,.v (.int .i64 i)] (.tup [.agg [.v (.int .i64 0),.v (.int .i64 0),.v (.int .i64 0),.v (.int .i64 0),.v (.int .i64 0),.v (.slice none 0 0),.v (.slice none 0 0)],.v (.bool false)]):=by
 have hlen:=ui lc zR root L aJ named;refine eG 32 [.cell 4 91,.tmp 5] func36 rfl ntmps36 rfl fun _ _ _ _=>?_;refine br ?_ ?_<;>intro g
 ·refine cP Pe hlen ?_;refine br ?_ ?_<;>intro g2
  ·exact ⟨_,ax,rfl⟩
  ·exfalso;simp at g;simp [pickB,g] at g2;omega
 ·exact ⟨_,ax,rfl⟩
end
abbrev wo (s:Sch) (n d k q:Int) (e:Nat):St:=
 ⟨[aE 1 0,au 3 n,au 4 d,au 5 e],[fo s],[]⟩
theorem C7 (s:Sch) (cQ:s.wt<=1099511627776):Ev prog 43 [.agg (fo s)] [] [] (fun d _ _=>∃ b:Bool,d = .v (.bool b)):=by
 have h1:=bI s.ae;have h2:=jv s.order;have h3:=kv s.types;simp only [Sch.wt] at cQ;have eo:=lB s.root.wt s.root (aV _) (by omega);obtain ⟨ae,order,types,⟨h,ps⟩⟩:=s;simp only at h1 h2 h3 cQ eo;refine eG 60 [.tmp 2] func43 rfl ntmps43 rfl fun _ _ _ _=>?_;refine br ?_ ?_<;>intro _
 ·exact ⟨true,rfl⟩
 refine cP KF eo ?_;refine aY (fun j st=>∃ (e:Nat) (n d:Int),st=wo ⟨ae,order,types,.mk h ps⟩ n d 0 0 e/\e<=types.length/\j=types.length - e) types.length (wo ⟨ae,order,types,.mk h ps⟩ (Ty.mk h ps).cnt (Ty.mk h ps).deep 0 0 0) (bz wB) ⟨0,_,_,rfl,by omega,by omega⟩ ?_;rintro j st ⟨e,n,d,rfl,he,rfl⟩;refine br ?_ ?_<;>intro hL
 ·have aq:e < types.length:=by have:=hL;simp [eA] at this;exact this
  obtain ⟨w,hw⟩:=gX aq;have HD:=ig (mG hw);have hs:=lB w.2.wt w.2 (aV _) (by omega);obtain ⟨w,u,us⟩:=w;simp only at hs;refine iX (dNms_get hw) ?_;refine cP KF hs ?_;refine br ?_ ?_<;>intro _
  ·exact ⟨wo ⟨ae,order,types,.mk h ps⟩ _ _ 0 0 (e + 1),(bz (cJ (aG aq (by omega)))),types.length - (e + 1),by omega,e + 1,_,_,rfl,by omega,rfl⟩
  ·exact ⟨wo ⟨ae,order,types,.mk h ps⟩ _ _ 0 0 (e + 1),(bz (cJ (aG aq (by omega)))),types.length - (e + 1),by omega,e + 1,_,_,rfl,by omega,rfl⟩
 exact ⟨_,rfl⟩
def samePrs:List (Wd × Wd)->List (Wd × Wd)->Bool
 | [],[]=>true
 | x :: r,y :: s=>(decide (x.1.s=y.1.s) && decide (x.2.s=y.2.s)) && samePrs r s
 | _,_=>false
def sameNms:List (Wd × Ty)->List (Wd × Ty)->Bool
 | [],[]=>true
 | x :: r,y :: s=>(decide (x.1.s=y.1.s) && sameTy x.2 y.2) && sameNms r s
 | _,_=>false
def KB (a b:Sch):Bool:=sameWds a.ae b.ae && samePrs a.order b.order && sameTy a.root b.root && sameNms a.types b.types
def cB (r:List Bool):List DV:=r.map fun b=>DV.v (.bool b)
def rr (r:List Bool):List (List DV):=r.map fun b=>[DV.v (.bool b)]
def dV (m:List (List Bool)):List (List DV):=m.map fun r=>[DV.sl 1 (rr r) none]
theorem q6 (r:List Bool):(cB r).length=r.length:=by simp [cB]
theorem wu (r:List Bool):(rr r).length=r.length:=by simp [rr]
theorem yE (m:List (List Bool)):(dV m).length=m.length:=by simp [dV]
theorem I9 {r:List Bool} {i:Nat} {b:Bool} (h:r[i]? = some b):(cB r)[i]? = some (DV.v (.bool b)):=by simp [cB,h]
theorem yF (r:List Bool) (i:Nat) (b:Bool):(cB r).set i (DV.v (.bool b))=cB (r.set i b):=by simp [cB,List.map_set]
theorem sq {r:List Bool} {i:Nat} {b:Bool} (h:r[i]? = some b):(rr r)[i]? = some [DV.v (.bool b)]:=by simp [rr,h]
theorem QX {m:List (List Bool)} {i:Nat} {r:List Bool} (h:m[i]? = some r):(dV m)[i]? = some [DV.sl 1 (rr r) none]:=by simp [dV,h]
theorem sr (r:List Bool):(rr r).flatten=cB r:=by
 induction r with
 | nil=>rfl
 | cons b r ih=>simp only [rr,cB,List.map_cons,List.flatten_cons] at ih ⊢;rw [ih];all_goals rfl
theorem FY (n:Nat):(List.replicate n (vL [Value.bool false])).flatten=cB (List.replicate n false):=by
 induction n with
 | zero=>rfl
 | succ n ih=>simp only [List.replicate_succ,List.flatten_cons,ih];rfl
theorem cE {n m:Nat} {tk:List TkE} {l:List DV} {r:List Bool} (h:l=cB r):WeL n m tk l (cB r):=by
 subst h;refine ya _ fun x hx=>?_;obtain ⟨z,_,rfl⟩:=List.mem_map.1 hx;exact ⟨_,rfl⟩
theorem WO {bx:List (List DV)} {N n0 m0 n:Nat} {r:List Bool} (hr:r.length=n) (hN:N<=0) (hb:bx[0]? = some (cB r)):Cc bx N n0 m0 (.sl 1 (rr r) none) (.ms 0 1 0 n n):=by
 simp only [Cc];refine Or.inr (Or.inr (Or.inl ⟨0,0,n,_,by rw [wu,hr],hN,hb,?_,?_,?_⟩))
 ·grind [sr,q6,wu]
 ·grind [rr]
 ·intro x hx;rw [sr] at hx;obtain ⟨_,_,rfl⟩:=List.mem_map.1 hx;exact .inl ⟨_,rfl⟩
def gH (n:Nat) (l:List (Nat × Nat)):List (List Bool):=(List.range n).map (vG n l)
theorem Ja (n:Nat) (l:List (Nat × Nat)):(gH n l).length=n:=by simp [gH]
theorem Jb {n a:Nat} (l:List (Nat × Nat)) (h:a < n):(gH n l)[a]? = some (vG n l a):=by simp [gH,List.getElem?_range h]
theorem Na {n:Nat} {l:List (Nat × Nat)} (h:tS n l):gH n l=eI n (fA n l):=by
 unfold gH eI;exact List.map_congr_left fun a ha=>TV h (List.mem_range.1 ha)
def j6 (l:List (Nat × Nat)) (r:List Bool) (e:Nat):List Bool:=(l.take e).foldl iG r
theorem Jc (l:List (Nat × Nat)) (r:List Bool) (e:Nat):(j6 l r e).length=r.length:=qV (l.take e) r
theorem FZ {l:List (Nat × Nat)} {r:List Bool} {e:Nat} {p:Nat × Nat} (h:l[e]? = some p):j6 l r (e + 1)=iG (j6 l r e) p:=by
 unfold j6;rw [List.take_add_one,h];simp
abbrev ldSt (n:Nat) (l:List (Nat × Nat)) (q e:Nat):St:=
 ⟨[au 0 n,aM 1 2 (nv l),(5,⟨[],.sl 1 (dV ((gH n l).take e)) (some 0)⟩),au 6 e],[],[⟨q,186,1,none⟩]⟩
abbrev adi (n:Nat) (l:List (Nat × Nat)) (q e:Nat) (r:List Bool) (k:Nat):St:=
 ⟨[au 0 n,aM 1 2 (nv l),(5,⟨[],.sl 1 (dV ((gH n l).take e)) (some 0)⟩),au 6 e,(7,⟨[],.ms 0 1 0 n n⟩),au 8 k],[cB r],[⟨q,186,1,none⟩]⟩
abbrev adj (n:Nat) (l:List (Nat × Nat)) (q e:Nat) (r:List Bool) (k i:Nat):St:=
 ⟨[au 0 n,aM 1 2 (nv l),(5,⟨[],.sl 1 (dV ((gH n l).take e)) (some 0)⟩),au 6 e,(7,⟨[],.ms 0 1 0 n n⟩),au 8 k,au 9 i],[cB r],[⟨q,186,1,none⟩]⟩
abbrev adk (n:Nat) (l:List (Nat × Nat)) (q e:Nat) (r:List Bool):St:=
 ⟨[au 0 n,aM 1 2 (nv l),au 6 e,(46,⟨[],.sl 1 (dV ((gH n l).take e)) (some 0)⟩),aM 47 1 (rr r)],[],[⟨q,186,1,none⟩]⟩
theorem Jd (n:Nat) (hn:n<=64) (l:List (Nat × Nat)) (hP:tS n l) (hb:l.length<=1099511627776) :
  EvP prog 120 [.v (.int .i64 n),.sl 2 (nv l) none] (.sl 1 (dV (gH n l)) none):=by
 have hNl:=iE l;have hML:=Ja n l;refine eG 51 [.tmp 4] func120 rfl ntmps120 rfl fun _ _ _ _=>?_;refine lJ (fun e=>ldSt n l e e) n (eP ⟨0,186,1,none⟩ rfl ⟨_,rfl⟩ rfl wA rfl rfl lj) ?_;intro e he;refine br ?_ ?_<;>intro hL
 ·have aq:e < n:=by have:=hL;simp at this;exact this
  have hr0l:((List.replicate n false).set e true).length=n:=by simp
  refine ⟨⟨rfl,by omega,by omega,by omega⟩,?_⟩;refine ⟨⟨by omega,by omega⟩,?_⟩;refine ⟨by rw [FY,q6,List.length_replicate];omega,?_⟩
  have iv:((List.replicate (n:Int).toNat (vL [Value.bool false])).flatten).set (0 + (e:Int).toNat * 1) (DV.v (.bool true))=cB (du l ((List.replicate n false).set e true) 0):=by
   rw [FY,show 0 + (e:Int).toNat * 1=e by omega,show (n:Int).toNat=n by omega,yF];rfl
  refine lJ (fun k=>adi n l e e (du l ((List.replicate n false).set e true) k) k) n (bZ 1 (jM iv) (cJ iv)) ?_;intro k hk;have dK:=gf l ((List.replicate n false).set e true) k;have zL:=fq l ((List.replicate n false).set e true) k;refine br ?_ ?_<;>intro mq
  ·have jF:k < n:=by have:=mq;simp at this;exact this
   generalize du l ((List.replicate n false).set e true) k=r at dK zL ⊢;rw [hr0l] at dK;refine lJ (fun i=>adj n l e e (j6 l r i) k i) l.length (bZ 1 qL lj) ?_;intro i hi;have ov:=Jc l r i;refine br ?_ ?_<;>intro hL3
   ·have SX:i < l.length:=by have:=hL3;simp [hNl] at this;exact this
    obtain ⟨p,hp⟩:∃ p,l[i]? = some p:=⟨_,gE SX⟩;obtain ⟨Tr,EP⟩:=hP p (mG hp);have Nb:=FZ (r:=r) hp;obtain ⟨b,lP⟩:∃ b,(j6 l r i)[p.1]? = some b:=⟨_,gE (by omega)⟩;have Mk:(j6 l r i).getD p.1 false=b:=by simp [bN,lP]
    rw [iG,Mk] at Nb;refine iX (x7 hp) ?_;refine ⟨⟨by decide,by decide⟩,?_⟩;refine ⟨⟨by omega,by omega⟩,?_⟩;refine ⟨_,(show (cB (j6 l r i))[0 + (p.1:Int).toNat * 1]? = some (.v (.bool b)) by rw [show 0 + (p.1:Int).toNat * 1=p.1 by omega];exact I9 lP),?_⟩;refine br ?_ ?_<;>intro g
    ·have g:b=true:=g;rw [ap g] at Nb;refine iX (x7 hp) ?_;refine ⟨⟨by decide,by decide⟩,?_⟩;refine ⟨⟨by omega,by omega⟩,?_⟩;refine ⟨by rw [q6];omega,?_⟩;have iQ:(cB (j6 l r i)).set (0 + (p.2:Int).toNat * 1) (DV.v (.bool true))=cB (j6 l r (i + 1)):=by grind [yF]
     exact rE ⟨_,by omega,i + 1,rfl,by omega,rfl⟩ (bZ 1 (lY iQ (aG SX (by omega))) (wB2 iQ (aG SX (by omega))))
    ·have g:¬ b=true:=by rw [show b=false from g];decide
     rw [aj g] at Nb;exact rE ⟨_,by omega,i + 1,rfl,by omega,rfl⟩ (bZ 1 (by repeat' (first | exact rfl | exact aA rfl | exact cE (by rw [Nb]) | exact aC (aG SX (by omega)) | refine ⟨_,_,rfl,?_,?_⟩)) (by repeat' (first | exact trivial | exact aA rfl | exact cE (by rw [Nb]) | exact aC (aG SX (by omega)) | refine ⟨⟨_,rfl,?_⟩,?_⟩)))
   ·have hge:i=l.length:=sW hNl hL3;subst hge;have adm:j6 l r l.length=du l ((List.replicate n false).set e true) (k + 1):=by rw [zL,j6,List.take_length];all_goals rfl
    exact rE ⟨_,by omega,k + 1,rfl,by omega,rfl⟩ (bZ 1 (by repeat' (first | exact rfl | exact aA rfl | exact cE (by rw [adm]) | exact aC (aG jF (by omega)) | refine ⟨_,_,rfl,?_,?_⟩)) (by repeat' (first | exact trivial | exact aA rfl | exact cE (by rw [adm]) | exact aC (aG jF (by omega)) | refine ⟨⟨_,rfl,?_⟩,?_⟩)))
  ·have hge:k=n:=by have:=mq;simp at this;omega
   subst hge;have n7:du l ((List.replicate k false).set e true) k=vG k l e:=rfl;rw [n7];have hrw:=r8 k l e;refine Md.wk (.HC (st':=adk k l e e (vG k l e)) 0 rfl rfl rfl rfl ?_) rfl rfl ?_
   ·refine ⟨⟨_,rfl,?_⟩,⟨_,rfl,?_⟩,⟨_,rfl,?_⟩,⟨_,rfl,?_⟩,⟨_,rfl,WO hrw (by omega) rfl⟩,trivial⟩
    ·simp only [Cc]
    ·grind [Cc]
    ·simp only [Cc]
    ·grind [Cc]
   ·have dM:(dV ((gH k l).take e)).length=e:=by rw [yE,zLenT,hML];omega
    have dx:dV ((gH k l).take e) ++ [[DV.sl 1 (rr (vG k l e)) none]]=dV ((gH k l).take (e + 1)):=by rw [List.take_add_one,Jb l aq];simp [dV]
    refine ⟨dM,⟨by rw [dM];simp [maxLen];omega,by rw [dM];simp;omega⟩,?_⟩;exact rE ⟨_,by omega,e + 1,rfl,by omega,rfl⟩ (bz (wB2 (aG aq (by omega)) dx))
 ·have hge:e=n:=by have:=hL;simp at this;omega
  subst hge;have ht:(gH e l).take e=gH e l:=by rw [List.take_of_length_le (by rw [hML];omega)]
  rw [ht];exact ⟨_,ax,rfl⟩
theorem cL {n m:Nat} {cM:List TkE} {x y:Bool} (h:x=y):We n m cM (.v (.bool x)) (.v (.bool y)):=.inl ⟨by rw [h],rfl⟩
theorem oV {l:List Wd} {j:Nat} {w:Wd} (h:l[j]? = some w):(az l)[j]? = some w.s:=by simp [az,h]
theorem Ll {L:List ByteArray} {s:ByteArray} (h:∀ j,j < L.length->L[j]? ≠ some s):dy L s=none:=tU fun j hj=>by grind
abbrev WQ (l:List Wd) (s:ByteArray) (e:Nat):St:=
 ⟨[aM 0 2 (bT l),(1,⟨[],.v (.string s)⟩),au 5 e],[],[]⟩
theorem gj (l:List Wd) (s:ByteArray) (hs:wdsWt l<=1099511627776) :
  EvP prog 205 [.sl 2 (bT l) none,.v (.string s)] (.v (.int .i64 (oz (dy (az l) s)))):=by
 have ov:=bI l;have fI:=dz l;refine eG 20 [.tmp 4] func205 rfl ntmps205 rfl fun _ _ _ _=>?_;refine lI (fun j st=>∃ e:Nat,st=WQ l s e/\e<=l.length/\(∀ j,j < e->(az l)[j]? ≠ some s)/\j=l.length - e) ⟨0,rfl,by omega,fun _ h=>by omega,rfl⟩ (bz wB) ?_;rintro j st ⟨e,rfl,he,gm,rfl⟩;refine br ?_ ?_<;>intro hL
 ·have aq:e < l.length:=by simpa [aD] using hL
  obtain ⟨w,hw⟩:=gX aq;refine ⟨kP w,⟨by omega,bd hw⟩,?_⟩;refine br ?_ ?_<;>intro hq
  ·have hq:w.s=s:=sU hq;rw [CW (p:=e) (by rw [oV hw,hq]) (fun j hj=>Nat.le_of_not_lt fun hl=>gm j hl hj)];exact (rfl:_=_)
  ·have hq:¬ w.s=s:=sU hq;refine ⟨WQ l s (e + 1),(bz (cJ (aG aq (by omega)))),l.length - (e + 1),by omega,e + 1,rfl,by omega,fun j hj=>?_,rfl⟩;rcases jJ hj with hj | rfl
   ·exact gm j hj
   ·rw [oV hw];simpa using hq
 ·have hge:e=l.length:=by have:=hL;simp [aD] at this;omega
  rw [Ll (fun j hj=>gm j (by omega))];exact (rfl:_=_)
theorem gI {o:Option Nat}:decide (oz o < 0)=true↔o=none:=by
 cases o with
 | none=>simp [oz]
 | some k=>grind [oz]
theorem F0 {L:List ByteArray}:∀ {o:List (Wd × Wd)},(numF L o).1=0->∀ x∈o,(∃ a,dy L x.1.s=some a)/\∃ b,dy L x.2.s=some b
 | [],_,x,hx=>by cases hx
 | p :: r,h,x,hx=>by
  rw [numF] at h;split at h
  ·exact absurd h (by simp)
  rename_i h1;split at h
  ·exact absurd h (by simp)
  rename_i h2;rcases dN hx with rfl | hx
  ·exact ⟨Option.ne_none_iff_exists'.1 h1,Option.ne_none_iff_exists'.1 h2⟩
  ·exact F0 h x hx
abbrev adn (l:List Wd) (o:List (Wd × Wd)) (q e:Nat):St:=
 ⟨[aM 0 2 (bT l),aM 1 4 (n9 o),(5,⟨[],.sl 2 (nv (dW (az l) (o.take e))) (some 0)⟩),au 6 e],[],[⟨q,291,2,none⟩]⟩
theorem Je (l:List Wd) (o:List (Wd × Wd)) (hs:wdsWt l<=1099511627776) (xc:prsWt o<=1099511627776) (hF:(numF (az l) o).1=0) :
  EvP prog 121 [.sl 2 (bT l) none,.sl 4 (n9 o) none] (.sl 2 (nv (dW (az l) o)) none):=by
 have ov:=jv o;refine eG 34 [.tmp 4] func121 rfl ntmps121 rfl fun _ _ _ _=>?_;refine lJ (fun e=>adn l o e e) o.length (eP ⟨0,291,2,none⟩ rfl ⟨_,rfl⟩ rfl wA rfl rfl lj) ?_;intro e he;refine br ?_ ?_<;>intro hL
 ·have aq:e < o.length:=by simpa [gL] using hL
  obtain ⟨w,hw⟩:=gX aq;obtain ⟨⟨a,ha⟩,⟨b,hb⟩⟩:=F0 hF w (mG hw);have Fp:=gj l w.1.s hs;have vz:=gj l w.2.s hs;rw [ha] at Fp;rw [hb] at vz;refine dI ?_;refine ⟨Ot w,⟨by omega,iD hw⟩,?_⟩;refine cD xJ Fp ?_;refine ⟨Ot w,⟨by omega,iD hw⟩,?_⟩;refine cD xJ vz ?_;refine ⟨by simp [iE,dW];omega,⟨by simp [iE,dW,maxLen];omega,by simp [iE,dW];omega⟩,?_⟩;exact rE ⟨_,by omega,e + 1,rfl,by omega,rfl⟩ (bz (wB2 (aG aq (by omega)) (A3 hw ha hb)))
 ·have hge:e=o.length:=by
   have:=hL;simp [gL] at this;omega
  have ht:o.take e=o:=by rw [hge,List.take_length]
  rw [ht];exact ⟨_,ax,rfl⟩
theorem F3 (l:List Wd) (o:List (Wd × Wd)) (hl:l.length<=32) (hs:wdsWt l<=1099511627776) (xc:prsWt o<=1099511627776) (hF:(numF (az l) o).1=0) :
  EvP prog 53 [.sl 2 (bT l) none,.sl 4 (n9 o) none] (.sl 1 (dV (eI l.length (fA l.length (dW (az l) o)))) none):=by
 have ov:=jv o;have hP:tS l.length (dW (az l) o):=by have:=pI hF;rwa [dz] at this
 have hN:=aD l;have HG:=Jd l.length (by omega) (dW (az l) o) hP (by simp [dW];omega);rw [Na hP] at HG;refine eG 11 [.tmp 4] func53 rfl ntmps53 rfl fun _ _ _ _=>?_;refine cP abh (Je l o hs xc hF) ?_;rw [hN];refine cP abg HG ?_;exact ⟨_,ax,rfl⟩
theorem F4 (n:Nat) (f:Nat->Nat->Bool):(eI n f).length=n:=by simp [eI]
theorem kA (n:Nat) (f:Nat->Nat->Bool):(dV (eI n f)).length=n:=by rw [yE,F4]
theorem fC {n:Nat} {f:Nat->Nat->Bool} {a:Nat} (ha:a < n):(dV (eI n f))[a]? = some [DV.sl 1 (rr ((List.range n).map (f a))) none]:=QX (Fy ha)
theorem er {n:Nat} {f:Nat->Nat->Bool} {a b:Nat} (hb:b < n):(rr ((List.range n).map (f a)))[b]? = some [DV.v (.bool (f a b))]:=sq (by simp [List.getElem?_range hb])
abbrev WR (n:Nat) (f:Nat->Nat->Bool) (e:Nat):St:=
 ⟨[aM 0 1 (dV (eI n f)),au 3 e],[],[]⟩
abbrev YX (n:Nat) (f:Nat->Nat->Bool) (e k:Nat):St:=
 ⟨[aM 0 1 (dV (eI n f)),au 3 e,au 4 k],[],[]⟩
theorem F5 (n:Nat) (f:Nat->Nat->Bool) (hn:n<=64) :
  EvP prog 275 [.sl 1 (dV (eI n f)) none] (.v (.int .i64 (oz (bM (lD n f) n)))):=by
 have dM:=kA n f;refine eG 39 [.tmp 2] func275 rfl ntmps275 rfl fun _ _ _ _=>?_;refine lI (fun j st=>∃ e:Nat,st=WR n f e/\e<=n/\(∀ a,a < e->lD n f a=false)/\j=n - e) ⟨0,rfl,by omega,fun _ h=>by omega,rfl⟩ (bz wB) ?_;rintro j st ⟨e,rfl,he,gm,rfl⟩;refine br ?_ ?_<;>intro hL
 ·have aq:e < n:=sV dM hL;refine lI (fun j st=>∃ k:Nat,st=YX n f e k/\k<=n/\(∀ b,b < k->(decide (e≠b) && (f e b && f b e))=false)/\j=n - k) ⟨0,rfl,by omega,fun _ h=>by omega,rfl⟩ (bz wB) ?_;rintro j st ⟨k,rfl,hk,QY,rfl⟩;refine br ?_ ?_<;>intro mq
  ·have jF:k < n:=sV dM mq;have rU:(decide (e≠k) && (f e k && f k e))=false->∀ b,b < k + 1->(decide (e≠b) && (f e b && f b e))=false:=fun h b hb=>by grind
   refine br ?_ ?_<;>intro g1
   ·have g1:e≠k:=by have:=g1;simp at this;omega
    refine iX (fC aq) ?_;refine iX (er jF) ?_;refine br ?_ ?_<;>intro g2
    ·have g2:f e k=true:=by simpa [pickB] using g2
     refine iX (fC jF) ?_;refine iX (er aq) ?_;refine br ?_ ?_<;>intro g3
     ·have g3:f k e=true:=by simpa [pickB] using g3
      have hp:lD n f e=true:=List.any_eq_true.2 ⟨k,List.mem_range.2 jF,by simp [g1,g2,g3]⟩;rw [bU aq hp gm];exact (rfl:_=_)
     ·have g3:f k e=false:=by simpa [pickB] using g3
      exact rE ⟨_,by omega,k + 1,rfl,by omega,rU (by simp [g3]),rfl⟩ (bz (cJ (aG jF (by omega))))
    ·have g2:f e k=false:=by simpa [pickB] using g2
     exact rE ⟨_,by omega,k + 1,rfl,by omega,rU (by simp [g2]),rfl⟩ (bz (cJ (aG jF (by omega))))
   ·have g1:e=k:=by have:=g1;simp at this;omega
    exact rE ⟨_,by omega,k + 1,rfl,by omega,rU (by simp [g1]),rfl⟩ (bz (cJ (aG jF (by omega))))
  ·have hge:k=n:=sW dM mq;refine ⟨WR n f (e + 1),(bz (cJ (aG aq (by omega)))),n - (e + 1),by omega,e + 1,rfl,by omega,fun j hj=>?_,rfl⟩;rcases jJ hj with hj | rfl
   ·exact gm j hj
   ·grind [lD]
 ·have hge:e=n:=sW dM hL;subst hge;rw [cK gm];exact (rfl:_=_)
abbrev tuSt (n:Nat) (f:Nat->Nat->Bool) (q e:Nat):St:=
 ⟨[aM 0 1 (dV (eI n f)),(3,⟨[],.sl 1 (dV ((eI n fun a b=>f b a).take e)) (some 0)⟩),au 4 e],[],[⟨q,186,1,none⟩]⟩
abbrev ado (n:Nat) (f:Nat->Nat->Bool) (q e:Nat) (r:List Bool) (k:Nat):St:=
 ⟨[aM 0 1 (dV (eI n f)),(3,⟨[],.sl 1 (dV ((eI n fun a b=>f b a).take e)) (some 0)⟩),au 4 e,(5,⟨[],.ms 0 1 0 n n⟩),au 6 k],[cB r],[⟨q,186,1,none⟩]⟩
abbrev adp (n:Nat) (f:Nat->Nat->Bool) (q e:Nat) (r:List Bool):St:=
 ⟨[aM 0 1 (dV (eI n f)),au 4 e,(32,⟨[],.sl 1 (dV ((eI n fun a b=>f b a).take e)) (some 0)⟩),aM 33 1 (rr r)],[],[⟨q,186,1,none⟩]⟩
def my (n:Nat) (f:Nat->Nat->Bool) (e k:Nat):List Bool:=(List.range n).map fun b=>if b < k then f b e else false
theorem uj (n:Nat) (f:Nat->Nat->Bool) (e k:Nat):(my n f e k).length=n:=by simp [my]
theorem Jf (n:Nat) (f:Nat->Nat->Bool) (e:Nat):my n f e 0=List.replicate n false:=by
 refine List.ext_getElem? fun i=>?_
 grind [my,uj]
theorem Jg (n:Nat) (f:Nat->Nat->Bool) (e k:Nat):(my n f e k).set k (f k e)=my n f e (k + 1):=by
 refine List.ext_getElem? fun i=>?_
 grind [my,uj]
theorem Jh (n:Nat) (f:Nat->Nat->Bool) (e:Nat):my n f e n=(List.range n).map (fun b=>f b e):=by simp_all [my]
theorem Nc (n:Nat) (f:Nat->Nat->Bool) (hn:n<=64) :
  EvP prog 276 [.sl 1 (dV (eI n f)) none] (.sl 1 (dV (eI n fun a b=>f b a)) none):=by
 have dM:=kA n f;have hML:=F4 n fun a b=>f b a;refine eG 37 [.tmp 2] func276 rfl ntmps276 rfl fun _ _ _ _=>?_;refine lJ (fun e=>tuSt n f e e) n (eP ⟨0,186,1,none⟩ rfl ⟨_,rfl⟩ rfl wA rfl rfl lj) ?_;intro e he;refine br ?_ ?_<;>intro hL
 ·have aq:e < n:=sV dM hL;refine ⟨⟨rfl,by omega,by rw [dM];omega,by rw [dM];omega⟩,?_⟩;rw [dM];have iv:(List.replicate (n:Int).toNat (vL [Value.bool false])).flatten=cB (my n f e 0):=by grind [FY,Jf]
  refine lJ (fun k=>ado n f e e (my n f e k) k) n (bZ 1 (jM iv) (cJ iv)) ?_;intro k hk;refine br ?_ ?_<;>intro mq
  ·have jF:k < n:=sV dM mq;refine iX (fC jF) ?_;refine iX (er aq) ?_;refine ⟨⟨by omega,by omega⟩,?_⟩;refine ⟨by rw [q6,uj];omega,?_⟩
   have iQ:(cB (my n f e k)).set (0 + (k:Int).toNat * 1) (DV.v (.bool (f (k:Int).toNat (e:Int).toNat)))=cB (my n f e (k + 1)):=by
    rw [show 0 + (k:Int).toNat * 1=k by omega,yF,eH,eH,Jg]
   exact rE ⟨_,by omega,k + 1,rfl,by omega,rfl⟩ (bZ 1 (lY iQ (aG jF (by omega))) (wB2 iQ (aG jF (by omega))))
  ·have hge:k=n:=sW dM mq;subst hge;rw [Jh];refine Md.wk (.HC (st':=adp k f e e ((List.range k).map fun b=>f b e)) 0 rfl rfl rfl rfl ?_) rfl rfl ?_
   ·refine ⟨⟨_,rfl,?_⟩,⟨_,rfl,?_⟩,⟨_,rfl,?_⟩,⟨_,rfl,WO (by simp) (by omega) rfl⟩,trivial⟩
    ·grind [Cc]
    ·simp only [Cc]
    ·grind [Cc]
   ·have hmr:(dV ((eI k fun a b=>f b a).take e)).length=e:=by rw [yE,zLenT,hML];omega
    have dx:dV ((eI k fun a b=>f b a).take e) ++ [[DV.sl 1 (rr ((List.range k).map fun b=>f b e)) none]]=dV ((eI k fun a b=>f b a).take (e + 1)):=by rw [List.take_add_one,Fy aq];simp [dV]
    refine ⟨hmr,⟨by rw [hmr];simp [maxLen];omega,by rw [hmr];simp;omega⟩,?_⟩;exact rE ⟨_,by omega,e + 1,rfl,by omega,rfl⟩ (bz (wB2 (aG aq (by omega)) dx))
 ·have hge:e=n:=sW dM hL;subst hge;rw [List.take_of_length_le (by rw [hML];omega)];exact ⟨_,ax,rfl⟩
def WS (f:Nat->Nat->Bool) (n a b c:Nat):Bool:=(f a c && f b c) && (List.range n).all fun d=>!(f a d && f b d) || f c d
def mz (f:Nat->Nat->Bool) (n a b:Nat):Option Nat:=bM (WS f n a b) n
def oc (f:Nat->Nat->Bool) (a b c k:Nat):Bool:=(f a c && f b c) && (List.range k).all fun d=>!(f a d && f b d) || f c d
theorem Nf (f:Nat->Nat->Bool) (a b c k:Nat):oc f a b c (k + 1)=(oc f a b c k && (!(f a k && f b k) || f c k)):=by
 simp only [oc,List.range_succ,List.all_append,List.all_cons,List.all_nil,Bool.and_true,Bool.and_assoc]
theorem Bj (f:Nat->Nat->Bool) (a b c:Nat):oc f a b c 0=(f a c && f b c):=by simp [oc]
abbrev adq (n:Nat) (f:Nat->Nat->Bool) (a b e:Nat):St:=
 ⟨[aM 0 1 (dV (eI n f)),au 1 a,au 2 b,au 7 e],[],[]⟩
abbrev Lm (n:Nat) (f:Nat->Nat->Bool) (a b e:Nat) (x:Bool) (k:Nat):St:=
 ⟨[aM 0 1 (dV (eI n f)),au 1 a,au 2 b,au 7 e,qN 8 x,au 9 k],[],[]⟩
theorem va (n:Nat) (f:Nat->Nat->Bool) (hn:n<=64) (a b:Nat) (ha:a < n) (hb:b < n) :
  EvP prog 210 [.sl 1 (dV (eI n f)) none,.v (.int .i64 a),.v (.int .i64 b)] (.v (.int .i64 (oz (mz f n a b)))):=by
 have dM:=kA n f;refine eG 66 [.tmp 6] func210 rfl ntmps210 rfl fun _ _ _ _=>?_;refine lI (fun j st=>∃ e:Nat,st=adq n f a b e/\e<=n/\(∀ c,c < e->WS f n a b c=false)/\j=n - e) ⟨0,rfl,by omega,fun _ h=>by omega,rfl⟩ (bz wB) ?_;rintro j st ⟨e,rfl,he,gm,rfl⟩;refine br ?_ ?_<;>intro hL
 ·have aq:e < n:=sV dM hL;refine iX (fC ha) ?_;refine iX (er aq) ?_;have e1:(f a e == true)=true->f b e=oc f a b e 0:=fun g=>by rw [Bj,show f a e=true by simpa using g];simp
  have e2:(f a e == true)=false->false=oc f a b e 0:=fun g=>by rw [Bj,show f a e=false by simpa using g];simp
  refine have body:=?_;br (fun g1=>⟨_,⟨by omega,fC hb⟩,⟨_,⟨by omega,er aq⟩,aY (fun j st=>∃ k:Nat,st=Lm n f a b e (oc f a b e k) k/\k<=n/\j=n - k) n (Lm n f a b e (oc f a b e 0) 0) (bz (by repeat' (first | exact trivial | exact aA rfl | exact (show We _ _ _ (DV.v (.bool (f b e))) _ from cL (e1 g1)) | refine ⟨⟨_,rfl,?_⟩,?_⟩))) ⟨0,rfl,by omega,by omega⟩ body⟩⟩) (fun g1=>aY (fun j st=>∃ k:Nat,st=Lm n f a b e (oc f a b e k) k/\k<=n/\j=n - k) n (Lm n f a b e (oc f a b e 0) 0) (bz (by repeat' (first | exact trivial | exact aA rfl | exact (show We _ _ _ (DV.v (.bool false)) _ from cL (e2 g1)) | refine ⟨⟨_,rfl,?_⟩,?_⟩))) ⟨0,rfl,by omega,by omega⟩ body);rintro j st ⟨k,rfl,hk,rfl⟩;refine br ?_ ?_<;>intro mq
  ·have jF:k < n:=sV dM mq;have Ji:=Nf f a b e k;refine iX (fC ha) ?_;refine iX (er jF) ?_;refine br ?_ ?_<;>intro g1
   ·refine iX (fC hb) ?_;refine iX (er jF) ?_;refine br ?_ ?_<;>intro g2
    ·refine iX (fC aq) ?_;refine iX (er jF) ?_;refine br ?_ ?_<;>intro g3
     ·have hx:false=oc f a b e (k + 1):=by simp [pickB] at g1 g2 g3;rw [Ji];simp [g1,g2,g3]
      exact rE ⟨_,by omega,k + 1,rfl,by omega,rfl⟩ (bz (wB2 (aG jF (by omega)) hx))
     ·have hx:oc f a b e k=oc f a b e (k + 1):=by simp [pickB] at g1 g2 g3;rw [Ji];simp [g1,g2,g3]
      exact rE ⟨_,by omega,k + 1,rfl,by omega,rfl⟩ (bz (wB2 (aG jF (by omega)) hx))
    ·have hx:oc f a b e k=oc f a b e (k + 1):=by simp [pickB] at g1 g2;rw [Ji];simp [g1,g2]
     exact rE ⟨_,by omega,k + 1,rfl,by omega,rfl⟩ (bz (wB2 (aG jF (by omega)) hx))
   ·have hx:oc f a b e k=oc f a b e (k + 1):=by simp [pickB] at g1;rw [Ji];simp [g1]
    exact rE ⟨_,by omega,k + 1,rfl,by omega,rfl⟩ (bz (wB2 (aG jF (by omega)) hx))
  ·have hge:k=n:=sW dM mq;subst hge;refine br ?_ ?_<;>intro g
   ·have g:WS f k a b e=true:=g;rw [mz,bU aq g gm];exact (rfl:_=_)
   ·have g:WS f k a b e=false:=g;refine ⟨adq k f a b (e + 1),(bz (cJ (aG aq (by omega)))),k - (e + 1),by omega,e + 1,rfl,by omega,fun j hj=>?_,rfl⟩;rcases jJ hj with hj | rfl
    ·exact gm j hj
    ·exact g
 ·have hge:e=n:=sW dM hL;subst hge;rw [mz,cK gm];exact (rfl:_=_)
theorem QZ {l:List Wd} {i:Nat} {w:Wd} (hw:l[i]? = some w):∃ p,dy (az l) w.s=some p/\(p < i↔cY (l.take i) w.s=true):=by
 cases h:dy (az l) w.s with
 | none=>exact absurd (mG (oV hw)) (z8.1 h)
 | some p=>
  refine ⟨p,rfl,?_⟩;obtain ⟨h1,h2,h3⟩:=dG h;rw [dz] at h1;have Jj:∃ v,l[p]? = some v/\v.s=w.s:=by grind [oV]
  obtain ⟨v,hv,xi⟩:=Jj;unfold cY;rw [List.any_eq_true];refine ⟨fun aq=>⟨v,mG (i:=p) (by rw [cR,ap aq];exact hv),by simp [xi]⟩,fun ⟨x,hx,HA⟩=>?_⟩;obtain ⟨j,hj⟩:=List.getElem?_of_mem hx
  grind [oV]
theorem C8 {f:Nat->Nat->Bool} {n a b c:Nat}:WS f n a b c=true↔f a c=true/\f b c=true/\∀ d,d < n->f a d=true->f b d=true->f c d=true:=by grind [WS]
structure Um (f:Nat->Nat->Bool) (n:Nat):Prop where
 rfl':∀ a,a < n->f a a=true
 IP:∀ a b,a < n->b < n->f a b=true->f b a=true->a=b
theorem Um.flip {f:Nat->Nat->Bool} {n:Nat} (h:Um f n):Um (fun x y=>f y x) n:=⟨h.rfl',fun a b ha hb h1 h2=>h.IP a b ha hb h2 h1⟩
theorem Q0 {f:Nat->Nat->Bool} {n a b c:Nat} (h:Um f n) (hc:c < n) (hj:WS f n a b c=true):fO f n a b=some c:=by
 obtain ⟨h1,h2,h3⟩:=C8.1 hj
 have key:∀ e,e<=n->c < e->bestA (fun c=>f a c && f b c) f e=some c:=by
  intro e
  induction e with
  | zero=>intro _ h;omega
  | succ e ih=>
   intro he hce;rw [bestA];by_cases hec:e=c
   ·subst hec;rw [ap];simp only [h1,h2,Bool.and_true,Bool.true_and]
    cases ho:bestA (fun c=>f a c && f b c) f e with
    | none=>rfl
    | some o=>
     have hp:=ub ho;have hl:=oO ho;simp only [bc] at hp;exact h3 o (by omega) hp.1 hp.2
   ·rw [ih (by omega) (by omega),aj];simp only [bc,FD,not_and];intro hp hec2;exact hec (h.IP e c (by omega) hc hec2 (h3 e (by omega) hp.1 hp.2))
 grind [fO,oN]
theorem su {f:Nat->Nat->Bool} {n a b:Nat} (h:Um f n):(fO f n a b).isNone=(mz f n a b).isNone:=by
 cases hj:mz f n a b with
 | some c=>
  obtain ⟨hc,hi,_⟩:=bV hj;rw [Q0 h hc hi]
 | none=>
  cases hk:fO f n a b with
  | none=>rfl
  | some k=>
   obtain ⟨h1,h2,h3,h4⟩:=nD hk;have:=cr hj k h1;rw [C8.2 ⟨h2,h3,h4⟩] at this;cases this
def qA (f:Nat->Nat->Bool) (n a b:Nat):Bool:=(mz f n a b).isNone || (mz (fun x y=>f y x) n a b).isNone
theorem Ln {f:Nat->Nat->Bool} {n a b:Nat} (h:Um f n):mn f n a b=qA f n a b:=by
 unfold mn qA;rw [su h,show jR f n a b=fO (fun x y=>f y x) n a b from rfl,su h.flip]
theorem yG {f:Nat->Nat->Bool} {n b:Nat} (h:Um f n) (hb:b < n):(mz f n b b).isNone=false:=by
 have hi:WS f n b b b=true:=C8.2 ⟨h.rfl' b hb,h.rfl' b hb,fun d _ h1 _=>h1⟩
 cases hj:mz f n b b with
 | some c=>rfl
 | none=>rw [cr hj b hb] at hi;cases hi
theorem Un {f:Nat->Nat->Bool} {n b:Nat} (h:Um f n) (hb:b < n):oP f n b=(List.range b).any fun a=>qA f n a b:=by
 unfold oP;rw [List.range_succ,List.any_append];simp only [List.any_cons,List.any_nil,Bool.or_false];rw [Ln h,show qA f n b b=false by unfold qA;rw [yG h hb,yG h.flip hb];rfl,Bool.or_false]
 grind [Ln]
theorem YY {n:Nat} {l:List (Nat × Nat)} (hP:tS n l) (h4:bM (lD n (fA n l)) n=none):Um (fA n l) n where
 rfl':=fun a ha=>tT hP ha
 IP:=fun a b ha hb h6 h7=>by grind [cr,lD]
abbrev adr (l:List Wd) (o:List (Wd × Wd)) (e:Nat):St:=
 ⟨[aM 0 2 (bT l),aM 1 4 (n9 o),aE 4 0,au 5 e],[[.v (.int .i64 0),.v (.int .i64 0)]],[]⟩
abbrev ads (l:List Wd) (o:List (Wd × Wd)) (e:Nat):St:=
 ⟨[aM 0 2 (bT l),aM 1 4 (n9 o),aE 4 0,au 6 e],[[.v (.int .i64 0),.v (.int .i64 0)]],[]⟩
abbrev WT (l:List Wd) (n:Nat) (f:Nat->Nat->Bool) (e:Nat):St:=
 ⟨[aM 0 2 (bT l),aE 4 0,aM 7 1 (dV (eI n f)),aM 9 1 (dV (eI n fun a b=>f b a)),au 10 e],[[.v (.int .i64 0),.v (.int .i64 0)]],[]⟩
abbrev WU (l:List Wd) (n:Nat) (f:Nat->Nat->Bool) (e k:Nat):St:=
 ⟨[aM 0 2 (bT l),aE 4 0,aM 7 1 (dV (eI n f)),aM 9 1 (dV (eI n fun a b=>f b a)),au 10 e,au 11 k],[[.v (.int .i64 0),.v (.int .i64 0)]],[]⟩
theorem C9 (l:List Wd) (o:List (Wd × Wd)) (hs:wdsWt l<=1099511627776) (xc:prsWt o<=1099511627776) :
  EvP prog 240 [.sl 2 (bT l) none,.sl 4 (n9 o) none] (latF l o).d:=by
 have ov:=bI l;have hsl2:=jv o;have hF:latF l o=latF l o:=rfl
 conv at hF=>rhs;unfold latF
 refine eG 150 [.cell 4 44] func240 rfl ntmps240 rfl fun _ _ _ _=>?_;generalize latF l o=F at hF ⊢;refine br ?_ ?_<;>intro h
 ·have h:l=[]:=by simpa [aD] using h
  rw [show gM l o=(15,0) by rw [gM,ap h],ap (by decide)] at hF;refine ⟨_,?_,rfl⟩;rw [hF];exact ax
 have h:¬ l=[]:=by simpa [aD] using h
 refine br ?_ ?_<;>intro h1
 ·have h1:32 < l.length:=by simp [aD] at h1;omega
  obtain ⟨x,hx⟩:∃ x,l[32]? = some x:=⟨_,gE h1⟩;rw [show gM l o=(8,x.a) by rw [gM,aj h,ap h1,hx];rfl,ap (by simp)] at hF;refine ⟨kP x,⟨by omega,bd hx⟩,?_⟩;refine ⟨_,?_,rfl⟩;rw [hF];exact ax
 have h1:¬ 32 < l.length:=by simp [aD] at h1;omega
 refine br ?_ ?_<;>intro h2
 ·have h2:256 < o.length:=by simp [gL] at h2;omega
  obtain ⟨x,hx⟩:∃ x,o[256]? = some x:=⟨_,gE h2⟩;rw [show gM l o=(8,x.1.a) by rw [gM,aj h,aj h1,ap h2,hx];rfl,ap (by simp)] at hF;refine ⟨Ot x,⟨by omega,iD hx⟩,?_⟩;refine ⟨_,?_,rfl⟩;rw [hF];exact ax
 have h2:¬ 256 < o.length:=by simp [gL] at h2;omega
 rw [show gM l o=(0,0) by rw [gM,aj h,aj h1,aj h2],aj (by decide)] at hF;have h0:enumL l 0 l=enumL l 0 (l.drop 0):=rfl;refine lI (fun j st=>∃ e:Nat,st=adr l o e/\e<=l.length/\enumL l 0 l=enumL l e (l.drop e)/\j=l.length - e) ⟨0,rfl,by omega,rfl,rfl⟩ (bz wB) ?_;rintro j st ⟨e,rfl,he,aP,rfl⟩;refine br ?_ ?_<;>intro hL
 ·have aq:e < l.length:=by simpa [aD] using hL
  obtain ⟨w,hw⟩:=gX aq;have SU:=jo (mG hw);have aW:enumL l e (l.drop e)=if aK l e w≠0 then (aK l e w,w.a) else enumL l (e + 1) (l.drop (e + 1)):=by rw [drop_cons hw,enumL]
  obtain ⟨p,hp,Oi⟩:=QZ hw;have hf:=gj l w.s hs;rw [hp] at hf;refine ⟨kP w,⟨by omega,bd hw⟩,?_⟩;refine cP KH (lz w.s (by omega)) ?_;refine br ?_ ?_<;>intro hN
  ·have hN:bE w.s=false:=sU hN;have hf:aK l e w=9:=by simp [aK,hN]
   rw [aP,aW,hf,ap (show (9:Int)≠0 by decide),ap (by simp)] at hF;refine ⟨kP w,⟨by omega,bd hw⟩,?_⟩;refine ⟨_,?_,rfl⟩;rw [hF];exact ax
  ·have hN:bE w.s=true:=sU hN;refine ⟨kP w,⟨by omega,bd hw⟩,?_⟩;refine cP xJ hf ?_;refine br ?_ ?_<;>intro h2
   ·have h2:p < e:=by have:=h2;simp [oz] at this;exact this
    have hf:aK l e w=10:=by simp [aK,hN,Oi.1 h2]
    rw [aP,aW,hf,ap (show (10:Int)≠0 by decide),ap (by simp)] at hF;refine ⟨kP w,⟨by omega,bd hw⟩,?_⟩;refine ⟨_,?_,rfl⟩;rw [hF];exact ax
   ·have h2:¬ p < e:=by have:=h2;simp [oz] at this;omega
    have hd:cY (l.take e) w.s=false:=by grind
    have hf:aK l e w=0:=by simp [aK,hN,hd]
    rw [hf,aj (by simp)] at aW;exact rE ⟨_,by omega,e + 1,rfl,by omega,by rw [aP,aW],rfl⟩ (bz (cJ (aG aq (by omega))))
 have hge:e=l.length:=by have:=hL;simp [aD] at this;omega
 rw [aP,hge,List.drop_length,show enumL l l.length []=(0,0) from rfl,aj (by decide)] at hF;refine lI (fun j st=>∃ e:Nat,st=ads l o e/\e<=o.length/\numF (az l) o=numF (az l) (o.drop e)/\j=o.length - e) ⟨0,rfl,by omega,rfl,rfl⟩ (bz wB) ?_;clear aP hL hge he e;rintro j st ⟨e,rfl,he,aP,rfl⟩;refine br ?_ ?_<;>intro hL
 ·have aq:e < o.length:=by simpa [gL] using hL
  obtain ⟨w,hw⟩:=gX aq;have aW:numF (az l) (o.drop e)=if dy (az l) w.1.s=none then (17,w.1.a) else if dy (az l) w.2.s=none then (17,w.2.a) else numF (az l) (o.drop (e + 1)):=by rw [drop_cons hw,numF]
  refine ⟨Ot w,⟨by omega,iD hw⟩,?_⟩;refine cP xJ (gj l w.1.s hs) ?_;refine br ?_ ?_<;>intro ha
  ·have ha:=gI.1 ha;rw [aP,aW,ap ha,ap (by simp)] at hF;refine ⟨Ot w,⟨by omega,iD hw⟩,?_⟩;refine ⟨_,?_,rfl⟩;rw [hF];exact ax
  have ha:¬ dy (az l) w.1.s=none:=fun hn=>by have:=gI.2 hn;rw [ha] at this;cases this
  refine ⟨Ot w,⟨by omega,iD hw⟩,?_⟩;refine cP xJ (gj l w.2.s hs) ?_;refine br ?_ ?_<;>intro hb
  ·have hb:=gI.1 hb;rw [aP,aW,aj ha,ap hb,ap (by simp)] at hF;refine ⟨Ot w,⟨by omega,iD hw⟩,?_⟩;refine ⟨_,?_,rfl⟩;rw [hF];exact ax
  have hb:¬ dy (az l) w.2.s=none:=fun hn=>by have:=gI.2 hn;rw [hb] at this;cases this
  rw [aj ha,aj hb] at aW;exact rE ⟨_,by omega,e + 1,rfl,by omega,by rw [aP,aW],rfl⟩ (bz (cJ (aG aq (by omega))))
 have hge:e=o.length:=by have:=hL;simp [gL] at this;omega
 rw [hge,List.drop_length,show numF (az l) []=(0,0) from rfl] at aP;rw [aP,aj (by decide)] at hF;have p9:(numF (az l) o).1=0:=by rw [aP]
 have hP:tS l.length (dW (az l) o):=by have:=pI p9;rwa [dz] at this
 have hpo:=YY hP;have dM:=kA l.length (fA l.length (dW (az l) o));refine cP X6 (F3 l o (by omega) hs xc p9) ?_;generalize fA l.length (dW (az l) o)=f at hF hpo dM ⊢;refine cP abV (F5 l.length f (by omega)) ?_
 cases hlo:bM (lD l.length f) l.length with
 | some a=>
  rw [hlo] at hF;have ha:=(bV hlo).1;obtain ⟨x,hx⟩:∃ x,l[a]? = some x:=⟨_,gE ha⟩;simp only [lE hx] at hF;refine ⟨kP x,⟨by simp only [oz];omega,bd hx⟩,?_⟩;refine ⟨_,?_,rfl⟩;rw [hF];exact ax
 | none=>
 have hpo:=hpo hlo;rw [hlo] at hF;simp only at hF;refine cP abW (Nc l.length f (by omega)) ?_;refine lI (fun j st=>∃ e:Nat,st=WT l l.length f e/\e<=l.length/\(∀ b,b < e->oP f l.length b=false)/\j=l.length - e) ⟨0,rfl,by omega,fun _ h=>by omega,rfl⟩ (bz wB) ?_;clear aP hL hge he e;rintro j st ⟨e,rfl,he,gm,rfl⟩;refine br ?_ ?_<;>intro hL
 ·have aq:e < l.length:=sV dM hL;have On:=Un hpo aq;refine lI (fun j st=>∃ k:Nat,st=WU l l.length f e k/\k<=e/\(∀ a,a < k->qA f l.length a e=false)/\j=e - k) ⟨0,rfl,by omega,fun _ h=>by omega,rfl⟩ (bz wB) ?_;rintro j st ⟨k,rfl,hk,QY,rfl⟩;refine br ?_ ?_<;>intro mq
  ·have jF:k < e:=sU mq;obtain ⟨x,hx⟩:=gX aq
   have adt:qA f l.length k e=true->F=(12,x.a):=fun YF=>by
    rw [bU aq (by rw [On,List.any_eq_true];exact ⟨k,by simpa using jF,YF⟩) gm] at hF;simp only [lE hx] at hF;exact hF
   refine cP V1 (va l.length f (by omega) k e (by omega) aq) ?_;refine br ?_ ?_<;>intro g1
   ·have g1:¬ mz f l.length k e=none:=fun hn=>by rw [gI.2 hn] at g1;cases g1
    refine cP V1 (va l.length (fun a b=>f b a) (by omega) k e (by omega) aq) ?_;refine br ?_ ?_<;>intro g2
    ·have g2:mz (fun a b=>f b a) l.length k e=none:=by
      rw [<- gI];simpa [pickB] using g2
     have hF:=adt (by unfold qA;rw [g2];simp);refine ⟨kP x,⟨by omega,bd hx⟩,?_⟩;refine ⟨_,?_,rfl⟩;rw [hF];exact ax
    ·have g2:¬ mz (fun a b=>f b a) l.length k e=none:=fun hn=>by
      have h3:=gI.2 hn;simp [pickB] at g2;have h3:=of_decide_eq_true h3;omega
     refine ⟨WU l l.length f e (k + 1),(bz (cJ (aG jF (by omega)))),e - (k + 1),by omega,k + 1,rfl,by omega,fun j hj=>?_,rfl⟩;rcases jJ hj with hj | rfl
     ·exact QY j hj
     ·unfold qA;rw [Option.isNone_eq_false_iff.2 (Option.isSome_iff_ne_none.2 g1),Option.isNone_eq_false_iff.2 (Option.isSome_iff_ne_none.2 g2)];rfl
   ·have g1:mz f l.length k e=none:=by
     rw [<- gI];simpa using g1
    have hF:=adt (by unfold qA;rw [g1];rfl);refine ⟨kP x,⟨by omega,bd hx⟩,?_⟩;refine ⟨_,?_,rfl⟩;rw [hF];exact ax
  ·have hge:k=e:=by have:=mq;simp at this;omega
   subst hge;refine ⟨WT l l.length f (k + 1),(bz (cJ (aG aq (by omega)))),l.length - (k + 1),by omega,k + 1,rfl,by omega,fun j hj=>?_,rfl⟩;rcases jJ hj with hj | rfl
   ·exact gm j hj
   ·grind
 ·have hge:e=l.length:=sW dM hL;subst hge;rw [cK gm] at hF;simp only at hF;refine ⟨_,?_,rfl⟩;rw [hF];exact ax
abbrev ovSt (n:Nat) (f:Nat->Nat->Bool) (l:List Nat) (c e:Nat):St:=
 ⟨[aM 0 1 (dV (eI n f)),aM 1 1 (dInts l),au 2 c,au 7 e],[],[]⟩
theorem Bl (n:Nat) (f:Nat->Nat->Bool) (hn:n<=64) (l:List Nat) (hl:∀ i∈l,i < n) (tf:l.length<=1099511627776) (c:Nat) (hc:c < n) :
  EvP prog 257 [.sl 1 (dV (eI n f)) none,.sl 1 (dInts l) none,.v (.int .i64 c)] (.v (.bool (iH f l c))):=by
 have dM:=kA n f;have we:=aU l;refine eG 25 [.tmp 6] func257 rfl ntmps257 rfl fun _ _ _ _=>?_;refine lI (fun j st=>∃ e:Nat,st=ovSt n f l c e/\e<=l.length/\iH f l c=iH f (l.drop e) c/\j=l.length - e) ⟨0,rfl,by omega,rfl,rfl⟩ (bz wB) ?_;rintro j st ⟨e,rfl,he,aP,rfl⟩;rw [aP];refine br ?_ ?_<;>intro hL
 ·have aq:e < l.length:=by have:=hL;simp [we] at this;exact this
  obtain ⟨i,hi⟩:=gX aq;have zZ:=hl i (mG hi);have aW:iH f (l.drop e) c=(f i c && iH f (l.drop (e + 1)) c):=by unfold iH;rw [drop_cons hi,List.all_cons]
  refine iX (aR hi) ?_;refine iX (fC zZ) ?_;refine iX (er hc) ?_;refine br ?_ ?_<;>intro g
  ·have g:f i c=false:=sU g;rw [aW,g,Bool.false_and];exact (rfl:_=_)
  ·have g:f i c=true:=sU g;rw [g,Bool.true_and] at aW;exact rE ⟨_,by omega,e + 1,rfl,by omega,aW,rfl⟩ (bz (cJ (aG aq (by omega))))
 ·have hge:e=l.length:=sW we hL;rw [hge,List.drop_length];exact (rfl:_=_)
def yH (f:Nat->Nat->Bool) (l:List Nat) (c k:Nat):Bool:=iH f l c && (List.range k).all fun d=>!iH f l d || f c d
theorem Ng (f:Nat->Nat->Bool) (l:List Nat) (c:Nat):yH f l c 0=iH f l c:=by simp [yH]
theorem Nh (f:Nat->Nat->Bool) (l:List Nat) (c k:Nat):yH f l c (k + 1)=(yH f l c k && (!iH f l k || f c k)):=by grind [yH]
abbrev adu (n:Nat) (f:Nat->Nat->Bool) (l:List Nat) (e:Nat):St:=
 ⟨[aM 0 1 (dV (eI n f)),aM 1 1 (dInts l),au 5 e],[],[]⟩
abbrev adv (n:Nat) (f:Nat->Nat->Bool) (l:List Nat) (e:Nat) (x:Bool) (k:Nat):St:=
 ⟨[aM 0 1 (dV (eI n f)),aM 1 1 (dInts l),au 5 e,qN 6 x,au 7 k],[],[]⟩
theorem Jk (n:Nat) (f:Nat->Nat->Bool) (hn:n<=64) (l:List Nat) (hl:∀ i∈l,i < n) (tf:l.length<=1099511627776) :
  EvP prog 206 [.sl 1 (dV (eI n f)) none,.sl 1 (dInts l) none] (.v (.int .i64 (oz (gh f n l)))):=by
 have dM:=kA n f;refine eG 40 [.tmp 4] func206 rfl ntmps206 rfl fun _ _ _ _=>?_;refine lI (fun j st=>∃ e:Nat,st=adu n f l e/\e<=n/\(∀ c,c < e->C0 f n l c=false)/\j=n - e) ⟨0,rfl,by omega,fun _ h=>by omega,rfl⟩ (bz wB) ?_;rintro j st ⟨e,rfl,he,gm,rfl⟩;refine br ?_ ?_<;>intro hL
 ·have aq:e < n:=sV dM hL;refine cP Wb (Bl n f hn l hl tf e aq) ?_;refine lJ (fun k=>adv n f l e (yH f l e k) k) n (bz (cJ ((Ng f l e).symm))) ?_;intro k hk;refine br ?_ ?_<;>intro mq
  ·have jF:k < n:=sV dM mq;have Ji:=Nh f l e k;refine cP Wb (Bl n f hn l hl tf k jF) ?_;refine br ?_ ?_<;>intro g1
   ·refine iX (fC aq) ?_;refine iX (er jF) ?_;refine br ?_ ?_<;>intro g2
    ·have hx:false=yH f l e (k + 1):=by simp [pickB] at g1 g2;rw [Ji];simp [g1,g2]
     exact rE ⟨_,by omega,k + 1,rfl,by omega,rfl⟩ (bz (wB2 (aG jF (by omega)) hx))
    ·have hx:yH f l e k=yH f l e (k + 1):=by simp [pickB] at g1 g2;rw [Ji];simp [g1,g2]
     exact rE ⟨_,by omega,k + 1,rfl,by omega,rfl⟩ (bz (wB2 (aG jF (by omega)) hx))
   ·have hx:yH f l e k=yH f l e (k + 1):=by simp [pickB] at g1;rw [Ji];simp [g1]
    exact rE ⟨_,by omega,k + 1,rfl,by omega,rfl⟩ (bz (wB2 (aG jF (by omega)) hx))
  ·have hge:k=n:=sW dM mq;subst hge;refine br ?_ ?_<;>intro g
   ·have g:C0 f k l e=true:=g;rw [gh,bU aq g gm];exact (rfl:_=_)
   ·have g:C0 f k l e=false:=g;refine ⟨adu k f l (e + 1),(bz (cJ (aG aq (by omega)))),k - (e + 1),by omega,e + 1,rfl,by omega,fun j hj=>?_,rfl⟩;rcases jJ hj with hj | rfl
    ·exact gm j hj
    ·exact g
 ·have hge:e=n:=sW dM hL;subst hge;rw [gh,cK gm];exact (rfl:_=_)
abbrev YZ (lv:List Wd) (f:Nat->Nat->Bool) (l:List Wd) (q e:Nat):St:=
 ⟨[aM 0 2 (bT lv),aM 1 1 (dV (eI lv.length f)),aM 2 2 (bT l),aE 7 0,(8,⟨[],.sl 1 (dInts (nE (az lv) (l.take e))) (some 0)⟩),au 9 e],[[.v (.int .i64 0),.v (.int .i64 0)]],[⟨q,3,1,none⟩]⟩
theorem Uo {L:List ByteArray} {l:List Wd} {i:Nat} (h:i∈nE L l) (hL:0 < L.length):i < L.length:=by
 unfold nE at h;obtain ⟨w,_,rfl⟩:=List.mem_map.1 h
 cases hx:dy L w.s with
 | none=>simpa using hL
 | some p=>exact (dG hx).1
theorem Jl {L:List ByteArray} {l:List Wd} {e i:Nat} {w:Wd} (h:l[e]? = some w) (hi:dy L w.s=some i):dInts (nE L (l.take e)) ++ [[DV.v (.int .i64 (oz (some i)))]]=dInts (nE L (l.take (e + 1))):=by
 rw [ue h hi];simp [dInts,oz]
theorem Ni (lv:List Wd) (f:Nat->Nat->Bool) (h0:0 < lv.length) (hn:lv.length<=32) (hs:wdsWt lv<=1099511627776) (l:List Wd) (hl:wdsWt l<=1099511627776) :
  EvP prog 122 [.sl 2 (bT lv) none,.sl 1 (dV (eI lv.length f)) none,.sl 2 (bT l) none] (MZ f (az lv) l):=by
 have ov:=bI l;have fI:=dz lv;unfold MZ Ad;refine eG 40 [.tmp 6,.cell 7 44] func122 rfl ntmps122 rfl fun _ _ _ _=>?_;refine lI (fun j st=>∃ e:Nat,st=YZ lv f l e e/\e<=l.length/\labW (az lv) l=labW (az lv) (l.drop e)/\j=l.length - e) ⟨0,rfl,by omega,rfl,rfl⟩ (eP ⟨0,3,1,none⟩ rfl ⟨_,rfl⟩ rfl wA rfl rfl lj) ?_;rintro j st ⟨e,rfl,he,aP,rfl⟩;rw [aP];refine br ?_ ?_<;>intro hL
 ·have aq:e < l.length:=by simpa [aD] using hL
  obtain ⟨w,hw⟩:=gX aq;have aW:=uc (L:=az lv) hw;refine ⟨kP w,⟨by omega,bd hw⟩,?_⟩;refine cP xJ (gj lv w.s hs) ?_;refine br ?_ ?_<;>intro ha
  ·have ha:=gI.1 ha;rw [aW,ap ha];refine dS ?_;refine ⟨kP w,⟨by omega,bd hw⟩,?_⟩;exact ⟨_,ax,rfl⟩
  ·cases hi:dy (az lv) w.s with
   | none=>have:=gI.2 hi;rw [ha] at this;cases this
   | some i=>
   rw [aj (by rw [hi];simp)] at aW;refine ⟨by simp [aU,nE];omega,⟨by simp [aU,nE,maxLen];omega,by simp [aU,nE];omega⟩,?_⟩;exact rE ⟨_,by omega,e + 1,rfl,by omega,aW,rfl⟩ (bz (wB2 (aG aq (by omega)) (Jl hw hi)))
 ·have hge:e=l.length:=by have:=hL;simp [aD] at this;omega
  rw [hge,List.drop_length,List.take_length];refine cP abC (Jk lv.length f (by omega) (nE (az lv) l) (fun i hi=>by have:=Uo hi (by omega);omega) (by simp [nE];omega)) ?_;rw [<- fI];exact ⟨_,ax,rfl⟩
theorem Y0 {S:Sch} {e:Nat} {x:Wd × Ty} (h:S.types[e]? = some x):(tL S)[e]? = some x.1.s:=by simp [tL,az,vI,h]
abbrev WV (S:Sch) (s:ByteArray) (e:Nat):St:=
 ⟨[(1,⟨[],.v (.string s)⟩),aE 2 0,au 5 e],[fo S],[]⟩
theorem lF (S:Sch) (s:ByteArray) (hl:S.types.length<=1099511627776) :
  EvP prog 124 [.agg (fo S),.v (.string s)] (.v (.int .i64 (oz (dy (tL S) s)))):=by
 have hN:=eA S.types;have hZ:=kW S;have iz:=@Y0 S;obtain ⟨ae,order,types,⟨rh,rp⟩⟩:=S;simp only at hl hN hZ iz;refine eG 23 [.tmp 4] func124 rfl ntmps124 rfl fun _ _ _ _=>?_;refine lI (fun j st=>∃ e:Nat,st=WV ⟨ae,order,types,.mk rh rp⟩ s e/\e<=types.length/\(∀ j,j < e->(tL ⟨ae,order,types,.mk rh rp⟩)[j]? ≠ some s)/\j=types.length - e) ⟨0,rfl,by omega,fun _ h=>by omega,rfl⟩ (bz wB) ?_;rintro j st ⟨e,rfl,he,gm,rfl⟩;refine br ?_ ?_<;>intro hL
 ·have aq:e < types.length:=by have:=hL;simp [hN] at this;exact this
  obtain ⟨x,hx⟩:=gX aq;have hg:=iz hx;obtain ⟨xw,⟨xh,xp⟩⟩:=x;refine iX (dNms_get hx) ?_;refine br ?_ ?_<;>intro hq
  ·have hq:xw.s=s:=sU hq;rw [CW (p:=e) (by rw [hg,hq]) (fun j hj=>Nat.le_of_not_lt fun hl=>gm j hl hj)];exact (rfl:_=_)
  ·have hq:¬ xw.s=s:=sU hq;refine ⟨WV ⟨ae,order,types,.mk rh rp⟩ s (e + 1),(bz (cJ (aG aq (by omega)))),types.length - (e + 1),by omega,e + 1,rfl,by omega,fun j hj=>?_,rfl⟩;rcases jJ hj with hj | rfl
   ·exact gm j hj
   ·rw [hg];simpa using hq
 ·have hge:e=types.length:=sW hN hL;rw [Ll (fun j hj=>gm j (by omega))];exact (rfl:_=_)
abbrev adw (S:Sch) (l:List Wd) (e:Nat):St:=
 ⟨[aM 1 2 (bT l),aE 2 0,aE 4 1,au 5 e],[fo S,[.v (.int .i64 0),.v (.int .i64 0)]],[]⟩
theorem F6 (S:Sch) (hs:wdsWt S.ae<=1099511627776) (l:List Wd) (hl:wdsWt l<=1099511627776) :
  EvP prog 283 [.agg (fo S),.sl 2 (bT l) none] (labW (az S.ae) l).d:=by
 have ov:=bI l;obtain ⟨ae,order,types,⟨rh,rp⟩⟩:=S;simp only at hs;refine eG 28 [.cell 4 44] func283 rfl ntmps283 rfl fun _ _ _ _=>?_;refine lI (fun j st=>∃ e:Nat,st=adw ⟨ae,order,types,.mk rh rp⟩ l e/\e<=l.length/\labW (az ae) l=labW (az ae) (l.drop e)/\j=l.length - e) ⟨0,rfl,by omega,rfl,rfl⟩ (bz wB) ?_;rintro j st ⟨e,rfl,he,aP,rfl⟩;rw [aP];refine br ?_ ?_<;>intro hL
 ·have aq:e < l.length:=by simpa [aD] using hL
  obtain ⟨w,hw⟩:=gX aq;have aW:=uc (L:=az ae) hw;refine dI ?_;refine ⟨kP w,⟨by omega,bd hw⟩,?_⟩;refine cD xJ (gj ae w.s hs) ?_;refine br ?_ ?_<;>intro ha
  ·have ha:=gI.1 ha;rw [aW,ap ha];refine ⟨kP w,⟨by omega,bd hw⟩,?_⟩;exact ⟨_,ax,rfl⟩
  ·rw [aj (fun hn=>by have:=gI.2 hn;rw [ha] at this;cases this)] at aW;exact rE ⟨_,by omega,e + 1,rfl,by omega,aW,rfl⟩ (bz (cJ (aG aq (by omega))))
 ·have hge:e=l.length:=by have:=hL;simp [aD] at this;omega
  rw [hge,List.drop_length];exact ⟨_,ax,rfl⟩
def iR (l:List Ty):List (List DV):=l.map eK
theorem eC (l:List Ty):(iR l).length=l.length:=by simp [iR]
theorem kZ {l:List Ty} {j:Nat} {t:Ty} (h:l[j]? = some t):(iR l)[j]? = some (eK t):=by simp [iR,h]
def gN (S:Sch):List Ty:=S.types.map fun x=>x.2
def gO (S:Sch):List Ty:=gN S ++ [S.root]
abbrev adx (S:Sch) (q e:Nat):St:=
 ⟨[aE 1 0,(3,⟨[],.sl 9 (iR ((gN S).take e)) (some 0)⟩),au 4 e],[fo S],[⟨q,29,9,none⟩]⟩
theorem F7 (S:Sch) (hl:S.types.length<=1099511627776) :
  EvP prog 54 [.agg (fo S)] (.sl 9 (iR (gO S)) none):=by
 have hN:=eA S.types;obtain ⟨ae,order,types,⟨rh,rp⟩⟩:=S;simp only at hl hN;refine eG 26 [.tmp 2] func54 rfl ntmps54 rfl fun _ _ _ _=>?_;refine lJ (fun e=>adx ⟨ae,order,types,.mk rh rp⟩ e e) types.length (cX 1 ⟨0,29,9,none⟩ rfl rfl rfl qL rfl rfl lj) ?_;intro e he;have hZ:(iR ((gN ⟨ae,order,types,.mk rh rp⟩).take e)).length=e:=by simp [iR,gN];omega
 refine br ?_ ?_<;>intro hL
 ·have aq:e < types.length:=by have:=hL;simp [hN] at this;exact this
  obtain ⟨x,hx⟩:=gX aq
  have dx:iR ((gN ⟨ae,order,types,.mk rh rp⟩).take e) ++ [eK x.2]=iR ((gN ⟨ae,order,types,.mk rh rp⟩).take (e + 1)):=by
   rw [List.take_add_one];simp [gN,hx,iR]
  obtain ⟨xw,⟨xh,xp⟩⟩:=x;refine iX (dNms_get hx) ?_;refine ⟨hZ,⟨by rw [hZ];simp [maxLen];omega,by rw [hZ];simp;omega⟩,?_⟩;exact rE ⟨_,by omega,e + 1,rfl,by omega,rfl⟩ (bZ 1 (lY (aG aq (by omega)) dx) (wB2 (aG aq (by omega)) dx))
 ·have hge:e=types.length:=sW hN hL;have lu:iR ((gN ⟨ae,order,types,.mk rh rp⟩).take e) ++ [eK (.mk rh rp)]=iR (gO ⟨ae,order,types,.mk rh rp⟩):=by grind [gN,gO,iR]
  refine ⟨hZ,⟨by rw [hZ];simp [maxLen];omega,by rw [hZ];simp;omega⟩,?_⟩;rw [<- lu];exact ⟨_,ax,rfl⟩
mutual
def flatT:Ty->List Ty
 | .mk h ps=>if h.ag=9 then [] else .mk h ps :: flatP ps
def flatP:Pts->List Ty
 | .nil=>[]
 | .cons p t r=>(if p.bare then [] else flatT t) ++ flatP r
end
mutual
theorem kB:∀ t:Ty,(flatT t).length=t.nn
 | .mk h ps=>by
  have:=um ps
  grind [flatT,Ty.nn]
theorem um:∀ ps:Pts,(flatP ps).length=ps.nn
 | .nil=>rfl
 | .cons p t r=>by
  have:=kB t;have:=um r
  grind [flatP,Pts.nn]
end
theorem Da {P:Program} {f:FuncId} {args:List DV} {e:Nat} {es:List (List DV)} (h:Ev P f args [] [] (fun r _ _=>r = .sl e es none∨(es=[]/\r = .v (.slice none 0 0)))):EvP P f args (.sl e es none):=by
 intro E w vs hE ht hv;refine (h E w vs hE ht hv).mono ?_;rintro e' w' ⟨v,rfl,hM,hs,d,os,E',h1,h2,h3,h4,h5,h6⟩;rcases h6 with rfl | ⟨rfl,rfl⟩
 ·exact ⟨v,rfl,hM,hs,_,os,E',h1,h2,h3,h4,h5,rfl⟩
 ·refine ⟨v,rfl,hM,hs,.sl e [] none,os,E',h1,h2,h3,h4,?_,rfl⟩;unfold Rv at h5 ⊢;exact ⟨_,0,0,h5.1,⟨rfl,aV _⟩,fun hn=>(hn rfl).elim,fun k hk=>by cases hk⟩
abbrev Y1 (t:Ty) (L:List Ty) (q e:Nat):St:=
 ⟨[aE 1 0,(3,⟨[],.sl 9 (iR L) (some 0)⟩),au 4 e],[eK t],[⟨q,29,9,none⟩]⟩
theorem pL:∀ (k:Nat) (t:Ty),t.wt<=k->t.wt<=1099511627776 ->
  EvP prog 55 [.agg (eK t)] (.sl 9 (iR (flatT t)) none)
 | 0,t,hn,_=>by have:=t.fk;omega
 | k + 1,.mk h ps,hn,cQ=>by
  simp only [Ty.wt,Hd.wt] at hn cQ;have gP:=ps.gF;have hc:=ps.fm;have oe:=ps.ib;have XF:=um ps;refine Da ?_;refine nf (s:=false) (bt:=[]) (mu:=[9]) (hbt:=fun p hp=>by cases hp) (fr:=false) (P:=prog) tt nV 5000 34 [.tmp 2] func55 rfl ntmps55 rfl (nL rfl) (fun _ _ _ _=>?_);refine br ?_ ?_<;>intro h9
  ·have h9:h.ag=9:=sU h9;have:flatT (.mk h ps)=[]:=by simp [flatT,h9]
   exact .inr ⟨by rw [this];rfl,rfl⟩
  have h9:¬ h.ag=9:=sU h9;have hft:flatT (.mk h ps) = .mk h ps :: flatP ps:=by simp [flatT,h9]
  refine YS rfl rfl rfl rfl rfl rfl rfl rfl ?_
  refine aY (fun j st=>∃ (e q:Nat) (L:List Ty),st=Y1 (.mk h ps) L q e/\q=L.length/\e<=ps.len/\flatT (.mk h ps)=L ++ flatP (ps.drop e)/\j=ps.len - e) ps.len
   (Y1 (.mk h ps) [.mk h ps] 1 0) (bZ 1 qL lj) ⟨0,1,_,rfl,rfl,by omega,hft,by omega⟩ ?_
  rintro j st ⟨e,q,L,rfl,hq,he,bA,rfl⟩
  have hLl:L.length<=1 + ps.nn:=by
   have:=congrArg List.length bA;rw [hft] at this;simp at this;omega
  refine br ?_ ?_<;>intro hL
  ·have aq:e < ps.len:=by simpa [aN] using hL
   obtain ⟨p,t,hx⟩:=Pts.fl aq;have HD:=Pts.gY (mG hx);rw [Pts.drop_cons hx] at bA;simp only [flatP] at bA;obtain ⟨u,us⟩:=t;refine iX (cq hx) ?_;refine br ?_ ?_<;>intro hB
   ·have hB:p.bare=false:=sU hB;have bA:flatT (.mk h ps)=(L ++ flatT (.mk u us)) ++ flatP (ps.drop (e + 1)):=by rw [bA,hB,List.append_assoc];all_goals rfl
    have tf:L.length + (flatT (.mk u us)).length<=1 + ps.nn:=by
     have:=congrArg List.length bA;rw [hft] at this;simp at this;omega
    have dx:iR L ++ iR (flatT (.mk u us))=iR (L ++ flatT (.mk u us)):=by simp [iR]
    refine iX (cq hx) ?_;refine cP TB (pL k (.mk u us) (by omega) (by omega)) ?_;refine ⟨by rw [eC,hq],⟨by simp only [eC,maxLen];omega,by simp only [eC];omega⟩,?_⟩;exact ⟨Y1 (.mk h ps) (L ++ flatT (.mk u us)) (q + (iR (flatT (.mk u us))).length) (e + 1),(bZ 1 (lY (aG aq (by omega)) dx) (wB2 (aG aq (by omega)) dx)),ps.len - (e + 1),by omega,e + 1,_,_,rfl,by rw [eC,List.length_append,hq],by omega,bA,rfl⟩
   ·have hB:p.bare=true:=sU hB;rw [hB] at bA;exact rE ⟨_,by omega,e + 1,q,L,rfl,hq,by omega,bA,rfl⟩ (bZ 1 (jM (aG aq (by omega))) (cJ (aG aq (by omega))))
  ·have hge:e=ps.len:=by simp [aN] at hL;omega
   rw [hge,Pts.dR] at bA;simp only [flatP,List.append_nil] at bA;rw [bA];exact ⟨_,ax,.inl rfl⟩
theorem yI (S:Sch) (hl:S.types.length<=1099511627776) (hr:∀ x∈S.types,vJ S x.2=true):∀ (k i:Nat),i < S.types.length->k<=99 ->
  EvP prog 123 [.agg (fo S),.v (.int .i64 i),.v (.int .i64 k)] (.v (.int .i64 (oz (endI S (k + 1) i))))
 | k,i,hi,hk=>by
  have hN:=eA S.types;have CY:=fun s=>lF S s hl;have ih:∀ k' j,k=k' + 1->j < S.types.length->EvP prog 123 [.agg (fo S),.v (.int .i64 j),.v (.int .i64 k')] (.v (.int .i64 (oz (endI S (k' + 1) j)))):=fun k' j he hj=>yI S hl hr k' j hj (by omega);obtain ⟨x,hx⟩:∃ x,S.types[i]? = some x:=⟨_,gE hi⟩;have qh:=hr x (mG hx);have hZ:=kW S;obtain ⟨xw,⟨xh,xp⟩⟩:=x;have hE:endI S (k + 1) i=if xh.ag=9 then endI S k ((dy (tL S) xh.name.s).getD 0) else some i:=by rw [endI,hx];all_goals rfl
  obtain ⟨ae,order,types,⟨rh,rp⟩⟩:=S;simp only at hl hN hi hx qh hZ;refine eG 32 [.tmp 6] func123 rfl ntmps123 rfl fun _ _ _ _=>?_;refine iX (dNms_get hx) ?_;refine br ?_ ?_<;>intro h9
  ·have h9:¬ xh.ag=9:=sU h9;rw [aj h9] at hE;rw [hE];exact (rfl:_=_)
  have h9:xh.ag=9:=sU h9;rw [ap h9] at hE;rw [hE];refine br ?_ ?_<;>intro h1
  ·have h1:k=0:=by have:=h1;simp at this;omega
   subst h1;exact (rfl:_=_)
  have h1:1<=k:=by have:=h1;simp at this;omega
  obtain ⟨k',rfl⟩:∃ k',k=k' + 1:=⟨k - 1,by omega⟩;have Oo:=of_decide_eq_true qh h9;obtain ⟨j,hj⟩:∃ j,dy (tL ⟨ae,order,types,.mk rh rp⟩) xh.name.s=some j:=Option.ne_none_iff_exists'.1 Oo;have ll:=(dG hj).1;rw [hZ] at ll;have hf:=CY xh.name.s;rw [hj] at hf ⊢;have fH:IntKind.i64.wrap (((k' + 1:Nat):Int) - 1)=(k':Int):=by rw [wrap64 (by omega) (by omega)];omega
  refine dI ?_;refine iX (dNms_get hx) ?_;refine cD KG hf ?_;refine cD Pj (ih k' j rfl ll) ?_ (mc fH);exact (rfl:_=_)
theorem uo {S:Sch}:∀ {k i j:Nat},endI S k i=some j->endI S (k + 1) i=some j
 | 0,i,j,h=>by cases h
 | k + 1,i,j,h=>by
  rw [endI] at h ⊢
  cases hx:S.types[i]? with
  | none=>rw [hx] at h;cases h
  | some x=>
   rw [hx] at h;simp only at h ⊢;split at h
   ·rename_i h9;rw [ap h9];exact uo h
   ·rename_i h9;rw [aj h9];exact h
def vK (S:Sch) (k:Nat):List Bool:=(List.range S.types.length).map fun i=>(endI S k i).isSome
theorem sv (S:Sch) (k:Nat):(vK S k).length=S.types.length:=by simp [vK]
theorem yJ {S:Sch} {k i:Nat} (hi:i < S.types.length):(vK S k).getD i false=(endI S k i).isSome:=by grind [vK]
theorem Up (S:Sch) (k:Nat):A0 (vK S k) (vK S (k + 1)):=by
 intro i h;by_cases hi:i < S.types.length
 ·rw [yJ hi] at h ⊢;obtain ⟨j,hj⟩:=Option.isSome_iff_exists.1 h;rw [uo hj];rfl
 ·grind [sv]
theorem Q1 {S:Sch} {k:Nat} (h:vK S k=vK S (k + 1)):∀ i,endI S (k + 2) i=endI S (k + 1) i:=by
 intro i
 have key:∀ {j:Nat},j < S.types.length->(endI S k j).isSome=(endI S (k + 1) j).isSome:=fun {j} hj=>by
  rw [<- yJ hj,<- yJ hj,h]
 have same:∀ j,endI S (k + 1) j=endI S k j:=fun j=>by
  cases h1:endI S k j with
  | some m=>exact uo h1
  | none=>
   cases h2:endI S (k + 1) j with
   | none=>rfl
   | some m=>grind [endI]
 grind [endI]
theorem Bm (S:Sch):∀ k,(∀ i,endI S (k + 1) i=endI S k i)∨k<=kV (vK S k)
 | 0=>.inr (Nat.zero_le _)
 | k + 1=>by
  rcases Bm S k with h | h
  ·grind [endI]
  ·rcases (leB_eq (by rw [sv,sv]) (Up S k)).1 with h2 | h2
   ·exact .inl (Q1 h2)
   ·exact .inr (by omega)
theorem F8 {S:Sch}:∀ {k:Nat},S.types.length + 1<=k->∀ i,endI S k i=endI S (S.types.length + 1) i:=by
 have aW:∀ i,endI S (S.types.length + 2) i=endI S (S.types.length + 1) i:=fun i=>by
  rcases Bm S (S.types.length + 1) with h | h
  ·exact h i
  ·grind [cntB_le,vK,sv]
 have key:∀ d i,endI S (S.types.length + 1 + (d + 1)) i=endI S (S.types.length + 1 + d) i:=by
  intro d
  induction d with
  | zero=>exact aW
  | succ d ih=>grind [endI]
 intro k hk i;obtain ⟨d,rfl⟩:∃ d,k=S.types.length + 1 + d:=⟨k - (S.types.length + 1),by omega⟩;clear hk
 induction d with
 | zero=>rfl
 | succ d ih=>rw [key,ih]
theorem yK (S:Sch) (hl:S.types.length<=64) (hr:∀ x∈S.types,vJ S x.2=true) (i:Nat) (hi:i < S.types.length) :
  EvP prog 123 [.agg (fo S),.v (.int .i64 i),.v (.int .i64 (99:Nat))] (.v (.int .i64 (oz (endI S (S.types.length + 1) i)))):=by
 have:=yI S (by omega) hr 99 i hi (aV _)
 rwa [F8 (by omega)] at this
abbrev adz (S:Sch) (k n e:Nat):St:=
 ⟨[aE 2 0,au 5 k,au 6 n,au 7 e],[fo S],[]⟩
theorem yL (S:Sch) (hl:S.types.length<=64) (hs:nmsWt S.types<=1099511627776) (hr:∀ x∈S.types,vJ S x.2=true) (s:ByteArray) (i k:Nat) (hi:dy (tL S) s=some i) (hk:endI S (S.types.length + 1) i=some k) :
  EvP prog 57 [.agg (fo S),.v (.string s)] (.v (.int .i64 (firstA S k))):=by
 have hN:=eA S.types;have we:=(dG hi).1;rw [kW] at we;have gl:=(sg hk).1;have hf:=lF S s (by omega);have he:=yK S hl hr i we;rw [hi] at hf;rw [hk] at he;have hfa:=@oS S;have Lf:=Ba S;obtain ⟨ae,order,types,⟨rh,rp⟩⟩:=S;simp only at hl hs hN we gl hfa Lf;refine eG 29 [.tmp 4] func57 rfl ntmps57 rfl fun _ _ _ _=>?_;refine dI ?_;refine cD KG hf ?_;refine cD Pj he ?_;refine lJ (fun e=>adz ⟨ae,order,types,.mk rh rp⟩ k (firstA ⟨ae,order,types,.mk rh rp⟩ e) e) k (bz wB) ?_;intro e hek;refine br ?_ ?_<;>intro hL
 ·have aq:e < k:=sU hL;obtain ⟨x,hx⟩:∃ x,types[e]? = some x:=⟨_,gE (by omega)⟩;have SU:=ig (mG hx);have h1:=hfa hx;have h2:=Lf e;have h3:=Lf (e + 1);have h4:=kB x.2;obtain ⟨xw,⟨xh,xp⟩⟩:=x;simp only at SU h1 h4;refine iX (dNms_get hx) ?_;refine cP TB (pL _ (.mk xh xp) (aV _) (by omega)) ?_;have zQ:IntKind.i64.wrap ((firstA ⟨ae,order,types,.mk rh rp⟩ e:Int) + (iR (flatT (.mk xh xp))).length)=(firstA ⟨ae,order,types,.mk rh rp⟩ (e + 1):Int):=by grind [eC,wrap64]
  exact rE ⟨_,by omega,e + 1,rfl,by omega,rfl⟩ (bz (wB2 zQ (aG aq (by omega))))
 ·have hge:e=k:=by have:=hL;simp at this;omega
  subst hge;exact (rfl:_=_)
theorem Lo {S:Sch} {e:Nat} {x:Wd × Ty} (h:S.types[e]? = some x):(vI S)[e]? = some x.1:=by simp [vI,h]
abbrev adA (S:Sch) (e:Nat):St:=
 ⟨[aE 1 0,aE 2 1,au 3 e],[fo S,[.v (.int .i64 0),.v (.int .i64 0)]],[]⟩
theorem Db (S:Sch) (hs:nmsWt S.types<=1099511627776) :
  EvP prog 241 [.agg (fo S)] (fu S).d:=by
 have hN:=eA S.types;have fI:=kv S.types;have hZ:=Li S;have hF:=fu.eq_1 S;have iz:=@Lo S;have CY:=fun s=>lF S s (by omega);have hTL:tL S=az (vI S):=rfl;obtain ⟨ae,order,types,⟨rh,rp⟩⟩:=S;simp only at hs hN fI hZ iz hF;generalize hQ:vI ⟨ae,order,types,.mk rh rp⟩=Q at hZ hF iz hTL;refine eG 47 [.cell 2 44] func241 rfl ntmps241 rfl fun _ _ _ _=>?_;generalize fu ⟨ae,order,types,.mk rh rp⟩=F at hF ⊢;refine br ?_ ?_<;>intro h
 ·have h:64 < types.length:=by simp [hN] at h;omega
  obtain ⟨x,hx⟩:∃ x,types[64]? = some x:=⟨_,gE h⟩;have T4:=iz hx;rw [ap h,lE T4] at hF;obtain ⟨xw,⟨xh,xp⟩⟩:=x;refine iX (dNms_get hx) ?_;refine ⟨_,?_,rfl⟩;rw [hF];exact ax
 have h:¬ 64 < types.length:=by simp [hN] at h;omega
 rw [aj h] at hF;refine lI (fun j st=>∃ e:Nat,st=adA ⟨ae,order,types,.mk rh rp⟩ e/\e<=types.length/\enumL Q 0 Q=enumL Q e (Q.drop e)/\j=types.length - e) ⟨0,rfl,by omega,rfl,rfl⟩ (bz wB) ?_;rintro j st ⟨e,rfl,he,aP,rfl⟩;rw [aP] at hF;refine br ?_ ?_<;>intro hL
 ·have aq:e < types.length:=by have:=hL;simp [hN] at this;exact this
  obtain ⟨x,hx⟩:=gX aq;have SU:=ig (mG hx);have hq:=iz hx;have aW:=qX hq;obtain ⟨p,hp,Oi⟩:=QZ hq;obtain ⟨xw,⟨xh,xp⟩⟩:=x;simp only [Wd.wt] at SU hq aW hp Oi;have hf:=CY xw.s;rw [hTL,hp] at hf;have hlab:=nr [xw] (by simp only [wdsWt,Wd.wt];omega);have HF:b9 [xw]=if bE xw.s then (0,0) else (9,xw.a):=by simp [b9,badWd]
  refine iX (dNms_get hx) ?_;refine cP Pv hlab ?_;refine br ?_ ?_<;>intro hN
  ·have hN:(b9 [xw]).1≠0:=sU hN
   cases aZ:bE xw.s with
   | true=>rw [HF,aZ] at hN;exact absurd rfl hN
   | false=>
   rw [aZ] at HF;have HF:b9 [xw]=(9,xw.a):=HF;have hf9:aK Q e xw=9:=by simp [aK,aZ]
   rw [aW,hf9,ap (by decide)] at hF;refine ⟨_,?_,rfl⟩;rw [hF,HF];exact ax
  ·have hN:(b9 [xw]).1=0:=sU hN
   cases aZ:bE xw.s with
   | false=>rw [HF,aZ] at hN;exact absurd hN (by simp)
   | true=>
   refine cP KG hf ?_;refine br ?_ ?_<;>intro h2
   ·have h2:p < e:=by have:=h2;simp [oz] at this;exact this
    have hf10:aK Q e xw=10:=by simp [aK,aZ,Oi.1 h2]
    rw [aW,hf10,ap (by decide)] at hF;refine ⟨_,?_,rfl⟩;rw [hF];exact ax
   ·have h2:¬ p < e:=by have:=h2;simp [oz] at this;omega
    have hd:cY (Q.take e) xw.s=false:=by grind
    have hf0:aK Q e xw=0:=by simp [aK,aZ,hd]
    rw [hf0,aj (by simp)] at aW;exact rE ⟨_,by omega,e + 1,rfl,by omega,by rw [aP,aW],rfl⟩ (bz (cJ (aG aq (by omega))))
 ·have hge:e=types.length:=sW hN hL;rw [hge,<- hZ,List.drop_length] at hF;refine ⟨_,?_,rfl⟩;rw [hF];exact ax
abbrev Lp (S:Sch) (t:Ty) (e:Nat):St:=
 ⟨[aE 2 0,aE 3 1,aE 4 2,au 5 e],[fo S,eK t,[.v (.int .i64 0),.v (.int .i64 0)]],[]⟩
theorem sw (S:Sch) (hl:S.types.length<=1099511627776) (hs:wdsWt S.ae<=1099511627776):∀ (k:Nat) (t:Ty),t.wt<=k->t.wt<=1099511627776 ->
  EvP prog 243 [.agg (fo S),.agg (eK t)] (mP S t).d
 | 0,t,hn,_=>by have:=t.fk;omega
 | k + 1,.mk h ps,hn,cQ=>by
  have ih:=sw S hl hs k;simp only [Ty.wt,Hd.wt] at hn cQ;have gP:=ps.gF;have hf:=lF S h.name.s hl;have hwd:=fun l hl=>F6 S hs l hl;have hS:mP S (.mk h ps)=if h.ag=9/\dy (tL S) h.name.s=none then (15,h.name.a) else knP ⟨az S.ae,[],[],[],fun _ _=>false⟩ (tL S) ps:=by rw [mP,knT]
  have hS0:knP ⟨az S.ae,[],[],[],fun _ _=>false⟩ (tL S) ps=knP ⟨az S.ae,[],[],[],fun _ _=>false⟩ (tL S) (ps.drop 0):=by rw [Pts.drop]
  have hK:∀ e p u,ps.toList[e]? = some (p,u)->knP ⟨az S.ae,[],[],[],fun _ _=>false⟩ (tL S) (ps.drop e)=if (labW (az S.ae) p.label).1≠0 then labW (az S.ae) p.label else if (labW (az S.ae) p.cl).1≠0 then labW (az S.ae) p.cl else if p.bare then knP ⟨az S.ae,[],[],[],fun _ _=>false⟩ (tL S) (ps.drop (e + 1)) else if (mP S u).1≠0 then mP S u else knP ⟨az S.ae,[],[],[],fun _ _=>false⟩ (tL S) (ps.drop (e + 1)):=fun e p u hx=>by
   rw [Pts.drop_cons hx,knP];all_goals rfl
  have hK0:knP ⟨az S.ae,[],[],[],fun _ _=>false⟩ (tL S) .nil=(0,0):=by rw [knP]
  generalize knP ⟨az S.ae,[],[],[],fun _ _=>false⟩ (tL S)=KP at hS hS0 hK hK0;obtain ⟨ae,order,types,⟨rh,rp⟩⟩:=S;refine eG 64 [.cell 4 44] func243 rfl ntmps243 rfl fun _ _ _ _=>?_;generalize mP ⟨ae,order,types,.mk rh rp⟩ (.mk h ps)=F at hS ⊢;refine have body:=?_;br (fun h9=>O0 KG hf ax rfl (br (fun hx=>?_) (fun hx=>aY (fun j st=>∃ e:Nat,st=Lp ⟨ae,order,types,.mk rh rp⟩ (.mk h ps) e/\e<=ps.len/\F=KP (ps.drop e)/\j=ps.len - e) ps.len (Lp ⟨ae,order,types,.mk rh rp⟩ (.mk h ps) 0) (bz wB) ⟨0,rfl,by omega,?_,by omega⟩ body))) (fun h9=>aY (fun j st=>∃ e:Nat,st=Lp ⟨ae,order,types,.mk rh rp⟩ (.mk h ps) e/\e<=ps.len/\F=KP (ps.drop e)/\j=ps.len - e) ps.len (Lp ⟨ae,order,types,.mk rh rp⟩ (.mk h ps) 0) (bz wB) ⟨0,rfl,by omega,?_,by omega⟩ body)
  rotate_left
  ·have h9:h.ag=9:=sU h9;have hx:dy (tL ⟨ae,order,types,.mk rh rp⟩) h.name.s=none:=gI.1 (by simpa [pickB] using hx);rw [ap ⟨h9,hx⟩] at hS;refine ⟨_,?_,rfl⟩;rw [hS];exact ax
  ·have hx:¬ dy (tL ⟨ae,order,types,.mk rh rp⟩) h.name.s=none:=fun hn=>by
    have h3:=gI.2 hn;simp [pickB] at hx;have h3:=of_decide_eq_true h3;omega
   rw [aj (fun hc=>hx hc.2),hS0] at hS;exact hS
  ·grind
  rintro j st ⟨e,rfl,he,aP,rfl⟩;refine br ?_ ?_<;>intro hL
  ·have aq:e < ps.len:=by simpa [aN] using hL
   obtain ⟨p,t,hx⟩:=Pts.fl aq;have HD:=Pts.gY (mG hx);have hk:=hK e p t hx;have HE:wdsWt p.label + wdsWt p.cl<=p.wt:=by simp only [Ph.wt];omega
   obtain ⟨u,us⟩:=t;refine iX (cq hx) ?_;refine cP Wg (hwd p.label (by omega)) ?_;refine br ?_ ?_<;>intro b1
   ·have b1:(labW (az ae) p.label).1=0:=sU b1;rw [aj (by simp [b1])] at hk;refine cP Wg (hwd p.cl (by omega)) ?_;refine br ?_ ?_<;>intro b2
    ·have b2:(labW (az ae) p.cl).1=0/\p.bare=false:=by
      rw [av] at b2;simpa using b2
     obtain ⟨b2,b3⟩:=b2;rw [aj (by simp [b2]),aj (by simp [b3])] at hk;refine cP Pu (ih (.mk u us) (by omega) (by omega)) ?_;refine br ?_ ?_<;>intro b4
     ·have b4:(mP ⟨ae,order,types,.mk rh rp⟩ (.mk u us)).1≠0:=sU b4;rw [ap b4] at hk
      (refine ⟨_,?_,rfl⟩;rw [aP,hk];exact ax)
     ·have b4:(mP ⟨ae,order,types,.mk rh rp⟩ (.mk u us)).1=0:=sU b4;rw [aj (by simp [b4])] at hk;exact rE ⟨_,by omega,e + 1,rfl,by omega,by rw [aP,hk],rfl⟩ (bz (cJ (aG aq (by omega))))
    ·refine br ?_ ?_<;>intro b4
     ·have b4:(labW (az ae) p.cl).1≠0:=sU b4;rw [ap b4] at hk
      (refine ⟨_,?_,rfl⟩;rw [aP,hk];exact ax)
     ·have b4:(labW (az ae) p.cl).1=0:=sU b4
      have b3:p.bare=true:=by
       rw [av] at b2;simpa [b4] using b2
      rw [aj (by simp [b4]),ap b3] at hk;exact rE ⟨_,by omega,e + 1,rfl,by omega,by rw [aP,hk],rfl⟩ (bz (cJ (aG aq (by omega))))
   ·have b1:¬ (labW (az ae) p.label).1=0:=sU b1;rw [ap b1] at hk;refine br ?_ ?_<;>intro b2
    ·rw [av] at b2;simp [b1] at b2
    ·refine br ?_ ?_<;>intro b4
     ·(refine ⟨_,?_,rfl⟩;rw [aP,hk];exact ax)
     ·simp [b1] at b4
  ·have hge:e=ps.len:=by simp [aN] at hL;omega
   rw [hge,Pts.dR] at aP;refine ⟨_,?_,rfl⟩;rw [aP,hK0];exact ax
abbrev Lq (h:Hd) (ps:Pts) (e:Nat) (depth m:Int):St:=
 ⟨[au 2 depth,aE 3 0,aE 4 1,aE 6 2,au 7 e],[[.v (.int .i64 0),.v (.int .i64 0),.v (.int .i64 m)],eK (.mk h ps),[.v (.int .i64 0),.v (.int .i64 0),.v (.int .i64 0)]],[]⟩
theorem Dc (k:Nat) (ih:CF k) (h:Hd) (ps:Pts) (depth m:Int) (hk:ps.wt<=k) (cQ:(Ty.mk h ps).wt<=1099511627776) (AK:0<=depth) (ta:depth<=25) (om:0<=m) (jY:m<=512) :
  EvP prog 242 [wD (0,0) m,.agg (eK (.mk h ps)),.v (.int .i64 depth)] (wD (wrong (.mk h ps) depth m).1 (wrong (.mk h ps) depth m).2):=by
 have A8:=cQ;simp only [Ty.wt,Hd.wt] at A8;have gP:=ps.gF;have Yh:=bI h.af;have te:IntKind.i64.wrap (m + 1)=m + 1:=wrap64 (by omega) (by omega)
 have hW:∀ e a,EvP prog 278 [.agg [.v (.int .i64 0),.v (.int .i64 0),.v (.int .i64 (IntKind.i64.wrap (m + 1)))],.v (.int .i64 e),.v (.int .i64 a)] (wD (e,a) (m + 1)):=by
  intro e a;rw [te];exact fg (0,0) (m + 1) e a
 have hS:=wrong.eq_def (.mk h ps) depth m;simp only at hS;refine eG 201 [.cell 6 335] func242 rfl ntmps242 rfl fun _ _ _ _=>?_;refine br ?_ ?_<;>intro c
 ·have c:24 < depth:=of_decide_eq_true c;refine cP ie (hW 6 h.aO) ?_;rw [ap c] at hS;refine ⟨_,?_,rfl⟩;rw [hS];exact ax
 have c:¬ 24 < depth:=of_decide_eq_false c;rw [aj c] at hS;refine br ?_ ?_<;>intro c
 ·have c:512 < IntKind.i64.wrap (m + 1):=of_decide_eq_true c;rw [te] at c;refine cP ie (hW 8 h.aO) ?_;rw [ap c] at hS;refine ⟨_,?_,rfl⟩;rw [hS];exact ax
 have c:¬ 512 < IntKind.i64.wrap (m + 1):=of_decide_eq_false c;rw [te] at c;rw [aj c] at hS;refine br ?_ ?_<;>intro c
 ·have c:h.ag < 1∨9 < h.ag:=by simpa [aw] using c
  refine cP ie (hW 14 h.aO) ?_;rw [ap c] at hS;refine ⟨_,?_,rfl⟩;rw [hS];exact ax
 have c:¬ (h.ag < 1∨9 < h.ag):=by simp [aw] at c;omega
 rw [aj c] at hS;refine cP abX (Ik (.mk h ps) (by omega)) ?_;refine br ?_ ?_<;>intro c
 ·have c:xS (.mk h ps)=false:=by simpa [xS] using c
  refine cP ie (hW 19 h.aO) ?_;rw [ap c] at hS;refine ⟨_,?_,rfl⟩;rw [hS];exact ax
 have c:¬ xS (.mk h ps)=false:=by simpa [xS] using c
 rw [aj c] at hS;refine br ?_ ?_<;>intro c
 ·have c:(h.ag=2/\h.hi < h.lo)∨(h.ag=3/\(h.most < 0∨4096 < h.most)):=by simp [aw,av] at c;omega
  refine cP ie (hW 20 h.aO) ?_;rw [ap c] at hS;refine ⟨_,?_,rfl⟩;rw [hS];exact ax
 have c:¬ ((h.ag=2/\h.hi < h.lo)∨(h.ag=3/\(h.most < 0∨4096 < h.most))):=by simp [aw,av] at c;omega
 rw [aj c] at hS;refine br ?_ ?_<;>intro k9
 ·have k9:h.ag=9:=sU k9;refine cP KH (lz h.name.s (by simp only [Wd.wt] at A8;omega)) ?_;refine br ?_ ?_<;>intro q
  ·have q:bE h.name.s=false:=by simpa [av,k9] using q
   refine cP ie (hW 9 h.name.a) ?_;rw [ap ⟨k9,q⟩] at hS;refine ⟨_,?_,rfl⟩;rw [hS];exact ax
  ·have q:bE h.name.s=true:=by simpa [av,k9] using q
   rw [aj (by simp [q]),aj (by omega),aj (by omega),aj (by omega)] at hS;refine br (fun x=>?_) (fun _=>?_)
   ·have:=of_decide_eq_true x;omega
   refine br (fun x=>?_) (fun _=>?_)
   ·simp [aw] at x;omega
   refine br (fun x=>?_) (fun _=>?_)
   ·simp [aw] at x;omega
   refine ⟨_,?_,rfl⟩;rw [hS];exact (mc te)
 ·have k9:¬ h.ag=9:=sU k9;rw [aj (by simp [k9])] at hS;refine br ?_ ?_<;>intro k4
  ·have k4:h.ag=4:=of_decide_eq_true k4;rw [ap k4] at hS;refine br ?_ ?_<;>intro c
   ·have c:h.af=[]:=by simp [aD] at c;exact c
    refine cP ie (hW 15 h.aO) ?_;refine ⟨_,?_,rfl⟩;rw [hS];simp only [jt,ap c];exact ax
   have c:¬ h.af=[]:=by simp [aD] at c;exact c
   refine br ?_ ?_<;>intro c2
   ·have aq:64 < h.af.length:=by simp [aD] at c2;omega
    obtain ⟨x,hx⟩:=gX aq;refine dS ?_;refine ⟨kP x,⟨by omega,bd hx⟩,?_⟩;refine cD ie (hW 8 x.a) ?_;refine ⟨_,?_,rfl⟩;rw [hS];simp only [jt,aj c,ap aq,hx,Option.getD_some];exact ax
   have c2:¬ 64 < h.af.length:=by simp [aD] at c2;omega
   have hE:jt h=enumL h.af 0 h.af:=by simp only [jt,aj c,aj c2]
   rw [hE] at hS
   refine aY (fun j st=>∃ (e:Nat),st=Lq h ps e depth (m + 1)/\e<=h.af.length/\enumL h.af 0 h.af=enumL h.af e (h.af.drop e)/\j=h.af.length - e) h.af.length
    (Lq h ps 0 depth (m + 1)) (bZ 3 (jM te) (cJ te)) ⟨0,rfl,by omega,rfl,by omega⟩ ?_
   rintro j st ⟨e,rfl,he,aP,rfl⟩;refine br ?_ ?_<;>intro hL
   ·have aq:e < h.af.length:=by simpa [aD] using hL
    obtain ⟨x,hx⟩:=gX aq;rw [drop_cons hx] at aP;simp only [enumL] at aP;refine cP Wf (qx h.af e x (by omega) hx) ?_;refine br ?_ ?_<;>intro hl
    ·have hl:aK h.af e x≠0:=sU hl;rw [ap hl] at aP;refine dS ?_;refine ⟨kP x,⟨by omega,bd hx⟩,?_⟩;refine cD ie (fg (0,0) (m + 1) _ x.a) ?_;refine ⟨_,?_,rfl⟩;rw [hS,aP];exact ax
    ·have hl:aK h.af e x=0:=sU hl;rw [aj (by simp [hl])] at aP;exact rE ⟨_,by omega,e + 1,rfl,by omega,aP,rfl⟩ (bz (cJ (aG aq (by omega))))
   ·have hge:e=h.af.length:=by simp [aD] at hL;omega
    rw [hge,List.drop_length] at aP;simp only [enumL] at aP;rw [aP] at hS;refine br (fun x=>?_) (fun _=>?_)
    ·simp [aw] at x;omega
    refine br (fun x=>?_) (fun _=>?_)
    ·simp [aw] at x;omega
    refine ⟨_,?_,rfl⟩;rw [hS];exact ax
  ·have k4:¬ h.ag=4:=of_decide_eq_false k4;rw [aj k4] at hS;refine br ?_ ?_<;>intro k5
   ·have k5:h.ag=5∨h.ag=6:=by simpa [aw] using k5
    rw [ap k5] at hS
    cases ps with
    | nil=>
     refine cP ie (hW 19 h.aO) ?_;refine ⟨_,?_,rfl⟩;rw [hS];simp only [wrongOne];exact ax
    | cons p t r=>
     cases r with
     | cons p2 t2 r2=>
      refine cP ie (hW 19 h.aO) ?_;refine ⟨_,?_,rfl⟩;rw [hS];simp only [wrongOne];exact ax
     | nil=>
      obtain ⟨u,us⟩:=t;simp only [wrongOne] at hS;simp only [Ty.wt,Pts.wt] at A8 hk;refine ⟨_,⟨by omega,rfl⟩,?_⟩;refine br ?_ ?_<;>intro c
      ·have c:p.name.s=ay:=by
        have:=c;simp [aw] at this;exact this
       refine ⟨_,⟨by omega,rfl⟩,?_⟩;refine cP Pw (nq p fJ (eK (.mk u us)) (eK c9) (by omega) (AO _ _ _ _ _) (AO _ _ _ _ _)) ?_;refine br ?_ ?_<;>intro q
       ·have q:cO p fJ=false:=by simpa [aw,c] using q
        refine cP ie (hW 19 h.aO) ?_;rw [ap (by simp [q])] at hS;refine ⟨_,?_,rfl⟩;rw [hS];exact ax
       ·have q:cO p fJ=true:=by simpa [aw,c] using q
        rw [aj (by simp [q,c])] at hS;refine br ?_ ?_<;>intro x
        ·have x:h.most < 0∨1024 < h.most:=by simpa [aw] using x
         refine cP ie (hW 20 h.aO) ?_;rw [ap x] at hS;refine ⟨_,?_,rfl⟩;rw [hS];exact ax
        ·have x:¬ (h.most < 0∨1024 < h.most):=by simp [aw] at x;omega
         rw [aj x] at hS;refine dS ?_;refine ⟨_,⟨by omega,rfl⟩,?_⟩;refine cD Pt (ih (.mk u us) (depth + 1) (m + 1) (by simp only [Ty.wt];omega) (by simp only [Ty.wt];omega) (by omega) (by omega) (by omega) (by omega)) ?_ (by repeat' (first | exact rfl | exact trivial | exact Or.inr (Or.inl ⟨_,rfl⟩) | exact Or.inr ⟨_,rfl⟩ | exact Or.inl ⟨rfl,rfl⟩ | exact Or.inl rfl | refine Or.inr ⟨_,_,rfl,Nat.zero_le _,rfl,?_⟩ | refine ⟨_,_,rfl,?_,?_⟩ | refine ⟨_,rfl,?_⟩ | exact congrArg (fun z=>DV.v (.int .i64 z)) te | exact congrArg (fun z=>DV.v (.int .i64 z)) (wrap64 (by omega) (by omega))| refine Or.inr (Or.inr (Or.inr ⟨_,_,rfl,?_⟩)) | exact Or.inl rfl | refine Or.inr ?_));refine ⟨_,?_,rfl⟩;rw [hS];exact ax
      ·have c:p.name.s≠ay:=by
        have:=c;simp [aw] at this;exact this
       refine cP ie (hW 19 h.aO) ?_;rw [ap (.inl c)] at hS;refine ⟨_,?_,rfl⟩;rw [hS];exact ax
   ·have k5:¬ (h.ag=5∨h.ag=6):=by simp [aw] at k5;omega
    rw [aj k5] at hS;refine br ?_ ?_<;>intro k7
    ·have k7:h.ag=7∨h.ag=8:=by simpa [aw] using k7
     rw [ap k7] at hS;have hP:wrong (.mk h ps) depth m=fK h ps depth (m + 1):=by rw [hS];all_goals rfl
     refine cP abY (CG k ih h ps depth (m + 1) hk cQ AK (by omega) (by omega) (by omega)) ?_ (mc te);refine ⟨_,?_,rfl⟩;rw [hP];exact ax
    ·have k7:¬ (h.ag=7∨h.ag=8):=by simp [aw] at k7;omega
     rw [aj k7] at hS;refine ⟨_,?_,rfl⟩;rw [hS];exact (mc te)
theorem Bn:∀ k,CF k
 | 0=>fun t depth m hk=>by have:=t.fk;omega
 | k + 1=>fun t depth m hk cQ AK ta om jY=>by
  obtain ⟨h,ps⟩:=t;have fH:=hk;simp only [Ty.wt,Hd.wt] at fH;exact Dc k (Bn k) h ps depth m (by omega) cQ AK ta om jY
theorem Dd (t:Ty) (depth m:Int) (cQ:t.wt<=1099511627776) (AK:0<=depth) (ta:depth<=25) (om:0<=m) (jY:m<=512) :
  EvP prog 242 [wD (0,0) m,.agg (eK t),.v (.int .i64 depth)] (wD (wrong t depth m).1 (wrong t depth m).2):=
 Bn t.wt t depth m (aV _) cQ AK ta om jY
def eaA:List Ty->Int->Ft × Int
 | [],m=>((0,0),m)
 | t :: r,m=>if (cy t m).1.1≠0 then cy t m else eaA r (cy t m).2
theorem Q2 (z:Ty):∀ (l:List (Wd × Ty)) (m:Int),((eaA (l.map (fun x=>x.2) ++ [z]) m).1.1=0↔(eaR z l m).1.1=0)/\((eaR z l m).1.1≠0->eaA (l.map (fun x=>x.2) ++ [z]) m=eaR z l m)
 | [],m=>by
  show ((eaA [z] m).1.1=0↔(cy z m).1.1=0)/\((cy z m).1.1≠0->eaA [z] m=cy z m)
  grind [eaA,cy]
 | x :: r,m=>by
  have ih:=Q2 z r (cy x.2 m).2
  grind [eaA,eaR,cy]
def eaK (F:Ty->Ft):List Ty->Ft
 | []=>(0,0)
 | t :: r=>if (F t).1≠0 then F t else eaK F r
theorem Q3 (F:Ty->Ft) (z:Ty):∀ l:List (Wd × Ty),((eaK F (l.map (fun x=>x.2) ++ [z])).1=0↔(eaL F (F z) l).1=0)/\((eaL F (F z) l).1≠0->eaK F (l.map (fun x=>x.2) ++ [z])=eaL F (F z) l)
 | []=>by
  show ((eaK F [z]).1=0↔(F z).1=0)/\((F z).1≠0->eaK F [z]=F z)
  grind [eaK]
 | x :: r=>by
  have ih:=Q3 F z r
  grind [eaK,eaL]
theorem Jm {F:Ty->Ft}:∀ {l:List Ty},(eaK F l).1=0->∀ t∈l,(F t).1=0
 | [],_,t,ht=>by cases ht
 | u :: r,h,t,ht=>by
  rw [eaK] at h;split at h
  ·rename_i h1;exact (h1 h).elim
  ·rename_i h1;rcases dN ht with rfl | ht
   ·simpa using h1
   ·exact Jm h t ht
theorem Lr (S:Sch):lU S=if (latF S.ae S.order).1≠0 then latF S.ae S.order
 else if (fu S).1≠0 then fu S
 else if (eaA (gO S) 0).1.1≠0 then (eaA (gO S) 0).1
 else if (eaK (mP S) (gO S)).1≠0 then eaK (mP S) (gO S)
 else loopF S:=by
 have h1:=Q2 S.root S.types 0;have h2:=Q3 (mP S) S.root S.types;unfold lU gO gN;by_cases a:(eaR S.root S.types 0).1.1=0
 ·grind
 ·grind
abbrev Y2 (S:Sch) (T:List Ty) (m:Int) (e:Nat):St:=
 ⟨[aE 1 0,aE 2 1,aM 5 9 (iR T),au 6 m,au 7 e],[fo S,[.v (.int .i64 0),.v (.int .i64 0)]],[]⟩
abbrev adB (S:Sch) (T:List Ty) (e:Nat):St:=
 ⟨[aE 1 0,aE 2 1,aM 5 9 (iR T),au 11 e],[fo S,[.v (.int .i64 0),.v (.int .i64 0)]],[]⟩
abbrev Y3 (S:Sch) (e:Nat):St:=
 ⟨[aE 1 0,aE 2 1,au 13 e],[fo S,[.v (.int .i64 0),.v (.int .i64 0)]],[]⟩
theorem De {S:Sch} (hs:S.wt<=1099511627776):∀ t∈gO S,t.wt<=1099511627776:=by
 intro t ht;unfold Sch.wt at hs;rcases List.mem_append.1 ht with h | h
 ·obtain ⟨x,hx,rfl⟩:=List.mem_map.1 h;have:=ig hx;omega
 all_goals grind
theorem Df (S:Sch) (hs:S.wt<=1099511627776):EvP prog 185 [.agg (fo S)] (lU S).d:=by
 have hAl:=De hs;unfold Sch.wt at hs;have hN:=eA S.types;have fI:=kv S.types;have ir:=C9 S.ae S.order (by omega) (by omega);have adC:=Db S (by omega);have fG:=F7 S (by omega);have adD:=fun t ht=>sw S (by omega) (by omega) _ t (aV _) (hAl t ht);have hF:=Lr S;have hlen:(gO S).length=S.types.length + 1:=by simp [gO,gN]
 have hnF:(fu S).1=0->S.types.length<=64:=fun h=>by grind [fu]
 obtain ⟨ae,order,types,⟨rh,rp⟩⟩:=S;simp only at hs hN fI ir adC hlen hnF hF;generalize hT:gO ⟨ae,order,types,.mk rh rp⟩=T at hAl fG adD hlen hF;refine eG 104 [.cell 2 44] func185 rfl ntmps185 rfl fun _ _ _ _=>?_;generalize lU ⟨ae,order,types,.mk rh rp⟩=F at hF ⊢;refine cP abK ir ?_;refine br ?_ ?_<;>intro h1
 ·have h1:(latF ae order).1≠0:=sU h1;rw [ap h1] at hF;refine ⟨_,?_,rfl⟩;rw [hF];exact ax
 have h1:(latF ae order).1=0:=sU h1;rw [aj (by simp [h1])] at hF;refine cP abL adC ?_;refine br ?_ ?_<;>intro h2
 ·have h2:(fu ⟨ae,order,types,.mk rh rp⟩).1≠0:=sU h2;rw [ap h2] at hF;refine ⟨_,?_,rfl⟩;rw [hF];exact ax
 have h2:(fu ⟨ae,order,types,.mk rh rp⟩).1=0:=sU h2;rw [aj (by simp [h2])] at hF;have Uq:=hnF h2;refine cP aa4 fG ?_
 refine aY (fun j st=>∃ (e:Nat) (m:Int),st=Y2 ⟨ae,order,types,.mk rh rp⟩ T m e/\e<=types.length + 1/\0<=m/\m<=512/\eaA T 0=eaA (T.drop e) m/\j=types.length + 1 - e) (types.length + 1)
  (Y2 ⟨ae,order,types,.mk rh rp⟩ T 0 0) (bz wB) ⟨0,0,rfl,by omega,by omega,by omega,rfl,by omega⟩ ?_
 rintro j st ⟨e,m,rfl,he,om,jY,aP,rfl⟩;refine br ?_ ?_<;>intro hL
 ·have aq:e < types.length + 1:=by have:=hL;simp [eC,hlen] at this;omega
  obtain ⟨t,ht⟩:∃ t,T[e]? = some t:=⟨_,gE (by omega)⟩;have Qv:=hAl t (mG ht);have aW:eaA (T.drop e) m=if (cy t m).1.1≠0 then cy t m else eaA (T.drop (e + 1)) (cy t m).2:=by rw [drop_cons ht,eaA]
  have Y4:cy t m=if (wrong t 1 0).1.1≠0 then ((wrong t 1 0).1,m) else if 512 < m + t.cnt then ((8,t.h.aO),m + t.cnt) else ((0,0),m + t.cnt):=rfl
  have M8:=Dd t 1 0 Qv (by omega) (by omega) (by omega) (by omega);have bW:=lB _ t (aV _) Qv;have Mn:=t.fm;obtain ⟨u,us⟩:=t;refine iX (kZ ht) ?_;refine cP Pt M8 ?_;refine br ?_ ?_<;>intro g1
  ·have g1:(wrong (.mk u us) 1 0).1.1≠0:=sU g1;rw [ap g1] at Y4;rw [aP,aW,Y4,ap g1,ap g1] at hF;refine ⟨_,?_,rfl⟩;rw [hF];exact ax
  have g1:(wrong (.mk u us) 1 0).1.1=0:=sU g1;rw [aj (by simp [g1])] at Y4;refine iX (kZ ht) ?_;refine cP KF bW ?_;have zQ:IntKind.i64.wrap (m + ((Ty.mk u us).cnt:Int))=m + (Ty.mk u us).cnt:=wrap64 (by omega) (by omega);refine br ?_ ?_<;>intro g2
  ·have g2:512 < IntKind.i64.wrap (m + ((Ty.mk u us).cnt:Int)):=of_decide_eq_true g2;rw [zQ] at g2;rw [ap g2] at Y4;rw [aP,aW,Y4,ap (by simp),ap (by simp)] at hF;refine iX (kZ ht) ?_;refine ⟨_,?_,rfl⟩;rw [hF];exact ax
  ·have g2:¬ 512 < IntKind.i64.wrap (m + ((Ty.mk u us).cnt:Int)):=of_decide_eq_false g2;rw [zQ] at g2;rw [aj g2] at Y4;rw [Y4,aj (by simp)] at aW;exact ⟨Y2 ⟨ae,order,types,.mk rh rp⟩ T (m + (Ty.mk u us).cnt) (e + 1),(bz (wB2 zQ (aG aq (by omega)))),types.length + 1 - (e + 1),by omega,e + 1,_,rfl,by omega,by omega,by omega,by rw [aP,aW],rfl⟩
 have hge:e=types.length + 1:=by have:=hL;simp [eC,hlen] at this;omega
 rw [aP,List.drop_of_length_le (by omega),show eaA [] m=((0,0),m) from rfl,aj (by simp)] at hF
 refine aY (fun j st=>∃ (e:Nat),st=adB ⟨ae,order,types,.mk rh rp⟩ T e/\e<=types.length + 1/\eaK (mP ⟨ae,order,types,.mk rh rp⟩) T=eaK (mP ⟨ae,order,types,.mk rh rp⟩) (T.drop e)/\j=types.length + 1 - e) (types.length + 1)
  (adB ⟨ae,order,types,.mk rh rp⟩ T 0) (bz wB) ⟨0,rfl,by omega,rfl,by omega⟩ ?_
 clear aP hL hge he e;rintro j st ⟨e,rfl,he,aP,rfl⟩;refine br ?_ ?_<;>intro hL
 ·have aq:e < types.length + 1:=by have:=hL;simp [eC,hlen] at this;omega
  obtain ⟨t,ht⟩:∃ t,T[e]? = some t:=⟨_,gE (by omega)⟩;have aW:eaK (mP ⟨ae,order,types,.mk rh rp⟩) (T.drop e)=if (mP ⟨ae,order,types,.mk rh rp⟩ t).1≠0 then mP ⟨ae,order,types,.mk rh rp⟩ t else eaK (mP ⟨ae,order,types,.mk rh rp⟩) (T.drop (e + 1)):=by rw [drop_cons ht,eaK]
  have hu:=adD t (mG ht);obtain ⟨u,us⟩:=t;apply pw (fun _=>false) 5 6 [0,1,2,3,4,5,6,7] [0,1,2,3,4,6,5,7] 2 2 mo (by decide +kernel)
  ·refine iX (kZ ht) ?_;refine cD Pu hu ?_;refine (?_:@Eq St _ _);exact rfl
  ·refine iX (kZ ht) ?_;refine cD Pu hu ?_;refine (⟨rfl,rfl,?_⟩:_/\_/\_)
   repeat' (first | exact trivial | refine ⟨rfl,?_⟩)
  ·rfl
  refine br ?_ ?_<;>intro g
  ·have g:(mP ⟨ae,order,types,.mk rh rp⟩ (.mk u us)).1≠0:=sU g;rw [aP,aW,ap g,ap g] at hF;refine ⟨_,?_,rfl⟩;rw [hF];exact ax
  ·have g:(mP ⟨ae,order,types,.mk rh rp⟩ (.mk u us)).1=0:=sU g;rw [aj (by simp [g])] at aW;exact rE ⟨_,by omega,e + 1,rfl,by omega,by rw [aP,aW],rfl⟩ (bz (cJ (aG aq (by omega))))
 have hge:e=types.length + 1:=by have:=hL;simp [eC,hlen] at this;omega
 have Kw:(eaK (mP ⟨ae,order,types,.mk rh rp⟩) T).1=0:=by rw [aP,List.drop_of_length_le (by omega)];all_goals rfl
 rw [aP,List.drop_of_length_le (by omega),show eaK (mP ⟨ae,order,types,.mk rh rp⟩) []=(0,0) from rfl,aj (by simp)] at hF
 have WN:∀ x∈types,vJ ⟨ae,order,types,.mk rh rp⟩ x.2=true:=fun x hx=>C5 (Jm Kw x.2 (by
  rw [<- hT]
  exact List.mem_append_left _ (List.mem_map_of_mem hx)))
 have he99:=yK ⟨ae,order,types,.mk rh rp⟩ Uq WN
 have hlo:F=match bM (fun i=>(endI ⟨ae,order,types,.mk rh rp⟩ (types.length + 1) i).isNone) types.length with
  | none=>(0,0)
  | some i=>(11,YG (vI ⟨ae,order,types,.mk rh rp⟩) i):=hF
 refine aY (fun j st=>∃ e:Nat,st=Y3 ⟨ae,order,types,.mk rh rp⟩ e/\e<=types.length/\(∀ i,i < e->(endI ⟨ae,order,types,.mk rh rp⟩ (types.length + 1) i).isNone=false)/\j=types.length - e) types.length
  (Y3 ⟨ae,order,types,.mk rh rp⟩ 0) (bz wB) ⟨0,rfl,by omega,fun _ h=>by omega,by omega⟩ ?_
 clear aP hL hge he e;rintro j st ⟨e,rfl,he,gm,rfl⟩;refine br ?_ ?_<;>intro hL
 ·have aq:e < types.length:=by have:=hL;simp [hN] at this;exact this
  obtain ⟨x,hx⟩:=gX aq;have T4:(vI ⟨ae,order,types,.mk rh rp⟩)[e]? = some x.1:=Lo hx;have h9:=he99 e aq;obtain ⟨xw,⟨xh,xp⟩⟩:=x;refine cP Pj h9 ?_;refine br ?_ ?_<;>intro g
  ·have g:endI ⟨ae,order,types,.mk rh rp⟩ (types.length + 1) e=none:=gI.1 g;have Ef:=bU (p:=fun i=>(endI ⟨ae,order,types,.mk rh rp⟩ (types.length + 1) i).isNone) aq (by simp only [g];rfl) gm;rw [Ef] at hlo;simp only [lE T4] at hlo;refine iX (dNms_get hx) ?_;refine ⟨_,?_,rfl⟩;rw [hlo];exact ax
  ·have g:¬ endI ⟨ae,order,types,.mk rh rp⟩ (types.length + 1) e=none:=fun hn=>by have h3:=gI.2 hn;rw [g] at h3;cases h3
   refine ⟨Y3 ⟨ae,order,types,.mk rh rp⟩ (e + 1),(bz (cJ (aG aq (by omega)))),types.length - (e + 1),by omega,e + 1,rfl,by omega,fun i hi=>?_,rfl⟩;rcases jJ hi with hi | rfl
   ·exact gm i hi
   ·exact Option.isNone_eq_false_iff.2 (Option.isSome_iff_ne_none.2 g)
 ·have hge:e=types.length:=sW hN hL;rw [hge] at gm;rw [cK gm] at hlo;refine ⟨_,?_,rfl⟩;rw [hlo];exact ax
theorem aS {l:List Ed} {i:Nat} {e:Ed} (h:l[i]? = some e):(dT l)[i]? = some (C4 e):=by simp [dT,h]
def Ur (lev:List Wd->Int) (s:Sch) (t:Ty) (k:Nat):Nd:=⟨t.h.ag,t.h.aO,t.h.lo,t.h.hi,t.h.most,az t.h.af,edsP lev s t.ps (k + 1)⟩
mutual
theorem wv (lev:List Wd->Int) (s:Sch):∀ (t:Ty) (k:Nat),ndsT lev s t k=(flatT t).zipIdx.map fun x=>Ur lev s x.1 (k + x.2)
 | .mk h ps,k=>by
  have ih:=Dg lev s ps (k + 1);rw [ndsT,flatT];split
  ·rfl
  ·rw [ih,List.zipIdx_cons,List.map_cons];rw [List.zipIdx_succ,List.map_map];refine congr (congrArg List.cons rfl) (List.map_congr_left fun x _=>?_);simp only [Function.comp];congr 1;omega
theorem Dg (lev:List Wd->Int) (s:Sch):∀ (ps:Pts) (k:Nat),yy lev s ps k=(flatP ps).zipIdx.map fun x=>Ur lev s x.1 (k + x.2)
 | .nil,k=>rfl
 | .cons p u r,k=>by
  rw [yy,flatP,List.zipIdx_append,List.map_append]
  cases hb:p.bare with
  | true=>
   simp only [if_true,List.zipIdx_nil,List.map_nil,List.nil_append,List.length_nil,Nat.add_zero];exact Dg lev s r k
  | false=>
   simp only [Bool.false_eq_true,if_false];rw [wv lev s u k,Dg lev s r (k + u.nn),kB];refine congrArg _ ?_;rw [List.zipIdx_eq_map_add (l:=flatP r) (i:=0 + u.nn)];rw [List.map_map];refine List.map_congr_left fun x _=>?_;simp only [Function.comp];congr 1;omega
end
theorem Dh {X:Lx} {L:List ByteArray}:∀ {ps:Pts},(knP X L ps).1=0->∀ {p:Ph} {u:Ty},(p,u)∈ps.toList->p.bare=false->(knT X L u).1=0
 | .nil,_,p,u,h,_=>by cases h
 | .cons q v r,hk,p,u,h,hb=>by
  rcases dN h with h | h
  ·cases h;exact (uf hk).1 hb
  ·exact Dh (uf hk).2 h hb
theorem uq {w:Int} (h:decide (w=0)=true):mv w=3:=by unfold mv;rw [ap (of_decide_eq_true h)]
theorem ur {w:Int} (h:decide (w=0)=false):mv w=w:=by unfold mv;rw [aj (of_decide_eq_false h)]
theorem gV {L:List Ed} {lev:List Wd->Int} {p:Ph} {to w z:Int} (hw:mv p.wide=w) (ht:to=z):dT L ++ [[.v (.string p.name.s),.v (.bool p.bare),.v (.int .i64 p.name.a),.v (.int .i64 z),.v (.int .i64 (lev p.label)),.v (.int .i64 w),.v (.int .i64 p.ck),.v (.int .i64 p.cn),.v (.int .i64 (lev p.cl)),.v (.int .i64 p.ca)]]=dT (L ++ [yx lev p to]):=by
 subst hw ht;simp [dT,C4,yx]
abbrev adE (S:Sch) (f:Nat->Nat->Bool) (t:Ty) (me:Nat) (q e:Nat):St:=
 ⟨[aM 1 1 (dV (eI S.ae.length f)),au 3 me,aE 4 0,aE 6 1,aE 8 2,aE 9 3,au 10 e],
  [fo S,eK t,[.v (.int .i64 0),.v (.int .i64 0),.v (.int .i64 0),.v (.int .i64 0),.v (.int .i64 0),.v (.slice none 0 0),.v (.slice none 0 0)],
  [.v (.int .i64 t.h.ag),.v (.int .i64 t.h.aO),.v (.int .i64 t.h.lo),.v (.int .i64 t.h.hi),.v (.int .i64 t.h.most),.sl 1 (fF (az (t.h.af.take e))) (some 0),.v (.slice none 0 0)]],[⟨q,9,1,none⟩]⟩
abbrev F9 (S:Sch) (f:Nat->Nat->Bool) (t:Ty) (q1 q2:Nat) (L:List Ed) (nx e:Nat):St:=
 ⟨[aM 1 1 (dV (eI S.ae.length f)),aE 4 0,aE 6 1,aE 8 2,aE 9 3,au 11 nx,au 12 e],
  [fo S,eK t,[.v (.int .i64 0),.v (.int .i64 0),.v (.int .i64 0),.v (.int .i64 0),.v (.int .i64 0),.v (.slice none 0 0),.v (.slice none 0 0)],
  [.v (.int .i64 t.h.ag),.v (.int .i64 t.h.aO),.v (.int .i64 t.h.lo),.v (.int .i64 t.h.hi),.v (.int .i64 t.h.most),.sl 1 (fF (az t.h.af)) (some 0),.sl 10 (dT L) (some 1)]],[⟨q1,9,1,none⟩,⟨q2,144,10,none⟩]⟩
set_option maxHeartbeats 2000000 in
theorem Jn (S:Sch) (hS:S.wt<=1099511627776) (hl:(latF S.ae S.order).1=0) (Uq:S.types.length<=64) (hr:∀ x∈S.types,vJ S x.2=true) (hlo:∀ i,i < S.types.length->∃ k,endI S (S.types.length + 1) i=some k)
  (t:Ty) (ht:t.wt<=1099511627776) (hk:(mP S t).1=0) (me:Nat) (hme:me<=1099511627776) :
  EvP prog 56 [.agg (fo S),.sl 1 (dV (eI S.ae.length (fA S.ae.length (dW (az S.ae) S.order)))) none,.agg (eK t),.v (.int .i64 me)] (.agg (j5 (Ur (iI S) S t me))):=by
 obtain ⟨hL,QQ⟩:=kY hl;have jk:=hL.pos;unfold Sch.wt at hS;have I5:=fun l (h:wdsWt l<=1099511627776)=>Ni S.ae (fA S.ae.length (dW (az S.ae) S.order)) jk QQ (by omega) l h;have hls:∀ l,iI S l=Ad (fA S.ae.length (dW (az S.ae) S.order)) (az S.ae) l:=fun _=>rfl;have Us:=fun s i k=>yL S Uq (by omega) hr s i k;have hZ:=kW S;generalize fA S.ae.length (dW (az S.ae) S.order)=f at I5 hls ⊢;obtain ⟨h,ps⟩:=t;have YR:=(nG hk).2;simp only [Ty.wt,Hd.wt] at ht;have gP:=ps.gF;have hc:=ps.fm;have oe:=ps.ib;have hwl:=bI h.af;generalize WD:iI S=lev at hls ⊢;obtain ⟨ae,order,types,⟨rh,rp⟩⟩:=S;simp only at hS Uq hr hlo I5 hls Us hZ YR;refine eG 131 [.cell 8 132] func56 rfl ntmps56 rfl fun _ _ _ _=>?_;refine lJ (fun e=>adE ⟨ae,order,types,.mk rh rp⟩ f (.mk h ps) me e e) h.af.length (cX 4 ⟨0,9,1,none⟩ rfl rfl rfl qL rfl rfl lj) ?_;intro e he;refine br ?_ ?_<;>intro hL
 ·have aq:e < h.af.length:=by have:=hL;simp [aD] at this;exact this
  obtain ⟨w,hw⟩:=gX aq;have dx:=ku hw;have dM:(fF (az (h.af.take e))).length=e:=by simp [fF,az];omega
  refine dS ?_;refine iX (bd hw) ?_;refine ⟨dM,⟨by simp only [Ty.h];rw [dM];simp [maxLen];omega,by simp only [Ty.h];rw [dM];simp;omega⟩,?_⟩;exact rE ⟨_,by omega,e + 1,rfl,by omega,rfl⟩ (bZ 4 (lY (aG aq (by omega)) dx) (wB2 (aG aq (by omega)) dx))
 have hge:e=h.af.length:=by have:=hL;simp [aD] at this;omega
 have adF:IntKind.i64.wrap ((me:Int) + 1)=((me + 1:Nat):Int):=by rw [wrap64 (by omega) (by omega)];omega
 have H0:fF (az (h.af.take e))=fF (az h.af):=by rw [hge,List.take_length]
 refine aY (fun j st=>∃ (e q nx:Nat) (L:List Ed),st=F9 ⟨ae,order,types,.mk rh rp⟩ f (.mk h ps) h.af.length q L nx e/\q=e/\L.length=e/\e<=ps.len/\nx + (ps.drop e).nn=me + 1 + ps.nn/\edsP lev ⟨ae,order,types,.mk rh rp⟩ ps (me + 1)=L ++ edsP lev ⟨ae,order,types,.mk rh rp⟩ (ps.drop e) nx/\j=ps.len - e) ps.len
  (F9 ⟨ae,order,types,.mk rh rp⟩ f (.mk h ps) e 0 [] (me + 1) 0) (cX 4 ⟨0,144,10,none⟩ rfl rfl rfl (lY adF H0) rfl rfl (wB2 adF H0)) ⟨0,0,me + 1,[],by rw [hge],rfl,rfl,by omega,rfl,rfl,by omega⟩ ?_
 clear he hL hge H0 e;rintro j st ⟨e,q,nx,L,rfl,hq,hLl,he,iP,aP,rfl⟩;refine br ?_ ?_<;>intro hL
 ·have aq:e < ps.len:=by simpa [aN] using hL
  obtain ⟨p,u,hx⟩:=Pts.fl aq;have HD:=Pts.gY (mG hx);have HE:p.name.wt + wdsWt p.label + wdsWt p.cl<=p.wt:=by simp only [Ph.wt];omega
  rw [Pts.drop_cons hx,edsP] at aP;rw [Pts.drop_cons hx,Pts.nn] at iP;have zP:=I5 p.label (by omega);have YQ:=I5 p.cl (by omega);unfold MZ at zP YQ;rw [<- hls] at zP YQ;obtain ⟨uh,us⟩:=u;refine iX (cq hx) ?_;refine br ?_ ?_<;>intro hw
  all_goals
   refine cP VM zP ?_;refine cP VM YQ ?_;have dM:(dT L).length=q:=by rw [bw,hLl,hq]
   refine br ?_ ?_<;>intro hB
   ·have hB:p.bare=true:=hB;have mw:wm ⟨ae,order,types,.mk rh rp⟩ p (.mk uh us) nx = -1:=by simp [wm,hB]
    rw [hB] at aP iP;refine ⟨dM,⟨by rw [dM];simp [maxLen];omega,by rw [dM];simp;omega⟩,?_⟩;exact ⟨F9 ⟨ae,order,types,.mk rh rp⟩ f (.mk h ps) h.af.length (q + 1) (L ++ [yx lev p (wm ⟨ae,order,types,.mk rh rp⟩ p (.mk uh us) nx)]) nx (e + 1),(bZ 4 (by repeat' (first | exact rfl | exact aA rfl | exact aC (aG aq (by omega)) | exact cH (gV (uq hw) mw) rfl | exact cH (gV (ur hw) mw) rfl | refine ⟨_,_,rfl,?_,?_⟩)) (by repeat' (first | exact trivial | exact aA rfl | exact aC (aG aq (by omega)) | exact cH (gV (uq hw) mw) rfl | exact cH (gV (ur hw) mw) rfl | refine ⟨⟨_,rfl,?_⟩,?_⟩))),ps.len - (e + 1),by omega,e + 1,q + 1,nx,_,rfl,by omega,by simp [hLl],by omega,by rw [<- iP];simp,by rw [aP];simp,rfl⟩
   ·have hB:p.bare=false:=hB;have jF:=Dh YR (mG hx) hB;refine br ?_ ?_<;>intro h9
    ·have h9:uh.ag=9:=sU h9;obtain ⟨i,hi⟩:=Option.ne_none_iff_exists'.1 ((nG jF).1 h9);obtain ⟨k,hk⟩:=hlo i (by have:=(dG hi).1;omega);have mw:wm ⟨ae,order,types,.mk rh rp⟩ p (.mk uh us) nx=(firstA ⟨ae,order,types,.mk rh rp⟩ k:Int):=by simp [wm,hB,oT,Ty.h,h9,YP,hi,namedN,hk]
     refine cP aa5 (Us uh.name.s i k hi hk) ?_;refine ⟨dM,⟨by rw [dM];simp [maxLen];omega,by rw [dM];simp;omega⟩,?_⟩;exact ⟨F9 ⟨ae,order,types,.mk rh rp⟩ f (.mk h ps) h.af.length (q + 1) (L ++ [yx lev p (wm ⟨ae,order,types,.mk rh rp⟩ p (.mk uh us) nx)]) nx (e + 1),(bZ 4 (by repeat' (first | exact rfl | exact aA rfl | exact aC (aG aq (by omega)) | exact cH (gV (uq hw) mw) rfl | exact cH (gV (ur hw) mw) rfl | refine ⟨_,_,rfl,?_,?_⟩)) (by repeat' (first | exact trivial | exact aA rfl | exact aC (aG aq (by omega)) | exact cH (gV (uq hw) mw) rfl | exact cH (gV (ur hw) mw) rfl | refine ⟨⟨_,rfl,?_⟩,?_⟩))),ps.len - (e + 1),by omega,e + 1,q + 1,nx,_,rfl,by omega,by simp [hLl],by omega,by rw [<- iP];simp [hB,Ty.nn,h9],by rw [aP];simp [hB,Ty.nn,h9],rfl⟩
    ·have h9:¬ uh.ag=9:=sU h9;have mw:wm ⟨ae,order,types,.mk rh rp⟩ p (.mk uh us) nx=(nx:Int):=by simp [wm,hB,oT,Ty.h,h9]
     have hnn:=(Ty.mk uh us).ib;have Oq:=(Ty.mk uh us).fm
     have zQ:IntKind.i64.wrap ((nx:Int) + (iR (flatT (.mk uh us))).length)=((nx + (Ty.mk uh us).nn:Nat):Int):=by
      rw [eC,kB,wrap64 (by omega) (by omega)];omega
     refine cP TB (pL _ (.mk uh us) (aV _) (by omega)) ?_;refine ⟨dM,⟨by rw [dM];simp [maxLen];omega,by rw [dM];simp;omega⟩,?_⟩;exact ⟨F9 ⟨ae,order,types,.mk rh rp⟩ f (.mk h ps) h.af.length (q + 1) (L ++ [yx lev p (wm ⟨ae,order,types,.mk rh rp⟩ p (.mk uh us) nx)]) (nx + (Ty.mk uh us).nn) (e + 1),(bZ 4 (by repeat' (first | exact rfl | exact aA rfl | exact aC (aG aq (by omega)) | exact aC zQ | exact cH (gV (uq hw) mw) rfl | exact cH (gV (ur hw) mw) rfl | refine ⟨_,_,rfl,?_,?_⟩)) (by repeat' (first | exact trivial | exact aA rfl | exact aC (aG aq (by omega)) | exact aC zQ | exact cH (gV (uq hw) mw) rfl | exact cH (gV (ur hw) mw) rfl | refine ⟨⟨_,rfl,?_⟩,?_⟩))),ps.len - (e + 1),by omega,e + 1,q + 1,(nx + (Ty.mk uh us).nn),_,rfl,by omega,by simp [hLl],by omega,by rw [<- iP];simp [hB];omega,by rw [aP];simp [hB],rfl⟩
 have hge:e=ps.len:=by simp [aN] at hL;omega
 rw [hge,Pts.dR,edsP,List.append_nil] at aP;unfold Ur;simp only [Ty.h,Ty.ps];rw [aP];exact ⟨_,ax,rfl⟩
def ndsA (lev:List Wd->Int) (s:Sch):List Ty->Nat->List Nd
 | [],_=>[]
 | t :: r,k=>ndsT lev s t k ++ ndsA lev s r (k + t.nn)
def uu (l:List Ty):Nat:=(l.map Ty.nn).sum
theorem oW (t:Ty) (l:List Ty):uu (t :: l)=t.nn + uu l:=by simp [uu]
theorem wx (a b:List Ty):uu (a ++ b)=uu a + uu b:=by simp [uu]
theorem mA (lev:List Wd->Int) (s:Sch):∀ (l:List Ty) (k:Nat),(ndsA lev s l k).length=uu l
 | [],_=>rfl
 | t :: r,k=>by simp only [ndsA,List.length_append,kX,mA lev s r,oW]
theorem yM (lev:List Wd->Int) (s:Sch):∀ (a b:List Ty) (k:Nat),ndsA lev s (a ++ b) k=ndsA lev s a k ++ ndsA lev s b (k + uu a)
 | [],b,k=>by simp [ndsA,uu]
 | t :: r,b,k=>by rw [List.cons_append,ndsA,ndsA,yM lev s r b,List.append_assoc,oW,Nat.add_assoc]
theorem yN (lev:List Wd->Int) (s:Sch):∀ (l:List (Wd × Ty)) (k:Nat),ndsAll lev s l k=ndsA lev s (l.map fun x=>x.2) k
 | [],_=>rfl
 | x :: r,k=>by rw [ndsAll,List.map_cons,ndsA,yN lev s r]
theorem yO (s:Sch):(sm s).length=uu (gN s):=by rw [sm,yN,mA];all_goals rfl
theorem jA (s:Sch):bp s=ndsA (iI s) s (gO s) 0:=by
 unfold bp gO;rw [yM,yO,sm,yN,ndsA,ndsA,List.append_nil,Nat.zero_add];rfl
theorem Nj {lev:List Wd->Int} {s:Sch} {l:List Ty} {e:Nat} {t:Ty} (h:l[e]? = some t):ndsA lev s (l.take (e + 1)) 0=ndsA lev s (l.take e) 0 ++ ndsT lev s t (ndsA lev s (l.take e) 0).length:=by
 rw [List.take_add_one,h,yM,mA,Nat.zero_add];simp [ndsA]
theorem Ga (l:List Ty):∀ e,uu (l.take e)<=uu l:=by
 intro e;have:=wx (l.take e) (l.drop e);rw [List.take_append_drop] at this;omega
theorem Jo (s:Sch):uu (gO s)<=s.wt:=by
 have key:∀ l:List (Wd × Ty),uu (l.map fun x=>x.2)<=nmsWt l:=by
  intro l
  induction l with
  | nil=>exact aV _
  | cons x r ih=>
   have:=x.2.ib;have:=x.2.fm
   grind [oW,nmsWt]
 have h1:=key s.types;have h2:=s.root.ib;have h3:=s.root.fm
 grind [gO,wx,oW,Sch.wt,gN,uu]
mutual
theorem yP {X:Lx} {L:List ByteArray}:∀ (t:Ty),(knT X L t).1=0->∀ u∈flatT t,(knT X L u).1=0
 | .mk h ps,hk,u,hu=>by
  rw [flatT] at hu;split at hu
  ·cases hu
  ·rcases dN hu with rfl | hu
   ·exact hk
   ·exact Gb ps (nG hk).2 u hu
theorem Gb {X:Lx} {L:List ByteArray}:∀ (ps:Pts),(knP X L ps).1=0->∀ u∈flatP ps,(knT X L u).1=0
 | .nil,_,u,hu=>by cases hu
 | .cons p v r,hk,u,hu=>by
  rw [flatP] at hu;rcases List.mem_append.1 hu with hu | hu
  ·cases hb:p.bare with
   | true=>rw [hb] at hu;cases hu
   | false=>rw [hb] at hu;exact yP v ((uf hk).1 hb) u hu
  ·exact Gb r (uf hk).2 u hu
end
mutual
theorem yQ:∀ (t:Ty),∀ u∈flatT t,u.wt<=t.wt
 | .mk h ps,u,hu=>by
  rw [flatT] at hu;split at hu
  ·cases hu
  ·rcases dN hu with rfl | hu
   ·exact aV _
   ·have:=Gc ps u hu;simp only [Ty.wt];omega
theorem Gc:∀ (ps:Pts),∀ u∈flatP ps,u.wt<=ps.wt
 | .nil,u,hu=>by cases hu
 | .cons p v r,u,hu=>by
  rw [flatP] at hu;simp only [Pts.wt];rcases List.mem_append.1 hu with hu | hu
  ·split at hu
   ·cases hu
   ·have:=yQ v u hu;omega
  ·have:=Gc r u hu;omega
end
theorem Q4 {lev:List Wd->Int} {s:Sch} {t u:Ty} {n k:Nat} (h:(flatT t)[k]? = some u):(ndsT lev s t n)[k]? = some (Ur lev s u (n + k)):=by grind [wv]
structure sA (S:Sch):Prop where
 lat:(latF S.ae S.order).1=0
 l64:S.types.length<=64
 kn:∀ t∈gO S,(mP S t).1=0
 ends:∀ i,i < S.types.length->∃ k,endI S (S.types.length + 1) i=some k
 wr:∀ t∈gO S,(wrong t 1 0).1.1=0
theorem Q5:∀ {l:List Ty} {m:Int},(eaA l m).1.1=0->∀ t∈l,(wrong t 1 0).1.1=0
 | [],_,_,t,ht=>by cases ht
 | u :: r,m,h,t,ht=>by
  rw [eaA] at h;split at h
  ·rename_i h1;exact (h1 h).elim
  ·rename_i h1;rcases dN ht with rfl | ht
   ·exact (pK (sU h1)).2.2.1
   ·exact Q5 h t ht
theorem sB {S:Sch} (h:(lU S).1=0):sA S:=by
 rw [Lr] at h;split at h
 ·rename_i h1;exact (h1 h).elim
 rename_i h1;split at h
 ·rename_i h2;exact (h2 h).elim
 rename_i h2;split at h
 ·rename_i h3;exact (h3 h).elim
 rename_i h3;split at h
 ·rename_i h4;exact (h4 h).elim
 rename_i h4
 exact {
  lat:=sU h1
  l64:=by grind [fu]
  kn:=Jm (sU h4)
  ends:=FU h
  wr:=Q5 (sU h3) }
theorem sA.refs {S:Sch} (h:sA S):∀ x∈S.types,vJ S x.2=true:=fun x hx=>C5 (h.kn x.2 (List.mem_append_left _ (List.mem_map_of_mem hx)))
abbrev wC (S:Sch) (f:Nat->Nat->Bool) (N:DV) (z:Int):List DV:=[.sl 2 (bT S.ae) none,.sl 1 (dV (eI S.ae.length f)) none,N,.v (.int .i64 z)]
abbrev Q6 (S:Sch) (T:List Ty) (f:Nat->Nat->Bool) (L:List Nd) (z:Int) (e q:Nat):St:=
 ⟨[aE 1 0,aE 2 1,aE 3 2,aM 4 9 (iR T),au 5 e],[fo S,[.v (.slice none 0 0),.v (.slice none 0 0),.v (.slice none 0 0),.v (.int .i64 0)],wC S f (.sl 7 (bG L) (some 0)) z],[⟨q,132,7,none⟩]⟩
abbrev WW (S:Sch) (T:List Ty) (f:Nat->Nat->Bool) (L:List Nd) (z:Int) (e:Nat) (F:List Ty) (k q:Nat):St:=
 ⟨[aE 1 0,aE 2 1,aE 3 2,aM 4 9 (iR T),au 5 e,aM 6 9 (iR F),au 7 k],[fo S,[.v (.slice none 0 0),.v (.slice none 0 0),.v (.slice none 0 0),.v (.int .i64 0)],wC S f (.sl 7 (bG L) (some 0)) z],[⟨q,132,7,none⟩]⟩
theorem Di (S:Sch) (hS:S.wt<=1099511627776) (hR:(lU S).1=0) :
  EvP prog 12 [.agg (fo S)] (.agg (wC S (fA S.ae.length (dW (az S.ae) S.order)) (.sl 7 (bG (bp S)) none) (dw S))):=by
 have SY:=sB hR;obtain ⟨_,QQ⟩:=kY SY.lat;have hAl:=De hS;have Yh:=Jo S;have hN0:=(nH SY.lat).2.2.1;have hrr:=SY.refs;have cS:=fun t ht hk me hme=>Jn S hS SY.lat SY.l64 hrr SY.ends t ht hk me hme;have hwS:=hS;unfold Sch.wt at hS;have Gd:=F3 S.ae S.order QQ (by omega) (by omega) hN0;have fG:=F7 S (by have:=SY.l64;omega);have hlen:(gO S).length=S.types.length + 1:=by simp [gO,gN]
 have Uq:=SY.l64;have Us:=fun s i k=>yL S Uq (by omega) hrr s i k;have Kw:=SY.kn;have yR:=SY.ends;have hZ:=kW S;have eo:(gO S)[S.types.length]? = some S.root:=by grind [gO,gN]
 have HH:=yO S;have jl:(gO S).take S.types.length=gN S:=by grind [gO,gN]
 rw [jA];unfold dw;generalize iI S=lev at cS ⊢;generalize fA S.ae.length (dW (az S.ae) S.order)=f at cS Gd ⊢;obtain ⟨ae,order,types,⟨rh,rp⟩⟩:=S;simp only at hS Gd hlen Uq yR hZ eo jl;generalize hT:gO ⟨ae,order,types,.mk rh rp⟩=T at hAl Yh fG hlen Kw eo jl ⊢;refine eG 67 [.cell 2 50] func12 rfl ntmps12 rfl fun _ _ _ _=>?_;apply pw (fun _=>false) 6 8 [0,1,2,3,4,5,6,7,8,9] [0,1,2,3,4,5,8,6,7,9] 2 2 mo (by decide +kernel)
 ·refine cD X6 Gd ?_;refine (?_:@Eq St _ _);exact rfl
 ·refine cD X6 Gd ?_;refine (⟨rfl,rfl,?_⟩:_/\_/\_)
  repeat' (first | exact trivial | refine ⟨rfl,?_⟩)
 ·rfl
 refine cP aa4 fG ?_
 have hLN:∀ e,(ndsA lev ⟨ae,order,types,.mk rh rp⟩ (T.take e) 0).length<=1099511627776:=fun e=>by
  rw [mA];have:=Ga T e;omega
 refine aY (fun j st=>∃ (e q:Nat) (z:Int),st=Q6 ⟨ae,order,types,.mk rh rp⟩ T f (ndsA lev ⟨ae,order,types,.mk rh rp⟩ (T.take e) 0) z e q/\q=(ndsA lev ⟨ae,order,types,.mk rh rp⟩ (T.take e) 0).length/\e<=types.length + 1/\(e=types.length + 1->z=(uu (T.take types.length):Nat))/\j=types.length + 1 - e) (types.length + 1)
  (Q6 ⟨ae,order,types,.mk rh rp⟩ T f [] 0 0 0) (cX 3 ⟨0,132,7,none⟩ rfl rfl rfl qL rfl rfl lj) ⟨0,0,0,rfl,rfl,by omega,fun h=>by omega,by omega⟩ ?_
 rintro j st ⟨e,q,z,rfl,hq,he,hz,rfl⟩;refine br ?_ ?_<;>intro hL
 ·have aq:e < types.length + 1:=by have:=hL;simp [eC,hlen] at this;omega
  obtain ⟨t,ht⟩:∃ t,T[e]? = some t:=⟨_,gE (by omega)⟩;have Qv:=hAl t (mG ht);have htk':=Kw t (mG ht);have XF:=pL _ t (aV _) Qv;have hfk:=yP t htk';have M1:=yQ t;have hta:=Nj (lev:=lev) (s:=⟨ae,order,types,.mk rh rp⟩) ht;have hfln:=kB t;have fI:=kX lev ⟨ae,order,types,.mk rh rp⟩ t (ndsA lev ⟨ae,order,types,.mk rh rp⟩ (T.take e) 0).length;have iz:=fun k u (h:(flatT t)[k]? = some u)=>Q4 (lev:=lev) (s:=⟨ae,order,types,.mk rh rp⟩) (n:=(ndsA lev ⟨ae,order,types,.mk rh rp⟩ (T.take e) 0).length) h;have hLe:=hLN e;have Y5:=hLN (e + 1);have hLs:=mA lev ⟨ae,order,types,.mk rh rp⟩ (T.take e) 0;rw [hta,List.length_append] at Y5;obtain ⟨u,us⟩:=t;generalize ndsA lev ⟨ae,order,types,.mk rh rp⟩ (T.take e) 0=L at hq hta fI iz hLe Y5 hLs ⊢;generalize ndsT lev ⟨ae,order,types,.mk rh rp⟩ (.mk u us) L.length=M at hta fI iz Y5;generalize flatT (.mk u us)=F at XF hfk M1 hfln iz;have cu:((bG L).length:Int)=(L.length:Int):=by rw [eT]
  refine iX (kZ ht) ?_;refine cP TB XF ?_
  refine aY (fun j st=>∃ (k q:Nat),st=WW ⟨ae,order,types,.mk rh rp⟩ T f (L ++ M.take k) (L.length:Int) e F k q/\q=(L ++ M.take k).length/\k<=F.length/\j=F.length - k) F.length
   (WW ⟨ae,order,types,.mk rh rp⟩ T f (L ++ []) (L.length:Int) e F 0 q) (bZ 3 (by repeat' (first | exact rfl | exact aA rfl | exact aC cu | exact cH (by rw [List.append_nil]) rfl | refine ⟨_,_,rfl,?_,?_⟩)) (by repeat' (first | exact trivial | exact aA rfl | exact aC cu | exact cH (by rw [List.append_nil]) rfl | refine ⟨⟨_,rfl,?_⟩,?_⟩))) ⟨0,q,rfl,by simp [hq],by omega,by omega⟩ ?_
  rintro j st ⟨k,q',rfl,jX,hk,rfl⟩;refine br ?_ ?_<;>intro mq
  ·have jF:k < F.length:=by have:=mq;simp [eC] at this;exact this
   obtain ⟨v,hv⟩:∃ v,F[k]? = some v:=⟨_,gE jF⟩;have ZT:=mG hv;have hvw:=M1 v ZT;have dM:(bG (L ++ M.take k)).length=q':=by rw [eT,jX]
   have ke:q'=L.length + k:=by rw [jX,List.length_append,zLenT];omega
   have hnd:=cS v (by omega) (hfk v ZT) (bG (L ++ M.take k)).length (by omega)
   have dx:bG (L ++ M.take k) ++ [j5 (Ur lev ⟨ae,order,types,.mk rh rp⟩ v (bG (L ++ M.take k)).length)]=bG (L ++ M.take (k + 1)):=by
    rw [List.take_add_one,iz k v hv,dM,ke];simp [bG]
   obtain ⟨vh,vp⟩:=v;refine dS ?_;refine iX (kZ hv) ?_;refine cD en56 hnd ?_;refine ⟨dM,⟨by rw [dM];simp [maxLen];omega,by rw [dM];simp;omega⟩,?_⟩;exact rE ⟨_,by omega,k + 1,q' + 1,rfl,by rw [ke];simp;omega,by omega,rfl⟩ (bZ 3 (lY (aG jF (by omega)) dx) (wB2 (aG jF (by omega)) dx))
  ·have hge:k=F.length:=by have:=mq;simp [eC] at this;omega
   have hM:M.take k=M:=List.take_of_length_le (by omega);rw [hM] at jX;refine ⟨Q6 ⟨ae,order,types,.mk rh rp⟩ T f (ndsA lev ⟨ae,order,types,.mk rh rp⟩ (T.take (e + 1)) 0) (L.length:Int) (e + 1) q',(bZ 3 (by repeat' (first | exact rfl | exact aA rfl | exact aC (aG aq (by omega)) | exact cH (by rw [hta,hM]) rfl | refine ⟨_,_,rfl,?_,?_⟩)) (by repeat' (first | exact trivial | exact aA rfl | exact aC (aG aq (by omega)) | exact cH (by rw [hta,hM]) rfl | refine ⟨⟨_,rfl,?_⟩,?_⟩))),types.length + 1 - (e + 1),by omega,e + 1,q',_,rfl,by rw [hta,jX],by omega,fun he1=>?_,rfl⟩;rw [hLs,show e=types.length by omega]
 ·have hge:e=types.length + 1:=by have:=hL;simp [eC,hlen] at this;omega
  have hTa:T.take e=T:=List.take_of_length_le (by omega);rw [hTa];have hz:=hz hge;rw [jl,<- HH] at hz;have WN:=Kw (.mk rh rp) (mG eo);refine br ?_ ?_<;>intro h9
  ·have h9:rh.ag=9:=sU h9;obtain ⟨i,hi⟩:=Option.ne_none_iff_exists'.1 ((nG WN).1 h9);obtain ⟨k,hk⟩:=yR i (by have:=(dG hi).1;omega);have mw:oT ⟨ae,order,types,.mk rh rp⟩ (.mk rh rp) (sm ⟨ae,order,types,.mk rh rp⟩).length=(firstA ⟨ae,order,types,.mk rh rp⟩ k:Int):=by simp [oT,Ty.h,h9,YP,hi,namedN,hk]
   refine cP aa5 (Us rh.name.s i k hi hk) ?_;rw [mw];exact ⟨_,ax,rfl⟩
  ·have h9:¬ rh.ag=9:=sU h9;have mw:oT ⟨ae,order,types,.mk rh rp⟩ (.mk rh rp) (sm ⟨ae,order,types,.mk rh rp⟩).length=z:=by simp [oT,Ty.h,h9,hz]
   rw [mw];exact ⟨_,ax,rfl⟩
def WX (t:Ty):Prop:=∃ d m,(wrong t d m).1.1=0
def Ls (ag:Int) (p:Ph) (t:Ty):Prop:=(p.bare=true/\ag=8/\sameTy t c9=true/\cO p jZ=true)∨(p.bare=false/\(eE p).1=0/\WX t)
structure TyF (h:Hd) (ps:Pts):Prop where
 k1:1<=h.ag
 k9:h.ag<=9
 own:xX h ps=true
 int:h.ag=2->h.lo<=h.hi
 text:h.ag=3->0<=h.most/\h.most<=4096
 enum:h.ag=4->jt h=(0,0)
 one:h.ag=5∨h.ag=6->∃ p t,ps = .cons p t .nil/\p.name.s=ay/\cO p fJ=true/\0<=h.most/\h.most<=1024/\WX t
 many:h.ag=7∨h.ag=8->ps.len<=64/\(h.ag=8->ps.len≠0)/\∀ i p t,ps.toList[i]? = some (p,t)->aK (pNames ps) i p.name=0/\Ls h.ag p t
theorem Y6 {h:Hd} {ps:Pts} (ho:¬ xS (.mk h ps)=false):xX h ps=true:=by
 rw [KW];cases hb:sameTy (.mk h ps) (mask (.mk h ps))
 ·exact absurd hb ho
 ·rfl
theorem oX {ag:Int} {all:List Wd}:∀ {ps:Pts} {i:Nat} {d m:Int},(wrongPts ag all i ps d m).1.1=0->(ag=7∨ag=8)->∀ j p t,ps.toList[j]? = some (p,t)->aK all (i + j) p.name=0/\Ls ag p t
 | .nil,i,d,m,_,_,j,p,t,hx=>by simp [Pts.toList] at hx
 | .cons q u r,i,d,m,he,hk,j,p,t,hx=>by
  simp only [wrongPts] at he;by_cases c0:aK all i q.name≠0
  ·rw [ap c0] at he;exact absurd he c0
  rw [aj c0] at he;have c0:aK all i q.name=0:=sU c0
  have step:∀ d' m',(wrongPts ag all (i + 1) r d' m').1.1=0->Ls ag q u->aK all (i + j) p.name=0/\Ls ag p t:=by
   intro d' m' h hq
   cases j with
   | zero=>grind [Pts.toList]
   | succ j=>
    simp only [Pts.toList,List.getElem?_cons_succ] at hx;have:=oX h hk j p t hx
    grind
  by_cases c1:q.bare=true
  ·rw [ap c1] at he;by_cases c2:ag=7∨sameTy u c9=false∨cO q jZ=false
   ·rw [ap c2] at he;simp at he
   rw [aj c2] at he;refine step d m he (.inl ⟨c1,?_,?_,?_⟩)
   all_goals grind
  ·rw [aj c1] at he;by_cases c2:(eE q).1≠0
   ·rw [ap c2] at he;exact absurd he c2
   rw [aj c2] at he;by_cases c3:(wrong u (d + 1) m).1.1≠0
   ·rw [ap c3] at he;exact absurd he c3
   rw [aj c3] at he;exact step d _ he (.inr ⟨by simpa using c1,by simpa using c2,d + 1,m,by simpa using c3⟩)
theorem Dj:∀ {t:Ty},WX t->TyF t.h t.ps
 | .mk h ps,⟨d,m,he⟩=>by
  simp only [Ty.h,Ty.ps];simp only [wrong] at he;by_cases c0:24 < d
  ·rw [ap c0] at he;simp at he
  rw [aj c0] at he;by_cases c1:512 < m + 1
  ·rw [ap c1] at he;simp at he
  rw [aj c1] at he;by_cases c2:h.ag < 1∨9 < h.ag
  ·rw [ap c2] at he;simp at he
  rw [aj c2] at he;by_cases c3:xS (.mk h ps)=false
  ·rw [ap c3] at he;simp at he
  rw [aj c3] at he;by_cases c4:(h.ag=2/\h.hi < h.lo)∨(h.ag=3/\(h.most < 0∨4096 < h.most))
  ·rw [ap c4] at he;simp at he
  rw [aj c4] at he;by_cases c5:h.ag=9/\bE h.name.s=false
  ·rw [ap c5] at he;simp at he
  rw [aj c5] at he;refine { k1:=by omega,k9:=by omega,own:=Y6 c3,int:=fun h2=>by omega,text:=fun h3=>by omega,enum:=fun h4=>?_,one:=fun h5=>?_,many:=fun h7=>?_ }
  ·rw [ap h4] at he;exact AP h he
  ·rw [aj (by omega),ap h5] at he
   match ps,he with
   | .nil,he=>simp [wrongOne] at he
   | .cons p t (.cons _ _ _),he=>simp [wrongOne] at he
   | .cons p t .nil,he=>
    simp only [wrongOne] at he;by_cases e0:p.name.s≠ay∨cO p fJ=false
    ·rw [ap e0] at he;simp at he
    rw [aj e0] at he;by_cases e1:h.most < 0∨1024 < h.most
    ·rw [ap e1] at he;simp at he
    rw [aj e1] at he;refine ⟨p,t,rfl,Classical.byContradiction fun hn=>e0 (.inl hn),?_,by omega,by omega,d + 1,_,he⟩
    grind
  ·rw [aj (by omega),aj (by omega),ap h7] at he;by_cases e0:h.ag=8/\ps.len=0
   ·rw [ap e0] at he;simp at he
   rw [aj e0] at he;by_cases e1:64 < ps.len
   ·rw [ap e1] at he;simp at he
   rw [aj e1] at he;refine ⟨by omega,fun h8=>fun hl=>e0 ⟨h8,hl⟩,fun i p t hx=>?_⟩;have:=oX he h7 i p t hx
   rwa [Nat.zero_add] at this
theorem TyF.sub {h:Hd} {ps:Pts} (hF:TyF h ps) {p:Ph} {u:Ty} (hm:(p,u)∈ps.toList) (hb:p.bare=false):WX u:=by
 obtain ⟨i,hi⟩:=List.mem_iff_getElem?.1 hm
 have hlen:0 < ps.len:=by
  cases ps with
  | nil=>simp [Pts.toList] at hm
  | cons _ _ _=>simp [Pts.len]
 have hk:5<=h.ag/\h.ag<=8:=by
  have h1:=hF.own
  grind [xX]
 by_cases h5:h.ag=5∨h.ag=6
 ·obtain ⟨q,t,rfl,_,_,_,_,hw⟩:=hF.one h5
  grind [Pts.toList]
 ·rcases ((hF.many (by omega)).2.2 i p u hi).2 with h1 | h1
  ·rw [h1.1] at hb;cases hb
  ·exact h1.2.2
mutual
theorem sC:∀ (t:Ty),WX t->∀ u∈flatT t,WX u
 | .mk h ps,hw,u,hu=>by
  rw [flatT] at hu;split at hu
  ·cases hu
  ·rcases dN hu with rfl | hu
   ·exact hw
   ·exact Ge ps (fun p v hm hb=>(Dj hw).sub hm hb) u hu
theorem Ge:∀ (ps:Pts),(∀ p v,(p,v)∈ps.toList->p.bare=false->WX v)->∀ u∈flatP ps,WX u
 | .nil,_,u,hu=>by cases hu
 | .cons p v r,hw,u,hu=>by
  rw [flatP] at hu;rcases List.mem_append.1 hu with hu | hu
  ·cases hb:p.bare with
   | true=>rw [hb] at hu;cases hu
   | false=>rw [hb] at hu;exact sC v (hw p v (by simp [Pts.toList]) hb) u hu
  ·exact Ge r (fun q w hm=>hw q w (by simp [Pts.toList,hm])) u hu
end
mutual
theorem Gf:∀ (t:Ty),∀ u∈flatT t,u.h.ag≠9
 | .mk h ps,u,hu=>by
  rw [flatT] at hu;split at hu
  ·cases hu
  ·rename_i h9;rcases dN hu with rfl | hu
   ·exact h9
   ·exact Gg ps u hu
theorem Gg:∀ (ps:Pts),∀ u∈flatP ps,u.h.ag≠9
 | .nil,u,hu=>by cases hu
 | .cons p v r,u,hu=>by
  rw [flatP] at hu;rcases List.mem_append.1 hu with hu | hu
  ·split at hu
   ·cases hu
   ·exact Gf v u hu
  ·exact Gg r u hu
end
mutual
theorem Bo:∀ (t:Ty) (j:Nat) (u:Ty),(flatT t)[j]? = some u->j + u.nn<=t.nn
 | .mk h ps,j,u,hu=>by
  rw [flatT] at hu;by_cases h9:h.ag=9
  ·rw [ap h9] at hu;simp at hu
  rw [aj h9] at hu
  cases j with
  | zero=>grind
  | succ j=>
   simp only [List.getElem?_cons_succ] at hu;have:=uv ps j u hu;rw [Ty.nn,aj h9];omega
theorem uv:∀ (ps:Pts) (j:Nat) (u:Ty),(flatP ps)[j]? = some u->j + u.nn<=ps.nn
 | .nil,j,u,hu=>by simp [flatP] at hu
 | .cons p v r,j,u,hu=>by
  rw [flatP] at hu;rw [Pts.nn]
  cases hb:p.bare with
  | true=>
   rw [hb] at hu;have:=uv r j u (sU hu);simp only [if_true];omega
  | false=>
   rw [hb] at hu;simp only [Bool.false_eq_true,if_false] at hu ⊢;by_cases hj:j < (flatT v).length
   ·rw [dc hj] at hu;have:=Bo v j u hu;omega
   ·rw [List.getElem?_append_right (by omega)] at hu;have:=uv r _ u hu;have h2:=kB v;omega
end
theorem oY {lev:List Wd->Int} {s:Sch}:∀ {ps:Pts} {k:Nat} {e:Ed},e∈edsP lev s ps k->∃ p u k',(p,u)∈ps.toList/\e=yx lev p (wm s p u k')/\(p.bare=false->k' + u.nn<=k + ps.nn)
 | .nil,k,e,he=>by simp [edsP] at he
 | .cons p u r,k,e,he=>by
  rw [edsP] at he;rcases dN he with rfl | he
  ·grind [Pts.toList,Pts.nn]
  ·obtain ⟨q,v,k',h1,h2,h3⟩:=oY he
   grind [Pts.toList,Pts.nn]
theorem q7 {lev:List Wd->Int} {s:Sch}:∀ {ps:Pts} {k:Nat},(edsP lev s ps k).map Ed.name=az (pNames ps)
 | .nil,k=>rfl
 | .cons p u r,k=>by
  rw [edsP,List.map_cons,q7 (ps:=r)];rfl
theorem Bp {f:Nat->Nat->Bool} {n:Nat} (hL:dA f n):∀ e,e<=n->∃ b,b < n/\∀ x,x < e->f b x=true
 | 0,_=>⟨0,hL.pos,fun x hx=>by omega⟩
 | e + 1,he=>by
  obtain ⟨b,hb,fb⟩:=Bp hL e (by omega);obtain ⟨k,hk⟩:=hL.mt b e hb (by omega);obtain ⟨g1,g2,g3,g4⟩:=qZ hk;refine ⟨k,g1,fun x hx=>?_⟩;rcases jJ hx with hx | rfl
  ·exact hL.tr k b x g1 hb (by omega) g2 (fb x hx)
  ·exact g3
theorem vb {f:Nat->Nat->Bool} {n:Nat} (hL:dA f n) (l:List Nat) (hl:∀ x∈l,x < n):∃ c,gh f n l=some c:=by
 have key:∀ e,e<=l.length->∃ c,gh f n (l.take e)=some c:=by
  intro e
  induction e with
  | zero=>
   intro _;obtain ⟨b,hb,fb⟩:=Bp hL n (aV _);exact ⟨b,q5 hL hb fb⟩
  | succ e ih=>
   intro he;obtain ⟨c,hc⟩:=ih (by omega);obtain ⟨x,hx⟩:∃ x,l[e]? = some x:=⟨_,gE (by omega)⟩;have zO:=hl x (mG hx);obtain ⟨k,hk⟩:=hL.jn c x (pJ hc) zO;rw [List.take_add_one,hx]
   grind [u7]
 have:=key l.length (aV _)
 rwa [List.take_length] at this
theorem Bq {L:List ByteArray}:∀ {l:List Wd},(labW L l).1=0->∀ w∈l,∃ i,dy L w.s=some i
 | [],_,w,hw=>by cases hw
 | x :: r,h,w,hw=>by
  rw [labW] at h;split at h
  ·cases h
  ·rename_i h1;rcases dN hw with rfl | hw
   ·exact Option.ne_none_iff_exists'.1 h1
   ·exact Bq h w hw
theorem Nk {f:Nat->Nat->Bool} {L:List ByteArray} (hL:dA f L.length) {l:List Wd} (h:(labW L l).1=0):∃ c:Nat,Ad f L l=c/\c < L.length:=by
 obtain ⟨c,hc⟩:=vb hL (nE L l) (fun x hx=>by
  unfold nE at hx;obtain ⟨w,hw,rfl⟩:=List.mem_map.1 hx;obtain ⟨i,hi⟩:=Bq h w hw;rw [hi]
  exact (dG hi).1)
 refine ⟨c,?_,pJ hc⟩;unfold Ad;rw [ap h,hc];rfl
structure Y7 (L N:Nat) (e:Ed):Prop where
 to0:e.bare=true->e.to = -1
 to1:e.bare=false->∃ k:Nat,e.to=k/\k < N
 lab:∃ k:Nat,e.label=k/\k < L
 seen:∃ k:Nat,e.seen=k/\k < L
 wide:1<=e.wide/\e.wide<=64
 ck:0<=e.ck/\e.ck<=3
 cn:(e.ck=0->e.cn=0)/\(e.ck=1->1<=e.cn)/\(e.ck=2->0<=e.cn/\e.cn<=4096)/\(e.ck=3->e.cn=0)
structure cf (L N:Nat) (n:Nd):Prop where
 k1:1<=n.ag
 k8:n.ag<=8
 adG:n.ag=2->n.lo<=n.hi
 lo0:n.ag≠2->n.lo=0/\n.hi=0
 WY:n.ag=3->0<=n.most/\n.most<=4096
 Lt:n.ag=5->0<=n.most/\n.most<=1024
 adH:n.ag≠3->n.ag≠5->n.most=0
 af:n.ag=4->n.af ≠ []/\n.af.length<=64/\n.af.Nodup/\∀ s∈n.af,bE s=true
 Y8:n.ag≠4->n.af=[]
 leaf:n.ag < 5->n.ai=[]
 one:n.ag=5∨n.ag=6->∃ e,n.ai=[e]/\e.bare=false/\e.name=ay
 many:n.ag=7∨n.ag=8->n.ai.length<=64/\(n.ag=8->n.ai ≠ [])/\(n.ai.map Ed.name).Nodup/\∀ e∈n.ai,bE e.name=true
 bare:∀ e∈n.ai,e.bare=true->n.ag=8
 fB:∀ e∈n.ai,Y7 L N e
theorem q8 {l:List Wd} (h:∀ j x,l[j]? = some x->aK l j x=0):(az l).Nodup/\∀ x∈l,bE x.s=true:=by
 have key:∀ e,e<=l.length->(az (l.take e)).Nodup:=by
  intro e
  induction e with
  | zero=>intro _;simp [az]
  | succ e ih=>
   intro he;obtain ⟨x,hx⟩:∃ x,l[e]? = some x:=⟨_,gE (by omega)⟩
   grind [nC]
 refine ⟨by have:=key l.length (aV _);rwa [List.take_length] at this,fun x hx=>?_⟩;obtain ⟨j,hj⟩:=List.mem_iff_getElem?.1 hx
 grind [aK,bE]
theorem uw {all:List Wd}:∀ {l:List Wd} {i:Nat},(enumL all i l).1=0->∀ j x,l[j]? = some x->aK all (i + j) x=0
 | [],i,_,j,x,hx=>by simp at hx
 | y :: r,i,h,j,x,hx=>by
  rw [enumL] at h;split at h
  ·rename_i h1;exact (h1 h).elim
  ·rename_i h1
   cases j with
   | zero=>grind
   | succ j=>
    simp only [List.getElem?_cons_succ] at hx;have:=uw h j x hx
    grind
theorem Dk {h:Hd} (he:jt h=(0,0)):h.af ≠ []/\h.af.length<=64/\(az h.af).Nodup/\∀ x∈h.af,bE x.s=true:=by
 unfold jt at he;split at he
 ·cases he
 ·rename_i h1;split at he
  ·cases he
  ·rename_i h2;refine ⟨h1,by omega,?_⟩
   exact q8 fun j x hx=>by
    have:=uw (all:=h.af) (i:=0) (by rw [he]) j x hx
    rwa [Nat.zero_add] at this
theorem Lu {X:Lx} {L:List ByteArray}:∀ {ps:Pts},(knP X L ps).1=0->∀ {p:Ph} {u:Ty},(p,u)∈ps.toList->(X.bad p.label).1=0/\(X.bad p.cl).1=0
 | .nil,_,p,u,h=>by cases h
 | .cons q v r,hk,p,u,h=>by
  have hr:=(uf hk).2;rw [knP] at hk;split at hk
  ·rename_i h1;exact (h1 hk).elim
  rename_i h1;split at hk
  ·rename_i h2;exact (h2 hk).elim
  rename_i h2;rcases dN h with h | h
  ·grind
  ·exact Lu hr h
theorem pM {p q:Ph} (h:cO p q=true):p.bare=q.bare/\p.wide=q.wide/\p.ck=q.ck/\p.cn=q.cn:=by grind [cO]
theorem Q7 {w:Int} (h:0<=w/\w<=64):1<=mv w/\mv w<=64:=by
 unfold mv;split<;>omega
theorem Jp {p:Ph} (h:(bo p).1=0):(0<=p.ck/\p.ck<=3)/\(p.ck=0->p.cn=0)/\(p.ck=1->1<=p.cn)/\(p.ck=2->0<=p.cn/\p.cn<=4096)/\(p.ck=3->p.cn=0):=by grind [bo]
theorem Nl {p:Ph} (h:(eE p).1=0):(0<=p.wide/\p.wide<=64)/\(bo p).1=0:=by grind [eE,b9]
theorem Dl {t:Ty} (h:t.h.ag≠9):1<=t.nn:=by
 obtain ⟨h',ps⟩:=t;have h:¬ h'.ag=9:=h;rw [Ty.nn,aj h];omega
theorem Bs {S:Sch} {k:Nat} {x:Wd × Ty} (hx:S.types[k]? = some x):firstA S k + x.2.nn<=uu (gO S):=by
 have h1:=oS hx;rw [<- h1]
 have h2:firstA S (k + 1)=uu ((gN S).take (k + 1)):=by
  unfold firstA uu gN;rw [<- List.map_take,List.map_map];rfl
 grind [Ga,gN,uu,gO,wx]
theorem sD {lev:List Wd->Int} {s:Sch} {n:Nd}:∀ {l:List Ty} {k i:Nat},(ndsA lev s l k)[i]? = some n->∃ t∈l,∃ u∈flatT t,n=Ur lev s u (k + i)/\i + u.nn<=uu l
 | [],k,i,h=>by simp [ndsA] at h
 | t :: r,k,i,h=>by
  rw [ndsA] at h;rw [oW];have hl:=kX lev s t k;by_cases hi:i < t.nn
  ·rw [dc (by omega),wv,List.getElem?_map,List.getElem?_zipIdx] at h
   cases hu:(flatT t)[i]? with
   | none=>rw [hu] at h;simp at h
   | some u=>
    rw [hu] at h;simp only [Option.map_some,oI] at h;have:=Bo t i u hu;exact ⟨t,List.mem_cons_self,u,mG hu,by rw [<- h];simp,by omega⟩
  ·rw [List.getElem?_append_right (by omega),hl] at h;obtain ⟨t',h1,u,h2,h3,h4⟩:=sD h
   grind
theorem nI (S:Sch):(bp S).length=uu (gO S):=by rw [jA,mA]
theorem pN {S:Sch} (hF:sA S) {i:Nat} {n:Nd} (h:(bp S)[i]? = some n):cf S.ae.length (bp S).length n:=by
 rw [nI];rw [jA] at h;obtain ⟨t,ht,u,hu,rfl,jk⟩:=sD h;rw [Nat.zero_add];have M8:=sC t ⟨_,_,hF.wr t ht⟩ u hu;have hk:=yP t (hF.kn t ht) u hu;have hk9:=Gf t u hu;have hT:=Dj M8;obtain ⟨Ut,_⟩:=kY hF.lat;have fI:=dz S.ae;have yR:=hF.ends;obtain ⟨uh,us⟩:=u;simp only [Ty.h,Ty.ps] at hT hk9;have YR:=(nG hk).2;have dJ:=hT.own;unfold xX at dJ;simp only [bc,Bool.or_eq_true,decide_eq_true_eq] at dJ;obtain ⟨⟨⟨⟨o1,o2⟩,o3⟩,o4⟩,o5⟩:=dJ;have k1:=hT.k1;have k9:=hT.k9
 have WD:∀ l:List Wd,(labW (az S.ae) l).1=0->∃ k:Nat,iI S l=k/\k < S.ae.length:=by
  intro l hl;have:=Nk (f:=fA S.ae.length (dW (az S.ae) S.order)) (L:=az S.ae) (by rw [fI];exact Ut) hl
  rwa [fI] at this
 have mw:∀ (p:Ph) (v:Ty) (k':Nat),(p,v)∈us.toList->(p.bare=false->k' + v.nn<=i + 1 + us.nn)->(p.bare=true->wm S p v k' = -1)/\(p.bare=false->∃ k:Nat,wm S p v k'=k/\k < uu (gO S)):=by
  intro p v k' hm fb;refine ⟨fun hb=>by simp [wm,hb],fun hb=>?_⟩;have hkv:=Dh YR hm hb;obtain ⟨vh,vs⟩:=v;by_cases h9:vh.ag=9
  ·obtain ⟨j,hj⟩:=Option.ne_none_iff_exists'.1 ((nG hkv).1 h9);have ll:=(dG hj).1;rw [kW] at ll;obtain ⟨k,hk⟩:=yR j ll;have gl:=sg hk;obtain ⟨x,hx⟩:∃ x,S.types[k]? = some x:=⟨_,gE gl.1⟩;have h1:=Bs hx
   grind [Dl,firstA,wm,oT,Ty.h,YP,namedN]
  ·grind [Dl,Ty.nn,wm,oT,Ty.h]
 have FJ:∀ p v,(p,v)∈us.toList->(0<=p.wide/\p.wide<=64)/\(0<=p.ck/\p.ck<=3)/\((p.ck=0->p.cn=0)/\(p.ck=1->1<=p.cn)/\(p.ck=2->0<=p.cn/\p.cn<=4096)/\(p.ck=3->p.cn=0))/\(p.bare=true->uh.ag=8):=by
  intro p v hm;obtain ⟨j,hj⟩:=List.mem_iff_getElem?.1 hm
  have hlen:us.len≠0:=by
   cases us with
   | nil=>simp [Pts.toList] at hm
   | cons _ _ _=>simp [Pts.len]
  by_cases h5:uh.ag=5∨uh.ag=6
  ·obtain ⟨q,t',rfl,_,gP,_,_,_⟩:=hT.one h5;simp only [Pts.toList,List.mem_singleton,Prod.mk.injEq] at hm;obtain ⟨rfl,rfl⟩:=hm;obtain ⟨w1,w2,w3,w4⟩:=pM gP;have z1:fJ.wide=0:=rfl;have z2:fJ.ck=0:=rfl;have z3:fJ.cn=0:=rfl;have z4:fJ.bare=false:=rfl
   grind
  ·obtain ⟨_,hP⟩:=(hT.many (by omega)).2.2 j p v hj;rcases hP with ⟨hb,h8,_,gP⟩ | ⟨hb,hp,_⟩
   ·obtain ⟨w1,w2,w3,w4⟩:=pM gP;have z1:jZ.wide=0:=rfl;have z2:jZ.ck=0:=rfl;have z3:jZ.cn=0:=rfl;omega
   ·obtain ⟨w1,w2⟩:=Nl hp;obtain ⟨w3,w4⟩:=Jp w2
    grind
 have adI:us.len=0->us = .nil:=fun h=>by
  cases us with
  | nil=>rfl
  | cons _ _ _=>simp [Pts.len] at h
 refine {
  k1:=k1
  k8:=by show uh.ag<=8;omega
  adG:=hT.int
  lo0:=fun h2=>?_
  WY:=hT.text
  Lt:=fun h5=>?_
  adH:=fun h3 h5=>?_
  af:=fun h4=>?_
  Y8:=fun h4=>?_
  leaf:=fun h5=>?_
  one:=fun h5=>?_
  many:=fun h7=>?_
  bare:=fun e he hb=>?_
  fB:=fun e he=>?_ }
 ·show uh.lo=0/\uh.hi=0;exact o1.resolve_left h2
 ·obtain ⟨q,t',rfl,_,_,om,jY,_⟩:=hT.one (.inl h5);exact ⟨om,jY⟩
 ·show uh.most=0;exact o2.resolve_left (fun h=>h.elim h3 h5)
 ·obtain ⟨e1,e2,e3,e4⟩:=Dk (hT.enum h4);show az uh.af ≠ []/\(az uh.af).length<=64/\(az uh.af).Nodup/\∀ s∈az uh.af,bE s=true
  grind [az,dz]
 ·show az uh.af=[];have:=o4.resolve_right h4;have:uh.af=[]:=List.eq_nil_of_length_eq_zero this;rw [this];all_goals rfl
 ·show edsP (iI S) S us (i + 1)=[];have hk5:uh.ag < 5:=h5;rw [adI (o3.resolve_right (by omega))];rfl
 ·show ∃ e,edsP (iI S) S us (i + 1)=[e]/\_;obtain ⟨q,t',rfl,hn,gP,_,_,_⟩:=hT.one h5;refine ⟨yx (iI S) q (wm S q t' (i + 1)),rfl,?_,hn⟩;exact (pM gP).1
 ·show (edsP (iI S) S us (i + 1)).length<=64/\(_->edsP (iI S) S us (i + 1) ≠ [])/\((edsP (iI S) S us (i + 1)).map Ed.name).Nodup/\∀ e∈edsP (iI S) S us (i + 1),bE e.name=true;obtain ⟨m1,m2,m3⟩:=hT.many h7;have fG:∀ j x,(pNames us)[j]? = some x->aK (pNames us) j x=0:=by grind [gZ,Pts.fl,hY]
  obtain ⟨n1,n2⟩:=q8 fG;refine ⟨by rw [si];exact m1,fun h8 hn=>m2 h8 ?_,by rw [q7];exact n1,fun e he=>?_⟩
  ·grind [si,iI]
  ·have:e.name∈az (pNames us):=by rw [<- q7 (lev:=iI S) (s:=S) (k:=i + 1)];exact List.mem_map_of_mem he
   grind [az]
 ·obtain ⟨p,v,k',h1,rfl,_⟩:=oY he;exact (FJ p v h1).2.2.2 hb
 ·obtain ⟨p,v,k',h1,rfl,h3⟩:=oY he;obtain ⟨h4,h5⟩:=mw p v k' h1 h3;obtain ⟨h6,h7,h8,_⟩:=FJ p v h1;obtain ⟨h9,vY⟩:=Lu YR h1;exact { to0:=h4,to1:=h5,lab:=WD _ h9,seen:=WD _ vY,wide:=Q7 h6,ck:=h7,cn:=h8 }
theorem Jq {S:Sch} (hF:sA S):∃ k:Nat,dw S=k/\k < (bp S).length:=by
 rw [nI];have WN:=hF.kn S.root (by unfold gO;simp);have yR:=hF.ends;have dK:=yO S;have lu:uu (gO S)=uu (gN S) + S.root.nn:=by unfold gO;rw [wx];simp [uu]
 unfold dw;obtain ⟨ae,order,types,⟨rh,rp⟩⟩:=S;simp only at WN yR lu;by_cases h9:rh.ag=9
 ·obtain ⟨j,hj⟩:=Option.ne_none_iff_exists'.1 ((nG WN).1 h9);have ll:=(dG hj).1;rw [kW] at ll;obtain ⟨k,hk⟩:=yR j ll;have gl:=sg hk;obtain ⟨x,hx⟩:∃ x,(Sch.mk ae order types (.mk rh rp)).types[k]? = some x:=⟨_,gE gl.1⟩;have h1:=Bs hx
  grind [Dl,firstA,oT,Ty.h,YP,namedN]
 ·grind [Dl,sm,oT,Ty.h]
theorem yS {lev:List Wd->Int} {s:Sch} {n:Nd}:∀ {l:List Ty} {k:Nat},n∈ndsA lev s l k->∃ t∈l,∃ u∈flatT t,∃ k',n=Ur lev s u k'
 | [],_,h=>by cases h
 | t :: r,k,h=>by
  rw [ndsA] at h;rcases List.mem_append.1 h with h | h
  ·grind [wv]
  ·obtain ⟨t',ht,h⟩:=yS h;exact ⟨t',gJ _ ht,h⟩
theorem kC {S:Sch} {n:Nd} (h:n∈bp S) (hS:S.wt<=1099511627776):n.af.length<=1099511627776/\n.ai.length<=1099511627776:=by
 rw [jA] at h;obtain ⟨t,ht,u,hu,k,rfl⟩:=yS h;have h1:=De hS t ht;have h2:=yQ t u hu;obtain ⟨uh,us⟩:=u;have h3:=bI uh.af;have h4:=us.gF
 grind [Ty.wt,Hd.wt,Ur,Ty.h,Ty.ps,dz,si]
abbrev zNd:List DV:=[.v (.int .i64 0),.v (.int .i64 0),.v (.int .i64 0),.v (.int .i64 0),.v (.int .i64 0),.v (.slice none 0 0),.v (.slice none 0 0)]
structure dX (S:Sch) (ND:List Nd) (PC:List DV):Prop where
 fine:sA S
 wt:S.wt<=1099511627776
 zR:ND=bp S
 ok:∀ n∈ND,cf S.ae.length ND.length n
 nl:ND.length<=1099511627776
 len:EvP prog 94 [.pt PC 0] (.v (.int .i64 ND.length))
 root:EvP prog 37 [.pt PC 0] (.v (.int .i64 (dw S)))
 ah:∀ (i:Nat) n,ND[i]? = some n->EvP prog 36 [.pt PC 0,.v (.int .i64 i)] (.tup [.agg (j5 n),.v (.bool true)])
 WZ:∀ i:Int,(i < 0∨ND.length<=i)->EvP prog 36 [.pt PC 0,.v (.int .i64 i)] (.tup [.agg zNd,.v (.bool false)])
 lat:∃ aJ js,(dY S aJ js).OK/\EvP prog 72 [.pt PC 0] (dY S aJ js).pd
theorem Q8 {S:Sch} {d:DV} (hS:S.wt<=1099511627776) (h0:(lU S).1=0) (hd:QR S d):∃ PC,d = .pt PC 0/\dX S (bp S) PC:=by
 obtain ⟨aJ,lV,js,hX,hT,lx,rfl⟩:=hd;have hF:=sB h0;have bW:=fun n (h:n∈bp S)=>kC h hS
 refine ⟨_,rfl,{
  fine:=hF
  wt:=hS
  zR:=rfl
  ok:=fun n hn=>?_
  nl:=by rw [nI];exact Nat.le_trans (Jo S) hS
  len:=ui _ _ _ _ _ _
  root:=I6 _ _ _ _ _ _
  ah:=fun i n h=>I7 _ _ _ _ _ _ i n h (bW n (mG h)).1 (bW n (mG h)).2
  WZ:=fun i h=>I8 _ _ _ _ _ _ i h
  lat:=⟨aJ,js,hX,M9 _ _ _ _ _ _⟩ }⟩
 obtain ⟨i,hi⟩:=List.mem_iff_getElem?.1 hn;exact pN hF hi
def Jr (S:Sch) (r:DV):Prop:=((lU S).1≠0/\r = .tup [.v (.pointer none),(lU S).d])∨((lU S).1=0/\∃ PC,dX S (bp S) PC/\r = .tup [.pt PC 0,Ft.d (0,0)])
theorem Bt {S:Sch} (hS:S.wt<=1099511627776) {r:DV} {os:List (List DV)} {tk:List TkE} (h:I3 S r os tk):Jr S r:=by
 unfold I3 at h;by_cases h0:(lU S).1=0
 ·rw [aj (by rw [h0];simp)] at h;obtain ⟨d,hd,rfl⟩:=h;obtain ⟨PC,rfl,hP⟩:=Q8 hS h0 hd;exact .inr ⟨h0,PC,hP,rfl⟩
 ·rw [ap h0] at h;exact .inl ⟨h0,h⟩
def Q9 (f:Nat->Nat->Bool) (n:Nat) (a b:Int):Bool:=decide (0<=a) && decide (a < n) && decide (0<=b) && decide (b < n) && f a.toNat b.toNat
def lG (f:Nat->Nat->Bool) (n a b:Nat):Nat:=(fO f n a b).getD 0
def dC (f:Nat->Nat->Bool) (n:Nat):Nat:=(gh f n []).getD 0
theorem yT {f:Nat->Nat->Bool} {n a b:Nat} (ha:a < n) (hb:b < n):Q9 f n a b=f a b:=by simp [Q9,ha,hb]
theorem yU {f:Nat->Nat->Bool} {n a b:Nat} (h:dA f n) (ha:a < n) (hb:b < n):fO f n a b=some (lG f n a b):=by
 obtain ⟨k,hk⟩:=h.jn a b ha hb;simp [lG,hk]
theorem nJ {f:Nat->Nat->Bool} {n a b:Nat} (h:dA f n) (ha:a < n) (hb:b < n):lG f n a b < n:=(nD (yU h ha hb)).1
theorem pO {f:Nat->Nat->Bool} {n:Nat} (h:dA f n):gh f n []=some (dC f n):=by
 obtain ⟨c,hc⟩:=vb h [] (fun _ h=>by cases h);simp [dC,hc]
theorem lH {f:Nat->Nat->Bool} {n:Nat} (h:dA f n):dC f n < n:=pJ (pO h)
theorem Lv {f:Nat->Nat->Bool} {n:Nat} (h:dA f n) {a:Nat} (ha:a < n):f (dC f n) a=true:=by
 have h1:=(bV (pO h)).2.1
 grind [C0,iH]
theorem Dm {f:Nat->Nat->Bool} {n a:Nat} (h:dA f n) (ha:a < n):lG f n a (dC f n)=a:=by
 obtain ⟨h1,h2,h3,h4⟩:=nD (yU h ha (lH h));exact h.IP _ _ h1 ha (h4 a ha (h.rfl' a ha) (Lv h ha)) h2
section
variable (af:List ByteArray) (tc:List DV) (rows:List Nat) (js:List Int)
theorem Nn (hr:eS rows) (hl:rows.length=af.length) (a b:Int) :
  EvP prog 88 [.pt (iW af tc rows js) 0,.v (.int .i64 a),.v (.int .i64 b)] (.v (.bool (hasB rows a b))):=by
 have h1:=ua af tc rows js;have h2:=mh rows hr a b;have hB:hasB rows a b=(decide (0<=a) && decide (a < af.length) && decide (0<=b) && decide (b < af.length) && bf rows a.toNat b.toNat):=by rw [<- hl];all_goals rfl
 generalize hasB rows a b=h at h2 hB ⊢;refine eG 24 [.tmp 6] func88 rfl ntmps88 rfl fun _ _ _ _=>?_;refine cP xI (h1 a) ?_;refine br ?_ ?_<;>intro g
 ·refine cP xI (h1 b) ?_;refine br ?_ ?_<;>intro g2
  ·refine cP EU h2 ?_;exact (rfl:_=_)
  ·refine (bP ?_:);rw [hB];simp only [Bool.and_assoc] at g g2 ⊢;cases hx:decide (0<=b)<;>cases hy:decide (b < af.length)<;>simp_all [pickB]
 ·refine (bP ?_:);rw [hB];cases hx:decide (0<=a)<;>cases hy:decide (a < af.length)<;>simp_all [pickB]
end
structure Js (n:Nat) (f:Nat->Nat->Bool) (af:List ByteArray) (LC:List DV):Prop where
 ok:dA f n
 n32:n<=32
 nl:af.length=n
 len:EvP prog 73 [.pt LC 0] (.v (.int .i64 n))
 leq:∀ a b:Int,EvP prog 88 [.pt LC 0,.v (.int .i64 a),.v (.int .i64 b)] (.v (.bool (Q9 f n a b)))
 join:∀ a b:Nat,a < n->b < n->EvP prog 203 [.pt LC 0,.v (.int .i64 a),.v (.int .i64 b)] (.v (.int .i64 (lG f n a b:Nat)))
 bot:EvP prog 70 [.pt LC 0] (.v (.int .i64 (dC f n:Nat)))
 name:∀ (i:Nat) s,af[i]? = some s->EvP prog 157 [.pt LC 0,.v (.int .i64 i)] (.v (.string s))
abbrev aH (S:Sch):Nat->Nat->Bool:=fA S.ae.length (dW (az S.ae) S.order)
theorem dX.Np {S:Sch} {ND:List Nd} {PC:List DV} (hP:dX S ND PC):∃ LC,EvP prog 72 [.pt PC 0] (.pt LC 0)/\Js S.ae.length (aH S) (az S.ae) LC:=by
 obtain ⟨aJ,js,hX,hl⟩:=hP.lat;have fI:=dz S.ae;have HF:=(hP.fine).lat;obtain ⟨hL,QQ⟩:=kY HF;have hpr:∀ p∈dW (az S.ae) S.order,p.1 < S.ae.length/\p.2 < S.ae.length:=by have:=pI (nH HF).2.2.1;rwa [dz] at this
 have dK:(dY S aJ js).rows.length=S.ae.length:=by
  show (closeR (fZ S.ae.length (dW (az S.ae) S.order)) S.ae.length).length=_;rw [gd,kS]
 have hr:eS (dY S aJ js).rows:=mi (CR (by omega) _ hpr) _ (by omega)
 refine ⟨_,hl,{
  ok:=hL,n32:=QQ,nl:=fI
  len:=?_
  leq:=fun a b=>?_
  join:=fun a b ha hb=>?_
  bot:=?_
  name:=fun i s hs=>?_
  }⟩
 ·have:=tZ (dY S aJ js).af (dt (dY S aJ js).af (dY S aJ js).aJ) (dY S aJ js).rows (dY S aJ js).js
  rwa [show (dY S aJ js).af.length=S.ae.length from fI] at this
 ·have:=Nn (dY S aJ js).af (dt (dY S aJ js).af (dY S aJ js).aJ) (dY S aJ js).rows (dY S aJ js).js hr (by rw [dK];exact fI.symm) a b
  have he:hasB (dY S aJ js).rows a b=Q9 (aH S) S.ae.length a b:=by
   unfold hasB Q9;rw [dK];all_goals rfl
  rwa [he] at this
 ·have hz:=(hX.hj a b (by rw [show (dY S aJ js).af.length=S.ae.length from fI];exact ha) (by rw [show (dY S aJ js).af.length=S.ae.length from fI];exact hb)).1;rw [show (dY S aJ js).af.length=S.ae.length from fI,show (dY S aJ js).f=aH S from rfl,yU hL ha hb] at hz;exact yq (dY S aJ js).af (dt (dY S aJ js).af (dY S aJ js).aJ) (dY S aJ js).rows (dY S aJ js).js a b _ (by rw [show (dY S aJ js).af.length=S.ae.length from fI];exact ha) (by rw [show (dY S aJ js).af.length=S.ae.length from fI];exact hb) hX.hn hz
 ·have:=se (dY S aJ js).af (dt (dY S aJ js).af (dY S aJ js).aJ) (dY S aJ js).rows (dY S aJ js).js hX.hL hX.hn hX.hj
  rwa [show (dY S aJ js).af.length=S.ae.length from fI,show (dY S aJ js).f=aH S from rfl,pO hL] at this
 ·have:=IK (dY S aJ js).af (dt (dY S aJ js).af (dY S aJ js).aJ) (dY S aJ js).rows (dY S aJ js).js i;have aq:=(gS hs).1;rw [ap ⟨by omega,by rw [show (dY S aJ js).af=az S.ae from rfl];omega⟩,eH,show (dY S aJ js).af=az S.ae from rfl,hs] at this;exact this
inductive Val where
 | mk (k n:Int) (s:ByteArray) (ks:List Val)
def Val.k:Val->Int | .mk k _ _ _=>k
def Val.n:Val->Int | .mk _ n _ _=>n
def Val.s:Val->ByteArray | .mk _ _ s _=>s
def Val.ks:Val->List Val | .mk _ _ _ ks=>ks
mutual
def bg:Val->List DV
 | .mk k n s ks=>[.v (.int .i64 k),.v (.int .i64 n),.v (.string s),.sl 4 (dVals ks) none]
def dVals:List Val->List (List DV)
 | []=>[]
 | v :: r=>bg v :: dVals r
end
theorem dH:∀ l:List Val,dVals l=l.map bg
 | []=>rfl
 | v :: r=>by rw [dVals,dH r];all_goals rfl
theorem cA (l:List Val):(dVals l).length=l.length:=by rw [dH,List.length_map]
theorem jB {l:List Val} {e:Nat} {x:Val} (h:l[e]? = some x):(dVals l)[e]? = some (bg x):=by rw [dH,List.getElem?_map,h];all_goals rfl
theorem Jt {l:List Val} {e:Nat} {x:Val} (h:l[e]? = some x):dVals (l.take e) ++ [bg x]=dVals (l.take (e + 1)):=by
 rw [dH,dH,List.take_add_one,h];simp
mutual
def Val.wt:Val->Nat
 | .mk _ _ s ks=>64 + s.size + dL ks
def dL:List Val->Nat
 | []=>0
 | v :: r=>v.wt + dL r
end
theorem Val.fk:∀ v:Val,64<=v.wt
 | .mk _ _ _ _=>by rw [Val.wt];omega
theorem la:∀ {l:List Val} {x:Val},x∈l->x.wt<=dL l
 | v :: r,x,h=>by
  rcases dN h with rfl | h
  ·rw [dL];omega
  ·have:=la h;rw [dL];omega
theorem iJ:∀ l:List Val,64 * l.length<=dL l
 | []=>aV _
 | v :: r=>by
  have:=iJ r;have:=v.fk;rw [dL,List.length_cons];omega
mutual
def sE:Val->Nat
 | .mk _ _ _ ks=>1 + mB ks
def mB:List Val->Nat
 | []=>0
 | v :: r=>sE v + mB r
end
mutual
def Y9:Val->Nat
 | .mk _ _ _ ks=>Gh ks + 1
def Gh:List Val->Nat
 | []=>0
 | v :: r=>max (Y9 v) (Gh r)
end
mutual
theorem Lw:∀ v:Val,sE v<=v.wt/\Y9 v<=v.wt
 | .mk _ _ _ ks=>by
  have:=yV ks;rw [sE,Y9,Val.wt];omega
theorem yV:∀ l:List Val,mB l<=dL l/\Gh l<=dL l
 | []=>⟨aV _,aV _⟩
 | v :: r=>by
  have h1:=Lw v;have h2:=yV r;rw [mB,Gh,dL];omega
end
theorem yW:∀ (l:List Val) (x:Val),mB (l ++ [x])=mB l + sE x
 | [],x=>by simp [mB]
 | v :: r,x=>by rw [List.cons_append,mB,mB,yW r];omega
theorem dZ {α:Type} {l:List α} {e:Nat} {x:α} (h:l[e]? = some x):l.take (e + 1)=l.take e ++ [x]:=by rw [List.take_add_one,h];all_goals rfl
theorem Ju (l:List Val):∀ e,mB (l.take e)<=dL l/\Gh (l.take e)<=dL l:=fun e=>by
 have h1:=yV (l.take e)
 have h2:∀ (l:List Val) e,dL (l.take e)<=dL l:=by
  intro l
  induction l with
  | nil=>intro e;simp [dL]
  | cons v r ih=>
   intro e
   cases e with
   | zero=>simp [dL]
   | succ e=>have:=ih e;simp only [List.take_succ_cons,dL];omega
 have:=h2 l e;omega
abbrev ctSt (ks:List Val) (n e:Nat):St:=
 ⟨[au 3 n,aM 7 4 (dVals ks),au 8 ((dVals ks).length),au 9 e],[],[]⟩
theorem vd:∀ (k:Nat) (v:Val),v.wt<=k->v.wt<=1099511627776->EvP prog 177 [.agg (bg v)] (.v (.int .i64 (sE v:Nat)))
 | 0,v,h,_=>by have:=v.fk;omega
 | k + 1,.mk q n s ks,h,hb=>by
  have ih:=vd k;have cu:=cA ks;have gl:=iJ ks;have jl:=Ju ks;rw [Val.wt] at h hb;rw [sE];refine eG 19 [.tmp 2] func177 rfl ntmps177 rfl fun _ _ _ _=>?_;refine lJ (fun e=>ctSt ks (1 + mB (ks.take e)) e) ks.length (bz wB) ?_;intro e he;refine br ?_ ?_<;>intro hL
  ·have aq:e < ks.length:=by have:=hL;simp [cu] at this;exact this
   obtain ⟨x,hx⟩:=gX aq;have hxw:=la (mG hx);have hc:=yW (ks.take e) x;rw [<- dZ hx] at hc;have h1:=jl (e + 1);have hi:=ih x (by omega) (by omega);obtain ⟨xk,xn,xs,xl⟩:=x;refine iX (jB hx) ?_;refine cP VU hi ?_;have hw:IntKind.i64.wrap (((1 + mB (ks.take e):Nat):Int) + ((sE (.mk xk xn xs xl):Nat):Int))=((1 + mB (ks.take (e + 1)):Nat):Int):=by rw [wrap64 (by omega) (by omega)];omega
   exact rE ⟨_,by omega,e + 1,rfl,by omega,rfl⟩ (bz (wB2 hw (aG aq (by omega))))
  ·have hge:e=ks.length:=sW cu hL;subst hge;rw [List.take_length];exact (rfl:_=_)
def lK (n:Nd) (v:Val):Bool:=
 if 0 < v.ks.length∨(v.k≠3/\v.s≠ay)∨(v.k=3/\v.n≠0) then false
 else if n.ag=1 then decide (v.k=1) && (decide (v.n=0) || decide (v.n=1))
 else if n.ag=2 then decide (v.k=2) && decide (n.lo<=v.n) && decide (v.n<=n.hi)
 else if n.ag=3 then decide (v.k=3) && decide ((v.s.size:Int)<=n.most)
 else decide (v.k=4) && decide (0<=v.n) && decide (v.n < n.af.length)
def fL (v:Val):Bool:=decide (v.s=ay) && (decide (v.n=0) || decide (v.k=8))
def to0 (n:Nd):Int:=match n.ai[0]? with | some e=>e.to | none=>0
def vM (n:Nd) (v:Val):Option Ed:=if v.k=8/\0<=v.n/\v.n < n.ai.length then n.ai[v.n.toNat]? else none
def kidsL (n:Nd) (v:Val):List Int:=
 if n.ag=5∨n.ag=6 then List.replicate v.ks.length (to0 n)
 else if n.ag=7 then n.ai.map Ed.to
 else match vM n v with | none=>[] | some e=>if e.bare=true then [] else [e.to]
def gA (n:Nd) (v:Val):Bool:=
 if n.ag=5∨n.ag=6 then fL v && decide (v.k=n.ag) && decide ((v.ks.length:Int)<=if n.ag=6 then 1 else n.most)
 else if n.ag=7 then fL v && decide (v.k=7) && decide (n.ai.length=v.ks.length)
 else match vM n v with | none=>false | some _=>fL v && decide ((kidsL n v).length=v.ks.length)
def fQ (ND:List Nd) (i:Int):Option Nd:=if i < 0 then none else ND[i.toNat]?
mutual
def fitV (ND:List Nd):Val->Int->Bool
 | .mk k n s ks,i=>match fQ ND i with
  | none=>false
  | some d=>if d.ag < 5 then lK d (.mk k n s ks) else gA d (.mk k n s ks) && fitVs ND ks (kidsL d (.mk k n s ks))
def fitVs (ND:List Nd):List Val->List Int->Bool
 | v :: r,i :: l=>fitV ND v i && fitVs ND r l
 | _,_=>true
end
def Za (n:Nd) (v:Val) (j:Nat):Int:=
 if n.ag=5 then (if (j:Int) < n.most then to0 n else -1)
 else if n.ag=6 then (if j < 1 then to0 n else -1)
 else if n.ag=7 then (match n.ai[j]? with | some e=>e.to | none=>-1)
 else if n.ag=8 then (if j < 1/\0<=v.n/\v.n < n.ai.length then (match n.ai[v.n.toNat]? with | some e=>e.to | none=>-1) else -1)
 else -1
def ve (l:List Int):List (List DV):=l.map fun z=>[DV.v (.int .i64 z)]
theorem nK (l:List Int):(ve l).length=l.length:=by simp [ve]
theorem Ly {l:List Int} {i:Nat} {z:Int} (h:l[i]? = some z):(ve l)[i]? = some [DV.v (.int .i64 z)]:=by simp [ve,h]
theorem yX (l:List Int) (z:Int):ve l ++ [[DV.v (.int .i64 z)]]=ve (l ++ [z]):=by simp [ve]
theorem Bu:(⟨#[]⟩:ByteArray)=ay:=rfl
theorem Nq (n:Nd) (v:Val):EvP prog 137 [.agg (j5 n),.agg (bg v)] (.v (.bool (lK n v))):=by
 have hbl:=cG n.af;obtain ⟨ag,aO,lo,hi,most,af,es⟩:=n;obtain ⟨q,z,s,ks⟩:=v;have cu:=cA ks;simp only at hbl
 have hF:lK ⟨ag,aO,lo,hi,most,af,es⟩ (.mk q z s ks)=if 0 < ks.length∨(q≠3/\s≠ay)∨(q=3/\z≠0) then false
  else if ag=1 then decide (q=1) && (decide (z=0) || decide (z=1))
  else if ag=2 then decide (q=2) && decide (lo<=z) && decide (z<=hi)
  else if ag=3 then decide (q=3) && decide ((s.size:Int)<=most)
  else decide (q=4) && decide (0<=z) && decide (z < af.length):=rfl
 have hc:∀ b:Bool,b=pickB (pickB (decide (0 < ((dVals ks).length:Int))) true (pickB (!decide (q=3)) (!decide (s=⟨#[]⟩)) false)) true (pickB (decide (q=3)) (!decide (z=0)) false)->b=decide (0 < ks.length∨(q≠3/\s≠ay)∨(q=3/\z≠0)):=fun b h=>by grind [Bu,aw,av]
 rw [hF];refine eG 94 [.tmp 4] func137 rfl ntmps137 rfl fun _ _ _ _=>?_;refine br ?_ ?_<;>intro c
 ·have c:=of_decide_eq_true ((hc _ rfl).symm.trans c);rw [ap c];exact (rfl:_=_)
 have c:=of_decide_eq_false ((hc _ rfl).symm.trans c);rw [aj c];refine br ?_ ?_<;>intro c1
 ·have c1:ag=1:=sU c1;refine (bP ?_:);simp [c1,av,aw]
 have c1:¬ ag=1:=sU c1;refine br ?_ ?_<;>intro c2
 ·have c2:ag=2:=sU c2;refine (bP ?_:);simp [c2,av,aw]
 have c2:¬ ag=2:=sU c2;refine br ?_ ?_<;>intro c3
 ·have c3:ag=3:=sU c3;refine (bP ?_:);simp [c3,av,aw]
 have c3:¬ ag=3:=sU c3;refine (bP ?_:);simp [c1,c2,c3,av,aw,hbl]
abbrev W0 (n:Nd) (v:Val) (l:List Int) (p:Bool) (kd mo:Int) (q e:Nat):St:=
 ⟨[aE 2 0,aE 3 1,(6,⟨[],.sl 1 (ve l) (some 0)⟩),qN 7 p,au 8 kd,au 9 mo,au 38 v.ks.length,au 39 e],[j5 n,bg v],[⟨q,3,1,none⟩]⟩
abbrev adJ (n:Nd) (v:Val) (l:List Int) (p:Bool) (q e:Nat):St:=
 ⟨[aE 2 0,aE 3 1,(6,⟨[],.sl 1 (ve l) (some 0)⟩),qN 7 p,aM 67 10 (dT n.ai),au 68 ((dT n.ai).length),au 69 e],[j5 n,bg v],[⟨q,3,1,none⟩]⟩
theorem kids_spec {L N:Nat} {n:Nd} (hn:cf L N n) (h5:5<=n.ag) (v:Val) (hv:v.wt<=1099511627776) :
  EvP prog 138 [.agg (j5 n),.agg (bg v)] (.tup [.sl 1 (ve (kidsL n v)) none,.v (.bool (gA n v))]):=by
 have Gi:=hn.k8;have ee:=hn.one;have Lz:=hn.many;obtain ⟨ag,aO,lo,hi,most,af,es⟩:=n;obtain ⟨q,z,s,ks⟩:=v;have cu:=cA ks;have kM:=bw es;have gl:=iJ ks;rw [Val.wt] at hv;simp only at Gi h5 ee Lz
 have hp:∀ b:Bool,b=pickB (decide (s=⟨#[]⟩)) (pickB (decide (z=0)) true (decide (q=8))) false->b=fL (.mk q z s ks):=fun b h=>by
  rw [h];rw [av,aw,Bu];all_goals rfl
 refine eG 134 [.tmp 4,.tmp 5] func138 rfl ntmps138 rfl fun _ _ _ _=>?_;refine br ?_ ?_<;>intro c
 ·have c:ag=5:=sU c;have S0:ag=5∨ag=6:=.inl c;obtain ⟨x,iO,_,_⟩:=ee S0;refine br (fun _=>?_) (fun h=>absurd h (by simp [c]));refine dI ?_;refine br (fun h=>absurd h (by simp [c])) (fun _=>?_);obtain ⟨kd,mo,h1,h2,h3,h4⟩:∃ kd mo:Int,5=kd/\most=mo/\kd=ag/\mo=(if ag=6 then 1 else most):=⟨5,most,rfl,rfl,c.symm,by rw [aj (by omega)]⟩;have Cj:(dT es)[0]? = some (C4 x):=by rw [iO];all_goals rfl
  have ht0:to0 ⟨ag,aO,lo,hi,most,af,es⟩=x.to:=by simp [to0,iO]
  refine lJ (fun e=>W0 ⟨ag,aO,lo,hi,most,af,es⟩ (.mk q z s ks) (List.replicate e x.to) (fL (.mk q z s ks)) kd mo e e) ks.length (cX 2 ⟨0,3,1,none⟩ rfl rfl rfl (by repeat' (first | exact rfl | exact aA rfl | exact cL (hp _ rfl) | exact aC h1 | exact aC h2 | exact aC (congrArg Nat.cast cu) | exact cW (aV _) rfl | exact cW (aV _) rfl | refine ⟨_,_,rfl,?_,?_⟩)) rfl rfl (by repeat' (first | exact trivial | exact aA rfl | exact cL (hp _ rfl) | exact aC h1 | exact aC h2 | exact aC (congrArg Nat.cast cu) | exact cW (aV _) rfl | refine ⟨⟨_,rfl,?_⟩,?_⟩))) ?_;intro e he;refine br ?_ ?_<;>intro hL
  ·have aq:e < ks.length:=by have:=hL;simp [Val.ks] at this;exact this
   have dM:(ve (List.replicate e x.to)).length=e:=by rw [nK,List.length_replicate]
   have dx:ve (List.replicate e x.to) ++ [[DV.v (.int .i64 x.to)]]=ve (List.replicate (e + 1) x.to):=by rw [yX,List.replicate_succ']
   refine ⟨_,⟨by omega,Cj⟩,?_⟩;refine ⟨dM,⟨by rw [dM];simp [maxLen];omega,by rw [dM];simp;omega⟩,?_⟩;exact rE ⟨_,by omega,e + 1,rfl,by omega,rfl⟩ (bZ 2 (lY (aG aq (by omega)) dx) (wB2 (aG aq (by omega)) dx))
  ·have hge:e=ks.length:=by have:=hL;simp [Val.ks] at this;omega
   subst hge;have Af:kidsL ⟨ag,aO,lo,hi,most,af,es⟩ (.mk q z s ks)=List.replicate ks.length x.to:=by unfold kidsL;rw [ap S0,ht0];all_goals rfl
   have dM:(ve (List.replicate ks.length x.to)).length=ks.length:=by rw [nK,List.length_replicate]
   have hB:pickB (pickB (fL (.mk q z s ks)) (decide (q=kd)) false) (decide (((ve (List.replicate ks.length x.to)).length:Int)<=mo)) false=gA ⟨ag,aO,lo,hi,most,af,es⟩ (.mk q z s ks):=by
    rw [dM,h3,h4,av,av];unfold gA;rw [ap S0];rfl
   rw [Af];exact ⟨_,(mc hB),rfl⟩
 have c5:¬ ag=5:=sU c;refine br ?_ ?_<;>intro c
 ·have c:ag=6:=sU c;have S0:ag=5∨ag=6:=.inr c;obtain ⟨x,iO,_,_⟩:=ee S0;refine dI ?_;refine br (fun _=>?_) (fun h=>absurd h (by simp [c]));obtain ⟨kd,mo,h1,h2,h3,h4⟩:∃ kd mo:Int,6=kd/\1=mo/\kd=ag/\mo=(if ag=6 then 1 else most):=⟨6,1,rfl,rfl,c.symm,by rw [ap c]⟩;have Cj:(dT es)[0]? = some (C4 x):=by rw [iO];all_goals rfl
  have ht0:to0 ⟨ag,aO,lo,hi,most,af,es⟩=x.to:=by simp [to0,iO]
  refine lJ (fun e=>W0 ⟨ag,aO,lo,hi,most,af,es⟩ (.mk q z s ks) (List.replicate e x.to) (fL (.mk q z s ks)) kd mo e e) ks.length (cX 2 ⟨0,3,1,none⟩ rfl rfl rfl (by repeat' (first | exact rfl | exact aA rfl | exact cL (hp _ rfl) | exact aC h1 | exact aC h2 | exact aC (congrArg Nat.cast cu) | exact cW (aV _) rfl | exact cW (aV _) rfl | refine ⟨_,_,rfl,?_,?_⟩)) rfl rfl (by repeat' (first | exact trivial | exact aA rfl | exact cL (hp _ rfl) | exact aC h1 | exact aC h2 | exact aC (congrArg Nat.cast cu) | exact cW (aV _) rfl | refine ⟨⟨_,rfl,?_⟩,?_⟩))) ?_;intro e he;refine br ?_ ?_<;>intro hL
  ·have aq:e < ks.length:=by have:=hL;simp [Val.ks] at this;exact this
   have dM:(ve (List.replicate e x.to)).length=e:=by rw [nK,List.length_replicate]
   have dx:ve (List.replicate e x.to) ++ [[DV.v (.int .i64 x.to)]]=ve (List.replicate (e + 1) x.to):=by rw [yX,List.replicate_succ']
   refine ⟨_,⟨by omega,Cj⟩,?_⟩;refine ⟨dM,⟨by rw [dM];simp [maxLen];omega,by rw [dM];simp;omega⟩,?_⟩;exact rE ⟨_,by omega,e + 1,rfl,by omega,rfl⟩ (bZ 2 (lY (aG aq (by omega)) dx) (wB2 (aG aq (by omega)) dx))
  ·have hge:e=ks.length:=by have:=hL;simp [Val.ks] at this;omega
   subst hge;have Af:kidsL ⟨ag,aO,lo,hi,most,af,es⟩ (.mk q z s ks)=List.replicate ks.length x.to:=by unfold kidsL;rw [ap S0,ht0];all_goals rfl
   have dM:(ve (List.replicate ks.length x.to)).length=ks.length:=by rw [nK,List.length_replicate]
   have hB:pickB (pickB (fL (.mk q z s ks)) (decide (q=kd)) false) (decide (((ve (List.replicate ks.length x.to)).length:Int)<=mo)) false=gA ⟨ag,aO,lo,hi,most,af,es⟩ (.mk q z s ks):=by
    rw [dM,h3,h4,av,av];unfold gA;rw [ap S0];rfl
   rw [Af];exact ⟨_,(mc hB),rfl⟩
 have c6:¬ ag=6:=sU c;obtain ⟨hm64,hm8,_,_⟩:=Lz (by omega);refine br ?_ ?_<;>intro c
 ·have c7:ag=7:=sU c;refine lJ (fun e=>adJ ⟨ag,aO,lo,hi,most,af,es⟩ (.mk q z s ks) ((es.take e).map Ed.to) (fL (.mk q z s ks)) e e) es.length (cX 2 ⟨0,3,1,none⟩ rfl rfl rfl (by repeat' (first | exact rfl | exact aA rfl | exact cL (hp _ rfl) | exact cW (aV _) rfl | exact cW (aV _) rfl | refine ⟨_,_,rfl,?_,?_⟩)) rfl rfl (by repeat' (first | exact trivial | exact aA rfl | exact cL (hp _ rfl) | exact cW (aV _) rfl | refine ⟨⟨_,rfl,?_⟩,?_⟩))) ?_;intro e he;refine br ?_ ?_<;>intro hL
  ·have aq:e < es.length:=by have:=hL;simp [kM] at this;exact this
   obtain ⟨x,hx⟩:=gX aq;have dM:(ve ((es.take e).map Ed.to)).length=e:=by rw [nK,List.length_map,zLenT];omega
   have dx:ve ((es.take e).map Ed.to) ++ [[DV.v (.int .i64 x.to)]]=ve ((es.take (e + 1)).map Ed.to):=by rw [yX,dZ hx,List.map_append];all_goals rfl
   refine iX (aS hx) ?_;refine ⟨dM,⟨by rw [dM];simp [maxLen];omega,by rw [dM];simp;omega⟩,?_⟩;exact rE ⟨_,by omega,e + 1,rfl,by omega,rfl⟩ (bZ 2 (lY (aG aq (by omega)) dx) (wB2 (aG aq (by omega)) dx))
  ·have hge:e=es.length:=sW kM hL;subst hge;rw [List.take_length];have Af:kidsL ⟨ag,aO,lo,hi,most,af,es⟩ (.mk q z s ks)=es.map Ed.to:=by unfold kidsL;rw [aj (by simp only;omega),ap c7]
   have dM:(ve (es.map Ed.to)).length=es.length:=by rw [nK,List.length_map]
   have hB:pickB (pickB (fL (.mk q z s ks)) (decide (q=7)) false) (decide (((ve (es.map Ed.to)).length:Int)=((dVals ks).length:Int))) false=gA ⟨ag,aO,lo,hi,most,af,es⟩ (.mk q z s ks):=by grind [av,gA,Val.k,Val.ks]
   rw [Af];refine dI ?_;exact ⟨_,(mc hB),rfl⟩
 have c7:¬ ag=7:=sU c;have Af:kidsL ⟨ag,aO,lo,hi,most,af,es⟩ (.mk q z s ks)=(match vM ⟨ag,aO,lo,hi,most,af,es⟩ (.mk q z s ks) with | none=>[] | some e=>if e.bare=true then [] else [e.to]):=by unfold kidsL;rw [aj (by simp only;omega),aj c7];all_goals rfl
 have adK:gA ⟨ag,aO,lo,hi,most,af,es⟩ (.mk q z s ks)=(match vM ⟨ag,aO,lo,hi,most,af,es⟩ (.mk q z s ks) with | none=>false | some _=>fL (.mk q z s ks) && decide ((kidsL ⟨ag,aO,lo,hi,most,af,es⟩ (.mk q z s ks)).length=ks.length)):=by unfold gA;rw [aj (by simp only;omega),aj c7];all_goals rfl
 have hc:∀ b:Bool,b=pickB (pickB (!decide (q=8)) true (decide (z < 0))) true (decide (((dT es).length:Int)<=z))->b = !decide (q=8/\0<=z/\z < es.length):=fun b h=>by grind [aw]
 refine br ?_ ?_<;>intro c
 ·have c:¬ (q=8/\0<=z/\z < es.length):=by have:=(hc _ rfl).symm.trans c;simpa only [Bool.not_eq_true',decide_eq_false_iff_not] using this
  have ht:vM ⟨ag,aO,lo,hi,most,af,es⟩ (.mk q z s ks)=none:=by show (if q=8/\0<=z/\z < es.length then es[z.toNat]? else none)=_;rw [aj c]
  rw [adK,Af,ht];exact ⟨_,ax,rfl⟩
 ·have c:q=8/\0<=z/\z < es.length:=by have:=(hc _ rfl).symm.trans c;simpa only [Bool.not_eq_false',decide_eq_true_eq] using this
  obtain ⟨x,hx⟩:∃ x,es[z.toNat]? = some x:=⟨_,gE (by omega)⟩;have ht:vM ⟨ag,aO,lo,hi,most,af,es⟩ (.mk q z s ks)=some x:=by show (if q=8/\0<=z/\z < es.length then es[z.toNat]? else none)=_;rw [ap c];exact hx
  rw [ht] at adK Af;refine iX (aS hx) ?_;refine br ?_ ?_<;>intro hb
  ·have hb:x.bare=false:=sU hb;have Zb:kidsL ⟨ag,aO,lo,hi,most,af,es⟩ (.mk q z s ks)=[x.to]:=by rw [Af];simp [hb]
   have hB:pickB (fL (.mk q z s ks)) (decide ((1:Int)=((dVals ks).length:Int))) false=gA ⟨ag,aO,lo,hi,most,af,es⟩ (.mk q z s ks):=by grind [av]
   rw [Zb,<- hB];refine ⟨⟨by simp [maxLen],by simp⟩,?_⟩;refine dI ?_;exact ⟨_,(by repeat' (first | exact rfl | exact trivial | exact Or.inr (Or.inl ⟨_,rfl⟩) | exact Or.inr ⟨_,rfl⟩ | exact Or.inl ⟨rfl,rfl⟩ | exact Or.inl rfl | refine Or.inr ⟨_,_,rfl,Nat.zero_le _,rfl,?_⟩ | refine ⟨_,_,rfl,?_,?_⟩ | refine ⟨_,rfl,?_⟩ | exact congrArg (fun b=>DV.v (.bool (pickB b _ false))) (hp _ rfl) | refine Or.inr (Or.inr (Or.inr ⟨_,_,rfl,?_⟩)) | exact Or.inl rfl | refine Or.inr ?_)),rfl⟩
  ·have hb:x.bare=true:=sU hb;have Zb:kidsL ⟨ag,aO,lo,hi,most,af,es⟩ (.mk q z s ks)=[]:=by rw [Af];simp [hb]
   have hB:pickB (fL (.mk q z s ks)) (decide ((0:Int)=((dVals ks).length:Int))) false=gA ⟨ag,aO,lo,hi,most,af,es⟩ (.mk q z s ks):=by grind [av]
   rw [Zb,<- hB];refine dI ?_;exact ⟨_,(by repeat' (first | exact rfl | exact trivial | exact Or.inr (Or.inl ⟨_,rfl⟩) | exact Or.inr ⟨_,rfl⟩ | exact Or.inl ⟨rfl,rfl⟩ | exact Or.inl rfl | refine Or.inr ⟨_,_,rfl,Nat.zero_le _,rfl,?_⟩ | refine ⟨_,_,rfl,?_,?_⟩ | refine ⟨_,rfl,?_⟩ | exact congrArg (fun b=>DV.v (.bool (pickB b _ false))) (hp _ rfl) | refine Or.inr (Or.inr (Or.inr ⟨_,_,rfl,?_⟩)) | exact Or.inl rfl | refine Or.inr ?_)),rfl⟩
theorem Bv {n:Nd} {v:Val} (hk:5<=n.ag) (h:gA n v=true):(kidsL n v).length=v.ks.length:=by grind [gA,kidsL,vM]
theorem Jv {ND:List Nd} {ks:List Val} {l:List Int} {e:Nat} {x:Val} {i:Int} (h1:ks[e]? = some x) (h2:l[e]? = some i):fitVs ND (ks.drop e) (l.drop e)=(fitV ND x i && fitVs ND (ks.drop (e + 1)) (l.drop (e + 1))):=by
 rw [drop_cons h1,drop_cons h2,fitVs]
theorem fw {ND:List Nd} {i:Int} {d:Nd} (h:fQ ND i=some d):0<=i/\ND[i.toNat]? = some d:=by grind [fQ]
theorem Jw {ND:List Nd} {i:Int} (h:fQ ND i=none):i < 0∨(ND.length:Int)<=i:=by grind [fQ]
abbrev tfSt (PC:List DV) (v:Val) (l:List Int) (e:Nat):St:=
 ⟨[eX 0 PC,aE 5 0,aM 36 1 (ve l),au 37 l.length,au 38 e],[bg v],[]⟩
theorem ld {S:Sch} {ND:List Nd} {PC:List DV} (hP:dX S ND PC):∀ (k:Nat) (v:Val),v.wt<=k->v.wt<=1099511627776->∀ i:Int,EvP prog 68 [.pt PC 0,.v (.int .i64 i),.agg (bg v)] (.v (.bool (fitV ND v i)))
 | 0,v,h,_=>by have:=v.fk;omega
 | k + 1,.mk q z s ks,h,hb=>fun i=>by
  have ih:=ld hP k;have gl:=iJ ks;have cu:=cA ks;have fD:=hb;rw [Val.wt] at h hb;rw [fitV];have cS:=hP.ah;have Zc:=hP.WZ;have aZ:=hP.ok
  cases hd:fQ ND i with
  | none=>
   refine eG 53 [.tmp 6] func68 rfl ntmps68 rfl fun _ _ _ _=>?_;refine cP oE (Zc i (Jw hd)) ?_;exact (rfl:_=_)
  | some d=>
   obtain ⟨h0,hg⟩:=fw hd;obtain ⟨j,rfl⟩:∃ j:Nat,i=j:=⟨i.toNat,by omega⟩;have hg:ND[j]? = some d:=sU hg;have hN:=aZ d (mG hg);have HF:=Nq d (.mk q z s ks);have Ou:=fun h5=>kids_spec hN h5 (.mk q z s ks) fD;have hlen:=fun h5=>Bv (n:=d) (v:=.mk q z s ks) h5;simp only;obtain ⟨ag,aO,lo,hi,most,af,es⟩:=d;simp only at Ou hlen;refine eG 53 [.tmp 6] func68 rfl ntmps68 rfl fun _ _ _ _=>?_;refine cP oE (cS j _ hg) ?_;refine br ?_ ?_<;>intro c
   ·have c:ag < 5:=sU c;rw [ap c];refine cP abj HF ?_;exact (rfl:_=_)
   have c:¬ ag < 5:=sU c;rw [aj c];have Ou:=Ou (by omega);have hlen:=hlen (by omega);generalize kidsL ⟨ag,aO,lo,hi,most,af,es⟩ (.mk q z s ks)=l at Ou hlen ⊢;have hzl:=nK l;refine cP VN Ou ?_
   cases hB:gA ⟨ag,aO,lo,hi,most,af,es⟩ (.mk q z s ks) with
   | false=>
    exact (rfl:_=_)
   | true=>
    have hlen:l.length=ks.length:=hlen hB;rw [Bool.true_and];refine lI (fun j st=>∃ e:Nat,st=tfSt PC (.mk q z s ks) l e/\e<=l.length/\fitVs ND ks l=fitVs ND (ks.drop e) (l.drop e)/\j=l.length - e) ⟨0,rfl,by omega,rfl,rfl⟩ (bz (cJ hzl)) ?_;rintro _ st ⟨e,rfl,he,aP,rfl⟩;refine br ?_ ?_<;>intro hL
    ·have aq:e < l.length:=by have:=hL;simp at this;exact this
     obtain ⟨x,hx⟩:∃ x,ks[e]? = some x:=⟨_,gE (by omega)⟩;obtain ⟨y,hy⟩:=gX aq;have hxw:=la (mG hx);rw [Jv hx hy] at aP;have iw:=ih x (by omega) (by omega) y;obtain ⟨xk,xn,xs,xl⟩:=x;refine iX (Ly hy) ?_;refine iX (jB hx) ?_;refine cP H8 iw ?_;refine br ?_ ?_<;>intro g
     ·have g:fitV ND (.mk xk xn xs xl) y=false:=sU g;rw [aP,g];exact (rfl:_=_)
     ·have g:fitV ND (.mk xk xn xs xl) y=true:=sU g;rw [g,Bool.true_and] at aP;exact rE ⟨_,by omega,e + 1,rfl,by omega,aP,rfl⟩ (bz (cJ (aG aq (by omega))))
    ·have hge:e=l.length:=by have:=hL;simp at this;omega
     rw [List.drop_of_length_le (by omega),List.drop_of_length_le (by omega)] at aP;rw [aP];exact (rfl:_=_)
structure Ra (ND:List Nd) (v:Val) (i:Int) (d:Nd):Prop where
 ah:fQ ND i=some d
 k:v.k=d.ag
 leaf:d.ag < 5->v.ks=[]
 enum:d.ag=4->0<=v.n/\v.n < d.af.length
 kids:5<=d.ag->(kidsL d v).length=v.ks.length/\fitVs ND v.ks (kidsL d v)=true
 tag:d.ag=8->∃ e,vM d v=some e/\d.ai[v.n.toNat]? = some e/\0<=v.n/\v.n < d.ai.length/\(e.bare=true↔v.ks=[])
 opt:d.ag=6->v.ks.length<=1
theorem ij {L:Nat} {ND:List Nd} (aZ:∀ n∈ND,cf L ND.length n) {v:Val} {i:Int} (h:fitV ND v i=true):∃ d,Ra ND v i d:=by
 obtain ⟨k,n,s,ks⟩:=v;rw [fitV] at h
 cases hd:fQ ND i with
 | none=>rw [hd] at h;cases h
 | some d=>
  rw [hd] at h;simp only at h;have hN:=aZ d (mG (fw hd).2);have kh:=hN.k1;have Gi:=hN.k8;by_cases h5:d.ag < 5
  ·rw [ap h5] at h;unfold lK at h;by_cases hc:0 < (Val.mk k n s ks).ks.length∨((Val.mk k n s ks).k≠3/\(Val.mk k n s ks).s≠ay)∨((Val.mk k n s ks).k=3/\(Val.mk k n s ks).n≠0)
   ·rw [ap hc] at h;cases h
   rw [aj hc] at h;have hnil:ks=[]:=by grind [Val.ks]
   have hk:k=d.ag/\(d.ag=4->0<=n/\n < d.af.length):=by grind [Val.k,Val.n]
   exact ⟨d,{ ah:=hd,k:=hk.1,leaf:=fun _=>hnil,enum:=hk.2,kids:=fun h=>by omega,tag:=fun h=>by omega,opt:=fun h=>by omega }⟩
  ·rw [aj h5,bc] at h;obtain ⟨hB,hf⟩:=h;have hlen:=Bv (by omega) hB;have hB2:=hB;unfold gA at hB;by_cases c:d.ag=5∨d.ag=6
   ·rw [ap c] at hB;simp only [bc,decide_eq_true_eq] at hB;exact ⟨d,{ ah:=hd,k:=hB.1.2,leaf:=fun h=>by omega,enum:=fun h=>by omega,kids:=fun _=>⟨hlen,hf⟩,tag:=fun h=>by omega,opt:=fun h=>by have:=hB.2;rw [ap h] at this;omega }⟩
   rw [aj c] at hB;by_cases c7:d.ag=7
   ·rw [ap c7] at hB;simp only [bc,decide_eq_true_eq] at hB;exact ⟨d,{ ah:=hd,k:=by rw [c7];exact hB.1.2,leaf:=fun h=>by omega,enum:=fun h=>by omega,kids:=fun _=>⟨hlen,hf⟩,tag:=fun h=>by omega,opt:=fun h=>by omega }⟩
   rw [aj c7] at hB
   cases ht:vM d (.mk k n s ks) with
   | none=>rw [ht] at hB;cases hB
   | some e=>
    have Lc:=ht;unfold vM at Lc;split at Lc
    ·rename_i hr;have gl:kidsL d (.mk k n s ks)=if e.bare=true then [] else [e.to]:=by unfold kidsL;rw [aj c,aj c7,ht]
     refine ⟨d,{ ah:=hd,k:=by have:=hr.1;omega,leaf:=fun h=>by omega,enum:=fun h=>by omega,kids:=fun _=>⟨hlen,hf⟩,tag:=fun _=>⟨e,ht,Lc,hr.2.1,hr.2.2,?_⟩,opt:=fun h=>by omega }⟩
     grind
    ·cases Lc
theorem oZ {ND:List Nd}:∀ {ks:List Val} {l:List Int} {e:Nat} {x:Val} {i:Int},fitVs ND ks l=true->ks[e]? = some x->l[e]? = some i->fitV ND x i=true
 | [],_,e,x,i,_,h,_=>by simp at h
 | _ :: _,[],e,x,i,_,_,h=>by simp at h
 | v :: r,j :: l,0,x,i,h,h1,h2=>by grind [fitVs]
 | v :: r,j :: l,e + 1,x,i,h,h1,h2=>by
  simp only [List.getElem?_cons_succ] at h1 h2;rw [fitVs,bc] at h;exact oZ h.2 h1 h2
structure Stp where
 k:Int
 n:Int
 s:ByteArray
def eU (x:Stp):List DV:=[.v (.int .i64 x.k),.v (.int .i64 x.n),.v (.string x.s)]
def aF (l:List Stp):List (List DV):=l.map eU
theorem ef (l:List Stp):(aF l).length=l.length:=by simp [aF]
theorem eu {l:List Stp} {e:Nat} {x:Stp} (h:l[e]? = some x):(aF l)[e]? = some (eU x):=by simp [aF,h]
def lW (a b:Stp):Bool:=decide (a.k=b.k) && (decide (a.n=b.n) && decide (a.s=b.s))
theorem mC {a b:Stp}:lW a b=true↔a=b:=by
 obtain ⟨k,n,s⟩:=a;obtain ⟨k',n',s'⟩:=b
 grind [lW]
def Jx (a:Stp):Array Value:=#[.int .i64 a.k,.int .i64 a.n,.string a.s]
theorem Nr (a b:Stp) (w:World):(Op.equal 141 (.agg (Jx a)) (.agg (Jx b))).run prog w = .ok (lW a b) w:=by
 have hf:prog.underlying 141=some (.struct (prog.fieldsOf 141)):=by simp [Program.fieldsOf,Tryz.underlying141]
 have vz:(prog.fieldsOf 141).toList=[⟨ "Kind",3,0,false, "", "",0⟩,⟨ "N",3,1,false, "", "",8⟩,⟨ "Name",9,2,false, "", "",16⟩]:=by simp [Program.fieldsOf,Tryz.underlying141]
 have hs:prog.stoodInHeld 141=false:=by kernel_rfl
 obtain ⟨d,hm⟩:∃ d,Op.maxDepth=d + 1 + 1:=⟨Op.maxDepth - 2,by decide⟩
 have q9:∀ cs:Array Value,∀ off v,cs[off]? = some v->(part 9 cs off).run prog w = .ok v w:=fun cs off v h=>by
  simp [part,Tryz.isAgg9,h]
 have q3:∀ cs:Array Value,∀ off v,cs[off]? = some v->(part 3 cs off).run prog w = .ok v w:=fun cs off v h=>by
  simp [part,Tryz.isAgg3,h]
 have g0:=fun x:Stp=>q3 (Jx x) 0 (.int .i64 x.k) rfl;have g1:=fun x:Stp=>q3 (Jx x) 1 (.int .i64 x.n) rfl;have g2:=fun x:Stp=>q9 (Jx x) 2 (.string x.s) rfl;have r9:=fun a b=>run_equalIn_string w d 9 a b Tryz.underlying9;have r3:=fun a b=>run_equalIn_int w d 3 .i64 .i64 a b Tryz.underlying3
 have e1:(a.s.toList == b.s.toList)=decide (a.s=b.s):=by
  rw [ByteArray.toList_eq,ByteArray.toList_eq];by_cases h:a.s=b.s
  ·rw [h];simp
  ·have:¬ a.s.data=b.s.data:=fun e=>h (ByteArray.ext e);simp [h,this]
 unfold Op.equal;rw [hm,run_equalIn_struct w (d + 1) 141 _ _ hf hs,vz];simp only [Op.eqFields,ne_eq,String.reduceEq,not_false_eq_true,if_true,Sem.run_bind,g0,g1,g2,r9,r3,Result.andThen_ok];by_cases h1:a.k=b.k
 ·by_cases h2:a.n=b.n
  ·by_cases h3:a.s=b.s
   ·simp_all [lW]
   ·simp_all [lW]
  ·simp [h1,h2,lW,Sem.run_pure,r3,g1]
 ·simp [h1,lW,Sem.run_pure]
theorem Ns (o:BinOp) (ho:o = .eql∨o = .neq) (w:World) (x y:Operand) (vs vs':Array Value):(eqGuard o 141 x y (.agg vs) (.agg vs')).run prog w = .ok () w:=by
 have h:prog.eqGuardType prog.depth 141=false:=by kernel_rfl
 rcases ho with rfl | rfl<;>simp [eqGuard,run_program,h]
theorem Uu (x y:Operand) (a b:Stp):HM prog .eql x y 141 (eU a) (eU b) (lW a b):=
 ⟨[.int .i64 a.k,.int .i64 a.n,.string a.s],[.int .i64 b.k,.int .i64 b.n,.string b.s],rfl,rfl,fun w=>⟨Ns _ (.inl rfl) w x y _ _,by
  show ((do let r <- Op.equal 141 (.agg (Jx a)) (.agg (Jx b));pure (Value.bool r)):Sem Value).run prog w=_
  simp only [Sem.run_bind,Nr,Result.andThen_ok,Sem.run_pure]⟩⟩
def stpR (d:Nd) (v:Val) (j:Nat):Stp:=
 if d.ag=5 then ⟨2,j,ay⟩
 else if d.ag=6 then ⟨4,0,ay⟩
 else if d.ag=7 then ⟨1,0,match d.ai[j]? with | some e=>e.name | none=>ay⟩
 else ⟨5,0,match d.ai[v.n.toNat]? with | some e=>e.name | none=>ay⟩
def cF (s:Stp):Bool:=
 if s.k=1∨s.k=5 then decide (s.n=0) && bE s.s
 else if s.k=2 then decide (0<=s.n) && decide (s.s=⟨#[]⟩)
 else if s.k=3∨s.k=4 then decide (s.n=0) && decide (s.s=⟨#[]⟩) else false
def lf (l:List Stp):Bool:=decide (l.length<=64) && l.all cF
theorem Jy (s:Stp):lf [s]=cF s:=by simp [lf]
def iK (d:Nd) (s:Stp) (e:Ed):Bool:=
 (decide (s.k=1) && decide (d.ag=7) && (decide (e.name=s.s) && !e.bare)) || (decide (s.k=5) && decide (d.ag=8) && (decide (e.name=s.s) && !e.bare)) ||
  ((decide (s.k=2) || decide (s.k=3)) && decide (d.ag=5) && decide (s.n < d.most)) || (decide (s.k=4) && decide (d.ag=6))
def Jz (d:Nd) (s:Stp) (e:Ed):Bool:=
 if s.k=1 then decide (d.ag=7) && decide (e.name=s.s)
 else if s.k=5 then decide (d.ag=8) && decide (e.name=s.s) && !e.bare
 else if s.k=2 then decide (d.ag=5) && decide (s.n < d.most)
 else if s.k=3 then decide (d.ag=5) && decide (0 < d.most)
 else decide (d.ag=6)
theorem Gj {s:Stp} (h:cF s=true):s.k=1∨s.k=2∨s.k=3∨s.k=4∨s.k=5:=by grind [cF]
theorem LA {L N:Nat} {d:Nd} (hN:cf L N d) {s:Stp} (hr:cF s=true) {e:Ed} (he:e∈d.ai):Jz d s e=iK d s e:=by
 have hk:=Gj hr;have hb:=hN.bare e he
 grind [Jz,iK,cF]
def edgeP (d:Nd) (s:Stp) (k:Nat):Bool:=match d.ai[k]? with | some e=>iK d s e | none=>false
def ik (d:Nd) (s:Stp):Option Nat:=if cF s=true then bM (edgeP d s) d.ai.length else none
theorem ej {d:Nd} {s:Stp} {k:Nat} (h:ik d s=some k):∃ e,d.ai[k]? = some e/\iK d s e=true/\cF s=true:=by
 unfold ik at h;split at h
 ·rename_i hr;obtain ⟨h1,h2,_⟩:=bV h
  grind [edgeP]
 ·cases h
def walkV (ND:List Nd) (f:Nat->Nat->Bool) (n:Nat):List Stp->Nat->Nat->Option (Nat × Nat)
 | [],i,a=>some (i,a)
 | s :: p,i,a=>match ND[i]? with
  | none=>none
  | some d=>match ik d s with
   | none=>none
   | some k=>match d.ai[k]? with
    | none=>none
    | some e=>walkV ND f n p e.to.toNat (lG f n a e.label.toNat)
theorem jC {L N:Nat} {d:Nd} (hN:cf L N d) {s:Stp} {e:Ed} (he:e∈d.ai) (h:iK d s e=true):e.bare=false:=by
 cases hb:e.bare
 ·rfl
 ·have h8:=hN.bare e he hb;unfold iK at h;simp [hb,h8] at h
theorem eV {L:Nat} {ND:List Nd} {d:Nd} (hN:cf L ND.length d) {e:Ed} (he:e∈d.ai):(e.bare=false->e.to=(e.to.toNat:Nat)/\e.to.toNat < ND.length)/\(e.label=(e.label.toNat:Nat)/\e.label.toNat < L)/\(e.seen=(e.seen.toNat:Nat)/\e.seen.toNat < L):=by
 have hE:=hN.fB e he;refine ⟨fun hb=>?_,?_,?_⟩
 ·obtain ⟨k,h1,h2⟩:=hE.to1 hb;rw [h1];exact ⟨by simp,by simpa using h2⟩
 ·obtain ⟨k,h1,h2⟩:=hE.lab;rw [h1];exact ⟨by simp,by simpa using h2⟩
 ·obtain ⟨k,h1,h2⟩:=hE.seen;rw [h1];exact ⟨by simp,by simpa using h2⟩
theorem yY {f:Nat->Nat->Bool} {L:Nat} (hL:dA f L) {ND:List Nd} (aZ:∀ n∈ND,cf L ND.length n):∀ (p:List Stp) (i a:Nat) {j b:Nat},i < ND.length->a < L->walkV ND f L p i a=some (j,b)->j < ND.length/\b < L
 | [],i,a,j,b,hi,ha,h=>by grind [walkV]
 | s :: p,i,a,j,b,hi,ha,h=>by
  rw [walkV,gE hi] at h;simp only at h;split at h
  ·cases h
  ·rename_i k hk;obtain ⟨e,he,hB,_⟩:=ej hk;rw [he] at h;simp only at h;have hm:=mG he;have hd:=aZ _ (List.getElem_mem hi);obtain ⟨h1,h2,_⟩:=eV hd hm;exact yY hL aZ p _ _ (h1 (jC hd hm hB)).2 (nJ hL ha h2.2) h
structure bK where
 p:List Stp
 ah:Nat
 lv:Nat
 how:Nat
def Zd (r:bK):List DV:=[.sl 3 (aF r.p) none,.v (.int .i64 (r.ah:Nat)),.v (.int .i64 (r.lv:Nat)),.v (.int .i64 (r.how:Nat))]
def iY (l:List bK):List (List DV):=l.map Zd
theorem Bw (l:List bK):(iY l).length=l.length:=by simp [iY]
theorem pP {l:List bK} {e:Nat} {x:bK} (h:l[e]? = some x):(iY l)[e]? = some (Zd x):=by simp [iY,h]
def eD (d:Nd) (e:Ed):Stp:=
 if d.ag=5 then ⟨3,0,ay⟩ else if d.ag=6 then ⟨4,0,ay⟩ else if d.ag=7 then ⟨1,0,e.name⟩ else ⟨5,0,e.name⟩
def Eg (d:Nd) (e:Ed):Bool:=if d.ag=8 then !e.bare else if d.ag=5 then decide (0 < d.most) else true
def iL (f:Nat->Nat->Bool) (n obs:Nat) (d:Nd) (e:Ed) (a:Nat):Nat:=
 if f (if d.ag < 7 then a else lG f n a e.label.toNat) obs=true then 2 else if e.ck≠0/\f (lG f n a e.seen.toNat) obs=true then 1 else 0
section
variable (ND:List Nd) (f:Nat->Nat->Bool) (n obs dep:Nat)
def sF (d:Nd) (e:Ed) (r:bK):bK:=⟨r.p ++ [eD d e],e.to.toNat,lG f n r.lv e.label.toNat,iL f n obs d e r.lv⟩
def o0 (F:bK->Nat->List bK) (d:Nd) (r:bK) (may:Nat) (l:List bK) (e:Ed):List bK:=if Eg d e=true then l ++ F (sF f n obs d e r) (may - l.length) else l
def rowsV:Nat->bK->Nat->List bK
 | 0,r,may=>if may=0 then [] else [r]
 | k + 1,r,may=>if may=0 then [] else if r.how≠2∨dep<=r.p.length then [r] else match ND[r.ah]? with
  | none=>[r]
  | some d=>d.ai.foldl (o0 f n obs (rowsV k) d r may) [r]
end
def nX (f:Nat->Nat->Bool) (n obs:Nat) (F:bK->Nat->List bK) (d:Nd) (r:bK) (may e:Nat):List bK:=(d.ai.take e).foldl (o0 f n obs F d r may) [r]
theorem JA {f:Nat->Nat->Bool} {n obs:Nat} {F:bK->Nat->List bK} {d:Nd} {r:bK} {may:Nat}:nX f n obs F d r may 0=[r]:=rfl
theorem yZ {f:Nat->Nat->Bool} {n obs:Nat} {F:bK->Nat->List bK} {d:Nd} {r:bK} {may e:Nat} {x:Ed} (h:d.ai[e]? = some x) :
  nX f n obs F d r may (e + 1)=if Eg d x=true then nX f n obs F d r may e ++ F (sF f n obs d x r) (may - (nX f n obs F d r may e).length) else nX f n obs F d r may e:=by
 unfold nX;rw [List.take_add_one,h];simp [List.foldl_append,o0]
theorem ux {f:Nat->Nat->Bool} {n obs:Nat} {F:bK->Nat->List bK} (hF:∀ r m,(F r m).length<=m) {d:Nd} {r:bK} {may:Nat} (hm:1<=may):∀ e,(nX f n obs F d r may e).length<=may
 | 0=>hm
 | e + 1=>by
  have ih:=ux (f:=f) (n:=n) (obs:=obs) hF (d:=d) (r:=r) hm e
  cases hx:d.ai[e]? with
  | none=>
   have:d.ai.take (e + 1)=d.ai.take e:=by
    rw [List.take_of_length_le (by have:=List.getElem?_eq_none_iff.1 hx;omega),List.take_of_length_le (by have:=List.getElem?_eq_none_iff.1 hx;omega)]
   unfold nX at ih ⊢;rw [this];exact ih
  | some x=>
   rw [yZ hx]
   grind
theorem pQ {ND:List Nd} {f:Nat->Nat->Bool} {n obs dep:Nat}:∀ (k:Nat) (r:bK) (may:Nat),(rowsV ND f n obs dep k r may).length<=may
 | 0,r,may=>by
  rw [rowsV];split
  ·simp
  ·simp;omega
 | k + 1,r,may=>by
  rw [rowsV];split
  ·simp
  ·split
   ·simp;omega
   ·split
    ·simp;omega
    ·rename_i d _;have:=ux (f:=f) (n:=n) (obs:=obs) (F:=rowsV ND f n obs dep k) (fun r m=>pQ k r m) (d:=d) (r:=r) (may:=may) (by omega) d.ai.length
     grind [nX]
end Go.Proofs.YtgjagnmeonoehaaGreat
