/- Part 5 of the proof: resolve.Build; Reading a plan: Len, Root, Lattice, Node, Find; slices.Clone; of no plan as well; The reference of chapter 17: Great, Same; The program's comparing of schemas; The law's example: a type that leads to itself; The law of no plan: the call returns true; The document's relations: Leads; The document's lattices: Find, pairs, Leq, Loop; The document's lattices: what is wrong; The document's labels: over, Least, Of; The document's schemas: Find, word, all, Flat, End, Start; The document's schemas: Flat, End, Start; The document's schemas: named, unknown; The reference's Wrong returns what is wrong with a type; The document's schemas: what is wrong; The document's nodes: Same, of equal ones; the law's node; The document's nodes: node; The document's plan: Build; What is known of a type with which nothing is wrong; labels have levels; What is known of the nodes of a plan; A plan, as its readers know it; Values, plain; how many are in one, how deep they lie; What is read of a value, as the plain data; What the frames of laws over values share; The greatest multiple of a unit that is at most a number; UTF-8: the program's lead, value; UTF-8: the program's Decode; UTF-8: the document's reckoned, Scalar, Encode; UTF-8: the document's Scalar, Encode. No condition. -/
import Derived.Test.YtgjagnmeonoehaaGreatMu3
import Derived.Test.YtgjagnmeonoehaaGreatMu4
set_option linter.all false
set_option maxRecDepth 100000
namespace Go.Proofs.YtgjagnmeonoehaaGreat
open Go Go.RowKit Dv Go.Proofs.Tryz
abbrev Rt (s:Sch) (aJ:List Nat) (lc:List DV) (m:Int) (f1 f2:Int) (n:Nat) (base:List DV) (e:Nat):St:=
 ⟨[aF 1 4,aF 3 3,aF 6 0,bi 59 11 (dNms s.types),ay 60 ((dNms s.types).length),ay 61 e],
  [bC s (.pt lc 0) (.loc 1 0) m,OZ s aJ lc n,[.v (.int .i64 f1),.v (.int .i64 f2)],[.v (.int .i64 0),.v (.int .i64 0)],ei s],[Ja n base]⟩
theorem yv (s:Sch) (hs:s.wt<=1099511627776):Ev prog 11 [.agg (ei s)] [] [] (Jd s):=by
 have hF:=lF.eq_1 s;have hw:=hs;simp only [Sch.wt] at hw;have hwl:=bM s.ae;have hwn:=ke s.types;have Qh:=FV s.ae s.order (by omega) (by omega);have vC:=fun lc=>C3 s lc (by omega)
 have cQ:∀ t,(t=s.root∨∃ x∈s.types,t=x.2)->t.wt<=1099511627776:=fun t ht=>by
  rcases ht with rfl | ⟨x,hx,rfl⟩
  ·omega
  ·have:=iq hx;omega
 have adQ:=fun lc aJ=>I9 s lc aJ 0 (by omega) (by omega) (by omega) cQ;have adR:=fun (X:Lx) (hX:X.OK) (aJ:List Nat) (hT:iT (tL s) aJ) (lS:aJ.length<=1099511627776) (m:Int)=>Nl s X.pd (I8 s aJ (iV X.af (dr X.af X.aJ) X.rows X.js)) m (by omega) 49 Yz (knT X (tL s)) (fun t ht=>yo hX s aJ (.pt (iV X.af (dr X.af X.aJ) X.rows X.js) 0) (.v (.slice none 0 0)) (.v (.int .i64 0)) (.v (.slice none 0 0)) m hT lS t.wt t (aR _) (cQ t ht));have Zk:(fj s).1=0->s.types.length<=64:=fun h=>by grind [fj]
 have hLx:=fun d h hd=>@UZ s d h hd (by omega);have Xh:=fun (lat:DV) (aJ:List Nat) (a b c e0:DV) (m:Int)=>I7 s lat aJ a b c e0 m;have Ru:=fun (lc:List DV) (aJ:List Nat) (m:Int)=>F7 s lc aJ m;have cJ:=fun (X:Lx) (hX:X.OK) (aJ:List Nat) (m:Int) (hT:iT (tL s) aJ) (lS:aJ.length<=1099511627776) (t:Ty) (ht:t.wt<=1099511627776)=>Bd hX s aJ m hT lS t.wt t (aR _) ht;refine eG 85 [.tmp 2,.cell 3 44] func11 rfl ntmps11 rfl fun _ _ _ _=>?_;generalize hS:s=S at *;obtain ⟨ae,order,types,⟨rh,rp⟩⟩:=s;subst hS;refine cE en45 rfl Qh ax (fun r hr=>?_);by_cases hL:(latF ae order).1≠0
 ·have hL':=hL;rw [aj (show (latF (Sch.mk ae order types (.mk rh rp)).ae (Sch.mk ae order types (.mk rh rp)).order).1≠0 from hL)] at hF;unfold I0 at hr;rw [aj (show (latF (Sch.mk ae order types (.mk rh rp)).ae (Sch.mk ae order types (.mk rh rp)).order).1≠0 from hL)] at hr;subst hr;refine br ?_ ?_<;>intro h
  ·refine dS ?_;exact ⟨_,ax,oJ (os:=[]) (tk:=[]) hF hL⟩
  ·exfalso;simp at h;exact hL h
 unfold I0 at hr;rw [ai (show ¬ (latF (Sch.mk ae order types (.mk rh rp)).ae (Sch.mk ae order types (.mk rh rp)).order).1≠0 from hL)] at hF hr;obtain ⟨d,hd,rfl⟩:=hr;have hL0:(latF ae order).1=0:=sU hL;obtain ⟨aJ,js,hX,rfl⟩:=hLx d hL0 hd;generalize Zl:dR ⟨ae,order,types,.mk rh rp⟩ aJ js=X at hX;refine br (fun h=>?_) (fun _=>?_)
 ·exfalso;simp at h;exact hL h
 refine CallG.adI 0 4 rfl rfl rfl rfl (CallG.adI 1 3 rfl rfl rfl rfl ?_);refine gf 2 0 en46 rfl rfl rfl iP iP (vC (iV X.af (dr X.af X.aJ) X.rows X.js)) (fun r ir cC hΦ h1 h2=>?_);obtain ⟨rfl,MS⟩:=hΦ;have h2:=List.eq_nil_of_length_eq_zero h2;subst h2;by_cases LA:(fj ⟨ae,order,types,.mk rh rp⟩).1≠0
 ·rw [aj LA] at hF
  obtain ⟨a,b,rfl⟩:∃ a b,ir=[a,b]:=by
   match ir,h1 with
   | [a,b],_=>exact ⟨a,b,rfl⟩
  refine br ?_ ?_<;>intro h
  ·refine dS ?_;exact ⟨_,ax,oJ (os:=[]) (tk:=[]) hF LA⟩
  ·exfalso;simp at h;exact LA h
 rw [ai LA] at hF;have adS:(fj ⟨ae,order,types,.mk rh rp⟩).1=0:=sU LA;have Rw:=Zk adS;obtain ⟨lG,hT,lS,rfl⟩:=MS adS;refine br (fun h=>?_) (fun _=>?_)
 ·exfalso;simp at h;exact LA h
 refine gf 2 0 abI rfl rfl rfl iP iP (adQ (iV X.af (dr X.af X.aJ) X.rows X.js) lG) (fun r ir cC hΦ h1 h2=>?_);obtain ⟨rfl,rfl⟩:=hΦ;have h2:=List.eq_nil_of_length_eq_zero h2;subst h2;by_cases hR:(eaR (.mk rh rp) types 0).1.1≠0
 ·rw [aj (show (eaR (Sch.mk ae order types (.mk rh rp)).root (Sch.mk ae order types (.mk rh rp)).types 0).1.1≠0 from hR)] at hF;refine br ?_ ?_<;>intro h
  ·refine dS ?_;exact ⟨_,ax,oJ (os:=[]) (tk:=[]) hF hR⟩
  ·exfalso;simp at h;exact hR h
 rw [ai (show ¬ (eaR (Sch.mk ae order types (.mk rh rp)).root (Sch.mk ae order types (.mk rh rp)).types 0).1.1≠0 from hR)] at hF;have Zm:(eaR (.mk rh rp) types 0).1.1=0:=sU hR;refine br (fun h=>?_) (fun _=>?_)
 ·exfalso;simp at h;exact hR h
 have hea:=adR X hX lG hT (by have:types.length<=64:=Rw;have:lG.length<=types.length:=lS;omega) (eaR (.mk rh rp) types 0).2;have Zn:∀ t,knT X (tL ⟨ae,order,types,.mk rh rp⟩) t=mC ⟨ae,order,types,.mk rh rp⟩ t:=fun t=>by rw [<- Zl];exact Zi _ _ _ t
 have hfeq:eaL (knT X (tL ⟨ae,order,types,.mk rh rp⟩)) (knT X (tL ⟨ae,order,types,.mk rh rp⟩) (.mk rh rp)) types=eaL (mC ⟨ae,order,types,.mk rh rp⟩) (mC ⟨ae,order,types,.mk rh rp⟩ (.mk rh rp)) types:=by
  rw [show knT X (tL ⟨ae,order,types,.mk rh rp⟩)=mC ⟨ae,order,types,.mk rh rp⟩ from funext Zn]
 refine Ls abI hea ax rfl rfl ?_;by_cases hK:(eaL (mC ⟨ae,order,types,.mk rh rp⟩) (mC ⟨ae,order,types,.mk rh rp⟩ (.mk rh rp)) types).1≠0
 ·rw [aj (show (eaL (mC ⟨ae,order,types,.mk rh rp⟩) (mC ⟨ae,order,types,.mk rh rp⟩ (Sch.mk ae order types (.mk rh rp)).root) (Sch.mk ae order types (.mk rh rp)).types).1≠0 from hK)] at hF;refine br ?_ ?_<;>intro h
  ·refine dS ?_;refine ⟨.tup [.v (.pointer none),(eaL (knT X (tL ⟨ae,order,types,.mk rh rp⟩)) (knT X (tL ⟨ae,order,types,.mk rh rp⟩) (.mk rh rp)) types).d],ax,?_⟩;rw [hfeq];exact oJ (os:=[]) (tk:=[]) hF hK
  ·grind
 rw [ai (show ¬ (eaL (mC ⟨ae,order,types,.mk rh rp⟩) (mC ⟨ae,order,types,.mk rh rp⟩ (Sch.mk ae order types (.mk rh rp)).root) (Sch.mk ae order types (.mk rh rp)).types).1≠0 from hK)] at hF;have hK0:(eaL (mC ⟨ae,order,types,.mk rh rp⟩) (mC ⟨ae,order,types,.mk rh rp⟩ (.mk rh rp)) types).1=0:=sU hK;refine br (fun h=>?_) (fun _=>?_)
 ·grind
 have mA:wdsWt ae + prsWt order + nmsWt types + (Ty.mk rh rp).wt<=1099511627776:=hw;have hnmw:nmsWt types<=1099511627776:=by omega
 obtain ⟨Xi,jz⟩:=Rq hK0;have hkr':(knT X (tL ⟨ae,order,types,.mk rh rp⟩) (.mk rh rp)).1=0:=by rw [Zn];exact Xi
 have adT:∀ x∈types,(knT X (tL ⟨ae,order,types,.mk rh rp⟩) x.2).1=0:=fun x hx=>by rw [Zn];exact jz x hx
 have adU:∀ x∈types,vK ⟨ae,order,types,.mk rh rp⟩ x.2=true:=fun x hx=>C5 (adT x hx);have U2:lG.length<=1099511627776:=by have:types.length<=64:=Rw;have:lG.length<=types.length:=lS;omega
 refine Ls en50 (Xh X.pd lG X.pd (.v (.slice none 0 0)) (.v (.int .i64 0)) (.v (.slice none 0 0)) (eaR (.mk rh rp) types 0).2 hT U2 Rw adU) ax rfl rfl ?_;by_cases hO:(loopF ⟨ae,order,types,.mk rh rp⟩).1≠0
 ·refine br ?_ ?_<;>intro h
  ·refine dS ?_;exact ⟨_,ax,oJ (os:=[]) (tk:=[]) hF hO⟩
  ·exfalso;simp at h;exact hO h
 have hO0:(loopF ⟨ae,order,types,.mk rh rp⟩).1=0:=sU hO;have hF0:(lF ⟨ae,order,types,.mk rh rp⟩).1=0:=by rw [hF];exact hO0
 refine br (fun h=>?_) (fun _=>?_)
 ·exfalso;simp at h;exact hO h
 refine gf 2 0 en51 rfl rfl rfl iP iP (Ru (iV X.af (dr X.af X.aJ) X.rows X.js) lG (eaR (.mk rh rp) types 0).2 hT U2 Rw adU hnmw (F9 hO0)) (fun r ir cC hΦ h1 h2=>?_);subst hΦ;have h2:=List.eq_nil_of_length_eq_zero h2;subst h2;clear vC adQ adR Xh Ru hea Qh;have hN:(dNms types).length=types.length:=ej types;obtain ⟨HX,Fl,hcm,adV⟩:=Rr (Int.le_refl 0) Zm;generalize (eaR (.mk rh rp) types 0).2=m at hcm adV ⊢
 refine aT (fun j st=>∃ (e n:Nat) (base:List DV) (N:List Nd),st=Rt ⟨ae,order,types,.mk rh rp⟩ lG (iV X.af (dr X.af X.aJ) X.rows X.js) m (loopF ⟨ae,order,types,.mk rh rp⟩).1 (loopF ⟨ae,order,types,.mk rh rp⟩).2 n base e/\e<=types.length/\n=N.length/\base=(dK N).flatten/\N ++ ndsAll (ju ⟨ae,order,types,.mk rh rp⟩) ⟨ae,order,types,.mk rh rp⟩ (types.drop e) n=sa ⟨ae,order,types,.mk rh rp⟩/\j=types.length - e) types.length
  (Rt ⟨ae,order,types,.mk rh rp⟩ lG (iV X.af (dr X.af X.aJ) X.rows X.js) m (loopF ⟨ae,order,types,.mk rh rp⟩).1 (loopF ⟨ae,order,types,.mk rh rp⟩).2 0 [] 0) (dq 5 ⟨0,91,7,some []⟩ rfl rfl rfl pV rfl rfl j8) ⟨0,0,[],[],rfl,by omega,rfl,rfl,rfl,by omega⟩ ?_
 rintro j st ⟨e,n,base,N,rfl,he,hn,X3,hNN,rfl⟩;have hl64':types.length<=64:=Rw;have Jf:X.lev=ju ⟨ae,order,types,.mk rh rp⟩:=by rw [<- Zl];all_goals rfl
 have htot:(sa ⟨ae,order,types,.mk rh rp⟩).length + (Ty.mk rh rp).nn<=512:=by
  have h1:=yu types;have h2:=(Ty.mk rh rp).ie;have h3:(sa ⟨ae,order,types,.mk rh rp⟩).length=(types.map fun x=>x.2.nn).sum:=yt _ _ _ _;omega
 have hbl:base.length=n * 7:=by rw [X3,hn,Bi]
 have hNl:n + (ndsAll (ju ⟨ae,order,types,.mk rh rp⟩) ⟨ae,order,types,.mk rh rp⟩ (types.drop e) n).length=(sa ⟨ae,order,types,.mk rh rp⟩).length:=by rw [<- hNN,List.length_append,hn]
 refine br ?_ ?_<;>intro hL
 ·have aw:e < types.length:=by have:=hL;simp [hN] at this;exact this
  obtain ⟨x,hx⟩:=gX aw;have hxm:=mG hx;rw [drop_cons hx,ndsAll] at hNN hNl;rw [List.length_append] at hNl;have gR:=kL (ju ⟨ae,order,types,.mk rh rp⟩) ⟨ae,order,types,.mk rh rp⟩ x.2 n;have I6:=cJ X hX lG m hT U2 x.2 (cQ x.2 (.inr ⟨x,hxm,rfl⟩)) (adT x hxm) n base (by omega) hbl;rw [Jf] at I6;obtain ⟨xw,⟨xh,xp⟩⟩:=x;refine iX (dNms_get hx) ?_;refine gf 2 1 Um rfl rfl rfl iP iP I6 (fun r ir cC hΦ h1 h2=>?_);obtain ⟨rfl,rfl,rfl⟩:=hΦ;refine ⟨Rt ⟨ae,order,types,.mk rh rp⟩ lG (iV X.af (dr X.af X.aJ) X.rows X.js) m (loopF ⟨ae,order,types,.mk rh rp⟩).1 (loopF ⟨ae,order,types,.mk rh rp⟩).2 (n + (ndsT (ju ⟨ae,order,types,.mk rh rp⟩) ⟨ae,order,types,.mk rh rp⟩ (.mk xh xp) n).length) (base ++ (dK (ndsT (ju ⟨ae,order,types,.mk rh rp⟩) ⟨ae,order,types,.mk rh rp⟩ (.mk xh xp) n)).flatten) (e + 1),(dz 5 (pX (aX aw (by omega))) (dH (aX aw (by omega)))),types.length - (e + 1),by omega,e + 1,_,_,N ++ ndsT (ju ⟨ae,order,types,.mk rh rp⟩) ⟨ae,order,types,.mk rh rp⟩ (.mk xh xp) n,rfl,by omega,by rw [List.length_append,hn],by rw [X3];simp [dK],?_,rfl⟩;rw [List.append_assoc,gR];exact hNN
 have hge:e=types.length:=sW hN hL;subst hge;rw [List.drop_length,ndsAll,List.append_nil] at hNN;rw [List.drop_length,ndsAll,List.length_nil,Nat.add_zero] at hNl;have TA:=cJ X hX lG m hT U2 (.mk rh rp) (by omega) hkr' n base (by omega) hbl;rw [Jf] at TA;intro E a w hr;have mP:=kz hr;obtain ⟨b0,ty0,MB,iC,hw0,H7⟩:=mP.env.ey 0 _ rfl;obtain ⟨b1,ty1,arr1,fx,hw1,Il⟩:=mP.env.ey 1 _ rfl;obtain ⟨v13,hv13,hp13⟩:=RvL.get (i:=13) (d:=.loc 1 0) H7.1 rfl;have adX:v13 = .pointer (some ⟨b1,0,none⟩):=by grind [Rv]
 subst adX
 have n8:w.drew.cell? ⟨b0,13,none⟩=some (.pointer (some ⟨b1,0,none⟩)):=by
  rw [cL hw0];simpa using hv13
 have Yp:=US mP.env [0,1,2,3];generalize AD:maskL [0,1,2,3] 0 _=bxm at Yp;have hbmi:∀ (i:Nat) cs,bxm[i]? = some cs->cs ≠ []->2<=i:=fun i cs hi aY=>by grind [maskL]
 refine jC (C:=fun w'=>CC E bxm w.drew w' /\ w'.cell? ⟨b0,13,none⟩=some (.pointer (some ⟨b1,0,none⟩))) (W:=fun i=>Nat.beq i 10) (Q:=fun a w=>kq _ _ .normal a w) mo (by decide +kernel) (fun _ _ h=>h) ⟨⟨fun _ _ _ _ _ _=>rfl,mP.env.sub⟩,n8⟩ ?_;show Go.Proofs.YtgjagnmeonoehaaGreat.Dv.runT _ _ _ _ _ [0,1,2,3,4,5,6,7,8,9,10] _ _;refine fk mP rfl rfl rfl rfl rfl rfl (fun a0 h0=>?_);refine fk h0 rfl rfl rfl rfl rfl rfl (fun a1 h1=>?_);refine fk h1 rfl rfl rfl rfl rfl rfl (fun a2 h2=>?_);refine UU h2 rfl fx rfl rfl iC rfl rfl (fun w' h=>h.2) ⟨⟨fun _ _ _ _ _ _=>rfl,mP.env.sub⟩,n8⟩ rfl rfl (fun a3 h3=>?_);refine fk h3 rfl rfl rfl rfl rfl rfl (fun a4 h4=>?_);refine fk h4 rfl rfl rfl rfl rfl rfl (fun a5 h5=>?_);refine UT h5 rfl (bx:=bxm) (UR h5 Yp (fun w' h=>h.1)) ⟨⟨fun _ _ _ _ _ _=>rfl,mP.env.sub⟩,n8⟩ rfl rfl (by rw [<- AD];rfl) rfl (fun a6 h6=>?_);refine UW h6 rfl rfl rfl rfl rfl rfl Um 2 1 rfl rfl iP iP TA rfl rfl ?_;intro v r ir cC E' w' hΦ _ _ bY CE hx hβ hh;obtain ⟨rfl,rfl,rfl⟩:=hΦ;refine ⟨fun _ hC=>⟨⟨fun i b cs hb hcs aY=>?_,fun x v hxv=>bY.env.sub x v (hx.c x v hxv)⟩,?_⟩,?_⟩
 ·exact hh i b (hbmi i cs hcs aY) hb
 ·obtain ⟨b0',ty0',arr0',Zo,hw0',hc0'⟩:=bY.env.ey 0 _ rfl;rw [hβ,iC] at Zo;simp only [oI] at Zo;subst Zo;obtain ⟨u13,hu13,adY⟩:=RvL.get (i:=13) (d:=.loc 1 0) hc0'.1 rfl;unfold Rv at adY;obtain ⟨b,hb,rfl⟩:=adY;rw [hβ,fx] at hb;simp only [oI] at hb;subst hb;rw [cL hw0'];simpa using hu13
 have h7:=bc (dst:=some 77) bY rfl _ v CE;have hrN:(sa ⟨ae,order,types,.mk rh rp⟩).length=n:=by rw [<- hNN,hn]
 have qp:base ++ (dK (ndsT (ju ⟨ae,order,types,.mk rh rp⟩) ⟨ae,order,types,.mk rh rp⟩ (.mk rh rp) n)).flatten=(dK (aQ ⟨ae,order,types,.mk rh rp⟩)).flatten:=by grind [aQ,dK]
 have adZ:(dK (aQ ⟨ae,order,types,.mk rh rp⟩)).length=n + (ndsT (ju ⟨ae,order,types,.mk rh rp⟩) ⟨ae,order,types,.mk rh rp⟩ (.mk rh rp) n).length:=by
  unfold aQ;rw [hrN];simp [dK,hrN]
 obtain ⟨E3,h8⟩:=UX h7 1 1 0 (ns:=dK (aQ ⟨ae,order,types,.mk rh rp⟩)) (congrArg (fun b=>some (Ja (n + (ndsT (ju ⟨ae,order,types,.mk rh rp⟩) ⟨ae,order,types,.mk rh rp⟩ (.mk rh rp) n).length) b)) qp) (fun x hx=>by
  simp only [dK,List.mem_map] at hx;obtain ⟨y,_,rfl⟩:=hx
  rfl) adZ rfl rfl List.length_replicate
 refine fk h8 rfl rfl rfl rfl rfl rfl (fun a8 h9=>?_);refine fk h9 rfl rfl rfl rfl rfl rfl (fun a9 qZ=>?_);refine Nr qZ rfl rfl rfl rfl rfl rfl ?_;refine ⟨.tup [.pt [X.pd,.sl 7 (dK (aQ ⟨ae,order,types,.mk rh rp⟩)) none,.v (.int .i64 (oH ⟨ae,order,types,.mk rh rp⟩ (.mk rh rp) n)),.pt (dr (tL ⟨ae,order,types,.mk rh rp⟩) lG) 0,.sl 1 (dInts (namedL ⟨ae,order,types,.mk rh rp⟩)) none] 0,Ft.d (0,0)],ax,U0 (os:=[]) (tk:=[]) hF0 ⟨aJ,lG,js,by rw [Zl];exact hX,hT,lS,?_⟩⟩;rw [Xg,Zl,dF,hrN]
theorem U3 (es:List (List DV)) (hl:es.length<=1099511627776):Ev prog 95 [.sl 1 es none] [] [] (fun r _ _=>r = .sl 1 es none∨(es=[]/\r = .v (.slice none 0 0))):=by
 refine eG 8 [.tmp 2] func95 rfl ntmps95 rfl fun _ _ _ _=>?_;refine qJ ⟨_,rfl⟩ rfl rfl rfl rfl (fun b hb=>?_);refine br ?_ ?_<;>intro h
 ·have h:b=true:=h;have he:es=[]:=Classical.byContradiction fun hn=>by rw [hb hn] at h;cases h
  subst he;exact Or.inr ⟨rfl,rfl⟩
 ·refine l7 rfl rfl rfl rfl (hk:=?_);refine ⟨rfl,⟨by simp [maxLen];omega,by simp;omega⟩,?_⟩;exact ⟨_,ax,Or.inl rfl⟩
theorem U4 (es:List (List DV)) (hl:es.length<=1099511627776):Ev prog 96 [.sl 10 es none] [] [] (fun r _ _=>r = .sl 10 es none∨(es=[]/\r = .v (.slice none 0 0))):=by
 refine eG 8 [.tmp 2] func96 rfl ntmps96 rfl fun _ _ _ _=>?_;refine qJ ⟨_,rfl⟩ rfl rfl rfl rfl (fun b hb=>?_);refine br ?_ ?_<;>intro h
 ·have h:b=true:=h;have he:es=[]:=Classical.byContradiction fun hn=>by rw [hb hn] at h;cases h
  subst he;exact Or.inr ⟨rfl,rfl⟩
 ·refine l7 rfl rfl rfl rfl (hk:=?_);refine ⟨rfl,⟨by simp [maxLen];omega,by simp;omega⟩,?_⟩;exact ⟨_,ax,Or.inl rfl⟩
def plD (lc:List DV) (C4:List Nd) (root:Int) (L:List ByteArray) (aJ:List Nat) (named:List Nat):DV:=.pt [.pt lc 0,.sl 7 (dK C4) none,.v (.int .i64 root),.pt (dr L aJ) 0,.sl 1 (dInts named) none] 0
theorem oK (l:List Nd):(dK l).length=l.length:=by simp [dK]
theorem oL {l:List Nd} {i:Nat} {n:Nd} (h:l[i]? = some n):(dK l)[i]? = some (kg n):=by simp [dK,h]
section
variable (lc:List DV) (C4:List Nd) (root:Int) (L:List ByteArray) (aJ:List Nat) (named:List Nat)
theorem tV:EvP prog 94 [plD lc C4 root L aJ named] (.v (.int .i64 C4.length)):=by
 refine eG 10 [.tmp 2] func94 rfl ntmps94 rfl fun _ _ _ _=>?_;refine (Ct ?_:);rw [oK]
theorem Jg:EvP prog 37 [plD lc C4 root L aJ named] (.v (.int .i64 root)):=by
 refine eG 9 [.tmp 2] func37 rfl ntmps37 rfl fun _ _ _ _=>?_;exact (rfl:_=_)
theorem Nt:EvP prog 72 [plD lc C4 root L aJ named] (.pt lc 0):=by
 refine eG 9 [.tmp 2] func72 rfl ntmps72 rfl fun _ _ _ _=>?_;exact ⟨_,ax,rfl⟩
theorem Jh (i:Nat) (n:Nd) (h:C4[i]? = some n) (hn:n.af.length<=1099511627776) (he:n.az.length<=1099511627776) :
  EvP prog 36 [plD lc C4 root L aJ named,.v (.int .i64 i)] (.tup [.agg (kg n),.v (.bool true)]):=by
 have aw:=(gS h).1;have hlen:=tV lc C4 root L aJ named;have Il:=U3 (fq n.af) (by rw [cH];exact hn);have nV:=U4 (iM n.az) (by rw [cW];exact he);refine eG 32 [.cell 4 91,.tmp 5] func36 rfl ntmps36 rfl fun _ _ _ _=>?_;refine cP abQ hlen ?_;refine br ?_ ?_<;>intro g
 ·exfalso;simp [pickB] at g;omega
 refine iX (oL h) ?_;refine dS ?_;refine lh en95 rfl Il ax (fun r1 hr1=>?_);rcases hr1 with rfl | ⟨h1,rfl⟩
 ·refine lh abR rfl nV ax (fun r2 nO=>?_);rcases nO with rfl | ⟨h2,rfl⟩
  ·exact ⟨.tup [.agg (kg n),.v (.bool true)],ax,rfl⟩
  ·exact ⟨.tup [.agg (kg n),.v (.bool true)],(by repeat' (first | exact rfl | exact trivial | exact Or.inr (Or.inl ⟨_,rfl⟩) | exact Or.inr ⟨_,rfl⟩ | exact Or.inl ⟨rfl,rfl⟩ | exact Or.inl rfl | refine Or.inr ⟨_,_,rfl,Nat.zero_le _,rfl,?_⟩ | refine ⟨_,_,rfl,?_,?_⟩ | refine ⟨_,rfl,?_⟩ | exact Or.inl ⟨h2,rfl⟩ | refine Or.inr (Or.inr (Or.inr ⟨_,_,rfl,?_⟩)) | exact Or.inl rfl | refine Or.inr ?_)),rfl⟩
 ·refine lh abR rfl nV ax (fun r2 nO=>?_);rcases nO with rfl | ⟨h2,rfl⟩
  ·exact ⟨.tup [.agg (kg n),.v (.bool true)],(by repeat' (first | exact rfl | exact trivial | exact Or.inr (Or.inl ⟨_,rfl⟩) | exact Or.inr ⟨_,rfl⟩ | exact Or.inl ⟨rfl,rfl⟩ | exact Or.inl rfl | refine Or.inr ⟨_,_,rfl,Nat.zero_le _,rfl,?_⟩ | refine ⟨_,_,rfl,?_,?_⟩ | refine ⟨_,rfl,?_⟩ | exact Or.inl ⟨h1,rfl⟩ | refine Or.inr (Or.inr (Or.inr ⟨_,_,rfl,?_⟩)) | exact Or.inl rfl | refine Or.inr ?_)),rfl⟩
  ·exact ⟨.tup [.agg (kg n),.v (.bool true)],(by repeat' (first | exact rfl | exact trivial | exact Or.inr (Or.inl ⟨_,rfl⟩) | exact Or.inr ⟨_,rfl⟩ | exact Or.inl ⟨rfl,rfl⟩ | exact Or.inl rfl | refine Or.inr ⟨_,_,rfl,Nat.zero_le _,rfl,?_⟩ | refine ⟨_,_,rfl,?_,?_⟩ | refine ⟨_,rfl,?_⟩ | exact Or.inl ⟨h1,rfl⟩ | exact Or.inl ⟨h2,rfl⟩ | refine Or.inr (Or.inr (Or.inr ⟨_,_,rfl,?_⟩)) | exact Or.inl rfl | refine Or.inr ?_)),rfl⟩
theorem Ji (i:Int) (h:i < 0∨C4.length<=i) :
  EvP prog 36 [plD lc C4 root L aJ named,.v (.int .i64 i)] (.tup [.agg [.v (.int .i64 0),.v (.int .i64 0),.v (.int .i64 0),.v (.int .i64 0),.v (.int .i64 0),.v (.slice none 0 0),.v (.slice none 0 0)],.v (.bool false)]):=by
 have hlen:=tV lc C4 root L aJ named;refine eG 32 [.cell 4 91,.tmp 5] func36 rfl ntmps36 rfl fun _ _ _ _=>?_;refine br ?_ ?_<;>intro g
 ·refine cP abQ hlen ?_;refine br ?_ ?_<;>intro g2
  ·exact ⟨_,ax,rfl⟩
  ·exfalso;simp at g;simp [pickB,g] at g2;omega
 ·exact ⟨_,ax,rfl⟩
end
abbrev wi (s:Sch) (n d k q:Int) (e:Nat):St:=
 ⟨[aF 1 0,ay 3 n,ay 4 d,ay 5 e],[ei s],[]⟩
theorem C6 (s:Sch) (cQ:s.wt<=1099511627776):Ev prog 43 [.agg (ei s)] [] [] (fun d _ _=>∃ b:Bool,d = .v (.bool b)):=by
 have h1:=bM s.ae;have h2:=jo s.order;have h3:=ke s.types;simp only [Sch.wt] at cQ;have dy:=lk s.root.wt s.root (aR _) (by omega);obtain ⟨ae,order,types,⟨h,ps⟩⟩:=s;simp only at h1 h2 h3 cQ dy;refine eG 60 [.tmp 2] func43 rfl ntmps43 rfl fun _ _ _ _=>?_;refine br ?_ ?_<;>intro _
 ·exact ⟨true,rfl⟩
 refine cP K2 dy ?_;refine aT (fun j st=>∃ (e:Nat) (n d:Int),st=wi ⟨ae,order,types,.mk h ps⟩ n d 0 0 e/\e<=types.length/\j=types.length - e) types.length (wi ⟨ae,order,types,.mk h ps⟩ (Ty.mk h ps).cnt (Ty.mk h ps).deep 0 0 0) (bG wB) ⟨0,_,_,rfl,by omega,by omega⟩ ?_;rintro j st ⟨e,n,d,rfl,he,rfl⟩;refine br ?_ ?_<;>intro hL
 ·have aw:e < types.length:=by have:=hL;simp [ej] at this;exact this
  obtain ⟨w,hw⟩:=gX aw;have Fl:=iq (mG hw);have hs:=lk w.2.wt w.2 (aR _) (by omega);obtain ⟨w,u,us⟩:=w;simp only at hs;refine iX (dNms_get hw) ?_;refine cP K2 hs ?_;refine br ?_ ?_<;>intro _
  ·exact ⟨wi ⟨ae,order,types,.mk h ps⟩ _ _ 0 0 (e + 1),(bG (dH (aX aw (by omega)))),types.length - (e + 1),by omega,e + 1,_,_,rfl,by omega,rfl⟩
  ·exact ⟨wi ⟨ae,order,types,.mk h ps⟩ _ _ 0 0 (e + 1),(bG (dH (aX aw (by omega)))),types.length - (e + 1),by omega,e + 1,_,_,rfl,by omega,rfl⟩
 exact ⟨_,rfl⟩
def samePrs:List (Wd × Wd)->List (Wd × Wd)->Bool
 | [],[]=>true
 | x :: r,y :: s=>(decide (x.1.s=y.1.s) && decide (x.2.s=y.2.s)) && samePrs r s
 | _,_=>false
def sameNms:List (Wd × Ty)->List (Wd × Ty)->Bool
 | [],[]=>true
 | x :: r,y :: s=>(decide (x.1.s=y.1.s) && sameTy x.2 y.2) && sameNms r s
 | _,_=>false
def K0 (a b:Sch):Bool:=sameWds a.ae b.ae && samePrs a.order b.order && sameTy a.root b.root && sameNms a.types b.types
def cB (r:List Bool):List DV:=r.map fun b=>DV.v (.bool b)
def yw (r:List Bool):List (List DV):=r.map fun b=>[DV.v (.bool b)]
def dL (m:List (List Bool)):List (List DV):=m.map fun r=>[DV.sl 1 (yw r) none]
theorem tW (r:List Bool):(cB r).length=r.length:=by simp [cB]
theorem wj (r:List Bool):(yw r).length=r.length:=by simp [yw]
theorem yx (m:List (List Bool)):(dL m).length=m.length:=by simp [dL]
theorem Rx {r:List Bool} {i:Nat} {b:Bool} (h:r[i]? = some b):(cB r)[i]? = some (DV.v (.bool b)):=by simp [cB,h]
theorem C7 (r:List Bool) (i:Nat) (b:Bool):(cB r).set i (DV.v (.bool b))=cB (r.set i b):=by simp [cB,List.map_set]
theorem LD {r:List Bool} {i:Nat} {b:Bool} (h:r[i]? = some b):(yw r)[i]? = some [DV.v (.bool b)]:=by simp [yw,h]
theorem Ry {m:List (List Bool)} {i:Nat} {r:List Bool} (h:m[i]? = some r):(dL m)[i]? = some [DV.sl 1 (yw r) none]:=by simp [dL,h]
theorem sb (r:List Bool):(yw r).flatten=cB r:=by
 induction r with
 | nil=>rfl
 | cons b r ih=>simp only [yw,cB,List.map_cons,List.flatten_cons] at ih ⊢;rw [ih];all_goals rfl
theorem Nu (n:Nat):(List.replicate n (vL [Value.bool false])).flatten=cB (List.replicate n false):=by
 induction n with
 | zero=>rfl
 | succ n ih=>simp only [List.replicate_succ,List.flatten_cons,ih];rfl
theorem cO {n m:Nat} {tk:List TkE} {l:List DV} {r:List Bool} (h:l=cB r):WeL n m tk l (cB r):=by
 subst h;refine xY _ fun x hx=>?_;obtain ⟨z,_,rfl⟩:=List.mem_map.1 hx;exact ⟨_,rfl⟩
theorem Xj {bx:List (List DV)} {N n0 m0 n:Nat} {r:List Bool} (hr:r.length=n) (hN:N<=0) (hb:bx[0]? = some (cB r)):Cc bx N n0 m0 (.sl 1 (yw r) none) (.ms 0 1 0 n n):=by
 simp only [Cc];refine Or.inr (Or.inr (Or.inl ⟨0,0,n,_,by rw [wj,hr],hN,hb,?_,?_,?_⟩))
 ·grind [sb,tW,wj]
 ·grind [yw]
 ·intro x hx;rw [sb] at hx;obtain ⟨_,_,rfl⟩:=List.mem_map.1 hx;exact .inl ⟨_,rfl⟩
def gw (n:Nat) (l:List (Nat × Nat)):List (List Bool):=(List.range n).map (vH n l)
theorem Jj (n:Nat) (l:List (Nat × Nat)):(gw n l).length=n:=by simp [gw]
theorem Jk {n a:Nat} (l:List (Nat × Nat)) (h:a < n):(gw n l)[a]? = some (vH n l a):=by simp [gw,List.getElem?_range h]
theorem Nv {n:Nat} {l:List (Nat × Nat)} (h:tF n l):gw n l=eB n (fo n l):=by
 unfold gw eB;exact List.map_congr_left fun a ha=>UF h (List.mem_range.1 ha)
def jY (l:List (Nat × Nat)) (r:List Bool) (e:Nat):List Bool:=(l.take e).foldl iL r
theorem Jl (l:List (Nat × Nat)) (r:List Bool) (e:Nat):(jY l r e).length=r.length:=qC (l.take e) r
theorem Ga {l:List (Nat × Nat)} {r:List Bool} {e:Nat} {p:Nat × Nat} (h:l[e]? = some p):jY l r (e + 1)=iL (jY l r e) p:=by
 unfold jY;rw [List.take_add_one,h];simp
abbrev ldSt (n:Nat) (l:List (Nat × Nat)) (q e:Nat):St:=
 ⟨[ay 0 n,bi 1 2 (nb l),(5,⟨[],.sl 1 (dL ((gw n l).take e)) (some 0)⟩),ay 6 e],[],[⟨q,186,1,none⟩]⟩
abbrev ad1 (n:Nat) (l:List (Nat × Nat)) (q e:Nat) (r:List Bool) (k:Nat):St:=
 ⟨[ay 0 n,bi 1 2 (nb l),(5,⟨[],.sl 1 (dL ((gw n l).take e)) (some 0)⟩),ay 6 e,(7,⟨[],.ms 0 1 0 n n⟩),ay 8 k],[cB r],[⟨q,186,1,none⟩]⟩
abbrev ad2 (n:Nat) (l:List (Nat × Nat)) (q e:Nat) (r:List Bool) (k i:Nat):St:=
 ⟨[ay 0 n,bi 1 2 (nb l),(5,⟨[],.sl 1 (dL ((gw n l).take e)) (some 0)⟩),ay 6 e,(7,⟨[],.ms 0 1 0 n n⟩),ay 8 k,ay 9 i],[cB r],[⟨q,186,1,none⟩]⟩
abbrev ad3 (n:Nat) (l:List (Nat × Nat)) (q e:Nat) (r:List Bool):St:=
 ⟨[ay 0 n,bi 1 2 (nb l),ay 6 e,(46,⟨[],.sl 1 (dL ((gw n l).take e)) (some 0)⟩),bi 47 1 (yw r)],[],[⟨q,186,1,none⟩]⟩
theorem Jm (n:Nat) (hn:n<=64) (l:List (Nat × Nat)) (hP:tF n l) (hb:l.length<=1099511627776) :
  EvP prog 120 [.v (.int .i64 n),.sl 2 (nb l) none] (.sl 1 (dL (gw n l)) none):=by
 have hNl:=iJ l;have hML:=Jj n l;refine eG 51 [.tmp 4] func120 rfl ntmps120 rfl fun _ _ _ _=>?_;refine lJ (fun e=>ldSt n l e e) n (fF ⟨0,186,1,none⟩ rfl ⟨_,rfl⟩ rfl wA rfl rfl j8) ?_;intro e he;refine br ?_ ?_<;>intro hL
 ·have aw:e < n:=by have:=hL;simp at this;exact this
  have hr0l:((List.replicate n false).set e true).length=n:=by simp
  refine ⟨⟨rfl,by omega,by omega,by omega⟩,?_⟩;refine ⟨⟨by omega,by omega⟩,?_⟩;refine ⟨by rw [Nu,tW,List.length_replicate];omega,?_⟩
  have iC:((List.replicate (n:Int).toNat (vL [Value.bool false])).flatten).set (0 + (e:Int).toNat * 1) (DV.v (.bool true))=cB (dt l ((List.replicate n false).set e true) 0):=by
   rw [Nu,show 0 + (e:Int).toNat * 1=e by omega,show (n:Int).toNat=n by omega,C7];rfl
  refine lJ (fun k=>ad1 n l e e (dt l ((List.replicate n false).set e true) k) k) n (dz 1 (pX iC) (dH iC)) ?_;intro k hk;have fm:=fO l ((List.replicate n false).set e true) k;have zQ:=fi l ((List.replicate n false).set e true) k;refine br ?_ ?_<;>intro qb
  ·have jz:k < n:=by have:=qb;simp at this;exact this
   generalize dt l ((List.replicate n false).set e true) k=r at fm zQ ⊢;rw [hr0l] at fm;refine lJ (fun i=>ad2 n l e e (jY l r i) k i) l.length (dz 1 pV j8) ?_;intro i hi;have nW:=Jl l r i;refine br ?_ ?_<;>intro hL3
   ·have Xk:i < l.length:=by have:=hL3;simp [hNl] at this;exact this
    obtain ⟨p,hp⟩:∃ p,l[i]? = some p:=⟨_,gE Xk⟩;obtain ⟨Ug,Yr⟩:=hP p (mG hp);have Zp:=Ga (r:=r) hp;obtain ⟨b,fx⟩:∃ b,(jY l r i)[p.1]? = some b:=⟨_,gE (by omega)⟩;have OQ:(jY l r i).getD p.1 false=b:=by simp [eO,fx]
    rw [iL,OQ] at Zp;refine iX (xV hp) ?_;refine ⟨⟨by decide,by decide⟩,?_⟩;refine ⟨⟨by omega,by omega⟩,?_⟩;refine ⟨_,(show (cB (jY l r i))[0 + (p.1:Int).toNat * 1]? = some (.v (.bool b)) by rw [show 0 + (p.1:Int).toNat * 1=p.1 by omega];exact Rx fx),?_⟩;refine br ?_ ?_<;>intro g
    ·have g:b=true:=g;rw [aj g] at Zp;refine iX (xV hp) ?_;refine ⟨⟨by decide,by decide⟩,?_⟩;refine ⟨⟨by omega,by omega⟩,?_⟩;refine ⟨by rw [tW];omega,?_⟩;have eP:(cB (jY l r i)).set (0 + (p.2:Int).toNat * 1) (DV.v (.bool true))=cB (jY l r (i + 1)):=by grind [C7]
     exact rE ⟨_,by omega,i + 1,rfl,by omega,rfl⟩ (dz 1 (oc eP (aX Xk (by omega))) (gC eP (aX Xk (by omega))))
    ·have g:¬ b=true:=by rw [show b=false from g];decide
     rw [ai g] at Zp;exact rE ⟨_,by omega,i + 1,rfl,by omega,rfl⟩ (dz 1 (by repeat' (first | exact rfl | exact aA rfl | exact cO (by rw [Zp]) | exact aD (aX Xk (by omega)) | refine ⟨_,_,rfl,?_,?_⟩)) (by repeat' (first | exact trivial | exact aA rfl | exact cO (by rw [Zp]) | exact aD (aX Xk (by omega)) | refine ⟨⟨_,rfl,?_⟩,?_⟩)))
   ·have hge:i=l.length:=sW hNl hL3;subst hge;have Nx:jY l r l.length=dt l ((List.replicate n false).set e true) (k + 1):=by rw [zQ,jY,List.take_length];all_goals rfl
    exact rE ⟨_,by omega,k + 1,rfl,by omega,rfl⟩ (dz 1 (by repeat' (first | exact rfl | exact aA rfl | exact cO (by rw [Nx]) | exact aD (aX jz (by omega)) | refine ⟨_,_,rfl,?_,?_⟩)) (by repeat' (first | exact trivial | exact aA rfl | exact cO (by rw [Nx]) | exact aD (aX jz (by omega)) | refine ⟨⟨_,rfl,?_⟩,?_⟩)))
  ·have hge:k=n:=by have:=qb;simp at this;omega
   subst hge;have qp:dt l ((List.replicate k false).set e true) k=vH k l e:=rfl;rw [qp];have hrw:=rS k l e;refine HO.wk (.HS (st':=ad3 k l e e (vH k l e)) 0 rfl rfl rfl rfl ?_) rfl rfl ?_
   ·refine ⟨⟨_,rfl,?_⟩,⟨_,rfl,?_⟩,⟨_,rfl,?_⟩,⟨_,rfl,?_⟩,⟨_,rfl,Xj hrw (by omega) rfl⟩,trivial⟩
    ·simp only [Cc]
    ·grind [Cc]
    ·simp only [Cc]
    ·grind [Cc]
   ·have fA:(dL ((gw k l).take e)).length=e:=by rw [yx,zLenT,hML];omega
    have eK:dL ((gw k l).take e) ++ [[DV.sl 1 (yw (vH k l e)) none]]=dL ((gw k l).take (e + 1)):=by rw [List.take_add_one,Jk l aw];simp [dL]
    refine ⟨fA,⟨by rw [fA];simp [maxLen];omega,by rw [fA];simp;omega⟩,?_⟩;exact rE ⟨_,by omega,e + 1,rfl,by omega,rfl⟩ (bG (gC (aX aw (by omega)) eK))
 ·have hge:e=n:=by have:=hL;simp at this;omega
  subst hge;have ht:(gw e l).take e=gw e l:=by rw [List.take_of_length_le (by rw [hML];omega)]
  rw [ht];exact ⟨_,ax,rfl⟩
theorem cM {n m:Nat} {cC:List TkE} {x y:Bool} (h:x=y):We n m cC (.v (.bool x)) (.v (.bool y)):=.inl ⟨by rw [h],rfl⟩
theorem oM {l:List Wd} {j:Nat} {w:Wd} (h:l[j]? = some w):(aC l)[j]? = some w.s:=by simp [aC,h]
theorem LF {L:List ByteArray} {s:ByteArray} (h:∀ j,j < L.length->L[j]? ≠ some s):dx L s=none:=tH fun j hj=>by grind
abbrev Xl (l:List Wd) (s:ByteArray) (e:Nat):St:=
 ⟨[bi 0 2 (bV l),(1,⟨[],.v (.string s)⟩),ay 5 e],[],[]⟩
theorem fQ (l:List Wd) (s:ByteArray) (hs:wdsWt l<=1099511627776) :
  EvP prog 205 [.sl 2 (bV l) none,.v (.string s)] (.v (.int .i64 (oz (dx (aC l) s)))):=by
 have nW:=bM l;have gR:=dV l;refine eG 20 [.tmp 4] func205 rfl ntmps205 rfl fun _ _ _ _=>?_;refine lI (fun j st=>∃ e:Nat,st=Xl l s e/\e<=l.length/\(∀ j,j < e->(aC l)[j]? ≠ some s)/\j=l.length - e) ⟨0,rfl,by omega,fun _ h=>by omega,rfl⟩ (bG wB) ?_;rintro j st ⟨e,rfl,he,iA,rfl⟩;refine br ?_ ?_<;>intro hL
 ·have aw:e < l.length:=by simpa [aE] using hL
  obtain ⟨w,hw⟩:=gX aw;refine ⟨kD w,⟨by omega,bg hw⟩,?_⟩;refine br ?_ ?_<;>intro hq
  ·have hq:w.s=s:=sU hq;rw [CW (p:=e) (by rw [oM hw,hq]) (fun j hj=>Nat.le_of_not_lt fun hl=>iA j hl hj)];exact (rfl:_=_)
  ·have hq:¬ w.s=s:=sU hq;refine ⟨Xl l s (e + 1),(bG (dH (aX aw (by omega)))),l.length - (e + 1),by omega,e + 1,rfl,by omega,fun j hj=>?_,rfl⟩;rcases mD hj with hj | rfl
   ·exact iA j hj
   ·rw [oM hw];simpa using hq
 ·have hge:e=l.length:=by have:=hL;simp [aE] at this;omega
  rw [LF (fun j hj=>iA j (by omega))];exact (rfl:_=_)
theorem gx {o:Option Nat}:decide (oz o < 0)=true↔o=none:=by
 cases o with
 | none=>simp [oz]
 | some k=>grind [oz]
theorem Gb {L:List ByteArray}:∀ {o:List (Wd × Wd)},(numF L o).1=0->∀ x∈o,(∃ a,dx L x.1.s=some a)/\∃ b,dx L x.2.s=some b
 | [],_,x,hx=>by cases hx
 | p :: r,h,x,hx=>by
  rw [numF] at h;split at h
  ·exact absurd h (by simp)
  rename_i h1;split at h
  ·exact absurd h (by simp)
  rename_i h2;rcases dB hx with rfl | hx
  ·exact ⟨Option.ne_none_iff_exists'.1 h1,Option.ne_none_iff_exists'.1 h2⟩
  ·exact Gb h x hx
abbrev ad5 (l:List Wd) (o:List (Wd × Wd)) (q e:Nat):St:=
 ⟨[bi 0 2 (bV l),bi 1 4 (nP o),(5,⟨[],.sl 2 (nb (dN (aC l) (o.take e))) (some 0)⟩),ay 6 e],[],[⟨q,291,2,none⟩]⟩
theorem Jn (l:List Wd) (o:List (Wd × Wd)) (hs:wdsWt l<=1099511627776) (wT:prsWt o<=1099511627776) (hF:(numF (aC l) o).1=0) :
  EvP prog 121 [.sl 2 (bV l) none,.sl 4 (nP o) none] (.sl 2 (nb (dN (aC l) o)) none):=by
 have nW:=jo o;refine eG 34 [.tmp 4] func121 rfl ntmps121 rfl fun _ _ _ _=>?_;refine lJ (fun e=>ad5 l o e e) o.length (fF ⟨0,291,2,none⟩ rfl ⟨_,rfl⟩ rfl wA rfl rfl j8) ?_;intro e he;refine br ?_ ?_<;>intro hL
 ·have aw:e < o.length:=by simpa [gF] using hL
  obtain ⟨w,hw⟩:=gX aw;obtain ⟨⟨a,ha⟩,⟨b,hb⟩⟩:=Gb hF w (mG hw);have uW:=fQ l w.1.s hs;have sJ:=fQ l w.2.s hs;rw [ha] at uW;rw [hb] at sJ;refine dI ?_;refine ⟨OX w,⟨by omega,iI hw⟩,?_⟩;refine cD xA uW ?_;refine ⟨OX w,⟨by omega,iI hw⟩,?_⟩;refine cD xA sJ ?_;refine ⟨by simp [iJ,dN];omega,⟨by simp [iJ,dN,maxLen];omega,by simp [iJ,dN];omega⟩,?_⟩;exact rE ⟨_,by omega,e + 1,rfl,by omega,rfl⟩ (bG (gC (aX aw (by omega)) (A3 hw ha hb)))
 ·have hge:e=o.length:=by
   have:=hL;simp [gF] at this;omega
  have ht:o.take e=o:=by rw [hge,List.take_length]
  rw [ht];exact ⟨_,ax,rfl⟩
theorem Gc (l:List Wd) (o:List (Wd × Wd)) (hl:l.length<=32) (hs:wdsWt l<=1099511627776) (wT:prsWt o<=1099511627776) (hF:(numF (aC l) o).1=0) :
  EvP prog 53 [.sl 2 (bV l) none,.sl 4 (nP o) none] (.sl 1 (dL (eB l.length (fo l.length (dN (aC l) o)))) none):=by
 have nW:=jo o;have hP:tF l.length (dN (aC l) o):=by have:=pD hF;rwa [dV] at this
 have hN:=aE l;have HU:=Jm l.length (by omega) (dN (aC l) o) hP (by simp [dN];omega);rw [Nv hP] at HU;refine eG 11 [.tmp 4] func53 rfl ntmps53 rfl fun _ _ _ _=>?_;refine cP abZ (Jn l o hs wT hF) ?_;rw [hN];refine cP abY HU ?_;exact ⟨_,ax,rfl⟩
theorem Gd (n:Nat) (f:Nat->Nat->Bool):(eB n f).length=n:=by simp [eB]
theorem ki (n:Nat) (f:Nat->Nat->Bool):(dL (eB n f)).length=n:=by rw [yx,Gd]
theorem fp {n:Nat} {f:Nat->Nat->Bool} {a:Nat} (ha:a < n):(dL (eB n f))[a]? = some [DV.sl 1 (yw ((List.range n).map (f a))) none]:=Ry (FK ha)
theorem ee {n:Nat} {f:Nat->Nat->Bool} {a b:Nat} (hb:b < n):(yw ((List.range n).map (f a)))[b]? = some [DV.v (.bool (f a b))]:=LD (by simp [List.getElem?_range hb])
abbrev Xm (n:Nat) (f:Nat->Nat->Bool) (e:Nat):St:=
 ⟨[bi 0 1 (dL (eB n f)),ay 3 e],[],[]⟩
abbrev Zq (n:Nat) (f:Nat->Nat->Bool) (e k:Nat):St:=
 ⟨[bi 0 1 (dL (eB n f)),ay 3 e,ay 4 k],[],[]⟩
theorem Ge (n:Nat) (f:Nat->Nat->Bool) (hn:n<=64) :
  EvP prog 275 [.sl 1 (dL (eB n f)) none] (.v (.int .i64 (oz (cm (lp n f) n)))):=by
 have fA:=ki n f;refine eG 39 [.tmp 2] func275 rfl ntmps275 rfl fun _ _ _ _=>?_;refine lI (fun j st=>∃ e:Nat,st=Xm n f e/\e<=n/\(∀ a,a < e->lp n f a=false)/\j=n - e) ⟨0,rfl,by omega,fun _ h=>by omega,rfl⟩ (bG wB) ?_;rintro j st ⟨e,rfl,he,iA,rfl⟩;refine br ?_ ?_<;>intro hL
 ·have aw:e < n:=sV fA hL;refine lI (fun j st=>∃ k:Nat,st=Zq n f e k/\k<=n/\(∀ b,b < k->(decide (e≠b) && (f e b && f b e))=false)/\j=n - k) ⟨0,rfl,by omega,fun _ h=>by omega,rfl⟩ (bG wB) ?_;rintro j st ⟨k,rfl,hk,Rz,rfl⟩;refine br ?_ ?_<;>intro qb
  ·have jz:k < n:=sV fA qb;have xQ:(decide (e≠k) && (f e k && f k e))=false->∀ b,b < k + 1->(decide (e≠b) && (f e b && f b e))=false:=fun h b hb=>by grind
   refine br ?_ ?_<;>intro g1
   ·have g1:e≠k:=by have:=g1;simp at this;omega
    refine iX (fp aw) ?_;refine iX (ee jz) ?_;refine br ?_ ?_<;>intro g2
    ·have g2:f e k=true:=by simpa [pickB] using g2
     refine iX (fp jz) ?_;refine iX (ee aw) ?_;refine br ?_ ?_<;>intro g3
     ·have g3:f k e=true:=by simpa [pickB] using g3
      have hp:lp n f e=true:=List.any_eq_true.2 ⟨k,List.mem_range.2 jz,by simp [g1,g2,g3]⟩;rw [dc aw hp iA];exact (rfl:_=_)
     ·have g3:f k e=false:=by simpa [pickB] using g3
      exact rE ⟨_,by omega,k + 1,rfl,by omega,xQ (by simp [g3]),rfl⟩ (bG (dH (aX jz (by omega))))
    ·have g2:f e k=false:=by simpa [pickB] using g2
     exact rE ⟨_,by omega,k + 1,rfl,by omega,xQ (by simp [g2]),rfl⟩ (bG (dH (aX jz (by omega))))
   ·have g1:e=k:=by have:=g1;simp at this;omega
    exact rE ⟨_,by omega,k + 1,rfl,by omega,xQ (by simp [g1]),rfl⟩ (bG (dH (aX jz (by omega))))
  ·have hge:k=n:=sW fA qb;refine ⟨Xm n f (e + 1),(bG (dH (aX aw (by omega)))),n - (e + 1),by omega,e + 1,rfl,by omega,fun j hj=>?_,rfl⟩;rcases mD hj with hj | rfl
   ·exact iA j hj
   ·grind [lp]
 ·have hge:e=n:=sW fA hL;subst hge;rw [dO iA];exact (rfl:_=_)
abbrev tuSt (n:Nat) (f:Nat->Nat->Bool) (q e:Nat):St:=
 ⟨[bi 0 1 (dL (eB n f)),(3,⟨[],.sl 1 (dL ((eB n fun a b=>f b a).take e)) (some 0)⟩),ay 4 e],[],[⟨q,186,1,none⟩]⟩
abbrev ad6 (n:Nat) (f:Nat->Nat->Bool) (q e:Nat) (r:List Bool) (k:Nat):St:=
 ⟨[bi 0 1 (dL (eB n f)),(3,⟨[],.sl 1 (dL ((eB n fun a b=>f b a).take e)) (some 0)⟩),ay 4 e,(5,⟨[],.ms 0 1 0 n n⟩),ay 6 k],[cB r],[⟨q,186,1,none⟩]⟩
abbrev ad7 (n:Nat) (f:Nat->Nat->Bool) (q e:Nat) (r:List Bool):St:=
 ⟨[bi 0 1 (dL (eB n f)),ay 4 e,(32,⟨[],.sl 1 (dL ((eB n fun a b=>f b a).take e)) (some 0)⟩),bi 33 1 (yw r)],[],[⟨q,186,1,none⟩]⟩
def l9 (n:Nat) (f:Nat->Nat->Bool) (e k:Nat):List Bool:=(List.range n).map fun b=>if b < k then f b e else false
theorem tX (n:Nat) (f:Nat->Nat->Bool) (e k:Nat):(l9 n f e k).length=n:=by simp [l9]
theorem Jo (n:Nat) (f:Nat->Nat->Bool) (e:Nat):l9 n f e 0=List.replicate n false:=by
 refine List.ext_getElem? fun i=>?_
 grind [l9,tX]
theorem Jp (n:Nat) (f:Nat->Nat->Bool) (e k:Nat):(l9 n f e k).set k (f k e)=l9 n f e (k + 1):=by
 refine List.ext_getElem? fun i=>?_
 grind [l9,tX]
theorem Jq (n:Nat) (f:Nat->Nat->Bool) (e:Nat):l9 n f e n=(List.range n).map (fun b=>f b e):=by simp_all [l9]
theorem Ny (n:Nat) (f:Nat->Nat->Bool) (hn:n<=64) :
  EvP prog 276 [.sl 1 (dL (eB n f)) none] (.sl 1 (dL (eB n fun a b=>f b a)) none):=by
 have fA:=ki n f;have hML:=Gd n fun a b=>f b a;refine eG 37 [.tmp 2] func276 rfl ntmps276 rfl fun _ _ _ _=>?_;refine lJ (fun e=>tuSt n f e e) n (fF ⟨0,186,1,none⟩ rfl ⟨_,rfl⟩ rfl wA rfl rfl j8) ?_;intro e he;refine br ?_ ?_<;>intro hL
 ·have aw:e < n:=sV fA hL;refine ⟨⟨rfl,by omega,by rw [fA];omega,by rw [fA];omega⟩,?_⟩;rw [fA];have iC:(List.replicate (n:Int).toNat (vL [Value.bool false])).flatten=cB (l9 n f e 0):=by grind [Nu,Jo]
  refine lJ (fun k=>ad6 n f e e (l9 n f e k) k) n (dz 1 (pX iC) (dH iC)) ?_;intro k hk;refine br ?_ ?_<;>intro qb
  ·have jz:k < n:=sV fA qb;refine iX (fp jz) ?_;refine iX (ee aw) ?_;refine ⟨⟨by omega,by omega⟩,?_⟩;refine ⟨by rw [tW,tX];omega,?_⟩
   have eP:(cB (l9 n f e k)).set (0 + (k:Int).toNat * 1) (DV.v (.bool (f (k:Int).toNat (e:Int).toNat)))=cB (l9 n f e (k + 1)):=by
    rw [show 0 + (k:Int).toNat * 1=k by omega,C7,lK,lK,Jp]
   exact rE ⟨_,by omega,k + 1,rfl,by omega,rfl⟩ (dz 1 (oc eP (aX jz (by omega))) (gC eP (aX jz (by omega))))
  ·have hge:k=n:=sW fA qb;subst hge;rw [Jq];refine HO.wk (.HS (st':=ad7 k f e e ((List.range k).map fun b=>f b e)) 0 rfl rfl rfl rfl ?_) rfl rfl ?_
   ·refine ⟨⟨_,rfl,?_⟩,⟨_,rfl,?_⟩,⟨_,rfl,?_⟩,⟨_,rfl,Xj (by simp) (by omega) rfl⟩,trivial⟩
    ·grind [Cc]
    ·simp only [Cc]
    ·grind [Cc]
   ·have hmr:(dL ((eB k fun a b=>f b a).take e)).length=e:=by rw [yx,zLenT,hML];omega
    have eK:dL ((eB k fun a b=>f b a).take e) ++ [[DV.sl 1 (yw ((List.range k).map fun b=>f b e)) none]]=dL ((eB k fun a b=>f b a).take (e + 1)):=by rw [List.take_add_one,FK aw];simp [dL]
    refine ⟨hmr,⟨by rw [hmr];simp [maxLen];omega,by rw [hmr];simp;omega⟩,?_⟩;exact rE ⟨_,by omega,e + 1,rfl,by omega,rfl⟩ (bG (gC (aX aw (by omega)) eK))
 ·have hge:e=n:=sW fA hL;subst hge;rw [List.take_of_length_le (by rw [hML];omega)];exact ⟨_,ax,rfl⟩
def Xn (f:Nat->Nat->Bool) (n a b c:Nat):Bool:=(f a c && f b c) && (List.range n).all fun d=>!(f a d && f b d) || f c d
def ma (f:Nat->Nat->Bool) (n a b:Nat):Option Nat:=cm (Xn f n a b) n
def nR (f:Nat->Nat->Bool) (a b c k:Nat):Bool:=(f a c && f b c) && (List.range k).all fun d=>!(f a d && f b d) || f c d
theorem Nz (f:Nat->Nat->Bool) (a b c k:Nat):nR f a b c (k + 1)=(nR f a b c k && (!(f a k && f b k) || f c k)):=by
 simp only [nR,List.range_succ,List.all_append,List.all_cons,List.all_nil,Bool.and_true,Bool.and_assoc]
theorem Bj (f:Nat->Nat->Bool) (a b c:Nat):nR f a b c 0=(f a c && f b c):=by simp [nR]
abbrev ad8 (n:Nat) (f:Nat->Nat->Bool) (a b e:Nat):St:=
 ⟨[bi 0 1 (dL (eB n f)),ay 1 a,ay 2 b,ay 7 e],[],[]⟩
abbrev LG (n:Nat) (f:Nat->Nat->Bool) (a b e:Nat) (x:Bool) (k:Nat):St:=
 ⟨[bi 0 1 (dL (eB n f)),ay 1 a,ay 2 b,ay 7 e,Cu 8 x,ay 9 k],[],[]⟩
theorem u3 (n:Nat) (f:Nat->Nat->Bool) (hn:n<=64) (a b:Nat) (ha:a < n) (hb:b < n) :
  EvP prog 210 [.sl 1 (dL (eB n f)) none,.v (.int .i64 a),.v (.int .i64 b)] (.v (.int .i64 (oz (ma f n a b)))):=by
 have fA:=ki n f;refine eG 66 [.tmp 6] func210 rfl ntmps210 rfl fun _ _ _ _=>?_;refine lI (fun j st=>∃ e:Nat,st=ad8 n f a b e/\e<=n/\(∀ c,c < e->Xn f n a b c=false)/\j=n - e) ⟨0,rfl,by omega,fun _ h=>by omega,rfl⟩ (bG wB) ?_;rintro j st ⟨e,rfl,he,iA,rfl⟩;refine br ?_ ?_<;>intro hL
 ·have aw:e < n:=sV fA hL;refine iX (fp ha) ?_;refine iX (ee aw) ?_;have e1:(f a e == true)=true->f b e=nR f a b e 0:=fun g=>by rw [Bj,show f a e=true by simpa using g];simp
  have e2:(f a e == true)=false->false=nR f a b e 0:=fun g=>by rw [Bj,show f a e=false by simpa using g];simp
  refine have body:=?_;br (fun g1=>⟨_,⟨by omega,fp hb⟩,⟨_,⟨by omega,ee aw⟩,aT (fun j st=>∃ k:Nat,st=LG n f a b e (nR f a b e k) k/\k<=n/\j=n - k) n (LG n f a b e (nR f a b e 0) 0) (bG (by repeat' (first | exact trivial | exact aA rfl | exact (show We _ _ _ (DV.v (.bool (f b e))) _ from cM (e1 g1)) | refine ⟨⟨_,rfl,?_⟩,?_⟩))) ⟨0,rfl,by omega,by omega⟩ body⟩⟩) (fun g1=>aT (fun j st=>∃ k:Nat,st=LG n f a b e (nR f a b e k) k/\k<=n/\j=n - k) n (LG n f a b e (nR f a b e 0) 0) (bG (by repeat' (first | exact trivial | exact aA rfl | exact (show We _ _ _ (DV.v (.bool false)) _ from cM (e2 g1)) | refine ⟨⟨_,rfl,?_⟩,?_⟩))) ⟨0,rfl,by omega,by omega⟩ body);rintro j st ⟨k,rfl,hk,rfl⟩;refine br ?_ ?_<;>intro qb
  ·have jz:k < n:=sV fA qb;have Xo:=Nz f a b e k;refine iX (fp ha) ?_;refine iX (ee jz) ?_;refine br ?_ ?_<;>intro g1
   ·refine iX (fp hb) ?_;refine iX (ee jz) ?_;refine br ?_ ?_<;>intro g2
    ·refine iX (fp aw) ?_;refine iX (ee jz) ?_;refine br ?_ ?_<;>intro g3
     ·have hx:false=nR f a b e (k + 1):=by simp [pickB] at g1 g2 g3;rw [Xo];simp [g1,g2,g3]
      exact rE ⟨_,by omega,k + 1,rfl,by omega,rfl⟩ (bG (gC (aX jz (by omega)) hx))
     ·have hx:nR f a b e k=nR f a b e (k + 1):=by simp [pickB] at g1 g2 g3;rw [Xo];simp [g1,g2,g3]
      exact rE ⟨_,by omega,k + 1,rfl,by omega,rfl⟩ (bG (gC (aX jz (by omega)) hx))
    ·have hx:nR f a b e k=nR f a b e (k + 1):=by simp [pickB] at g1 g2;rw [Xo];simp [g1,g2]
     exact rE ⟨_,by omega,k + 1,rfl,by omega,rfl⟩ (bG (gC (aX jz (by omega)) hx))
   ·have hx:nR f a b e k=nR f a b e (k + 1):=by simp [pickB] at g1;rw [Xo];simp [g1]
    exact rE ⟨_,by omega,k + 1,rfl,by omega,rfl⟩ (bG (gC (aX jz (by omega)) hx))
  ·have hge:k=n:=sW fA qb;subst hge;refine br ?_ ?_<;>intro g
   ·have g:Xn f k a b e=true:=g;rw [ma,dc aw g iA];exact (rfl:_=_)
   ·have g:Xn f k a b e=false:=g;refine ⟨ad8 k f a b (e + 1),(bG (dH (aX aw (by omega)))),k - (e + 1),by omega,e + 1,rfl,by omega,fun j hj=>?_,rfl⟩;rcases mD hj with hj | rfl
    ·exact iA j hj
    ·exact g
 ·have hge:e=n:=sW fA hL;subst hge;rw [ma,dO iA];exact (rfl:_=_)
theorem RA {l:List Wd} {i:Nat} {w:Wd} (hw:l[i]? = some w):∃ p,dx (aC l) w.s=some p/\(p < i↔cY (l.take i) w.s=true):=by
 cases h:dx (aC l) w.s with
 | none=>exact absurd (mG (oM hw)) (Ab.1 h)
 | some p=>
  refine ⟨p,rfl,?_⟩;obtain ⟨h1,h2,h3⟩:=dE h;rw [dV] at h1;have TH:∃ v,l[p]? = some v/\v.s=w.s:=by grind [oM]
  obtain ⟨v,hv,zR⟩:=TH;unfold cY;rw [List.any_eq_true];refine ⟨fun aw=>⟨v,mG (i:=p) (by rw [cI,aj aw];exact hv),by simp [zR]⟩,fun ⟨x,hx,Ec⟩=>?_⟩;obtain ⟨j,hj⟩:=List.getElem?_of_mem hx
  grind [oM]
theorem C8 {f:Nat->Nat->Bool} {n a b c:Nat}:Xn f n a b c=true↔f a c=true/\f b c=true/\∀ d,d < n->f a d=true->f b d=true->f c d=true:=by grind [Xn]
structure U5 (f:Nat->Nat->Bool) (n:Nat):Prop where
 rfl':∀ a,a < n->f a a=true
 Nj:∀ a b,a < n->b < n->f a b=true->f b a=true->a=b
theorem U5.flip {f:Nat->Nat->Bool} {n:Nat} (h:U5 f n):U5 (fun x y=>f y x) n:=⟨h.rfl',fun a b ha hb h1 h2=>h.Nj a b ha hb h2 h1⟩
theorem RB {f:Nat->Nat->Bool} {n a b c:Nat} (h:U5 f n) (hc:c < n) (hj:Xn f n a b c=true):fy f n a b=some c:=by
 obtain ⟨h1,h2,h3⟩:=C8.1 hj
 have key:∀ e,e<=n->c < e->bestA (fun c=>f a c && f b c) f e=some c:=by
  intro e
  induction e with
  | zero=>intro _ h;omega
  | succ e ih=>
   intro he hce;rw [bestA];by_cases hec:e=c
   ·subst hec;rw [aj];simp only [h1,h2,Bool.and_true,Bool.true_and]
    cases ho:bestA (fun c=>f a c && f b c) f e with
    | none=>rfl
    | some o=>
     have hp:=tQ ho;have hl:=oC ho;simp only [aO] at hp;exact h3 o (by omega) hp.1 hp.2
   ·rw [ih (by omega) (by omega),ai];simp only [aO,FR,not_and];intro hp hec2;exact hec (h.Nj e c (by omega) hc hec2 (h3 e (by omega) hp.1 hp.2))
 grind [fy,oB]
theorem sc {f:Nat->Nat->Bool} {n a b:Nat} (h:U5 f n):(fy f n a b).isNone=(ma f n a b).isNone:=by
 cases hj:ma f n a b with
 | some c=>
  obtain ⟨hc,hi,_⟩:=eV hj;rw [RB h hc hi]
 | none=>
  cases hk:fy f n a b with
  | none=>rfl
  | some k=>
   obtain ⟨h1,h2,h3,h4⟩:=qG hk;have:=dZ hj k h1;rw [C8.2 ⟨h2,h3,h4⟩] at this;cases this
def qc (f:Nat->Nat->Bool) (n a b:Nat):Bool:=(ma f n a b).isNone || (ma (fun x y=>f y x) n a b).isNone
theorem LH {f:Nat->Nat->Bool} {n a b:Nat} (h:U5 f n):lZ f n a b=qc f n a b:=by
 unfold lZ qc;rw [sc h,show jM f n a b=fy (fun x y=>f y x) n a b from rfl,sc h.flip]
theorem yy {f:Nat->Nat->Bool} {n b:Nat} (h:U5 f n) (hb:b < n):(ma f n b b).isNone=false:=by
 have hi:Xn f n b b b=true:=C8.2 ⟨h.rfl' b hb,h.rfl' b hb,fun d _ h1 _=>h1⟩
 cases hj:ma f n b b with
 | some c=>rfl
 | none=>rw [dZ hj b hb] at hi;cases hi
theorem U6 {f:Nat->Nat->Bool} {n b:Nat} (h:U5 f n) (hb:b < n):oD f n b=(List.range b).any fun a=>qc f n a b:=by
 unfold oD;rw [List.range_succ,List.any_append];simp only [List.any_cons,List.any_nil,Bool.or_false];rw [LH h,show qc f n b b=false by unfold qc;rw [yy h hb,yy h.flip hb];rfl,Bool.or_false]
 grind [LH]
theorem Zr {n:Nat} {l:List (Nat × Nat)} (hP:tF n l) (h4:cm (lp n (fo n l)) n=none):U5 (fo n l) n where
 rfl':=fun a ha=>tG hP ha
 Nj:=fun a b ha hb h6 h7=>by grind [dZ,lp]
abbrev ad9 (l:List Wd) (o:List (Wd × Wd)) (e:Nat):St:=
 ⟨[bi 0 2 (bV l),bi 1 4 (nP o),aF 4 0,ay 5 e],[[.v (.int .i64 0),.v (.int .i64 0)]],[]⟩
abbrev aea (l:List Wd) (o:List (Wd × Wd)) (e:Nat):St:=
 ⟨[bi 0 2 (bV l),bi 1 4 (nP o),aF 4 0,ay 6 e],[[.v (.int .i64 0),.v (.int .i64 0)]],[]⟩
abbrev Xp (l:List Wd) (n:Nat) (f:Nat->Nat->Bool) (e:Nat):St:=
 ⟨[bi 0 2 (bV l),aF 4 0,bi 7 1 (dL (eB n f)),bi 9 1 (dL (eB n fun a b=>f b a)),ay 10 e],[[.v (.int .i64 0),.v (.int .i64 0)]],[]⟩
abbrev Xq (l:List Wd) (n:Nat) (f:Nat->Nat->Bool) (e k:Nat):St:=
 ⟨[bi 0 2 (bV l),aF 4 0,bi 7 1 (dL (eB n f)),bi 9 1 (dL (eB n fun a b=>f b a)),ay 10 e,ay 11 k],[[.v (.int .i64 0),.v (.int .i64 0)]],[]⟩
theorem C9 (l:List Wd) (o:List (Wd × Wd)) (hs:wdsWt l<=1099511627776) (wT:prsWt o<=1099511627776) :
  EvP prog 240 [.sl 2 (bV l) none,.sl 4 (nP o) none] (latF l o).d:=by
 have nW:=bM l;have hsl2:=jo o;have hF:latF l o=latF l o:=rfl
 conv at hF=>rhs;unfold latF
 refine eG 150 [.cell 4 44] func240 rfl ntmps240 rfl fun _ _ _ _=>?_;generalize latF l o=F at hF ⊢;refine br ?_ ?_<;>intro h
 ·have h:l=[]:=by simpa [aE] using h
  rw [show gG l o=(15,0) by rw [gG,aj h],aj (by decide)] at hF;refine ⟨_,?_,rfl⟩;rw [hF];exact ax
 have h:¬ l=[]:=by simpa [aE] using h
 refine br ?_ ?_<;>intro h1
 ·have h1:32 < l.length:=by simp [aE] at h1;omega
  obtain ⟨x,hx⟩:∃ x,l[32]? = some x:=⟨_,gE h1⟩;rw [show gG l o=(8,x.a) by rw [gG,ai h,aj h1,hx];rfl,aj (by simp)] at hF;refine ⟨kD x,⟨by omega,bg hx⟩,?_⟩;refine ⟨_,?_,rfl⟩;rw [hF];exact ax
 have h1:¬ 32 < l.length:=by simp [aE] at h1;omega
 refine br ?_ ?_<;>intro h2
 ·have h2:256 < o.length:=by simp [gF] at h2;omega
  obtain ⟨x,hx⟩:∃ x,o[256]? = some x:=⟨_,gE h2⟩;rw [show gG l o=(8,x.1.a) by rw [gG,ai h,ai h1,aj h2,hx];rfl,aj (by simp)] at hF;refine ⟨OX x,⟨by omega,iI hx⟩,?_⟩;refine ⟨_,?_,rfl⟩;rw [hF];exact ax
 have h2:¬ 256 < o.length:=by simp [gF] at h2;omega
 rw [show gG l o=(0,0) by rw [gG,ai h,ai h1,ai h2],ai (by decide)] at hF;have h0:enumL l 0 l=enumL l 0 (l.drop 0):=rfl;refine lI (fun j st=>∃ e:Nat,st=ad9 l o e/\e<=l.length/\enumL l 0 l=enumL l e (l.drop e)/\j=l.length - e) ⟨0,rfl,by omega,rfl,rfl⟩ (bG wB) ?_;rintro j st ⟨e,rfl,he,aP,rfl⟩;refine br ?_ ?_<;>intro hL
 ·have aw:e < l.length:=by simpa [aE] using hL
  obtain ⟨w,hw⟩:=gX aw;have OW:=ji (mG hw);have bd:enumL l e (l.drop e)=if aK l e w≠0 then (aK l e w,w.a) else enumL l (e + 1) (l.drop (e + 1)):=by rw [drop_cons hw,enumL]
  obtain ⟨p,hp,OJ⟩:=RA hw;have hf:=fQ l w.s hs;rw [hp] at hf;refine ⟨kD w,⟨by omega,bg hw⟩,?_⟩;refine cP E5 (jI w.s (by omega)) ?_;refine br ?_ ?_<;>intro hN
  ·have hN:aZ w.s=false:=sU hN;have hf:aK l e w=9:=by simp [aK,hN]
   rw [aP,bd,hf,aj (show (9:Int)≠0 by decide),aj (by simp)] at hF;refine ⟨kD w,⟨by omega,bg hw⟩,?_⟩;refine ⟨_,?_,rfl⟩;rw [hF];exact ax
  ·have hN:aZ w.s=true:=sU hN;refine ⟨kD w,⟨by omega,bg hw⟩,?_⟩;refine cP xA hf ?_;refine br ?_ ?_<;>intro h2
   ·have h2:p < e:=by have:=h2;simp [oz] at this;exact this
    have hf:aK l e w=10:=by simp [aK,hN,OJ.1 h2]
    rw [aP,bd,hf,aj (show (10:Int)≠0 by decide),aj (by simp)] at hF;refine ⟨kD w,⟨by omega,bg hw⟩,?_⟩;refine ⟨_,?_,rfl⟩;rw [hF];exact ax
   ·have h2:¬ p < e:=by have:=h2;simp [oz] at this;omega
    have hd:cY (l.take e) w.s=false:=by grind
    have hf:aK l e w=0:=by simp [aK,hN,hd]
    rw [hf,ai (by simp)] at bd;exact rE ⟨_,by omega,e + 1,rfl,by omega,by rw [aP,bd],rfl⟩ (bG (dH (aX aw (by omega))))
 have hge:e=l.length:=by have:=hL;simp [aE] at this;omega
 rw [aP,hge,List.drop_length,show enumL l l.length []=(0,0) from rfl,ai (by decide)] at hF;refine lI (fun j st=>∃ e:Nat,st=aea l o e/\e<=o.length/\numF (aC l) o=numF (aC l) (o.drop e)/\j=o.length - e) ⟨0,rfl,by omega,rfl,rfl⟩ (bG wB) ?_;clear aP hL hge he e;rintro j st ⟨e,rfl,he,aP,rfl⟩;refine br ?_ ?_<;>intro hL
 ·have aw:e < o.length:=by simpa [gF] using hL
  obtain ⟨w,hw⟩:=gX aw;have bd:numF (aC l) (o.drop e)=if dx (aC l) w.1.s=none then (17,w.1.a) else if dx (aC l) w.2.s=none then (17,w.2.a) else numF (aC l) (o.drop (e + 1)):=by rw [drop_cons hw,numF]
  refine ⟨OX w,⟨by omega,iI hw⟩,?_⟩;refine cP xA (fQ l w.1.s hs) ?_;refine br ?_ ?_<;>intro ha
  ·have ha:=gx.1 ha;rw [aP,bd,aj ha,aj (by simp)] at hF;refine ⟨OX w,⟨by omega,iI hw⟩,?_⟩;refine ⟨_,?_,rfl⟩;rw [hF];exact ax
  have ha:¬ dx (aC l) w.1.s=none:=fun hn=>by have:=gx.2 hn;rw [ha] at this;cases this
  refine ⟨OX w,⟨by omega,iI hw⟩,?_⟩;refine cP xA (fQ l w.2.s hs) ?_;refine br ?_ ?_<;>intro hb
  ·have hb:=gx.1 hb;rw [aP,bd,ai ha,aj hb,aj (by simp)] at hF;refine ⟨OX w,⟨by omega,iI hw⟩,?_⟩;refine ⟨_,?_,rfl⟩;rw [hF];exact ax
  have hb:¬ dx (aC l) w.2.s=none:=fun hn=>by have:=gx.2 hn;rw [hb] at this;cases this
  rw [ai ha,ai hb] at bd;exact rE ⟨_,by omega,e + 1,rfl,by omega,by rw [aP,bd],rfl⟩ (bG (dH (aX aw (by omega))))
 have hge:e=o.length:=by have:=hL;simp [gF] at this;omega
 rw [hge,List.drop_length,show numF (aC l) []=(0,0) from rfl] at aP;rw [aP,ai (by decide)] at hF;have ku:(numF (aC l) o).1=0:=by rw [aP]
 have hP:tF l.length (dN (aC l) o):=by have:=pD ku;rwa [dV] at this
 have hpo:=Zr hP;have fA:=ki l.length (fo l.length (dN (aC l) o));refine cP YA (Gc l o (by omega) hs wT ku) ?_;generalize fo l.length (dN (aC l) o)=f at hF hpo fA ⊢;refine cP acy (Ge l.length f (by omega)) ?_
 cases hlo:cm (lp l.length f) l.length with
 | some a=>
  rw [hlo] at hF;have ha:=(eV hlo).1;obtain ⟨x,hx⟩:∃ x,l[a]? = some x:=⟨_,gE ha⟩;simp only [lr hx] at hF;refine ⟨kD x,⟨by simp only [oz];omega,bg hx⟩,?_⟩;refine ⟨_,?_,rfl⟩;rw [hF];exact ax
 | none=>
 have hpo:=hpo hlo;rw [hlo] at hF;simp only at hF;refine cP acz (Ny l.length f (by omega)) ?_;refine lI (fun j st=>∃ e:Nat,st=Xp l l.length f e/\e<=l.length/\(∀ b,b < e->oD f l.length b=false)/\j=l.length - e) ⟨0,rfl,by omega,fun _ h=>by omega,rfl⟩ (bG wB) ?_;clear aP hL hge he e;rintro j st ⟨e,rfl,he,iA,rfl⟩;refine br ?_ ?_<;>intro hL
 ·have aw:e < l.length:=sV fA hL;have tf:=U6 hpo aw;refine lI (fun j st=>∃ k:Nat,st=Xq l l.length f e k/\k<=e/\(∀ a,a < k->qc f l.length a e=false)/\j=e - k) ⟨0,rfl,by omega,fun _ h=>by omega,rfl⟩ (bG wB) ?_;rintro j st ⟨k,rfl,hk,Rz,rfl⟩;refine br ?_ ?_<;>intro qb
  ·have jz:k < e:=sU qb;obtain ⟨x,hx⟩:=gX aw
   have aeb:qc f l.length k e=true->F=(12,x.a):=fun FU=>by
    rw [dc aw (by rw [tf,List.any_eq_true];exact ⟨k,by simpa using jz,FU⟩) iA] at hF;simp only [lr hx] at hF;exact hF
   refine cP WA (u3 l.length f (by omega) k e (by omega) aw) ?_;refine br ?_ ?_<;>intro g1
   ·have g1:¬ ma f l.length k e=none:=fun hn=>by rw [gx.2 hn] at g1;cases g1
    refine cP WA (u3 l.length (fun a b=>f b a) (by omega) k e (by omega) aw) ?_;refine br ?_ ?_<;>intro g2
    ·have g2:ma (fun a b=>f b a) l.length k e=none:=by
      rw [<- gx];simpa [pickB] using g2
     have hF:=aeb (by unfold qc;rw [g2];simp);refine ⟨kD x,⟨by omega,bg hx⟩,?_⟩;refine ⟨_,?_,rfl⟩;rw [hF];exact ax
    ·have g2:¬ ma (fun a b=>f b a) l.length k e=none:=fun hn=>by
      have h3:=gx.2 hn;simp [pickB] at g2;have h3:=of_decide_eq_true h3;omega
     refine ⟨Xq l l.length f e (k + 1),(bG (dH (aX jz (by omega)))),e - (k + 1),by omega,k + 1,rfl,by omega,fun j hj=>?_,rfl⟩;rcases mD hj with hj | rfl
     ·exact Rz j hj
     ·unfold qc;rw [Option.isNone_eq_false_iff.2 (Option.isSome_iff_ne_none.2 g1),Option.isNone_eq_false_iff.2 (Option.isSome_iff_ne_none.2 g2)];rfl
   ·have g1:ma f l.length k e=none:=by
     rw [<- gx];simpa using g1
    have hF:=aeb (by unfold qc;rw [g1];rfl);refine ⟨kD x,⟨by omega,bg hx⟩,?_⟩;refine ⟨_,?_,rfl⟩;rw [hF];exact ax
  ·have hge:k=e:=by have:=qb;simp at this;omega
   subst hge;refine ⟨Xp l l.length f (k + 1),(bG (dH (aX aw (by omega)))),l.length - (k + 1),by omega,k + 1,rfl,by omega,fun j hj=>?_,rfl⟩;rcases mD hj with hj | rfl
   ·exact iA j hj
   ·grind
 ·have hge:e=l.length:=sW fA hL;subst hge;rw [dO iA] at hF;simp only at hF;refine ⟨_,?_,rfl⟩;rw [hF];exact ax
abbrev ovSt (n:Nat) (f:Nat->Nat->Bool) (l:List Nat) (c e:Nat):St:=
 ⟨[bi 0 1 (dL (eB n f)),bi 1 1 (dInts l),ay 2 c,ay 7 e],[],[]⟩
theorem Bl (n:Nat) (f:Nat->Nat->Bool) (hn:n<=64) (l:List Nat) (hl:∀ i∈l,i < n) (zV:l.length<=1099511627776) (c:Nat) (hc:c < n) :
  EvP prog 257 [.sl 1 (dL (eB n f)) none,.sl 1 (dInts l) none,.v (.int .i64 c)] (.v (.bool (iW f l c))):=by
 have fA:=ki n f;have OU:=bN l;refine eG 25 [.tmp 6] func257 rfl ntmps257 rfl fun _ _ _ _=>?_;refine lI (fun j st=>∃ e:Nat,st=ovSt n f l c e/\e<=l.length/\iW f l c=iW f (l.drop e) c/\j=l.length - e) ⟨0,rfl,by omega,rfl,rfl⟩ (bG wB) ?_;rintro j st ⟨e,rfl,he,aP,rfl⟩;rw [aP];refine br ?_ ?_<;>intro hL
 ·have aw:e < l.length:=by have:=hL;simp [OU] at this;exact this
  obtain ⟨i,hi⟩:=gX aw;have v7:=hl i (mG hi);have bd:iW f (l.drop e) c=(f i c && iW f (l.drop (e + 1)) c):=by unfold iW;rw [drop_cons hi,List.all_cons]
  refine iX (eJ hi) ?_;refine iX (fp v7) ?_;refine iX (ee hc) ?_;refine br ?_ ?_<;>intro g
  ·have g:f i c=false:=sU g;rw [bd,g,Bool.false_and];exact (rfl:_=_)
  ·have g:f i c=true:=sU g;rw [g,Bool.true_and] at bd;exact rE ⟨_,by omega,e + 1,rfl,by omega,bd,rfl⟩ (bG (dH (aX aw (by omega))))
 ·have hge:e=l.length:=sW OU hL;rw [hge,List.drop_length];exact (rfl:_=_)
def yz (f:Nat->Nat->Bool) (l:List Nat) (c k:Nat):Bool:=iW f l c && (List.range k).all fun d=>!iW f l d || f c d
theorem NA (f:Nat->Nat->Bool) (l:List Nat) (c:Nat):yz f l c 0=iW f l c:=by simp [yz]
theorem NB (f:Nat->Nat->Bool) (l:List Nat) (c k:Nat):yz f l c (k + 1)=(yz f l c k && (!iW f l k || f c k)):=by grind [yz]
abbrev aec (n:Nat) (f:Nat->Nat->Bool) (l:List Nat) (e:Nat):St:=
 ⟨[bi 0 1 (dL (eB n f)),bi 1 1 (dInts l),ay 5 e],[],[]⟩
abbrev aed (n:Nat) (f:Nat->Nat->Bool) (l:List Nat) (e:Nat) (x:Bool) (k:Nat):St:=
 ⟨[bi 0 1 (dL (eB n f)),bi 1 1 (dInts l),ay 5 e,Cu 6 x,ay 7 k],[],[]⟩
theorem Jr (n:Nat) (f:Nat->Nat->Bool) (hn:n<=64) (l:List Nat) (hl:∀ i∈l,i < n) (zV:l.length<=1099511627776) :
  EvP prog 206 [.sl 1 (dL (eB n f)) none,.sl 1 (dInts l) none] (.v (.int .i64 (oz (gv f n l)))):=by
 have fA:=ki n f;refine eG 40 [.tmp 4] func206 rfl ntmps206 rfl fun _ _ _ _=>?_;refine lI (fun j st=>∃ e:Nat,st=aec n f l e/\e<=n/\(∀ c,c < e->FX f n l c=false)/\j=n - e) ⟨0,rfl,by omega,fun _ h=>by omega,rfl⟩ (bG wB) ?_;rintro j st ⟨e,rfl,he,iA,rfl⟩;refine br ?_ ?_<;>intro hL
 ·have aw:e < n:=sV fA hL;refine cP WK (Bl n f hn l hl zV e aw) ?_;refine lJ (fun k=>aed n f l e (yz f l e k) k) n (bG (dH ((NA f l e).symm))) ?_;intro k hk;refine br ?_ ?_<;>intro qb
  ·have jz:k < n:=sV fA qb;have Xo:=NB f l e k;refine cP WK (Bl n f hn l hl zV k jz) ?_;refine br ?_ ?_<;>intro g1
   ·refine iX (fp aw) ?_;refine iX (ee jz) ?_;refine br ?_ ?_<;>intro g2
    ·have hx:false=yz f l e (k + 1):=by simp [pickB] at g1 g2;rw [Xo];simp [g1,g2]
     exact rE ⟨_,by omega,k + 1,rfl,by omega,rfl⟩ (bG (gC (aX jz (by omega)) hx))
    ·have hx:yz f l e k=yz f l e (k + 1):=by simp [pickB] at g1 g2;rw [Xo];simp [g1,g2]
     exact rE ⟨_,by omega,k + 1,rfl,by omega,rfl⟩ (bG (gC (aX jz (by omega)) hx))
   ·have hx:yz f l e k=yz f l e (k + 1):=by simp [pickB] at g1;rw [Xo];simp [g1]
    exact rE ⟨_,by omega,k + 1,rfl,by omega,rfl⟩ (bG (gC (aX jz (by omega)) hx))
  ·have hge:k=n:=sW fA qb;subst hge;refine br ?_ ?_<;>intro g
   ·have g:FX f k l e=true:=g;rw [gv,dc aw g iA];exact (rfl:_=_)
   ·have g:FX f k l e=false:=g;refine ⟨aec k f l (e + 1),(bG (dH (aX aw (by omega)))),k - (e + 1),by omega,e + 1,rfl,by omega,fun j hj=>?_,rfl⟩;rcases mD hj with hj | rfl
    ·exact iA j hj
    ·exact g
 ·have hge:e=n:=sW fA hL;subst hge;rw [gv,dO iA];exact (rfl:_=_)
abbrev Zs (lv:List Wd) (f:Nat->Nat->Bool) (l:List Wd) (q e:Nat):St:=
 ⟨[bi 0 2 (bV lv),bi 1 1 (dL (eB lv.length f)),bi 2 2 (bV l),aF 7 0,(8,⟨[],.sl 1 (dInts (ni (aC lv) (l.take e))) (some 0)⟩),ay 9 e],[[.v (.int .i64 0),.v (.int .i64 0)]],[⟨q,3,1,none⟩]⟩
theorem U7 {L:List ByteArray} {l:List Wd} {i:Nat} (h:i∈ni L l) (hL:0 < L.length):i < L.length:=by
 unfold ni at h;obtain ⟨w,_,rfl⟩:=List.mem_map.1 h
 cases hx:dx L w.s with
 | none=>simpa using hL
 | some p=>exact (dE hx).1
theorem Js {L:List ByteArray} {l:List Wd} {e i:Nat} {w:Wd} (h:l[e]? = some w) (hi:dx L w.s=some i):dInts (ni L (l.take e)) ++ [[DV.v (.int .i64 (oz (some i)))]]=dInts (ni L (l.take (e + 1))):=by
 rw [tS h hi];simp [dInts,oz]
theorem NC (lv:List Wd) (f:Nat->Nat->Bool) (h0:0 < lv.length) (hn:lv.length<=32) (hs:wdsWt lv<=1099511627776) (l:List Wd) (hl:wdsWt l<=1099511627776) :
  EvP prog 122 [.sl 2 (bV lv) none,.sl 1 (dL (eB lv.length f)) none,.sl 2 (bV l) none] (Nk f (aC lv) l):=by
 have nW:=bM l;have gR:=dV lv;unfold Nk C0;refine eG 40 [.tmp 6,.cell 7 44] func122 rfl ntmps122 rfl fun _ _ _ _=>?_;refine lI (fun j st=>∃ e:Nat,st=Zs lv f l e e/\e<=l.length/\labW (aC lv) l=labW (aC lv) (l.drop e)/\j=l.length - e) ⟨0,rfl,by omega,rfl,rfl⟩ (fF ⟨0,3,1,none⟩ rfl ⟨_,rfl⟩ rfl wA rfl rfl j8) ?_;rintro j st ⟨e,rfl,he,aP,rfl⟩;rw [aP];refine br ?_ ?_<;>intro hL
 ·have aw:e < l.length:=by simpa [aE] using hL
  obtain ⟨w,hw⟩:=gX aw;have bd:=tR (L:=aC lv) hw;refine ⟨kD w,⟨by omega,bg hw⟩,?_⟩;refine cP xA (fQ lv w.s hs) ?_;refine br ?_ ?_<;>intro ha
  ·have ha:=gx.1 ha;rw [bd,aj ha];refine dS ?_;refine ⟨kD w,⟨by omega,bg hw⟩,?_⟩;exact ⟨_,ax,rfl⟩
  ·cases hi:dx (aC lv) w.s with
   | none=>have:=gx.2 hi;rw [ha] at this;cases this
   | some i=>
   rw [ai (by rw [hi];simp)] at bd;refine ⟨by simp [bN,ni];omega,⟨by simp [bN,ni,maxLen];omega,by simp [bN,ni];omega⟩,?_⟩;exact rE ⟨_,by omega,e + 1,rfl,by omega,bd,rfl⟩ (bG (gC (aX aw (by omega)) (Js hw hi)))
 ·have hge:e=l.length:=by have:=hL;simp [aE] at this;omega
  rw [hge,List.drop_length,List.take_length];refine cP acf (Jr lv.length f (by omega) (ni (aC lv) l) (fun i hi=>by have:=U7 hi (by omega);omega) (by simp [ni];omega)) ?_;rw [<- gR];exact ⟨_,ax,rfl⟩
theorem Zt {S:Sch} {e:Nat} {x:Wd × Ty} (h:S.types[e]? = some x):(tL S)[e]? = some x.1.s:=by simp [tL,aC,vJ,h]
abbrev Xr (S:Sch) (s:ByteArray) (e:Nat):St:=
 ⟨[(1,⟨[],.v (.string s)⟩),aF 2 0,ay 5 e],[ei S],[]⟩
theorem lx (S:Sch) (s:ByteArray) (hl:S.types.length<=1099511627776) :
  EvP prog 124 [.agg (ei S),.v (.string s)] (.v (.int .i64 (oz (dx (tL S) s)))):=by
 have hN:=ej S.types;have gD:=kK S;have j6:=@Zt S;obtain ⟨ae,order,types,⟨rh,rp⟩⟩:=S;simp only at hl hN gD j6;refine eG 23 [.tmp 4] func124 rfl ntmps124 rfl fun _ _ _ _=>?_;refine lI (fun j st=>∃ e:Nat,st=Xr ⟨ae,order,types,.mk rh rp⟩ s e/\e<=types.length/\(∀ j,j < e->(tL ⟨ae,order,types,.mk rh rp⟩)[j]? ≠ some s)/\j=types.length - e) ⟨0,rfl,by omega,fun _ h=>by omega,rfl⟩ (bG wB) ?_;rintro j st ⟨e,rfl,he,iA,rfl⟩;refine br ?_ ?_<;>intro hL
 ·have aw:e < types.length:=by have:=hL;simp [hN] at this;exact this
  obtain ⟨x,hx⟩:=gX aw;have hg:=j6 hx;obtain ⟨xw,⟨xh,xp⟩⟩:=x;refine iX (dNms_get hx) ?_;refine br ?_ ?_<;>intro hq
  ·have hq:xw.s=s:=sU hq;rw [CW (p:=e) (by rw [hg,hq]) (fun j hj=>Nat.le_of_not_lt fun hl=>iA j hl hj)];exact (rfl:_=_)
  ·have hq:¬ xw.s=s:=sU hq;refine ⟨Xr ⟨ae,order,types,.mk rh rp⟩ s (e + 1),(bG (dH (aX aw (by omega)))),types.length - (e + 1),by omega,e + 1,rfl,by omega,fun j hj=>?_,rfl⟩;rcases mD hj with hj | rfl
   ·exact iA j hj
   ·rw [hg];simpa using hq
 ·have hge:e=types.length:=sW hN hL;rw [LF (fun j hj=>iA j (by omega))];exact (rfl:_=_)
abbrev aee (S:Sch) (l:List Wd) (e:Nat):St:=
 ⟨[bi 1 2 (bV l),aF 2 0,aF 4 1,ay 5 e],[ei S,[.v (.int .i64 0),.v (.int .i64 0)]],[]⟩
theorem Gf (S:Sch) (hs:wdsWt S.ae<=1099511627776) (l:List Wd) (hl:wdsWt l<=1099511627776) :
  EvP prog 283 [.agg (ei S),.sl 2 (bV l) none] (labW (aC S.ae) l).d:=by
 have nW:=bM l;obtain ⟨ae,order,types,⟨rh,rp⟩⟩:=S;simp only at hs;refine eG 28 [.cell 4 44] func283 rfl ntmps283 rfl fun _ _ _ _=>?_;refine lI (fun j st=>∃ e:Nat,st=aee ⟨ae,order,types,.mk rh rp⟩ l e/\e<=l.length/\labW (aC ae) l=labW (aC ae) (l.drop e)/\j=l.length - e) ⟨0,rfl,by omega,rfl,rfl⟩ (bG wB) ?_;rintro j st ⟨e,rfl,he,aP,rfl⟩;rw [aP];refine br ?_ ?_<;>intro hL
 ·have aw:e < l.length:=by simpa [aE] using hL
  obtain ⟨w,hw⟩:=gX aw;have bd:=tR (L:=aC ae) hw;refine dI ?_;refine ⟨kD w,⟨by omega,bg hw⟩,?_⟩;refine cD xA (fQ ae w.s hs) ?_;refine br ?_ ?_<;>intro ha
  ·have ha:=gx.1 ha;rw [bd,aj ha];refine ⟨kD w,⟨by omega,bg hw⟩,?_⟩;exact ⟨_,ax,rfl⟩
  ·rw [ai (fun hn=>by have:=gx.2 hn;rw [ha] at this;cases this)] at bd;exact rE ⟨_,by omega,e + 1,rfl,by omega,bd,rfl⟩ (bG (dH (aX aw (by omega))))
 ·have hge:e=l.length:=by have:=hL;simp [aE] at this;omega
  rw [hge,List.drop_length];exact ⟨_,ax,rfl⟩
def iR (l:List Ty):List (List DV):=l.map eE
theorem eo (l:List Ty):(iR l).length=l.length:=by simp [iR]
theorem kM {l:List Ty} {j:Nat} {t:Ty} (h:l[j]? = some t):(iR l)[j]? = some (eE t):=by simp [iR,h]
def gI (S:Sch):List Ty:=S.types.map fun x=>x.2
def gJ (S:Sch):List Ty:=gI S ++ [S.root]
abbrev aef (S:Sch) (q e:Nat):St:=
 ⟨[aF 1 0,(3,⟨[],.sl 9 (iR ((gI S).take e)) (some 0)⟩),ay 4 e],[ei S],[⟨q,29,9,none⟩]⟩
theorem Gg (S:Sch) (hl:S.types.length<=1099511627776) :
  EvP prog 54 [.agg (ei S)] (.sl 9 (iR (gJ S)) none):=by
 have hN:=ej S.types;obtain ⟨ae,order,types,⟨rh,rp⟩⟩:=S;simp only at hl hN;refine eG 26 [.tmp 2] func54 rfl ntmps54 rfl fun _ _ _ _=>?_;refine lJ (fun e=>aef ⟨ae,order,types,.mk rh rp⟩ e e) types.length (dq 1 ⟨0,29,9,none⟩ rfl rfl rfl pV rfl rfl j8) ?_;intro e he;have gD:(iR ((gI ⟨ae,order,types,.mk rh rp⟩).take e)).length=e:=by simp [iR,gI];omega
 refine br ?_ ?_<;>intro hL
 ·have aw:e < types.length:=by have:=hL;simp [hN] at this;exact this
  obtain ⟨x,hx⟩:=gX aw
  have eK:iR ((gI ⟨ae,order,types,.mk rh rp⟩).take e) ++ [eE x.2]=iR ((gI ⟨ae,order,types,.mk rh rp⟩).take (e + 1)):=by
   rw [List.take_add_one];simp [gI,hx,iR]
  obtain ⟨xw,⟨xh,xp⟩⟩:=x;refine iX (dNms_get hx) ?_;refine ⟨gD,⟨by rw [gD];simp [maxLen];omega,by rw [gD];simp;omega⟩,?_⟩;exact rE ⟨_,by omega,e + 1,rfl,by omega,rfl⟩ (dz 1 (oc (aX aw (by omega)) eK) (gC (aX aw (by omega)) eK))
 ·have hge:e=types.length:=sW hN hL;have My:iR ((gI ⟨ae,order,types,.mk rh rp⟩).take e) ++ [eE (.mk rh rp)]=iR (gJ ⟨ae,order,types,.mk rh rp⟩):=by grind [gI,gJ,iR]
  refine ⟨gD,⟨by rw [gD];simp [maxLen];omega,by rw [gD];simp;omega⟩,?_⟩;rw [<- My];exact ⟨_,ax,rfl⟩
mutual
def flatT:Ty->List Ty
 | .mk h ps=>if h.ag=9 then [] else .mk h ps :: flatP ps
def flatP:Pts->List Ty
 | .nil=>[]
 | .cons p t r=>(if p.bare then [] else flatT t) ++ flatP r
end
mutual
theorem kj:∀ t:Ty,(flatT t).length=t.nn
 | .mk h ps=>by
  have:=tY ps
  grind [flatT,Ty.nn]
theorem tY:∀ ps:Pts,(flatP ps).length=ps.nn
 | .nil=>rfl
 | .cons p t r=>by
  have:=kj t;have:=tY r
  grind [flatP,Pts.nn]
end
theorem LI {P:Program} {f:FuncId} {args:List DV} {e:Nat} {es:List (List DV)} (h:Ev P f args [] [] (fun r _ _=>r = .sl e es none∨(es=[]/\r = .v (.slice none 0 0)))):EvP P f args (.sl e es none):=by
 intro E w vs hE ht hv;refine (h E w vs hE ht hv).mono ?_;rintro e' w' ⟨v,rfl,hM,hs,d,os,E',h1,h2,h3,h4,h5,h6⟩;rcases h6 with rfl | ⟨rfl,rfl⟩
 ·exact ⟨v,rfl,hM,hs,_,os,E',h1,h2,h3,h4,h5,rfl⟩
 ·refine ⟨v,rfl,hM,hs,.sl e [] none,os,E',h1,h2,h3,h4,?_,rfl⟩;unfold Rv at h5 ⊢;exact ⟨_,0,0,h5.1,⟨rfl,aR _⟩,fun hn=>(hn rfl).elim,fun k hk=>by cases hk⟩
abbrev Zu (t:Ty) (L:List Ty) (q e:Nat):St:=
 ⟨[aF 1 0,(3,⟨[],.sl 9 (iR L) (some 0)⟩),ay 4 e],[eE t],[⟨q,29,9,none⟩]⟩
theorem pH:∀ (k:Nat) (t:Ty),t.wt<=k->t.wt<=1099511627776 ->
  EvP prog 55 [.agg (eE t)] (.sl 9 (iR (flatT t)) none)
 | 0,t,hn,_=>by have:=t.cT;omega
 | k + 1,.mk h ps,hn,cQ=>by
  simp only [Ty.wt,Hd.wt] at hn cQ;have fV:=ps.gn;have hc:=ps.fg;have nV:=ps.ie;have OP:=tY ps;refine LI ?_;refine j7 (s:=false) (bt:=[]) (mu:=[9]) (hbt:=fun p hp=>by cases hp) (fr:=false) (P:=prog) tt eT 5000 34 [.tmp 2] func55 rfl ntmps55 rfl (nL rfl) (fun _ _ _ _=>?_);refine br ?_ ?_<;>intro h9
  ·have h9:h.ag=9:=sU h9;have:flatT (.mk h ps)=[]:=by simp [flatT,h9]
   exact .inr ⟨by rw [this];rfl,rfl⟩
  have h9:¬ h.ag=9:=sU h9;have Xs:flatT (.mk h ps) = .mk h ps :: flatP ps:=by simp [flatT,h9]
  refine Zh rfl rfl rfl rfl rfl rfl rfl rfl ?_
  refine aT (fun j st=>∃ (e q:Nat) (L:List Ty),st=Zu (.mk h ps) L q e/\q=L.length/\e<=ps.len/\flatT (.mk h ps)=L ++ flatP (ps.drop e)/\j=ps.len - e) ps.len
   (Zu (.mk h ps) [.mk h ps] 1 0) (dz 1 pV j8) ⟨0,1,_,rfl,rfl,by omega,Xs,by omega⟩ ?_
  rintro j st ⟨e,q,L,rfl,hq,he,aY,rfl⟩
  have Xt:L.length<=1 + ps.nn:=by
   have:=congrArg List.length aY;rw [Xs] at this;simp at this;omega
  refine br ?_ ?_<;>intro hL
  ·have aw:e < ps.len:=by simpa [aM] using hL
   obtain ⟨p,t,hx⟩:=Pts.ff aw;have Fl:=Pts.hZ (mG hx);rw [Pts.drop_cons hx] at aY;simp only [flatP] at aY;obtain ⟨u,us⟩:=t;refine iX (cj hx) ?_;refine br ?_ ?_<;>intro hB
   ·have hB:p.bare=false:=sU hB;have aY:flatT (.mk h ps)=(L ++ flatT (.mk u us)) ++ flatP (ps.drop (e + 1)):=by rw [aY,hB,List.append_assoc];all_goals rfl
    have zV:L.length + (flatT (.mk u us)).length<=1 + ps.nn:=by
     have:=congrArg List.length aY;rw [Xs] at this;simp at this;omega
    have eK:iR L ++ iR (flatT (.mk u us))=iR (L ++ flatT (.mk u us)):=by simp [iR]
    refine iX (cj hx) ?_;refine cP Un (pH k (.mk u us) (by omega) (by omega)) ?_;refine ⟨by rw [eo,hq],⟨by simp only [eo,maxLen];omega,by simp only [eo];omega⟩,?_⟩;exact ⟨Zu (.mk h ps) (L ++ flatT (.mk u us)) (q + (iR (flatT (.mk u us))).length) (e + 1),(dz 1 (oc (aX aw (by omega)) eK) (gC (aX aw (by omega)) eK)),ps.len - (e + 1),by omega,e + 1,_,_,rfl,by rw [eo,List.length_append,hq],by omega,aY,rfl⟩
   ·have hB:p.bare=true:=sU hB;rw [hB] at aY;exact rE ⟨_,by omega,e + 1,q,L,rfl,hq,by omega,aY,rfl⟩ (dz 1 (pX (aX aw (by omega))) (dH (aX aw (by omega))))
  ·have hge:e=ps.len:=by simp [aM] at hL;omega
   rw [hge,Pts.dJ] at aY;simp only [flatP,List.append_nil] at aY;rw [aY];exact ⟨_,ax,.inl rfl⟩
theorem yA (S:Sch) (hl:S.types.length<=1099511627776) (hr:∀ x∈S.types,vK S x.2=true):∀ (k i:Nat),i < S.types.length->k<=99 ->
  EvP prog 123 [.agg (ei S),.v (.int .i64 i),.v (.int .i64 k)] (.v (.int .i64 (oz (endI S (k + 1) i))))
 | k,i,hi,hk=>by
  have hN:=ej S.types;have CY:=fun s=>lx S s hl;have ih:∀ k' j,k=k' + 1->j < S.types.length->EvP prog 123 [.agg (ei S),.v (.int .i64 j),.v (.int .i64 k')] (.v (.int .i64 (oz (endI S (k' + 1) j)))):=fun k' j he hj=>yA S hl hr k' j hj (by omega);obtain ⟨x,hx⟩:∃ x,S.types[i]? = some x:=⟨_,gE hi⟩;have nI:=hr x (mG hx);have gD:=kK S;obtain ⟨xw,⟨xh,xp⟩⟩:=x;have hE:endI S (k + 1) i=if xh.ag=9 then endI S k ((dx (tL S) xh.name.s).getD 0) else some i:=by rw [endI,hx];all_goals rfl
  obtain ⟨ae,order,types,⟨rh,rp⟩⟩:=S;simp only at hl hN hi hx nI gD;refine eG 32 [.tmp 6] func123 rfl ntmps123 rfl fun _ _ _ _=>?_;refine iX (dNms_get hx) ?_;refine br ?_ ?_<;>intro h9
  ·have h9:¬ xh.ag=9:=sU h9;rw [ai h9] at hE;rw [hE];exact (rfl:_=_)
  have h9:xh.ag=9:=sU h9;rw [aj h9] at hE;rw [hE];refine br ?_ ?_<;>intro h1
  ·have h1:k=0:=by have:=h1;simp at this;omega
   subst h1;exact (rfl:_=_)
  have h1:1<=k:=by have:=h1;simp at this;omega
  obtain ⟨k',rfl⟩:∃ k',k=k' + 1:=⟨k - 1,by omega⟩;have TD:=of_decide_eq_true nI h9;obtain ⟨j,hj⟩:∃ j,dx (tL ⟨ae,order,types,.mk rh rp⟩) xh.name.s=some j:=Option.ne_none_iff_exists'.1 TD;have qY:=(dE hj).1;rw [gD] at qY;have hf:=CY xh.name.s;rw [hj] at hf ⊢;have fC:IntKind.i64.wrap (((k' + 1:Nat):Int) - 1)=(k':Int):=by rw [wrap64 (by omega) (by omega)];omega
  refine dI ?_;refine iX (dNms_get hx) ?_;refine cD K3 hf ?_;refine cD PJ (ih k' j rfl qY) ?_ (rA fC);exact (rfl:_=_)
theorem tZ {S:Sch}:∀ {k i j:Nat},endI S k i=some j->endI S (k + 1) i=some j
 | 0,i,j,h=>by cases h
 | k + 1,i,j,h=>by
  rw [endI] at h ⊢
  cases hx:S.types[i]? with
  | none=>rw [hx] at h;cases h
  | some x=>
   rw [hx] at h;simp only at h ⊢;split at h
   ·rename_i h9;rw [aj h9];exact tZ h
   ·rename_i h9;rw [ai h9];exact h
def yB (S:Sch) (k:Nat):List Bool:=(List.range S.types.length).map fun i=>(endI S k i).isSome
theorem se (S:Sch) (k:Nat):(yB S k).length=S.types.length:=by simp [yB]
theorem yC {S:Sch} {k i:Nat} (hi:i < S.types.length):(yB S k).getD i false=(endI S k i).isSome:=by grind [yB]
theorem U8 (S:Sch) (k:Nat):UE (yB S k) (yB S (k + 1)):=by
 intro i h;by_cases hi:i < S.types.length
 ·rw [yC hi] at h ⊢;obtain ⟨j,hj⟩:=Option.isSome_iff_exists.1 h;rw [tZ hj];rfl
 ·grind [se]
theorem RC {S:Sch} {k:Nat} (h:yB S k=yB S (k + 1)):∀ i,endI S (k + 2) i=endI S (k + 1) i:=by
 intro i
 have key:∀ {j:Nat},j < S.types.length->(endI S k j).isSome=(endI S (k + 1) j).isSome:=fun {j} hj=>by
  rw [<- yC hj,<- yC hj,h]
 have same:∀ j,endI S (k + 1) j=endI S k j:=fun j=>by
  cases h1:endI S k j with
  | some m=>exact tZ h1
  | none=>
   cases h2:endI S (k + 1) j with
   | none=>rfl
   | some m=>grind [endI]
 grind [endI]
theorem Bm (S:Sch):∀ k,(∀ i,endI S (k + 1) i=endI S k i)∨k<=x7 (yB S k)
 | 0=>.inr (Nat.zero_le _)
 | k + 1=>by
  rcases Bm S k with h | h
  ·grind [endI]
  ·rcases (x8 (by rw [se,se]) (U8 S k)).1 with h2 | h2
   ·exact .inl (RC h2)
   ·exact .inr (by omega)
theorem Gh {S:Sch}:∀ {k:Nat},S.types.length + 1<=k->∀ i,endI S k i=endI S (S.types.length + 1) i:=by
 have bd:∀ i,endI S (S.types.length + 2) i=endI S (S.types.length + 1) i:=fun i=>by
  rcases Bm S (S.types.length + 1) with h | h
  ·exact h i
  ·grind [Lm,yB,se]
 have key:∀ d i,endI S (S.types.length + 1 + (d + 1)) i=endI S (S.types.length + 1 + d) i:=by
  intro d
  induction d with
  | zero=>exact bd
  | succ d ih=>grind [endI]
 intro k hk i;obtain ⟨d,rfl⟩:∃ d,k=S.types.length + 1 + d:=⟨k - (S.types.length + 1),by omega⟩;clear hk
 induction d with
 | zero=>rfl
 | succ d ih=>rw [key,ih]
theorem yD (S:Sch) (hl:S.types.length<=64) (hr:∀ x∈S.types,vK S x.2=true) (i:Nat) (hi:i < S.types.length) :
  EvP prog 123 [.agg (ei S),.v (.int .i64 i),.v (.int .i64 (99:Nat))] (.v (.int .i64 (oz (endI S (S.types.length + 1) i)))):=by
 have:=yA S (by omega) hr 99 i hi (aR _)
 rwa [Gh (by omega)] at this
abbrev aeg (S:Sch) (k n e:Nat):St:=
 ⟨[aF 2 0,ay 5 k,ay 6 n,ay 7 e],[ei S],[]⟩
theorem yE (S:Sch) (hl:S.types.length<=64) (hs:nmsWt S.types<=1099511627776) (hr:∀ x∈S.types,vK S x.2=true) (s:ByteArray) (i k:Nat) (hi:dx (tL S) s=some i) (hk:endI S (S.types.length + 1) i=some k) :
  EvP prog 57 [.agg (ei S),.v (.string s)] (.v (.int .i64 (firstA S k))):=by
 have hN:=ej S.types;have OU:=(dE hi).1;rw [kK] at OU;have lf:=(rZ hk).1;have hf:=lx S s (by omega);have he:=yD S hl hr i OU;rw [hi] at hf;rw [hk] at he;have hfa:=@oG S;have Lu:=Bb S;obtain ⟨ae,order,types,⟨rh,rp⟩⟩:=S;simp only at hl hs hN OU lf hfa Lu;refine eG 29 [.tmp 4] func57 rfl ntmps57 rfl fun _ _ _ _=>?_;refine dI ?_;refine cD K3 hf ?_;refine cD PJ he ?_;refine lJ (fun e=>aeg ⟨ae,order,types,.mk rh rp⟩ k (firstA ⟨ae,order,types,.mk rh rp⟩ e) e) k (bG wB) ?_;intro e hek;refine br ?_ ?_<;>intro hL
 ·have aw:e < k:=sU hL;obtain ⟨x,hx⟩:∃ x,types[e]? = some x:=⟨_,gE (by omega)⟩;have OW:=iq (mG hx);have h1:=hfa hx;have h2:=Lu e;have h3:=Lu (e + 1);have h4:=kj x.2;obtain ⟨xw,⟨xh,xp⟩⟩:=x;simp only at OW h1 h4;refine iX (dNms_get hx) ?_;refine cP Un (pH _ (.mk xh xp) (aR _) (by omega)) ?_;have zT:IntKind.i64.wrap ((firstA ⟨ae,order,types,.mk rh rp⟩ e:Int) + (iR (flatT (.mk xh xp))).length)=(firstA ⟨ae,order,types,.mk rh rp⟩ (e + 1):Int):=by grind [eo,wrap64]
  exact rE ⟨_,by omega,e + 1,rfl,by omega,rfl⟩ (bG (gC zT (aX aw (by omega))))
 ·have hge:e=k:=by have:=hL;simp at this;omega
  subst hge;exact (rfl:_=_)
theorem LJ {S:Sch} {e:Nat} {x:Wd × Ty} (h:S.types[e]? = some x):(vJ S)[e]? = some x.1:=by simp [vJ,h]
abbrev aeh (S:Sch) (e:Nat):St:=
 ⟨[aF 1 0,aF 2 1,ay 3 e],[ei S,[.v (.int .i64 0),.v (.int .i64 0)]],[]⟩
theorem Da (S:Sch) (hs:nmsWt S.types<=1099511627776) :
  EvP prog 241 [.agg (ei S)] (fj S).d:=by
 have hN:=ej S.types;have gR:=ke S.types;have gD:=Lz S;have hF:=fj.eq_1 S;have j6:=@LJ S;have CY:=fun s=>lx S s (by omega);have hTL:tL S=aC (vJ S):=rfl;obtain ⟨ae,order,types,⟨rh,rp⟩⟩:=S;simp only at hs hN gR gD j6 hF;generalize hQ:vJ ⟨ae,order,types,.mk rh rp⟩=Q at gD hF j6 hTL;refine eG 47 [.cell 2 44] func241 rfl ntmps241 rfl fun _ _ _ _=>?_;generalize fj ⟨ae,order,types,.mk rh rp⟩=F at hF ⊢;refine br ?_ ?_<;>intro h
 ·have h:64 < types.length:=by simp [hN] at h;omega
  obtain ⟨x,hx⟩:∃ x,types[64]? = some x:=⟨_,gE h⟩;have Za:=j6 hx;rw [aj h,lr Za] at hF;obtain ⟨xw,⟨xh,xp⟩⟩:=x;refine iX (dNms_get hx) ?_;refine ⟨_,?_,rfl⟩;rw [hF];exact ax
 have h:¬ 64 < types.length:=by simp [hN] at h;omega
 rw [ai h] at hF;refine lI (fun j st=>∃ e:Nat,st=aeh ⟨ae,order,types,.mk rh rp⟩ e/\e<=types.length/\enumL Q 0 Q=enumL Q e (Q.drop e)/\j=types.length - e) ⟨0,rfl,by omega,rfl,rfl⟩ (bG wB) ?_;rintro j st ⟨e,rfl,he,aP,rfl⟩;rw [aP] at hF;refine br ?_ ?_<;>intro hL
 ·have aw:e < types.length:=by have:=hL;simp [hN] at this;exact this
  obtain ⟨x,hx⟩:=gX aw;have OW:=iq (mG hx);have hq:=j6 hx;have bd:=qE hq;obtain ⟨p,hp,OJ⟩:=RA hq;obtain ⟨xw,⟨xh,xp⟩⟩:=x;simp only [Wd.wt] at OW hq bd hp OJ;have hf:=CY xw.s;rw [hTL,hp] at hf;have hlab:=mX [xw] (by simp only [wdsWt,Wd.wt];omega);have zU:bZ [xw]=if aZ xw.s then (0,0) else (9,xw.a):=by simp [bZ,badWd]
  refine iX (dNms_get hx) ?_;refine cP P6 hlab ?_;refine br ?_ ?_<;>intro hN
  ·have hN:(bZ [xw]).1≠0:=sU hN
   cases bA:aZ xw.s with
   | true=>rw [zU,bA] at hN;exact absurd rfl hN
   | false=>
   rw [bA] at zU;have zU:bZ [xw]=(9,xw.a):=zU;have hf9:aK Q e xw=9:=by simp [aK,bA]
   rw [bd,hf9,aj (by decide)] at hF;refine ⟨_,?_,rfl⟩;rw [hF,zU];exact ax
  ·have hN:(bZ [xw]).1=0:=sU hN
   cases bA:aZ xw.s with
   | false=>rw [zU,bA] at hN;exact absurd hN (by simp)
   | true=>
   refine cP K3 hf ?_;refine br ?_ ?_<;>intro h2
   ·have h2:p < e:=by have:=h2;simp [oz] at this;exact this
    have hf10:aK Q e xw=10:=by simp [aK,bA,OJ.1 h2]
    rw [bd,hf10,aj (by decide)] at hF;refine ⟨_,?_,rfl⟩;rw [hF];exact ax
   ·have h2:¬ p < e:=by have:=h2;simp [oz] at this;omega
    have hd:cY (Q.take e) xw.s=false:=by grind
    have hf0:aK Q e xw=0:=by simp [aK,bA,hd]
    rw [hf0,ai (by simp)] at bd;exact rE ⟨_,by omega,e + 1,rfl,by omega,by rw [aP,bd],rfl⟩ (bG (dH (aX aw (by omega))))
 ·have hge:e=types.length:=sW hN hL;rw [hge,<- gD,List.drop_length] at hF;refine ⟨_,?_,rfl⟩;rw [hF];exact ax
abbrev LK (S:Sch) (t:Ty) (e:Nat):St:=
 ⟨[aF 2 0,aF 3 1,aF 4 2,ay 5 e],[ei S,eE t,[.v (.int .i64 0),.v (.int .i64 0)]],[]⟩
theorem sf (S:Sch) (hl:S.types.length<=1099511627776) (hs:wdsWt S.ae<=1099511627776):∀ (k:Nat) (t:Ty),t.wt<=k->t.wt<=1099511627776 ->
  EvP prog 243 [.agg (ei S),.agg (eE t)] (mC S t).d
 | 0,t,hn,_=>by have:=t.cT;omega
 | k + 1,.mk h ps,hn,cQ=>by
  have ih:=sf S hl hs k;simp only [Ty.wt,Hd.wt] at hn cQ;have fV:=ps.gn;have hf:=lx S h.name.s hl;have hwd:=fun l hl=>Gf S hs l hl;have hS:mC S (.mk h ps)=if h.ag=9/\dx (tL S) h.name.s=none then (15,h.name.a) else knP ⟨aC S.ae,[],[],[],fun _ _=>false⟩ (tL S) ps:=by rw [mC,knT]
  have hS0:knP ⟨aC S.ae,[],[],[],fun _ _=>false⟩ (tL S) ps=knP ⟨aC S.ae,[],[],[],fun _ _=>false⟩ (tL S) (ps.drop 0):=by rw [Pts.drop]
  have hK:∀ e p u,ps.toList[e]? = some (p,u)->knP ⟨aC S.ae,[],[],[],fun _ _=>false⟩ (tL S) (ps.drop e)=if (labW (aC S.ae) p.label).1≠0 then labW (aC S.ae) p.label else if (labW (aC S.ae) p.cl).1≠0 then labW (aC S.ae) p.cl else if p.bare then knP ⟨aC S.ae,[],[],[],fun _ _=>false⟩ (tL S) (ps.drop (e + 1)) else if (mC S u).1≠0 then mC S u else knP ⟨aC S.ae,[],[],[],fun _ _=>false⟩ (tL S) (ps.drop (e + 1)):=fun e p u hx=>by
   rw [Pts.drop_cons hx,knP];all_goals rfl
  have hK0:knP ⟨aC S.ae,[],[],[],fun _ _=>false⟩ (tL S) .nil=(0,0):=by rw [knP]
  generalize knP ⟨aC S.ae,[],[],[],fun _ _=>false⟩ (tL S)=KP at hS hS0 hK hK0;obtain ⟨ae,order,types,⟨rh,rp⟩⟩:=S;refine eG 64 [.cell 4 44] func243 rfl ntmps243 rfl fun _ _ _ _=>?_;generalize mC ⟨ae,order,types,.mk rh rp⟩ (.mk h ps)=F at hS ⊢;refine have body:=?_;br (fun h9=>call_p K3 hf ax rfl (br (fun hx=>?_) (fun hx=>aT (fun j st=>∃ e:Nat,st=LK ⟨ae,order,types,.mk rh rp⟩ (.mk h ps) e/\e<=ps.len/\F=KP (ps.drop e)/\j=ps.len - e) ps.len (LK ⟨ae,order,types,.mk rh rp⟩ (.mk h ps) 0) (bG wB) ⟨0,rfl,by omega,?_,by omega⟩ body))) (fun h9=>aT (fun j st=>∃ e:Nat,st=LK ⟨ae,order,types,.mk rh rp⟩ (.mk h ps) e/\e<=ps.len/\F=KP (ps.drop e)/\j=ps.len - e) ps.len (LK ⟨ae,order,types,.mk rh rp⟩ (.mk h ps) 0) (bG wB) ⟨0,rfl,by omega,?_,by omega⟩ body)
  rotate_left
  ·have h9:h.ag=9:=sU h9;have hx:dx (tL ⟨ae,order,types,.mk rh rp⟩) h.name.s=none:=gx.1 (by simpa [pickB] using hx);rw [aj ⟨h9,hx⟩] at hS;refine ⟨_,?_,rfl⟩;rw [hS];exact ax
  ·have hx:¬ dx (tL ⟨ae,order,types,.mk rh rp⟩) h.name.s=none:=fun hn=>by
    have h3:=gx.2 hn;simp [pickB] at hx;have h3:=of_decide_eq_true h3;omega
   rw [ai (fun hc=>hx hc.2),hS0] at hS;exact hS
  ·grind
  rintro j st ⟨e,rfl,he,aP,rfl⟩;refine br ?_ ?_<;>intro hL
  ·have aw:e < ps.len:=by simpa [aM] using hL
   obtain ⟨p,t,hx⟩:=Pts.ff aw;have Fl:=Pts.hZ (mG hx);have hk:=hK e p t hx;have hw1:wdsWt p.label + wdsWt p.cl<=p.wt:=by simp only [Ph.wt];omega
   obtain ⟨u,us⟩:=t;refine iX (cj hx) ?_;refine cP WO (hwd p.label (by omega)) ?_;refine br ?_ ?_<;>intro b1
   ·have b1:(labW (aC ae) p.label).1=0:=sU b1;rw [ai (by simp [b1])] at hk;refine cP WO (hwd p.cl (by omega)) ?_;refine br ?_ ?_<;>intro b2
    ·have b2:(labW (aC ae) p.cl).1=0/\p.bare=false:=by
      rw [aq] at b2;simpa using b2
     obtain ⟨b2,b3⟩:=b2;rw [ai (by simp [b2]),ai (by simp [b3])] at hk;refine cP P4 (ih (.mk u us) (by omega) (by omega)) ?_;refine br ?_ ?_<;>intro b4
     ·have b4:(mC ⟨ae,order,types,.mk rh rp⟩ (.mk u us)).1≠0:=sU b4;rw [aj b4] at hk
      (refine ⟨_,?_,rfl⟩;rw [aP,hk];exact ax)
     ·have b4:(mC ⟨ae,order,types,.mk rh rp⟩ (.mk u us)).1=0:=sU b4;rw [ai (by simp [b4])] at hk;exact rE ⟨_,by omega,e + 1,rfl,by omega,by rw [aP,hk],rfl⟩ (bG (dH (aX aw (by omega))))
    ·refine br ?_ ?_<;>intro b4
     ·have b4:(labW (aC ae) p.cl).1≠0:=sU b4;rw [aj b4] at hk
      (refine ⟨_,?_,rfl⟩;rw [aP,hk];exact ax)
     ·have b4:(labW (aC ae) p.cl).1=0:=sU b4
      have b3:p.bare=true:=by
       rw [aq] at b2;simpa [b4] using b2
      rw [ai (by simp [b4]),aj b3] at hk;exact rE ⟨_,by omega,e + 1,rfl,by omega,by rw [aP,hk],rfl⟩ (bG (dH (aX aw (by omega))))
   ·have b1:¬ (labW (aC ae) p.label).1=0:=sU b1;rw [aj b1] at hk;refine br ?_ ?_<;>intro b2
    ·rw [aq] at b2;simp [b1] at b2
    ·refine br ?_ ?_<;>intro b4
     ·(refine ⟨_,?_,rfl⟩;rw [aP,hk];exact ax)
     ·simp [b1] at b4
  ·have hge:e=ps.len:=by simp [aM] at hL;omega
   rw [hge,Pts.dJ] at aP;refine ⟨_,?_,rfl⟩;rw [aP,hK0];exact ax
abbrev LL (h:Hd) (ps:Pts) (e:Nat) (depth m:Int):St:=
 ⟨[ay 2 depth,aF 3 0,aF 4 1,aF 6 2,ay 7 e],[[.v (.int .i64 0),.v (.int .i64 0),.v (.int .i64 m)],eE (.mk h ps),[.v (.int .i64 0),.v (.int .i64 0),.v (.int .i64 0)]],[]⟩
theorem Db (k:Nat) (ih:CK k) (h:Hd) (ps:Pts) (depth m:Int) (hk:ps.wt<=k) (cQ:(Ty.mk h ps).wt<=1099511627776) (AL:0<=depth) (sM:depth<=25) (mH:0<=m) (jT:m<=512) :
  EvP prog 242 [wD (0,0) m,.agg (eE (.mk h ps)),.v (.int .i64 depth)] (wD (wrong (.mk h ps) depth m).1 (wrong (.mk h ps) depth m).2):=by
 have A9:=cQ;simp only [Ty.wt,Hd.wt] at A9;have fV:=ps.gn;have YJ:=bM h.af;have sO:IntKind.i64.wrap (m + 1)=m + 1:=wrap64 (by omega) (by omega)
 have hW:∀ e a,EvP prog 278 [.agg [.v (.int .i64 0),.v (.int .i64 0),.v (.int .i64 (IntKind.i64.wrap (m + 1)))],.v (.int .i64 e),.v (.int .i64 a)] (wD (e,a) (m + 1)):=by
  intro e a;rw [sO];exact eU (0,0) (m + 1) e a
 have hS:=wrong.eq_def (.mk h ps) depth m;simp only at hS;refine eG 201 [.cell 6 335] func242 rfl ntmps242 rfl fun _ _ _ _=>?_;refine br ?_ ?_<;>intro c
 ·have c:24 < depth:=of_decide_eq_true c;refine cP il (hW 6 h.at') ?_;rw [aj c] at hS;refine ⟨_,?_,rfl⟩;rw [hS];exact ax
 have c:¬ 24 < depth:=of_decide_eq_false c;rw [ai c] at hS;refine br ?_ ?_<;>intro c
 ·have c:512 < IntKind.i64.wrap (m + 1):=of_decide_eq_true c;rw [sO] at c;refine cP il (hW 8 h.at') ?_;rw [aj c] at hS;refine ⟨_,?_,rfl⟩;rw [hS];exact ax
 have c:¬ 512 < IntKind.i64.wrap (m + 1):=of_decide_eq_false c;rw [sO] at c;rw [ai c] at hS;refine br ?_ ?_<;>intro c
 ·have c:h.ag < 1∨9 < h.ag:=by simpa [au] using c
  refine cP il (hW 14 h.at') ?_;rw [aj c] at hS;refine ⟨_,?_,rfl⟩;rw [hS];exact ax
 have c:¬ (h.ag < 1∨9 < h.ag):=by simp [au] at c;omega
 rw [ai c] at hS;refine cP acA (IA (.mk h ps) (by omega)) ?_;refine br ?_ ?_<;>intro c
 ·have c:xJ (.mk h ps)=false:=by simpa [xJ] using c
  refine cP il (hW 19 h.at') ?_;rw [aj c] at hS;refine ⟨_,?_,rfl⟩;rw [hS];exact ax
 have c:¬ xJ (.mk h ps)=false:=by simpa [xJ] using c
 rw [ai c] at hS;refine br ?_ ?_<;>intro c
 ·have c:(h.ag=2/\h.hi < h.lo)∨(h.ag=3/\(h.most < 0∨4096 < h.most)):=by simp [au,aq] at c;omega
  refine cP il (hW 20 h.at') ?_;rw [aj c] at hS;refine ⟨_,?_,rfl⟩;rw [hS];exact ax
 have c:¬ ((h.ag=2/\h.hi < h.lo)∨(h.ag=3/\(h.most < 0∨4096 < h.most))):=by simp [au,aq] at c;omega
 rw [ai c] at hS;refine br ?_ ?_<;>intro k9
 ·have k9:h.ag=9:=sU k9;refine cP E5 (jI h.name.s (by simp only [Wd.wt] at A9;omega)) ?_;refine br ?_ ?_<;>intro q
  ·have q:aZ h.name.s=false:=by simpa [aq,k9] using q
   refine cP il (hW 9 h.name.a) ?_;rw [aj ⟨k9,q⟩] at hS;refine ⟨_,?_,rfl⟩;rw [hS];exact ax
  ·have q:aZ h.name.s=true:=by simpa [aq,k9] using q
   rw [ai (by simp [q]),ai (by omega),ai (by omega),ai (by omega)] at hS;refine br (fun x=>?_) (fun _=>?_)
   ·have:=of_decide_eq_true x;omega
   refine br (fun x=>?_) (fun _=>?_)
   ·simp [au] at x;omega
   refine br (fun x=>?_) (fun _=>?_)
   ·simp [au] at x;omega
   refine ⟨_,?_,rfl⟩;rw [hS];exact (rA sO)
 ·have k9:¬ h.ag=9:=sU k9;rw [ai (by simp [k9])] at hS;refine br ?_ ?_<;>intro k4
  ·have k4:h.ag=4:=of_decide_eq_true k4;rw [aj k4] at hS;refine br ?_ ?_<;>intro c
   ·have c:h.af=[]:=by simp [aE] at c;exact c
    refine cP il (hW 15 h.at') ?_;refine ⟨_,?_,rfl⟩;rw [hS];simp only [jl,aj c];exact ax
   have c:¬ h.af=[]:=by simp [aE] at c;exact c
   refine br ?_ ?_<;>intro c2
   ·have aw:64 < h.af.length:=by simp [aE] at c2;omega
    obtain ⟨x,hx⟩:=gX aw;refine dS ?_;refine ⟨kD x,⟨by omega,bg hx⟩,?_⟩;refine cD il (hW 8 x.a) ?_;refine ⟨_,?_,rfl⟩;rw [hS];simp only [jl,ai c,aj aw,hx,Option.getD_some];exact ax
   have c2:¬ 64 < h.af.length:=by simp [aE] at c2;omega
   have hE:jl h=enumL h.af 0 h.af:=by simp only [jl,ai c,ai c2]
   rw [hE] at hS
   refine aT (fun j st=>∃ (e:Nat),st=LL h ps e depth (m + 1)/\e<=h.af.length/\enumL h.af 0 h.af=enumL h.af e (h.af.drop e)/\j=h.af.length - e) h.af.length
    (LL h ps 0 depth (m + 1)) (dz 3 (pX sO) (dH sO)) ⟨0,rfl,by omega,rfl,by omega⟩ ?_
   rintro j st ⟨e,rfl,he,aP,rfl⟩;refine br ?_ ?_<;>intro hL
   ·have aw:e < h.af.length:=by simpa [aE] using hL
    obtain ⟨x,hx⟩:=gX aw;rw [drop_cons hx] at aP;simp only [enumL] at aP;refine cP WN (p8 h.af e x (by omega) hx) ?_;refine br ?_ ?_<;>intro hl
    ·have hl:aK h.af e x≠0:=sU hl;rw [aj hl] at aP;refine dS ?_;refine ⟨kD x,⟨by omega,bg hx⟩,?_⟩;refine cD il (eU (0,0) (m + 1) _ x.a) ?_;refine ⟨_,?_,rfl⟩;rw [hS,aP];exact ax
    ·have hl:aK h.af e x=0:=sU hl;rw [ai (by simp [hl])] at aP;exact rE ⟨_,by omega,e + 1,rfl,by omega,aP,rfl⟩ (bG (dH (aX aw (by omega))))
   ·have hge:e=h.af.length:=by simp [aE] at hL;omega
    rw [hge,List.drop_length] at aP;simp only [enumL] at aP;rw [aP] at hS;refine br (fun x=>?_) (fun _=>?_)
    ·simp [au] at x;omega
    refine br (fun x=>?_) (fun _=>?_)
    ·simp [au] at x;omega
    refine ⟨_,?_,rfl⟩;rw [hS];exact ax
  ·have k4:¬ h.ag=4:=of_decide_eq_false k4;rw [ai k4] at hS;refine br ?_ ?_<;>intro k5
   ·have k5:h.ag=5∨h.ag=6:=by simpa [au] using k5
    rw [aj k5] at hS
    cases ps with
    | nil=>
     refine cP il (hW 19 h.at') ?_;refine ⟨_,?_,rfl⟩;rw [hS];simp only [wrongOne];exact ax
    | cons p t r=>
     cases r with
     | cons p2 t2 r2=>
      refine cP il (hW 19 h.at') ?_;refine ⟨_,?_,rfl⟩;rw [hS];simp only [wrongOne];exact ax
     | nil=>
      obtain ⟨u,us⟩:=t;simp only [wrongOne] at hS;simp only [Ty.wt,Pts.wt] at A9 hk;refine ⟨_,⟨by omega,rfl⟩,?_⟩;refine br ?_ ?_<;>intro c
      ·have c:p.name.s=av:=by
        have:=c;simp [au] at this;exact this
       refine ⟨_,⟨by omega,rfl⟩,?_⟩;refine cP P7 (mW p fJ (eE (.mk u us)) (eE de) (by omega) (AO _ _ _ _ _) (AO _ _ _ _ _)) ?_;refine br ?_ ?_<;>intro q
       ·have q:cV p fJ=false:=by simpa [au,c] using q
        refine cP il (hW 19 h.at') ?_;rw [aj (by simp [q])] at hS;refine ⟨_,?_,rfl⟩;rw [hS];exact ax
       ·have q:cV p fJ=true:=by simpa [au,c] using q
        rw [ai (by simp [q,c])] at hS;refine br ?_ ?_<;>intro x
        ·have x:h.most < 0∨1024 < h.most:=by simpa [au] using x
         refine cP il (hW 20 h.at') ?_;rw [aj x] at hS;refine ⟨_,?_,rfl⟩;rw [hS];exact ax
        ·have x:¬ (h.most < 0∨1024 < h.most):=by simp [au] at x;omega
         rw [ai x] at hS;refine dS ?_;refine ⟨_,⟨by omega,rfl⟩,?_⟩;refine cD PZ (ih (.mk u us) (depth + 1) (m + 1) (by simp only [Ty.wt];omega) (by simp only [Ty.wt];omega) (by omega) (by omega) (by omega) (by omega)) ?_ (by repeat' (first | exact rfl | exact trivial | exact Or.inr (Or.inl ⟨_,rfl⟩) | exact Or.inr ⟨_,rfl⟩ | exact Or.inl ⟨rfl,rfl⟩ | exact Or.inl rfl | refine Or.inr ⟨_,_,rfl,Nat.zero_le _,rfl,?_⟩ | refine ⟨_,_,rfl,?_,?_⟩ | refine ⟨_,rfl,?_⟩ | exact congrArg (fun z=>DV.v (.int .i64 z)) sO | exact congrArg (fun z=>DV.v (.int .i64 z)) (wrap64 (by omega) (by omega))| refine Or.inr (Or.inr (Or.inr ⟨_,_,rfl,?_⟩)) | exact Or.inl rfl | refine Or.inr ?_));refine ⟨_,?_,rfl⟩;rw [hS];exact ax
      ·have c:p.name.s≠av:=by
        have:=c;simp [au] at this;exact this
       refine cP il (hW 19 h.at') ?_;rw [aj (.inl c)] at hS;refine ⟨_,?_,rfl⟩;rw [hS];exact ax
   ·have k5:¬ (h.ag=5∨h.ag=6):=by simp [au] at k5;omega
    rw [ai k5] at hS;refine br ?_ ?_<;>intro k7
    ·have k7:h.ag=7∨h.ag=8:=by simpa [au] using k7
     rw [aj k7] at hS;have hP:wrong (.mk h ps) depth m=fv h ps depth (m + 1):=by rw [hS];all_goals rfl
     refine cP acB (CL k ih h ps depth (m + 1) hk cQ AL (by omega) (by omega) (by omega)) ?_ (rA sO);refine ⟨_,?_,rfl⟩;rw [hP];exact ax
    ·have k7:¬ (h.ag=7∨h.ag=8):=by simp [au] at k7;omega
     rw [ai k7] at hS;refine ⟨_,?_,rfl⟩;rw [hS];exact (rA sO)
theorem Bn:∀ k,CK k
 | 0=>fun t depth m hk=>by have:=t.cT;omega
 | k + 1=>fun t depth m hk cQ AL sM mH jT=>by
  obtain ⟨h,ps⟩:=t;have fC:=hk;simp only [Ty.wt,Hd.wt] at fC;exact Db k (Bn k) h ps depth m (by omega) cQ AL sM mH jT
theorem Dc (t:Ty) (depth m:Int) (cQ:t.wt<=1099511627776) (AL:0<=depth) (sM:depth<=25) (mH:0<=m) (jT:m<=512) :
  EvP prog 242 [wD (0,0) m,.agg (eE t),.v (.int .i64 depth)] (wD (wrong t depth m).1 (wrong t depth m).2):=
 Bn t.wt t depth m (aR _) cQ AL sM mH jT
def eaA:List Ty->Int->Ft × Int
 | [],m=>((0,0),m)
 | t :: r,m=>if (cF t m).1.1≠0 then cF t m else eaA r (cF t m).2
theorem RD (z:Ty):∀ (l:List (Wd × Ty)) (m:Int),((eaA (l.map (fun x=>x.2) ++ [z]) m).1.1=0↔(eaR z l m).1.1=0)/\((eaR z l m).1.1≠0->eaA (l.map (fun x=>x.2) ++ [z]) m=eaR z l m)
 | [],m=>by
  show ((eaA [z] m).1.1=0↔(cF z m).1.1=0)/\((cF z m).1.1≠0->eaA [z] m=cF z m)
  grind [eaA,cF]
 | x :: r,m=>by
  have ih:=RD z r (cF x.2 m).2
  grind [eaA,eaR,cF]
def eaK (F:Ty->Ft):List Ty->Ft
 | []=>(0,0)
 | t :: r=>if (F t).1≠0 then F t else eaK F r
theorem RE (F:Ty->Ft) (z:Ty):∀ l:List (Wd × Ty),((eaK F (l.map (fun x=>x.2) ++ [z])).1=0↔(eaL F (F z) l).1=0)/\((eaL F (F z) l).1≠0->eaK F (l.map (fun x=>x.2) ++ [z])=eaL F (F z) l)
 | []=>by
  show ((eaK F [z]).1=0↔(F z).1=0)/\((F z).1≠0->eaK F [z]=F z)
  grind [eaK]
 | x :: r=>by
  have ih:=RE F z r
  grind [eaK,eaL]
theorem Jt {F:Ty->Ft}:∀ {l:List Ty},(eaK F l).1=0->∀ t∈l,(F t).1=0
 | [],_,t,ht=>by cases ht
 | u :: r,h,t,ht=>by
  rw [eaK] at h;split at h
  ·rename_i h1;exact (h1 h).elim
  ·rename_i h1;rcases dB ht with rfl | ht
   ·simpa using h1
   ·exact Jt h t ht
theorem LM (S:Sch):lF S=if (latF S.ae S.order).1≠0 then latF S.ae S.order
 else if (fj S).1≠0 then fj S
 else if (eaA (gJ S) 0).1.1≠0 then (eaA (gJ S) 0).1
 else if (eaK (mC S) (gJ S)).1≠0 then eaK (mC S) (gJ S)
 else loopF S:=by
 have h1:=RD S.root S.types 0;have h2:=RE (mC S) S.root S.types;unfold lF gJ gI;by_cases a:(eaR S.root S.types 0).1.1=0
 ·grind
 ·grind
abbrev Zv (S:Sch) (T:List Ty) (m:Int) (e:Nat):St:=
 ⟨[aF 1 0,aF 2 1,bi 5 9 (iR T),ay 6 m,ay 7 e],[ei S,[.v (.int .i64 0),.v (.int .i64 0)]],[]⟩
abbrev aei (S:Sch) (T:List Ty) (e:Nat):St:=
 ⟨[aF 1 0,aF 2 1,bi 5 9 (iR T),ay 11 e],[ei S,[.v (.int .i64 0),.v (.int .i64 0)]],[]⟩
abbrev Zw (S:Sch) (e:Nat):St:=
 ⟨[aF 1 0,aF 2 1,ay 13 e],[ei S,[.v (.int .i64 0),.v (.int .i64 0)]],[]⟩
theorem Dd {S:Sch} (hs:S.wt<=1099511627776):∀ t∈gJ S,t.wt<=1099511627776:=by
 intro t ht;unfold Sch.wt at hs;rcases List.mem_append.1 ht with h | h
 ·obtain ⟨x,hx,rfl⟩:=List.mem_map.1 h;have:=iq hx;omega
 all_goals grind
theorem De (S:Sch) (hs:S.wt<=1099511627776):EvP prog 185 [.agg (ei S)] (lF S).d:=by
 have hAl:=Dd hs;unfold Sch.wt at hs;have hN:=ej S.types;have gR:=ke S.types;have gg:=C9 S.ae S.order (by omega) (by omega);have aej:=Da S (by omega);have iO:=Gg S (by omega);have aek:=fun t ht=>sf S (by omega) (by omega) _ t (aR _) (hAl t ht);have hF:=LM S;have hlen:(gJ S).length=S.types.length + 1:=by simp [gJ,gI]
 have hnF:(fj S).1=0->S.types.length<=64:=fun h=>by grind [fj]
 obtain ⟨ae,order,types,⟨rh,rp⟩⟩:=S;simp only at hs hN gR gg aej hlen hnF hF;generalize hT:gJ ⟨ae,order,types,.mk rh rp⟩=T at hAl iO aek hlen hF;refine eG 104 [.cell 2 44] func185 rfl ntmps185 rfl fun _ _ _ _=>?_;generalize lF ⟨ae,order,types,.mk rh rp⟩=F at hF ⊢;refine cP acn gg ?_;refine br ?_ ?_<;>intro h1
 ·have h1:(latF ae order).1≠0:=sU h1;rw [aj h1] at hF;refine ⟨_,?_,rfl⟩;rw [hF];exact ax
 have h1:(latF ae order).1=0:=sU h1;rw [ai (by simp [h1])] at hF;refine cP aco aej ?_;refine br ?_ ?_<;>intro h2
 ·have h2:(fj ⟨ae,order,types,.mk rh rp⟩).1≠0:=sU h2;rw [aj h2] at hF;refine ⟨_,?_,rfl⟩;rw [hF];exact ax
 have h2:(fj ⟨ae,order,types,.mk rh rp⟩).1=0:=sU h2;rw [ai (by simp [h2])] at hF;have U9:=hnF h2;refine cP abK iO ?_
 refine aT (fun j st=>∃ (e:Nat) (m:Int),st=Zv ⟨ae,order,types,.mk rh rp⟩ T m e/\e<=types.length + 1/\0<=m/\m<=512/\eaA T 0=eaA (T.drop e) m/\j=types.length + 1 - e) (types.length + 1)
  (Zv ⟨ae,order,types,.mk rh rp⟩ T 0 0) (bG wB) ⟨0,0,rfl,by omega,by omega,by omega,rfl,by omega⟩ ?_
 rintro j st ⟨e,m,rfl,he,mH,jT,aP,rfl⟩;refine br ?_ ?_<;>intro hL
 ·have aw:e < types.length + 1:=by have:=hL;simp [eo,hlen] at this;omega
  obtain ⟨t,ht⟩:∃ t,T[e]? = some t:=⟨_,gE (by omega)⟩;have Q1:=hAl t (mG ht);have bd:eaA (T.drop e) m=if (cF t m).1.1≠0 then cF t m else eaA (T.drop (e + 1)) (cF t m).2:=by rw [drop_cons ht,eaA]
  have Zx:cF t m=if (wrong t 1 0).1.1≠0 then ((wrong t 1 0).1,m) else if 512 < m + t.cnt then ((8,t.h.at'),m + t.cnt) else ((0,0),m + t.cnt):=rfl
  have HX:=Dc t 1 0 Q1 (by omega) (by omega) (by omega) (by omega);have cf:=lk _ t (aR _) Q1;have Cv:=t.fg;obtain ⟨u,us⟩:=t;refine iX (kM ht) ?_;refine cP PZ HX ?_;refine br ?_ ?_<;>intro g1
  ·have g1:(wrong (.mk u us) 1 0).1.1≠0:=sU g1;rw [aj g1] at Zx;rw [aP,bd,Zx,aj g1,aj g1] at hF;refine ⟨_,?_,rfl⟩;rw [hF];exact ax
  have g1:(wrong (.mk u us) 1 0).1.1=0:=sU g1;rw [ai (by simp [g1])] at Zx;refine iX (kM ht) ?_;refine cP K2 cf ?_;have zT:IntKind.i64.wrap (m + ((Ty.mk u us).cnt:Int))=m + (Ty.mk u us).cnt:=wrap64 (by omega) (by omega);refine br ?_ ?_<;>intro g2
  ·have g2:512 < IntKind.i64.wrap (m + ((Ty.mk u us).cnt:Int)):=of_decide_eq_true g2;rw [zT] at g2;rw [aj g2] at Zx;rw [aP,bd,Zx,aj (by simp),aj (by simp)] at hF;refine iX (kM ht) ?_;refine ⟨_,?_,rfl⟩;rw [hF];exact ax
  ·have g2:¬ 512 < IntKind.i64.wrap (m + ((Ty.mk u us).cnt:Int)):=of_decide_eq_false g2;rw [zT] at g2;rw [ai g2] at Zx;rw [Zx,ai (by simp)] at bd;exact ⟨Zv ⟨ae,order,types,.mk rh rp⟩ T (m + (Ty.mk u us).cnt) (e + 1),(bG (gC zT (aX aw (by omega)))),types.length + 1 - (e + 1),by omega,e + 1,_,rfl,by omega,by omega,by omega,by rw [aP,bd],rfl⟩
 have hge:e=types.length + 1:=by have:=hL;simp [eo,hlen] at this;omega
 rw [aP,List.drop_of_length_le (by omega),show eaA [] m=((0,0),m) from rfl,ai (by simp)] at hF
 refine aT (fun j st=>∃ (e:Nat),st=aei ⟨ae,order,types,.mk rh rp⟩ T e/\e<=types.length + 1/\eaK (mC ⟨ae,order,types,.mk rh rp⟩) T=eaK (mC ⟨ae,order,types,.mk rh rp⟩) (T.drop e)/\j=types.length + 1 - e) (types.length + 1)
  (aei ⟨ae,order,types,.mk rh rp⟩ T 0) (bG wB) ⟨0,rfl,by omega,rfl,by omega⟩ ?_
 clear aP hL hge he e;rintro j st ⟨e,rfl,he,aP,rfl⟩;refine br ?_ ?_<;>intro hL
 ·have aw:e < types.length + 1:=by have:=hL;simp [eo,hlen] at this;omega
  obtain ⟨t,ht⟩:∃ t,T[e]? = some t:=⟨_,gE (by omega)⟩;have bd:eaK (mC ⟨ae,order,types,.mk rh rp⟩) (T.drop e)=if (mC ⟨ae,order,types,.mk rh rp⟩ t).1≠0 then mC ⟨ae,order,types,.mk rh rp⟩ t else eaK (mC ⟨ae,order,types,.mk rh rp⟩) (T.drop (e + 1)):=by rw [drop_cons ht,eaK]
  have hu:=aek t (mG ht);obtain ⟨u,us⟩:=t;apply pq (fun _=>false) 5 6 [0,1,2,3,4,5,6,7] [0,1,2,3,4,6,5,7] 2 2 mo (by decide +kernel)
  ·refine iX (kM ht) ?_;refine cD P4 hu ?_;refine (?_:@Eq St _ _);exact rfl
  ·refine iX (kM ht) ?_;refine cD P4 hu ?_;refine (⟨rfl,rfl,?_⟩:_/\_/\_)
   repeat' (first | exact trivial | refine ⟨rfl,?_⟩)
  ·rfl
  refine br ?_ ?_<;>intro g
  ·have g:(mC ⟨ae,order,types,.mk rh rp⟩ (.mk u us)).1≠0:=sU g;rw [aP,bd,aj g,aj g] at hF;refine ⟨_,?_,rfl⟩;rw [hF];exact ax
  ·have g:(mC ⟨ae,order,types,.mk rh rp⟩ (.mk u us)).1=0:=sU g;rw [ai (by simp [g])] at bd;exact rE ⟨_,by omega,e + 1,rfl,by omega,by rw [aP,bd],rfl⟩ (bG (dH (aX aw (by omega))))
 have hge:e=types.length + 1:=by have:=hL;simp [eo,hlen] at this;omega
 have Pr:(eaK (mC ⟨ae,order,types,.mk rh rp⟩) T).1=0:=by rw [aP,List.drop_of_length_le (by omega)];all_goals rfl
 rw [aP,List.drop_of_length_le (by omega),show eaK (mC ⟨ae,order,types,.mk rh rp⟩) []=(0,0) from rfl,ai (by simp)] at hF
 have Xi:∀ x∈types,vK ⟨ae,order,types,.mk rh rp⟩ x.2=true:=fun x hx=>C5 (Jt Pr x.2 (by
  rw [<- hT]
  exact List.mem_append_left _ (List.mem_map_of_mem hx)))
 have he99:=yD ⟨ae,order,types,.mk rh rp⟩ U9 Xi
 have hlo:F=match cm (fun i=>(endI ⟨ae,order,types,.mk rh rp⟩ (types.length + 1) i).isNone) types.length with
  | none=>(0,0)
  | some i=>(11,Y5 (vJ ⟨ae,order,types,.mk rh rp⟩) i):=hF
 refine aT (fun j st=>∃ e:Nat,st=Zw ⟨ae,order,types,.mk rh rp⟩ e/\e<=types.length/\(∀ i,i < e->(endI ⟨ae,order,types,.mk rh rp⟩ (types.length + 1) i).isNone=false)/\j=types.length - e) types.length
  (Zw ⟨ae,order,types,.mk rh rp⟩ 0) (bG wB) ⟨0,rfl,by omega,fun _ h=>by omega,by omega⟩ ?_
 clear aP hL hge he e;rintro j st ⟨e,rfl,he,iA,rfl⟩;refine br ?_ ?_<;>intro hL
 ·have aw:e < types.length:=by have:=hL;simp [hN] at this;exact this
  obtain ⟨x,hx⟩:=gX aw;have Za:(vJ ⟨ae,order,types,.mk rh rp⟩)[e]? = some x.1:=LJ hx;have h9:=he99 e aw;obtain ⟨xw,⟨xh,xp⟩⟩:=x;refine cP PJ h9 ?_;refine br ?_ ?_<;>intro g
  ·have g:endI ⟨ae,order,types,.mk rh rp⟩ (types.length + 1) e=none:=gx.1 g;have Ef:=dc (p:=fun i=>(endI ⟨ae,order,types,.mk rh rp⟩ (types.length + 1) i).isNone) aw (by simp only [g];rfl) iA;rw [Ef] at hlo;simp only [lr Za] at hlo;refine iX (dNms_get hx) ?_;refine ⟨_,?_,rfl⟩;rw [hlo];exact ax
  ·have g:¬ endI ⟨ae,order,types,.mk rh rp⟩ (types.length + 1) e=none:=fun hn=>by have h3:=gx.2 hn;rw [g] at h3;cases h3
   refine ⟨Zw ⟨ae,order,types,.mk rh rp⟩ (e + 1),(bG (dH (aX aw (by omega)))),types.length - (e + 1),by omega,e + 1,rfl,by omega,fun i hi=>?_,rfl⟩;rcases mD hi with hi | rfl
   ·exact iA i hi
   ·exact Option.isNone_eq_false_iff.2 (Option.isSome_iff_ne_none.2 g)
 ·have hge:e=types.length:=sW hN hL;rw [hge] at iA;rw [dO iA] at hlo;refine ⟨_,?_,rfl⟩;rw [hlo];exact ax
theorem bH {l:List Ed} {i:Nat} {e:Ed} (h:l[i]? = some e):(iM l)[i]? = some (zW e):=by simp [iM,h]
def Va (lev:List Wd->Int) (s:Sch) (t:Ty) (k:Nat):Nd:=⟨t.h.ag,t.h.at',t.h.lo,t.h.hi,t.h.most,aC t.h.af,edsP lev s t.ps (k + 1)⟩
mutual
theorem wm (lev:List Wd->Int) (s:Sch):∀ (t:Ty) (k:Nat),ndsT lev s t k=(flatT t).zipIdx.map fun x=>Va lev s x.1 (k + x.2)
 | .mk h ps,k=>by
  have ih:=Df lev s ps (k + 1);rw [ndsT,flatT];split
  ·rfl
  ·rw [ih,List.zipIdx_cons,List.map_cons];rw [List.zipIdx_succ,List.map_map];refine congr (congrArg List.cons rfl) (List.map_congr_left fun x _=>?_);simp only [Function.comp];congr 1;omega
theorem Df (lev:List Wd->Int) (s:Sch):∀ (ps:Pts) (k:Nat),yq lev s ps k=(flatP ps).zipIdx.map fun x=>Va lev s x.1 (k + x.2)
 | .nil,k=>rfl
 | .cons p u r,k=>by
  rw [yq,flatP,List.zipIdx_append,List.map_append]
  cases hb:p.bare with
  | true=>
   simp only [if_true,List.zipIdx_nil,List.map_nil,List.nil_append,List.length_nil,Nat.add_zero];exact Df lev s r k
  | false=>
   simp only [Bool.false_eq_true,if_false];rw [wm lev s u k,Df lev s r (k + u.nn),kj];refine congrArg _ ?_;rw [List.zipIdx_eq_map_add (l:=flatP r) (i:=0 + u.nn)];rw [List.map_map];refine List.map_congr_left fun x _=>?_;simp only [Function.comp];congr 1;omega
end
theorem Dg {X:Lx} {L:List ByteArray}:∀ {ps:Pts},(knP X L ps).1=0->∀ {p:Ph} {u:Ty},(p,u)∈ps.toList->p.bare=false->(knT X L u).1=0
 | .nil,_,p,u,h,_=>by cases h
 | .cons q v r,hk,p,u,h,hb=>by
  rcases dB h with h | h
  ·cases h;exact (tT hk).1 hb
  ·exact Dg (tT hk).2 h hb
theorem ua {w:Int} (h:decide (w=0)=true):l6 w=3:=by unfold l6;rw [aj (of_decide_eq_true h)]
theorem ub {w:Int} (h:decide (w=0)=false):l6 w=w:=by unfold l6;rw [ai (of_decide_eq_false h)]
theorem gV {L:List Ed} {lev:List Wd->Int} {p:Ph} {to w z:Int} (hw:l6 p.wide=w) (ht:to=z):iM L ++ [[.v (.string p.name.s),.v (.bool p.bare),.v (.int .i64 p.name.a),.v (.int .i64 z),.v (.int .i64 (lev p.label)),.v (.int .i64 w),.v (.int .i64 p.ck),.v (.int .i64 p.cn),.v (.int .i64 (lev p.cl)),.v (.int .i64 p.ca)]]=iM (L ++ [yp lev p to]):=by
 subst hw ht;simp [iM,zW,yp]
abbrev ael (S:Sch) (f:Nat->Nat->Bool) (t:Ty) (me:Nat) (q e:Nat):St:=
 ⟨[bi 1 1 (dL (eB S.ae.length f)),ay 3 me,aF 4 0,aF 6 1,aF 8 2,aF 9 3,ay 10 e],
  [ei S,eE t,[.v (.int .i64 0),.v (.int .i64 0),.v (.int .i64 0),.v (.int .i64 0),.v (.int .i64 0),.v (.slice none 0 0),.v (.slice none 0 0)],
  [.v (.int .i64 t.h.ag),.v (.int .i64 t.h.at'),.v (.int .i64 t.h.lo),.v (.int .i64 t.h.hi),.v (.int .i64 t.h.most),.sl 1 (fq (aC (t.h.af.take e))) (some 0),.v (.slice none 0 0)]],[⟨q,9,1,none⟩]⟩
abbrev Gi (S:Sch) (f:Nat->Nat->Bool) (t:Ty) (q1 q2:Nat) (L:List Ed) (nx e:Nat):St:=
 ⟨[bi 1 1 (dL (eB S.ae.length f)),aF 4 0,aF 6 1,aF 8 2,aF 9 3,ay 11 nx,ay 12 e],
  [ei S,eE t,[.v (.int .i64 0),.v (.int .i64 0),.v (.int .i64 0),.v (.int .i64 0),.v (.int .i64 0),.v (.slice none 0 0),.v (.slice none 0 0)],
  [.v (.int .i64 t.h.ag),.v (.int .i64 t.h.at'),.v (.int .i64 t.h.lo),.v (.int .i64 t.h.hi),.v (.int .i64 t.h.most),.sl 1 (fq (aC t.h.af)) (some 0),.sl 10 (iM L) (some 1)]],[⟨q1,9,1,none⟩,⟨q2,144,10,none⟩]⟩
set_option maxHeartbeats 2000000 in
theorem Ju (S:Sch) (hS:S.wt<=1099511627776) (hl:(latF S.ae S.order).1=0) (U9:S.types.length<=64) (hr:∀ x∈S.types,vK S x.2=true) (hlo:∀ i,i < S.types.length->∃ k,endI S (S.types.length + 1) i=some k)
  (t:Ty) (ht:t.wt<=1099511627776) (hk:(mC S t).1=0) (me:Nat) (hme:me<=1099511627776) :
  EvP prog 56 [.agg (ei S),.sl 1 (dL (eB S.ae.length (fo S.ae.length (dN (aC S.ae) S.order)))) none,.agg (eE t),.v (.int .i64 me)] (.agg (kg (Va (ju S) S t me))):=by
 obtain ⟨hL,Ro⟩:=l8 hl;have kB:=hL.pos;unfold Sch.wt at hS;have Jf:=fun l (h:wdsWt l<=1099511627776)=>NC S.ae (fo S.ae.length (dN (aC S.ae) S.order)) kB Ro (by omega) l h;have hls:∀ l,ju S l=C0 (fo S.ae.length (dN (aC S.ae) S.order)) (aC S.ae) l:=fun _=>rfl;have yF:=fun s i k=>yE S U9 (by omega) hr s i k;have gD:=kK S;generalize fo S.ae.length (dN (aC S.ae) S.order)=f at Jf hls ⊢;obtain ⟨h,ps⟩:=t;have Zf:=(np hk).2;simp only [Ty.wt,Hd.wt] at ht;have fV:=ps.gn;have hc:=ps.fg;have nV:=ps.ie;have hwl:=bM h.af;generalize hlv:ju S=lev at hls ⊢;obtain ⟨ae,order,types,⟨rh,rp⟩⟩:=S;simp only at hS U9 hr hlo Jf hls yF gD Zf;refine eG 131 [.cell 8 132] func56 rfl ntmps56 rfl fun _ _ _ _=>?_;refine lJ (fun e=>ael ⟨ae,order,types,.mk rh rp⟩ f (.mk h ps) me e e) h.af.length (dq 4 ⟨0,9,1,none⟩ rfl rfl rfl pV rfl rfl j8) ?_;intro e he;refine br ?_ ?_<;>intro hL
 ·have aw:e < h.af.length:=by have:=hL;simp [aE] at this;exact this
  obtain ⟨w,hw⟩:=gX aw;have eK:=kb hw;have fA:(fq (aC (h.af.take e))).length=e:=by simp [fq,aC];omega
  refine dS ?_;refine iX (bg hw) ?_;refine ⟨fA,⟨by simp only [Ty.h];rw [fA];simp [maxLen];omega,by simp only [Ty.h];rw [fA];simp;omega⟩,?_⟩;exact rE ⟨_,by omega,e + 1,rfl,by omega,rfl⟩ (dz 4 (oc (aX aw (by omega)) eK) (gC (aX aw (by omega)) eK))
 have hge:e=h.af.length:=by have:=hL;simp [aE] at this;omega
 have aem:IntKind.i64.wrap ((me:Int) + 1)=((me + 1:Nat):Int):=by rw [wrap64 (by omega) (by omega)];omega
 have Ic:fq (aC (h.af.take e))=fq (aC h.af):=by rw [hge,List.take_length]
 refine aT (fun j st=>∃ (e q nx:Nat) (L:List Ed),st=Gi ⟨ae,order,types,.mk rh rp⟩ f (.mk h ps) h.af.length q L nx e/\q=e/\L.length=e/\e<=ps.len/\nx + (ps.drop e).nn=me + 1 + ps.nn/\edsP lev ⟨ae,order,types,.mk rh rp⟩ ps (me + 1)=L ++ edsP lev ⟨ae,order,types,.mk rh rp⟩ (ps.drop e) nx/\j=ps.len - e) ps.len
  (Gi ⟨ae,order,types,.mk rh rp⟩ f (.mk h ps) e 0 [] (me + 1) 0) (dq 4 ⟨0,144,10,none⟩ rfl rfl rfl (oc aem Ic) rfl rfl (gC aem Ic)) ⟨0,0,me + 1,[],by rw [hge],rfl,rfl,by omega,rfl,rfl,by omega⟩ ?_
 clear he hL hge Ic e;rintro j st ⟨e,q,nx,L,rfl,hq,Xt,he,I6,aP,rfl⟩;refine br ?_ ?_<;>intro hL
 ·have aw:e < ps.len:=by simpa [aM] using hL
  obtain ⟨p,u,hx⟩:=Pts.ff aw;have Fl:=Pts.hZ (mG hx);have hw1:p.name.wt + wdsWt p.label + wdsWt p.cl<=p.wt:=by simp only [Ph.wt];omega
  rw [Pts.drop_cons hx,edsP] at aP;rw [Pts.drop_cons hx,Pts.nn] at I6;have Ar:=Jf p.label (by omega);have Xb:=Jf p.cl (by omega);unfold Nk at Ar Xb;rw [<- hls] at Ar Xb;obtain ⟨uh,us⟩:=u;refine iX (cj hx) ?_;refine br ?_ ?_<;>intro hw
  all_goals
   refine cP Wq Ar ?_;refine cP Wq Xb ?_;have fA:(iM L).length=q:=by rw [cW,Xt,hq]
   refine br ?_ ?_<;>intro hB
   ·have hB:p.bare=true:=hB;have nJ:wh ⟨ae,order,types,.mk rh rp⟩ p (.mk uh us) nx = -1:=by simp [wh,hB]
    rw [hB] at aP I6;refine ⟨fA,⟨by rw [fA];simp [maxLen];omega,by rw [fA];simp;omega⟩,?_⟩;exact ⟨Gi ⟨ae,order,types,.mk rh rp⟩ f (.mk h ps) h.af.length (q + 1) (L ++ [yp lev p (wh ⟨ae,order,types,.mk rh rp⟩ p (.mk uh us) nx)]) nx (e + 1),(dz 4 (by repeat' (first | exact rfl | exact aA rfl | exact aD (aX aw (by omega)) | exact cR (gV (ua hw) nJ) rfl | exact cR (gV (ub hw) nJ) rfl | refine ⟨_,_,rfl,?_,?_⟩)) (by repeat' (first | exact trivial | exact aA rfl | exact aD (aX aw (by omega)) | exact cR (gV (ua hw) nJ) rfl | exact cR (gV (ub hw) nJ) rfl | refine ⟨⟨_,rfl,?_⟩,?_⟩))),ps.len - (e + 1),by omega,e + 1,q + 1,nx,_,rfl,by omega,by simp [Xt],by omega,by rw [<- I6];simp,by rw [aP];simp,rfl⟩
   ·have hB:p.bare=false:=hB;have jz:=Dg Zf (mG hx) hB;refine br ?_ ?_<;>intro h9
    ·have h9:uh.ag=9:=sU h9;obtain ⟨i,hi⟩:=Option.ne_none_iff_exists'.1 ((np jz).1 h9);obtain ⟨k,hk⟩:=hlo i (by have:=(dE hi).1;omega);have nJ:wh ⟨ae,order,types,.mk rh rp⟩ p (.mk uh us) nx=(firstA ⟨ae,order,types,.mk rh rp⟩ k:Int):=by simp [wh,hB,oH,Ty.h,h9,Ze,hi,namedN,hk]
     refine cP abL (yF uh.name.s i k hi hk) ?_;refine ⟨fA,⟨by rw [fA];simp [maxLen];omega,by rw [fA];simp;omega⟩,?_⟩;exact ⟨Gi ⟨ae,order,types,.mk rh rp⟩ f (.mk h ps) h.af.length (q + 1) (L ++ [yp lev p (wh ⟨ae,order,types,.mk rh rp⟩ p (.mk uh us) nx)]) nx (e + 1),(dz 4 (by repeat' (first | exact rfl | exact aA rfl | exact aD (aX aw (by omega)) | exact cR (gV (ua hw) nJ) rfl | exact cR (gV (ub hw) nJ) rfl | refine ⟨_,_,rfl,?_,?_⟩)) (by repeat' (first | exact trivial | exact aA rfl | exact aD (aX aw (by omega)) | exact cR (gV (ua hw) nJ) rfl | exact cR (gV (ub hw) nJ) rfl | refine ⟨⟨_,rfl,?_⟩,?_⟩))),ps.len - (e + 1),by omega,e + 1,q + 1,nx,_,rfl,by omega,by simp [Xt],by omega,by rw [<- I6];simp [hB,Ty.nn,h9],by rw [aP];simp [hB,Ty.nn,h9],rfl⟩
    ·have h9:¬ uh.ag=9:=sU h9;have nJ:wh ⟨ae,order,types,.mk rh rp⟩ p (.mk uh us) nx=(nx:Int):=by simp [wh,hB,oH,Ty.h,h9]
     have hnn:=(Ty.mk uh us).ie;have OV:=(Ty.mk uh us).fg
     have zT:IntKind.i64.wrap ((nx:Int) + (iR (flatT (.mk uh us))).length)=((nx + (Ty.mk uh us).nn:Nat):Int):=by
      rw [eo,kj,wrap64 (by omega) (by omega)];omega
     refine cP Un (pH _ (.mk uh us) (aR _) (by omega)) ?_;refine ⟨fA,⟨by rw [fA];simp [maxLen];omega,by rw [fA];simp;omega⟩,?_⟩;exact ⟨Gi ⟨ae,order,types,.mk rh rp⟩ f (.mk h ps) h.af.length (q + 1) (L ++ [yp lev p (wh ⟨ae,order,types,.mk rh rp⟩ p (.mk uh us) nx)]) (nx + (Ty.mk uh us).nn) (e + 1),(dz 4 (by repeat' (first | exact rfl | exact aA rfl | exact aD (aX aw (by omega)) | exact aD zT | exact cR (gV (ua hw) nJ) rfl | exact cR (gV (ub hw) nJ) rfl | refine ⟨_,_,rfl,?_,?_⟩)) (by repeat' (first | exact trivial | exact aA rfl | exact aD (aX aw (by omega)) | exact aD zT | exact cR (gV (ua hw) nJ) rfl | exact cR (gV (ub hw) nJ) rfl | refine ⟨⟨_,rfl,?_⟩,?_⟩))),ps.len - (e + 1),by omega,e + 1,q + 1,(nx + (Ty.mk uh us).nn),_,rfl,by omega,by simp [Xt],by omega,by rw [<- I6];simp [hB];omega,by rw [aP];simp [hB],rfl⟩
 have hge:e=ps.len:=by simp [aM] at hL;omega
 rw [hge,Pts.dJ,edsP,List.append_nil] at aP;unfold Va;simp only [Ty.h,Ty.ps];rw [aP];exact ⟨_,ax,rfl⟩
def ndsA (lev:List Wd->Int) (s:Sch):List Ty->Nat->List Nd
 | [],_=>[]
 | t :: r,k=>ndsT lev s t k ++ ndsA lev s r (k + t.nn)
def uc (l:List Ty):Nat:=(l.map Ty.nn).sum
theorem oN (t:Ty) (l:List Ty):uc (t :: l)=t.nn + uc l:=by simp [uc]
theorem wo (a b:List Ty):uc (a ++ b)=uc a + uc b:=by simp [uc]
theorem mb (lev:List Wd->Int) (s:Sch):∀ (l:List Ty) (k:Nat),(ndsA lev s l k).length=uc l
 | [],_=>rfl
 | t :: r,k=>by simp only [ndsA,List.length_append,kL,mb lev s r,oN]
theorem yG (lev:List Wd->Int) (s:Sch):∀ (a b:List Ty) (k:Nat),ndsA lev s (a ++ b) k=ndsA lev s a k ++ ndsA lev s b (k + uc a)
 | [],b,k=>by simp [ndsA,uc]
 | t :: r,b,k=>by rw [List.cons_append,ndsA,ndsA,yG lev s r b,List.append_assoc,oN,Nat.add_assoc]
theorem yH (lev:List Wd->Int) (s:Sch):∀ (l:List (Wd × Ty)) (k:Nat),ndsAll lev s l k=ndsA lev s (l.map fun x=>x.2) k
 | [],_=>rfl
 | x :: r,k=>by rw [ndsAll,List.map_cons,ndsA,yH lev s r]
theorem yI (s:Sch):(sa s).length=uc (gI s):=by rw [sa,yH,mb];all_goals rfl
theorem kk (s:Sch):aQ s=ndsA (ju s) s (gJ s) 0:=by
 unfold aQ gJ;rw [yG,yI,sa,yH,ndsA,ndsA,List.append_nil,Nat.zero_add];rfl
theorem NE {lev:List Wd->Int} {s:Sch} {l:List Ty} {e:Nat} {t:Ty} (h:l[e]? = some t):ndsA lev s (l.take (e + 1)) 0=ndsA lev s (l.take e) 0 ++ ndsT lev s t (ndsA lev s (l.take e) 0).length:=by
 rw [List.take_add_one,h,yG,mb,Nat.zero_add];simp [ndsA]
theorem Gj (l:List Ty):∀ e,uc (l.take e)<=uc l:=by
 intro e;have:=wo (l.take e) (l.drop e);rw [List.take_append_drop] at this;omega
theorem Jv (s:Sch):uc (gJ s)<=s.wt:=by
 have key:∀ l:List (Wd × Ty),uc (l.map fun x=>x.2)<=nmsWt l:=by
  intro l
  induction l with
  | nil=>exact aR _
  | cons x r ih=>
   have:=x.2.ie;have:=x.2.fg
   grind [oN,nmsWt]
 have h1:=key s.types;have h2:=s.root.ie;have h3:=s.root.fg
 grind [gJ,wo,oN,Sch.wt,gI,uc]
mutual
theorem yJ {X:Lx} {L:List ByteArray}:∀ (t:Ty),(knT X L t).1=0->∀ u∈flatT t,(knT X L u).1=0
 | .mk h ps,hk,u,hu=>by
  rw [flatT] at hu;split at hu
  ·cases hu
  ·rcases dB hu with rfl | hu
   ·exact hk
   ·exact Gk ps (np hk).2 u hu
theorem Gk {X:Lx} {L:List ByteArray}:∀ (ps:Pts),(knP X L ps).1=0->∀ u∈flatP ps,(knT X L u).1=0
 | .nil,_,u,hu=>by cases hu
 | .cons p v r,hk,u,hu=>by
  rw [flatP] at hu;rcases List.mem_append.1 hu with hu | hu
  ·cases hb:p.bare with
   | true=>rw [hb] at hu;cases hu
   | false=>rw [hb] at hu;exact yJ v ((tT hk).1 hb) u hu
  ·exact Gk r (tT hk).2 u hu
end
mutual
theorem yK:∀ (t:Ty),∀ u∈flatT t,u.wt<=t.wt
 | .mk h ps,u,hu=>by
  rw [flatT] at hu;split at hu
  ·cases hu
  ·rcases dB hu with rfl | hu
   ·exact aR _
   ·have:=Gl ps u hu;simp only [Ty.wt];omega
theorem Gl:∀ (ps:Pts),∀ u∈flatP ps,u.wt<=ps.wt
 | .nil,u,hu=>by cases hu
 | .cons p v r,u,hu=>by
  rw [flatP] at hu;simp only [Pts.wt];rcases List.mem_append.1 hu with hu | hu
  ·split at hu
   ·cases hu
   ·have:=yK v u hu;omega
  ·have:=Gl r u hu;omega
end
theorem RF {lev:List Wd->Int} {s:Sch} {t u:Ty} {n k:Nat} (h:(flatT t)[k]? = some u):(ndsT lev s t n)[k]? = some (Va lev s u (n + k)):=by grind [wm]
structure yL (S:Sch):Prop where
 lat:(latF S.ae S.order).1=0
 l64:S.types.length<=64
 kn:∀ t∈gJ S,(mC S t).1=0
 ends:∀ i,i < S.types.length->∃ k,endI S (S.types.length + 1) i=some k
 wr:∀ t∈gJ S,(wrong t 1 0).1.1=0
theorem RG:∀ {l:List Ty} {m:Int},(eaA l m).1.1=0->∀ t∈l,(wrong t 1 0).1.1=0
 | [],_,_,t,ht=>by cases ht
 | u :: r,m,h,t,ht=>by
  rw [eaA] at h;split at h
  ·rename_i h1;exact (h1 h).elim
  ·rename_i h1;rcases dB ht with rfl | ht
   ·exact (pG (sU h1)).2.2.1
   ·exact RG h t ht
theorem sg {S:Sch} (h:(lF S).1=0):yL S:=by
 rw [LM] at h;split at h
 ·rename_i h1;exact (h1 h).elim
 rename_i h1;split at h
 ·rename_i h2;exact (h2 h).elim
 rename_i h2;split at h
 ·rename_i h3;exact (h3 h).elim
 rename_i h3;split at h
 ·rename_i h4;exact (h4 h).elim
 rename_i h4
 exact {
  lat:=sU h1
  l64:=by grind [fj]
  kn:=Jt (sU h4)
  ends:=F9 h
  wr:=RG (sU h3) }
theorem yL.refs {S:Sch} (h:yL S):∀ x∈S.types,vK S x.2=true:=fun x hx=>C5 (h.kn x.2 (List.mem_append_left _ (List.mem_map_of_mem hx)))
abbrev wC (S:Sch) (f:Nat->Nat->Bool) (N:DV) (z:Int):List DV:=[.sl 2 (bV S.ae) none,.sl 1 (dL (eB S.ae.length f)) none,N,.v (.int .i64 z)]
abbrev RH (S:Sch) (T:List Ty) (f:Nat->Nat->Bool) (L:List Nd) (z:Int) (e q:Nat):St:=
 ⟨[aF 1 0,aF 2 1,aF 3 2,bi 4 9 (iR T),ay 5 e],[ei S,[.v (.slice none 0 0),.v (.slice none 0 0),.v (.slice none 0 0),.v (.int .i64 0)],wC S f (.sl 7 (dK L) (some 0)) z],[⟨q,132,7,none⟩]⟩
abbrev Xu (S:Sch) (T:List Ty) (f:Nat->Nat->Bool) (L:List Nd) (z:Int) (e:Nat) (F:List Ty) (k q:Nat):St:=
 ⟨[aF 1 0,aF 2 1,aF 3 2,bi 4 9 (iR T),ay 5 e,bi 6 9 (iR F),ay 7 k],[ei S,[.v (.slice none 0 0),.v (.slice none 0 0),.v (.slice none 0 0),.v (.int .i64 0)],wC S f (.sl 7 (dK L) (some 0)) z],[⟨q,132,7,none⟩]⟩
theorem Dh (S:Sch) (hS:S.wt<=1099511627776) (hR:(lF S).1=0) :
  EvP prog 12 [.agg (ei S)] (.agg (wC S (fo S.ae.length (dN (aC S.ae) S.order)) (.sl 7 (dK (aQ S)) none) (dF S))):=by
 have TI:=sg hR;obtain ⟨_,Ro⟩:=l8 TI.lat;have hAl:=Dd hS;have YJ:=Jv S;have hN0:=(qK TI.lat).2.2.1;have hrr:=TI.refs;have cJ:=fun t ht hk me hme=>Ju S hS TI.lat TI.l64 hrr TI.ends t ht hk me hme;have hwS:=hS;unfold Sch.wt at hS;have Vb:=Gc S.ae S.order Ro (by omega) (by omega) hN0;have iO:=Gg S (by have:=TI.l64;omega);have hlen:(gJ S).length=S.types.length + 1:=by simp [gJ,gI]
 have U9:=TI.l64;have yF:=fun s i k=>yE S U9 (by omega) hrr s i k;have Pr:=TI.kn;have yM:=TI.ends;have gD:=kK S;have dy:(gJ S)[S.types.length]? = some S.root:=by grind [gJ,gI]
 have TJ:=yI S;have jG:(gJ S).take S.types.length=gI S:=by grind [gJ,gI]
 rw [kk];unfold dF;generalize ju S=lev at cJ ⊢;generalize fo S.ae.length (dN (aC S.ae) S.order)=f at cJ Vb ⊢;obtain ⟨ae,order,types,⟨rh,rp⟩⟩:=S;simp only at hS Vb hlen U9 yM gD dy jG;generalize hT:gJ ⟨ae,order,types,.mk rh rp⟩=T at hAl YJ iO hlen Pr dy jG ⊢;refine eG 67 [.cell 2 50] func12 rfl ntmps12 rfl fun _ _ _ _=>?_;apply pq (fun _=>false) 6 8 [0,1,2,3,4,5,6,7,8,9] [0,1,2,3,4,5,8,6,7,9] 2 2 mo (by decide +kernel)
 ·refine cD YA Vb ?_;refine (?_:@Eq St _ _);exact rfl
 ·refine cD YA Vb ?_;refine (⟨rfl,rfl,?_⟩:_/\_/\_)
  repeat' (first | exact trivial | refine ⟨rfl,?_⟩)
 ·rfl
 refine cP abK iO ?_
 have hLN:∀ e,(ndsA lev ⟨ae,order,types,.mk rh rp⟩ (T.take e) 0).length<=1099511627776:=fun e=>by
  rw [mb];have:=Gj T e;omega
 refine aT (fun j st=>∃ (e q:Nat) (z:Int),st=RH ⟨ae,order,types,.mk rh rp⟩ T f (ndsA lev ⟨ae,order,types,.mk rh rp⟩ (T.take e) 0) z e q/\q=(ndsA lev ⟨ae,order,types,.mk rh rp⟩ (T.take e) 0).length/\e<=types.length + 1/\(e=types.length + 1->z=(uc (T.take types.length):Nat))/\j=types.length + 1 - e) (types.length + 1)
  (RH ⟨ae,order,types,.mk rh rp⟩ T f [] 0 0 0) (dq 3 ⟨0,132,7,none⟩ rfl rfl rfl pV rfl rfl j8) ⟨0,0,0,rfl,rfl,by omega,fun h=>by omega,by omega⟩ ?_
 rintro j st ⟨e,q,z,rfl,hq,he,hz,rfl⟩;refine br ?_ ?_<;>intro hL
 ·have aw:e < types.length + 1:=by have:=hL;simp [eo,hlen] at this;omega
  obtain ⟨t,ht⟩:∃ t,T[e]? = some t:=⟨_,gE (by omega)⟩;have Q1:=hAl t (mG ht);have htk':=Pr t (mG ht);have OP:=pH _ t (aR _) Q1;have hfk:=yJ t htk';have hfw:=yK t;have hta:=NE (lev:=lev) (s:=⟨ae,order,types,.mk rh rp⟩) ht;have hfln:=kj t;have gR:=kL lev ⟨ae,order,types,.mk rh rp⟩ t (ndsA lev ⟨ae,order,types,.mk rh rp⟩ (T.take e) 0).length;have j6:=fun k u (h:(flatT t)[k]? = some u)=>RF (lev:=lev) (s:=⟨ae,order,types,.mk rh rp⟩) (n:=(ndsA lev ⟨ae,order,types,.mk rh rp⟩ (T.take e) 0).length) h;have hLe:=hLN e;have Zy:=hLN (e + 1);have hLs:=mb lev ⟨ae,order,types,.mk rh rp⟩ (T.take e) 0;rw [hta,List.length_append] at Zy;obtain ⟨u,us⟩:=t;generalize ndsA lev ⟨ae,order,types,.mk rh rp⟩ (T.take e) 0=L at hq hta gR j6 hLe Zy hLs ⊢;generalize ndsT lev ⟨ae,order,types,.mk rh rp⟩ (.mk u us) L.length=M at hta gR j6 Zy;generalize flatT (.mk u us)=F at OP hfk hfw hfln j6;have cw:((dK L).length:Int)=(L.length:Int):=by rw [oK]
  refine iX (kM ht) ?_;refine cP Un OP ?_
  refine aT (fun j st=>∃ (k q:Nat),st=Xu ⟨ae,order,types,.mk rh rp⟩ T f (L ++ M.take k) (L.length:Int) e F k q/\q=(L ++ M.take k).length/\k<=F.length/\j=F.length - k) F.length
   (Xu ⟨ae,order,types,.mk rh rp⟩ T f (L ++ []) (L.length:Int) e F 0 q) (dz 3 (by repeat' (first | exact rfl | exact aA rfl | exact aD cw | exact cR (by rw [List.append_nil]) rfl | refine ⟨_,_,rfl,?_,?_⟩)) (by repeat' (first | exact trivial | exact aA rfl | exact aD cw | exact cR (by rw [List.append_nil]) rfl | refine ⟨⟨_,rfl,?_⟩,?_⟩))) ⟨0,q,rfl,by simp [hq],by omega,by omega⟩ ?_
  rintro j st ⟨k,q',rfl,lP,hk,rfl⟩;refine br ?_ ?_<;>intro qb
  ·have jz:k < F.length:=by have:=qb;simp [eo] at this;exact this
   obtain ⟨v,hv⟩:∃ v,F[k]? = some v:=⟨_,gE jz⟩;have hvm:=mG hv;have hvw:=hfw v hvm;have fA:(dK (L ++ M.take k)).length=q':=by rw [oK,lP]
   have j5:q'=L.length + k:=by rw [lP,List.length_append,zLenT];omega
   have hnd:=cJ v (by omega) (hfk v hvm) (dK (L ++ M.take k)).length (by omega)
   have eK:dK (L ++ M.take k) ++ [kg (Va lev ⟨ae,order,types,.mk rh rp⟩ v (dK (L ++ M.take k)).length)]=dK (L ++ M.take (k + 1)):=by
    rw [List.take_add_one,j6 k v hv,fA,j5];simp [dK]
   obtain ⟨vh,vp⟩:=v;refine dS ?_;refine iX (kM hv) ?_;refine cD en56 hnd ?_;refine ⟨fA,⟨by rw [fA];simp [maxLen];omega,by rw [fA];simp;omega⟩,?_⟩;exact rE ⟨_,by omega,k + 1,q' + 1,rfl,by rw [j5];simp;omega,by omega,rfl⟩ (dz 3 (oc (aX jz (by omega)) eK) (gC (aX jz (by omega)) eK))
  ·have hge:k=F.length:=by have:=qb;simp [eo] at this;omega
   have hM:M.take k=M:=List.take_of_length_le (by omega);rw [hM] at lP;refine ⟨RH ⟨ae,order,types,.mk rh rp⟩ T f (ndsA lev ⟨ae,order,types,.mk rh rp⟩ (T.take (e + 1)) 0) (L.length:Int) (e + 1) q',(dz 3 (by repeat' (first | exact rfl | exact aA rfl | exact aD (aX aw (by omega)) | exact cR (by rw [hta,hM]) rfl | refine ⟨_,_,rfl,?_,?_⟩)) (by repeat' (first | exact trivial | exact aA rfl | exact aD (aX aw (by omega)) | exact cR (by rw [hta,hM]) rfl | refine ⟨⟨_,rfl,?_⟩,?_⟩))),types.length + 1 - (e + 1),by omega,e + 1,q',_,rfl,by rw [hta,lP],by omega,fun LN=>?_,rfl⟩;rw [hLs,show e=types.length by omega]
 ·have hge:e=types.length + 1:=by have:=hL;simp [eo,hlen] at this;omega
  have hTa:T.take e=T:=List.take_of_length_le (by omega);rw [hTa];have hz:=hz hge;rw [jG,<- TJ] at hz;have Xi:=Pr (.mk rh rp) (mG dy);refine br ?_ ?_<;>intro h9
  ·have h9:rh.ag=9:=sU h9;obtain ⟨i,hi⟩:=Option.ne_none_iff_exists'.1 ((np Xi).1 h9);obtain ⟨k,hk⟩:=yM i (by have:=(dE hi).1;omega);have nJ:oH ⟨ae,order,types,.mk rh rp⟩ (.mk rh rp) (sa ⟨ae,order,types,.mk rh rp⟩).length=(firstA ⟨ae,order,types,.mk rh rp⟩ k:Int):=by simp [oH,Ty.h,h9,Ze,hi,namedN,hk]
   refine cP abL (yF rh.name.s i k hi hk) ?_;rw [nJ];exact ⟨_,ax,rfl⟩
  ·have h9:¬ rh.ag=9:=sU h9;have nJ:oH ⟨ae,order,types,.mk rh rp⟩ (.mk rh rp) (sa ⟨ae,order,types,.mk rh rp⟩).length=z:=by simp [oH,Ty.h,h9,hz]
   rw [nJ];exact ⟨_,ax,rfl⟩
def Xv (t:Ty):Prop:=∃ d m,(wrong t d m).1.1=0
def LO (ag:Int) (p:Ph) (t:Ty):Prop:=(p.bare=true/\ag=8/\sameTy t de=true/\cV p jV=true)∨(p.bare=false/\(eu p).1=0/\Xv t)
structure TyF (h:Hd) (ps:Pts):Prop where
 k1:1<=h.ag
 k9:h.ag<=9
 own:xO h ps=true
 int:h.ag=2->h.lo<=h.hi
 text:h.ag=3->0<=h.most/\h.most<=4096
 enum:h.ag=4->jl h=(0,0)
 one:h.ag=5∨h.ag=6->∃ p t,ps = .cons p t .nil/\p.name.s=av/\cV p fJ=true/\0<=h.most/\h.most<=1024/\Xv t
 many:h.ag=7∨h.ag=8->ps.len<=64/\(h.ag=8->ps.len≠0)/\∀ i p t,ps.toList[i]? = some (p,t)->aK (pNames ps) i p.name=0/\LO h.ag p t
theorem Zz {h:Hd} {ps:Pts} (ho:¬ xJ (.mk h ps)=false):xO h ps=true:=by
 rw [Lc];cases hb:sameTy (.mk h ps) (mask (.mk h ps))
 ·exact absurd hb ho
 ·rfl
theorem oO {ag:Int} {all:List Wd}:∀ {ps:Pts} {i:Nat} {d m:Int},(wrongPts ag all i ps d m).1.1=0->(ag=7∨ag=8)->∀ j p t,ps.toList[j]? = some (p,t)->aK all (i + j) p.name=0/\LO ag p t
 | .nil,i,d,m,_,_,j,p,t,hx=>by simp [Pts.toList] at hx
 | .cons q u r,i,d,m,he,hk,j,p,t,hx=>by
  simp only [wrongPts] at he;by_cases c0:aK all i q.name≠0
  ·rw [aj c0] at he;exact absurd he c0
  rw [ai c0] at he;have c0:aK all i q.name=0:=sU c0
  have step:∀ d' m',(wrongPts ag all (i + 1) r d' m').1.1=0->LO ag q u->aK all (i + j) p.name=0/\LO ag p t:=by
   intro d' m' h hq
   cases j with
   | zero=>grind [Pts.toList]
   | succ j=>
    simp only [Pts.toList,List.getElem?_cons_succ] at hx;have:=oO h hk j p t hx
    grind
  by_cases c1:q.bare=true
  ·rw [aj c1] at he;by_cases c2:ag=7∨sameTy u de=false∨cV q jV=false
   ·rw [aj c2] at he;simp at he
   rw [ai c2] at he;refine step d m he (.inl ⟨c1,?_,?_,?_⟩)
   all_goals grind
  ·rw [ai c1] at he;by_cases c2:(eu q).1≠0
   ·rw [aj c2] at he;exact absurd he c2
   rw [ai c2] at he;by_cases c3:(wrong u (d + 1) m).1.1≠0
   ·rw [aj c3] at he;exact absurd he c3
   rw [ai c3] at he;exact step d _ he (.inr ⟨by simpa using c1,by simpa using c2,d + 1,m,by simpa using c3⟩)
theorem Jw:∀ {t:Ty},Xv t->TyF t.h t.ps
 | .mk h ps,⟨d,m,he⟩=>by
  simp only [Ty.h,Ty.ps];simp only [wrong] at he;by_cases c0:24 < d
  ·rw [aj c0] at he;simp at he
  rw [ai c0] at he;by_cases c1:512 < m + 1
  ·rw [aj c1] at he;simp at he
  rw [ai c1] at he;by_cases c2:h.ag < 1∨9 < h.ag
  ·rw [aj c2] at he;simp at he
  rw [ai c2] at he;by_cases c3:xJ (.mk h ps)=false
  ·rw [aj c3] at he;simp at he
  rw [ai c3] at he;by_cases c4:(h.ag=2/\h.hi < h.lo)∨(h.ag=3/\(h.most < 0∨4096 < h.most))
  ·rw [aj c4] at he;simp at he
  rw [ai c4] at he;by_cases c5:h.ag=9/\aZ h.name.s=false
  ·rw [aj c5] at he;simp at he
  rw [ai c5] at he;refine { k1:=by omega,k9:=by omega,own:=Zz c3,int:=fun h2=>by omega,text:=fun h3=>by omega,enum:=fun h4=>?_,one:=fun h5=>?_,many:=fun h7=>?_ }
  ·rw [aj h4] at he;exact AP h he
  ·rw [ai (by omega),aj h5] at he
   match ps,he with
   | .nil,he=>simp [wrongOne] at he
   | .cons p t (.cons _ _ _),he=>simp [wrongOne] at he
   | .cons p t .nil,he=>
    simp only [wrongOne] at he;by_cases e0:p.name.s≠av∨cV p fJ=false
    ·rw [aj e0] at he;simp at he
    rw [ai e0] at he;by_cases e1:h.most < 0∨1024 < h.most
    ·rw [aj e1] at he;simp at he
    rw [ai e1] at he;refine ⟨p,t,rfl,Classical.byContradiction fun hn=>e0 (.inl hn),?_,by omega,by omega,d + 1,_,he⟩
    grind
  ·rw [ai (by omega),ai (by omega),aj h7] at he;by_cases e0:h.ag=8/\ps.len=0
   ·rw [aj e0] at he;simp at he
   rw [ai e0] at he;by_cases e1:64 < ps.len
   ·rw [aj e1] at he;simp at he
   rw [ai e1] at he;refine ⟨by omega,fun h8=>fun hl=>e0 ⟨h8,hl⟩,fun i p t hx=>?_⟩;have:=oO he h7 i p t hx
   rwa [Nat.zero_add] at this
theorem TyF.sub {h:Hd} {ps:Pts} (hF:TyF h ps) {p:Ph} {u:Ty} (hm:(p,u)∈ps.toList) (hb:p.bare=false):Xv u:=by
 obtain ⟨i,hi⟩:=List.mem_iff_getElem?.1 hm
 have hlen:0 < ps.len:=by
  cases ps with
  | nil=>simp [Pts.toList] at hm
  | cons _ _ _=>simp [Pts.len]
 have hk:5<=h.ag/\h.ag<=8:=by
  have h1:=hF.own
  grind [xO]
 by_cases h5:h.ag=5∨h.ag=6
 ·obtain ⟨q,t,rfl,_,_,_,_,hw⟩:=hF.one h5
  grind [Pts.toList]
 ·rcases ((hF.many (by omega)).2.2 i p u hi).2 with h1 | h1
  ·rw [h1.1] at hb;cases hb
  ·exact h1.2.2
mutual
theorem yN:∀ (t:Ty),Xv t->∀ u∈flatT t,Xv u
 | .mk h ps,hw,u,hu=>by
  rw [flatT] at hu;split at hu
  ·cases hu
  ·rcases dB hu with rfl | hu
   ·exact hw
   ·exact Gm ps (fun p v hm hb=>(Jw hw).sub hm hb) u hu
theorem Gm:∀ (ps:Pts),(∀ p v,(p,v)∈ps.toList->p.bare=false->Xv v)->∀ u∈flatP ps,Xv u
 | .nil,_,u,hu=>by cases hu
 | .cons p v r,hw,u,hu=>by
  rw [flatP] at hu;rcases List.mem_append.1 hu with hu | hu
  ·cases hb:p.bare with
   | true=>rw [hb] at hu;cases hu
   | false=>rw [hb] at hu;exact yN v (hw p v (by simp [Pts.toList]) hb) u hu
  ·exact Gm r (fun q w hm=>hw q w (by simp [Pts.toList,hm])) u hu
end
mutual
theorem Gn:∀ (t:Ty),∀ u∈flatT t,u.h.ag≠9
 | .mk h ps,u,hu=>by
  rw [flatT] at hu;split at hu
  ·cases hu
  ·rename_i h9;rcases dB hu with rfl | hu
   ·exact h9
   ·exact Gp ps u hu
theorem Gp:∀ (ps:Pts),∀ u∈flatP ps,u.h.ag≠9
 | .nil,u,hu=>by cases hu
 | .cons p v r,u,hu=>by
  rw [flatP] at hu;rcases List.mem_append.1 hu with hu | hu
  ·split at hu
   ·cases hu
   ·exact Gn v u hu
  ·exact Gp r u hu
end
mutual
theorem Bo:∀ (t:Ty) (j:Nat) (u:Ty),(flatT t)[j]? = some u->j + u.nn<=t.nn
 | .mk h ps,j,u,hu=>by
  rw [flatT] at hu;by_cases h9:h.ag=9
  ·rw [aj h9] at hu;simp at hu
  rw [ai h9] at hu
  cases j with
  | zero=>grind
  | succ j=>
   simp only [List.getElem?_cons_succ] at hu;have:=ue ps j u hu;rw [Ty.nn,ai h9];omega
theorem ue:∀ (ps:Pts) (j:Nat) (u:Ty),(flatP ps)[j]? = some u->j + u.nn<=ps.nn
 | .nil,j,u,hu=>by simp [flatP] at hu
 | .cons p v r,j,u,hu=>by
  rw [flatP] at hu;rw [Pts.nn]
  cases hb:p.bare with
  | true=>
   rw [hb] at hu;have:=ue r j u (sU hu);simp only [if_true];omega
  | false=>
   rw [hb] at hu;simp only [Bool.false_eq_true,if_false] at hu ⊢;by_cases hj:j < (flatT v).length
   ·rw [dn hj] at hu;have:=Bo v j u hu;omega
   ·rw [List.getElem?_append_right (by omega)] at hu;have:=ue r _ u hu;have h2:=kj v;omega
end
theorem si {lev:List Wd->Int} {s:Sch}:∀ {ps:Pts} {k:Nat} {e:Ed},e∈edsP lev s ps k->∃ p u k',(p,u)∈ps.toList/\e=yp lev p (wh s p u k')/\(p.bare=false->k' + u.nn<=k + ps.nn)
 | .nil,k,e,he=>by simp [edsP] at he
 | .cons p u r,k,e,he=>by
  rw [edsP] at he;rcases dB he with rfl | he
  ·grind [Pts.toList,Pts.nn]
  ·obtain ⟨q,v,k',h1,h2,h3⟩:=si he
   grind [Pts.toList,Pts.nn]
theorem qL {lev:List Wd->Int} {s:Sch}:∀ {ps:Pts} {k:Nat},(edsP lev s ps k).map Ed.name=aC (pNames ps)
 | .nil,k=>rfl
 | .cons p u r,k=>by
  rw [edsP,List.map_cons,qL (ps:=r)];rfl
theorem Bp {f:Nat->Nat->Bool} {n:Nat} (hL:gH f n):∀ e,e<=n->∃ b,b < n/\∀ x,x < e->f b x=true
 | 0,_=>⟨0,hL.pos,fun x hx=>by omega⟩
 | e + 1,he=>by
  obtain ⟨b,hb,gk⟩:=Bp hL e (by omega);obtain ⟨k,hk⟩:=hL.mt b e hb (by omega);obtain ⟨g1,g2,g3,g4⟩:=qH hk;refine ⟨k,g1,fun x hx=>?_⟩;rcases mD hx with hx | rfl
  ·exact hL.tr k b x g1 hb (by omega) g2 (gk x hx)
  ·exact g3
theorem u4 {f:Nat->Nat->Bool} {n:Nat} (hL:gH f n) (l:List Nat) (hl:∀ x∈l,x < n):∃ c,gv f n l=some c:=by
 have key:∀ e,e<=l.length->∃ c,gv f n (l.take e)=some c:=by
  intro e
  induction e with
  | zero=>
   intro _;obtain ⟨b,hb,gk⟩:=Bp hL n (aR _);exact ⟨b,qI hL hb gk⟩
  | succ e ih=>
   intro he;obtain ⟨c,hc⟩:=ih (by omega);obtain ⟨x,hx⟩:∃ x,l[e]? = some x:=⟨_,gE (by omega)⟩;have vY:=hl x (mG hx);obtain ⟨k,hk⟩:=hL.jn c x (pF hc) vY;rw [List.take_add_one,hx]
   grind [u0]
 have:=key l.length (aR _)
 rwa [List.take_length] at this
theorem Bq {L:List ByteArray}:∀ {l:List Wd},(labW L l).1=0->∀ w∈l,∃ i,dx L w.s=some i
 | [],_,w,hw=>by cases hw
 | x :: r,h,w,hw=>by
  rw [labW] at h;split at h
  ·cases h
  ·rename_i h1;rcases dB hw with rfl | hw
   ·exact Option.ne_none_iff_exists'.1 h1
   ·exact Bq h w hw
theorem NF {f:Nat->Nat->Bool} {L:List ByteArray} (hL:gH f L.length) {l:List Wd} (h:(labW L l).1=0):∃ c:Nat,C0 f L l=c/\c < L.length:=by
 obtain ⟨c,hc⟩:=u4 hL (ni L l) (fun x hx=>by
  unfold ni at hx;obtain ⟨w,hw,rfl⟩:=List.mem_map.1 hx;obtain ⟨i,hi⟩:=Bq h w hw;rw [hi]
  exact (dE hi).1)
 refine ⟨c,?_,pF hc⟩;unfold C0;rw [aj h,hc];rfl
structure aen (L N:Nat) (e:Ed):Prop where
 to0:e.bare=true->e.to = -1
 to1:e.bare=false->∃ k:Nat,e.to=k/\k < N
 lab:∃ k:Nat,e.label=k/\k < L
 seen:∃ k:Nat,e.seen=k/\k < L
 wide:1<=e.wide/\e.wide<=64
 ck:0<=e.ck/\e.ck<=3
 cn:(e.ck=0->e.cn=0)/\(e.ck=1->1<=e.cn)/\(e.ck=2->0<=e.cn/\e.cn<=4096)/\(e.ck=3->e.cn=0)
structure cr (L N:Nat) (n:Nd):Prop where
 k1:1<=n.ag
 k8:n.ag<=8
 lohi:n.ag=2->n.lo<=n.hi
 lo0:n.ag≠2->n.lo=0/\n.hi=0
 aeo:n.ag=3->0<=n.most/\n.most<=4096
 aep:n.ag=5->0<=n.most/\n.most<=1024
 aeq:n.ag≠3->n.ag≠5->n.most=0
 af:n.ag=4->n.af ≠ []/\n.af.length<=64/\n.af.Nodup/\∀ s∈n.af,aZ s=true
 RI:n.ag≠4->n.af=[]
 leaf:n.ag < 5->n.az=[]
 one:n.ag=5∨n.ag=6->∃ e,n.az=[e]/\e.bare=false/\e.name=av
 many:n.ag=7∨n.ag=8->n.az.length<=64/\(n.ag=8->n.az ≠ [])/\(n.az.map Ed.name).Nodup/\∀ e∈n.az,aZ e.name=true
 bare:∀ e∈n.az,e.bare=true->n.ag=8
 gq:∀ e∈n.az,aen L N e
theorem yO {l:List Wd} (h:∀ j x,l[j]? = some x->aK l j x=0):(aC l).Nodup/\∀ x∈l,aZ x.s=true:=by
 have key:∀ e,e<=l.length->(aC (l.take e)).Nodup:=by
  intro e
  induction e with
  | zero=>intro _;simp [aC]
  | succ e ih=>
   intro he;obtain ⟨x,hx⟩:∃ x,l[e]? = some x:=⟨_,gE (by omega)⟩
   grind [nh]
 refine ⟨by have:=key l.length (aR _);rwa [List.take_length] at this,fun x hx=>?_⟩;obtain ⟨j,hj⟩:=List.mem_iff_getElem?.1 hx
 grind [aK,aZ]
theorem Bs {all:List Wd}:∀ {l:List Wd} {i:Nat},(enumL all i l).1=0->∀ j x,l[j]? = some x->aK all (i + j) x=0
 | [],i,_,j,x,hx=>by simp at hx
 | y :: r,i,h,j,x,hx=>by
  rw [enumL] at h;split at h
  ·rename_i h1;exact (h1 h).elim
  ·rename_i h1
   cases j with
   | zero=>grind
   | succ j=>
    simp only [List.getElem?_cons_succ] at hx;have:=Bs h j x hx
    grind
theorem Di {h:Hd} (he:jl h=(0,0)):h.af ≠ []/\h.af.length<=64/\(aC h.af).Nodup/\∀ x∈h.af,aZ x.s=true:=by
 unfold jl at he;split at he
 ·cases he
 ·rename_i h1;split at he
  ·cases he
  ·rename_i h2;refine ⟨h1,by omega,?_⟩
   exact yO fun j x hx=>by
    have:=Bs (all:=h.af) (i:=0) (by rw [he]) j x hx
    rwa [Nat.zero_add] at this
theorem LP {X:Lx} {L:List ByteArray}:∀ {ps:Pts},(knP X L ps).1=0->∀ {p:Ph} {u:Ty},(p,u)∈ps.toList->(X.bad p.label).1=0/\(X.bad p.cl).1=0
 | .nil,_,p,u,h=>by cases h
 | .cons q v r,hk,p,u,h=>by
  have hr:=(tT hk).2;rw [knP] at hk;split at hk
  ·rename_i h1;exact (h1 hk).elim
  rename_i h1;split at hk
  ·rename_i h2;exact (h2 hk).elim
  rename_i h2;rcases dB h with h | h
  ·grind
  ·exact LP hr h
theorem pI {p q:Ph} (h:cV p q=true):p.bare=q.bare/\p.wide=q.wide/\p.ck=q.ck/\p.cn=q.cn:=by grind [cV]
theorem RJ {w:Int} (h:0<=w/\w<=64):1<=l6 w/\l6 w<=64:=by
 unfold l6;split<;>omega
theorem Jx {p:Ph} (h:(bq p).1=0):(0<=p.ck/\p.ck<=3)/\(p.ck=0->p.cn=0)/\(p.ck=1->1<=p.cn)/\(p.ck=2->0<=p.cn/\p.cn<=4096)/\(p.ck=3->p.cn=0):=by grind [bq]
theorem NG {p:Ph} (h:(eu p).1=0):(0<=p.wide/\p.wide<=64)/\(bq p).1=0:=by grind [eu,bZ]
theorem Dj {t:Ty} (h:t.h.ag≠9):1<=t.nn:=by
 obtain ⟨h',ps⟩:=t;have h:¬ h'.ag=9:=h;rw [Ty.nn,ai h];omega
theorem Bt {S:Sch} {k:Nat} {x:Wd × Ty} (hx:S.types[k]? = some x):firstA S k + x.2.nn<=uc (gJ S):=by
 have h1:=oG hx;rw [<- h1]
 have h2:firstA S (k + 1)=uc ((gI S).take (k + 1)):=by
  unfold firstA uc gI;rw [<- List.map_take,List.map_map];rfl
 grind [Gj,gI,uc,gJ,wo]
theorem yP {lev:List Wd->Int} {s:Sch} {n:Nd}:∀ {l:List Ty} {k i:Nat},(ndsA lev s l k)[i]? = some n->∃ t∈l,∃ u∈flatT t,n=Va lev s u (k + i)/\i + u.nn<=uc l
 | [],k,i,h=>by simp [ndsA] at h
 | t :: r,k,i,h=>by
  rw [ndsA] at h;rw [oN];have hl:=kL lev s t k;by_cases hi:i < t.nn
  ·rw [dn (by omega),wm,List.getElem?_map,List.getElem?_zipIdx] at h
   cases hu:(flatT t)[i]? with
   | none=>rw [hu] at h;simp at h
   | some u=>
    rw [hu] at h;simp only [Option.map_some,oI] at h;have:=Bo t i u hu;exact ⟨t,List.mem_cons_self,u,mG hu,by rw [<- h];simp,by omega⟩
  ·rw [List.getElem?_append_right (by omega),hl] at h;obtain ⟨t',h1,u,h2,h3,h4⟩:=yP h
   grind
theorem nq (S:Sch):(aQ S).length=uc (gJ S):=by rw [kk,mb]
theorem uf {S:Sch} (hF:yL S) {i:Nat} {n:Nd} (h:(aQ S)[i]? = some n):cr S.ae.length (aQ S).length n:=by
 rw [nq];rw [kk] at h;obtain ⟨t,ht,u,hu,rfl,kB⟩:=yP h;rw [Nat.zero_add];have HX:=yN t ⟨_,_,hF.wr t ht⟩ u hu;have hk:=yJ t (hF.kn t ht) u hu;have hk9:=Gn t u hu;have hT:=Jw HX;obtain ⟨aer,_⟩:=l8 hF.lat;have gR:=dV S.ae;have yM:=hF.ends;obtain ⟨uh,us⟩:=u;simp only [Ty.h,Ty.ps] at hT hk9;have Zf:=(np hk).2;have dm:=hT.own;unfold xO at dm;simp only [aO,Bool.or_eq_true,decide_eq_true_eq] at dm;obtain ⟨⟨⟨⟨o1,o2⟩,o3⟩,o4⟩,o5⟩:=dm;have k1:=hT.k1;have k9:=hT.k9
 have hlv:∀ l:List Wd,(labW (aC S.ae) l).1=0->∃ k:Nat,ju S l=k/\k < S.ae.length:=by
  intro l hl;have:=NF (f:=fo S.ae.length (dN (aC S.ae) S.order)) (L:=aC S.ae) (by rw [gR];exact aer) hl
  rwa [gR] at this
 have nJ:∀ (p:Ph) (v:Ty) (k':Nat),(p,v)∈us.toList->(p.bare=false->k' + v.nn<=i + 1 + us.nn)->(p.bare=true->wh S p v k' = -1)/\(p.bare=false->∃ k:Nat,wh S p v k'=k/\k < uc (gJ S)):=by
  intro p v k' hm gk;refine ⟨fun hb=>by simp [wh,hb],fun hb=>?_⟩;have hkv:=Dg Zf hm hb;obtain ⟨vh,vs⟩:=v;by_cases h9:vh.ag=9
  ·obtain ⟨j,hj⟩:=Option.ne_none_iff_exists'.1 ((np hkv).1 h9);have qY:=(dE hj).1;rw [kK] at qY;obtain ⟨k,hk⟩:=yM j qY;have lf:=rZ hk;obtain ⟨x,hx⟩:∃ x,S.types[k]? = some x:=⟨_,gE lf.1⟩;have h1:=Bt hx
   grind [Dj,firstA,wh,oH,Ty.h,Ze,namedN]
  ·grind [Dj,Ty.nn,wh,oH,Ty.h]
 have FZ:∀ p v,(p,v)∈us.toList->(0<=p.wide/\p.wide<=64)/\(0<=p.ck/\p.ck<=3)/\((p.ck=0->p.cn=0)/\(p.ck=1->1<=p.cn)/\(p.ck=2->0<=p.cn/\p.cn<=4096)/\(p.ck=3->p.cn=0))/\(p.bare=true->uh.ag=8):=by
  intro p v hm;obtain ⟨j,hj⟩:=List.mem_iff_getElem?.1 hm
  have hlen:us.len≠0:=by
   cases us with
   | nil=>simp [Pts.toList] at hm
   | cons _ _ _=>simp [Pts.len]
  by_cases h5:uh.ag=5∨uh.ag=6
  ·obtain ⟨q,t',rfl,_,fV,_,_,_⟩:=hT.one h5;simp only [Pts.toList,List.mem_singleton,Prod.mk.injEq] at hm;obtain ⟨rfl,rfl⟩:=hm;obtain ⟨w1,w2,w3,w4⟩:=pI fV;have z1:fJ.wide=0:=rfl;have z2:fJ.ck=0:=rfl;have z3:fJ.cn=0:=rfl;have z4:fJ.bare=false:=rfl
   grind
  ·obtain ⟨_,hP⟩:=(hT.many (by omega)).2.2 j p v hj;rcases hP with ⟨hb,h8,_,fV⟩ | ⟨hb,hp,_⟩
   ·obtain ⟨w1,w2,w3,w4⟩:=pI fV;have z1:jV.wide=0:=rfl;have z2:jV.ck=0:=rfl;have z3:jV.cn=0:=rfl;omega
   ·obtain ⟨w1,w2⟩:=NG hp;obtain ⟨w3,w4⟩:=Jx w2
    grind
 have aes:us.len=0->us = .nil:=fun h=>by
  cases us with
  | nil=>rfl
  | cons _ _ _=>simp [Pts.len] at h
 refine {
  k1:=k1
  k8:=by show uh.ag<=8;omega
  lohi:=hT.int
  lo0:=fun h2=>?_
  aeo:=hT.text
  aep:=fun h5=>?_
  aeq:=fun h3 h5=>?_
  af:=fun h4=>?_
  RI:=fun h4=>?_
  leaf:=fun h5=>?_
  one:=fun h5=>?_
  many:=fun h7=>?_
  bare:=fun e he hb=>?_
  gq:=fun e he=>?_ }
 ·show uh.lo=0/\uh.hi=0;exact o1.resolve_left h2
 ·obtain ⟨q,t',rfl,_,_,mH,jT,_⟩:=hT.one (.inl h5);exact ⟨mH,jT⟩
 ·show uh.most=0;exact o2.resolve_left (fun h=>h.elim h3 h5)
 ·obtain ⟨e1,e2,e3,e4⟩:=Di (hT.enum h4);show aC uh.af ≠ []/\(aC uh.af).length<=64/\(aC uh.af).Nodup/\∀ s∈aC uh.af,aZ s=true
  grind [aC,dV]
 ·show aC uh.af=[];have:=o4.resolve_right h4;have:uh.af=[]:=List.eq_nil_of_length_eq_zero this;rw [this];all_goals rfl
 ·show edsP (ju S) S us (i + 1)=[];have hk5:uh.ag < 5:=h5;rw [aes (o3.resolve_right (by omega))];rfl
 ·show ∃ e,edsP (ju S) S us (i + 1)=[e]/\_;obtain ⟨q,t',rfl,hn,fV,_,_,_⟩:=hT.one h5;refine ⟨yp (ju S) q (wh S q t' (i + 1)),rfl,?_,hn⟩;exact (pI fV).1
 ·show (edsP (ju S) S us (i + 1)).length<=64/\(_->edsP (ju S) S us (i + 1) ≠ [])/\((edsP (ju S) S us (i + 1)).map Ed.name).Nodup/\∀ e∈edsP (ju S) S us (i + 1),aZ e.name=true;obtain ⟨m1,m2,m3⟩:=hT.many h7;have iO:∀ j x,(pNames us)[j]? = some x->aK (pNames us) j x=0:=by grind [ia,Pts.ff,ib]
  obtain ⟨n1,n2⟩:=yO iO;refine ⟨by rw [r6];exact m1,fun h8 hn=>m2 h8 ?_,by rw [qL];exact n1,fun e he=>?_⟩
  ·grind [r6,ju]
  ·have:e.name∈aC (pNames us):=by rw [<- qL (lev:=ju S) (s:=S) (k:=i + 1)];exact List.mem_map_of_mem he
   grind [aC]
 ·obtain ⟨p,v,k',h1,rfl,_⟩:=si he;exact (FZ p v h1).2.2.2 hb
 ·obtain ⟨p,v,k',h1,rfl,h3⟩:=si he;obtain ⟨h4,h5⟩:=nJ p v k' h1 h3;obtain ⟨h6,h7,h8,_⟩:=FZ p v h1;obtain ⟨h9,qZ⟩:=LP Zf h1;exact { to0:=h4,to1:=h5,lab:=hlv _ h9,seen:=hlv _ qZ,wide:=RJ h6,ck:=h7,cn:=h8 }
theorem Jy {S:Sch} (hF:yL S):∃ k:Nat,dF S=k/\k < (aQ S).length:=by
 rw [nq];have Xi:=hF.kn S.root (by unfold gJ;simp);have yM:=hF.ends;have fm:=yI S;have My:uc (gJ S)=uc (gI S) + S.root.nn:=by unfold gJ;rw [wo];simp [uc]
 unfold dF;obtain ⟨ae,order,types,⟨rh,rp⟩⟩:=S;simp only at Xi yM My;by_cases h9:rh.ag=9
 ·obtain ⟨j,hj⟩:=Option.ne_none_iff_exists'.1 ((np Xi).1 h9);have qY:=(dE hj).1;rw [kK] at qY;obtain ⟨k,hk⟩:=yM j qY;have lf:=rZ hk;obtain ⟨x,hx⟩:∃ x,(Sch.mk ae order types (.mk rh rp)).types[k]? = some x:=⟨_,gE lf.1⟩;have h1:=Bt hx
  grind [Dj,firstA,oH,Ty.h,Ze,namedN]
 ·grind [Dj,sa,oH,Ty.h]
theorem yQ {lev:List Wd->Int} {s:Sch} {n:Nd}:∀ {l:List Ty} {k:Nat},n∈ndsA lev s l k->∃ t∈l,∃ u∈flatT t,∃ k',n=Va lev s u k'
 | [],_,h=>by cases h
 | t :: r,k,h=>by
  rw [ndsA] at h;rcases List.mem_append.1 h with h | h
  ·grind [wm]
  ·obtain ⟨t',ht,h⟩:=yQ h;exact ⟨t',jD _ ht,h⟩
theorem mc {S:Sch} {n:Nd} (h:n∈aQ S) (hS:S.wt<=1099511627776):n.af.length<=1099511627776/\n.az.length<=1099511627776:=by
 rw [kk] at h;obtain ⟨t,ht,u,hu,k,rfl⟩:=yQ h;have h1:=Dd hS t ht;have h2:=yK t u hu;obtain ⟨uh,us⟩:=u;have h3:=bM uh.af;have h4:=us.gn
 grind [Ty.wt,Hd.wt,Va,Ty.h,Ty.ps,dV,r6]
abbrev zNd:List DV:=[.v (.int .i64 0),.v (.int .i64 0),.v (.int .i64 0),.v (.int .i64 0),.v (.int .i64 0),.v (.slice none 0 0),.v (.slice none 0 0)]
structure dM (S:Sch) (ND:List Nd) (PC:List DV):Prop where
 fine:yL S
 wt:S.wt<=1099511627776
 C4:ND=aQ S
 ok:∀ n∈ND,cr S.ae.length ND.length n
 nl:ND.length<=1099511627776
 len:EvP prog 94 [.pt PC 0] (.v (.int .i64 ND.length))
 root:EvP prog 37 [.pt PC 0] (.v (.int .i64 (dF S)))
 ah:∀ (i:Nat) n,ND[i]? = some n->EvP prog 36 [.pt PC 0,.v (.int .i64 i)] (.tup [.agg (kg n),.v (.bool true)])
 Xw:∀ i:Int,(i < 0∨ND.length<=i)->EvP prog 36 [.pt PC 0,.v (.int .i64 i)] (.tup [.agg zNd,.v (.bool false)])
 lat:∃ aJ js,(dR S aJ js).OK/\EvP prog 72 [.pt PC 0] (dR S aJ js).pd
theorem RK {S:Sch} {d:DV} (hS:S.wt<=1099511627776) (h0:(lF S).1=0) (hd:Rp S d):∃ PC,d = .pt PC 0/\dM S (aQ S) PC:=by
 obtain ⟨aJ,lG,js,hX,hT,lS,rfl⟩:=hd;have hF:=sg h0;have cf:=fun n (h:n∈aQ S)=>mc h hS
 refine ⟨_,rfl,{
  fine:=hF
  wt:=hS
  C4:=rfl
  ok:=fun n hn=>?_
  nl:=by rw [nq];exact Nat.le_trans (Jv S) hS
  len:=tV _ _ _ _ _ _
  root:=Jg _ _ _ _ _ _
  ah:=fun i n h=>Jh _ _ _ _ _ _ i n h (cf n (mG h)).1 (cf n (mG h)).2
  Xw:=fun i h=>Ji _ _ _ _ _ _ i h
  lat:=⟨aJ,js,hX,Nt _ _ _ _ _ _⟩ }⟩
 obtain ⟨i,hi⟩:=List.mem_iff_getElem?.1 hn;exact uf hF hi
def Jz (S:Sch) (r:DV):Prop:=((lF S).1≠0/\r = .tup [.v (.pointer none),(lF S).d])∨((lF S).1=0/\∃ PC,dM S (aQ S) PC/\r = .tup [.pt PC 0,Ft.d (0,0)])
theorem Bu {S:Sch} (hS:S.wt<=1099511627776) {r:DV} {os:List (List DV)} {tk:List TkE} (h:Jd S r os tk):Jz S r:=by
 unfold Jd at h;by_cases h0:(lF S).1=0
 ·rw [ai (by rw [h0];simp)] at h;obtain ⟨d,hd,rfl⟩:=h;obtain ⟨PC,rfl,hP⟩:=RK hS h0 hd;exact .inr ⟨h0,PC,hP,rfl⟩
 ·rw [aj h0] at h;exact .inl ⟨h0,h⟩
inductive Val where
 | mk (k n:Int) (s:ByteArray) (ks:List Val)
def Val.k:Val->Int | .mk k _ _ _=>k
def Val.n:Val->Int | .mk _ n _ _=>n
def Val.s:Val->ByteArray | .mk _ _ s _=>s
def Val.ks:Val->List Val | .mk _ _ _ ks=>ks
mutual
def aG:Val->List DV
 | .mk k n s ks=>[.v (.int .i64 k),.v (.int .i64 n),.v (.string s),.sl 4 (dVals ks) none]
def dVals:List Val->List (List DV)
 | []=>[]
 | v :: r=>aG v :: dVals r
end
theorem fu:∀ l:List Val,dVals l=l.map aG
 | []=>rfl
 | v :: r=>by rw [dVals,fu r];all_goals rfl
theorem aU (l:List Val):(dVals l).length=l.length:=by rw [fu,List.length_map]
theorem bJ {l:List Val} {e:Nat} {x:Val} (h:l[e]? = some x):(dVals l)[e]? = some (aG x):=by rw [fu,List.getElem?_map,h];all_goals rfl
theorem yR {l:List Val} {e:Nat} {x:Val} (h:l[e]? = some x):dVals (l.take e) ++ [aG x]=dVals (l.take (e + 1)):=by
 rw [fu,fu,List.take_add_one,h];simp
mutual
def Val.wt:Val->Nat
 | .mk _ _ s ks=>64 + s.size + cu ks
def cu:List Val->Nat
 | []=>0
 | v :: r=>v.wt + cu r
end
theorem Val.cT:∀ v:Val,64<=v.wt
 | .mk _ _ _ _=>by rw [Val.wt];omega
theorem cz:∀ {l:List Val} {x:Val},x∈l->x.wt<=cu l
 | v :: r,x,h=>by
  rcases dB h with rfl | h
  ·rw [cu];omega
  ·have:=cz h;rw [cu];omega
theorem cq:∀ l:List Val,64 * l.length<=cu l
 | []=>aR _
 | v :: r=>by
  have:=cq r;have:=v.cT;rw [cu,List.length_cons];omega
mutual
def dA:Val->Nat
 | .mk _ _ _ ks=>1 + bQ ks
def bQ:List Val->Nat
 | []=>0
 | v :: r=>dA v + bQ r
end
mutual
def yS:Val->Nat
 | .mk _ _ _ ks=>iY ks + 1
def iY:List Val->Nat
 | []=>0
 | v :: r=>max (yS v) (iY r)
end
mutual
theorem LQ:∀ v:Val,dA v<=v.wt/\yS v<=v.wt
 | .mk _ _ _ ks=>by
  have:=yT ks;rw [dA,yS,Val.wt];omega
theorem yT:∀ l:List Val,bQ l<=cu l/\iY l<=cu l
 | []=>⟨aR _,aR _⟩
 | v :: r=>by
  have h1:=LQ v;have h2:=yT r;rw [bQ,iY,cu];omega
end
theorem qM:∀ (l:List Val) (x:Val),bQ (l ++ [x])=bQ l + dA x
 | [],x=>by simp [bQ]
 | v :: r,x=>by rw [List.cons_append,bQ,bQ,qM r];omega
theorem yU:∀ (l:List Val) (x:Val),iY (l ++ [x])=max (iY l) (yS x)
 | [],x=>by simp [iY]
 | v :: r,x=>by rw [List.cons_append,iY,iY,yU r];omega
theorem Bv {α:Type} {l:List α} {e:Nat} {x:α} (h:l[e]? = some x):l.take (e + 1)=l.take e ++ [x]:=by rw [List.take_add_one,h];all_goals rfl
theorem JA (l:List Val):∀ e,bQ (l.take e)<=cu l/\iY (l.take e)<=cu l:=fun e=>by
 have h1:=yT (l.take e)
 have h2:∀ (l:List Val) e,cu (l.take e)<=cu l:=by
  intro l
  induction l with
  | nil=>intro e;simp [cu]
  | cons v r ih=>
   intro e
   cases e with
   | zero=>simp [cu]
   | succ e=>have:=ih e;simp only [List.take_succ_cons,cu];omega
 have:=h2 l e;omega
abbrev szSt (v:Val) (n d e:Nat):St:=
 ⟨[aF 1 0,ay 4 n,ay 5 d,ay 6 e],[aG v],[]⟩
theorem oP:∀ (k:Nat) (v:Val),v.wt<=k->v.wt<=1099511627776->EvP prog 42 [.agg (aG v)] (.tup [.v (.int .i64 (dA v:Nat)),.v (.int .i64 (yS v:Nat))])
 | 0,v,h,_=>by have:=v.cT;omega
 | k + 1,.mk q n s ks,h,hb=>by
  have ih:=oP k;have cw:=aU ks;have lf:=cq ks;have jG:=JA ks;rw [Val.wt] at h hb;rw [dA,yS];refine eG 35 [.tmp 2,.tmp 3] func42 rfl ntmps42 rfl fun _ _ _ _=>?_;refine lJ (fun e=>szSt (.mk q n s ks) (1 + bQ (ks.take e)) (iY (ks.take e)) e) ks.length (bG wB) ?_;intro e he;refine br ?_ ?_<;>intro hL
  ·have aw:e < ks.length:=by have:=hL;simp [cw] at this;exact this
   obtain ⟨x,hx⟩:=gX aw;have Rj:=cz (mG hx);have hc:=qM (ks.take e) x;have hd:=yU (ks.take e) x;rw [<- Bv hx] at hc hd;have h1:=jG (e + 1);have hi:=ih x (by omega) (by omega);have TL:=LQ x;obtain ⟨xk,xn,xs,xl⟩:=x;refine iX (bJ hx) ?_;refine cP Yy hi ?_;have hw:IntKind.i64.wrap (((1 + bQ (ks.take e):Nat):Int) + ((dA (.mk xk xn xs xl):Nat):Int))=((1 + bQ (ks.take (e + 1)):Nat):Int):=by rw [wrap64 (by omega) (by omega)];omega
   refine br ?_ ?_<;>intro g
   ·have g:iY (ks.take e) < yS (.mk xk xn xs xl):=sU g;have MF:((yS (.mk xk xn xs xl):Nat):Int)=((iY (ks.take (e + 1)):Nat):Int):=by omega
    exact rE ⟨_,by omega,e + 1,rfl,by omega,rfl⟩ (bG (Wa hw MF (aX aw (by omega))))
   ·have g:¬ iY (ks.take e) < yS (.mk xk xn xs xl):=sU g;have MF:((iY (ks.take e):Nat):Int)=((iY (ks.take (e + 1)):Nat):Int):=by omega
    exact rE ⟨_,by omega,e + 1,rfl,by omega,rfl⟩ (bG (Wa hw MF (aX aw (by omega))))
  ·have hge:e=ks.length:=sW cw hL;subst hge;have h1:=jG ks.length;rw [List.take_length] at h1 ⊢;have hw:IntKind.i64.wrap (((iY ks:Nat):Int) + 1)=((iY ks + 1:Nat):Int):=by rw [wrap64 (by omega) (by omega)];omega
   refine ⟨_,(rA hw),rfl⟩
theorem Gq:prog.cellsOf 34=4:=by kernel_rfl
end Go.Proofs.YtgjagnmeonoehaaGreat
namespace Go.Proofs.YtgjagnmeonoehaaGreat
open Go Go.RowKit Dv
def tyVS:List TypeId:=[34,32,9,3]
theorem tyVS_ok:∀ t∈tyVS,ow Tryz.prog tyVS t=true:=by
 have h:(tyVS.all fun t=>ow Tryz.prog tyVS t)=true:=by kernel_rfl
 exact fun t ht=>List.all_eq_true.1 h t ht
end Go.Proofs.YtgjagnmeonoehaaGreat
set_option maxRecDepth 100000
namespace Go.Proofs.YtgjagnmeonoehaaGreat
open Go Go.RowKit Dv Go.Proofs.Tryz
def aN (n u:Int):Int × Bool:=if u < 1 then (0,false) else if n - n % u < -9223372036854775808 then (0,false) else (n - n % u,true)
def Dk (r:Int × Bool):DV:=.tup [.v (.int .i64 r.1),.v (.bool r.2)]
theorem RL {n u:Int} (hu:1<=u):(n.tmod u < 0->n.tmod u + u=n % u)/\(¬ n.tmod u < 0->n.tmod u=n % u):=by
 have h1:=Int.emod_nonneg n (show u≠0 by omega);have h2:=Int.emod_lt_of_pos n (show 0 < u by omega);have h3:=Int.tmod_eq_emod (a:=n) (b:=u);have h4:(u.natAbs:Int)=u:=Int.natAbs_of_nonneg (by omega);rw [h3];split<;>omega
theorem jv (n u:Int) (hn : -9223372036854775808<=n/\n<=9223372036854775807) (hu : -9223372036854775808<=u/\u<=9223372036854775807):EvP prog 214 [.v (.int .i64 n),.v (.int .i64 u)] (Dk (aN n u)):=by
 have hF:aN n u=if u < 1 then (0,false) else if n - n % u < -9223372036854775808 then (0,false) else (n - n % u,true):=rfl
 generalize aN n u=F at hF ⊢;refine eG 24 [.tmp 4,.tmp 5] func214 rfl ntmps214 rfl fun _ _ _ _=>?_;refine br ?_ ?_<;>intro c
 ·have c:u < 1:=sU c;rw [aj c] at hF;subst hF;exact ⟨_,ax,rfl⟩
 have c:¬ u < 1:=sU c;rw [ai c] at hF;have hm:=RL (n:=n) (u:=u) (by omega);have h1:=Int.emod_nonneg n (show u≠0 by omega);have h2:=Int.emod_lt_of_pos n (show 0 < u by omega);have h5 : -u<=n.tmod u/\n.tmod u < u:=by omega
 have Tw:IntKind.i64.wrap (-9223372036854775808 + n % u) = -9223372036854775808 + n % u:=wrap64 (by omega) (by omega);refine ⟨⟨rfl,by omega⟩,?_⟩;refine br ?_ ?_<;>intro g
 ·have g:n.tmod u < 0:=sU g;have mA:IntKind.i64.wrap (n.tmod u + u)=n % u:=by rw [hm.1 g];exact wrap64 (by omega) (by omega)
  refine br ?_ ?_<;>intro h
  ·have h:n < IntKind.i64.wrap (-9223372036854775808 + IntKind.i64.wrap (n.tmod u + u)):=sU h;rw [mA,Tw] at h;rw [aj (by omega)] at hF;subst hF;exact ⟨_,ax,rfl⟩
  ·have h:¬ n < IntKind.i64.wrap (-9223372036854775808 + IntKind.i64.wrap (n.tmod u + u)):=sU h;rw [mA,Tw] at h;rw [ai (by omega)] at hF;have zT:IntKind.i64.wrap (n - IntKind.i64.wrap (n.tmod u + u))=n - n % u:=by rw [mA];exact wrap64 (by omega) (by omega)
   refine ⟨.tup [.v (.int .i64 (IntKind.i64.wrap (n - IntKind.i64.wrap (n.tmod u + u)))),.v (.bool true)],ax,?_⟩;rw [hF];exact congrArg (fun z=>DV.tup [.v (.int .i64 z),.v (.bool true)]) zT
 ·have g:¬ n.tmod u < 0:=sU g;have mA:n.tmod u=n % u:=hm.2 g;refine br ?_ ?_<;>intro h
  ·have h:n < IntKind.i64.wrap (-9223372036854775808 + n.tmod u):=sU h;rw [mA,Tw] at h;rw [aj (by omega)] at hF;subst hF;exact ⟨_,ax,rfl⟩
  ·have h:¬ n < IntKind.i64.wrap (-9223372036854775808 + n.tmod u):=sU h;rw [mA,Tw] at h;rw [ai (by omega)] at hF;have zT:IntKind.i64.wrap (n - n.tmod u)=n - n % u:=by rw [mA];exact wrap64 (by omega) (by omega)
   refine ⟨.tup [.v (.int .i64 (IntKind.i64.wrap (n - n.tmod u))),.v (.bool true)],ax,?_⟩;rw [hF];exact congrArg (fun z=>DV.tup [.v (.int .i64 z),.v (.bool true)]) zT
def bm (c:Nat):Nat:=if c < 128 then 1 else if 194<=c/\c<=223 then 2 else if 224<=c/\c<=239 then 3 else if 240<=c/\c<=244 then 4 else 0
def iZ (c:Nat):Nat:=if c=224 then 160 else if c=240 then 144 else 128
def ja (c:Nat):Nat:=if c=237 then 159 else if c=244 then 143 else 191
theorem NH (c:Nat):EvP prog 337 [.v (.int .u8 c)] (.tup [.v (.int .i64 (bm c:Nat)),.v (.int .u8 (iZ c:Nat)),.v (.int .u8 (ja c:Nat))]):=by
 have hN:bm c=if c < 128 then 1 else if 194<=c/\c<=223 then 2 else if 224<=c/\c<=239 then 3 else if 240<=c/\c<=244 then 4 else 0:=rfl
 have hL:iZ c=if c=224 then 160 else if c=240 then 144 else 128:=rfl
 have hH:ja c=if c=237 then 159 else if c=244 then 143 else 191:=rfl
 generalize bm c=N at hN ⊢;generalize iZ c=L at hL ⊢;generalize ja c=H at hH ⊢;refine eG 41 [.tmp 2,.tmp 3,.tmp 4] func337 rfl ntmps337 rfl fun _ _ _ _=>?_;refine br ?_ ?_<;>intro c1
 ·have c1:(c:Int) < 128:=sU c1;refine br ?_ ?_<;>intro g
  ·have g:(c:Int)=224:=sU g
   have hn:N=1:=by
    rw [hN]
    repeat' split
    all_goals omega
   have hl:L=160:=by
    rw [hL]
    repeat' split
    all_goals omega
   have hh:H=191:=by
    rw [hH]
    repeat' split
    all_goals omega
   rw [hn,hl,hh];exact ⟨_,ax,rfl⟩
  have Vc:¬ (c:Int)=224:=sU g;refine br ?_ ?_<;>intro g
  ·have g:(c:Int)=237:=sU g
   have hn:N=1:=by
    rw [hN]
    repeat' split
    all_goals omega
   have hl:L=128:=by
    rw [hL]
    repeat' split
    all_goals omega
   have hh:H=159:=by
    rw [hH]
    repeat' split
    all_goals omega
   rw [hn,hl,hh];exact ⟨_,ax,rfl⟩
  have Vd:¬ (c:Int)=237:=sU g;refine br ?_ ?_<;>intro g
  ·have g:(c:Int)=240:=sU g
   have hn:N=1:=by
    rw [hN]
    repeat' split
    all_goals omega
   have hl:L=144:=by
    rw [hL]
    repeat' split
    all_goals omega
   have hh:H=191:=by
    rw [hH]
    repeat' split
    all_goals omega
   rw [hn,hl,hh];exact ⟨_,ax,rfl⟩
  have Ve:¬ (c:Int)=240:=sU g;refine br ?_ ?_<;>intro g
  ·have g:(c:Int)=244:=sU g
   have hn:N=1:=by
    rw [hN]
    repeat' split
    all_goals omega
   have hl:L=128:=by
    rw [hL]
    repeat' split
    all_goals omega
   have hh:H=143:=by
    rw [hH]
    repeat' split
    all_goals omega
   rw [hn,hl,hh];exact ⟨_,ax,rfl⟩
  have Vf:¬ (c:Int)=244:=sU g
  have hn:N=1:=by
   rw [hN]
   repeat' split
   all_goals omega
  have hl:L=128:=by
   rw [hL]
   repeat' split
   all_goals omega
  have hh:H=191:=by
   rw [hH]
   repeat' split
   all_goals omega
  rw [hn,hl,hh];exact ⟨_,ax,rfl⟩
 have c1:¬ (c:Int) < 128:=sU c1;refine br ?_ ?_<;>intro k
 ·have k:194<=(c:Int)/\(c:Int)<=223:=by simpa [aq] using k
  refine br ?_ ?_<;>intro g
  ·have g:(c:Int)=224:=sU g
   have hn:N=2:=by
    rw [hN]
    repeat' split
    all_goals omega
   have hl:L=160:=by
    rw [hL]
    repeat' split
    all_goals omega
   have hh:H=191:=by
    rw [hH]
    repeat' split
    all_goals omega
   rw [hn,hl,hh];exact ⟨_,ax,rfl⟩
  have Vc:¬ (c:Int)=224:=sU g;refine br ?_ ?_<;>intro g
  ·have g:(c:Int)=237:=sU g
   have hn:N=2:=by
    rw [hN]
    repeat' split
    all_goals omega
   have hl:L=128:=by
    rw [hL]
    repeat' split
    all_goals omega
   have hh:H=159:=by
    rw [hH]
    repeat' split
    all_goals omega
   rw [hn,hl,hh];exact ⟨_,ax,rfl⟩
  have Vd:¬ (c:Int)=237:=sU g;refine br ?_ ?_<;>intro g
  ·have g:(c:Int)=240:=sU g
   have hn:N=2:=by
    rw [hN]
    repeat' split
    all_goals omega
   have hl:L=144:=by
    rw [hL]
    repeat' split
    all_goals omega
   have hh:H=191:=by
    rw [hH]
    repeat' split
    all_goals omega
   rw [hn,hl,hh];exact ⟨_,ax,rfl⟩
  have Ve:¬ (c:Int)=240:=sU g;refine br ?_ ?_<;>intro g
  ·have g:(c:Int)=244:=sU g
   have hn:N=2:=by
    rw [hN]
    repeat' split
    all_goals omega
   have hl:L=128:=by
    rw [hL]
    repeat' split
    all_goals omega
   have hh:H=143:=by
    rw [hH]
    repeat' split
    all_goals omega
   rw [hn,hl,hh];exact ⟨_,ax,rfl⟩
  have Vf:¬ (c:Int)=244:=sU g
  have hn:N=2:=by
   rw [hN]
   repeat' split
   all_goals omega
  have hl:L=128:=by
   rw [hL]
   repeat' split
   all_goals omega
  have hh:H=191:=by
   rw [hH]
   repeat' split
   all_goals omega
  rw [hn,hl,hh];exact ⟨_,ax,rfl⟩
 have k194:¬ (194<=(c:Int)/\(c:Int)<=223):=by simpa [aq] using k
 refine br ?_ ?_<;>intro k
 ·have k:224<=(c:Int)/\(c:Int)<=239:=by simpa [aq] using k
  refine br ?_ ?_<;>intro g
  ·have g:(c:Int)=224:=sU g
   have hn:N=3:=by
    rw [hN]
    repeat' split
    all_goals omega
   have hl:L=160:=by
    rw [hL]
    repeat' split
    all_goals omega
   have hh:H=191:=by
    rw [hH]
    repeat' split
    all_goals omega
   rw [hn,hl,hh];exact ⟨_,ax,rfl⟩
  have Vc:¬ (c:Int)=224:=sU g;refine br ?_ ?_<;>intro g
  ·have g:(c:Int)=237:=sU g
   have hn:N=3:=by
    rw [hN]
    repeat' split
    all_goals omega
   have hl:L=128:=by
    rw [hL]
    repeat' split
    all_goals omega
   have hh:H=159:=by
    rw [hH]
    repeat' split
    all_goals omega
   rw [hn,hl,hh];exact ⟨_,ax,rfl⟩
  have Vd:¬ (c:Int)=237:=sU g;refine br ?_ ?_<;>intro g
  ·have g:(c:Int)=240:=sU g
   have hn:N=3:=by
    rw [hN]
    repeat' split
    all_goals omega
   have hl:L=144:=by
    rw [hL]
    repeat' split
    all_goals omega
   have hh:H=191:=by
    rw [hH]
    repeat' split
    all_goals omega
   rw [hn,hl,hh];exact ⟨_,ax,rfl⟩
  have Ve:¬ (c:Int)=240:=sU g;refine br ?_ ?_<;>intro g
  ·have g:(c:Int)=244:=sU g
   have hn:N=3:=by
    rw [hN]
    repeat' split
    all_goals omega
   have hl:L=128:=by
    rw [hL]
    repeat' split
    all_goals omega
   have hh:H=143:=by
    rw [hH]
    repeat' split
    all_goals omega
   rw [hn,hl,hh];exact ⟨_,ax,rfl⟩
  have Vf:¬ (c:Int)=244:=sU g
  have hn:N=3:=by
   rw [hN]
   repeat' split
   all_goals omega
  have hl:L=128:=by
   rw [hL]
   repeat' split
   all_goals omega
  have hh:H=191:=by
   rw [hH]
   repeat' split
   all_goals omega
  rw [hn,hl,hh];exact ⟨_,ax,rfl⟩
 have k224:¬ (224<=(c:Int)/\(c:Int)<=239):=by simpa [aq] using k
 refine br ?_ ?_<;>intro k
 ·have k:240<=(c:Int)/\(c:Int)<=244:=by simpa [aq] using k
  refine br ?_ ?_<;>intro g
  ·have g:(c:Int)=224:=sU g
   have hn:N=4:=by
    rw [hN]
    repeat' split
    all_goals omega
   have hl:L=160:=by
    rw [hL]
    repeat' split
    all_goals omega
   have hh:H=191:=by
    rw [hH]
    repeat' split
    all_goals omega
   rw [hn,hl,hh];exact ⟨_,ax,rfl⟩
  have Vc:¬ (c:Int)=224:=sU g;refine br ?_ ?_<;>intro g
  ·have g:(c:Int)=237:=sU g
   have hn:N=4:=by
    rw [hN]
    repeat' split
    all_goals omega
   have hl:L=128:=by
    rw [hL]
    repeat' split
    all_goals omega
   have hh:H=159:=by
    rw [hH]
    repeat' split
    all_goals omega
   rw [hn,hl,hh];exact ⟨_,ax,rfl⟩
  have Vd:¬ (c:Int)=237:=sU g;refine br ?_ ?_<;>intro g
  ·have g:(c:Int)=240:=sU g
   have hn:N=4:=by
    rw [hN]
    repeat' split
    all_goals omega
   have hl:L=144:=by
    rw [hL]
    repeat' split
    all_goals omega
   have hh:H=191:=by
    rw [hH]
    repeat' split
    all_goals omega
   rw [hn,hl,hh];exact ⟨_,ax,rfl⟩
  have Ve:¬ (c:Int)=240:=sU g;refine br ?_ ?_<;>intro g
  ·have g:(c:Int)=244:=sU g
   have hn:N=4:=by
    rw [hN]
    repeat' split
    all_goals omega
   have hl:L=128:=by
    rw [hL]
    repeat' split
    all_goals omega
   have hh:H=143:=by
    rw [hH]
    repeat' split
    all_goals omega
   rw [hn,hl,hh];exact ⟨_,ax,rfl⟩
  have Vf:¬ (c:Int)=244:=sU g
  have hn:N=4:=by
   rw [hN]
   repeat' split
   all_goals omega
  have hl:L=128:=by
   rw [hL]
   repeat' split
   all_goals omega
  have hh:H=191:=by
   rw [hH]
   repeat' split
   all_goals omega
  rw [hn,hl,hh];exact ⟨_,ax,rfl⟩
 have k240:¬ (240<=(c:Int)/\(c:Int)<=244):=by simpa [aq] using k
 refine br ?_ ?_<;>intro g
 ·have g:(c:Int)=224:=sU g
  have hn:N=0:=by
   rw [hN]
   repeat' split
   all_goals omega
  have hl:L=160:=by
   rw [hL]
   repeat' split
   all_goals omega
  have hh:H=191:=by
   rw [hH]
   repeat' split
   all_goals omega
  rw [hn,hl,hh];exact ⟨_,ax,rfl⟩
 have Vc:¬ (c:Int)=224:=sU g;refine br ?_ ?_<;>intro g
 ·have g:(c:Int)=237:=sU g
  have hn:N=0:=by
   rw [hN]
   repeat' split
   all_goals omega
  have hl:L=128:=by
   rw [hL]
   repeat' split
   all_goals omega
  have hh:H=159:=by
   rw [hH]
   repeat' split
   all_goals omega
  rw [hn,hl,hh];exact ⟨_,ax,rfl⟩
 have Vd:¬ (c:Int)=237:=sU g;refine br ?_ ?_<;>intro g
 ·have g:(c:Int)=240:=sU g
  have hn:N=0:=by
   rw [hN]
   repeat' split
   all_goals omega
  have hl:L=144:=by
   rw [hL]
   repeat' split
   all_goals omega
  have hh:H=191:=by
   rw [hH]
   repeat' split
   all_goals omega
  rw [hn,hl,hh];exact ⟨_,ax,rfl⟩
 have Ve:¬ (c:Int)=240:=sU g;refine br ?_ ?_<;>intro g
 ·have g:(c:Int)=244:=sU g
  have hn:N=0:=by
   rw [hN]
   repeat' split
   all_goals omega
  have hl:L=128:=by
   rw [hL]
   repeat' split
   all_goals omega
  have hh:H=143:=by
   rw [hH]
   repeat' split
   all_goals omega
  rw [hn,hl,hh];exact ⟨_,ax,rfl⟩
 have Vf:¬ (c:Int)=244:=sU g
 have hn:N=0:=by
  rw [hN]
  repeat' split
  all_goals omega
 have hl:L=128:=by
  rw [hL]
  repeat' split
  all_goals omega
 have hh:H=191:=by
  rw [hH]
  repeat' split
  all_goals omega
 rw [hn,hl,hh];exact ⟨_,ax,rfl⟩
def recV:List UInt8->Int
 | [a]=>a.toNat
 | [a,b]=>(a.toNat - 192) * 64 + (b.toNat - 128)
 | [a,b,c]=>(a.toNat - 224) * 4096 + (b.toNat - 128) * 64 + (c.toNat - 128)
 | [a,b,c,d]=>(a.toNat - 240) * 262144 + (b.toNat - 128) * 4096 + (c.toNat - 128) * 64 + (d.toNat - 128)
 | _=>0
def O0:List UInt8->Bool
 | [a]=>decide (a.toNat < 128)
 | [a,b]=>decide (192<=a.toNat/\a.toNat < 224/\128<=b.toNat/\b.toNat < 192)
 | [a,b,c]=>decide (224<=a.toNat/\a.toNat < 240/\128<=b.toNat/\b.toNat < 192/\128<=c.toNat/\c.toNat < 192)
 | [a,b,c,d]=>decide (240<=a.toNat/\a.toNat < 248/\128<=b.toNat/\b.toNat < 192/\128<=c.toNat/\c.toNat < 192/\128<=d.toNat/\d.toNat < 192)
 | _=>false
theorem NI {n:Int} (h1 : -2147483648<=n) (h2:n<=2147483647):IntKind.i32.wrap n=n:=by
 simp [IntKind.wrap,IntKind.min,IntKind.max,IntKind.signed,IntKind.bits];omega
theorem Vg {x:Nat} (h:x < 4294967296):(BitVec.ofInt 32 (x:Int)).toNat=x:=by
 rw [BitVec.toNat_ofInt];omega
theorem RM {x m:Nat} (k:Nat) (hk:m=2 ^ k - 1) (hm:m < 256) (h:x < 256):IntKind.i32.wrap ((BitVec.ofInt IntKind.i32.bits (IntKind.i32.wrap (x:Int)) &&& BitVec.ofInt IntKind.i32.bits (m:Int)).toNat:Nat)=((x % 2 ^ k:Nat):Int):=by
 rw [NI (n:=(x:Int)) (by omega) (by omega)];show IntKind.i32.wrap ((BitVec.ofInt 32 (x:Int) &&& BitVec.ofInt 32 (m:Int)).toNat:Nat)=_;rw [BitVec.toNat_and,Vg (by omega),Vg (by omega),hk,Nat.and_two_pow_sub_one_eq_mod];have:=Nat.mod_le x (2 ^ k);exact NI (by omega) (by omega)
theorem Bw {x:Nat} (hx:x < 256):IntKind.i32.wrap (IntKind.u8.wrap ((BitVec.ofInt IntKind.u8.bits (x:Int) &&& BitVec.ofInt IntKind.u8.bits 63).toNat:Nat))=((x % 64:Nat):Int):=by
 show IntKind.i32.wrap (IntKind.u8.wrap ((BitVec.ofInt 8 (x:Int) &&& BitVec.ofInt 8 63).toNat:Nat))=_;have e:(BitVec.ofInt 8 (x:Int)).toNat=x:=by rw [BitVec.toNat_ofInt];omega
 rw [BitVec.toNat_and,e,show (BitVec.ofInt 8 63).toNat=2 ^ 6 - 1 from rfl,Nat.and_two_pow_sub_one_eq_mod];rw [IntKind.wrap_u8'];rw [NI (by omega) (by omega)];omega
theorem NJ {x y:Nat} (h:x < 1000000) (hy:y < 64):IntKind.i32.wrap ((BitVec.ofInt IntKind.i32.bits (IntKind.i32.wrap ((x:Int) * 2 ^ min (Int.toNat 6) IntKind.i32.bits)) ||| BitVec.ofInt IntKind.i32.bits (y:Int)).toNat:Nat)=((x * 64 + y:Nat):Int):=by
 show IntKind.i32.wrap ((BitVec.ofInt 32 (IntKind.i32.wrap ((x:Int) * 64)) ||| BitVec.ofInt 32 (y:Int)).toNat:Nat)=_;rw [NI (n:=(x:Int) * 64) (by omega) (by omega),show (x:Int) * 64=((x * 64:Nat):Int) by omega,BitVec.toNat_or,Vg (by omega),Vg (by omega)];have:=Nat.shiftLeft_add_eq_or_of_lt (i:=6) (b:=y) hy x;rw [Nat.shiftLeft_eq] at this
 grind [NI]
theorem yV {s:ByteArray} {l:List UInt8} (hl:tx s=l) {z:Int} (k:Nat) (hz:z.toNat=k):eX s z.toNat=(l.getD k 0).toNat:=by
 rw [hz,<- hl];all_goals rfl
theorem JB (s:ByteArray) (h:1<=s.size/\s.size<=4):Ev prog 338 [.v (.string s)] [] [] (fun r _ _=>∃ z:Int,r = .v (.int .i32 z)/\(O0 (tx s)=true->z=recV (tx s))):=by
 have gD:=dg s;refine eG 57 [.tmp 2] func338 rfl ntmps338 rfl fun _ _ _ _=>?_;refine br ?_ ?_<;>intro c1
 ·refine ⟨⟨by omega,by omega⟩,?_⟩;have c1:s.size=1:=by have:=of_decide_eq_true c1;omega
  obtain ⟨a,hl⟩:∃ a,tx s=[a]:=by
   rw [c1] at gD
   match tx s,gD with
   | [a],_=>exact ⟨a,rfl⟩
  refine ⟨_,rfl,fun _=>?_⟩;have ha:=a.toNat_lt;rw [yV hl 0 rfl,hl];exact NI (by show _<=(a.toNat:Int);omega) (by show (a.toNat:Int)<=_;omega)
 ·refine dI ?_;refine ⟨⟨by omega,by omega⟩,?_⟩;have hw7:IntKind.i64.wrap (7 - (s.size:Int))=7 - s.size:=wrap64 (by omega) (by omega);have mA:IntKind.i64.wrap (1 + 1)=2:=rfl;have Tw:IntKind.i64.wrap (IntKind.i64.wrap (1 + 1) + 1)=3:=rfl
  have c1:¬ s.size=1:=by
   have:=of_decide_eq_false c1;omega
  refine ⟨by rw [hw7];omega,?_⟩;refine br ?_ ?_<;>intro c4
  ·have c4:s.size=4:=by have:=of_decide_eq_true c4;omega
   refine ⟨by omega,?_⟩;refine ⟨⟨by first | omega | (rw [mA];omega),by first | omega | (rw [mA];omega)⟩,?_⟩;refine ⟨by omega,?_⟩;refine ⟨⟨by first | omega | (rw [mA];omega),by first | omega | (rw [mA];omega)⟩,?_⟩;refine ⟨by omega,?_⟩;refine ⟨⟨by first | omega | (rw [Tw];omega),by first | omega | (rw [Tw];omega)⟩,?_⟩
   obtain ⟨a,b,c,d,hl⟩:∃ a b c d,tx s=[a,b,c,d]:=by
    rw [c4] at gD
    match tx s,gD with
    | [a,b,c,d],_=>exact ⟨a,b,c,d,rfl⟩
   refine ⟨_,rfl,fun hi=>?_⟩;have ha:=a.toNat_lt;have hb:=b.toNat_lt;have hc:=c.toNat_lt;have hd:=d.toNat_lt;have hm:IntKind.i32.wrap (IntKind.i32.wrap (1 * 2 ^ min (IntKind.i64.wrap (7 - (s.size:Int))).toNat IntKind.i32.bits) - 1)=((7:Nat):Int):=by rw [c4];all_goals rfl
   rw [hm,yV hl 0 rfl,yV hl 1 rfl,yV hl 2 rfl,yV hl 3 rfl];simp only [List.getD_cons_zero,List.getD_cons_succ];rw [RM 3 rfl (by omega) ha,Bw hb,NJ (by omega) (by omega),Bw hc,NJ (by omega) (by omega),Bw hd,NJ (by omega) (by omega)];rw [hl] at hi ⊢;rw [O0,decide_eq_true_iff] at hi;simp only [recV];omega
  have c4:¬ s.size=4:=by have:=of_decide_eq_false c4;omega
  refine br ?_ ?_<;>intro c3
  ·have c3:s.size=3:=by have:=of_decide_eq_true c3;omega
   refine ⟨by omega,?_⟩;refine ⟨⟨by first | omega | (rw [mA];omega),by first | omega | (rw [mA];omega)⟩,?_⟩;refine ⟨by omega,?_⟩;refine ⟨⟨by first | omega | (rw [mA];omega),by first | omega | (rw [mA];omega)⟩,?_⟩
   obtain ⟨a,b,c,hl⟩:∃ a b c,tx s=[a,b,c]:=by
    rw [c3] at gD
    match tx s,gD with
    | [a,b,c],_=>exact ⟨a,b,c,rfl⟩
   refine ⟨_,rfl,fun hi=>?_⟩;have ha:=a.toNat_lt;have hb:=b.toNat_lt;have hc:=c.toNat_lt;have hm:IntKind.i32.wrap (IntKind.i32.wrap (1 * 2 ^ min (IntKind.i64.wrap (7 - (s.size:Int))).toNat IntKind.i32.bits) - 1)=((15:Nat):Int):=by rw [c3];all_goals rfl
   rw [hm,yV hl 0 rfl,yV hl 1 rfl,yV hl 2 rfl];simp only [List.getD_cons_zero,List.getD_cons_succ];rw [RM 4 rfl (by omega) ha,Bw hb,NJ (by omega) (by omega),Bw hc,NJ (by omega) (by omega)];rw [hl] at hi ⊢;rw [O0,decide_eq_true_iff] at hi;simp only [recV];omega
  have c3:¬ s.size=3:=by have:=of_decide_eq_false c3;omega
  refine br ?_ ?_<;>intro c2
  ·have c2:s.size=2:=by have:=of_decide_eq_true c2;omega
   refine ⟨by omega,?_⟩;refine ⟨⟨by first | omega | (rw [mA];omega),by first | omega | (rw [mA];omega)⟩,?_⟩
   obtain ⟨a,b,hl⟩:∃ a b,tx s=[a,b]:=by
    rw [c2] at gD
    match tx s,gD with
    | [a,b],_=>exact ⟨a,b,rfl⟩
   refine ⟨_,rfl,fun hi=>?_⟩;have ha:=a.toNat_lt;have hb:=b.toNat_lt;have hm:IntKind.i32.wrap (IntKind.i32.wrap (1 * 2 ^ min (IntKind.i64.wrap (7 - (s.size:Int))).toNat IntKind.i32.bits) - 1)=((31:Nat):Int):=by rw [c2];all_goals rfl
   rw [hm,yV hl 0 rfl,yV hl 1 rfl];simp only [List.getD_cons_zero,List.getD_cons_succ];rw [RM 5 rfl (by omega) ha,Bw hb,NJ (by omega) (by omega)];rw [hl] at hi ⊢;rw [O0,decide_eq_true_iff] at hi;simp only [recV];omega
  ·exfalso;have:=of_decide_eq_false c2;omega
def j2 (c i b:Nat):Bool:=if i=0 then decide (iZ c<=b) && decide (b<=ja c) else decide (128<=b) && decide (b<=191)
def allC (c:Nat) (r:List UInt8) (k:Nat):Bool:=(List.range k).all fun i=>match r[i]? with
 | some b=>j2 c i b.toNat
 | none=>false
theorem NK (c:Nat) (r:List UInt8) (k:Nat):allC c r (k + 1)=(allC c r k && match r[k]? with | some b=>j2 c k b.toNat | none=>false):=by grind [allC]
theorem wu {c:Nat} {r:List UInt8} {k n:Nat} (h:k < n) (hk:(match r[k]? with | some b=>j2 c k b.toNat | none=>false)=false):allC c r n=false:=by grind [allC]
def okU:List UInt8->Bool
 | []=>false
 | c :: r=>decide (1<=bm c.toNat) && allC c.toNat r (bm c.toNat - 1)
def eW:List UInt8->Nat
 | []=>0
 | c :: r=>if okU (c :: r)=true then bm c.toNat else 1
theorem Dl {c:UInt8} {r:List UInt8} (h:okU (c :: r)=true):O0 ((c :: r).take (bm c.toNat))=true:=by
 unfold okU at h;rw [aO,decide_eq_true_iff] at h;obtain ⟨h1,h2⟩:=h;have hb:∀ i,i < bm c.toNat - 1->∃ b:UInt8,r[i]? = some b/\128<=b.toNat/\b.toNat < 192:=fun i hi=>by grind [allC,j2,iZ,ja]
 have hn:(bm c.toNat=1/\c.toNat < 128)∨(bm c.toNat=2/\192<=c.toNat/\c.toNat < 224)∨(bm c.toNat=3/\224<=c.toNat/\c.toNat < 240)∨(bm c.toNat=4/\240<=c.toNat/\c.toNat < 248):=by grind [bm]
 rcases hn with ⟨hn,hc⟩ | ⟨hn,hc⟩ | ⟨hn,hc⟩ | ⟨hn,hc⟩<;>rw [hn] at hb ⊢
 ·simp [O0,hc]
 ·obtain ⟨b,h5,h6⟩:=hb 0 (by omega)
  match r,h5 with
  | x :: r,h5=>grind [O0]
 ·obtain ⟨b,h5,h6⟩:=hb 0 (by omega);obtain ⟨b',h7,h8⟩:=hb 1 (by omega)
  match r,h5,h7 with
  | x :: y :: r,h5,h7=>grind [O0]
 ·obtain ⟨b,h5,h6⟩:=hb 0 (by omega);obtain ⟨b',h7,h8⟩:=hb 1 (by omega);obtain ⟨b2,h9,qZ⟩:=hb 2 (by omega)
  match r,h5,h7,h9 with
  | x :: y :: v :: r,h5,h7,h9=>simp_all [O0]
set_option maxHeartbeats 4000000 in
theorem Bz (s:ByteArray) (at':Nat) (hs:s.size<=1099511627776) (c:UInt8) (r:List UInt8) (h:(tx s).drop at'=c :: r) :
  Ev prog 308 [.v (.string s),.v (.int .i64 at')] [] [] (fun d _ _=>∃ (z:Int) (n:Nat),d = .tup [.v (.int .i32 z),.v (.int .i64 n),.v (.bool (okU (c :: r)))]/\(okU (c :: r)=true->n=bm c.toNat/\z=recV ((c :: r).take n))/\1<=n):=by
 have hlen:at' < s.size:=by
  have:=congrArg List.length h;rw [List.length_drop,dg] at this;simp at this;omega
 have hB:tx (s.extract (at':Int).toNat (s.size:Int).toNat)=c :: r:=by
  rw [<- h];simp [tx,lK];exact List.take_of_length_le (by rw [List.length_drop];have:=dg s;unfold tx at this;omega)
 have cf:(s.extract (at':Int).toNat (s.size:Int).toNat).size=r.length + 1:=by rw [<- dg,hB];all_goals rfl
 have KN:∀ (k:Nat) b,r[k]? = some b->eX (s.extract (at':Int).toNat (s.size:Int).toNat) (k + 1)=b.toNat:=fun k b hk=>by
  show ((tx _).getD (k + 1) 0).toNat=_;rw [hB];simp [eO,hk]
 have HU:EvP prog 337 [.v (.int .u8 (eX (s.extract (at':Int).toNat (s.size:Int).toNat) 0:Nat))] (.tup [.v (.int .i64 (bm c.toNat:Nat)),.v (.int .u8 (iZ c.toNat:Nat)),.v (.int .u8 (ja c.toNat:Nat))]):=by
  have:eX (s.extract (at':Int).toNat (s.size:Int).toNat) 0=c.toNat:=by
   show ((tx _).getD 0 0).toNat=_;rw [hB];rfl
  rw [this];exact NH c.toNat
 have hv:=fun (k:Nat) (h1:1<=k) (h2:k<=4) (h3:k<=r.length + 1)=>JB ((s.extract (at':Int).toNat (s.size:Int).toNat).extract 0 k) (by
  have:((s.extract (at':Int).toNat (s.size:Int).toNat).extract 0 k).size=k:=by
   rw [ByteArray.size_extract,cf];omega
  omega)
 have hu:okU (c :: r)=(decide (1<=bm c.toNat) && allC c.toNat r (bm c.toNat - 1)):=rfl;have v7:=Dl (c:=c) (r:=r);generalize okU (c :: r)=U at hu v7 ⊢
 have hn4:bm c.toNat<=4:=by
  unfold bm
  repeat' split
  all_goals omega
 refine eG 60 [.tmp 4,.tmp 5,.tmp 6] func308 rfl ntmps308 rfl fun _ _ _ _=>?_;refine br (fun c=>absurd c (by simp [au];omega)) (fun _=>?_);refine ⟨⟨by omega,by omega,by omega⟩,?_⟩;refine ⟨⟨by omega,by rw [cf];omega⟩,?_⟩;refine cP acK HU ?_;refine br ?_ ?_<;>intro g
 ·have g:bm c.toNat=0:=by have:=of_decide_eq_true g;omega
  have bA:U=false:=by rw [hu,g];all_goals rfl
  subst bA;exact ⟨.tup [.v (.int .i32 0),.v (.int .i64 (1:Nat)),.v (.bool false)],ax,0,1,rfl,fun h=>(by cases h),by omega⟩
 have g:1<=bm c.toNat:=by have:=of_decide_eq_false g;omega
 refine aT (fun j st=>∃ i:Nat,st=⟨[(0,⟨[],.v (.string (s.extract (at':Int).toNat (s.size:Int).toNat))⟩),ay 7 (bm c.toNat:Nat),(8,⟨[],.v (.int .u8 ((if i=0 then iZ c.toNat else 128:Nat):Int))⟩),(9,⟨[],.v (.int .u8 ((if i=0 then ja c.toNat else 191:Nat):Int))⟩),ay 10 ((i + 1:Nat):Int)],[],[]⟩/\i + 1<=bm c.toNat/\allC c.toNat r i=true/\j=bm c.toNat - (i + 1)) (bm c.toNat - (0 + 1))
  ⟨[(0,⟨[],.v (.string (s.extract (at':Int).toNat (s.size:Int).toNat))⟩),ay 7 (bm c.toNat:Nat),(8,⟨[],.v (.int .u8 ((if 0=0 then iZ c.toNat else 128:Nat):Int))⟩),(9,⟨[],.v (.int .u8 ((if 0=0 then ja c.toNat else 191:Nat):Int))⟩),ay 10 ((0 + 1:Nat):Int)],[],[]⟩ (bG j8) ⟨0,rfl,by omega,rfl,by omega⟩ ?_
 rintro j st ⟨i,rfl,hi,ha,rfl⟩;refine br ?_ ?_<;>intro hL
 ·have aw:i + 1 < bm c.toNat:=by have:=of_decide_eq_true hL;omega
  refine br ?_ ?_<;>intro k
  ·have k:i < r.length:=by
    have:=k;have lQ:(s.extract at' s.size).size=r.length + 1:=cf;simp [lQ] at this;omega
   obtain ⟨b,hb⟩:∃ b,r[i]? = some b:=⟨_,gE k⟩;have hbb:=KN i b hb;refine ⟨⟨by omega,by rw [cf];omega⟩,?_⟩
   have Fg:j2 c.toNat i b.toNat=(decide ((if i=0 then iZ c.toNat else 128)<=b.toNat) && decide (b.toNat<=(if i=0 then ja c.toNat else 191))):=by
    unfold j2;split<;>rfl
   have has:=NK c.toNat r i;rw [ha,hb,Bool.true_and] at has;simp only [Fg] at has;have e:eX (s.extract (at':Int).toNat (s.size:Int).toNat) (((i + 1:Nat):Int)).toNat=b.toNat:=hbb;refine br ?_ ?_<;>intro k2
   ·have k2:(if i=0 then iZ c.toNat else 128)<=b.toNat:=by
     have k3:=k2;rw [e] at k3;generalize (if i=0 then iZ c.toNat else 128)=lo at k3 ⊢;simp [au] at k3;omega
    refine ⟨⟨by omega,by rw [cf];omega⟩,?_⟩;refine br ?_ ?_<;>intro k4
    ·have k4:¬ b.toNat<=(if i=0 then ja c.toNat else 191):=by
      have k3:=k4;rw [e] at k3;generalize (if i=0 then ja c.toNat else 191)=hi at k3 ⊢;simp [au] at k3;omega
     have hf:=wu (c:=c.toNat) (r:=r) (k:=i) (n:=bm c.toNat - 1) (by omega) (by rw [hb];simp only [Fg];simp [k4]);rw [hf,Bool.and_false] at hu;subst hu;exact ⟨.tup [.v (.int .i32 0),.v (.int .i64 ((i + 1:Nat):Int)),.v (.bool false)],ax,0,i + 1,rfl,fun h=>(by cases h),by omega⟩
    ·have k4:b.toNat<=(if i=0 then ja c.toNat else 191):=by
      have k3:=k4;rw [e] at k3;generalize (if i=0 then ja c.toNat else 191)=hi at k3 ⊢;simp [au] at k3;omega
     rw [decide_eq_true k2,decide_eq_true k4] at has;exact rE ⟨_,by omega,i + 1,rfl,by omega,has,rfl⟩ (bG (dH (aX aw (by omega))))
   ·have k2:¬ (if i=0 then iZ c.toNat else 128)<=b.toNat:=by
     have k3:=k2;rw [e] at k3;generalize (if i=0 then iZ c.toNat else 128)=lo at k3 ⊢;simp [au] at k3;omega
    have hf:=wu (c:=c.toNat) (r:=r) (k:=i) (n:=bm c.toNat - 1) (by omega) (by rw [hb];simp only [Fg];simp [k2]);rw [hf,Bool.and_false] at hu;subst hu;exact ⟨.tup [.v (.int .i32 0),.v (.int .i64 ((i + 1:Nat):Int)),.v (.bool false)],ax,0,i + 1,rfl,fun h=>(by cases h),by omega⟩
  ·have k:r.length<=i:=by
    have:=k;have lQ:(s.extract at' s.size).size=r.length + 1:=cf;simp [lQ] at this;omega
   have hf:=wu (c:=c.toNat) (r:=r) (k:=i) (n:=bm c.toNat - 1) (by omega) (by rw [nX k]);rw [hf,Bool.and_false] at hu;subst hu;exact ⟨.tup [.v (.int .i32 0),.v (.int .i64 ((i + 1:Nat):Int)),.v (.bool false)],ax,0,i + 1,rfl,fun h=>(by cases h),by omega⟩
 ·have hge:i + 1=bm c.toNat:=by have:=of_decide_eq_false hL;omega
  have hu1:U=true:=by
   rw [hu,<- hge];simp [ha]
  subst hu1
  have fm:bm c.toNat<=r.length + 1:=by
   rcases Nat.lt_or_ge r.length (bm c.toNat - 1) with h | h
   ·have hf:=wu (c:=c.toNat) (r:=r) (k:=r.length) (n:=bm c.toNat - 1) h (by rw [nX (aR _)]);rw [<- hge,Nat.add_sub_cancel,ha] at hf;cases hf
   ·omega
  have hv:=hv (bm c.toNat) (by omega) hn4 fm;refine ⟨⟨by omega,by omega,by rw [cf];omega⟩,?_⟩;refine cE acL rfl hv ax (fun q hq=>?_);obtain ⟨z,rfl,hz⟩:=hq;rw [show tx ((s.extract (at':Int).toNat (s.size:Int).toNat).extract 0 (bm c.toNat))=(c :: r).take (bm c.toNat) from by rw [<- hB,(by simp [tx]:∀ (B:ByteArray) k,tx (B.extract 0 k)=(tx B).take k)]] at hz;exact ⟨.tup [.v (.int .i32 z),.v (.int .i64 (bm c.toNat:Nat)),.v (.bool true)],ax,z,bm c.toNat,rfl,fun _=>⟨rfl,hz (v7 rfl)⟩,by omega⟩
def RN (z:Int):Bool:=decide (0<=z) && decide (z<=1114111) && (decide (z < 55296) || decide (57343 < z))
def NL (n:Nat):List UInt8:=
 if n < 128 then [UInt8.ofNat n] else if n < 2048 then [UInt8.ofNat (192 + n / 64),UInt8.ofNat (128 + n % 64)]
 else if n < 65536 then [UInt8.ofNat (224 + n / 4096),UInt8.ofNat (128 + n / 64 % 64),UInt8.ofNat (128 + n % 64)]
 else [UInt8.ofNat (240 + n / 262144),UInt8.ofNat (128 + n / 4096 % 64),UInt8.ofNat (128 + n / 64 % 64),UInt8.ofNat (128 + n % 64)]
def aet (z:Int):List UInt8:=if RN z=true then NL z.toNat else []
end Go.Proofs.YtgjagnmeonoehaaGreat
