/- Part 5 of the proof: What resolve.Build says of a schema; lattices in which nothing is wrong; resolve.Build; Reading a plan: Len, Root, Lattice, Node, Find; slices.Clone; of no plan as well; The reference of chapter 17: Great, Same; The program's comparing of schemas; The law's example: a type that leads to itself; The law of no plan: the call returns true; The document's relations: Leads; The document's lattices: Find, pairs, Leq, Loop; The document's lattices: what is wrong; The document's labels: over, Least, Of; The document's schemas: Find, word, all, Flat, End, Start; The document's schemas: Flat, End, Start; The document's schemas: named, unknown; The reference's Wrong returns what is wrong with a type; The document's schemas: what is wrong; The document's nodes: Same, of equal ones; the law's node; The document's nodes: node; The document's plan: Build; What is known of a type with which nothing is wrong; labels have levels; What is known of the nodes of a plan; A plan, as its readers know it; Values, plain; how many are in one, how deep they lie; What is read of a value, as the plain data; What the frames of laws over values share; The greatest multiple of a unit that is at most a number. No condition. -/
import Derived.Test.YtgjagnmeonoehaaGreatMs3
import Derived.Test.YtgjagnmeonoehaaGreatMs4
set_option linter.all false
set_option maxRecDepth 100000
namespace Go.Proofs.YtgjagnmeonoehaaGreat
open Go Go.RowKit Dv Go.Proofs.Tryz
theorem qg {l:List Wd} {o:List (Wd × Wd)} (h:(latF l o).1=0):(gB l o).1=0/\(enumL l 0 l).1=0/\(numF (aA l) o).1=0/\bX (ld l.length (fj l.length (dF (aA l) o))) l.length=none/\bX (oc (fj l.length (dF (aA l) o)) l.length) l.length=none:=by
 unfold latF at h;split at h
 ·rename_i h1;exact (h1 h).elim
 ·rename_i h1;split at h
  ·rename_i h2;exact (h2 h).elim
  ·rename_i h2;split at h
   ·rename_i h3;exact (h3 h).elim
   ·rename_i h3;refine ⟨by simpa using h1,by simpa using h2,by simpa using h3,?_⟩;split at h
    ·cases h
    ·rename_i h4;refine ⟨h4,?_⟩;split at h
     ·cases h
     ·rename_i h5;exact h5
theorem ef {p:Nat->Bool} {n:Nat} (h:bX p n=none):∀ a,a < n->p a=false:=by
 intro a ha;unfold bX at h;rw [List.find?_eq_none] at h;have:=h a (sU ha);simpa using this
theorem l7 {l:List Wd} {o:List (Wd × Wd)} (h:(latF l o).1=0):fk (fj l.length (dF (aA l) o)) l.length/\l.length<=32:=by
 obtain ⟨h1,h2,h3,h4,h5⟩:=qg h;have hP:=oX h3;rw [dO] at hP
 have G4:l ≠ []:=by
  rintro rfl;simp [gB] at h1
 have PX:l.length<=32:=by
  rcases Nat.lt_or_ge 32 l.length with h | h
  ·simp [gB,G4,h] at h1
  ·exact h
 have Ny:∀ a b,a < l.length->b < l.length->lX (fj l.length (dF (aA l) o)) l.length a b=false:=by
  have key:∀ a b,a<=b->b < l.length->lX (fj l.length (dF (aA l) o)) l.length a b=false:=fun a b pU hb=>by
   have:=ef h5 b hb;unfold oc at this;rw [List.any_eq_false] at this;have:=this a (by simp;omega);simpa using this
  intro a b ha hb;rcases Nat.le_total a b with h | h
  ·exact key a b h hb
  ·have:=key b a h ha;unfold lX at this ⊢;rw [xr,xu];exact this
 refine ⟨{
  pos:=List.length_pos_iff.2 G4
  rfl':=fun a ha=>sR hP ha
  tr:=fun a b c ha hb hc=>Hw hP ha hb hc
  HF:=fun a b ha hb h6 h7=>by
   have:=ef h4 a ha;unfold ld at this;rw [List.any_eq_false] at this;have:=this b (sU hb);simp only [aD,decide_eq_true_eq,not_and] at this;rcases Nat.lt_trichotomy a b with h8 | h8 | h8
   ·exact (this (by omega) h6 h7).elim
   ·exact h8
   ·exact (this (by omega) h6 h7).elim
  jn:=fun a b ha hb=>by
   have:=Ny a b ha hb;unfold lX at this;simp only [Bool.or_eq_false_iff,Option.isNone_eq_false_iff] at this;exact Option.isSome_iff_exists.1 this.1
  mt:=fun a b ha hb=>by
   have:=Ny a b ha hb;unfold lX at this;simp only [Bool.or_eq_false_iff,Option.isNone_eq_false_iff] at this
   exact Option.isSome_iff_exists.1 this.2 },PX⟩
def dL (s:Sch) (aE:List Nat) (js:List Int):Lx:=⟨aA s.ae,aE,closeR (fL s.ae.length (dF (aA s.ae) s.order)) s.ae.length,js,fj s.ae.length (dF (aA s.ae) s.order)⟩
theorem Tm {s:Sch} {d:DV} (h:(latF s.ae s.order).1=0) (hd:XG s.ae s.order d) (hw:s.ae.length<=1099511627776):∃ aE js,(dL s aE js).OK/\d=(dL s aE js).pd:=by
 obtain ⟨aE,js,hT,kO,pN,vi,rfl⟩:=hd;obtain ⟨h1,h2⟩:=l7 h;refine ⟨aE,js,⟨hT,by show aE.length<=_;omega,?_,?_,?_⟩,rfl⟩
 ·show fk _ (aA s.ae).length;rw [dO];exact h1
 ·show (aA s.ae).length<=32;rw [dO];exact h2
 ·show ∀ x y,x < (aA s.ae).length->y < (aA s.ae).length->JM _ (aA s.ae).length js x y;rw [dO];exact vi
def ju (s:Sch) (l:List Wd):Int:=Cg (fj s.ae.length (dF (aA s.ae) s.order)) (aA s.ae) l
def lg (s:Sch) (t:Ty):Ft:=knT ⟨aA s.ae,[],[],[],fun _ _=>false⟩ (tL s) t
mutual
theorem AJ {X Y:Lx} (h:X.af=Y.af) (L:List ByteArray):∀ t:Ty,knT X L t=knT Y L t
 | .mk h1 ps=>by rw [knT,knT,AK h L ps]
theorem AK {X Y:Lx} (h:X.af=Y.af) (L:List ByteArray):∀ ps:Pts,knP X L ps=knP Y L ps
 | .nil=>by rw [knP,knP]
 | .cons p t r=>by
  rw [knP,knP,AK h L r,AJ h L t];unfold Lx.bad;rw [h]
end
theorem XS (s:Sch) (aE:List Nat) (js:List Int) (t:Ty):knT (dL s aE js) (tL s) t=lg s t:=AJ (X:=dL s aE js) (Y:=⟨aA s.ae,[],[],[],fun _ _=>false⟩) rfl (tL s) t
def lE (s:Sch):Ft:=
 if (latF s.ae s.order).1≠0 then latF s.ae s.order
 else if (eL s).1≠0 then eL s
 else if (eaR s.root s.types 0).1.1≠0 then (eaR s.root s.types 0).1
 else if (eaL (lg s) (lg s s.root) s.types).1≠0 then eaL (lg s) (lg s s.root) s.types
 else loopF s
def ndsAll (lev:List Wd->Int) (s:Sch):List (Wd × Ty)->Nat->List Nd
 | [],_=>[]
 | x :: r,k=>ndsT lev s x.2 k ++ ndsAll lev s r (k + x.2.nn)
def rz (s:Sch):List Nd:=ndsAll (ju s) s s.types 0
def aM (s:Sch):List Nd:=rz s ++ ndsT (ju s) s s.root (rz s).length
def dV (s:Sch):Int:=oi s s.root (rz s).length
def VI (s:Sch) (aE lF:List Nat) (js:List Int):List DV:=
 [(dL s aE js).pd,.sl 7 (dD (aM s)) none,.v (.int .i64 (dV s)),.pt (dh (tL s) lF) 0,.sl 1 (dInts (namedL s)) none]
def PY (s:Sch) (d:DV):Prop:=∃ aE lF js,(dL s aE js).OK/\iR (tL s) lF/\lF.length<=s.types.length/\d = .pt (VI s aE lF js) 0
def HO (s:Sch) (r:DV) (_:List (List DV)) (_:List TkE):Prop:=
 if (lE s).1≠0 then r = .tup [.v (.pointer none),(lE s).d] else ∃ d,PY s d/\r = .tup [d,Ft.d (0,0)]
theorem om {s:Sch} {f:Ft} {os:List (List DV)} {tk:List TkE} (h:lE s=f) (hf:f.1≠0):HO s (.tup [.v (.pointer none),f.d]) os tk:=by
 unfold HO;rw [h,ai hf]
theorem Tn {s:Sch} {d:DV} {os:List (List DV)} {tk:List TkE} (h:(lE s).1=0) (hd:PY s d):HO s (.tup [d,Ft.d (0,0)]) os tk:=by
 unfold HO;rw [ah (by rw [h];simp)];exact ⟨d,hd,rfl⟩
theorem PZ {F:Ty->Ft} {z:Ft}:∀ {l:List (Wd × Ty)},(eaL F z l).1=0->z.1=0/\∀ x∈l,(F x.2).1=0
 | [],h=>⟨h,fun x hx=>by cases hx⟩
 | x :: r,h=>by
  rw [eaL] at h;split at h
  ·rename_i h1;exact (h1 h).elim
  ·rename_i h1;obtain ⟨h2,h3⟩:=PZ h;refine ⟨h2,fun y hy=>?_⟩;rcases bp hy with rfl | hy
   ·simpa using h1
   ·exact h3 y hy
theorem P4 {z:Ty}:∀ {l:List (Wd × Ty)} {m:Int},0<=m->(eaR z l m).1.1=0->(wrong z 1 0).1.1=0/\(∀ x∈l,(wrong x.2 1 0).1.1=0)/\(eaR z l m).2=m + ((l.map fun x=>x.2.cnt).sum + z.cnt:Nat)/\(eaR z l m).2<=512
 | [],m,_,h=>by
  rw [eaR] at h ⊢;obtain ⟨h1,h2,h3,_⟩:=oZ h;exact ⟨h3,(fun x hx=>by cases hx),(by simp [h1]),h2⟩
 | x :: r,m,hm,h=>by
  rw [eaR] at h ⊢;split at h
  ·rename_i h1;exact (h1 h).elim
  ·rename_i h1;rw [ah h1];obtain ⟨g1,g2,g3,_⟩:=oZ (sU h1);obtain ⟨h2,h3,h4,h5⟩:=P4 (by omega) h;refine ⟨h2,fun y hy=>?_,(by rw [h4,g1];simp only [List.map_cons,List.sum_cons];omega),h5⟩;rcases bp hy with rfl | hy
   ·exact g3
   ·exact h3 y hy
theorem xH (lev:List Wd->Int) (s:Sch):∀ (l:List (Wd × Ty)) (k:Nat),(ndsAll lev s l k).length=(l.map fun x=>x.2.nn).sum
 | [],_=>rfl
 | x :: r,k=>by simp only [ndsAll,List.length_append,kE,xH lev s r,List.map_cons,List.sum_cons]
theorem xI:∀ l:List (Wd × Ty),(l.map fun x=>x.2.nn).sum<=(l.map fun x=>x.2.cnt).sum
 | []=>aO _
 | x :: r=>by
  have:=x.2.gQ;have:=xI r;simp only [List.map_cons,List.sum_cons];omega
theorem AL:∀ l:List Nd,(dD l).flatten.length=l.length * 7
 | []=>rfl
 | a :: r=>by
  have:=AL r;simp only [dD,List.map_cons,List.flatten_cons,List.length_append,List.length_cons] at this ⊢;rw [this];simp only [jt,List.length_cons,List.length_nil];omega
theorem Cm {X:Lx} {s:Sch} {t:Ty} (h:(knT X (tL s) t).1=0):uU s t=true:=by
 obtain ⟨hd,ps⟩:=t;have:=(nd h).1;unfold uU;exact decide_eq_true this
theorem ES {s:Sch} (h:(loopF s).1=0):∀ i,i < s.types.length->∃ k,endI s (s.types.length + 1) i=some k:=by
 intro i hi;unfold loopF at h;split at h
 ·rename_i h1;have:=ef h1 i hi;simp only [Option.isNone_eq_false_iff] at this;exact Option.isSome_iff_exists.1 this
 ·cases h
abbrev P5 (s:Sch) (aE:List Nat) (lc:List DV) (m:Int) (f1 f2:Int) (n:Nat) (base:List DV) (e:Nat):St:=
 ⟨[aab 1 4,aab 3 3,aab 6 0,aad 59 11 (dNms s.types),aaa 60 ((dNms s.types).length),aaa 61 e],
  [bC s (.pt lc 0) (.loc 1 0) m,Nz s aE lc n,[.v (.int .i64 f1),.v (.int .i64 f2)],[.v (.int .i64 0),.v (.int .i64 0)],eJ s],[HL n base]⟩
theorem xJ (s:Sch) (hs:s.wt<=1099511627776):Ev prog 11 [.agg (eJ s)] [] [] (HO s):=by
 have hF:=lE.eq_1 s;have hw:=hs;simp only [Sch.wt] at hw;have hwl:=bu s.ae;have hwn:=j5 s.types;have SL:=ED s.ae s.order (by omega) (by omega);have uN:=fun lc=>Cj s lc (by omega)
 have cG:∀ t,(t=s.root∨∃ x∈s.types,t=x.2)->t.wt<=1099511627776:=fun t ht=>by
  rcases ht with rfl | ⟨x,hx,rfl⟩
  ·omega
  ·have:=hZ hx;omega
 have acU:=fun lc aE=>HK s lc aE 0 (by omega) (by omega) (by omega) cG;have acV:=fun (X:Lx) (hX:X.OK) (aE:List Nat) (hT:iR (tL s) aE) (kO:aE.length<=1099511627776) (m:Int)=>L0 s X.pd (HJ s aE (iT X.af (dh X.af X.aE) X.rows X.js)) m (by omega) 49 W8 (knT X (tL s)) (fun t ht=>xD hX s aE (.pt (iT X.af (dh X.af X.aE) X.rows X.js) 0) (.v (.slice none 0 0)) (.v (.int .i64 0)) (.v (.slice none 0 0)) m hT kO t.wt t (aO _) (cG t ht))
 have XT:(eL s).1=0->s.types.length<=64:=fun h=>by
  unfold eL at h;split at h
  ·cases h
  ·omega
 have hLx:=fun d h hd=>@Tm s d h hd (by omega);have VJ:=fun (lat:DV) (aE:List Nat) (a b c e0:DV) (m:Int)=>HI s lat aE a b c e0 m;have P6:=fun (lc:List DV) (aE:List Nat) (m:Int)=>EO s lc aE m;have ep:=fun (X:Lx) (hX:X.OK) (aE:List Nat) (m:Int) (hT:iR (tL s) aE) (kO:aE.length<=1099511627776) (t:Ty) (ht:t.wt<=1099511627776)=>AE hX s aE m hT kO t.wt t (aO _) ht;refine eG 85 [.tmp 2,.cell 3 44] func11 rfl ntmps11 rfl fun _ _ _ _=>?_;generalize hS:s=S at *;obtain ⟨ae,order,types,⟨rh,rp⟩⟩:=s;subst hS;refine bE en45 rfl SL ax (fun r hr=>?_);by_cases hL:(latF ae order).1≠0
 ·have hL':=hL;rw [ai (show (latF (Sch.mk ae order types (.mk rh rp)).ae (Sch.mk ae order types (.mk rh rp)).order).1≠0 from hL)] at hF;unfold HA at hr;rw [ai (show (latF (Sch.mk ae order types (.mk rh rp)).ae (Sch.mk ae order types (.mk rh rp)).order).1≠0 from hL)] at hr;subst hr;refine br ?_ ?_<;>intro h
  ·refine dS ?_;exact ⟨_,ax,om (os:=[]) (tk:=[]) hF hL⟩
  ·exfalso;simp at h;exact hL h
 unfold HA at hr;rw [ah (show ¬ (latF (Sch.mk ae order types (.mk rh rp)).ae (Sch.mk ae order types (.mk rh rp)).order).1≠0 from hL)] at hF hr;obtain ⟨d,hd,rfl⟩:=hr;have hL0:(latF ae order).1=0:=sU hL;obtain ⟨aE,js,hX,rfl⟩:=hLx d hL0 hd;generalize XU:dL ⟨ae,order,types,.mk rh rp⟩ aE js=X at hX;refine br (fun h=>?_) (fun _=>?_)
 ·exfalso;simp at h;exact hL h
 refine dH.acQ 0 4 rfl rfl rfl rfl (dH.acQ 1 3 rfl rfl rfl rfl ?_);refine gK 2 0 en46 rfl rfl rfl ie ie (uN (iT X.af (dh X.af X.aE) X.rows X.js)) (fun r il cd hΦ h1 h2=>?_);obtain ⟨rfl,Ly⟩:=hΦ;have h2:=List.eq_nil_of_length_eq_zero h2;subst h2;by_cases Kj:(eL ⟨ae,order,types,.mk rh rp⟩).1≠0
 ·rw [ai Kj] at hF
  obtain ⟨a,b,rfl⟩:∃ a b,il=[a,b]:=by
   match il,h1 with
   | [a,b],_=>exact ⟨a,b,rfl⟩
  refine br ?_ ?_<;>intro h
  ·refine dS ?_;exact ⟨_,ax,om (os:=[]) (tk:=[]) hF Kj⟩
  ·exfalso;simp at h;exact Kj h
 rw [ah Kj] at hF;have acW:(eL ⟨ae,order,types,.mk rh rp⟩).1=0:=sU Kj;have P7:=XT acW;obtain ⟨lF,hT,kO,rfl⟩:=Ly acW;refine br (fun h=>?_) (fun _=>?_)
 ·exfalso;simp at h;exact Kj h
 refine gK 2 0 aav rfl rfl rfl ie ie (acU (iT X.af (dh X.af X.aE) X.rows X.js) lF) (fun r il cd hΦ h1 h2=>?_);obtain ⟨rfl,rfl⟩:=hΦ;have h2:=List.eq_nil_of_length_eq_zero h2;subst h2;by_cases hR:(eaR (.mk rh rp) types 0).1.1≠0
 ·rw [ai (show (eaR (Sch.mk ae order types (.mk rh rp)).root (Sch.mk ae order types (.mk rh rp)).types 0).1.1≠0 from hR)] at hF;refine br ?_ ?_<;>intro h
  ·refine dS ?_;exact ⟨_,ax,om (os:=[]) (tk:=[]) hF hR⟩
  ·exfalso;simp at h;exact hR h
 rw [ah (show ¬ (eaR (Sch.mk ae order types (.mk rh rp)).root (Sch.mk ae order types (.mk rh rp)).types 0).1.1≠0 from hR)] at hF;have VK:(eaR (.mk rh rp) types 0).1.1=0:=sU hR;refine br (fun h=>?_) (fun _=>?_)
 ·exfalso;simp at h;exact hR h
 have hea:=acV X hX lF hT (by have:types.length<=64:=P7;have:lF.length<=types.length:=kO;omega) (eaR (.mk rh rp) types 0).2;have XV:∀ t,knT X (tL ⟨ae,order,types,.mk rh rp⟩) t=lg ⟨ae,order,types,.mk rh rp⟩ t:=fun t=>by rw [<- XU];exact XS _ _ _ t
 have XW:eaL (knT X (tL ⟨ae,order,types,.mk rh rp⟩)) (knT X (tL ⟨ae,order,types,.mk rh rp⟩) (.mk rh rp)) types=eaL (lg ⟨ae,order,types,.mk rh rp⟩) (lg ⟨ae,order,types,.mk rh rp⟩ (.mk rh rp)) types:=by
  rw [show knT X (tL ⟨ae,order,types,.mk rh rp⟩)=lg ⟨ae,order,types,.mk rh rp⟩ from funext XV]
 refine Ke aav hea ax rfl rfl ?_;by_cases hK:(eaL (lg ⟨ae,order,types,.mk rh rp⟩) (lg ⟨ae,order,types,.mk rh rp⟩ (.mk rh rp)) types).1≠0
 ·rw [ai (show (eaL (lg ⟨ae,order,types,.mk rh rp⟩) (lg ⟨ae,order,types,.mk rh rp⟩ (Sch.mk ae order types (.mk rh rp)).root) (Sch.mk ae order types (.mk rh rp)).types).1≠0 from hK)] at hF;refine br ?_ ?_<;>intro h
  ·refine dS ?_;refine ⟨.tup [.v (.pointer none),(eaL (knT X (tL ⟨ae,order,types,.mk rh rp⟩)) (knT X (tL ⟨ae,order,types,.mk rh rp⟩) (.mk rh rp)) types).d],ax,?_⟩;rw [XW];exact om (os:=[]) (tk:=[]) hF hK
  ·exfalso;simp only [XW] at h;simp at h;exact hK h
 rw [ah (show ¬ (eaL (lg ⟨ae,order,types,.mk rh rp⟩) (lg ⟨ae,order,types,.mk rh rp⟩ (Sch.mk ae order types (.mk rh rp)).root) (Sch.mk ae order types (.mk rh rp)).types).1≠0 from hK)] at hF;have hK0:(eaL (lg ⟨ae,order,types,.mk rh rp⟩) (lg ⟨ae,order,types,.mk rh rp⟩ (.mk rh rp)) types).1=0:=sU hK;refine br (fun h=>?_) (fun _=>?_)
 ·exfalso;have h:(!decide ((eaL (knT X (tL ⟨ae,order,types,.mk rh rp⟩)) (knT X (tL ⟨ae,order,types,.mk rh rp⟩) (.mk rh rp)) types).1=0))=true:=h;rw [XW,hK0] at h;simp at h
 have hw2:wdsWt ae + prsWt order + nmsWt types + (Ty.mk rh rp).wt<=1099511627776:=hw;have hnmw:nmsWt types<=1099511627776:=by omega
 obtain ⟨VL,iK⟩:=PZ hK0;have hkr':(knT X (tL ⟨ae,order,types,.mk rh rp⟩) (.mk rh rp)).1=0:=by rw [XV];exact VL
 have acY:∀ x∈types,(knT X (tL ⟨ae,order,types,.mk rh rp⟩) x.2).1=0:=fun x hx=>by rw [XV];exact iK x hx
 have acZ:∀ x∈types,uU ⟨ae,order,types,.mk rh rp⟩ x.2=true:=fun x hx=>Cm (acY x hx);have Tp:lF.length<=1099511627776:=by have:types.length<=64:=P7;have:lF.length<=types.length:=kO;omega
 refine Ke en50 (VJ X.pd lF X.pd (.v (.slice none 0 0)) (.v (.int .i64 0)) (.v (.slice none 0 0)) (eaR (.mk rh rp) types 0).2 hT Tp P7 acZ) ax rfl rfl ?_;by_cases hO:(loopF ⟨ae,order,types,.mk rh rp⟩).1≠0
 ·refine br ?_ ?_<;>intro h
  ·refine dS ?_;exact ⟨_,ax,om (os:=[]) (tk:=[]) hF hO⟩
  ·exfalso;simp at h;exact hO h
 have hO0:(loopF ⟨ae,order,types,.mk rh rp⟩).1=0:=sU hO;have hF0:(lE ⟨ae,order,types,.mk rh rp⟩).1=0:=by rw [hF];exact hO0
 refine br (fun h=>?_) (fun _=>?_)
 ·exfalso;simp at h;exact hO h
 refine gK 2 0 en51 rfl rfl rfl ie ie (P6 (iT X.af (dh X.af X.aE) X.rows X.js) lF (eaR (.mk rh rp) types 0).2 hT Tp P7 acZ hnmw (ES hO0)) (fun r il cd hΦ h1 h2=>?_);subst hΦ;have h2:=List.eq_nil_of_length_eq_zero h2;subst h2;clear uN acU acV VJ P6 hea SL;have hN:(dNms types).length=types.length:=ek types;obtain ⟨L8,D6,hcm,ac0⟩:=P4 (Int.le_refl 0) VK;generalize (eaR (.mk rh rp) types 0).2=m at hcm ac0 ⊢
 refine aT (fun j st=>∃ (e n:Nat) (base:List DV) (N:List Nd),st=P5 ⟨ae,order,types,.mk rh rp⟩ lF (iT X.af (dh X.af X.aE) X.rows X.js) m (loopF ⟨ae,order,types,.mk rh rp⟩).1 (loopF ⟨ae,order,types,.mk rh rp⟩).2 n base e/\e<=types.length/\n=N.length/\base=(dD N).flatten/\N ++ ndsAll (ju ⟨ae,order,types,.mk rh rp⟩) ⟨ae,order,types,.mk rh rp⟩ (types.drop e) n=rz ⟨ae,order,types,.mk rh rp⟩/\j=types.length - e) types.length
  (P5 ⟨ae,order,types,.mk rh rp⟩ lF (iT X.af (dh X.af X.aE) X.rows X.js) m (loopF ⟨ae,order,types,.mk rh rp⟩).1 (loopF ⟨ae,order,types,.mk rh rp⟩).2 0 [] 0) (dT 5 ⟨0,91,7,some []⟩ rfl rfl rfl qT rfl rfl kr) ⟨0,0,[],[],rfl,by omega,rfl,rfl,rfl,by omega⟩ ?_
 rintro j st ⟨e,n,base,N,rfl,he,hn,RN,Zp,rfl⟩;have hl64':types.length<=64:=P7;have HP:X.lev=ju ⟨ae,order,types,.mk rh rp⟩:=by rw [<- XU];all_goals rfl
 have htot:(rz ⟨ae,order,types,.mk rh rp⟩).length + (Ty.mk rh rp).nn<=512:=by
  have h1:=xI types;have h2:=(Ty.mk rh rp).gQ;have h3:(rz ⟨ae,order,types,.mk rh rp⟩).length=(types.map fun x=>x.2.nn).sum:=xH _ _ _ _;omega
 have hbl:base.length=n * 7:=by rw [RN,hn,AL]
 have hNl:n + (ndsAll (ju ⟨ae,order,types,.mk rh rp⟩) ⟨ae,order,types,.mk rh rp⟩ (types.drop e) n).length=(rz ⟨ae,order,types,.mk rh rp⟩).length:=by rw [<- Zp,List.length_append,hn]
 refine br ?_ ?_<;>intro hL
 ·have aq:e < types.length:=by have:=hL;simp [hN] at this;exact this
  obtain ⟨x,hx⟩:=gX aq;have Zq:=mG hx;rw [drop_cons hx,ndsAll] at Zp hNl;rw [List.length_append] at hNl;have ik:=kE (ju ⟨ae,order,types,.mk rh rp⟩) ⟨ae,order,types,.mk rh rp⟩ x.2 n;have GD:=ep X hX lF m hT Tp x.2 (cG x.2 (.inr ⟨x,Zq,rfl⟩)) (acY x Zq) n base (by omega) hbl;rw [HP] at GD;obtain ⟨xw,⟨xh,xp⟩⟩:=x;refine iX (dNms_get hx) ?_;refine gK 2 1 SD rfl rfl rfl ie ie GD (fun r il cd hΦ h1 h2=>?_);obtain ⟨rfl,rfl,rfl⟩:=hΦ;refine ⟨P5 ⟨ae,order,types,.mk rh rp⟩ lF (iT X.af (dh X.af X.aE) X.rows X.js) m (loopF ⟨ae,order,types,.mk rh rp⟩).1 (loopF ⟨ae,order,types,.mk rh rp⟩).2 (n + (ndsT (ju ⟨ae,order,types,.mk rh rp⟩) ⟨ae,order,types,.mk rh rp⟩ (.mk xh xp) n).length) (base ++ (dD (ndsT (ju ⟨ae,order,types,.mk rh rp⟩) ⟨ae,order,types,.mk rh rp⟩ (.mk xh xp) n)).flatten) (e + 1),(QT 5 (nG (nxt aq (by omega))) (wB1 (nxt aq (by omega)))),types.length - (e + 1),by omega,e + 1,_,_,N ++ ndsT (ju ⟨ae,order,types,.mk rh rp⟩) ⟨ae,order,types,.mk rh rp⟩ (.mk xh xp) n,rfl,by omega,by rw [List.length_append,hn],by rw [RN];simp [dD],?_,rfl⟩;rw [List.append_assoc,ik];exact Zp
 have aS:e=types.length:=sW hN hL;subst aS;rw [List.drop_length,ndsAll,List.append_nil] at Zp;rw [List.drop_length,ndsAll,List.length_nil,Nat.add_zero] at hNl;have RP:=ep X hX lF m hT Tp (.mk rh rp) (by omega) hkr' n base (by omega) hbl;rw [HP] at RP;intro E a w hr;have ig:=km hr;obtain ⟨b0,ty0,GP,gv,hw0,GO⟩:=ig.env.eA 0 _ rfl;obtain ⟨b1,ty1,arr1,fA,hw1,N7⟩:=ig.env.eA 1 _ rfl;obtain ⟨v13,hv13,ac1⟩:=RvL.get (i:=13) (d:=.loc 1 0) GO.1 rfl
 have ac2:v13 = .pointer (some ⟨b1,0,none⟩):=by
  unfold Rv at ac1;obtain ⟨b,hb,rfl⟩:=ac1;rw [fA] at hb;simp only [oI] at hb;rw [hb]
 subst ac2
 have nP:w.drew.cell? ⟨b0,13,none⟩=some (.pointer (some ⟨b1,0,none⟩)):=by
  rw [cK hw0];simpa using hv13
 have W0:=Tf ig.env [0,1,2,3];generalize zm:maskL [0,1,2,3] 0 _=bxm at W0
 have hbmi:∀ (i:Nat) cs,bxm[i]? = some cs->cs ≠ []->2<=i:=fun i cs hi aQ=>by
  rw [<- zm] at hi
  match i,hi with
  | 0,hi=>exact (aQ (by simpa [maskL] using hi.symm)).elim
  | 1,hi=>exact (aQ (by simpa [maskL] using hi.symm)).elim
  | i + 2,_=>omega
 refine ly (C:=fun w'=>CC E bxm w.drew w' /\ w'.cell? ⟨b0,13,none⟩=some (.pointer (some ⟨b1,0,none⟩))) (W:=fun i=>Nat.beq i 10) (Q:=fun a w=>kq _ _ .normal a w) mo (by decide +kernel) (fun _ _ h=>h) ⟨⟨fun _ _ _ _ _ _=>rfl,ig.env.sub⟩,nP⟩ ?_;show Go.Proofs.YtgjagnmeonoehaaGreat.Dv.runT _ _ _ _ _ [0,1,2,3,4,5,6,7,8,9,10] _ _;refine nf ig rfl rfl rfl rfl rfl rfl (fun a0 h0=>?_);refine nf h0 rfl rfl rfl rfl rfl rfl (fun a1 h1=>?_);refine nf h1 rfl rfl rfl rfl rfl rfl (fun a2 h2=>?_);refine Th h2 rfl fA rfl rfl gv rfl rfl (fun w' h=>h.2) ⟨⟨fun _ _ _ _ _ _=>rfl,ig.env.sub⟩,nP⟩ rfl rfl (fun a3 h3=>?_);refine nf h3 rfl rfl rfl rfl rfl rfl (fun a4 h4=>?_);refine nf h4 rfl rfl rfl rfl rfl rfl (fun a5 h5=>?_);refine Tg h5 rfl (bx:=bxm) (Te h5 W0 (fun w' h=>h.1)) ⟨⟨fun _ _ _ _ _ _=>rfl,ig.env.sub⟩,nP⟩ rfl rfl (by rw [<- zm];rfl) rfl (fun a6 h6=>?_);refine Ti h6 rfl rfl rfl rfl rfl rfl SD 2 1 rfl rfl ie ie RP rfl rfl ?_;intro v r il cd E' w' hΦ _ _ bM JY hx hβ hh;obtain ⟨rfl,rfl,rfl⟩:=hΦ;refine ⟨fun _ hC=>⟨⟨fun i b cs hb cQ aQ=>?_,fun x v hxv=>bM.env.sub x v (hx.c x v hxv)⟩,?_⟩,?_⟩
 ·exact hh i b (hbmi i cs cQ aQ) hb
 ·obtain ⟨b0',ty0',arr0',XX,hw0',hc0'⟩:=bM.env.eA 0 _ rfl;rw [hβ,gv] at XX;simp only [oI] at XX;subst XX;obtain ⟨u13,hu13,ac3⟩:=RvL.get (i:=13) (d:=.loc 1 0) hc0'.1 rfl;unfold Rv at ac3;obtain ⟨b,hb,rfl⟩:=ac3;rw [hβ,fA] at hb;simp only [oI] at hb;subst hb;rw [cK hw0'];simpa using hu13
 have h7:=aY (dst:=some 77) bM rfl _ v JY;have hrN:(rz ⟨ae,order,types,.mk rh rp⟩).length=n:=by rw [<- Zp,hn]
 have su:base ++ (dD (ndsT (ju ⟨ae,order,types,.mk rh rp⟩) ⟨ae,order,types,.mk rh rp⟩ (.mk rh rp) n)).flatten=(dD (aM ⟨ae,order,types,.mk rh rp⟩)).flatten:=by
  unfold aM;rw [hrN,<- Zp,RN];simp [dD]
 have ac4:(dD (aM ⟨ae,order,types,.mk rh rp⟩)).length=n + (ndsT (ju ⟨ae,order,types,.mk rh rp⟩) ⟨ae,order,types,.mk rh rp⟩ (.mk rh rp) n).length:=by
  unfold aM;rw [hrN];simp [dD,hrN]
 obtain ⟨E3,h8⟩:=Tj h7 1 1 0 (ns:=dD (aM ⟨ae,order,types,.mk rh rp⟩)) (congrArg (fun b=>some (HL (n + (ndsT (ju ⟨ae,order,types,.mk rh rp⟩) ⟨ae,order,types,.mk rh rp⟩ (.mk rh rp) n).length) b)) su) (fun x hx=>by
  simp only [dD,List.mem_map] at hx;obtain ⟨y,_,rfl⟩:=hx
  rfl) ac4 rfl rfl List.length_replicate
 refine nf h8 rfl rfl rfl rfl rfl rfl (fun a8 h9=>?_);refine nf h9 rfl rfl rfl rfl rfl rfl (fun a9 sq=>?_);refine L6 sq rfl rfl rfl rfl rfl rfl ?_;refine ⟨.tup [.pt [X.pd,.sl 7 (dD (aM ⟨ae,order,types,.mk rh rp⟩)) none,.v (.int .i64 (oi ⟨ae,order,types,.mk rh rp⟩ (.mk rh rp) n)),.pt (dh (tL ⟨ae,order,types,.mk rh rp⟩) lF) 0,.sl 1 (dInts (namedL ⟨ae,order,types,.mk rh rp⟩)) none] 0,Ft.d (0,0)],ax,Tn (os:=[]) (tk:=[]) hF0 ⟨aE,lF,js,by rw [XU];exact hX,hT,kO,?_⟩⟩;rw [VI,XU,dV,hrN]
theorem Tq (es:List (List DV)) (hl:es.length<=1099511627776):Ev prog 95 [.sl 1 es none] [] [] (fun r _ _=>r = .sl 1 es none∨(es=[]/\r = .v (.slice none 0 0))):=by
 refine eG 8 [.tmp 2] func95 rfl ntmps95 rfl fun _ _ _ _=>?_;refine qf ⟨_,rfl⟩ rfl rfl rfl rfl (fun b hb=>?_);refine br ?_ ?_<;>intro h
 ·have h:b=true:=h;have he:es=[]:=Classical.byContradiction fun hn=>by rw [hb hn] at h;cases h
  subst he;exact Or.inr ⟨rfl,rfl⟩
 ·refine l6 rfl rfl rfl rfl (hk:=?_);refine ⟨rfl,⟨by simp [maxLen];omega,by simp;omega⟩,?_⟩;exact ⟨_,ax,Or.inl rfl⟩
theorem Tr (es:List (List DV)) (hl:es.length<=1099511627776):Ev prog 96 [.sl 10 es none] [] [] (fun r _ _=>r = .sl 10 es none∨(es=[]/\r = .v (.slice none 0 0))):=by
 refine eG 8 [.tmp 2] func96 rfl ntmps96 rfl fun _ _ _ _=>?_;refine qf ⟨_,rfl⟩ rfl rfl rfl rfl (fun b hb=>?_);refine br ?_ ?_<;>intro h
 ·have h:b=true:=h;have he:es=[]:=Classical.byContradiction fun hn=>by rw [hb hn] at h;cases h
  subst he;exact Or.inr ⟨rfl,rfl⟩
 ·refine l6 rfl rfl rfl rfl (hk:=?_);refine ⟨rfl,⟨by simp [maxLen];omega,by simp;omega⟩,?_⟩;exact ⟨_,ax,Or.inl rfl⟩
def plD (lc:List DV) (Ck:List Nd) (root:Int) (L:List ByteArray) (aE:List Nat) (named:List Nat):DV:=.pt [.pt lc 0,.sl 7 (dD Ck) none,.v (.int .i64 root),.pt (dh L aE) 0,.sl 1 (dInts named) none] 0
theorem l8 (l:List Nd):(dD l).length=l.length:=by simp [dD]
theorem gD {l:List Nd} {i:Nat} {n:Nd} (h:l[i]? = some n):(dD l)[i]? = some (jt n):=by simp [dD,h]
section
variable (lc:List DV) (Ck:List Nd) (root:Int) (L:List ByteArray) (aE:List Nat) (named:List Nat)
theorem tg:EvP prog 94 [plD lc Ck root L aE named] (.v (.int .i64 Ck.length)):=by
 refine eG 10 [.tmp 2] func94 rfl ntmps94 rfl fun _ _ _ _=>?_;refine (aan ?_:);rw [l8]
theorem HQ:EvP prog 37 [plD lc Ck root L aE named] (.v (.int .i64 root)):=by
 refine eG 9 [.tmp 2] func37 rfl ntmps37 rfl fun _ _ _ _=>?_;exact (rfl:_=_)
theorem L9:EvP prog 72 [plD lc Ck root L aE named] (.pt lc 0):=by
 refine eG 9 [.tmp 2] func72 rfl ntmps72 rfl fun _ _ _ _=>?_;exact ⟨_,ax,rfl⟩
theorem HR (i:Nat) (n:Nd) (h:Ck[i]? = some n) (hn:n.af.length<=1099511627776) (he:n.av.length<=1099511627776) :
  EvP prog 36 [plD lc Ck root L aE named,.v (.int .i64 i)] (.tup [.agg (jt n),.v (.bool true)]):=by
 have aq:=(gS h).1;have hlen:=tg lc Ck root L aE named;have N7:=Tq (fh n.af) (by rw [cr];exact hn);have pf:=Tr (fU n.av) (by rw [cm];exact he);refine eG 32 [.cell 4 91,.tmp 5] func36 rfl ntmps36 rfl fun _ _ _ _=>?_;refine cP aaI hlen ?_;refine br ?_ ?_<;>intro g
 ·exfalso;simp [pickB] at g;omega
 refine iX (gD h) ?_;refine dS ?_;refine kX en95 rfl N7 ax (fun r1 hr1=>?_);rcases hr1 with rfl | ⟨h1,rfl⟩
 ·refine kX aaJ rfl pf ax (fun r2 hr2=>?_);rcases hr2 with rfl | ⟨h2,rfl⟩
  ·exact ⟨.tup [.agg (jt n),.v (.bool true)],ax,rfl⟩
  ·exact ⟨.tup [.agg (jt n),.v (.bool true)],(by repeat' (first | exact rfl | exact trivial | exact Or.inr (Or.inl ⟨_,rfl⟩) | exact Or.inr ⟨_,rfl⟩ | exact Or.inl ⟨rfl,rfl⟩ | exact Or.inl rfl | refine Or.inr ⟨_,_,rfl,Nat.zero_le _,rfl,?_⟩ | refine ⟨_,_,rfl,?_,?_⟩ | refine ⟨_,rfl,?_⟩ | exact Or.inl ⟨h2,rfl⟩ | refine Or.inr (Or.inr (Or.inr ⟨_,_,rfl,?_⟩)) | exact Or.inl rfl | refine Or.inr ?_)),rfl⟩
 ·refine kX aaJ rfl pf ax (fun r2 hr2=>?_);rcases hr2 with rfl | ⟨h2,rfl⟩
  ·exact ⟨.tup [.agg (jt n),.v (.bool true)],(by repeat' (first | exact rfl | exact trivial | exact Or.inr (Or.inl ⟨_,rfl⟩) | exact Or.inr ⟨_,rfl⟩ | exact Or.inl ⟨rfl,rfl⟩ | exact Or.inl rfl | refine Or.inr ⟨_,_,rfl,Nat.zero_le _,rfl,?_⟩ | refine ⟨_,_,rfl,?_,?_⟩ | refine ⟨_,rfl,?_⟩ | exact Or.inl ⟨h1,rfl⟩ | refine Or.inr (Or.inr (Or.inr ⟨_,_,rfl,?_⟩)) | exact Or.inl rfl | refine Or.inr ?_)),rfl⟩
  ·exact ⟨.tup [.agg (jt n),.v (.bool true)],(by repeat' (first | exact rfl | exact trivial | exact Or.inr (Or.inl ⟨_,rfl⟩) | exact Or.inr ⟨_,rfl⟩ | exact Or.inl ⟨rfl,rfl⟩ | exact Or.inl rfl | refine Or.inr ⟨_,_,rfl,Nat.zero_le _,rfl,?_⟩ | refine ⟨_,_,rfl,?_,?_⟩ | refine ⟨_,rfl,?_⟩ | exact Or.inl ⟨h1,rfl⟩ | exact Or.inl ⟨h2,rfl⟩ | refine Or.inr (Or.inr (Or.inr ⟨_,_,rfl,?_⟩)) | exact Or.inl rfl | refine Or.inr ?_)),rfl⟩
theorem HS (i:Int) (h:i < 0∨Ck.length<=i) :
  EvP prog 36 [plD lc Ck root L aE named,.v (.int .i64 i)] (.tup [.agg [.v (.int .i64 0),.v (.int .i64 0),.v (.int .i64 0),.v (.int .i64 0),.v (.int .i64 0),.v (.slice none 0 0),.v (.slice none 0 0)],.v (.bool false)]):=by
 have hlen:=tg lc Ck root L aE named;refine eG 32 [.cell 4 91,.tmp 5] func36 rfl ntmps36 rfl fun _ _ _ _=>?_;refine br ?_ ?_<;>intro g
 ·refine cP aaI hlen ?_;refine br ?_ ?_<;>intro g2
  ·exact ⟨_,ax,rfl⟩
  ·exfalso;simp at g;simp [pickB,g] at g2;omega
 ·exact ⟨_,ax,rfl⟩
end
abbrev vo (s:Sch) (n d k q:Int) (e:Nat):St:=
 ⟨[aab 1 0,aaa 3 n,aaa 4 d,aaa 5 e],[eJ s],[]⟩
theorem Cn (s:Sch) (cG:s.wt<=1099511627776):Ev prog 43 [.agg (eJ s)] [] [] (fun d _ _=>∃ b:Bool,d = .v (.bool b)):=by
 have h1:=bu s.ae;have h2:=jl s.order;have h3:=j5 s.types;simp only [Sch.wt] at cG;have gC:=k0 s.root.wt s.root (aO _) (by omega);obtain ⟨ae,order,types,⟨h,ps⟩⟩:=s;simp only at h1 h2 h3 cG gC;refine eG 60 [.tmp 2] func43 rfl ntmps43 rfl fun _ _ _ _=>?_;refine br ?_ ?_<;>intro _
 ·exact ⟨true,rfl⟩
 refine cP JK gC ?_;refine aT (fun j st=>∃ (e:Nat) (n d:Int),st=vo ⟨ae,order,types,.mk h ps⟩ n d 0 0 e/\e<=types.length/\j=types.length - e) types.length (vo ⟨ae,order,types,.mk h ps⟩ (Ty.mk h ps).cnt (Ty.mk h ps).deep 0 0 0) (wkM wB) ⟨0,_,_,rfl,by omega,by omega⟩ ?_;rintro j st ⟨e,n,d,rfl,he,rfl⟩;refine br ?_ ?_<;>intro hL
 ·have aq:e < types.length:=by have:=hL;simp [ek] at this;exact this
  obtain ⟨w,hw⟩:=gX aq;have D6:=hZ (mG hw);have hs:=k0 w.2.wt w.2 (aO _) (by omega);obtain ⟨w,u,us⟩:=w;simp only at hs;refine iX (dNms_get hw) ?_;refine cP JK hs ?_;refine br ?_ ?_<;>intro _
  ·exact ⟨vo ⟨ae,order,types,.mk h ps⟩ _ _ 0 0 (e + 1),(wkM (wB1 (nxt aq (by omega)))),types.length - (e + 1),by omega,e + 1,_,_,rfl,by omega,rfl⟩
  ·exact ⟨vo ⟨ae,order,types,.mk h ps⟩ _ _ 0 0 (e + 1),(wkM (wB1 (nxt aq (by omega)))),types.length - (e + 1),by omega,e + 1,_,_,rfl,by omega,rfl⟩
 exact ⟨_,rfl⟩
def samePrs:List (Wd × Wd)->List (Wd × Wd)->Bool
 | [],[]=>true
 | x :: r,y :: s=>(decide (x.1.s=y.1.s) && decide (x.2.s=y.2.s)) && samePrs r s
 | _,_=>false
def sameNms:List (Wd × Ty)->List (Wd × Ty)->Bool
 | [],[]=>true
 | x :: r,y :: s=>(decide (x.1.s=y.1.s) && sameTy x.2 y.2) && sameNms r s
 | _,_=>false
def JI (a b:Sch):Bool:=sameWds a.ae b.ae && samePrs a.order b.order && sameTy a.root b.root && sameNms a.types b.types
def cB (r:List Bool):List DV:=r.map fun b=>DV.v (.bool b)
def xK (r:List Bool):List (List DV):=r.map fun b=>[DV.v (.bool b)]
def dj (m:List (List Bool)):List (List DV):=m.map fun r=>[DV.sl 1 (xK r) none]
theorem ti (r:List Bool):(cB r).length=r.length:=by simp [cB]
theorem vq (r:List Bool):(xK r).length=r.length:=by simp [xK]
theorem xL (m:List (List Bool)):(dj m).length=m.length:=by simp [dj]
theorem P8 {r:List Bool} {i:Nat} {b:Bool} (h:r[i]? = some b):(cB r)[i]? = some (DV.v (.bool b)):=by simp [cB,h]
theorem Co (r:List Bool) (i:Nat) (b:Bool):(cB r).set i (DV.v (.bool b))=cB (r.set i b):=by simp [cB,List.map_set]
theorem Kl {r:List Bool} {i:Nat} {b:Bool} (h:r[i]? = some b):(xK r)[i]? = some [DV.v (.bool b)]:=by simp [xK,h]
theorem Qa {m:List (List Bool)} {i:Nat} {r:List Bool} (h:m[i]? = some r):(dj m)[i]? = some [DV.sl 1 (xK r) none]:=by simp [dj,h]
theorem rA (r:List Bool):(xK r).flatten=cB r:=by
 induction r with
 | nil=>rfl
 | cons b r ih=>simp only [xK,cB,List.map_cons,List.flatten_cons] at ih ⊢;rw [ih];all_goals rfl
theorem Ma (n:Nat):(List.replicate n (vL [Value.bool false])).flatten=cB (List.replicate n false):=by
 induction n with
 | zero=>rfl
 | succ n ih=>simp only [List.replicate_succ,List.flatten_cons,ih];rfl
theorem cF {n m:Nat} {tk:List TkE} {l:List DV} {r:List Bool} (h:l=cB r):WeL n m tk l (cB r):=by
 subst h;refine wZ _ fun x hx=>?_;obtain ⟨z,_,rfl⟩:=List.mem_map.1 hx;exact ⟨_,rfl⟩
theorem VM {bx:List (List DV)} {N n0 m0 n:Nat} {r:List Bool} (hr:r.length=n) (hN:N<=0) (hb:bx[0]? = some (cB r)):Cc bx N n0 m0 (.sl 1 (xK r) none) (.ms 0 1 0 n n):=by
 simp only [Cc];refine Or.inr (Or.inr (Or.inl ⟨0,0,n,_,by rw [vq,hr],hN,hb,?_,?_,?_⟩))
 ·rw [rA,List.drop_zero,List.take_of_length_le (by rw [ti,vq];omega)]
 ·intro x hx;simp only [xK,List.mem_map] at hx;obtain ⟨_,_,rfl⟩:=hx;rfl
 ·intro x hx;rw [rA] at hx;obtain ⟨_,_,rfl⟩:=List.mem_map.1 hx;exact .inl ⟨_,rfl⟩
def gh (n:Nat) (l:List (Nat × Nat)):List (List Bool):=(List.range n).map (uS n l)
theorem HT (n:Nat) (l:List (Nat × Nat)):(gh n l).length=n:=by simp [gh]
theorem HU {n a:Nat} (l:List (Nat × Nat)) (h:a < n):(gh n l)[a]? = some (uS n l a):=by simp [gh,List.getElem?_range h]
theorem Mb {n:Nat} {l:List (Nat × Nat)} (h:sQ n l):gh n l=dW n (fj n l):=by
 unfold gh dW;exact List.map_congr_left fun a ha=>S0 h (List.mem_range.1 ha)
def jN (l:List (Nat × Nat)) (r:List Bool) (e:Nat):List Bool:=(l.take e).foldl iC r
theorem HV (l:List (Nat × Nat)) (r:List Bool) (e:Nat):(jN l r e).length=r.length:=p9 (l.take e) r
theorem ET {l:List (Nat × Nat)} {r:List Bool} {e:Nat} {p:Nat × Nat} (h:l[e]? = some p):jN l r (e + 1)=iC (jN l r e) p:=by
 unfold jN;rw [List.take_add_one,h];simp
abbrev ldSt (n:Nat) (l:List (Nat × Nat)) (q e:Nat):St:=
 ⟨[aaa 0 n,aad 1 2 (mV l),(5,⟨[],.sl 1 (dj ((gh n l).take e)) (some 0)⟩),aaa 6 e],[],[⟨q,186,1,none⟩]⟩
abbrev ac6 (n:Nat) (l:List (Nat × Nat)) (q e:Nat) (r:List Bool) (k:Nat):St:=
 ⟨[aaa 0 n,aad 1 2 (mV l),(5,⟨[],.sl 1 (dj ((gh n l).take e)) (some 0)⟩),aaa 6 e,(7,⟨[],.ms 0 1 0 n n⟩),aaa 8 k],[cB r],[⟨q,186,1,none⟩]⟩
abbrev ac7 (n:Nat) (l:List (Nat × Nat)) (q e:Nat) (r:List Bool) (k i:Nat):St:=
 ⟨[aaa 0 n,aad 1 2 (mV l),(5,⟨[],.sl 1 (dj ((gh n l).take e)) (some 0)⟩),aaa 6 e,(7,⟨[],.ms 0 1 0 n n⟩),aaa 8 k,aaa 9 i],[cB r],[⟨q,186,1,none⟩]⟩
abbrev ac8 (n:Nat) (l:List (Nat × Nat)) (q e:Nat) (r:List Bool):St:=
 ⟨[aaa 0 n,aad 1 2 (mV l),aaa 6 e,(46,⟨[],.sl 1 (dj ((gh n l).take e)) (some 0)⟩),aad 47 1 (xK r)],[],[⟨q,186,1,none⟩]⟩
theorem HX (n:Nat) (hn:n<=64) (l:List (Nat × Nat)) (hP:sQ n l) (hb:l.length<=1099511627776) :
  EvP prog 120 [.v (.int .i64 n),.sl 2 (mV l) none] (.sl 1 (dj (gh n l)) none):=by
 have hNl:=iA l;have hML:=HT n l;refine eG 51 [.tmp 4] func120 rfl ntmps120 rfl fun _ _ _ _=>?_;refine lJ (fun e=>ldSt n l e e) n (fG ⟨0,186,1,none⟩ rfl ⟨_,rfl⟩ rfl wA rfl rfl kr) ?_;intro e he;refine br ?_ ?_<;>intro hL
 ·have aq:e < n:=by have:=hL;simp at this;exact this
  have hr0l:((List.replicate n false).set e true).length=n:=by simp
  refine ⟨⟨rfl,by omega,by omega,by omega⟩,?_⟩;refine ⟨⟨by omega,by omega⟩,?_⟩;refine ⟨by rw [Ma,ti,List.length_replicate];omega,?_⟩
  have gv:((List.replicate (n:Int).toNat (vL [Value.bool false])).flatten).set (0 + (e:Int).toNat * 1) (DV.v (.bool true))=cB (di l ((List.replicate n false).set e true) 0):=by
   rw [Ma,show 0 + (e:Int).toNat * 1=e by omega,show (n:Int).toNat=n by omega,Co];rfl
  refine lJ (fun k=>ac6 n l e e (di l ((List.replicate n false).set e true) k) k) n (QT 1 (nG gv) (wB1 gv)) ?_;intro k hk;have gV:=fN l ((List.replicate n false).set e true) k;have y9:=fc l ((List.replicate n false).set e true) k;refine br ?_ ?_<;>intro od
  ·have iK:k < n:=by have:=od;simp at this;exact this
   generalize di l ((List.replicate n false).set e true) k=r at gV y9 ⊢;rw [hr0l] at gV;refine lJ (fun i=>ac7 n l e e (jN l r i) k i) l.length (QT 1 qT kr) ?_;intro i hi;have nz:=HV l r i;refine br ?_ ?_<;>intro hL3
   ·have Qb:i < l.length:=by have:=hL3;simp [hNl] at this;exact this
    obtain ⟨p,hp⟩:∃ p,l[i]? = some p:=⟨_,gE Qb⟩;obtain ⟨sG,DQ⟩:=hP p (mG hp);have VN:=ET (r:=r) hp;obtain ⟨b,fA⟩:∃ b,(jN l r i)[p.1]? = some b:=⟨_,gE (by omega)⟩;have Li:(jN l r i).getD p.1 false=b:=by simp [cH,fA]
    rw [iC,Li] at VN;refine iX (wW hp) ?_;refine ⟨⟨by decide,by decide⟩,?_⟩;refine ⟨⟨by omega,by omega⟩,?_⟩;refine ⟨_,(show (cB (jN l r i))[0 + (p.1:Int).toNat * 1]? = some (.v (.bool b)) by rw [show 0 + (p.1:Int).toNat * 1=p.1 by omega];exact P8 fA),?_⟩;refine br ?_ ?_<;>intro g
    ·have g:b=true:=g;rw [ai g] at VN;refine iX (wW hp) ?_;refine ⟨⟨by decide,by decide⟩,?_⟩;refine ⟨⟨by omega,by omega⟩,?_⟩;refine ⟨by rw [ti];omega,?_⟩
     have eO:(cB (jN l r i)).set (0 + (p.2:Int).toNat * 1) (DV.v (.bool true))=cB (jN l r (i + 1)):=by
      rw [show 0 + (p.2:Int).toNat * 1=p.2 by omega,Co,VN]
     exact rE ⟨_,by omega,i + 1,rfl,by omega,rfl⟩ (QT 1 (nQ eO (nxt Qb (by omega))) (gw eO (nxt Qb (by omega))))
    ·have g:¬ b=true:=by rw [show b=false from g];decide
     rw [ah g] at VN;exact rE ⟨_,by omega,i + 1,rfl,by omega,rfl⟩ (QT 1 (by repeat' (first | exact rfl | exact aw rfl | exact cF (by rw [VN]) | exact ay (nxt Qb (by omega)) | refine ⟨_,_,rfl,?_,?_⟩)) (by repeat' (first | exact trivial | exact aw rfl | exact cF (by rw [VN]) | exact ay (nxt Qb (by omega)) | refine ⟨⟨_,rfl,?_⟩,?_⟩)))
   ·have aS:i=l.length:=sW hNl hL3;subst aS;have tj:jN l r l.length=di l ((List.replicate n false).set e true) (k + 1):=by rw [y9,jN,List.take_length];all_goals rfl
    exact rE ⟨_,by omega,k + 1,rfl,by omega,rfl⟩ (QT 1 (by repeat' (first | exact rfl | exact aw rfl | exact cF (by rw [tj]) | exact ay (nxt iK (by omega)) | refine ⟨_,_,rfl,?_,?_⟩)) (by repeat' (first | exact trivial | exact aw rfl | exact cF (by rw [tj]) | exact ay (nxt iK (by omega)) | refine ⟨⟨_,rfl,?_⟩,?_⟩)))
  ·have aS:k=n:=by have:=od;simp at this;omega
   subst aS;have su:di l ((List.replicate k false).set e true) k=uS k l e:=rfl;rw [su];have hrw:=rf k l e;refine Gx.wk (.GC (st':=ac8 k l e e (uS k l e)) 0 rfl rfl rfl rfl ?_) rfl rfl ?_
   ·refine ⟨⟨_,rfl,?_⟩,⟨_,rfl,?_⟩,⟨_,rfl,?_⟩,⟨_,rfl,?_⟩,⟨_,rfl,VM hrw (by omega) rfl⟩,trivial⟩
    ·simp only [Cc]
    ·simp only [Cc];exact Or.inr (Or.inl ⟨none,rfl⟩)
    ·simp only [Cc]
    ·simp only [Cc];exact ⟨Nat.zero_lt_one,trivial⟩
   ·have eP:(dj ((gh k l).take e)).length=e:=by rw [xL,zLenT,hML];omega
    have fB:dj ((gh k l).take e) ++ [[DV.sl 1 (xK (uS k l e)) none]]=dj ((gh k l).take (e + 1)):=by rw [List.take_add_one,HU l aq];simp [dj]
    refine ⟨eP,⟨by rw [eP];simp [maxLen];omega,by rw [eP];simp;omega⟩,?_⟩;exact rE ⟨_,by omega,e + 1,rfl,by omega,rfl⟩ (wkM (gw (nxt aq (by omega)) fB))
 ·have aS:e=n:=by have:=hL;simp at this;omega
  subst aS;have ht:(gh e l).take e=gh e l:=by rw [List.take_of_length_le (by rw [hML];omega)]
  rw [ht];exact ⟨_,ax,rfl⟩
theorem cq {n m:Nat} {cd:List TkE} {x y:Bool} (h:x=y):We n m cd (.v (.bool x)) (.v (.bool y)):=.inl ⟨by rw [h],rfl⟩
theorem oo {l:List Wd} {j:Nat} {w:Wd} (h:l[j]? = some w):(aA l)[j]? = some w.s:=by simp [aA,h]
theorem Km {L:List ByteArray} {s:ByteArray} (h:∀ j,j < L.length->L[j]? ≠ some s):dq L s=none:=sS fun j hj=>by
 exact h j (gS hj).1 hj
abbrev VO (l:List Wd) (s:ByteArray) (e:Nat):St:=
 ⟨[aad 0 2 (bJ l),(1,⟨[],.v (.string s)⟩),aaa 5 e],[],[]⟩
theorem fO (l:List Wd) (s:ByteArray) (hs:wdsWt l<=1099511627776) :
  EvP prog 205 [.sl 2 (bJ l) none,.v (.string s)] (.v (.int .i64 (oz (dq (aA l) s)))):=by
 have nz:=bu l;have ik:=dO l;refine eG 20 [.tmp 4] func205 rfl ntmps205 rfl fun _ _ _ _=>?_;refine lI (fun j st=>∃ e:Nat,st=VO l s e/\e<=l.length/\(∀ j,j < e->(aA l)[j]? ≠ some s)/\j=l.length - e) ⟨0,rfl,by omega,fun _ h=>by omega,rfl⟩ (wkM wB) ?_;rintro j st ⟨e,rfl,he,eW,rfl⟩;refine br ?_ ?_<;>intro hL
 ·have aq:e < l.length:=by simpa [aC] using hL
  obtain ⟨w,hw⟩:=gX aq;refine ⟨kv w,⟨by omega,aV hw⟩,?_⟩;refine br ?_ ?_<;>intro hq
  ·have hq:w.s=s:=sU hq;rw [Ce (p:=e) (by rw [oo hw,hq]) (fun j hj=>Nat.le_of_not_lt fun hl=>eW j hl hj)];exact (rfl:_=_)
  ·have hq:¬ w.s=s:=sU hq;refine ⟨VO l s (e + 1),(wkM (wB1 (nxt aq (by omega)))),l.length - (e + 1),by omega,e + 1,rfl,by omega,fun j hj=>?_,rfl⟩;rcases iM hj with hj | rfl
   ·exact eW j hj
   ·rw [oo hw];simpa using hq
 ·have aS:e=l.length:=by have:=hL;simp [aC] at this;omega
  rw [Km (fun j hj=>eW j (by omega))];exact (rfl:_=_)
theorem gj {o:Option Nat}:decide (oz o < 0)=true↔o=none:=by
 cases o with
 | none=>simp [oz]
 | some k=>
  refine ⟨fun h=>?_,fun h=>by cases h⟩;have:=of_decide_eq_true h;simp only [oz] at this;omega
theorem EU {L:List ByteArray}:∀ {o:List (Wd × Wd)},(numF L o).1=0->∀ x∈o,(∃ a,dq L x.1.s=some a)/\∃ b,dq L x.2.s=some b
 | [],_,x,hx=>by cases hx
 | p :: r,h,x,hx=>by
  rw [numF] at h;split at h
  ·exact absurd h (by simp)
  rename_i h1;split at h
  ·exact absurd h (by simp)
  rename_i h2;rcases bp hx with rfl | hx
  ·exact ⟨Option.ne_none_iff_exists'.1 h1,Option.ne_none_iff_exists'.1 h2⟩
  ·exact EU h x hx
abbrev ada (l:List Wd) (o:List (Wd × Wd)) (q e:Nat):St:=
 ⟨[aad 0 2 (bJ l),aad 1 4 (nA o),(5,⟨[],.sl 2 (mV (dF (aA l) (o.take e))) (some 0)⟩),aaa 6 e],[],[⟨q,291,2,none⟩]⟩
theorem HY (l:List Wd) (o:List (Wd × Wd)) (hs:wdsWt l<=1099511627776) (zN:prsWt o<=1099511627776) (hF:(numF (aA l) o).1=0) :
  EvP prog 121 [.sl 2 (bJ l) none,.sl 4 (nA o) none] (.sl 2 (mV (dF (aA l) o)) none):=by
 have nz:=jl o;refine eG 34 [.tmp 4] func121 rfl ntmps121 rfl fun _ _ _ _=>?_;refine lJ (fun e=>ada l o e e) o.length (fG ⟨0,291,2,none⟩ rfl ⟨_,rfl⟩ rfl wA rfl rfl kr) ?_;intro e he;refine br ?_ ?_<;>intro hL
 ·have aq:e < o.length:=by simpa [gA] using hL
  obtain ⟨w,hw⟩:=gX aq;obtain ⟨⟨a,ha⟩,⟨b,hb⟩⟩:=EU hF w (mG hw);have zq:=fO l w.1.s hs;have u6:=fO l w.2.s hs;rw [ha] at zq;rw [hb] at u6;refine dI ?_;refine ⟨Nv w,⟨by omega,iy hw⟩,?_⟩;refine cD wx zq ?_;refine ⟨Nv w,⟨by omega,iy hw⟩,?_⟩;refine cD wx u6 ?_;refine ⟨by simp [iA,dF];omega,⟨by simp [iA,dF,maxLen];omega,by simp [iA,dF];omega⟩,?_⟩;exact rE ⟨_,by omega,e + 1,rfl,by omega,rfl⟩ (wkM (gw (nxt aq (by omega)) (As hw ha hb)))
 ·have aS:e=o.length:=by
   have:=hL;simp [gA] at this;omega
  have ht:o.take e=o:=by rw [aS,List.take_length]
  rw [ht];exact ⟨_,ax,rfl⟩
theorem EV (l:List Wd) (o:List (Wd × Wd)) (hl:l.length<=32) (hs:wdsWt l<=1099511627776) (zN:prsWt o<=1099511627776) (hF:(numF (aA l) o).1=0) :
  EvP prog 53 [.sl 2 (bJ l) none,.sl 4 (nA o) none] (.sl 1 (dj (dW l.length (fj l.length (dF (aA l) o)))) none):=by
 have nz:=jl o;have hP:sQ l.length (dF (aA l) o):=by have:=oX hF;rwa [dO] at this
 have hN:=aC l;have Tb:=HX l.length (by omega) (dF (aA l) o) hP (by simp [dF];omega);rw [Mb hP] at Tb;refine eG 11 [.tmp 4] func53 rfl ntmps53 rfl fun _ _ _ _=>?_;refine cP aaR (HY l o hs zN hF) ?_;rw [hN];refine cP aaQ Tb ?_;exact ⟨_,ax,rfl⟩
theorem EW (n:Nat) (f:Nat->Nat->Bool):(dW n f).length=n:=by simp [dW]
theorem ib (n:Nat) (f:Nat->Nat->Bool):(dj (dW n f)).length=n:=by rw [xL,EW]
theorem dQ {n:Nat} {f:Nat->Nat->Bool} {a:Nat} (ha:a < n):(dj (dW n f))[a]? = some [DV.sl 1 (xK ((List.range n).map (f a))) none]:=Qa (Ex ha)
theorem dc {n:Nat} {f:Nat->Nat->Bool} {a b:Nat} (hb:b < n):(xK ((List.range n).map (f a)))[b]? = some [DV.v (.bool (f a b))]:=Kl (by simp [List.getElem?_range hb])
abbrev VP (n:Nat) (f:Nat->Nat->Bool) (e:Nat):St:=
 ⟨[aad 0 1 (dj (dW n f)),aaa 3 e],[],[]⟩
abbrev XY (n:Nat) (f:Nat->Nat->Bool) (e k:Nat):St:=
 ⟨[aad 0 1 (dj (dW n f)),aaa 3 e,aaa 4 k],[],[]⟩
theorem EY (n:Nat) (f:Nat->Nat->Bool) (hn:n<=64) :
  EvP prog 275 [.sl 1 (dj (dW n f)) none] (.v (.int .i64 (oz (bX (ld n f) n)))):=by
 have eP:=ib n f;refine eG 39 [.tmp 2] func275 rfl ntmps275 rfl fun _ _ _ _=>?_;refine lI (fun j st=>∃ e:Nat,st=VP n f e/\e<=n/\(∀ a,a < e->ld n f a=false)/\j=n - e) ⟨0,rfl,by omega,fun _ h=>by omega,rfl⟩ (wkM wB) ?_;rintro j st ⟨e,rfl,he,eW,rfl⟩;refine br ?_ ?_<;>intro hL
 ·have aq:e < n:=sV eP hL;refine lI (fun j st=>∃ k:Nat,st=XY n f e k/\k<=n/\(∀ b,b < k->(decide (e≠b) && (f e b && f b e))=false)/\j=n - k) ⟨0,rfl,by omega,fun _ h=>by omega,rfl⟩ (wkM wB) ?_;rintro j st ⟨k,rfl,hk,EZ,rfl⟩;refine br ?_ ?_<;>intro od
  ·have iK:k < n:=sV eP od
   have Ef:(decide (e≠k) && (f e k && f k e))=false->∀ b,b < k + 1->(decide (e≠b) && (f e b && f b e))=false:=fun h b hb=>by
    rcases iM hb with hb | rfl
    ·exact EZ b hb
    ·exact h
   refine br ?_ ?_<;>intro g1
   ·have g1:e≠k:=by have:=g1;simp at this;omega
    refine iX (dQ aq) ?_;refine iX (dc iK) ?_;refine br ?_ ?_<;>intro g2
    ·have g2:f e k=true:=by simpa [pickB] using g2
     refine iX (dQ iK) ?_;refine iX (dc aq) ?_;refine br ?_ ?_<;>intro g3
     ·have g3:f k e=true:=by simpa [pickB] using g3
      have hp:ld n f e=true:=List.any_eq_true.2 ⟨k,List.mem_range.2 iK,by simp [g1,g2,g3]⟩;rw [cR aq hp eW];exact (rfl:_=_)
     ·have g3:f k e=false:=by simpa [pickB] using g3
      exact rE ⟨_,by omega,k + 1,rfl,by omega,Ef (by simp [g3]),rfl⟩ (wkM (wB1 (nxt iK (by omega))))
    ·have g2:f e k=false:=by simpa [pickB] using g2
     exact rE ⟨_,by omega,k + 1,rfl,by omega,Ef (by simp [g2]),rfl⟩ (wkM (wB1 (nxt iK (by omega))))
   ·have g1:e=k:=by have:=g1;simp at this;omega
    exact rE ⟨_,by omega,k + 1,rfl,by omega,Ef (by simp [g1]),rfl⟩ (wkM (wB1 (nxt iK (by omega))))
  ·have aS:k=n:=sW eP od;refine ⟨VP n f (e + 1),(wkM (wB1 (nxt aq (by omega)))),n - (e + 1),by omega,e + 1,rfl,by omega,fun j hj=>?_,rfl⟩;rcases iM hj with hj | rfl
   ·exact eW j hj
   ·unfold ld;rw [List.any_eq_false];intro b hb;rw [EZ b (by have:=List.mem_range.1 hb;omega)];decide
 ·have aS:e=n:=sW eP hL;subst aS;rw [dn eW];exact (rfl:_=_)
abbrev tuSt (n:Nat) (f:Nat->Nat->Bool) (q e:Nat):St:=
 ⟨[aad 0 1 (dj (dW n f)),(3,⟨[],.sl 1 (dj ((dW n fun a b=>f b a).take e)) (some 0)⟩),aaa 4 e],[],[⟨q,186,1,none⟩]⟩
abbrev adb (n:Nat) (f:Nat->Nat->Bool) (q e:Nat) (r:List Bool) (k:Nat):St:=
 ⟨[aad 0 1 (dj (dW n f)),(3,⟨[],.sl 1 (dj ((dW n fun a b=>f b a).take e)) (some 0)⟩),aaa 4 e,(5,⟨[],.ms 0 1 0 n n⟩),aaa 6 k],[cB r],[⟨q,186,1,none⟩]⟩
abbrev ade (n:Nat) (f:Nat->Nat->Bool) (q e:Nat) (r:List Bool):St:=
 ⟨[aad 0 1 (dj (dW n f)),aaa 4 e,(32,⟨[],.sl 1 (dj ((dW n fun a b=>f b a).take e)) (some 0)⟩),aad 33 1 (xK r)],[],[⟨q,186,1,none⟩]⟩
def lh (n:Nat) (f:Nat->Nat->Bool) (e k:Nat):List Bool:=(List.range n).map fun b=>if b < k then f b e else false
theorem tp (n:Nat) (f:Nat->Nat->Bool) (e k:Nat):(lh n f e k).length=n:=by simp [lh]
theorem HZ (n:Nat) (f:Nat->Nat->Bool) (e:Nat):lh n f e 0=List.replicate n false:=by
 refine List.ext_getElem? fun i=>?_;by_cases h:i < n
 ·simp [lh,List.getElem?_range h,List.getElem?_replicate,h]
 ·rw [dA (by rw [tp];omega),dA (by simp;omega)]
theorem H0 (n:Nat) (f:Nat->Nat->Bool) (e k:Nat):(lh n f e k).set k (f k e)=lh n f e (k + 1):=by
 refine List.ext_getElem? fun i=>?_;by_cases h:i < n
 ·rw [List.getElem?_set];simp only [lh,List.getElem?_map,List.getElem?_range h,Option.map_some,List.length_map,List.length_range];by_cases hk:k=i
  ·subst hk;simp [h]
  ·rw [ah hk];by_cases hi:i < k
   ·rw [ai hi,ai (by omega)]
   ·rw [ah hi,ah (by omega)]
 ·rw [dA (by simp [lh];omega),dA (by rw [tp];omega)]
theorem H3 (n:Nat) (f:Nat->Nat->Bool) (e:Nat):lh n f e n=(List.range n).map (fun b=>f b e):=by
 unfold lh;exact List.map_congr_left fun b hb=>by rw [ai (List.mem_range.1 hb)]
theorem Mc (n:Nat) (f:Nat->Nat->Bool) (hn:n<=64) :
  EvP prog 276 [.sl 1 (dj (dW n f)) none] (.sl 1 (dj (dW n fun a b=>f b a)) none):=by
 have eP:=ib n f;have hML:=EW n fun a b=>f b a;refine eG 37 [.tmp 2] func276 rfl ntmps276 rfl fun _ _ _ _=>?_;refine lJ (fun e=>tuSt n f e e) n (fG ⟨0,186,1,none⟩ rfl ⟨_,rfl⟩ rfl wA rfl rfl kr) ?_;intro e he;refine br ?_ ?_<;>intro hL
 ·have aq:e < n:=sV eP hL;refine ⟨⟨rfl,by omega,by rw [eP];omega,by rw [eP];omega⟩,?_⟩;rw [eP]
  have gv:(List.replicate (n:Int).toNat (vL [Value.bool false])).flatten=cB (lh n f e 0):=by
   rw [Ma,HZ,show (n:Int).toNat=n by omega]
  refine lJ (fun k=>adb n f e e (lh n f e k) k) n (QT 1 (nG gv) (wB1 gv)) ?_;intro k hk;refine br ?_ ?_<;>intro od
  ·have iK:k < n:=sV eP od;refine iX (dQ iK) ?_;refine iX (dc aq) ?_;refine ⟨⟨by omega,by omega⟩,?_⟩;refine ⟨by rw [ti,tp];omega,?_⟩
   have eO:(cB (lh n f e k)).set (0 + (k:Int).toNat * 1) (DV.v (.bool (f (k:Int).toNat (e:Int).toNat)))=cB (lh n f e (k + 1)):=by
    rw [show 0 + (k:Int).toNat * 1=k by omega,Co,iW,iW,H0]
   exact rE ⟨_,by omega,k + 1,rfl,by omega,rfl⟩ (QT 1 (nQ eO (nxt iK (by omega))) (gw eO (nxt iK (by omega))))
  ·have aS:k=n:=sW eP od;subst aS;rw [H3];refine Gx.wk (.GC (st':=ade k f e e ((List.range k).map fun b=>f b e)) 0 rfl rfl rfl rfl ?_) rfl rfl ?_
   ·refine ⟨⟨_,rfl,?_⟩,⟨_,rfl,?_⟩,⟨_,rfl,?_⟩,⟨_,rfl,VM (by simp) (by omega) rfl⟩,trivial⟩
    ·simp only [Cc];exact Or.inr (Or.inl ⟨none,rfl⟩)
    ·simp only [Cc]
    ·simp only [Cc];exact ⟨Nat.zero_lt_one,trivial⟩
   ·have hmr:(dj ((dW k fun a b=>f b a).take e)).length=e:=by rw [xL,zLenT,hML];omega
    have fB:dj ((dW k fun a b=>f b a).take e) ++ [[DV.sl 1 (xK ((List.range k).map fun b=>f b e)) none]]=dj ((dW k fun a b=>f b a).take (e + 1)):=by rw [List.take_add_one,Ex aq];simp [dj]
    refine ⟨hmr,⟨by rw [hmr];simp [maxLen];omega,by rw [hmr];simp;omega⟩,?_⟩;exact rE ⟨_,by omega,e + 1,rfl,by omega,rfl⟩ (wkM (gw (nxt aq (by omega)) fB))
 ·have aS:e=n:=sW eP hL;subst aS;rw [List.take_of_length_le (by rw [hML];omega)];exact ⟨_,ax,rfl⟩
def VQ (f:Nat->Nat->Bool) (n a b c:Nat):Bool:=(f a c && f b c) && (List.range n).all fun d=>!(f a d && f b d) || f c d
def kF (f:Nat->Nat->Bool) (n a b:Nat):Option Nat:=bX (VQ f n a b) n
def nC (f:Nat->Nat->Bool) (a b c k:Nat):Bool:=(f a c && f b c) && (List.range k).all fun d=>!(f a d && f b d) || f c d
theorem Md (f:Nat->Nat->Bool) (a b c k:Nat):nC f a b c (k + 1)=(nC f a b c k && (!(f a k && f b k) || f c k)):=by
 simp only [nC,List.range_succ,List.all_append,List.all_cons,List.all_nil,Bool.and_true,Bool.and_assoc]
theorem AM (f:Nat->Nat->Bool) (a b c:Nat):nC f a b c 0=(f a c && f b c):=by simp [nC]
abbrev adg (n:Nat) (f:Nat->Nat->Bool) (a b e:Nat):St:=
 ⟨[aad 0 1 (dj (dW n f)),aaa 1 a,aaa 2 b,aaa 7 e],[],[]⟩
abbrev Kn (n:Nat) (f:Nat->Nat->Bool) (a b e:Nat) (x:Bool) (k:Nat):St:=
 ⟨[aad 0 1 (dj (dW n f)),aaa 1 a,aaa 2 b,aaa 7 e,aap 8 x,aaa 9 k],[],[]⟩
theorem lj (n:Nat) (f:Nat->Nat->Bool) (hn:n<=64) (a b:Nat) (ha:a < n) (hb:b < n) :
  EvP prog 210 [.sl 1 (dj (dW n f)) none,.v (.int .i64 a),.v (.int .i64 b)] (.v (.int .i64 (oz (kF f n a b)))):=by
 have eP:=ib n f;refine eG 66 [.tmp 6] func210 rfl ntmps210 rfl fun _ _ _ _=>?_;refine lI (fun j st=>∃ e:Nat,st=adg n f a b e/\e<=n/\(∀ c,c < e->VQ f n a b c=false)/\j=n - e) ⟨0,rfl,by omega,fun _ h=>by omega,rfl⟩ (wkM wB) ?_;rintro j st ⟨e,rfl,he,eW,rfl⟩;refine br ?_ ?_<;>intro hL
 ·have aq:e < n:=sV eP hL;refine iX (dQ ha) ?_;refine iX (dc aq) ?_;have e1:(f a e == true)=true->f b e=nC f a b e 0:=fun g=>by rw [AM,show f a e=true by simpa using g];simp
  have e2:(f a e == true)=false->false=nC f a b e 0:=fun g=>by rw [AM,show f a e=false by simpa using g];simp
  refine have body:=?_;br (fun g1=>⟨_,⟨by omega,dQ hb⟩,⟨_,⟨by omega,dc aq⟩,aT (fun j st=>∃ k:Nat,st=Kn n f a b e (nC f a b e k) k/\k<=n/\j=n - k) n (Kn n f a b e (nC f a b e 0) 0) (wkM (by repeat' (first | exact trivial | exact aw rfl | exact (show We _ _ _ (DV.v (.bool (f b e))) _ from cq (e1 g1)) | refine ⟨⟨_,rfl,?_⟩,?_⟩))) ⟨0,rfl,by omega,by omega⟩ body⟩⟩) (fun g1=>aT (fun j st=>∃ k:Nat,st=Kn n f a b e (nC f a b e k) k/\k<=n/\j=n - k) n (Kn n f a b e (nC f a b e 0) 0) (wkM (by repeat' (first | exact trivial | exact aw rfl | exact (show We _ _ _ (DV.v (.bool false)) _ from cq (e2 g1)) | refine ⟨⟨_,rfl,?_⟩,?_⟩))) ⟨0,rfl,by omega,by omega⟩ body);rintro j st ⟨k,rfl,hk,rfl⟩;refine br ?_ ?_<;>intro od
  ·have iK:k < n:=sV eP od;have Me:=Md f a b e k;refine iX (dQ ha) ?_;refine iX (dc iK) ?_;refine br ?_ ?_<;>intro g1
   ·refine iX (dQ hb) ?_;refine iX (dc iK) ?_;refine br ?_ ?_<;>intro g2
    ·refine iX (dQ aq) ?_;refine iX (dc iK) ?_;refine br ?_ ?_<;>intro g3
     ·have hx:false=nC f a b e (k + 1):=by simp [pickB] at g1 g2 g3;rw [Me];simp [g1,g2,g3]
      exact rE ⟨_,by omega,k + 1,rfl,by omega,rfl⟩ (wkM (gw (nxt iK (by omega)) hx))
     ·have hx:nC f a b e k=nC f a b e (k + 1):=by simp [pickB] at g1 g2 g3;rw [Me];simp [g1,g2,g3]
      exact rE ⟨_,by omega,k + 1,rfl,by omega,rfl⟩ (wkM (gw (nxt iK (by omega)) hx))
    ·have hx:nC f a b e k=nC f a b e (k + 1):=by simp [pickB] at g1 g2;rw [Me];simp [g1,g2]
     exact rE ⟨_,by omega,k + 1,rfl,by omega,rfl⟩ (wkM (gw (nxt iK (by omega)) hx))
   ·have hx:nC f a b e k=nC f a b e (k + 1):=by simp [pickB] at g1;rw [Me];simp [g1]
    exact rE ⟨_,by omega,k + 1,rfl,by omega,rfl⟩ (wkM (gw (nxt iK (by omega)) hx))
  ·have aS:k=n:=sW eP od;subst aS;refine br ?_ ?_<;>intro g
   ·have g:VQ f k a b e=true:=g;rw [kF,cR aq g eW];exact (rfl:_=_)
   ·have g:VQ f k a b e=false:=g;refine ⟨adg k f a b (e + 1),(wkM (wB1 (nxt aq (by omega)))),k - (e + 1),by omega,e + 1,rfl,by omega,fun j hj=>?_,rfl⟩;rcases iM hj with hj | rfl
    ·exact eW j hj
    ·exact g
 ·have aS:e=n:=sW eP hL;subst aS;rw [kF,dn eW];exact (rfl:_=_)
theorem Qc {l:List Wd} {i:Nat} {w:Wd} (hw:l[i]? = some w):∃ p,dq (aA l) w.s=some p/\(p < i↔bN (l.take i) w.s=true):=by
 cases h:dq (aA l) w.s with
 | none=>exact absurd (mG (oo hw)) (zr.1 h)
 | some p=>
  refine ⟨p,rfl,?_⟩;obtain ⟨h1,h2,h3⟩:=dy h;rw [dO] at h1
  have Et:∃ v,l[p]? = some v/\v.s=w.s:=by
   refine ⟨l[p],gE h1,?_⟩;rw [oo (gE h1)] at h2;exact Option.some.inj h2
  obtain ⟨v,hv,zf⟩:=Et;unfold bN;rw [List.any_eq_true];refine ⟨fun aq=>⟨v,mG (i:=p) (by rw [bG,ai aq];exact hv),by simp [zf]⟩,fun ⟨x,hx,pw⟩=>?_⟩;obtain ⟨j,hj⟩:=List.getElem?_of_mem hx;rw [bG] at hj;split at hj
  ·rename_i RO;have pw:x.s=w.s:=sU pw;have:=h3 j (by rw [oo hj,pw]);omega
  ·cases hj
theorem Cp {f:Nat->Nat->Bool} {n a b c:Nat}:VQ f n a b c=true↔f a c=true/\f b c=true/\∀ d,d < n->f a d=true->f b d=true->f c d=true:=by
 unfold VQ;simp only [aD,List.all_eq_true,List.mem_range,Bool.or_eq_true,Bool.not_eq_true',Bool.and_eq_false_iff,and_assoc];refine and_congr_right fun _=>and_congr_right fun _=>forall_congr' fun d=>imp_congr_right fun _=>?_;cases f a d<;>cases f b d<;>cases f c d<;>simp
structure RV (f:Nat->Nat->Bool) (n:Nat):Prop where
 rfl':∀ a,a < n->f a a=true
 HF:∀ a b,a < n->b < n->f a b=true->f b a=true->a=b
theorem RV.flip {f:Nat->Nat->Bool} {n:Nat} (h:RV f n):RV (fun x y=>f y x) n:=⟨h.rfl',fun a b ha hb h1 h2=>h.HF a b ha hb h2 h1⟩
theorem E4 {f:Nat->Nat->Bool} {n a b c:Nat} (h:RV f n) (hc:c < n) (hj:VQ f n a b c=true):fu f n a b=some c:=by
 obtain ⟨h1,h2,h3⟩:=Cp.1 hj
 have key:∀ e,e<=n->c < e->bestA (fun c=>f a c && f b c) f e=some c:=by
  intro e
  induction e with
  | zero=>intro _ h;omega
  | succ e ih=>
   intro he hce;rw [bestA];by_cases hec:e=c
   ·subst hec;rw [ai];simp only [h1,h2,Bool.and_true,Bool.true_and]
    cases ho:bestA (fun c=>f a c && f b c) f e with
    | none=>rfl
    | some o=>
     have hp:=s8 ho;have hl:=oa ho;simp only [aD] at hp;exact h3 o (by omega) hp.1 hp.2
   ·rw [ih (by omega) (by omega),ah];simp only [aD,EB,not_and];intro hp hec2;exact hec (h.HF e c (by omega) hc hec2 (h3 e (by omega) hp.1 hp.2))
 unfold fu n8;rw [key n (aO _) hc];simp only;rw [ah];simp only [List.any_eq_true,List.mem_range,aD,Bool.not_eq_true',not_exists,not_and,Bool.not_eq_false];exact fun d hd hp=>h3 d hd hp.1 hp.2
theorem ng {f:Nat->Nat->Bool} {n a b:Nat} (h:RV f n):(fu f n a b).isNone=(kF f n a b).isNone:=by
 cases hj:kF f n a b with
 | some c=>
  obtain ⟨hc,hi,_⟩:=eo hj;rw [E4 h hc hi]
 | none=>
  cases hk:fu f n a b with
  | none=>rfl
  | some k=>
   obtain ⟨h1,h2,h3,h4⟩:=qb hk;have:=ef hj k h1;rw [Cp.2 ⟨h2,h3,h4⟩] at this;cases this
def pH (f:Nat->Nat->Bool) (n a b:Nat):Bool:=(kF f n a b).isNone || (kF (fun x y=>f y x) n a b).isNone
theorem Ko {f:Nat->Nat->Bool} {n a b:Nat} (h:RV f n):lX f n a b=pH f n a b:=by
 unfold lX pH;rw [ng h,show jG f n a b=fu (fun x y=>f y x) n a b from rfl,ng h.flip]
theorem xM {f:Nat->Nat->Bool} {n b:Nat} (h:RV f n) (hb:b < n):(kF f n b b).isNone=false:=by
 have hi:VQ f n b b b=true:=Cp.2 ⟨h.rfl' b hb,h.rfl' b hb,fun d _ h1 _=>h1⟩
 cases hj:kF f n b b with
 | some c=>rfl
 | none=>rw [ef hj b hb] at hi;cases hi
theorem Ts {f:Nat->Nat->Bool} {n b:Nat} (h:RV f n) (hb:b < n):oc f n b=(List.range b).any fun a=>pH f n a b:=by
 unfold oc;rw [List.range_succ,List.any_append];simp only [List.any_cons,List.any_nil,Bool.or_false];rw [Ko h,show pH f n b b=false by unfold pH;rw [xM h hb,xM h.flip hb];rfl,Bool.or_false];exact congrArg (fun g=>List.any (List.range b) g) (funext fun a=>Ko h)
theorem XZ {n:Nat} {l:List (Nat × Nat)} (hP:sQ n l) (h4:bX (ld n (fj n l)) n=none):RV (fj n l) n where
 rfl':=fun a ha=>sR hP ha
 HF:=fun a b ha hb h6 h7=>by
  have:=ef h4 a ha;unfold ld at this;rw [List.any_eq_false] at this;have:=this b (sU hb);simp only [aD,decide_eq_true_eq,not_and] at this;rcases Nat.lt_trichotomy a b with h8 | h8 | h8
  ·exact (this (by omega) h6 h7).elim
  ·exact h8
  ·exact (this (by omega) h6 h7).elim
abbrev adh (l:List Wd) (o:List (Wd × Wd)) (e:Nat):St:=
 ⟨[aad 0 2 (bJ l),aad 1 4 (nA o),aab 4 0,aaa 5 e],[[.v (.int .i64 0),.v (.int .i64 0)]],[]⟩
abbrev adi (l:List Wd) (o:List (Wd × Wd)) (e:Nat):St:=
 ⟨[aad 0 2 (bJ l),aad 1 4 (nA o),aab 4 0,aaa 6 e],[[.v (.int .i64 0),.v (.int .i64 0)]],[]⟩
abbrev VR (l:List Wd) (n:Nat) (f:Nat->Nat->Bool) (e:Nat):St:=
 ⟨[aad 0 2 (bJ l),aab 4 0,aad 7 1 (dj (dW n f)),aad 9 1 (dj (dW n fun a b=>f b a)),aaa 10 e],[[.v (.int .i64 0),.v (.int .i64 0)]],[]⟩
abbrev VS (l:List Wd) (n:Nat) (f:Nat->Nat->Bool) (e k:Nat):St:=
 ⟨[aad 0 2 (bJ l),aab 4 0,aad 7 1 (dj (dW n f)),aad 9 1 (dj (dW n fun a b=>f b a)),aaa 10 e,aaa 11 k],[[.v (.int .i64 0),.v (.int .i64 0)]],[]⟩
theorem Cq (l:List Wd) (o:List (Wd × Wd)) (hs:wdsWt l<=1099511627776) (zN:prsWt o<=1099511627776) :
  EvP prog 240 [.sl 2 (bJ l) none,.sl 4 (nA o) none] (latF l o).d:=by
 have nz:=bu l;have hsl2:=jl o;have hF:latF l o=latF l o:=rfl
 conv at hF=>rhs;unfold latF
 refine eG 150 [.cell 4 44] func240 rfl ntmps240 rfl fun _ _ _ _=>?_;generalize latF l o=F at hF ⊢;refine br ?_ ?_<;>intro h
 ·have h:l=[]:=by simpa [aC] using h
  rw [show gB l o=(15,0) by rw [gB,ai h],ai (by decide)] at hF;refine ⟨_,?_,rfl⟩;rw [hF];exact ax
 have h:¬ l=[]:=by simpa [aC] using h
 refine br ?_ ?_<;>intro h1
 ·have h1:32 < l.length:=by simp [aC] at h1;omega
  obtain ⟨x,hx⟩:∃ x,l[32]? = some x:=⟨_,gE h1⟩;rw [show gB l o=(8,x.a) by rw [gB,ah h,ai h1,hx];rfl,ai (by simp)] at hF;refine ⟨kv x,⟨by omega,aV hx⟩,?_⟩;refine ⟨_,?_,rfl⟩;rw [hF];exact ax
 have h1:¬ 32 < l.length:=by simp [aC] at h1;omega
 refine br ?_ ?_<;>intro h2
 ·have h2:256 < o.length:=by simp [gA] at h2;omega
  obtain ⟨x,hx⟩:∃ x,o[256]? = some x:=⟨_,gE h2⟩;rw [show gB l o=(8,x.1.a) by rw [gB,ah h,ah h1,ai h2,hx];rfl,ai (by simp)] at hF;refine ⟨Nv x,⟨by omega,iy hx⟩,?_⟩;refine ⟨_,?_,rfl⟩;rw [hF];exact ax
 have h2:¬ 256 < o.length:=by simp [gA] at h2;omega
 rw [show gB l o=(0,0) by rw [gB,ah h,ah h1,ah h2],ah (by decide)] at hF;have h0:enumL l 0 l=enumL l 0 (l.drop 0):=rfl;refine lI (fun j st=>∃ e:Nat,st=adh l o e/\e<=l.length/\enumL l 0 l=enumL l e (l.drop e)/\j=l.length - e) ⟨0,rfl,by omega,rfl,rfl⟩ (wkM wB) ?_;rintro j st ⟨e,rfl,he,aK,rfl⟩;refine br ?_ ?_<;>intro hL
 ·have aq:e < l.length:=by simpa [aC] using hL
  obtain ⟨w,hw⟩:=gX aq;have Vp:=jg (mG hw);have aR:enumL l e (l.drop e)=if aF l e w≠0 then (aF l e w,w.a) else enumL l (e + 1) (l.drop (e + 1)):=by rw [drop_cons hw,enumL]
  obtain ⟨p,hp,Jt⟩:=Qc hw;have hf:=fO l w.s hs;rw [hp] at hf;refine ⟨kv w,⟨by omega,aV hw⟩,?_⟩;refine cP JP (kZ w.s (by omega)) ?_;refine br ?_ ?_<;>intro hN
  ·have hN:bd w.s=false:=sU hN;have hf:aF l e w=9:=by simp [aF,hN]
   rw [aK,aR,hf,ai (show (9:Int)≠0 by decide),ai (by simp)] at hF;refine ⟨kv w,⟨by omega,aV hw⟩,?_⟩;refine ⟨_,?_,rfl⟩;rw [hF];exact ax
  ·have hN:bd w.s=true:=sU hN;refine ⟨kv w,⟨by omega,aV hw⟩,?_⟩;refine cP wx hf ?_;refine br ?_ ?_<;>intro h2
   ·have h2:p < e:=by have:=h2;simp [oz] at this;exact this
    have hf:aF l e w=10:=by simp [aF,hN,Jt.1 h2]
    rw [aK,aR,hf,ai (show (10:Int)≠0 by decide),ai (by simp)] at hF;refine ⟨kv w,⟨by omega,aV hw⟩,?_⟩;refine ⟨_,?_,rfl⟩;rw [hF];exact ax
   ·have h2:¬ p < e:=by have:=h2;simp [oz] at this;omega
    have hd:bN (l.take e) w.s=false:=by
     cases hd:bN (l.take e) w.s
     ·rfl
     ·exact absurd (Jt.2 hd) h2
    have hf:aF l e w=0:=by simp [aF,hN,hd]
    rw [hf,ah (by simp)] at aR;exact rE ⟨_,by omega,e + 1,rfl,by omega,by rw [aK,aR],rfl⟩ (wkM (wB1 (nxt aq (by omega))))
 have aS:e=l.length:=by have:=hL;simp [aC] at this;omega
 rw [aK,aS,List.drop_length,show enumL l l.length []=(0,0) from rfl,ah (by decide)] at hF;refine lI (fun j st=>∃ e:Nat,st=adi l o e/\e<=o.length/\numF (aA l) o=numF (aA l) (o.drop e)/\j=o.length - e) ⟨0,rfl,by omega,rfl,rfl⟩ (wkM wB) ?_;clear aK hL aS he e;rintro j st ⟨e,rfl,he,aK,rfl⟩;refine br ?_ ?_<;>intro hL
 ·have aq:e < o.length:=by simpa [gA] using hL
  obtain ⟨w,hw⟩:=gX aq;have aR:numF (aA l) (o.drop e)=if dq (aA l) w.1.s=none then (17,w.1.a) else if dq (aA l) w.2.s=none then (17,w.2.a) else numF (aA l) (o.drop (e + 1)):=by rw [drop_cons hw,numF]
  refine ⟨Nv w,⟨by omega,iy hw⟩,?_⟩;refine cP wx (fO l w.1.s hs) ?_;refine br ?_ ?_<;>intro ha
  ·have ha:=gj.1 ha;rw [aK,aR,ai ha,ai (by simp)] at hF;refine ⟨Nv w,⟨by omega,iy hw⟩,?_⟩;refine ⟨_,?_,rfl⟩;rw [hF];exact ax
  have ha:¬ dq (aA l) w.1.s=none:=fun hn=>by have:=gj.2 hn;rw [ha] at this;cases this
  refine ⟨Nv w,⟨by omega,iy hw⟩,?_⟩;refine cP wx (fO l w.2.s hs) ?_;refine br ?_ ?_<;>intro hb
  ·have hb:=gj.1 hb;rw [aK,aR,ah ha,ai hb,ai (by simp)] at hF;refine ⟨Nv w,⟨by omega,iy hw⟩,?_⟩;refine ⟨_,?_,rfl⟩;rw [hF];exact ax
  have hb:¬ dq (aA l) w.2.s=none:=fun hn=>by have:=gj.2 hn;rw [hb] at this;cases this
  rw [ah ha,ah hb] at aR;exact rE ⟨_,by omega,e + 1,rfl,by omega,by rw [aK,aR],rfl⟩ (wkM (wB1 (nxt aq (by omega))))
 have aS:e=o.length:=by have:=hL;simp [gA] at this;omega
 rw [aS,List.drop_length,show numF (aA l) []=(0,0) from rfl] at aK;rw [aK,ah (by decide)] at hF;have jO:(numF (aA l) o).1=0:=by rw [aK]
 have hP:sQ l.length (dF (aA l) o):=by have:=oX jO;rwa [dO] at this
 have hpo:=XZ hP;have eP:=ib l.length (fj l.length (dF (aA l) o));refine cP W9 (EV l o (by omega) hs zN jO) ?_;generalize fj l.length (dF (aA l) o)=f at hF hpo eP ⊢;refine cP abw (EY l.length f (by omega)) ?_
 cases hlo:bX (ld l.length f) l.length with
 | some a=>
  rw [hlo] at hF;have ha:=(eo hlo).1;obtain ⟨x,hx⟩:∃ x,l[a]? = some x:=⟨_,gE ha⟩;simp only [lf hx] at hF;refine ⟨kv x,⟨by simp only [oz];omega,aV hx⟩,?_⟩;refine ⟨_,?_,rfl⟩;rw [hF];exact ax
 | none=>
 have hpo:=hpo hlo;rw [hlo] at hF;simp only at hF;refine cP abx (Mc l.length f (by omega)) ?_;refine lI (fun j st=>∃ e:Nat,st=VR l l.length f e/\e<=l.length/\(∀ b,b < e->oc f l.length b=false)/\j=l.length - e) ⟨0,rfl,by omega,fun _ h=>by omega,rfl⟩ (wkM wB) ?_;clear aK hL aS he e;rintro j st ⟨e,rfl,he,eW,rfl⟩;refine br ?_ ?_<;>intro hL
 ·have aq:e < l.length:=sV eP hL;have kU:=Ts hpo aq;refine lI (fun j st=>∃ k:Nat,st=VS l l.length f e k/\k<=e/\(∀ a,a < k->pH f l.length a e=false)/\j=e - k) ⟨0,rfl,by omega,fun _ h=>by omega,rfl⟩ (wkM wB) ?_;rintro j st ⟨k,rfl,hk,EZ,rfl⟩;refine br ?_ ?_<;>intro od
  ·have iK:k < e:=sU od;obtain ⟨x,hx⟩:=gX aq
   have Qd:pH f l.length k e=true->F=(12,x.a):=fun Ny=>by
    rw [cR aq (by rw [kU,List.any_eq_true];exact ⟨k,by simpa using iK,Ny⟩) eW] at hF;simp only [lf hx] at hF;exact hF
   refine cP JU (lj l.length f (by omega) k e (by omega) aq) ?_;refine br ?_ ?_<;>intro g1
   ·have g1:¬ kF f l.length k e=none:=fun hn=>by rw [gj.2 hn] at g1;cases g1
    refine cP JU (lj l.length (fun a b=>f b a) (by omega) k e (by omega) aq) ?_;refine br ?_ ?_<;>intro g2
    ·have g2:kF (fun a b=>f b a) l.length k e=none:=by
      rw [<- gj];simpa [pickB] using g2
     have hF:=Qd (by unfold pH;rw [g2];simp);refine ⟨kv x,⟨by omega,aV hx⟩,?_⟩;refine ⟨_,?_,rfl⟩;rw [hF];exact ax
    ·have g2:¬ kF (fun a b=>f b a) l.length k e=none:=fun hn=>by
      have h3:=gj.2 hn;simp [pickB] at g2;have h3:=of_decide_eq_true h3;omega
     refine ⟨VS l l.length f e (k + 1),(wkM (wB1 (nxt iK (by omega)))),e - (k + 1),by omega,k + 1,rfl,by omega,fun j hj=>?_,rfl⟩;rcases iM hj with hj | rfl
     ·exact EZ j hj
     ·unfold pH;rw [Option.isNone_eq_false_iff.2 (Option.isSome_iff_ne_none.2 g1),Option.isNone_eq_false_iff.2 (Option.isSome_iff_ne_none.2 g2)];rfl
   ·have g1:kF f l.length k e=none:=by
     rw [<- gj];simpa using g1
    have hF:=Qd (by unfold pH;rw [g1];rfl);refine ⟨kv x,⟨by omega,aV hx⟩,?_⟩;refine ⟨_,?_,rfl⟩;rw [hF];exact ax
  ·have aS:k=e:=by have:=od;simp at this;omega
   subst aS;refine ⟨VR l l.length f (k + 1),(wkM (wB1 (nxt aq (by omega)))),l.length - (k + 1),by omega,k + 1,rfl,by omega,fun j hj=>?_,rfl⟩;rcases iM hj with hj | rfl
   ·exact eW j hj
   ·rw [kU,List.any_eq_false];intro a ha;rw [EZ a (sU ha)];decide
 ·have aS:e=l.length:=sW eP hL;subst aS;rw [dn eW] at hF;simp only at hF;refine ⟨_,?_,rfl⟩;rw [hF];exact ax
abbrev ovSt (n:Nat) (f:Nat->Nat->Bool) (l:List Nat) (c e:Nat):St:=
 ⟨[aad 0 1 (dj (dW n f)),aad 1 1 (dInts l),aaa 2 c,aaa 7 e],[],[]⟩
theorem AN (n:Nat) (f:Nat->Nat->Bool) (hn:n<=64) (l:List Nat) (hl:∀ i∈l,i < n) (zy:l.length<=1099511627776) (c:Nat) (hc:c < n) :
  EvP prog 257 [.sl 1 (dj (dW n f)) none,.sl 1 (dInts l) none,.v (.int .i64 c)] (.v (.bool (ia f l c))):=by
 have eP:=ib n f;have Nu:=bw l;refine eG 25 [.tmp 6] func257 rfl ntmps257 rfl fun _ _ _ _=>?_;refine lI (fun j st=>∃ e:Nat,st=ovSt n f l c e/\e<=l.length/\ia f l c=ia f (l.drop e) c/\j=l.length - e) ⟨0,rfl,by omega,rfl,rfl⟩ (wkM wB) ?_;rintro j st ⟨e,rfl,he,aK,rfl⟩;rw [aK];refine br ?_ ?_<;>intro hL
 ·have aq:e < l.length:=by have:=hL;simp [Nu] at this;exact this
  obtain ⟨i,hi⟩:=gX aq;have vc:=hl i (mG hi);have aR:ia f (l.drop e) c=(f i c && ia f (l.drop (e + 1)) c):=by unfold ia;rw [drop_cons hi,List.all_cons]
  refine iX (eI hi) ?_;refine iX (dQ vc) ?_;refine iX (dc hc) ?_;refine br ?_ ?_<;>intro g
  ·have g:f i c=false:=sU g;rw [aR,g,Bool.false_and];exact (rfl:_=_)
  ·have g:f i c=true:=sU g;rw [g,Bool.true_and] at aR;exact rE ⟨_,by omega,e + 1,rfl,by omega,aR,rfl⟩ (wkM (wB1 (nxt aq (by omega))))
 ·have aS:e=l.length:=sW Nu hL;rw [aS,List.drop_length];exact (rfl:_=_)
def xN (f:Nat->Nat->Bool) (l:List Nat) (c k:Nat):Bool:=ia f l c && (List.range k).all fun d=>!ia f l d || f c d
theorem Mf (f:Nat->Nat->Bool) (l:List Nat) (c:Nat):xN f l c 0=ia f l c:=by simp [xN]
theorem Mg (f:Nat->Nat->Bool) (l:List Nat) (c k:Nat):xN f l c (k + 1)=(xN f l c k && (!ia f l k || f c k)):=by
 simp only [xN,List.range_succ,List.all_append,List.all_cons,List.all_nil,Bool.and_true,Bool.and_assoc]
abbrev adj (n:Nat) (f:Nat->Nat->Bool) (l:List Nat) (e:Nat):St:=
 ⟨[aad 0 1 (dj (dW n f)),aad 1 1 (dInts l),aaa 5 e],[],[]⟩
abbrev adk (n:Nat) (f:Nat->Nat->Bool) (l:List Nat) (e:Nat) (x:Bool) (k:Nat):St:=
 ⟨[aad 0 1 (dj (dW n f)),aad 1 1 (dInts l),aaa 5 e,aap 6 x,aaa 7 k],[],[]⟩
theorem H4 (n:Nat) (f:Nat->Nat->Bool) (hn:n<=64) (l:List Nat) (hl:∀ i∈l,i < n) (zy:l.length<=1099511627776) :
  EvP prog 206 [.sl 1 (dj (dW n f)) none,.sl 1 (dInts l) none] (.v (.int .i64 (oz (ff f n l)))):=by
 have eP:=ib n f;refine eG 40 [.tmp 4] func206 rfl ntmps206 rfl fun _ _ _ _=>?_;refine lI (fun j st=>∃ e:Nat,st=adj n f l e/\e<=n/\(∀ c,c < e->s9 f n l c=false)/\j=n - e) ⟨0,rfl,by omega,fun _ h=>by omega,rfl⟩ (wkM wB) ?_;rintro j st ⟨e,rfl,he,eW,rfl⟩;refine br ?_ ?_<;>intro hL
 ·have aq:e < n:=sV eP hL;refine cP U7 (AN n f hn l hl zy e aq) ?_;refine lJ (fun k=>adk n f l e (xN f l e k) k) n (wkM (wB1 ((Mf f l e).symm))) ?_;intro k hk;refine br ?_ ?_<;>intro od
  ·have iK:k < n:=sV eP od;have Me:=Mg f l e k;refine cP U7 (AN n f hn l hl zy k iK) ?_;refine br ?_ ?_<;>intro g1
   ·refine iX (dQ aq) ?_;refine iX (dc iK) ?_;refine br ?_ ?_<;>intro g2
    ·have hx:false=xN f l e (k + 1):=by simp [pickB] at g1 g2;rw [Me];simp [g1,g2]
     exact rE ⟨_,by omega,k + 1,rfl,by omega,rfl⟩ (wkM (gw (nxt iK (by omega)) hx))
    ·have hx:xN f l e k=xN f l e (k + 1):=by simp [pickB] at g1 g2;rw [Me];simp [g1,g2]
     exact rE ⟨_,by omega,k + 1,rfl,by omega,rfl⟩ (wkM (gw (nxt iK (by omega)) hx))
   ·have hx:xN f l e k=xN f l e (k + 1):=by simp [pickB] at g1;rw [Me];simp [g1]
    exact rE ⟨_,by omega,k + 1,rfl,by omega,rfl⟩ (wkM (gw (nxt iK (by omega)) hx))
  ·have aS:k=n:=sW eP od;subst aS;refine br ?_ ?_<;>intro g
   ·have g:s9 f k l e=true:=g;rw [ff,cR aq g eW];exact (rfl:_=_)
   ·have g:s9 f k l e=false:=g;refine ⟨adj k f l (e + 1),(wkM (wB1 (nxt aq (by omega)))),k - (e + 1),by omega,e + 1,rfl,by omega,fun j hj=>?_,rfl⟩;rcases iM hj with hj | rfl
    ·exact eW j hj
    ·exact g
 ·have aS:e=n:=sW eP hL;subst aS;rw [ff,dn eW];exact (rfl:_=_)
abbrev X0 (lv:List Wd) (f:Nat->Nat->Bool) (l:List Wd) (q e:Nat):St:=
 ⟨[aad 0 2 (bJ lv),aad 1 1 (dj (dW lv.length f)),aad 2 2 (bJ l),aab 7 0,(8,⟨[],.sl 1 (dInts (nb (aA lv) (l.take e))) (some 0)⟩),aaa 9 e],[[.v (.int .i64 0),.v (.int .i64 0)]],[⟨q,3,1,none⟩]⟩
theorem Tt {L:List ByteArray} {l:List Wd} {i:Nat} (h:i∈nb L l) (hL:0 < L.length):i < L.length:=by
 unfold nb at h;obtain ⟨w,_,rfl⟩:=List.mem_map.1 h
 cases hx:dq L w.s with
 | none=>simpa using hL
 | some p=>exact (dy hx).1
theorem H5 {L:List ByteArray} {l:List Wd} {e i:Nat} {w:Wd} (h:l[e]? = some w) (hi:dq L w.s=some i):dInts (nb L (l.take e)) ++ [[DV.v (.int .i64 (oz (some i)))]]=dInts (nb L (l.take (e + 1))):=by
 rw [td h hi];simp [dInts,oz]
theorem Mh (lv:List Wd) (f:Nat->Nat->Bool) (h0:0 < lv.length) (hn:lv.length<=32) (hs:wdsWt lv<=1099511627776) (l:List Wd) (hl:wdsWt l<=1099511627776) :
  EvP prog 122 [.sl 2 (bJ lv) none,.sl 1 (dj (dW lv.length f)) none,.sl 2 (bJ l) none] (LZ f (aA lv) l):=by
 have nz:=bu l;have ik:=dO lv;unfold LZ Cg;refine eG 40 [.tmp 6,.cell 7 44] func122 rfl ntmps122 rfl fun _ _ _ _=>?_;refine lI (fun j st=>∃ e:Nat,st=X0 lv f l e e/\e<=l.length/\labW (aA lv) l=labW (aA lv) (l.drop e)/\j=l.length - e) ⟨0,rfl,by omega,rfl,rfl⟩ (fG ⟨0,3,1,none⟩ rfl ⟨_,rfl⟩ rfl wA rfl rfl kr) ?_;rintro j st ⟨e,rfl,he,aK,rfl⟩;rw [aK];refine br ?_ ?_<;>intro hL
 ·have aq:e < l.length:=by simpa [aC] using hL
  obtain ⟨w,hw⟩:=gX aq;have aR:=ta (L:=aA lv) hw;refine ⟨kv w,⟨by omega,aV hw⟩,?_⟩;refine cP wx (fO lv w.s hs) ?_;refine br ?_ ?_<;>intro ha
  ·have ha:=gj.1 ha;rw [aR,ai ha];refine dS ?_;refine ⟨kv w,⟨by omega,aV hw⟩,?_⟩;exact ⟨_,ax,rfl⟩
  ·cases hi:dq (aA lv) w.s with
   | none=>have:=gj.2 hi;rw [ha] at this;cases this
   | some i=>
   rw [ah (by rw [hi];simp)] at aR;refine ⟨by simp [bw,nb];omega,⟨by simp [bw,nb,maxLen];omega,by simp [bw,nb];omega⟩,?_⟩;exact rE ⟨_,by omega,e + 1,rfl,by omega,aR,rfl⟩ (wkM (gw (nxt aq (by omega)) (H5 hw hi)))
 ·have aS:e=l.length:=by have:=hL;simp [aC] at this;omega
  rw [aS,List.drop_length,List.take_length];refine cP abc (H4 lv.length f (by omega) (nb (aA lv) l) (fun i hi=>by have:=Tt hi (by omega);omega) (by simp [nb];omega)) ?_;rw [<- ik];exact ⟨_,ax,rfl⟩
theorem X1 {S:Sch} {e:Nat} {x:Wd × Ty} (h:S.types[e]? = some x):(tL S)[e]? = some x.1.s:=by simp [tL,aA,uT,h]
abbrev VT (S:Sch) (s:ByteArray) (e:Nat):St:=
 ⟨[(1,⟨[],.v (.string s)⟩),aab 2 0,aaa 5 e],[eJ S],[]⟩
theorem lk (S:Sch) (s:ByteArray) (hl:S.types.length<=1099511627776) :
  EvP prog 124 [.agg (eJ S),.v (.string s)] (.v (.int .i64 (oz (dq (tL S) s)))):=by
 have hN:=ek S.types;have fi:=kD S;have jV:=@X1 S;obtain ⟨ae,order,types,⟨rh,rp⟩⟩:=S;simp only at hl hN fi jV;refine eG 23 [.tmp 4] func124 rfl ntmps124 rfl fun _ _ _ _=>?_;refine lI (fun j st=>∃ e:Nat,st=VT ⟨ae,order,types,.mk rh rp⟩ s e/\e<=types.length/\(∀ j,j < e->(tL ⟨ae,order,types,.mk rh rp⟩)[j]? ≠ some s)/\j=types.length - e) ⟨0,rfl,by omega,fun _ h=>by omega,rfl⟩ (wkM wB) ?_;rintro j st ⟨e,rfl,he,eW,rfl⟩;refine br ?_ ?_<;>intro hL
 ·have aq:e < types.length:=by have:=hL;simp [hN] at this;exact this
  obtain ⟨x,hx⟩:=gX aq;have hg:=jV hx;obtain ⟨xw,⟨xh,xp⟩⟩:=x;refine iX (dNms_get hx) ?_;refine br ?_ ?_<;>intro hq
  ·have hq:xw.s=s:=sU hq;rw [Ce (p:=e) (by rw [hg,hq]) (fun j hj=>Nat.le_of_not_lt fun hl=>eW j hl hj)];exact (rfl:_=_)
  ·have hq:¬ xw.s=s:=sU hq;refine ⟨VT ⟨ae,order,types,.mk rh rp⟩ s (e + 1),(wkM (wB1 (nxt aq (by omega)))),types.length - (e + 1),by omega,e + 1,rfl,by omega,fun j hj=>?_,rfl⟩;rcases iM hj with hj | rfl
   ·exact eW j hj
   ·rw [hg];simpa using hq
 ·have aS:e=types.length:=sW hN hL;rw [Km (fun j hj=>eW j (by omega))];exact (rfl:_=_)
abbrev adl (S:Sch) (l:List Wd) (e:Nat):St:=
 ⟨[aad 1 2 (bJ l),aab 2 0,aab 4 1,aaa 5 e],[eJ S,[.v (.int .i64 0),.v (.int .i64 0)]],[]⟩
theorem E5 (S:Sch) (hs:wdsWt S.ae<=1099511627776) (l:List Wd) (hl:wdsWt l<=1099511627776) :
  EvP prog 283 [.agg (eJ S),.sl 2 (bJ l) none] (labW (aA S.ae) l).d:=by
 have nz:=bu l;obtain ⟨ae,order,types,⟨rh,rp⟩⟩:=S;simp only at hs;refine eG 28 [.cell 4 44] func283 rfl ntmps283 rfl fun _ _ _ _=>?_;refine lI (fun j st=>∃ e:Nat,st=adl ⟨ae,order,types,.mk rh rp⟩ l e/\e<=l.length/\labW (aA ae) l=labW (aA ae) (l.drop e)/\j=l.length - e) ⟨0,rfl,by omega,rfl,rfl⟩ (wkM wB) ?_;rintro j st ⟨e,rfl,he,aK,rfl⟩;rw [aK];refine br ?_ ?_<;>intro hL
 ·have aq:e < l.length:=by simpa [aC] using hL
  obtain ⟨w,hw⟩:=gX aq;have aR:=ta (L:=aA ae) hw;refine dI ?_;refine ⟨kv w,⟨by omega,aV hw⟩,?_⟩;refine cD wx (fO ae w.s hs) ?_;refine br ?_ ?_<;>intro ha
  ·have ha:=gj.1 ha;rw [aR,ai ha];refine ⟨kv w,⟨by omega,aV hw⟩,?_⟩;exact ⟨_,ax,rfl⟩
  ·rw [ah (fun hn=>by have:=gj.2 hn;rw [ha] at this;cases this)] at aR;exact rE ⟨_,by omega,e + 1,rfl,by omega,aR,rfl⟩ (wkM (wB1 (nxt aq (by omega))))
 ·have aS:e=l.length:=by have:=hL;simp [aC] at this;omega
  rw [aS,List.drop_length];exact ⟨_,ax,rfl⟩
def iP (l:List Ty):List (List DV):=l.map eE
theorem er (l:List Ty):(iP l).length=l.length:=by simp [iP]
theorem kG {l:List Ty} {j:Nat} {t:Ty} (h:l[j]? = some t):(iP l)[j]? = some (eE t):=by simp [iP,h]
def fv (S:Sch):List Ty:=S.types.map fun x=>x.2
def gF (S:Sch):List Ty:=fv S ++ [S.root]
abbrev adm (S:Sch) (q e:Nat):St:=
 ⟨[aab 1 0,(3,⟨[],.sl 9 (iP ((fv S).take e)) (some 0)⟩),aaa 4 e],[eJ S],[⟨q,29,9,none⟩]⟩
theorem E6 (S:Sch) (hl:S.types.length<=1099511627776) :
  EvP prog 54 [.agg (eJ S)] (.sl 9 (iP (gF S)) none):=by
 have hN:=ek S.types;obtain ⟨ae,order,types,⟨rh,rp⟩⟩:=S;simp only at hl hN;refine eG 26 [.tmp 2] func54 rfl ntmps54 rfl fun _ _ _ _=>?_;refine lJ (fun e=>adm ⟨ae,order,types,.mk rh rp⟩ e e) types.length (dT 1 ⟨0,29,9,none⟩ rfl rfl rfl qT rfl rfl kr) ?_;intro e he;have fi:(iP ((fv ⟨ae,order,types,.mk rh rp⟩).take e)).length=e:=by simp [iP,fv];omega
 refine br ?_ ?_<;>intro hL
 ·have aq:e < types.length:=by have:=hL;simp [hN] at this;exact this
  obtain ⟨x,hx⟩:=gX aq
  have fB:iP ((fv ⟨ae,order,types,.mk rh rp⟩).take e) ++ [eE x.2]=iP ((fv ⟨ae,order,types,.mk rh rp⟩).take (e + 1)):=by
   rw [List.take_add_one];simp [fv,hx,iP]
  obtain ⟨xw,⟨xh,xp⟩⟩:=x;refine iX (dNms_get hx) ?_;refine ⟨fi,⟨by rw [fi];simp [maxLen];omega,by rw [fi];simp;omega⟩,?_⟩;exact rE ⟨_,by omega,e + 1,rfl,by omega,rfl⟩ (QT 1 (nQ (nxt aq (by omega)) fB) (gw (nxt aq (by omega)) fB))
 ·have aS:e=types.length:=sW hN hL
  have NP:iP ((fv ⟨ae,order,types,.mk rh rp⟩).take e) ++ [eE (.mk rh rp)]=iP (gF ⟨ae,order,types,.mk rh rp⟩):=by
   rw [List.take_of_length_le (by simp [fv];omega)];simp [gF,iP]
  refine ⟨fi,⟨by rw [fi];simp [maxLen];omega,by rw [fi];simp;omega⟩,?_⟩;rw [<- NP];exact ⟨_,ax,rfl⟩
mutual
def flatT:Ty->List Ty
 | .mk h ps=>if h.ag=9 then [] else .mk h ps :: flatP ps
def flatP:Pts->List Ty
 | .nil=>[]
 | .cons p t r=>(if p.bare then [] else flatT t) ++ flatP r
end
mutual
theorem j8:∀ t:Ty,(flatT t).length=t.nn
 | .mk h ps=>by
  have:=tq ps;simp only [flatT,Ty.nn];split
  ·rfl
  ·simp only [List.length_cons];omega
theorem tq:∀ ps:Pts,(flatP ps).length=ps.nn
 | .nil=>rfl
 | .cons p t r=>by
  have:=j8 t;have:=tq r;simp only [flatP,Pts.nn,List.length_append];split
  ·simp only [List.length_nil];omega
  ·omega
end
theorem Kp {P:Program} {f:FuncId} {args:List DV} {e:Nat} {es:List (List DV)} (h:Ev P f args [] [] (fun r _ _=>r = .sl e es none∨(es=[]/\r = .v (.slice none 0 0)))):EvP P f args (.sl e es none):=by
 intro E w vs hE ht hv;refine (h E w vs hE ht hv).mono ?_;rintro e' w' ⟨v,rfl,hM,hs,d,os,E',h1,h2,h3,h4,h5,h6⟩;rcases h6 with rfl | ⟨rfl,rfl⟩
 ·exact ⟨v,rfl,hM,hs,_,os,E',h1,h2,h3,h4,h5,rfl⟩
 ·refine ⟨v,rfl,hM,hs,.sl e [] none,os,E',h1,h2,h3,h4,?_,rfl⟩;unfold Rv at h5 ⊢;exact ⟨_,0,0,h5.1,⟨rfl,aO _⟩,fun hn=>(hn rfl).elim,fun k hk=>by cases hk⟩
abbrev X2 (t:Ty) (L:List Ty) (q e:Nat):St:=
 ⟨[aab 1 0,(3,⟨[],.sl 9 (iP L) (some 0)⟩),aaa 4 e],[eE t],[⟨q,29,9,none⟩]⟩
theorem o0:∀ (k:Nat) (t:Ty),t.wt<=k->t.wt<=1099511627776 ->
  EvP prog 55 [.agg (eE t)] (.sl 9 (iP (flatT t)) none)
 | 0,t,hn,_=>by have:=t.dz;omega
 | k + 1,.mk h ps,hn,cG=>by
  simp only [Ty.wt,Hd.wt] at hn cG;have iJ:=ps.gf;have hc:=ps.e9;have pf:=ps.gQ;have NT:=tq ps;refine Kp ?_;refine mH (s:=false) (bt:=[]) (mu:=[9]) (hbt:=fun p hp=>by cases hp) (fr:=false) (P:=prog) tt jC 5000 34 [.tmp 2] func55 rfl ntmps55 rfl (nL rfl) (fun _ _ _ _=>?_);refine br ?_ ?_<;>intro h9
  ·have h9:h.ag=9:=sU h9;have:flatT (.mk h ps)=[]:=by simp [flatT,h9]
   exact .inr ⟨by rw [this];rfl,rfl⟩
  have h9:¬ h.ag=9:=sU h9;have NA:flatT (.mk h ps) = .mk h ps :: flatP ps:=by simp [flatT,h9]
  refine XR rfl rfl rfl rfl rfl rfl rfl rfl ?_
  refine aT (fun j st=>∃ (e q:Nat) (L:List Ty),st=X2 (.mk h ps) L q e/\q=L.length/\e<=ps.len/\flatT (.mk h ps)=L ++ flatP (ps.drop e)/\j=ps.len - e) ps.len
   (X2 (.mk h ps) [.mk h ps] 1 0) (QT 1 qT kr) ⟨0,1,_,rfl,rfl,by omega,NA,by omega⟩ ?_
  rintro j st ⟨e,q,L,rfl,hq,he,aQ,rfl⟩
  have Zr:L.length<=1 + ps.nn:=by
   have:=congrArg List.length aQ;rw [NA] at this;simp at this;omega
  refine br ?_ ?_<;>intro hL
  ·have aq:e < ps.len:=by simpa [aJ] using hL
   obtain ⟨p,t,hx⟩:=Pts.eZ aq;have D6:=Pts.gN (mG hx);rw [Pts.drop_cons hx] at aQ;simp only [flatP] at aQ;obtain ⟨u,us⟩:=t;refine iX (bW hx) ?_;refine br ?_ ?_<;>intro hB
   ·have hB:p.bare=false:=sU hB;have aQ:flatT (.mk h ps)=(L ++ flatT (.mk u us)) ++ flatP (ps.drop (e + 1)):=by rw [aQ,hB,List.append_assoc];all_goals rfl
    have zy:L.length + (flatT (.mk u us)).length<=1 + ps.nn:=by
     have:=congrArg List.length aQ;rw [NA] at this;simp at this;omega
    have fB:iP L ++ iP (flatT (.mk u us))=iP (L ++ flatT (.mk u us)):=by simp [iP]
    refine iX (bW hx) ?_;refine cP SE (o0 k (.mk u us) (by omega) (by omega)) ?_;refine ⟨by rw [er,hq],⟨by simp only [er,maxLen];omega,by simp only [er];omega⟩,?_⟩;exact ⟨X2 (.mk h ps) (L ++ flatT (.mk u us)) (q + (iP (flatT (.mk u us))).length) (e + 1),(QT 1 (nQ (nxt aq (by omega)) fB) (gw (nxt aq (by omega)) fB)),ps.len - (e + 1),by omega,e + 1,_,_,rfl,by rw [er,List.length_append,hq],by omega,aQ,rfl⟩
   ·have hB:p.bare=true:=sU hB;rw [hB] at aQ;exact rE ⟨_,by omega,e + 1,q,L,rfl,hq,by omega,aQ,rfl⟩ (QT 1 (nG (nxt aq (by omega))) (wB1 (nxt aq (by omega))))
  ·have aS:e=ps.len:=by simp [aJ] at hL;omega
   rw [aS,Pts.dC] at aQ;simp only [flatP,List.append_nil] at aQ;rw [aQ];exact ⟨_,ax,.inl rfl⟩
theorem xO (S:Sch) (hl:S.types.length<=1099511627776) (hr:∀ x∈S.types,uU S x.2=true):∀ (k i:Nat),i < S.types.length->k<=99 ->
  EvP prog 123 [.agg (eJ S),.v (.int .i64 i),.v (.int .i64 k)] (.v (.int .i64 (oz (endI S (k + 1) i))))
 | k,i,hi,hk=>by
  have hN:=ek S.types;have Cf:=fun s=>lk S s hl;have ih:∀ k' j,k=k' + 1->j < S.types.length->EvP prog 123 [.agg (eJ S),.v (.int .i64 j),.v (.int .i64 k')] (.v (.int .i64 (oz (endI S (k' + 1) j)))):=fun k' j he hj=>xO S hl hr k' j hj (by omega);obtain ⟨x,hx⟩:∃ x,S.types[i]? = some x:=⟨_,gE hi⟩;have um:=hr x (mG hx);have fi:=kD S;obtain ⟨xw,⟨xh,xp⟩⟩:=x;have hE:endI S (k + 1) i=if xh.ag=9 then endI S k ((dq (tL S) xh.name.s).getD 0) else some i:=by rw [endI,hx];all_goals rfl
  obtain ⟨ae,order,types,⟨rh,rp⟩⟩:=S;simp only at hl hN hi hx um fi;refine eG 32 [.tmp 6] func123 rfl ntmps123 rfl fun _ _ _ _=>?_;refine iX (dNms_get hx) ?_;refine br ?_ ?_<;>intro h9
  ·have h9:¬ xh.ag=9:=sU h9;rw [ah h9] at hE;rw [hE];exact (rfl:_=_)
  have h9:xh.ag=9:=sU h9;rw [ai h9] at hE;rw [hE];refine br ?_ ?_<;>intro h1
  ·have h1:k=0:=by have:=h1;simp at this;omega
   subst h1;exact (rfl:_=_)
  have h1:1<=k:=by have:=h1;simp at this;omega
  obtain ⟨k',rfl⟩:∃ k',k=k' + 1:=⟨k - 1,by omega⟩;have De:=of_decide_eq_true um h9;obtain ⟨j,hj⟩:∃ j,dq (tL ⟨ae,order,types,.mk rh rp⟩) xh.name.s=some j:=Option.ne_none_iff_exists'.1 De;have pN:=(dy hj).1;rw [fi] at pN;have hf:=Cf xh.name.s;rw [hj] at hf ⊢;have fq:IntKind.i64.wrap (((k' + 1:Nat):Int) - 1)=(k':Int):=by rw [wrap64 (by omega) (by omega)];omega
  refine dI ?_;refine iX (dNms_get hx) ?_;refine cD JL hf ?_;refine cD Oh (ih k' j rfl pN) ?_ (qA fq);exact (rfl:_=_)
theorem tu {S:Sch}:∀ {k i j:Nat},endI S k i=some j->endI S (k + 1) i=some j
 | 0,i,j,h=>by cases h
 | k + 1,i,j,h=>by
  rw [endI] at h ⊢
  cases hx:S.types[i]? with
  | none=>rw [hx] at h;cases h
  | some x=>
   rw [hx] at h;simp only at h ⊢;split at h
   ·rename_i h9;rw [ai h9];exact tu h
   ·rename_i h9;rw [ah h9];exact h
def xP (S:Sch) (k:Nat):List Bool:=(List.range S.types.length).map fun i=>(endI S k i).isSome
theorem rB (S:Sch) (k:Nat):(xP S k).length=S.types.length:=by simp [xP]
theorem xQ {S:Sch} {k i:Nat} (hi:i < S.types.length):(xP S k).getD i false=(endI S k i).isSome:=by
 simp [xP,cH,List.getElem?_range hi]
theorem Tu (S:Sch) (k:Nat):SZ (xP S k) (xP S (k + 1)):=by
 intro i h;by_cases hi:i < S.types.length
 ·rw [xQ hi] at h ⊢;obtain ⟨j,hj⟩:=Option.isSome_iff_exists.1 h;rw [tu hj];rfl
 ·rw [cH,dA (by rw [rB];omega)] at h;cases h
theorem Qe {S:Sch} {k:Nat} (h:xP S k=xP S (k + 1)):∀ i,endI S (k + 2) i=endI S (k + 1) i:=by
 intro i
 have key:∀ {j:Nat},j < S.types.length->(endI S k j).isSome=(endI S (k + 1) j).isSome:=fun {j} hj=>by
  rw [<- xQ hj,<- xQ hj,h]
 have same:∀ j,endI S (k + 1) j=endI S k j:=fun j=>by
  cases h1:endI S k j with
  | some m=>exact tu h1
  | none=>
   cases h2:endI S (k + 1) j with
   | none=>rfl
   | some m=>
    have hj:j < S.types.length:=by
     rw [endI] at h2
     cases hx:S.types[j]? with
     | none=>rw [hx] at h2;cases h2
     | some x=>exact (gS hx).1
    have:=key hj;rw [h1,h2] at this;cases this
 rw [endI,endI]
 cases hx:S.types[i]? with
 | none=>rfl
 | some x=>
  simp only;split
  ·exact same _
  ·rfl
theorem AO (S:Sch):∀ k,(∀ i,endI S (k + 1) i=endI S k i)∨k<=xf (xP S k)
 | 0=>.inr (Nat.zero_le _)
 | k + 1=>by
  rcases AO S k with h | h
  ·refine .inl fun i=>?_;rw [endI,endI]
   cases hx:S.types[i]? with
   | none=>rfl
   | some x=>
    simp only;split
    ·exact h _
    ·rfl
  ·rcases (xg (by rw [rB,rB]) (Tu S k)).1 with h2 | h2
   ·exact .inl (Qe h2)
   ·exact .inr (by omega)
theorem E7 {S:Sch}:∀ {k:Nat},S.types.length + 1<=k->∀ i,endI S k i=endI S (S.types.length + 1) i:=by
 have aR:∀ i,endI S (S.types.length + 2) i=endI S (S.types.length + 1) i:=fun i=>by
  rcases AO S (S.types.length + 1) with h | h
  ·exact h i
  ·have:=J9 (xP S (S.types.length + 1));rw [rB] at this;omega
 have key:∀ d i,endI S (S.types.length + 1 + (d + 1)) i=endI S (S.types.length + 1 + d) i:=by
  intro d
  induction d with
  | zero=>exact aR
  | succ d ih=>
   intro i;show endI S (S.types.length + 1 + (d + 1) + 1) i=endI S (S.types.length + 1 + d + 1) i;rw [endI,endI]
   cases hx:S.types[i]? with
   | none=>rfl
   | some x=>
    simp only;split
    ·exact ih _
    ·rfl
 intro k hk i;obtain ⟨d,rfl⟩:∃ d,k=S.types.length + 1 + d:=⟨k - (S.types.length + 1),by omega⟩;clear hk
 induction d with
 | zero=>rfl
 | succ d ih=>rw [key,ih]
theorem xR (S:Sch) (hl:S.types.length<=64) (hr:∀ x∈S.types,uU S x.2=true) (i:Nat) (hi:i < S.types.length) :
  EvP prog 123 [.agg (eJ S),.v (.int .i64 i),.v (.int .i64 (99:Nat))] (.v (.int .i64 (oz (endI S (S.types.length + 1) i)))):=by
 have:=xO S (by omega) hr 99 i hi (aO _)
 rwa [E7 (by omega)] at this
abbrev adn (S:Sch) (k n e:Nat):St:=
 ⟨[aab 2 0,aaa 5 k,aaa 6 n,aaa 7 e],[eJ S],[]⟩
theorem xS (S:Sch) (hl:S.types.length<=64) (hs:nmsWt S.types<=1099511627776) (hr:∀ x∈S.types,uU S x.2=true) (s:ByteArray) (i k:Nat) (hi:dq (tL S) s=some i) (hk:endI S (S.types.length + 1) i=some k) :
  EvP prog 57 [.agg (eJ S),.v (.string s)] (.v (.int .i64 (firstA S k))):=by
 have hN:=ek S.types;have Nu:=(dy hi).1;rw [kD] at Nu;have ir:=(rq hk).1;have hf:=lk S s (by omega);have he:=xR S hl hr i Nu;rw [hi] at hf;rw [hk] at he;have hfa:=@oh S;have Kg:=AB S;obtain ⟨ae,order,types,⟨rh,rp⟩⟩:=S;simp only at hl hs hN Nu ir hfa Kg;refine eG 29 [.tmp 4] func57 rfl ntmps57 rfl fun _ _ _ _=>?_;refine dI ?_;refine cD JL hf ?_;refine cD Oh he ?_;refine lJ (fun e=>adn ⟨ae,order,types,.mk rh rp⟩ k (firstA ⟨ae,order,types,.mk rh rp⟩ e) e) k (wkM wB) ?_;intro e hek;refine br ?_ ?_<;>intro hL
 ·have aq:e < k:=sU hL;obtain ⟨x,hx⟩:∃ x,types[e]? = some x:=⟨_,gE (by omega)⟩;have Vp:=hZ (mG hx);have h1:=hfa hx;have h2:=Kg e;have h3:=Kg (e + 1);have h4:=j8 x.2;obtain ⟨xw,⟨xh,xp⟩⟩:=x;simp only at Vp h1 h4;refine iX (dNms_get hx) ?_;refine cP SE (o0 _ (.mk xh xp) (aO _) (by omega)) ?_
  have tZ:IntKind.i64.wrap ((firstA ⟨ae,order,types,.mk rh rp⟩ e:Int) + (iP (flatT (.mk xh xp))).length)=(firstA ⟨ae,order,types,.mk rh rp⟩ (e + 1):Int):=by
   rw [er,wrap64 (by omega) (by omega)];omega
  exact rE ⟨_,by omega,e + 1,rfl,by omega,rfl⟩ (wkM (gw tZ (nxt aq (by omega))))
 ·have aS:e=k:=by have:=hL;simp at this;omega
  subst aS;exact (rfl:_=_)
theorem Kq {S:Sch} {e:Nat} {x:Wd × Ty} (h:S.types[e]? = some x):(uT S)[e]? = some x.1:=by simp [uT,h]
abbrev ado (S:Sch) (e:Nat):St:=
 ⟨[aab 1 0,aab 2 1,aaa 3 e],[eJ S,[.v (.int .i64 0),.v (.int .i64 0)]],[]⟩
theorem Cr (S:Sch) (hs:nmsWt S.types<=1099511627776) :
  EvP prog 241 [.agg (eJ S)] (eL S).d:=by
 have hN:=ek S.types;have ik:=j5 S.types;have fi:=Ki S;have hF:=eL.eq_1 S;have jV:=@Kq S;have Cf:=fun s=>lk S s (by omega);have hTL:tL S=aA (uT S):=rfl;obtain ⟨ae,order,types,⟨rh,rp⟩⟩:=S;simp only at hs hN ik fi jV hF;generalize hQ:uT ⟨ae,order,types,.mk rh rp⟩=Q at fi hF jV hTL;refine eG 47 [.cell 2 44] func241 rfl ntmps241 rfl fun _ _ _ _=>?_;generalize eL ⟨ae,order,types,.mk rh rp⟩=F at hF ⊢;refine br ?_ ?_<;>intro h
 ·have h:64 < types.length:=by simp [hN] at h;omega
  obtain ⟨x,hx⟩:∃ x,types[64]? = some x:=⟨_,gE h⟩;have XK:=jV hx;rw [ai h,lf XK] at hF;obtain ⟨xw,⟨xh,xp⟩⟩:=x;refine iX (dNms_get hx) ?_;refine ⟨_,?_,rfl⟩;rw [hF];exact ax
 have h:¬ 64 < types.length:=by simp [hN] at h;omega
 rw [ah h] at hF;refine lI (fun j st=>∃ e:Nat,st=ado ⟨ae,order,types,.mk rh rp⟩ e/\e<=types.length/\enumL Q 0 Q=enumL Q e (Q.drop e)/\j=types.length - e) ⟨0,rfl,by omega,rfl,rfl⟩ (wkM wB) ?_;rintro j st ⟨e,rfl,he,aK,rfl⟩;rw [aK] at hF;refine br ?_ ?_<;>intro hL
 ·have aq:e < types.length:=by have:=hL;simp [hN] at this;exact this
  obtain ⟨x,hx⟩:=gX aq;have Vp:=hZ (mG hx);have hq:=jV hx;have aR:=qa hq;obtain ⟨p,hp,Jt⟩:=Qc hq;obtain ⟨xw,⟨xh,xp⟩⟩:=x;simp only [Wd.wt] at Vp hq aR hp Jt;have hf:=Cf xw.s;rw [hTL,hp] at hf;have hlab:=mR [xw] (by simp only [wdsWt,Wd.wt];omega);have Dg:bS [xw]=if bd xw.s then (0,0) else (9,xw.a):=by simp [bS,badWd]
  refine iX (dNms_get hx) ?_;refine cP Oz hlab ?_;refine br ?_ ?_<;>intro hN
  ·have hN:(bS [xw]).1≠0:=sU hN
   cases bZ:bd xw.s with
   | true=>rw [Dg,bZ] at hN;exact absurd rfl hN
   | false=>
   rw [bZ] at Dg;have Dg:bS [xw]=(9,xw.a):=Dg;have hf9:aF Q e xw=9:=by simp [aF,bZ]
   rw [aR,hf9,ai (by decide)] at hF;refine ⟨_,?_,rfl⟩;rw [hF,Dg];exact ax
  ·have hN:(bS [xw]).1=0:=sU hN
   cases bZ:bd xw.s with
   | false=>rw [Dg,bZ] at hN;exact absurd hN (by simp)
   | true=>
   refine cP JL hf ?_;refine br ?_ ?_<;>intro h2
   ·have h2:p < e:=by have:=h2;simp [oz] at this;exact this
    have hf10:aF Q e xw=10:=by simp [aF,bZ,Jt.1 h2]
    rw [aR,hf10,ai (by decide)] at hF;refine ⟨_,?_,rfl⟩;rw [hF];exact ax
   ·have h2:¬ p < e:=by have:=h2;simp [oz] at this;omega
    have hd:bN (Q.take e) xw.s=false:=by
     cases hd:bN (Q.take e) xw.s
     ·rfl
     ·exact absurd (Jt.2 hd) h2
    have Zs:aF Q e xw=0:=by simp [aF,bZ,hd]
    rw [Zs,ah (by simp)] at aR;exact rE ⟨_,by omega,e + 1,rfl,by omega,by rw [aK,aR],rfl⟩ (wkM (wB1 (nxt aq (by omega))))
 ·have aS:e=types.length:=sW hN hL;rw [aS,<- fi,List.drop_length] at hF;refine ⟨_,?_,rfl⟩;rw [hF];exact ax
abbrev Kr (S:Sch) (t:Ty) (e:Nat):St:=
 ⟨[aab 2 0,aab 3 1,aab 4 2,aaa 5 e],[eJ S,eE t,[.v (.int .i64 0),.v (.int .i64 0)]],[]⟩
theorem rC (S:Sch) (hl:S.types.length<=1099511627776) (hs:wdsWt S.ae<=1099511627776):∀ (k:Nat) (t:Ty),t.wt<=k->t.wt<=1099511627776 ->
  EvP prog 243 [.agg (eJ S),.agg (eE t)] (lg S t).d
 | 0,t,hn,_=>by have:=t.dz;omega
 | k + 1,.mk h ps,hn,cG=>by
  have ih:=rC S hl hs k;simp only [Ty.wt,Hd.wt] at hn cG;have iJ:=ps.gf;have hf:=lk S h.name.s hl;have Zt:=fun l hl=>E5 S hs l hl;have hS:lg S (.mk h ps)=if h.ag=9/\dq (tL S) h.name.s=none then (15,h.name.a) else knP ⟨aA S.ae,[],[],[],fun _ _=>false⟩ (tL S) ps:=by rw [lg,knT]
  have S8:knP ⟨aA S.ae,[],[],[],fun _ _=>false⟩ (tL S) ps=knP ⟨aA S.ae,[],[],[],fun _ _=>false⟩ (tL S) (ps.drop 0):=by rw [Pts.drop]
  have hK:∀ e p u,ps.toList[e]? = some (p,u)->knP ⟨aA S.ae,[],[],[],fun _ _=>false⟩ (tL S) (ps.drop e)=if (labW (aA S.ae) p.label).1≠0 then labW (aA S.ae) p.label else if (labW (aA S.ae) p.cl).1≠0 then labW (aA S.ae) p.cl else if p.bare then knP ⟨aA S.ae,[],[],[],fun _ _=>false⟩ (tL S) (ps.drop (e + 1)) else if (lg S u).1≠0 then lg S u else knP ⟨aA S.ae,[],[],[],fun _ _=>false⟩ (tL S) (ps.drop (e + 1)):=fun e p u hx=>by
   rw [Pts.drop_cons hx,knP];all_goals rfl
  have hK0:knP ⟨aA S.ae,[],[],[],fun _ _=>false⟩ (tL S) .nil=(0,0):=by rw [knP]
  generalize knP ⟨aA S.ae,[],[],[],fun _ _=>false⟩ (tL S)=KP at hS S8 hK hK0;obtain ⟨ae,order,types,⟨rh,rp⟩⟩:=S;refine eG 64 [.cell 4 44] func243 rfl ntmps243 rfl fun _ _ _ _=>?_;generalize lg ⟨ae,order,types,.mk rh rp⟩ (.mk h ps)=F at hS ⊢;refine have body:=?_;br (fun h9=>NZ JL hf ax rfl (br (fun hx=>?_) (fun hx=>aT (fun j st=>∃ e:Nat,st=Kr ⟨ae,order,types,.mk rh rp⟩ (.mk h ps) e/\e<=ps.len/\F=KP (ps.drop e)/\j=ps.len - e) ps.len (Kr ⟨ae,order,types,.mk rh rp⟩ (.mk h ps) 0) (wkM wB) ⟨0,rfl,by omega,?_,by omega⟩ body))) (fun h9=>aT (fun j st=>∃ e:Nat,st=Kr ⟨ae,order,types,.mk rh rp⟩ (.mk h ps) e/\e<=ps.len/\F=KP (ps.drop e)/\j=ps.len - e) ps.len (Kr ⟨ae,order,types,.mk rh rp⟩ (.mk h ps) 0) (wkM wB) ⟨0,rfl,by omega,?_,by omega⟩ body)
  rotate_left
  ·have h9:h.ag=9:=sU h9;have hx:dq (tL ⟨ae,order,types,.mk rh rp⟩) h.name.s=none:=gj.1 (by simpa [pickB] using hx);rw [ai ⟨h9,hx⟩] at hS;refine ⟨_,?_,rfl⟩;rw [hS];exact ax
  ·have hx:¬ dq (tL ⟨ae,order,types,.mk rh rp⟩) h.name.s=none:=fun hn=>by
    have h3:=gj.2 hn;simp [pickB] at hx;have h3:=of_decide_eq_true h3;omega
   rw [ah (fun hc=>hx hc.2),S8] at hS;exact hS
  ·have h9:¬ h.ag=9:=sU h9;rw [ah (fun hc=>h9 hc.1),S8] at hS;exact hS
  rintro j st ⟨e,rfl,he,aK,rfl⟩;refine br ?_ ?_<;>intro hL
  ·have aq:e < ps.len:=by simpa [aJ] using hL
   obtain ⟨p,t,hx⟩:=Pts.eZ aq;have D6:=Pts.gN (mG hx);have hk:=hK e p t hx;have hw1:wdsWt p.label + wdsWt p.cl<=p.wt:=by simp only [Ph.wt];omega
   obtain ⟨u,us⟩:=t;refine iX (bW hx) ?_;refine cP U9 (Zt p.label (by omega)) ?_;refine br ?_ ?_<;>intro b1
   ·have b1:(labW (aA ae) p.label).1=0:=sU b1;rw [ah (by simp [b1])] at hk;refine cP U9 (Zt p.cl (by omega)) ?_;refine br ?_ ?_<;>intro b2
    ·have b2:(labW (aA ae) p.cl).1=0/\p.bare=false:=by
      rw [pickB_and] at b2;simpa using b2
     obtain ⟨b2,b3⟩:=b2;rw [ah (by simp [b2]),ah (by simp [b3])] at hk;refine cP Ox (ih (.mk u us) (by omega) (by omega)) ?_;refine br ?_ ?_<;>intro b4
     ·have b4:(lg ⟨ae,order,types,.mk rh rp⟩ (.mk u us)).1≠0:=sU b4;rw [ai b4] at hk
      (refine ⟨_,?_,rfl⟩;rw [aK,hk];exact ax)
     ·have b4:(lg ⟨ae,order,types,.mk rh rp⟩ (.mk u us)).1=0:=sU b4;rw [ah (by simp [b4])] at hk;exact rE ⟨_,by omega,e + 1,rfl,by omega,by rw [aK,hk],rfl⟩ (wkM (wB1 (nxt aq (by omega))))
    ·refine br ?_ ?_<;>intro b4
     ·have b4:(labW (aA ae) p.cl).1≠0:=sU b4;rw [ai b4] at hk
      (refine ⟨_,?_,rfl⟩;rw [aK,hk];exact ax)
     ·have b4:(labW (aA ae) p.cl).1=0:=sU b4
      have b3:p.bare=true:=by
       rw [pickB_and] at b2;simpa [b4] using b2
      rw [ah (by simp [b4]),ai b3] at hk;exact rE ⟨_,by omega,e + 1,rfl,by omega,by rw [aK,hk],rfl⟩ (wkM (wB1 (nxt aq (by omega))))
   ·have b1:¬ (labW (aA ae) p.label).1=0:=sU b1;rw [ai b1] at hk;refine br ?_ ?_<;>intro b2
    ·rw [pickB_and] at b2;simp [b1] at b2
    ·refine br ?_ ?_<;>intro b4
     ·(refine ⟨_,?_,rfl⟩;rw [aK,hk];exact ax)
     ·simp [b1] at b4
  ·have aS:e=ps.len:=by simp [aJ] at hL;omega
   rw [aS,Pts.dC] at aK;refine ⟨_,?_,rfl⟩;rw [aK,hK0];exact ax
abbrev Ks (h:Hd) (ps:Pts) (e:Nat) (depth m:Int):St:=
 ⟨[aaa 2 depth,aab 3 0,aab 4 1,aab 6 2,aaa 7 e],[[.v (.int .i64 0),.v (.int .i64 0),.v (.int .i64 m)],eE (.mk h ps),[.v (.int .i64 0),.v (.int .i64 0),.v (.int .i64 0)]],[]⟩
theorem Cs (k:Nat) (ih:BV k) (h:Hd) (ps:Pts) (depth m:Int) (hk:ps.wt<=k) (cG:(Ty.mk h ps).wt<=1099511627776) (Aa:0<=depth) (Af:depth<=25) (kg:0<=m) (gy:m<=512) :
  EvP prog 242 [wD (0,0) m,.agg (eE (.mk h ps)),.v (.int .i64 depth)] (wD (wrong (.mk h ps) depth m).1 (wrong (.mk h ps) depth m).2):=by
 have Az:=cG;simp only [Ty.wt,Hd.wt] at Az;have iJ:=ps.gf;have Xk:=bu h.af;have r8:IntKind.i64.wrap (m + 1)=m + 1:=wrap64 (by omega) (by omega)
 have hW:∀ e a,EvP prog 278 [.agg [.v (.int .i64 0),.v (.int .i64 0),.v (.int .i64 (IntKind.i64.wrap (m + 1)))],.v (.int .i64 e),.v (.int .i64 a)] (wD (e,a) (m + 1)):=by
  intro e a;rw [r8];exact eS (0,0) (m + 1) e a
 have hS:=wrong.eq_def (.mk h ps) depth m;simp only at hS;refine eG 201 [.cell 6 335] func242 rfl ntmps242 rfl fun _ _ _ _=>?_;refine br ?_ ?_<;>intro c
 ·have c:24 < depth:=of_decide_eq_true c;refine cP gZ (hW 6 h.aG) ?_;rw [ai c] at hS;refine ⟨_,?_,rfl⟩;rw [hS];exact ax
 have c:¬ 24 < depth:=of_decide_eq_false c;rw [ah c] at hS;refine br ?_ ?_<;>intro c
 ·have c:512 < IntKind.i64.wrap (m + 1):=of_decide_eq_true c;rw [r8] at c;refine cP gZ (hW 8 h.aG) ?_;rw [ai c] at hS;refine ⟨_,?_,rfl⟩;rw [hS];exact ax
 have c:¬ 512 < IntKind.i64.wrap (m + 1):=of_decide_eq_false c;rw [r8] at c;rw [ah c] at hS;refine br ?_ ?_<;>intro c
 ·have c:h.ag < 1∨9 < h.ag:=by simpa [ap] using c
  refine cP gZ (hW 14 h.aG) ?_;rw [ai c] at hS;refine ⟨_,?_,rfl⟩;rw [hS];exact ax
 have c:¬ (h.ag < 1∨9 < h.ag):=by simp [ap] at c;omega
 rw [ah c] at hS;refine cP aby (Hf (.mk h ps) (by omega)) ?_;refine br ?_ ?_<;>intro c
 ·have c:uQ (.mk h ps)=false:=by simpa [uQ] using c
  refine cP gZ (hW 19 h.aG) ?_;rw [ai c] at hS;refine ⟨_,?_,rfl⟩;rw [hS];exact ax
 have c:¬ uQ (.mk h ps)=false:=by simpa [uQ] using c
 rw [ah c] at hS;refine br ?_ ?_<;>intro c
 ·have c:(h.ag=2/\h.hi < h.lo)∨(h.ag=3/\(h.most < 0∨4096 < h.most)):=by simp [ap,pickB_and] at c;omega
  refine cP gZ (hW 20 h.aG) ?_;rw [ai c] at hS;refine ⟨_,?_,rfl⟩;rw [hS];exact ax
 have c:¬ ((h.ag=2/\h.hi < h.lo)∨(h.ag=3/\(h.most < 0∨4096 < h.most))):=by simp [ap,pickB_and] at c;omega
 rw [ah c] at hS;refine br ?_ ?_<;>intro k9
 ·have k9:h.ag=9:=sU k9;refine cP JP (kZ h.name.s (by simp only [Wd.wt] at Az;omega)) ?_;refine br ?_ ?_<;>intro q
  ·have q:bd h.name.s=false:=by simpa [pickB_and,k9] using q
   refine cP gZ (hW 9 h.name.a) ?_;rw [ai ⟨k9,q⟩] at hS;refine ⟨_,?_,rfl⟩;rw [hS];exact ax
  ·have q:bd h.name.s=true:=by simpa [pickB_and,k9] using q
   rw [ah (by simp [q]),ah (by omega),ah (by omega),ah (by omega)] at hS;refine br (fun x=>?_) (fun _=>?_)
   ·have:=of_decide_eq_true x;omega
   refine br (fun x=>?_) (fun _=>?_)
   ·simp [ap] at x;omega
   refine br (fun x=>?_) (fun _=>?_)
   ·simp [ap] at x;omega
   refine ⟨_,?_,rfl⟩;rw [hS];exact (qA r8)
 ·have k9:¬ h.ag=9:=sU k9;rw [ah (by simp [k9])] at hS;refine br ?_ ?_<;>intro k4
  ·have k4:h.ag=4:=of_decide_eq_true k4;rw [ai k4] at hS;refine br ?_ ?_<;>intro c
   ·have c:h.af=[]:=by simp [aC] at c;exact c
    refine cP gZ (hW 15 h.aG) ?_;refine ⟨_,?_,rfl⟩;rw [hS];simp only [jj,ai c];exact ax
   have c:¬ h.af=[]:=by simp [aC] at c;exact c
   refine br ?_ ?_<;>intro c2
   ·have aq:64 < h.af.length:=by simp [aC] at c2;omega
    obtain ⟨x,hx⟩:=gX aq;refine dS ?_;refine ⟨kv x,⟨by omega,aV hx⟩,?_⟩;refine cD gZ (hW 8 x.a) ?_;refine ⟨_,?_,rfl⟩;rw [hS];simp only [jj,ah c,ai aq,hx,Option.getD_some];exact ax
   have c2:¬ 64 < h.af.length:=by simp [aC] at c2;omega
   have hE:jj h=enumL h.af 0 h.af:=by simp only [jj,ah c,ah c2]
   rw [hE] at hS
   refine aT (fun j st=>∃ (e:Nat),st=Ks h ps e depth (m + 1)/\e<=h.af.length/\enumL h.af 0 h.af=enumL h.af e (h.af.drop e)/\j=h.af.length - e) h.af.length
    (Ks h ps 0 depth (m + 1)) (QT 3 (nG r8) (wB1 r8)) ⟨0,rfl,by omega,rfl,by omega⟩ ?_
   rintro j st ⟨e,rfl,he,aK,rfl⟩;refine br ?_ ?_<;>intro hL
   ·have aq:e < h.af.length:=by simpa [aC] using hL
    obtain ⟨x,hx⟩:=gX aq;rw [drop_cons hx] at aK;simp only [enumL] at aK;refine cP U8 (pB h.af e x (by omega) hx) ?_;refine br ?_ ?_<;>intro hl
    ·have hl:aF h.af e x≠0:=sU hl;rw [ai hl] at aK;refine dS ?_;refine ⟨kv x,⟨by omega,aV hx⟩,?_⟩;refine cD gZ (eS (0,0) (m + 1) _ x.a) ?_;refine ⟨_,?_,rfl⟩;rw [hS,aK];exact ax
    ·have hl:aF h.af e x=0:=sU hl;rw [ah (by simp [hl])] at aK;exact rE ⟨_,by omega,e + 1,rfl,by omega,aK,rfl⟩ (wkM (wB1 (nxt aq (by omega))))
   ·have aS:e=h.af.length:=by simp [aC] at hL;omega
    rw [aS,List.drop_length] at aK;simp only [enumL] at aK;rw [aK] at hS;refine br (fun x=>?_) (fun _=>?_)
    ·simp [ap] at x;omega
    refine br (fun x=>?_) (fun _=>?_)
    ·simp [ap] at x;omega
    refine ⟨_,?_,rfl⟩;rw [hS];exact ax
  ·have k4:¬ h.ag=4:=of_decide_eq_false k4;rw [ah k4] at hS;refine br ?_ ?_<;>intro k5
   ·have k5:h.ag=5∨h.ag=6:=by simpa [ap] using k5
    rw [ai k5] at hS
    cases ps with
    | nil=>
     refine cP gZ (hW 19 h.aG) ?_;refine ⟨_,?_,rfl⟩;rw [hS];simp only [wrongOne];exact ax
    | cons p t r=>
     cases r with
     | cons p2 t2 r2=>
      refine cP gZ (hW 19 h.aG) ?_;refine ⟨_,?_,rfl⟩;rw [hS];simp only [wrongOne];exact ax
     | nil=>
      obtain ⟨u,us⟩:=t;simp only [wrongOne] at hS;simp only [Ty.wt,Pts.wt] at Az hk;refine ⟨_,⟨by omega,rfl⟩,?_⟩;refine br ?_ ?_<;>intro c
      ·have c:p.name.s=au:=by
        have:=c;simp [ap] at this;exact this
       refine ⟨_,⟨by omega,rfl⟩,?_⟩;refine cP OA (mQ p fo (eE (.mk u us)) (eE cf) (by omega) (Ad _ _ _ _ _) (Ad _ _ _ _ _)) ?_;refine br ?_ ?_<;>intro q
       ·have q:bR p fo=false:=by simpa [ap,c] using q
        refine cP gZ (hW 19 h.aG) ?_;rw [ai (by simp [q])] at hS;refine ⟨_,?_,rfl⟩;rw [hS];exact ax
       ·have q:bR p fo=true:=by simpa [ap,c] using q
        rw [ah (by simp [q,c])] at hS;refine br ?_ ?_<;>intro x
        ·have x:h.most < 0∨1024 < h.most:=by simpa [ap] using x
         refine cP gZ (hW 20 h.aG) ?_;rw [ai x] at hS;refine ⟨_,?_,rfl⟩;rw [hS];exact ax
        ·have x:¬ (h.most < 0∨1024 < h.most):=by simp [ap] at x;omega
         rw [ah x] at hS;refine dS ?_;refine ⟨_,⟨by omega,rfl⟩,?_⟩;refine cD Ow (ih (.mk u us) (depth + 1) (m + 1) (by simp only [Ty.wt];omega) (by simp only [Ty.wt];omega) (by omega) (by omega) (by omega) (by omega)) ?_ (by repeat' (first | exact rfl | exact trivial | exact Or.inr (Or.inl ⟨_,rfl⟩) | exact Or.inr ⟨_,rfl⟩ | exact Or.inl ⟨rfl,rfl⟩ | exact Or.inl rfl | refine Or.inr ⟨_,_,rfl,Nat.zero_le _,rfl,?_⟩ | refine ⟨_,_,rfl,?_,?_⟩ | refine ⟨_,rfl,?_⟩ | exact congrArg (fun z=>DV.v (.int .i64 z)) r8 | exact congrArg (fun z=>DV.v (.int .i64 z)) (wrap64 (by omega) (by omega))| refine Or.inr (Or.inr (Or.inr ⟨_,_,rfl,?_⟩)) | exact Or.inl rfl | refine Or.inr ?_));refine ⟨_,?_,rfl⟩;rw [hS];exact ax
      ·have c:p.name.s≠au:=by
        have:=c;simp [ap] at this;exact this
       refine cP gZ (hW 19 h.aG) ?_;rw [ai (.inl c)] at hS;refine ⟨_,?_,rfl⟩;rw [hS];exact ax
   ·have k5:¬ (h.ag=5∨h.ag=6):=by simp [ap] at k5;omega
    rw [ah k5] at hS;refine br ?_ ?_<;>intro k7
    ·have k7:h.ag=7∨h.ag=8:=by simpa [ap] using k7
     rw [ai k7] at hS;have hP:wrong (.mk h ps) depth m=fp h ps depth (m + 1):=by rw [hS];all_goals rfl
     refine cP abz (BW k ih h ps depth (m + 1) hk cG Aa (by omega) (by omega) (by omega)) ?_ (qA r8);refine ⟨_,?_,rfl⟩;rw [hP];exact ax
    ·have k7:¬ (h.ag=7∨h.ag=8):=by simp [ap] at k7;omega
     rw [ah k7] at hS;refine ⟨_,?_,rfl⟩;rw [hS];exact (qA r8)
theorem AP:∀ k,BV k
 | 0=>fun t depth m hk=>by have:=t.dz;omega
 | k + 1=>fun t depth m hk cG Aa Af kg gy=>by
  obtain ⟨h,ps⟩:=t;have fq:=hk;simp only [Ty.wt,Hd.wt] at fq;exact Cs k (AP k) h ps depth m (by omega) cG Aa Af kg gy
theorem Ct (t:Ty) (depth m:Int) (cG:t.wt<=1099511627776) (Aa:0<=depth) (Af:depth<=25) (kg:0<=m) (gy:m<=512) :
  EvP prog 242 [wD (0,0) m,.agg (eE t),.v (.int .i64 depth)] (wD (wrong t depth m).1 (wrong t depth m).2):=
 AP t.wt t depth m (aO _) cG Aa Af kg gy
def eaA:List Ty->Int->Ft × Int
 | [],m=>((0,0),m)
 | t :: r,m=>if (cg t m).1.1≠0 then cg t m else eaA r (cg t m).2
theorem Qf (z:Ty):∀ (l:List (Wd × Ty)) (m:Int),((eaA (l.map (fun x=>x.2) ++ [z]) m).1.1=0↔(eaR z l m).1.1=0)/\((eaR z l m).1.1≠0->eaA (l.map (fun x=>x.2) ++ [z]) m=eaR z l m)
 | [],m=>by
  show ((eaA [z] m).1.1=0↔(cg z m).1.1=0)/\((cg z m).1.1≠0->eaA [z] m=cg z m);simp only [eaA];by_cases h:(cg z m).1.1=0
  ·simp [h]
  ·simp [h]
 | x :: r,m=>by
  have ih:=Qf z r (cg x.2 m).2;simp only [List.map_cons,List.cons_append,eaA,eaR];by_cases h:(cg x.2 m).1.1=0
  ·simp only [h,ne_eq,not_true,if_false];exact ih
  ·simp [h]
def eaK (F:Ty->Ft):List Ty->Ft
 | []=>(0,0)
 | t :: r=>if (F t).1≠0 then F t else eaK F r
theorem Qg (F:Ty->Ft) (z:Ty):∀ l:List (Wd × Ty),((eaK F (l.map (fun x=>x.2) ++ [z])).1=0↔(eaL F (F z) l).1=0)/\((eaL F (F z) l).1≠0->eaK F (l.map (fun x=>x.2) ++ [z])=eaL F (F z) l)
 | []=>by
  show ((eaK F [z]).1=0↔(F z).1=0)/\((F z).1≠0->eaK F [z]=F z);simp only [eaK];by_cases h:(F z).1=0
  ·simp [h]
  ·simp [h]
 | x :: r=>by
  have ih:=Qg F z r;simp only [List.map_cons,List.cons_append,eaK,eaL];by_cases h:(F x.2).1=0
  ·simp only [h,ne_eq,not_true,if_false];exact ih
  ·simp [h]
theorem H6 {F:Ty->Ft}:∀ {l:List Ty},(eaK F l).1=0->∀ t∈l,(F t).1=0
 | [],_,t,ht=>by cases ht
 | u :: r,h,t,ht=>by
  rw [eaK] at h;split at h
  ·rename_i h1;exact (h1 h).elim
  ·rename_i h1;rcases bp ht with rfl | ht
   ·simpa using h1
   ·exact H6 h t ht
theorem Kt (S:Sch):lE S=if (latF S.ae S.order).1≠0 then latF S.ae S.order
 else if (eL S).1≠0 then eL S
 else if (eaA (gF S) 0).1.1≠0 then (eaA (gF S) 0).1
 else if (eaK (lg S) (gF S)).1≠0 then eaK (lg S) (gF S)
 else loopF S:=by
 have h1:=Qf S.root S.types 0;have h2:=Qg (lg S) S.root S.types;unfold lE gF fv;by_cases a:(eaR S.root S.types 0).1.1=0
 ·have a':=h1.1.2 a;simp only [a,a',ne_eq,not_true,if_false];by_cases b:(eaL (lg S) (lg S S.root) S.types).1=0
  ·have b':=h2.1.2 b;simp only [b,b',ne_eq,not_true,if_false]
  ·rw [h2.2 b]
 ·rw [h1.2 a];by_cases b:(eaL (lg S) (lg S S.root) S.types).1=0
  ·have b':=h2.1.2 b;simp only [b,b',a,ne_eq,not_true,not_false_eq_true,if_false,if_true]
  ·rw [h2.2 b]
abbrev X3 (S:Sch) (T:List Ty) (m:Int) (e:Nat):St:=
 ⟨[aab 1 0,aab 2 1,aad 5 9 (iP T),aaa 6 m,aaa 7 e],[eJ S,[.v (.int .i64 0),.v (.int .i64 0)]],[]⟩
abbrev adp (S:Sch) (T:List Ty) (e:Nat):St:=
 ⟨[aab 1 0,aab 2 1,aad 5 9 (iP T),aaa 11 e],[eJ S,[.v (.int .i64 0),.v (.int .i64 0)]],[]⟩
abbrev X4 (S:Sch) (e:Nat):St:=
 ⟨[aab 1 0,aab 2 1,aaa 13 e],[eJ S,[.v (.int .i64 0),.v (.int .i64 0)]],[]⟩
theorem Cu {S:Sch} (hs:S.wt<=1099511627776):∀ t∈gF S,t.wt<=1099511627776:=by
 intro t ht;unfold Sch.wt at hs;rcases List.mem_append.1 ht with h | h
 ·obtain ⟨x,hx,rfl⟩:=List.mem_map.1 h;have:=hZ hx;omega
 ·simp only [List.mem_singleton] at h;subst h;omega
theorem Cv (S:Sch) (hs:S.wt<=1099511627776):EvP prog 185 [.agg (eJ S)] (lE S).d:=by
 have Zu:=Cu hs;unfold Sch.wt at hs;have hN:=ek S.types;have ik:=j5 S.types;have nh:=Cq S.ae S.order (by omega) (by omega);have adq:=Cr S (by omega);have gp:=E6 S (by omega);have adr:=fun t ht=>rC S (by omega) (by omega) _ t (aO _) (Zu t ht);have hF:=Kt S;have hlen:(gF S).length=S.types.length + 1:=by simp [gF,fv]
 have hnF:(eL S).1=0->S.types.length<=64:=fun h=>by
  unfold eL at h;split at h
  ·cases h
  ·omega
 obtain ⟨ae,order,types,⟨rh,rp⟩⟩:=S;simp only at hs hN ik nh adq hlen hnF hF;generalize hT:gF ⟨ae,order,types,.mk rh rp⟩=T at Zu gp adr hlen hF;refine eG 104 [.cell 2 44] func185 rfl ntmps185 rfl fun _ _ _ _=>?_;generalize lE ⟨ae,order,types,.mk rh rp⟩=F at hF ⊢;refine cP abj nh ?_;refine br ?_ ?_<;>intro h1
 ·have h1:(latF ae order).1≠0:=sU h1;rw [ai h1] at hF;refine ⟨_,?_,rfl⟩;rw [hF];exact ax
 have h1:(latF ae order).1=0:=sU h1;rw [ah (by simp [h1])] at hF;refine cP abk adq ?_;refine br ?_ ?_<;>intro h2
 ·have h2:(eL ⟨ae,order,types,.mk rh rp⟩).1≠0:=sU h2;rw [ai h2] at hF;refine ⟨_,?_,rfl⟩;rw [hF];exact ax
 have h2:(eL ⟨ae,order,types,.mk rh rp⟩).1=0:=sU h2;rw [ah (by simp [h2])] at hF;have Tv:=hnF h2;refine cP aax gp ?_
 refine aT (fun j st=>∃ (e:Nat) (m:Int),st=X3 ⟨ae,order,types,.mk rh rp⟩ T m e/\e<=types.length + 1/\0<=m/\m<=512/\eaA T 0=eaA (T.drop e) m/\j=types.length + 1 - e) (types.length + 1)
  (X3 ⟨ae,order,types,.mk rh rp⟩ T 0 0) (wkM wB) ⟨0,0,rfl,by omega,by omega,by omega,rfl,by omega⟩ ?_
 rintro j st ⟨e,m,rfl,he,kg,gy,aK,rfl⟩;refine br ?_ ?_<;>intro hL
 ·have aq:e < types.length + 1:=by have:=hL;simp [er,hlen] at this;omega
  obtain ⟨t,ht⟩:∃ t,T[e]? = some t:=⟨_,gE (by omega)⟩;have Pv:=Zu t (mG ht);have aR:eaA (T.drop e) m=if (cg t m).1.1≠0 then cg t m else eaA (T.drop (e + 1)) (cg t m).2:=by rw [drop_cons ht,eaA]
  have Tw:cg t m=if (wrong t 1 0).1.1≠0 then ((wrong t 1 0).1,m) else if 512 < m + t.cnt then ((8,t.h.aG),m + t.cnt) else ((0,0),m + t.cnt):=rfl
  have L8:=Ct t 1 0 Pv (by omega) (by omega) (by omega) (by omega);have bH:=k0 _ t (aO _) Pv;have pT:=t.e9;obtain ⟨u,us⟩:=t;refine iX (kG ht) ?_;refine cP Ow L8 ?_;refine br ?_ ?_<;>intro g1
  ·have g1:(wrong (.mk u us) 1 0).1.1≠0:=sU g1;rw [ai g1] at Tw;rw [aK,aR,Tw,ai g1,ai g1] at hF;refine ⟨_,?_,rfl⟩;rw [hF];exact ax
  have g1:(wrong (.mk u us) 1 0).1.1=0:=sU g1;rw [ah (by simp [g1])] at Tw;refine iX (kG ht) ?_;refine cP JK bH ?_;have tZ:IntKind.i64.wrap (m + ((Ty.mk u us).cnt:Int))=m + (Ty.mk u us).cnt:=wrap64 (by omega) (by omega);refine br ?_ ?_<;>intro g2
  ·have g2:512 < IntKind.i64.wrap (m + ((Ty.mk u us).cnt:Int)):=of_decide_eq_true g2;rw [tZ] at g2;rw [ai g2] at Tw;rw [aK,aR,Tw,ai (by simp),ai (by simp)] at hF;refine iX (kG ht) ?_;refine ⟨_,?_,rfl⟩;rw [hF];exact ax
  ·have g2:¬ 512 < IntKind.i64.wrap (m + ((Ty.mk u us).cnt:Int)):=of_decide_eq_false g2;rw [tZ] at g2;rw [ah g2] at Tw;rw [Tw,ah (by simp)] at aR;exact ⟨X3 ⟨ae,order,types,.mk rh rp⟩ T (m + (Ty.mk u us).cnt) (e + 1),(wkM (gw tZ (nxt aq (by omega)))),types.length + 1 - (e + 1),by omega,e + 1,_,rfl,by omega,by omega,by omega,by rw [aK,aR],rfl⟩
 have aS:e=types.length + 1:=by have:=hL;simp [er,hlen] at this;omega
 rw [aK,List.drop_of_length_le (by omega),show eaA [] m=((0,0),m) from rfl,ah (by simp)] at hF
 refine aT (fun j st=>∃ (e:Nat),st=adp ⟨ae,order,types,.mk rh rp⟩ T e/\e<=types.length + 1/\eaK (lg ⟨ae,order,types,.mk rh rp⟩) T=eaK (lg ⟨ae,order,types,.mk rh rp⟩) (T.drop e)/\j=types.length + 1 - e) (types.length + 1)
  (adp ⟨ae,order,types,.mk rh rp⟩ T 0) (wkM wB) ⟨0,rfl,by omega,rfl,by omega⟩ ?_
 clear aK hL aS he e;rintro j st ⟨e,rfl,he,aK,rfl⟩;refine br ?_ ?_<;>intro hL
 ·have aq:e < types.length + 1:=by have:=hL;simp [er,hlen] at this;omega
  obtain ⟨t,ht⟩:∃ t,T[e]? = some t:=⟨_,gE (by omega)⟩;have aR:eaK (lg ⟨ae,order,types,.mk rh rp⟩) (T.drop e)=if (lg ⟨ae,order,types,.mk rh rp⟩ t).1≠0 then lg ⟨ae,order,types,.mk rh rp⟩ t else eaK (lg ⟨ae,order,types,.mk rh rp⟩) (T.drop (e + 1)):=by rw [drop_cons ht,eaK]
  have hu:=adr t (mG ht);obtain ⟨u,us⟩:=t;apply oN (fun _=>false) 5 6 [0,1,2,3,4,5,6,7] [0,1,2,3,4,6,5,7] 2 2 mo (by decide +kernel)
  ·refine iX (kG ht) ?_;refine cD Ox hu ?_;refine (?_:@Eq St _ _);exact rfl
  ·refine iX (kG ht) ?_;refine cD Ox hu ?_;refine (⟨rfl,rfl,?_⟩:_/\_/\_)
   repeat' (first | exact trivial | refine ⟨rfl,?_⟩)
  ·rfl
  refine br ?_ ?_<;>intro g
  ·have g:(lg ⟨ae,order,types,.mk rh rp⟩ (.mk u us)).1≠0:=sU g;rw [aK,aR,ai g,ai g] at hF;refine ⟨_,?_,rfl⟩;rw [hF];exact ax
  ·have g:(lg ⟨ae,order,types,.mk rh rp⟩ (.mk u us)).1=0:=sU g;rw [ah (by simp [g])] at aR;exact rE ⟨_,by omega,e + 1,rfl,by omega,by rw [aK,aR],rfl⟩ (wkM (wB1 (nxt aq (by omega))))
 have aS:e=types.length + 1:=by have:=hL;simp [er,hlen] at this;omega
 have N1:(eaK (lg ⟨ae,order,types,.mk rh rp⟩) T).1=0:=by rw [aK,List.drop_of_length_le (by omega)];all_goals rfl
 rw [aK,List.drop_of_length_le (by omega),show eaK (lg ⟨ae,order,types,.mk rh rp⟩) []=(0,0) from rfl,ah (by simp)] at hF
 have VL:∀ x∈types,uU ⟨ae,order,types,.mk rh rp⟩ x.2=true:=fun x hx=>Cm (H6 N1 x.2 (by
  rw [<- hT]
  exact List.mem_append_left _ (List.mem_map_of_mem hx)))
 have he99:=xR ⟨ae,order,types,.mk rh rp⟩ Tv VL
 have hlo:F=match bX (fun i=>(endI ⟨ae,order,types,.mk rh rp⟩ (types.length + 1) i).isNone) types.length with
  | none=>(0,0)
  | some i=>(11,XF (uT ⟨ae,order,types,.mk rh rp⟩) i):=hF
 refine aT (fun j st=>∃ e:Nat,st=X4 ⟨ae,order,types,.mk rh rp⟩ e/\e<=types.length/\(∀ i,i < e->(endI ⟨ae,order,types,.mk rh rp⟩ (types.length + 1) i).isNone=false)/\j=types.length - e) types.length
  (X4 ⟨ae,order,types,.mk rh rp⟩ 0) (wkM wB) ⟨0,rfl,by omega,fun _ h=>by omega,by omega⟩ ?_
 clear aK hL aS he e;rintro j st ⟨e,rfl,he,eW,rfl⟩;refine br ?_ ?_<;>intro hL
 ·have aq:e < types.length:=by have:=hL;simp [hN] at this;exact this
  obtain ⟨x,hx⟩:=gX aq;have XK:(uT ⟨ae,order,types,.mk rh rp⟩)[e]? = some x.1:=Kq hx;have h9:=he99 e aq;obtain ⟨xw,⟨xh,xp⟩⟩:=x;refine cP Oh h9 ?_;refine br ?_ ?_<;>intro g
  ·have g:endI ⟨ae,order,types,.mk rh rp⟩ (types.length + 1) e=none:=gj.1 g;have Dc:=cR (p:=fun i=>(endI ⟨ae,order,types,.mk rh rp⟩ (types.length + 1) i).isNone) aq (by simp only [g];rfl) eW;rw [Dc] at hlo;simp only [lf XK] at hlo;refine iX (dNms_get hx) ?_;refine ⟨_,?_,rfl⟩;rw [hlo];exact ax
  ·have g:¬ endI ⟨ae,order,types,.mk rh rp⟩ (types.length + 1) e=none:=fun hn=>by have h3:=gj.2 hn;rw [g] at h3;cases h3
   refine ⟨X4 ⟨ae,order,types,.mk rh rp⟩ (e + 1),(wkM (wB1 (nxt aq (by omega)))),types.length - (e + 1),by omega,e + 1,rfl,by omega,fun i hi=>?_,rfl⟩;rcases iM hi with hi | rfl
   ·exact eW i hi
   ·exact Option.isNone_eq_false_iff.2 (Option.isSome_iff_ne_none.2 g)
 ·have aS:e=types.length:=sW hN hL;rw [aS] at eW;rw [dn eW] at hlo;refine ⟨_,?_,rfl⟩;rw [hlo];exact ax
theorem bi {l:List Ed} {i:Nat} {e:Ed} (h:l[i]? = some e):(fU l)[i]? = some (uV e):=by simp [fU,h]
def Tx (lev:List Wd->Int) (s:Sch) (t:Ty) (k:Nat):Nd:=⟨t.h.ag,t.h.aG,t.h.lo,t.h.hi,t.h.most,aA t.h.af,edsP lev s t.ps (k + 1)⟩
mutual
theorem vt (lev:List Wd->Int) (s:Sch):∀ (t:Ty) (k:Nat),ndsT lev s t k=(flatT t).zipIdx.map fun x=>Tx lev s x.1 (k + x.2)
 | .mk h ps,k=>by
  have ih:=Cw lev s ps (k + 1);rw [ndsT,flatT];split
  ·rfl
  ·rw [ih,List.zipIdx_cons,List.map_cons];rw [List.zipIdx_succ,List.map_map];refine congr (congrArg List.cons rfl) (List.map_congr_left fun x _=>?_);simp only [Function.comp];congr 1;omega
theorem Cw (lev:List Wd->Int) (s:Sch):∀ (ps:Pts) (k:Nat),xF lev s ps k=(flatP ps).zipIdx.map fun x=>Tx lev s x.1 (k + x.2)
 | .nil,k=>rfl
 | .cons p u r,k=>by
  rw [xF,flatP,List.zipIdx_append,List.map_append]
  cases hb:p.bare with
  | true=>
   simp only [if_true,List.zipIdx_nil,List.map_nil,List.nil_append,List.length_nil,Nat.add_zero];exact Cw lev s r k
  | false=>
   simp only [Bool.false_eq_true,if_false];rw [vt lev s u k,Cw lev s r (k + u.nn),j8];refine congrArg _ ?_;rw [List.zipIdx_eq_map_add (l:=flatP r) (i:=0 + u.nn)];rw [List.map_map];refine List.map_congr_left fun x _=>?_;simp only [Function.comp];congr 1;omega
end
theorem Cx {X:Lx} {L:List ByteArray}:∀ {ps:Pts},(knP X L ps).1=0->∀ {p:Ph} {u:Ty},(p,u)∈ps.toList->p.bare=false->(knT X L u).1=0
 | .nil,_,p,u,h,_=>by cases h
 | .cons q v r,hk,p,u,h,hb=>by
  rcases bp h with h | h
  ·cases h;exact (te hk).1 hb
  ·exact Cx (te hk).2 h hb
theorem tv {w:Int} (h:decide (w=0)=true):l5 w=3:=by unfold l5;rw [ai (of_decide_eq_true h)]
theorem tw {w:Int} (h:decide (w=0)=false):l5 w=w:=by unfold l5;rw [ah (of_decide_eq_false h)]
theorem gL {L:List Ed} {lev:List Wd->Int} {p:Ph} {to w z:Int} (hw:l5 p.wide=w) (ht:to=z):fU L ++ [[.v (.string p.name.s),.v (.bool p.bare),.v (.int .i64 p.name.a),.v (.int .i64 z),.v (.int .i64 (lev p.label)),.v (.int .i64 w),.v (.int .i64 p.ck),.v (.int .i64 p.cn),.v (.int .i64 (lev p.cl)),.v (.int .i64 p.ca)]]=fU (L ++ [xE lev p to]):=by
 subst hw ht;simp [fU,uV,xE]
abbrev ads (S:Sch) (f:Nat->Nat->Bool) (t:Ty) (me:Nat) (q e:Nat):St:=
 ⟨[aad 1 1 (dj (dW S.ae.length f)),aaa 3 me,aab 4 0,aab 6 1,aab 8 2,aab 9 3,aaa 10 e],
  [eJ S,eE t,[.v (.int .i64 0),.v (.int .i64 0),.v (.int .i64 0),.v (.int .i64 0),.v (.int .i64 0),.v (.slice none 0 0),.v (.slice none 0 0)],
  [.v (.int .i64 t.h.ag),.v (.int .i64 t.h.aG),.v (.int .i64 t.h.lo),.v (.int .i64 t.h.hi),.v (.int .i64 t.h.most),.sl 1 (fh (aA (t.h.af.take e))) (some 0),.v (.slice none 0 0)]],[⟨q,9,1,none⟩]⟩
abbrev E8 (S:Sch) (f:Nat->Nat->Bool) (t:Ty) (q1 q2:Nat) (L:List Ed) (nx e:Nat):St:=
 ⟨[aad 1 1 (dj (dW S.ae.length f)),aab 4 0,aab 6 1,aab 8 2,aab 9 3,aaa 11 nx,aaa 12 e],
  [eJ S,eE t,[.v (.int .i64 0),.v (.int .i64 0),.v (.int .i64 0),.v (.int .i64 0),.v (.int .i64 0),.v (.slice none 0 0),.v (.slice none 0 0)],
  [.v (.int .i64 t.h.ag),.v (.int .i64 t.h.aG),.v (.int .i64 t.h.lo),.v (.int .i64 t.h.hi),.v (.int .i64 t.h.most),.sl 1 (fh (aA t.h.af)) (some 0),.sl 10 (fU L) (some 1)]],[⟨q1,9,1,none⟩,⟨q2,144,10,none⟩]⟩
set_option maxHeartbeats 2000000 in
theorem H7 (S:Sch) (hS:S.wt<=1099511627776) (hl:(latF S.ae S.order).1=0) (Tv:S.types.length<=64) (hr:∀ x∈S.types,uU S x.2=true) (hlo:∀ i,i < S.types.length->∃ k,endI S (S.types.length + 1) i=some k)
  (t:Ty) (ht:t.wt<=1099511627776) (hk:(lg S t).1=0) (me:Nat) (hme:me<=1099511627776) :
  EvP prog 56 [.agg (eJ S),.sl 1 (dj (dW S.ae.length (fj S.ae.length (dF (aA S.ae) S.order)))) none,.agg (eE t),.v (.int .i64 me)] (.agg (jt (Tx (ju S) S t me))):=by
 obtain ⟨hL,PX⟩:=l7 hl;have kN:=hL.pos;unfold Sch.wt at hS;have HP:=fun l (h:wdsWt l<=1099511627776)=>Mh S.ae (fj S.ae.length (dF (aA S.ae) S.order)) kN PX (by omega) l h;have hls:∀ l,ju S l=Cg (fj S.ae.length (dF (aA S.ae) S.order)) (aA S.ae) l:=fun _=>rfl;have xT:=fun s i k=>xS S Tv (by omega) hr s i k;have fi:=kD S;generalize fj S.ae.length (dF (aA S.ae) S.order)=f at HP hls ⊢;obtain ⟨h,ps⟩:=t;have XP:=(nd hk).2;simp only [Ty.wt,Hd.wt] at ht;have iJ:=ps.gf;have hc:=ps.e9;have pf:=ps.gQ;have hwl:=bu h.af;generalize Zm:ju S=lev at hls ⊢;obtain ⟨ae,order,types,⟨rh,rp⟩⟩:=S;simp only at hS Tv hr hlo HP hls xT fi XP;refine eG 131 [.cell 8 132] func56 rfl ntmps56 rfl fun _ _ _ _=>?_;refine lJ (fun e=>ads ⟨ae,order,types,.mk rh rp⟩ f (.mk h ps) me e e) h.af.length (dT 4 ⟨0,9,1,none⟩ rfl rfl rfl qT rfl rfl kr) ?_;intro e he;refine br ?_ ?_<;>intro hL
 ·have aq:e < h.af.length:=by have:=hL;simp [aC] at this;exact this
  obtain ⟨w,hw⟩:=gX aq;have fB:=j4 hw;have eP:(fh (aA (h.af.take e))).length=e:=by simp [fh,aA];omega
  refine dS ?_;refine iX (aV hw) ?_;refine ⟨eP,⟨by simp only [Ty.h];rw [eP];simp [maxLen];omega,by simp only [Ty.h];rw [eP];simp;omega⟩,?_⟩;exact rE ⟨_,by omega,e + 1,rfl,by omega,rfl⟩ (QT 4 (nQ (nxt aq (by omega)) fB) (gw (nxt aq (by omega)) fB))
 have aS:e=h.af.length:=by have:=hL;simp [aC] at this;omega
 have adt:IntKind.i64.wrap ((me:Int) + 1)=((me + 1:Nat):Int):=by rw [wrap64 (by omega) (by omega)];omega
 have GU:fh (aA (h.af.take e))=fh (aA h.af):=by rw [aS,List.take_length]
 refine aT (fun j st=>∃ (e q nx:Nat) (L:List Ed),st=E8 ⟨ae,order,types,.mk rh rp⟩ f (.mk h ps) h.af.length q L nx e/\q=e/\L.length=e/\e<=ps.len/\nx + (ps.drop e).nn=me + 1 + ps.nn/\edsP lev ⟨ae,order,types,.mk rh rp⟩ ps (me + 1)=L ++ edsP lev ⟨ae,order,types,.mk rh rp⟩ (ps.drop e) nx/\j=ps.len - e) ps.len
  (E8 ⟨ae,order,types,.mk rh rp⟩ f (.mk h ps) e 0 [] (me + 1) 0) (dT 4 ⟨0,144,10,none⟩ rfl rfl rfl (nQ adt GU) rfl rfl (gw adt GU)) ⟨0,0,me + 1,[],by rw [aS],rfl,rfl,by omega,rfl,rfl,by omega⟩ ?_
 clear he hL aS GU e;rintro j st ⟨e,q,nx,L,rfl,hq,Zr,he,GD,aK,rfl⟩;refine br ?_ ?_<;>intro hL
 ·have aq:e < ps.len:=by simpa [aJ] using hL
  obtain ⟨p,u,hx⟩:=Pts.eZ aq;have D6:=Pts.gN (mG hx);have hw1:p.name.wt + wdsWt p.label + wdsWt p.cl<=p.wt:=by simp only [Ph.wt];omega
  rw [Pts.drop_cons hx,edsP] at aK;rw [Pts.drop_cons hx,Pts.nn] at GD;have u9:=HP p.label (by omega);have RU:=HP p.cl (by omega);unfold LZ at u9 RU;rw [<- hls] at u9 RU;obtain ⟨uh,us⟩:=u;refine iX (bW hx) ?_;refine br ?_ ?_<;>intro hw
  all_goals
   refine cP UL u9 ?_;refine cP UL RU ?_;have eP:(fU L).length=q:=by rw [cm,Zr,hq]
   refine br ?_ ?_<;>intro hB
   ·have hB:p.bare=true:=hB;have kP:vm ⟨ae,order,types,.mk rh rp⟩ p (.mk uh us) nx = -1:=by simp [vm,hB]
    rw [hB] at aK GD;refine ⟨eP,⟨by rw [eP];simp [maxLen];omega,by rw [eP];simp;omega⟩,?_⟩;exact ⟨E8 ⟨ae,order,types,.mk rh rp⟩ f (.mk h ps) h.af.length (q + 1) (L ++ [xE lev p (vm ⟨ae,order,types,.mk rh rp⟩ p (.mk uh us) nx)]) nx (e + 1),(QT 4 (by repeat' (first | exact rfl | exact aw rfl | exact ay (nxt aq (by omega)) | exact cI (gL (tv hw) kP) rfl | exact cI (gL (tw hw) kP) rfl | refine ⟨_,_,rfl,?_,?_⟩)) (by repeat' (first | exact trivial | exact aw rfl | exact ay (nxt aq (by omega)) | exact cI (gL (tv hw) kP) rfl | exact cI (gL (tw hw) kP) rfl | refine ⟨⟨_,rfl,?_⟩,?_⟩))),ps.len - (e + 1),by omega,e + 1,q + 1,nx,_,rfl,by omega,by simp [Zr],by omega,by rw [<- GD];simp,by rw [aK];simp,rfl⟩
   ·have hB:p.bare=false:=hB;have iK:=Cx XP (mG hx) hB;refine br ?_ ?_<;>intro h9
    ·have h9:uh.ag=9:=sU h9;obtain ⟨i,hi⟩:=Option.ne_none_iff_exists'.1 ((nd iK).1 h9);obtain ⟨k,hk⟩:=hlo i (by have:=(dy hi).1;omega);have kP:vm ⟨ae,order,types,.mk rh rp⟩ p (.mk uh us) nx=(firstA ⟨ae,order,types,.mk rh rp⟩ k:Int):=by simp [vm,hB,oi,Ty.h,h9,XO,hi,namedN,hk]
     refine cP aay (xT uh.name.s i k hi hk) ?_;refine ⟨eP,⟨by rw [eP];simp [maxLen];omega,by rw [eP];simp;omega⟩,?_⟩;exact ⟨E8 ⟨ae,order,types,.mk rh rp⟩ f (.mk h ps) h.af.length (q + 1) (L ++ [xE lev p (vm ⟨ae,order,types,.mk rh rp⟩ p (.mk uh us) nx)]) nx (e + 1),(QT 4 (by repeat' (first | exact rfl | exact aw rfl | exact ay (nxt aq (by omega)) | exact cI (gL (tv hw) kP) rfl | exact cI (gL (tw hw) kP) rfl | refine ⟨_,_,rfl,?_,?_⟩)) (by repeat' (first | exact trivial | exact aw rfl | exact ay (nxt aq (by omega)) | exact cI (gL (tv hw) kP) rfl | exact cI (gL (tw hw) kP) rfl | refine ⟨⟨_,rfl,?_⟩,?_⟩))),ps.len - (e + 1),by omega,e + 1,q + 1,nx,_,rfl,by omega,by simp [Zr],by omega,by rw [<- GD];simp [hB,Ty.nn,h9],by rw [aK];simp [hB,Ty.nn,h9],rfl⟩
    ·have h9:¬ uh.ag=9:=sU h9;have kP:vm ⟨ae,order,types,.mk rh rp⟩ p (.mk uh us) nx=(nx:Int):=by simp [vm,hB,oi,Ty.h,h9]
     have hnn:=(Ty.mk uh us).gQ;have RT:=(Ty.mk uh us).e9
     have tZ:IntKind.i64.wrap ((nx:Int) + (iP (flatT (.mk uh us))).length)=((nx + (Ty.mk uh us).nn:Nat):Int):=by
      rw [er,j8,wrap64 (by omega) (by omega)];omega
     refine cP SE (o0 _ (.mk uh us) (aO _) (by omega)) ?_;refine ⟨eP,⟨by rw [eP];simp [maxLen];omega,by rw [eP];simp;omega⟩,?_⟩;exact ⟨E8 ⟨ae,order,types,.mk rh rp⟩ f (.mk h ps) h.af.length (q + 1) (L ++ [xE lev p (vm ⟨ae,order,types,.mk rh rp⟩ p (.mk uh us) nx)]) (nx + (Ty.mk uh us).nn) (e + 1),(QT 4 (by repeat' (first | exact rfl | exact aw rfl | exact ay (nxt aq (by omega)) | exact ay tZ | exact cI (gL (tv hw) kP) rfl | exact cI (gL (tw hw) kP) rfl | refine ⟨_,_,rfl,?_,?_⟩)) (by repeat' (first | exact trivial | exact aw rfl | exact ay (nxt aq (by omega)) | exact ay tZ | exact cI (gL (tv hw) kP) rfl | exact cI (gL (tw hw) kP) rfl | refine ⟨⟨_,rfl,?_⟩,?_⟩))),ps.len - (e + 1),by omega,e + 1,q + 1,(nx + (Ty.mk uh us).nn),_,rfl,by omega,by simp [Zr],by omega,by rw [<- GD];simp [hB];omega,by rw [aK];simp [hB],rfl⟩
 have aS:e=ps.len:=by simp [aJ] at hL;omega
 rw [aS,Pts.dC,edsP,List.append_nil] at aK;unfold Tx;simp only [Ty.h,Ty.ps];rw [aK];exact ⟨_,ax,rfl⟩
def ndsA (lev:List Wd->Int) (s:Sch):List Ty->Nat->List Nd
 | [],_=>[]
 | t :: r,k=>ndsT lev s t k ++ ndsA lev s r (k + t.nn)
def rD (l:List Ty):Nat:=(l.map Ty.nn).sum
theorem oq (t:Ty) (l:List Ty):rD (t :: l)=t.nn + rD l:=by simp [rD]
theorem vu (a b:List Ty):rD (a ++ b)=rD a + rD b:=by simp [rD]
theorem l9 (lev:List Wd->Int) (s:Sch):∀ (l:List Ty) (k:Nat),(ndsA lev s l k).length=rD l
 | [],_=>rfl
 | t :: r,k=>by simp only [ndsA,List.length_append,kE,l9 lev s r,oq]
theorem xU (lev:List Wd->Int) (s:Sch):∀ (a b:List Ty) (k:Nat),ndsA lev s (a ++ b) k=ndsA lev s a k ++ ndsA lev s b (k + rD a)
 | [],b,k=>by simp [ndsA,rD]
 | t :: r,b,k=>by rw [List.cons_append,ndsA,ndsA,xU lev s r b,List.append_assoc,oq,Nat.add_assoc]
theorem xV (lev:List Wd->Int) (s:Sch):∀ (l:List (Wd × Ty)) (k:Nat),ndsAll lev s l k=ndsA lev s (l.map fun x=>x.2) k
 | [],_=>rfl
 | x :: r,k=>by rw [ndsAll,List.map_cons,ndsA,xV lev s r]
theorem xW (s:Sch):(rz s).length=rD (fv s):=by rw [rz,xV,l9];all_goals rfl
theorem j9 (s:Sch):aM s=ndsA (ju s) s (gF s) 0:=by
 unfold aM gF;rw [xU,xW,rz,xV,ndsA,ndsA,List.append_nil,Nat.zero_add];rfl
theorem Mi {lev:List Wd->Int} {s:Sch} {l:List Ty} {e:Nat} {t:Ty} (h:l[e]? = some t):ndsA lev s (l.take (e + 1)) 0=ndsA lev s (l.take e) 0 ++ ndsT lev s t (ndsA lev s (l.take e) 0).length:=by
 rw [List.take_add_one,h,xU,l9,Nat.zero_add];simp [ndsA]
theorem acf (l:List Ty):∀ e,rD (l.take e)<=rD l:=by
 intro e;have:=vu (l.take e) (l.drop e);rw [List.take_append_drop] at this;omega
theorem H8 (s:Sch):rD (gF s)<=s.wt:=by
 have key:∀ l:List (Wd × Ty),rD (l.map fun x=>x.2)<=nmsWt l:=by
  intro l
  induction l with
  | nil=>exact aO _
  | cons x r ih=>
   have:=x.2.gQ;have:=x.2.e9;simp only [List.map_cons,oq,nmsWt];omega
 have h1:=key s.types;have h2:=s.root.gQ;have h3:=s.root.e9;unfold gF;rw [vu,oq];unfold Sch.wt fv;simp only [rD,List.map_nil,List.sum_nil] at h1 ⊢;omega
mutual
theorem xX {X:Lx} {L:List ByteArray}:∀ (t:Ty),(knT X L t).1=0->∀ u∈flatT t,(knT X L u).1=0
 | .mk h ps,hk,u,hu=>by
  rw [flatT] at hu;split at hu
  ·cases hu
  ·rcases bp hu with rfl | hu
   ·exact hk
   ·exact Fa ps (nd hk).2 u hu
theorem Fa {X:Lx} {L:List ByteArray}:∀ (ps:Pts),(knP X L ps).1=0->∀ u∈flatP ps,(knT X L u).1=0
 | .nil,_,u,hu=>by cases hu
 | .cons p v r,hk,u,hu=>by
  rw [flatP] at hu;rcases List.mem_append.1 hu with hu | hu
  ·cases hb:p.bare with
   | true=>rw [hb] at hu;cases hu
   | false=>rw [hb] at hu;exact xX v ((te hk).1 hb) u hu
  ·exact Fa r (te hk).2 u hu
end
mutual
theorem xY:∀ (t:Ty),∀ u∈flatT t,u.wt<=t.wt
 | .mk h ps,u,hu=>by
  rw [flatT] at hu;split at hu
  ·cases hu
  ·rcases bp hu with rfl | hu
   ·exact aO _
   ·have:=Fb ps u hu;simp only [Ty.wt];omega
theorem Fb:∀ (ps:Pts),∀ u∈flatP ps,u.wt<=ps.wt
 | .nil,u,hu=>by cases hu
 | .cons p v r,u,hu=>by
  rw [flatP] at hu;simp only [Pts.wt];rcases List.mem_append.1 hu with hu | hu
  ·split at hu
   ·cases hu
   ·have:=xY v u hu;omega
  ·have:=Fb r u hu;omega
end
theorem Qh {lev:List Wd->Int} {s:Sch} {t u:Ty} {n k:Nat} (h:(flatT t)[k]? = some u):(ndsT lev s t n)[k]? = some (Tx lev s u (n + k)):=by
 rw [vt,List.getElem?_map,List.getElem?_zipIdx,h];simp
structure xZ (S:Sch):Prop where
 lat:(latF S.ae S.order).1=0
 l64:S.types.length<=64
 kn:∀ t∈gF S,(lg S t).1=0
 ends:∀ i,i < S.types.length->∃ k,endI S (S.types.length + 1) i=some k
 wr:∀ t∈gF S,(wrong t 1 0).1.1=0
theorem Qi:∀ {l:List Ty} {m:Int},(eaA l m).1.1=0->∀ t∈l,(wrong t 1 0).1.1=0
 | [],_,_,t,ht=>by cases ht
 | u :: r,m,h,t,ht=>by
  rw [eaA] at h;split at h
  ·rename_i h1;exact (h1 h).elim
  ·rename_i h1;rcases bp ht with rfl | ht
   ·exact (oZ (sU h1)).2.2.1
   ·exact Qi h t ht
theorem rF {S:Sch} (h:(lE S).1=0):xZ S:=by
 rw [Kt] at h;split at h
 ·rename_i h1;exact (h1 h).elim
 rename_i h1;split at h
 ·rename_i h2;exact (h2 h).elim
 rename_i h2;split at h
 ·rename_i h3;exact (h3 h).elim
 rename_i h3;split at h
 ·rename_i h4;exact (h4 h).elim
 rename_i h4
 exact {
  lat:=sU h1
  l64:=by
   have h2:(eL S).1=0:=sU h2;unfold eL at h2;split at h2
   ·cases h2
   ·omega
  kn:=H6 (sU h4)
  ends:=ES h
  wr:=Qi (sU h3) }
theorem xZ.refs {S:Sch} (h:xZ S):∀ x∈S.types,uU S x.2=true:=fun x hx=>Cm (h.kn x.2 (List.mem_append_left _ (List.mem_map_of_mem hx)))
abbrev wC (S:Sch) (f:Nat->Nat->Bool) (N:DV) (z:Int):List DV:=[.sl 2 (bJ S.ae) none,.sl 1 (dj (dW S.ae.length f)) none,N,.v (.int .i64 z)]
abbrev Qj (S:Sch) (T:List Ty) (f:Nat->Nat->Bool) (L:List Nd) (z:Int) (e q:Nat):St:=
 ⟨[aab 1 0,aab 2 1,aab 3 2,aad 4 9 (iP T),aaa 5 e],[eJ S,[.v (.slice none 0 0),.v (.slice none 0 0),.v (.slice none 0 0),.v (.int .i64 0)],wC S f (.sl 7 (dD L) (some 0)) z],[⟨q,132,7,none⟩]⟩
abbrev VU (S:Sch) (T:List Ty) (f:Nat->Nat->Bool) (L:List Nd) (z:Int) (e:Nat) (F:List Ty) (k q:Nat):St:=
 ⟨[aab 1 0,aab 2 1,aab 3 2,aad 4 9 (iP T),aaa 5 e,aad 6 9 (iP F),aaa 7 k],[eJ S,[.v (.slice none 0 0),.v (.slice none 0 0),.v (.slice none 0 0),.v (.int .i64 0)],wC S f (.sl 7 (dD L) (some 0)) z],[⟨q,132,7,none⟩]⟩
theorem rG (S:Sch) (hS:S.wt<=1099511627776) (hR:(lE S).1=0) :
  EvP prog 12 [.agg (eJ S)] (.agg (wC S (fj S.ae.length (dF (aA S.ae) S.order)) (.sl 7 (dD (aM S)) none) (dV S))):=by
 have RW:=rF hR;obtain ⟨_,PX⟩:=l7 RW.lat;have Zu:=Cu hS;have Xk:=H8 S;have hN0:=(qg RW.lat).2.2.1;have hrr:=RW.refs;have ep:=fun t ht hk me hme=>H7 S hS RW.lat RW.l64 hrr RW.ends t ht hk me hme;have hwS:=hS;unfold Sch.wt at hS;have Tz:=EV S.ae S.order PX (by omega) (by omega) hN0;have gp:=E6 S (by have:=RW.l64;omega);have hlen:(gF S).length=S.types.length + 1:=by simp [gF,fv]
 have Tv:=RW.l64;have xT:=fun s i k=>xS S Tv (by omega) hrr s i k;have N1:=RW.kn;have x5:=RW.ends;have fi:=kD S
 have gC:(gF S)[S.types.length]? = some S.root:=by
  unfold gF;rw [List.getElem?_append_right (by simp [fv])];simp [fv]
 have Qk:=xW S
 have je:(gF S).take S.types.length=fv S:=by
  unfold gF;rw [List.take_append_of_le_length (by simp [fv])];exact List.take_of_length_le (by simp [fv])
 rw [j9];unfold dV;generalize ju S=lev at ep ⊢;generalize fj S.ae.length (dF (aA S.ae) S.order)=f at ep Tz ⊢;obtain ⟨ae,order,types,⟨rh,rp⟩⟩:=S;simp only at hS Tz hlen Tv x5 fi gC je;generalize hT:gF ⟨ae,order,types,.mk rh rp⟩=T at Zu Xk gp hlen N1 gC je ⊢;refine eG 67 [.cell 2 50] func12 rfl ntmps12 rfl fun _ _ _ _=>?_;apply oN (fun _=>false) 6 8 [0,1,2,3,4,5,6,7,8,9] [0,1,2,3,4,5,8,6,7,9] 2 2 mo (by decide +kernel)
 ·refine cD W9 Tz ?_;refine (?_:@Eq St _ _);exact rfl
 ·refine cD W9 Tz ?_;refine (⟨rfl,rfl,?_⟩:_/\_/\_)
  repeat' (first | exact trivial | refine ⟨rfl,?_⟩)
 ·rfl
 refine cP aax gp ?_
 have hLN:∀ e,(ndsA lev ⟨ae,order,types,.mk rh rp⟩ (T.take e) 0).length<=1099511627776:=fun e=>by
  rw [l9];have:=acf T e;omega
 refine aT (fun j st=>∃ (e q:Nat) (z:Int),st=Qj ⟨ae,order,types,.mk rh rp⟩ T f (ndsA lev ⟨ae,order,types,.mk rh rp⟩ (T.take e) 0) z e q/\q=(ndsA lev ⟨ae,order,types,.mk rh rp⟩ (T.take e) 0).length/\e<=types.length + 1/\(e=types.length + 1->z=(rD (T.take types.length):Nat))/\j=types.length + 1 - e) (types.length + 1)
  (Qj ⟨ae,order,types,.mk rh rp⟩ T f [] 0 0 0) (dT 3 ⟨0,132,7,none⟩ rfl rfl rfl qT rfl rfl kr) ⟨0,0,0,rfl,rfl,by omega,fun h=>by omega,by omega⟩ ?_
 rintro j st ⟨e,q,z,rfl,hq,he,hz,rfl⟩;refine br ?_ ?_<;>intro hL
 ·have aq:e < types.length + 1:=by have:=hL;simp [er,hlen] at this;omega
  obtain ⟨t,ht⟩:∃ t,T[e]? = some t:=⟨_,gE (by omega)⟩;have Pv:=Zu t (mG ht);have htk':=N1 t (mG ht);have NT:=o0 _ t (aO _) Pv;have hfk:=xX t htk';have hfw:=xY t;have Zv:=Mi (lev:=lev) (s:=⟨ae,order,types,.mk rh rp⟩) ht;have hfln:=j8 t;have ik:=kE lev ⟨ae,order,types,.mk rh rp⟩ t (ndsA lev ⟨ae,order,types,.mk rh rp⟩ (T.take e) 0).length;have jV:=fun k u (h:(flatT t)[k]? = some u)=>Qh (lev:=lev) (s:=⟨ae,order,types,.mk rh rp⟩) (n:=(ndsA lev ⟨ae,order,types,.mk rh rp⟩ (T.take e) 0).length) h;have hLe:=hLN e;have X5:=hLN (e + 1);have hLs:=l9 lev ⟨ae,order,types,.mk rh rp⟩ (T.take e) 0;rw [Zv,List.length_append] at X5;obtain ⟨u,us⟩:=t;generalize ndsA lev ⟨ae,order,types,.mk rh rp⟩ (T.take e) 0=L at hq Zv ik jV hLe X5 hLs ⊢;generalize ndsT lev ⟨ae,order,types,.mk rh rp⟩ (.mk u us) L.length=M at Zv ik jV X5;generalize flatT (.mk u us)=F at NT hfk hfw hfln jV;have bz:((dD L).length:Int)=(L.length:Int):=by rw [l8]
  refine iX (kG ht) ?_;refine cP SE NT ?_
  refine aT (fun j st=>∃ (k q:Nat),st=VU ⟨ae,order,types,.mk rh rp⟩ T f (L ++ M.take k) (L.length:Int) e F k q/\q=(L ++ M.take k).length/\k<=F.length/\j=F.length - k) F.length
   (VU ⟨ae,order,types,.mk rh rp⟩ T f (L ++ []) (L.length:Int) e F 0 q) (QT 3 (by repeat' (first | exact rfl | exact aw rfl | exact ay bz | exact cI (by rw [List.append_nil]) rfl | refine ⟨_,_,rfl,?_,?_⟩)) (by repeat' (first | exact trivial | exact aw rfl | exact ay bz | exact cI (by rw [List.append_nil]) rfl | refine ⟨⟨_,rfl,?_⟩,?_⟩))) ⟨0,q,rfl,by simp [hq],by omega,by omega⟩ ?_
  rintro j st ⟨k,q',rfl,lx,hk,rfl⟩;refine br ?_ ?_<;>intro od
  ·have iK:k < F.length:=by have:=od;simp [er] at this;exact this
   obtain ⟨v,hv⟩:∃ v,F[k]? = some v:=⟨_,gE iK⟩;have Zb:=mG hv;have hvw:=hfw v Zb;have eP:(dD (L ++ M.take k)).length=q':=by rw [l8,lx]
   have j1:q'=L.length + k:=by rw [lx,List.length_append,zLenT];omega
   have hnd:=ep v (by omega) (hfk v Zb) (dD (L ++ M.take k)).length (by omega)
   have fB:dD (L ++ M.take k) ++ [jt (Tx lev ⟨ae,order,types,.mk rh rp⟩ v (dD (L ++ M.take k)).length)]=dD (L ++ M.take (k + 1)):=by
    rw [List.take_add_one,jV k v hv,eP,j1];simp [dD]
   obtain ⟨vh,vp⟩:=v;refine dS ?_;refine iX (kG hv) ?_;refine cD en56 hnd ?_;refine ⟨eP,⟨by rw [eP];simp [maxLen];omega,by rw [eP];simp;omega⟩,?_⟩;exact rE ⟨_,by omega,k + 1,q' + 1,rfl,by rw [j1];simp;omega,by omega,rfl⟩ (QT 3 (nQ (nxt iK (by omega)) fB) (gw (nxt iK (by omega)) fB))
  ·have aS:k=F.length:=by have:=od;simp [er] at this;omega
   have hM:M.take k=M:=List.take_of_length_le (by omega);rw [hM] at lx;refine ⟨Qj ⟨ae,order,types,.mk rh rp⟩ T f (ndsA lev ⟨ae,order,types,.mk rh rp⟩ (T.take (e + 1)) 0) (L.length:Int) (e + 1) q',(QT 3 (by repeat' (first | exact rfl | exact aw rfl | exact ay (nxt aq (by omega)) | exact cI (by rw [Zv,hM]) rfl | refine ⟨_,_,rfl,?_,?_⟩)) (by repeat' (first | exact trivial | exact aw rfl | exact ay (nxt aq (by omega)) | exact cI (by rw [Zv,hM]) rfl | refine ⟨⟨_,rfl,?_⟩,?_⟩))),types.length + 1 - (e + 1),by omega,e + 1,q',_,rfl,by rw [Zv,lx],by omega,fun Ku=>?_,rfl⟩;rw [hLs,show e=types.length by omega]
 ·have aS:e=types.length + 1:=by have:=hL;simp [er,hlen] at this;omega
  have hTa:T.take e=T:=List.take_of_length_le (by omega);rw [hTa];have hz:=hz aS;rw [je,<- Qk] at hz;have VL:=N1 (.mk rh rp) (mG gC);refine br ?_ ?_<;>intro h9
  ·have h9:rh.ag=9:=sU h9;obtain ⟨i,hi⟩:=Option.ne_none_iff_exists'.1 ((nd VL).1 h9);obtain ⟨k,hk⟩:=x5 i (by have:=(dy hi).1;omega);have kP:oi ⟨ae,order,types,.mk rh rp⟩ (.mk rh rp) (rz ⟨ae,order,types,.mk rh rp⟩).length=(firstA ⟨ae,order,types,.mk rh rp⟩ k:Int):=by simp [oi,Ty.h,h9,XO,hi,namedN,hk]
   refine cP aay (xT rh.name.s i k hi hk) ?_;rw [kP];exact ⟨_,ax,rfl⟩
  ·have h9:¬ rh.ag=9:=sU h9;have kP:oi ⟨ae,order,types,.mk rh rp⟩ (.mk rh rp) (rz ⟨ae,order,types,.mk rh rp⟩).length=z:=by simp [oi,Ty.h,h9,hz]
   rw [kP];exact ⟨_,ax,rfl⟩
def VV (t:Ty):Prop:=∃ d m,(wrong t d m).1.1=0
def Kv (ag:Int) (p:Ph) (t:Ty):Prop:=(p.bare=true/\ag=8/\sameTy t cf=true/\bR p fJ=true)∨(p.bare=false/\(dZ p).1=0/\VV t)
structure TyF (h:Hd) (ps:Pts):Prop where
 k1:1<=h.ag
 k9:h.ag<=9
 own:wQ h ps=true
 int:h.ag=2->h.lo<=h.hi
 text:h.ag=3->0<=h.most/\h.most<=4096
 enum:h.ag=4->jj h=(0,0)
 one:h.ag=5∨h.ag=6->∃ p t,ps = .cons p t .nil/\p.name.s=au/\bR p fo=true/\0<=h.most/\h.most<=1024/\VV t
 many:h.ag=7∨h.ag=8->ps.len<=64/\(h.ag=8->ps.len≠0)/\∀ i p t,ps.toList[i]? = some (p,t)->aF (pNames ps) i p.name=0/\Kv h.ag p t
theorem X6 {h:Hd} {ps:Pts} (ho:¬ uQ (.mk h ps)=false):wQ h ps=true:=by
 rw [J1];cases hb:sameTy (.mk h ps) (mask (.mk h ps))
 ·exact absurd hb ho
 ·rfl
theorem ou {ag:Int} {all:List Wd}:∀ {ps:Pts} {i:Nat} {d m:Int},(wrongPts ag all i ps d m).1.1=0->(ag=7∨ag=8)->∀ j p t,ps.toList[j]? = some (p,t)->aF all (i + j) p.name=0/\Kv ag p t
 | .nil,i,d,m,_,_,j,p,t,hx=>by simp [Pts.toList] at hx
 | .cons q u r,i,d,m,he,hk,j,p,t,hx=>by
  simp only [wrongPts] at he;by_cases c0:aF all i q.name≠0
  ·rw [ai c0] at he;exact absurd he c0
  rw [ah c0] at he;have c0:aF all i q.name=0:=sU c0
  have step:∀ d' m',(wrongPts ag all (i + 1) r d' m').1.1=0->Kv ag q u->aF all (i + j) p.name=0/\Kv ag p t:=by
   intro d' m' h hq
   cases j with
   | zero=>
    simp only [Pts.toList,List.getElem?_cons_zero,oI,Prod.mk.injEq] at hx;obtain ⟨rfl,rfl⟩:=hx;exact ⟨c0,hq⟩
   | succ j=>
    simp only [Pts.toList,List.getElem?_cons_succ] at hx;have:=ou h hk j p t hx
    rwa [show i + 1 + j=i + (j + 1) by omega] at this
  by_cases c1:q.bare=true
  ·rw [ai c1] at he;by_cases c2:ag=7∨sameTy u cf=false∨bR q fJ=false
   ·rw [ai c2] at he;simp at he
   rw [ah c2] at he;refine step d m he (.inl ⟨c1,?_,?_,?_⟩)
   ·rcases hk with hk | hk
    ·exact absurd (.inl hk) c2
    ·exact hk
   ·cases hb:sameTy u cf
    ·exact absurd (.inr (.inl hb)) c2
    ·rfl
   ·cases hb:bR q fJ
    ·exact absurd (.inr (.inr hb)) c2
    ·rfl
  ·rw [ah c1] at he;by_cases c2:(dZ q).1≠0
   ·rw [ai c2] at he;exact absurd he c2
   rw [ah c2] at he;by_cases c3:(wrong u (d + 1) m).1.1≠0
   ·rw [ai c3] at he;exact absurd he c3
   rw [ah c3] at he;exact step d _ he (.inr ⟨by simpa using c1,by simpa using c2,d + 1,m,by simpa using c3⟩)
theorem H9:∀ {t:Ty},VV t->TyF t.h t.ps
 | .mk h ps,⟨d,m,he⟩=>by
  simp only [Ty.h,Ty.ps];simp only [wrong] at he;by_cases c0:24 < d
  ·rw [ai c0] at he;simp at he
  rw [ah c0] at he;by_cases c1:512 < m + 1
  ·rw [ai c1] at he;simp at he
  rw [ah c1] at he;by_cases c2:h.ag < 1∨9 < h.ag
  ·rw [ai c2] at he;simp at he
  rw [ah c2] at he;by_cases c3:uQ (.mk h ps)=false
  ·rw [ai c3] at he;simp at he
  rw [ah c3] at he;by_cases c4:(h.ag=2/\h.hi < h.lo)∨(h.ag=3/\(h.most < 0∨4096 < h.most))
  ·rw [ai c4] at he;simp at he
  rw [ah c4] at he;by_cases c5:h.ag=9/\bd h.name.s=false
  ·rw [ai c5] at he;simp at he
  rw [ah c5] at he;refine { k1:=by omega,k9:=by omega,own:=X6 c3,int:=fun h2=>by omega,text:=fun h3=>by omega,enum:=fun h4=>?_,one:=fun h5=>?_,many:=fun h7=>?_ }
  ·rw [ai h4] at he;exact Ae h he
  ·rw [ah (by omega),ai h5] at he
   match ps,he with
   | .nil,he=>simp [wrongOne] at he
   | .cons p t (.cons _ _ _),he=>simp [wrongOne] at he
   | .cons p t .nil,he=>
    simp only [wrongOne] at he;by_cases e0:p.name.s≠au∨bR p fo=false
    ·rw [ai e0] at he;simp at he
    rw [ah e0] at he;by_cases e1:h.most < 0∨1024 < h.most
    ·rw [ai e1] at he;simp at he
    rw [ah e1] at he;refine ⟨p,t,rfl,Classical.byContradiction fun hn=>e0 (.inl hn),?_,by omega,by omega,d + 1,_,he⟩;cases hb:bR p fo
    ·exact absurd (.inr hb) e0
    ·rfl
  ·rw [ah (by omega),ah (by omega),ai h7] at he;by_cases e0:h.ag=8/\ps.len=0
   ·rw [ai e0] at he;simp at he
   rw [ah e0] at he;by_cases e1:64 < ps.len
   ·rw [ai e1] at he;simp at he
   rw [ah e1] at he;refine ⟨by omega,fun h8=>fun hl=>e0 ⟨h8,hl⟩,fun i p t hx=>?_⟩;have:=ou he h7 i p t hx
   rwa [Nat.zero_add] at this
theorem TyF.sub {h:Hd} {ps:Pts} (hF:TyF h ps) {p:Ph} {u:Ty} (hm:(p,u)∈ps.toList) (hb:p.bare=false):VV u:=by
 obtain ⟨i,hi⟩:=List.mem_iff_getElem?.1 hm
 have hlen:0 < ps.len:=by
  cases ps with
  | nil=>simp [Pts.toList] at hm
  | cons _ _ _=>simp [Pts.len]
 have hk:5<=h.ag/\h.ag<=8:=by
  have h1:=hF.own;unfold wQ at h1;simp only [aD,Bool.or_eq_true,decide_eq_true_eq] at h1;have:=h1.1.1.2;omega
 by_cases h5:h.ag=5∨h.ag=6
 ·obtain ⟨q,t,rfl,_,_,_,_,hw⟩:=hF.one h5;simp only [Pts.toList,List.mem_singleton,Prod.mk.injEq] at hm;rw [hm.2];exact hw
 ·rcases ((hF.many (by omega)).2.2 i p u hi).2 with h1 | h1
  ·rw [h1.1] at hb;cases hb
  ·exact h1.2.2
mutual
theorem x6:∀ (t:Ty),VV t->∀ u∈flatT t,VV u
 | .mk h ps,hw,u,hu=>by
  rw [flatT] at hu;split at hu
  ·cases hu
  ·rcases bp hu with rfl | hu
   ·exact hw
   ·exact Fc ps (fun p v hm hb=>(H9 hw).sub hm hb) u hu
theorem Fc:∀ (ps:Pts),(∀ p v,(p,v)∈ps.toList->p.bare=false->VV v)->∀ u∈flatP ps,VV u
 | .nil,_,u,hu=>by cases hu
 | .cons p v r,hw,u,hu=>by
  rw [flatP] at hu;rcases List.mem_append.1 hu with hu | hu
  ·cases hb:p.bare with
   | true=>rw [hb] at hu;cases hu
   | false=>rw [hb] at hu;exact x6 v (hw p v (by simp [Pts.toList]) hb) u hu
  ·exact Fc r (fun q w hm=>hw q w (by simp [Pts.toList,hm])) u hu
end
mutual
theorem Fe:∀ (t:Ty),∀ u∈flatT t,u.h.ag≠9
 | .mk h ps,u,hu=>by
  rw [flatT] at hu;split at hu
  ·cases hu
  ·rename_i h9;rcases bp hu with rfl | hu
   ·exact h9
   ·exact Ff ps u hu
theorem Ff:∀ (ps:Pts),∀ u∈flatP ps,u.h.ag≠9
 | .nil,u,hu=>by cases hu
 | .cons p v r,u,hu=>by
  rw [flatP] at hu;rcases List.mem_append.1 hu with hu | hu
  ·split at hu
   ·cases hu
   ·exact Fe v u hu
  ·exact Ff r u hu
end
mutual
theorem AQ:∀ (t:Ty) (j:Nat) (u:Ty),(flatT t)[j]? = some u->j + u.nn<=t.nn
 | .mk h ps,j,u,hu=>by
  rw [flatT] at hu;by_cases h9:h.ag=9
  ·rw [ai h9] at hu;simp at hu
  rw [ah h9] at hu
  cases j with
  | zero=>
   simp only [List.getElem?_cons_zero,oI] at hu;subst hu;omega
  | succ j=>
   simp only [List.getElem?_cons_succ] at hu;have:=tz ps j u hu;rw [Ty.nn,ah h9];omega
theorem tz:∀ (ps:Pts) (j:Nat) (u:Ty),(flatP ps)[j]? = some u->j + u.nn<=ps.nn
 | .nil,j,u,hu=>by simp [flatP] at hu
 | .cons p v r,j,u,hu=>by
  rw [flatP] at hu;rw [Pts.nn]
  cases hb:p.bare with
  | true=>
   rw [hb] at hu;have:=tz r j u (sU hu);simp only [if_true];omega
  | false=>
   rw [hb] at hu;simp only [Bool.false_eq_true,if_false] at hu ⊢;by_cases hj:j < (flatT v).length
   ·rw [bF hj] at hu;have:=AQ v j u hu;omega
   ·rw [List.getElem?_append_right (by omega)] at hu;have:=tz r _ u hu;have h2:=j8 v;omega
end
theorem rH {lev:List Wd->Int} {s:Sch}:∀ {ps:Pts} {k:Nat} {e:Ed},e∈edsP lev s ps k->∃ p u k',(p,u)∈ps.toList/\e=xE lev p (vm s p u k')/\(p.bare=false->k' + u.nn<=k + ps.nn)
 | .nil,k,e,he=>by simp [edsP] at he
 | .cons p u r,k,e,he=>by
  rw [edsP] at he;rcases bp he with rfl | he
  ·refine ⟨p,u,k,by simp [Pts.toList],rfl,fun hb=>?_⟩;rw [Pts.nn,hb];simp
  ·obtain ⟨q,v,k',h1,h2,h3⟩:=rH he;refine ⟨q,v,k',by simp [Pts.toList,h1],h2,fun hb=>?_⟩;have:=h3 hb;rw [Pts.nn];omega
theorem qh {lev:List Wd->Int} {s:Sch}:∀ {ps:Pts} {k:Nat},(edsP lev s ps k).map Ed.name=aA (pNames ps)
 | .nil,k=>rfl
 | .cons p u r,k=>by
  rw [edsP,List.map_cons,qh (ps:=r)];rfl
theorem AR {f:Nat->Nat->Bool} {n:Nat} (hL:fk f n):∀ e,e<=n->∃ b,b < n/\∀ x,x < e->f b x=true
 | 0,_=>⟨0,hL.pos,fun x hx=>by omega⟩
 | e + 1,he=>by
  obtain ⟨b,hb,fQ⟩:=AR hL e (by omega);obtain ⟨k,hk⟩:=hL.mt b e hb (by omega);obtain ⟨g1,g2,g3,g4⟩:=qc hk;refine ⟨k,g1,fun x hx=>?_⟩;rcases iM hx with hx | rfl
  ·exact hL.tr k b x g1 hb (by omega) g2 (fQ x hx)
  ·exact g3
theorem uo {f:Nat->Nat->Bool} {n:Nat} (hL:fk f n) (l:List Nat) (hl:∀ x∈l,x < n):∃ c,ff f n l=some c:=by
 have key:∀ e,e<=l.length->∃ c,ff f n (l.take e)=some c:=by
  intro e
  induction e with
  | zero=>
   intro _;obtain ⟨b,hb,fQ⟩:=AR hL n (aO _);exact ⟨b,qd hL hb fQ⟩
  | succ e ih=>
   intro he;obtain ⟨c,hc⟩:=ih (by omega);obtain ⟨x,hx⟩:∃ x,l[e]? = some x:=⟨_,gE (by omega)⟩;have za:=hl x (mG hx);obtain ⟨k,hk⟩:=hL.jn c x (oY hc) za;rw [List.take_add_one,hx];exact ⟨k,ui hL (fun y hy=>hl y (List.mem_of_mem_take hy)) za hc hk⟩
 have:=key l.length (aO _)
 rwa [List.take_length] at this
theorem AS {L:List ByteArray}:∀ {l:List Wd},(labW L l).1=0->∀ w∈l,∃ i,dq L w.s=some i
 | [],_,w,hw=>by cases hw
 | x :: r,h,w,hw=>by
  rw [labW] at h;split at h
  ·cases h
  ·rename_i h1;rcases bp hw with rfl | hw
   ·exact Option.ne_none_iff_exists'.1 h1
   ·exact AS h w hw
theorem Mj {f:Nat->Nat->Bool} {L:List ByteArray} (hL:fk f L.length) {l:List Wd} (h:(labW L l).1=0):∃ c:Nat,Cg f L l=c/\c < L.length:=by
 obtain ⟨c,hc⟩:=uo hL (nb L l) (fun x hx=>by
  unfold nb at hx;obtain ⟨w,hw,rfl⟩:=List.mem_map.1 hx;obtain ⟨i,hi⟩:=AS h w hw;rw [hi]
  exact (dy hi).1)
 refine ⟨c,?_,oY hc⟩;unfold Cg;rw [ai h,hc];rfl
structure EdOK (L N:Nat) (e:Ed):Prop where
 to0:e.bare=true->e.to = -1
 to1:e.bare=false->∃ k:Nat,e.to=k/\k < N
 lab:∃ k:Nat,e.label=k/\k < L
 seen:∃ k:Nat,e.seen=k/\k < L
 wide:1<=e.wide/\e.wide<=64
 ck:0<=e.ck/\e.ck<=3
 cn:(e.ck=0->e.cn=0)/\(e.ck=1->1<=e.cn)/\(e.ck=2->0<=e.cn/\e.cn<=4096)/\(e.ck=3->e.cn=0)
structure eD (L N:Nat) (n:Nd):Prop where
 k1:1<=n.ag
 k8:n.ag<=8
 lohi:n.ag=2->n.lo<=n.hi
 lo0:n.ag≠2->n.lo=0/\n.hi=0
 VW:n.ag=3->0<=n.most/\n.most<=4096
 VX:n.ag=5->0<=n.most/\n.most<=1024
 VY:n.ag≠3->n.ag≠5->n.most=0
 af:n.ag=4->n.af ≠ []/\n.af.length<=64/\n.af.Nodup/\∀ s∈n.af,bd s=true
 X7:n.ag≠4->n.af=[]
 leaf:n.ag < 5->n.av=[]
 one:n.ag=5∨n.ag=6->∃ e,n.av=[e]/\e.bare=false/\e.name=au
 many:n.ag=7∨n.ag=8->n.av.length<=64/\(n.ag=8->n.av ≠ [])/\(n.av.map Ed.name).Nodup/\∀ e∈n.av,bd e.name=true
 bare:∀ e∈n.av,e.bare=true->n.ag=8
 n5:∀ e∈n.av,EdOK L N e
theorem x7 {l:List Wd} (h:∀ j x,l[j]? = some x->aF l j x=0):(aA l).Nodup/\∀ x∈l,bd x.s=true:=by
 have key:∀ e,e<=l.length->(aA (l.take e)).Nodup:=by
  intro e
  induction e with
  | zero=>intro _;simp [aA]
  | succ e ih=>
   intro he;obtain ⟨x,hx⟩:∃ x,l[e]? = some x:=⟨_,gE (by omega)⟩;exact na hx (ih (by omega)) (h e x hx)
 refine ⟨by have:=key l.length (aO _);rwa [List.take_length] at this,fun x hx=>?_⟩;obtain ⟨j,hj⟩:=List.mem_iff_getElem?.1 hx;have:=h j x hj;unfold aF at this;cases hb:bd x.s
 ·rw [hb] at this;simp at this
 ·rfl
theorem AU {all:List Wd}:∀ {l:List Wd} {i:Nat},(enumL all i l).1=0->∀ j x,l[j]? = some x->aF all (i + j) x=0
 | [],i,_,j,x,hx=>by simp at hx
 | y :: r,i,h,j,x,hx=>by
  rw [enumL] at h;split at h
  ·rename_i h1;exact (h1 h).elim
  ·rename_i h1
   cases j with
   | zero=>
    simp only [List.getElem?_cons_zero,oI] at hx;subst hx;simpa using h1
   | succ j=>
    simp only [List.getElem?_cons_succ] at hx;have:=AU h j x hx
    rwa [show i + 1 + j=i + (j + 1) by omega] at this
theorem Cy {h:Hd} (he:jj h=(0,0)):h.af ≠ []/\h.af.length<=64/\(aA h.af).Nodup/\∀ x∈h.af,bd x.s=true:=by
 unfold jj at he;split at he
 ·cases he
 ·rename_i h1;split at he
  ·cases he
  ·rename_i h2;refine ⟨h1,by omega,?_⟩
   exact x7 fun j x hx=>by
    have:=AU (all:=h.af) (i:=0) (by rw [he]) j x hx
    rwa [Nat.zero_add] at this
theorem Kw {X:Lx} {L:List ByteArray}:∀ {ps:Pts},(knP X L ps).1=0->∀ {p:Ph} {u:Ty},(p,u)∈ps.toList->(X.bad p.label).1=0/\(X.bad p.cl).1=0
 | .nil,_,p,u,h=>by cases h
 | .cons q v r,hk,p,u,h=>by
  have hr:=(te hk).2;rw [knP] at hk;split at hk
  ·rename_i h1;exact (h1 hk).elim
  rename_i h1;split at hk
  ·rename_i h2;exact (h2 hk).elim
  rename_i h2;rcases bp h with h | h
  ·cases h;exact ⟨by simpa using h1,by simpa using h2⟩
  ·exact Kw hr h
theorem o6 {p q:Ph} (h:bR p q=true):p.bare=q.bare/\p.wide=q.wide/\p.ck=q.ck/\p.cn=q.cn:=by
 unfold bR at h;simp only [aD,beq_iff_eq,decide_eq_true_eq] at h;exact ⟨h.1.1.1.1.1,h.1.1.1.1.2,h.1.1.2,h.1.2⟩
theorem Ql {w:Int} (h:0<=w/\w<=64):1<=l5 w/\l5 w<=64:=by
 unfold l5;split<;>omega
theorem Ia {p:Ph} (h:(bc p).1=0):(0<=p.ck/\p.ck<=3)/\(p.ck=0->p.cn=0)/\(p.ck=1->1<=p.cn)/\(p.ck=2->0<=p.cn/\p.cn<=4096)/\(p.ck=3->p.cn=0):=by
 unfold bc at h;by_cases c0:p.ck=0
 ·rw [ai c0] at h;by_cases c1:p.cn=0/\p.cl=[]
  ·exact ⟨by omega,fun _=>c1.1,by omega,by omega,by omega⟩
  ·rw [ah c1] at h;simp at h
 rw [ah c0] at h;by_cases c1:p.ck < 0∨3 < p.ck
 ·rw [ai c1] at h;simp at h
 rw [ah c1] at h;by_cases c2:(p.ck=1/\p.cn < 1)∨(p.ck=2/\(p.cn < 0∨4096 < p.cn))∨(p.ck=3/\p.cn≠0)
 ·rw [ai c2] at h;simp at h
 exact ⟨by omega,by omega,by omega,by omega,by omega⟩
theorem Mk {p:Ph} (h:(dZ p).1=0):(0<=p.wide/\p.wide<=64)/\(bc p).1=0:=by
 unfold dZ at h;by_cases c0:p.wide < 0∨64 < p.wide
 ·rw [ai c0] at h;simp at h
 rw [ah c0] at h;by_cases c1:(bS p.label).1≠0
 ·rw [ai c1] at h;exact absurd h c1
 rw [ah c1] at h;exact ⟨by omega,h⟩
theorem Cz {t:Ty} (h:t.h.ag≠9):1<=t.nn:=by
 obtain ⟨h',ps⟩:=t;have h:¬ h'.ag=9:=h;rw [Ty.nn,ah h];omega
theorem AV {S:Sch} {k:Nat} {x:Wd × Ty} (hx:S.types[k]? = some x):firstA S k + x.2.nn<=rD (gF S):=by
 have h1:=oh hx;rw [<- h1]
 have h2:firstA S (k + 1)=rD ((fv S).take (k + 1)):=by
  unfold firstA rD fv;rw [<- List.map_take,List.map_map];rfl
 have h3:=acf (fv S) (k + 1);have h4:rD (gF S)=rD (fv S) + rD [S.root]:=vu _ _;omega
theorem x8 {lev:List Wd->Int} {s:Sch} {n:Nd}:∀ {l:List Ty} {k i:Nat},(ndsA lev s l k)[i]? = some n->∃ t∈l,∃ u∈flatT t,n=Tx lev s u (k + i)/\i + u.nn<=rD l
 | [],k,i,h=>by simp [ndsA] at h
 | t :: r,k,i,h=>by
  rw [ndsA] at h;rw [oq];have hl:=kE lev s t k;by_cases hi:i < t.nn
  ·rw [bF (by omega),vt,List.getElem?_map,List.getElem?_zipIdx] at h
   cases hu:(flatT t)[i]? with
   | none=>rw [hu] at h;simp at h
   | some u=>
    rw [hu] at h;simp only [Option.map_some,oI] at h;have:=AQ t i u hu;exact ⟨t,List.mem_cons_self,u,mG hu,by rw [<- h];simp,by omega⟩
  ·rw [List.getElem?_append_right (by omega),hl] at h;obtain ⟨t',h1,u,h2,h3,h4⟩:=x8 h;refine ⟨t',dB _ h1,u,h2,?_,by omega⟩;rw [h3];congr 1;omega
theorem ni (S:Sch):(aM S).length=rD (gF S):=by rw [j9,l9]
theorem tA {S:Sch} (hF:xZ S) {i:Nat} {n:Nd} (h:(aM S)[i]? = some n):eD S.ae.length (aM S).length n:=by
 rw [ni];rw [j9] at h;obtain ⟨t,ht,u,hu,rfl,kN⟩:=x8 h;rw [Nat.zero_add];have L8:=x6 t ⟨_,_,hF.wr t ht⟩ u hu;have hk:=xX t (hF.kn t ht) u hu;have hk9:=Fe t u hu;have hT:=H9 L8;obtain ⟨adu,_⟩:=l7 hF.lat;have ik:=dO S.ae;have x5:=hF.ends;obtain ⟨uh,us⟩:=u;simp only [Ty.h,Ty.ps] at hT hk9;have XP:=(nd hk).2;have cW:=hT.own;unfold wQ at cW;simp only [aD,Bool.or_eq_true,decide_eq_true_eq] at cW;obtain ⟨⟨⟨⟨o1,o2⟩,o3⟩,o4⟩,o5⟩:=cW;have k1:=hT.k1;have k9:=hT.k9
 have Zm:∀ l:List Wd,(labW (aA S.ae) l).1=0->∃ k:Nat,ju S l=k/\k < S.ae.length:=by
  intro l hl;have:=Mj (f:=fj S.ae.length (dF (aA S.ae) S.order)) (L:=aA S.ae) (by rw [ik];exact adu) hl
  rwa [ik] at this
 have kP:∀ (p:Ph) (v:Ty) (k':Nat),(p,v)∈us.toList->(p.bare=false->k' + v.nn<=i + 1 + us.nn)->(p.bare=true->vm S p v k' = -1)/\(p.bare=false->∃ k:Nat,vm S p v k'=k/\k < rD (gF S)):=by
  intro p v k' hm fQ;refine ⟨fun hb=>by simp [vm,hb],fun hb=>?_⟩;have hkv:=Cx XP hm hb;obtain ⟨vh,vs⟩:=v;by_cases h9:vh.ag=9
  ·obtain ⟨j,hj⟩:=Option.ne_none_iff_exists'.1 ((nd hkv).1 h9);have pN:=(dy hj).1;rw [kD] at pN;obtain ⟨k,hk⟩:=x5 j pN;have ir:=rq hk;obtain ⟨x,hx⟩:∃ x,S.types[k]? = some x:=⟨_,gE ir.1⟩;have h1:=AV hx;have h2:=Cz (ir.2 x hx);refine ⟨firstA S k,?_,by omega⟩;simp [vm,hb,oi,Ty.h,h9,XO,hj,namedN,hk]
  ·have h1:=Cz (t:=.mk vh vs) h9;have h2:=fQ hb;have h3:(Ty.mk uh us).nn=1 + us.nn:=by rw [Ty.nn,ah hk9]
   refine ⟨k',by simp [vm,hb,oi,Ty.h,h9],by omega⟩
 have EH:∀ p v,(p,v)∈us.toList->(0<=p.wide/\p.wide<=64)/\(0<=p.ck/\p.ck<=3)/\((p.ck=0->p.cn=0)/\(p.ck=1->1<=p.cn)/\(p.ck=2->0<=p.cn/\p.cn<=4096)/\(p.ck=3->p.cn=0))/\(p.bare=true->uh.ag=8):=by
  intro p v hm;obtain ⟨j,hj⟩:=List.mem_iff_getElem?.1 hm
  have hlen:us.len≠0:=by
   cases us with
   | nil=>simp [Pts.toList] at hm
   | cons _ _ _=>simp [Pts.len]
  by_cases h5:uh.ag=5∨uh.ag=6
  ·obtain ⟨q,t',rfl,_,iJ,_,_,_⟩:=hT.one h5;simp only [Pts.toList,List.mem_singleton,Prod.mk.injEq] at hm;obtain ⟨rfl,rfl⟩:=hm;obtain ⟨w1,w2,w3,w4⟩:=o6 iJ;have z1:fo.wide=0:=rfl;have z2:fo.ck=0:=rfl;have z3:fo.cn=0:=rfl;have z4:fo.bare=false:=rfl;rw [z1] at w2;rw [z2] at w3;rw [z3] at w4;rw [z4] at w1;refine ⟨by omega,by omega,⟨by omega,by omega,by omega,by omega⟩,fun hb=>?_⟩;rw [w1] at hb;cases hb
  ·obtain ⟨_,hP⟩:=(hT.many (by omega)).2.2 j p v hj;rcases hP with ⟨hb,h8,_,iJ⟩ | ⟨hb,hp,_⟩
   ·obtain ⟨w1,w2,w3,w4⟩:=o6 iJ;have z1:fJ.wide=0:=rfl;have z2:fJ.ck=0:=rfl;have z3:fJ.cn=0:=rfl;rw [z1] at w2;rw [z2] at w3;rw [z3] at w4;exact ⟨by omega,by omega,⟨by omega,by omega,by omega,by omega⟩,fun _=>h8⟩
   ·obtain ⟨w1,w2⟩:=Mk hp;obtain ⟨w3,w4⟩:=Ia w2;exact ⟨w1,w3,w4,fun h=>by rw [hb] at h;cases h⟩
 have adv:us.len=0->us = .nil:=fun h=>by
  cases us with
  | nil=>rfl
  | cons _ _ _=>simp [Pts.len] at h
 refine {
  k1:=k1
  k8:=by show uh.ag<=8;omega
  lohi:=hT.int
  lo0:=fun h2=>?_
  VW:=hT.text
  VX:=fun h5=>?_
  VY:=fun h3 h5=>?_
  af:=fun h4=>?_
  X7:=fun h4=>?_
  leaf:=fun h5=>?_
  one:=fun h5=>?_
  many:=fun h7=>?_
  bare:=fun e he hb=>?_
  n5:=fun e he=>?_ }
 ·show uh.lo=0/\uh.hi=0;exact o1.resolve_left h2
 ·obtain ⟨q,t',rfl,_,_,kg,gy,_⟩:=hT.one (.inl h5);exact ⟨kg,gy⟩
 ·show uh.most=0;exact o2.resolve_left (fun h=>h.elim h3 h5)
 ·obtain ⟨e1,e2,e3,e4⟩:=Cy (hT.enum h4);show aA uh.af ≠ []/\(aA uh.af).length<=64/\(aA uh.af).Nodup/\∀ s∈aA uh.af,bd s=true;refine ⟨fun h=>e1 (by simpa [aA] using h),by rw [dO];exact e2,e3,fun s hs=>?_⟩;unfold aA at hs;obtain ⟨w,hw,rfl⟩:=List.mem_map.1 hs;exact e4 w hw
 ·show aA uh.af=[];have:=o4.resolve_right h4;have:uh.af=[]:=List.eq_nil_of_length_eq_zero this;rw [this];all_goals rfl
 ·show edsP (ju S) S us (i + 1)=[];have hk5:uh.ag < 5:=h5;rw [adv (o3.resolve_right (by omega))];rfl
 ·show ∃ e,edsP (ju S) S us (i + 1)=[e]/\_;obtain ⟨q,t',rfl,hn,iJ,_,_,_⟩:=hT.one h5;refine ⟨xE (ju S) q (vm S q t' (i + 1)),rfl,?_,hn⟩;exact (o6 iJ).1
 ·show (edsP (ju S) S us (i + 1)).length<=64/\(_->edsP (ju S) S us (i + 1) ≠ [])/\((edsP (ju S) S us (i + 1)).map Ed.name).Nodup/\∀ e∈edsP (ju S) S us (i + 1),bd e.name=true;obtain ⟨m1,m2,m3⟩:=hT.many h7
  have gp:∀ j x,(pNames us)[j]? = some x->aF (pNames us) j x=0:=by
   intro j x hx
   have hj:j < us.len:=by
    have:=(gS hx).1
    rwa [gO] at this
   obtain ⟨p,t',hp⟩:=Pts.eZ hj;rw [gP hp] at hx;simp only [oI] at hx;rw [<- hx];exact (m3 j p t' hp).1
  obtain ⟨n1,n2⟩:=x7 gp;refine ⟨by rw [rr];exact m1,fun h8 hn=>m2 h8 ?_,by rw [qh];exact n1,fun e he=>?_⟩
  ·have:=rr (ju S) S us (i + 1);rw [hn] at this;simpa using this.symm
  ·have:e.name∈aA (pNames us):=by rw [<- qh (lev:=ju S) (s:=S) (k:=i + 1)];exact List.mem_map_of_mem he
   unfold aA at this;obtain ⟨w,hw,h⟩:=List.mem_map.1 this;rw [<- h];exact n2 w hw
 ·obtain ⟨p,v,k',h1,rfl,_⟩:=rH he;exact (EH p v h1).2.2.2 hb
 ·obtain ⟨p,v,k',h1,rfl,h3⟩:=rH he;obtain ⟨h4,h5⟩:=kP p v k' h1 h3;obtain ⟨h6,h7,h8,_⟩:=EH p v h1;obtain ⟨h9,sq⟩:=Kw XP h1;exact { to0:=h4,to1:=h5,lab:=Zm _ h9,seen:=Zm _ sq,wide:=Ql h6,ck:=h7,cn:=h8 }
theorem Ib {S:Sch} (hF:xZ S):∃ k:Nat,dV S=k/\k < (aM S).length:=by
 rw [ni];have VL:=hF.kn S.root (by unfold gF;simp);have x5:=hF.ends;have gV:=xW S;have NP:rD (gF S)=rD (fv S) + S.root.nn:=by unfold gF;rw [vu];simp [rD]
 unfold dV;obtain ⟨ae,order,types,⟨rh,rp⟩⟩:=S;simp only at VL x5 NP;by_cases h9:rh.ag=9
 ·obtain ⟨j,hj⟩:=Option.ne_none_iff_exists'.1 ((nd VL).1 h9);have pN:=(dy hj).1;rw [kD] at pN;obtain ⟨k,hk⟩:=x5 j pN;have ir:=rq hk;obtain ⟨x,hx⟩:∃ x,(Sch.mk ae order types (.mk rh rp)).types[k]? = some x:=⟨_,gE ir.1⟩;have h1:=AV hx;have h2:=Cz (ir.2 x hx);exact ⟨firstA ⟨ae,order,types,.mk rh rp⟩ k,by simp [oi,Ty.h,h9,XO,hj,namedN,hk],by omega⟩
 ·have h1:=Cz (t:=.mk rh rp) h9;exact ⟨(rz ⟨ae,order,types,.mk rh rp⟩).length,by simp [oi,Ty.h,h9],by omega⟩
theorem x9 {lev:List Wd->Int} {s:Sch} {n:Nd}:∀ {l:List Ty} {k:Nat},n∈ndsA lev s l k->∃ t∈l,∃ u∈flatT t,∃ k',n=Tx lev s u k'
 | [],_,h=>by cases h
 | t :: r,k,h=>by
  rw [ndsA] at h;rcases List.mem_append.1 h with h | h
  ·rw [vt] at h;obtain ⟨x,hx,rfl⟩:=List.mem_map.1 h;have:=(List.mem_zipIdx hx).2.2;refine ⟨t,List.mem_cons_self,x.1,?_,_,rfl⟩;rw [this];exact List.getElem_mem _
  ·obtain ⟨t',ht,h⟩:=x9 h;exact ⟨t',dB _ ht,h⟩
theorem ma {S:Sch} {n:Nd} (h:n∈aM S) (hS:S.wt<=1099511627776):n.af.length<=1099511627776/\n.av.length<=1099511627776:=by
 rw [j9] at h;obtain ⟨t,ht,u,hu,k,rfl⟩:=x9 h;have h1:=Cu hS t ht;have h2:=xY t u hu;obtain ⟨uh,us⟩:=u;have h3:=bu uh.af;have h4:=us.gf;simp only [Ty.wt,Hd.wt] at h2;simp only [Tx,Ty.h,Ty.ps,dO,rr];omega
abbrev zNd:List DV:=[.v (.int .i64 0),.v (.int .i64 0),.v (.int .i64 0),.v (.int .i64 0),.v (.int .i64 0),.v (.slice none 0 0),.v (.slice none 0 0)]
structure fw (S:Sch) (ND:List Nd) (PC:List DV):Prop where
 fine:xZ S
 wt:S.wt<=1099511627776
 Ck:ND=aM S
 ok:∀ n∈ND,eD S.ae.length ND.length n
 nl:ND.length<=1099511627776
 len:EvP prog 94 [.pt PC 0] (.v (.int .i64 ND.length))
 root:EvP prog 37 [.pt PC 0] (.v (.int .i64 (dV S)))
 aj:∀ (i:Nat) n,ND[i]? = some n->EvP prog 36 [.pt PC 0,.v (.int .i64 i)] (.tup [.agg (jt n),.v (.bool true)])
 VZ:∀ i:Int,(i < 0∨ND.length<=i)->EvP prog 36 [.pt PC 0,.v (.int .i64 i)] (.tup [.agg zNd,.v (.bool false)])
 lat:∃ aE js,(dL S aE js).OK/\EvP prog 72 [.pt PC 0] (dL S aE js).pd
theorem Qm {S:Sch} {d:DV} (hS:S.wt<=1099511627776) (h0:(lE S).1=0) (hd:PY S d):∃ PC,d = .pt PC 0/\fw S (aM S) PC:=by
 obtain ⟨aE,lF,js,hX,hT,kO,rfl⟩:=hd;have hF:=rF h0;have bH:=fun n (h:n∈aM S)=>ma h hS
 refine ⟨_,rfl,{
  fine:=hF
  wt:=hS
  Ck:=rfl
  ok:=fun n hn=>?_
  nl:=by rw [ni];exact Nat.le_trans (H8 S) hS
  len:=tg _ _ _ _ _ _
  root:=HQ _ _ _ _ _ _
  aj:=fun i n h=>HR _ _ _ _ _ _ i n h (bH n (mG h)).1 (bH n (mG h)).2
  VZ:=fun i h=>HS _ _ _ _ _ _ i h
  lat:=⟨aE,js,hX,L9 _ _ _ _ _ _⟩ }⟩
 obtain ⟨i,hi⟩:=List.mem_iff_getElem?.1 hn;exact tA hF hi
def Ic (S:Sch) (r:DV):Prop:=((lE S).1≠0/\r = .tup [.v (.pointer none),(lE S).d])∨((lE S).1=0/\∃ PC,fw S (aM S) PC/\r = .tup [.pt PC 0,Ft.d (0,0)])
theorem AW {S:Sch} (hS:S.wt<=1099511627776) {r:DV} {os:List (List DV)} {tk:List TkE} (h:HO S r os tk):Ic S r:=by
 unfold HO at h;by_cases h0:(lE S).1=0
 ·rw [ah (by rw [h0];simp)] at h;obtain ⟨d,hd,rfl⟩:=h;obtain ⟨PC,rfl,hP⟩:=Qm hS h0 hd;exact .inr ⟨h0,PC,hP,rfl⟩
 ·rw [ai h0] at h;exact .inl ⟨h0,h⟩
inductive Val where
 | mk (k n:Int) (s:ByteArray) (ks:List Val)
def Val.k:Val->Int | .mk k _ _ _=>k
def Val.n:Val->Int | .mk _ n _ _=>n
def Val.s:Val->ByteArray | .mk _ _ s _=>s
def Val.ks:Val->List Val | .mk _ _ _ ks=>ks
mutual
def aH:Val->List DV
 | .mk k n s ks=>[.v (.int .i64 k),.v (.int .i64 n),.v (.string s),.sl 4 (dVals ks) none]
def dVals:List Val->List (List DV)
 | []=>[]
 | v :: r=>aH v :: dVals r
end
theorem ei:∀ l:List Val,dVals l=l.map aH
 | []=>rfl
 | v :: r=>by rw [dVals,ei r];all_goals rfl
theorem aP (l:List Val):(dVals l).length=l.length:=by rw [ei,List.length_map]
theorem bf {l:List Val} {e:Nat} {x:Val} (h:l[e]? = some x):(dVals l)[e]? = some (aH x):=by rw [ei,List.getElem?_map,h];all_goals rfl
theorem ya {l:List Val} {e:Nat} {x:Val} (h:l[e]? = some x):dVals (l.take e) ++ [aH x]=dVals (l.take (e + 1)):=by
 rw [ei,ei,List.take_add_one,h];simp
mutual
def Val.wt:Val->Nat
 | .mk _ _ s ks=>64 + s.size + cO ks
def cO:List Val->Nat
 | []=>0
 | v :: r=>v.wt + cO r
end
theorem Val.dz:∀ v:Val,64<=v.wt
 | .mk _ _ _ _=>by rw [Val.wt];omega
theorem cS:∀ {l:List Val} {x:Val},x∈l->x.wt<=cO l
 | v :: r,x,h=>by
  rcases bp h with rfl | h
  ·rw [cO];omega
  ·have:=cS h;rw [cO];omega
theorem b9:∀ l:List Val,64 * l.length<=cO l
 | []=>aO _
 | v :: r=>by
  have:=b9 r;have:=v.dz;rw [cO,List.length_cons];omega
mutual
def fV:Val->Nat
 | .mk _ _ _ ks=>1 + bP ks
def bP:List Val->Nat
 | []=>0
 | v :: r=>fV v + bP r
end
mutual
def uW:Val->Nat
 | .mk _ _ _ ks=>iU ks + 1
def iU:List Val->Nat
 | []=>0
 | v :: r=>max (uW v) (iU r)
end
mutual
theorem Kx:∀ v:Val,fV v<=v.wt/\uW v<=v.wt
 | .mk _ _ _ ks=>by
  have:=yb ks;rw [fV,uW,Val.wt];omega
theorem yb:∀ l:List Val,bP l<=cO l/\iU l<=cO l
 | []=>⟨aO _,aO _⟩
 | v :: r=>by
  have h1:=Kx v;have h2:=yb r;rw [bP,iU,cO];omega
end
theorem qi:∀ (l:List Val) (x:Val),bP (l ++ [x])=bP l + fV x
 | [],x=>by simp [bP]
 | v :: r,x=>by rw [List.cons_append,bP,bP,qi r];omega
theorem yc:∀ (l:List Val) (x:Val),iU (l ++ [x])=max (iU l) (uW x)
 | [],x=>by simp [iU]
 | v :: r,x=>by rw [List.cons_append,iU,iU,yc r];omega
theorem AX {α:Type} {l:List α} {e:Nat} {x:α} (h:l[e]? = some x):l.take (e + 1)=l.take e ++ [x]:=by rw [List.take_add_one,h];all_goals rfl
theorem Ie (l:List Val):∀ e,bP (l.take e)<=cO l/\iU (l.take e)<=cO l:=fun e=>by
 have h1:=yb (l.take e)
 have h2:∀ (l:List Val) e,cO (l.take e)<=cO l:=by
  intro l
  induction l with
  | nil=>intro e;simp [cO]
  | cons v r ih=>
   intro e
   cases e with
   | zero=>simp [cO]
   | succ e=>have:=ih e;simp only [List.take_succ_cons,cO];omega
 have:=h2 l e;omega
abbrev szSt (v:Val) (n d e:Nat):St:=
 ⟨[aab 1 0,aaa 4 n,aaa 5 d,aaa 6 e],[aH v],[]⟩
theorem ll:∀ (k:Nat) (v:Val),v.wt<=k->v.wt<=1099511627776->EvP prog 42 [.agg (aH v)] (.tup [.v (.int .i64 (fV v:Nat)),.v (.int .i64 (uW v:Nat))])
 | 0,v,h,_=>by have:=v.dz;omega
 | k + 1,.mk q n s ks,h,hb=>by
  have ih:=ll k;have bz:=aP ks;have ir:=b9 ks;have je:=Ie ks;rw [Val.wt] at h hb;rw [fV,uW];refine eG 35 [.tmp 2,.tmp 3] func42 rfl ntmps42 rfl fun _ _ _ _=>?_;refine lJ (fun e=>szSt (.mk q n s ks) (1 + bP (ks.take e)) (iU (ks.take e)) e) ks.length (wkM wB) ?_;intro e he;refine br ?_ ?_<;>intro hL
  ·have aq:e < ks.length:=by have:=hL;simp [bz] at this;exact this
   obtain ⟨x,hx⟩:=gX aq;have EP:=cS (mG hx);have hc:=qi (ks.take e) x;have hd:=yc (ks.take e) x;rw [<- AX hx] at hc hd;have h1:=je (e + 1);have hi:=ih x (by omega) (by omega);have X8:=Kx x;obtain ⟨xk,xn,xs,xl⟩:=x;refine iX (bf hx) ?_;refine cP SC hi ?_;have hw:IntKind.i64.wrap (((1 + bP (ks.take e):Nat):Int) + ((fV (.mk xk xn xs xl):Nat):Int))=((1 + bP (ks.take (e + 1)):Nat):Int):=by rw [wrap64 (by omega) (by omega)];omega
   refine br ?_ ?_<;>intro g
   ·have g:iU (ks.take e) < uW (.mk xk xn xs xl):=sU g;have N5:((uW (.mk xk xn xs xl):Nat):Int)=((iU (ks.take (e + 1)):Nat):Int):=by omega
    exact rE ⟨_,by omega,e + 1,rfl,by omega,rfl⟩ (wkM (Uy hw N5 (nxt aq (by omega))))
   ·have g:¬ iU (ks.take e) < uW (.mk xk xn xs xl):=sU g;have N5:((iU (ks.take e):Nat):Int)=((iU (ks.take (e + 1)):Nat):Int):=by omega
    exact rE ⟨_,by omega,e + 1,rfl,by omega,rfl⟩ (wkM (Uy hw N5 (nxt aq (by omega))))
  ·have aS:e=ks.length:=sW bz hL;subst aS;have h1:=je ks.length;rw [List.take_length] at h1 ⊢;have hw:IntKind.i64.wrap (((iU ks:Nat):Int) + 1)=((iU ks + 1:Nat):Int):=by rw [wrap64 (by omega) (by omega)];omega
   refine ⟨_,(qA hw),rfl⟩
theorem Fg:prog.cellsOf 34=4:=by kernel_rfl
end Go.Proofs.YtgjagnmeonoehaaGreat
namespace Go.Proofs.YtgjagnmeonoehaaGreat
open Go Go.RowKit Dv
def tyVS:List TypeId:=[34,32,9,3]
theorem tyVS_ok:∀ t∈tyVS,mU Tryz.prog tyVS t=true:=by
 have h:(tyVS.all fun t=>mU Tryz.prog tyVS t)=true:=by kernel_rfl
 exact fun t ht=>List.all_eq_true.1 h t ht
end Go.Proofs.YtgjagnmeonoehaaGreat
set_option maxRecDepth 100000
namespace Go.Proofs.YtgjagnmeonoehaaGreat
open Go Go.RowKit Dv Go.Proofs.Tryz
def bK (n u:Int):Int × Bool:=if u < 1 then (0,false) else if n - n % u < -9223372036854775808 then (0,false) else (n - n % u,true)
def CA (r:Int × Bool):DV:=.tup [.v (.int .i64 r.1),.v (.bool r.2)]
theorem rI {n u:Int} (hu:1<=u):(n.tmod u < 0->n.tmod u + u=n % u)/\(¬ n.tmod u < 0->n.tmod u=n % u):=by
 have h1:=Int.emod_nonneg n (show u≠0 by omega);have h2:=Int.emod_lt_of_pos n (show 0 < u by omega);have h3:=Int.tmod_eq_emod (a:=n) (b:=u);have h4:(u.natAbs:Int)=u:=Int.natAbs_of_nonneg (by omega);rw [h3];split<;>omega
theorem qj (n u:Int) (hn : -9223372036854775808<=n/\n<=9223372036854775807) (hu : -9223372036854775808<=u/\u<=9223372036854775807):EvP prog 214 [.v (.int .i64 n),.v (.int .i64 u)] (CA (bK n u)):=by
 have hF:bK n u=if u < 1 then (0,false) else if n - n % u < -9223372036854775808 then (0,false) else (n - n % u,true):=rfl
 generalize bK n u=F at hF ⊢;refine eG 24 [.tmp 4,.tmp 5] func214 rfl ntmps214 rfl fun _ _ _ _=>?_;refine br ?_ ?_<;>intro c
 ·have c:u < 1:=sU c;rw [ai c] at hF;subst hF;exact ⟨_,ax,rfl⟩
 have c:¬ u < 1:=sU c;rw [ah c] at hF;have hm:=rI (n:=n) (u:=u) (by omega);have h1:=Int.emod_nonneg n (show u≠0 by omega);have h2:=Int.emod_lt_of_pos n (show 0 < u by omega)
 have h5 : -u<=n.tmod u/\n.tmod u < u:=by
  rcases Int.lt_or_le (n.tmod u) 0 with h | h
  ·have:=hm.1 h;omega
  ·have:=hm.2 (by omega);omega
 have RL:IntKind.i64.wrap (-9223372036854775808 + n % u) = -9223372036854775808 + n % u:=wrap64 (by omega) (by omega);refine ⟨⟨rfl,by omega⟩,?_⟩;refine br ?_ ?_<;>intro g
 ·have g:n.tmod u < 0:=sU g;have hw2:IntKind.i64.wrap (n.tmod u + u)=n % u:=by rw [hm.1 g];exact wrap64 (by omega) (by omega)
  refine br ?_ ?_<;>intro h
  ·have h:n < IntKind.i64.wrap (-9223372036854775808 + IntKind.i64.wrap (n.tmod u + u)):=sU h;rw [hw2,RL] at h;rw [ai (by omega)] at hF;subst hF;exact ⟨_,ax,rfl⟩
  ·have h:¬ n < IntKind.i64.wrap (-9223372036854775808 + IntKind.i64.wrap (n.tmod u + u)):=sU h;rw [hw2,RL] at h;rw [ah (by omega)] at hF;have tZ:IntKind.i64.wrap (n - IntKind.i64.wrap (n.tmod u + u))=n - n % u:=by rw [hw2];exact wrap64 (by omega) (by omega)
   refine ⟨.tup [.v (.int .i64 (IntKind.i64.wrap (n - IntKind.i64.wrap (n.tmod u + u)))),.v (.bool true)],ax,?_⟩;rw [hF];exact congrArg (fun z=>DV.tup [.v (.int .i64 z),.v (.bool true)]) tZ
 ·have g:¬ n.tmod u < 0:=sU g;have hw2:n.tmod u=n % u:=hm.2 g;refine br ?_ ?_<;>intro h
  ·have h:n < IntKind.i64.wrap (-9223372036854775808 + n.tmod u):=sU h;rw [hw2,RL] at h;rw [ai (by omega)] at hF;subst hF;exact ⟨_,ax,rfl⟩
  ·have h:¬ n < IntKind.i64.wrap (-9223372036854775808 + n.tmod u):=sU h;rw [hw2,RL] at h;rw [ah (by omega)] at hF;have tZ:IntKind.i64.wrap (n - n.tmod u)=n - n % u:=by rw [hw2];exact wrap64 (by omega) (by omega)
   refine ⟨.tup [.v (.int .i64 (IntKind.i64.wrap (n - n.tmod u))),.v (.bool true)],ax,?_⟩;rw [hF];exact congrArg (fun z=>DV.tup [.v (.int .i64 z),.v (.bool true)]) tZ
theorem emod_le {a u:Int} (ha:0<=a) (hu:1<=u):a % u<=a:=by
 have h1:=Int.mul_ediv_add_emod a u;have h2:=Int.mul_nonneg (show 0<=u by omega) (Int.ediv_nonneg ha (show 0<=u by omega));omega
theorem tdiv_le {n u:Int} (hu:1<=u):(0<=n.tdiv u->n.tdiv u<=n.tdiv u * u)/\(n.tdiv u<=0->n.tdiv u * u<=n.tdiv u):=by
 constructor
 ·intro h;have:=Int.mul_le_mul_of_nonneg_left hu h
  rwa [Int.mul_one] at this
 ·intro h;have:=Int.mul_le_mul_of_nonneg_left hu (show 0 <= -(n.tdiv u) by omega);rw [Int.mul_one,Int.neg_mul] at this;omega
theorem CB {q u l:Int} (hu:1<=u) (hl:l<=0):q < l.tdiv u↔q * u < l:=by
 have h1:=Int.mul_tdiv_add_tmod l u;rw [Int.mul_comm] at h1;have hm:=rI (n:=l) (u:=u) hu;have h2:=Int.emod_nonneg l (show u≠0 by omega);have h3:=Int.emod_lt_of_pos l (show 0 < u by omega)
 have h4 : -u < l.tmod u/\l.tmod u<=0:=by
  have h5:(-l).tmod u = -(l.tmod u):=Int.neg_tmod ..;have h6:(-l).tmod u=(-l) % u:=Int.tmod_eq_emod_of_nonneg (by omega);have h7:=Int.emod_nonneg (-l) (show u≠0 by omega);have h8:=Int.emod_lt_of_pos (-l) (show 0 < u by omega);omega
 constructor
 ·intro h;have:=Int.mul_le_mul_of_nonneg_right (a:=q + 1) (b:=l.tdiv u) (c:=u) (by omega) (by omega);rw [Int.add_mul,Int.one_mul] at this;omega
 ·intro h;rcases Int.lt_or_le q (l.tdiv u) with h9 | h9
  ·exact h9
  ·have:=Int.mul_le_mul_of_nonneg_right (a:=l.tdiv u) (b:=q) (c:=u) (by omega) (by omega);omega
theorem rJ (n u:Int) (hn : -9223372036854775808<=n/\n<=9223372036854775807) (hu : -9223372036854775808<=u/\u<=9223372036854775807):EvP prog 211 [.v (.int .i64 n),.v (.int .i64 u)] (CA (bK n u)):=by
 have hF:bK n u=if u < 1 then (0,false) else if n - n % u < -9223372036854775808 then (0,false) else (n - n % u,true):=rfl
 generalize bK n u=F at hF ⊢;refine eG 26 [.tmp 4,.tmp 5] func211 rfl ntmps211 rfl fun _ _ _ _=>?_;refine br ?_ ?_<;>intro c
 ·have c:u < 1:=sU c;rw [ai c] at hF;subst hF;exact ⟨_,ax,rfl⟩
 have c:¬ u < 1:=sU c;rw [ah c] at hF;have h1:=Int.emod_nonneg n (show u≠0 by omega);have h2:=Int.emod_lt_of_pos n (show 0 < u by omega);have hT:=Int.mul_tdiv_add_tmod n u;rw [Int.mul_comm] at hT;have hm:=rI (n:=n) (u:=u) (by omega);have hb:=tdiv_le (n:=n) (u:=u) (by omega);have hbl:=tdiv_le (n:=-9223372036854775808) (u:=u) (by omega);have hl:=Int.mul_tdiv_add_tmod (-9223372036854775808) u;rw [Int.mul_comm] at hl;have eP:=rI (n:=-9223372036854775808) (u:=u) (by omega);have hml1:=Int.emod_nonneg (-9223372036854775808) (show u≠0 by omega);have hml2:=Int.emod_lt_of_pos (-9223372036854775808) (show 0 < u by omega)
 have hsg:(0<=n->0<=n.tmod u/\n.tmod u<=n)/\(n<=0->n.tmod u<=0/\n<=n.tmod u):=by
  constructor
  ·intro h;rw [Int.tmod_eq_emod_of_nonneg h];exact ⟨h1,emod_le h (by omega)⟩
  ·intro h;have h5:(-n).tmod u = -(n.tmod u):=Int.neg_tmod ..;rw [Int.tmod_eq_emod_of_nonneg (by omega)] at h5;have h7:=Int.emod_nonneg (-n) (show u≠0 by omega);have h8:=emod_le (show 0 <= -n by omega) (show 1<=u by omega);omega
 have nz:(-9223372036854775808:Int).tmod u<=0 /\ -9223372036854775808<=(-9223372036854775808:Int).tmod u:=by
  have h5:(-(-9223372036854775808):Int).tmod u = -((-9223372036854775808:Int).tmod u):=Int.neg_tmod ..;rw [Int.tmod_eq_emod_of_nonneg (by omega)] at h5;have h7:=Int.emod_nonneg (-(-9223372036854775808)) (show u≠0 by omega);have h8:=emod_le (show (0:Int) <= -(-9223372036854775808) by omega) (show 1<=u by omega);omega
 have hTr : -9223372036854775808<=n.tdiv u/\n.tdiv u<=9223372036854775807:=by
  rcases Int.le_total 0 (n.tdiv u) with h | h
  ·have:=hb.1 h;omega
  ·have:=hb.2 h;omega
 have hLr : -9223372036854775808<=(-9223372036854775808:Int).tdiv u/\(-9223372036854775808:Int).tdiv u<=9223372036854775807:=by
  rcases Int.le_total 0 ((-9223372036854775808:Int).tdiv u) with h | h
  ·have:=hbl.1 h;omega
  ·have:=hbl.2 h;omega
 have hw5:IntKind.i64.wrap ((-9223372036854775808:Int).tdiv u)=(-9223372036854775808:Int).tdiv u:=wrap64 (by omega) (by omega);have hw1:IntKind.i64.wrap (n.tdiv u)=n.tdiv u:=wrap64 (by omega) (by omega);have hw2:IntKind.i64.wrap (IntKind.i64.wrap (n.tdiv u) * u)=n.tdiv u * u:=by rw [hw1];exact wrap64 (by omega) (by omega)
 refine ⟨⟨rfl,by omega⟩,?_⟩;refine br ?_ ?_<;>intro g
 ·have g:n < IntKind.i64.wrap (IntKind.i64.wrap (n.tdiv u) * u):=sU g;rw [hw2] at g;have hR:n.tmod u < 0:=by omega
  have hmr:=hm.1 hR
  have hqr : -9223372036854775808<=n.tdiv u - 1:=by
   rcases Int.le_total 0 (n.tdiv u) with h | h
   ·omega
   ·have:=hb.2 h;omega
  have qO:IntKind.i64.wrap (IntKind.i64.wrap (n.tdiv u) - 1)=n.tdiv u - 1:=by rw [hw1];exact wrap64 hqr (by omega)
  have X9:(n.tdiv u - 1) * u=n - n % u:=by rw [Int.sub_mul,Int.one_mul];omega
  refine ⟨⟨rfl,by omega⟩,?_⟩;refine br ?_ ?_<;>intro h
  ·have h:IntKind.i64.wrap (IntKind.i64.wrap (n.tdiv u) - 1) < IntKind.i64.wrap ((-9223372036854775808:Int).tdiv u):=sU h;rw [hw5,qO,CB (by omega) (by omega),X9] at h;rw [ai (by omega)] at hF;subst hF;exact ⟨_,ax,rfl⟩
  ·have h:¬ IntKind.i64.wrap (IntKind.i64.wrap (n.tdiv u) - 1) < IntKind.i64.wrap ((-9223372036854775808:Int).tdiv u):=sU h;rw [hw5,qO,CB (by omega) (by omega),X9] at h;rw [ah (by omega)] at hF;have tZ:IntKind.i64.wrap (IntKind.i64.wrap (IntKind.i64.wrap (n.tdiv u) - 1) * u)=n - n % u:=by rw [qO,X9];exact wrap64 (by omega) (by omega)
   refine ⟨.tup [.v (.int .i64 (IntKind.i64.wrap (IntKind.i64.wrap (IntKind.i64.wrap (n.tdiv u) - 1) * u))),.v (.bool true)],ax,?_⟩;rw [hF];exact congrArg (fun z=>DV.tup [.v (.int .i64 z),.v (.bool true)]) tZ
 ·have g:¬ n < IntKind.i64.wrap (IntKind.i64.wrap (n.tdiv u) * u):=sU g;rw [hw2] at g;have hR:¬ n.tmod u < 0:=by omega
  have hmr:=hm.2 hR;have qO:=hw1;have X9:n.tdiv u * u=n - n % u:=by omega
  refine ⟨⟨rfl,by omega⟩,?_⟩;refine br ?_ ?_<;>intro h
  ·have h:IntKind.i64.wrap (n.tdiv u) < IntKind.i64.wrap ((-9223372036854775808:Int).tdiv u):=sU h;rw [hw5,qO,CB (by omega) (by omega),X9] at h;rw [ai (by omega)] at hF;subst hF;exact ⟨_,ax,rfl⟩
  ·have h:¬ IntKind.i64.wrap (n.tdiv u) < IntKind.i64.wrap ((-9223372036854775808:Int).tdiv u):=sU h;rw [hw5,qO,CB (by omega) (by omega),X9] at h;rw [ah (by omega)] at hF;have tZ:IntKind.i64.wrap (IntKind.i64.wrap (n.tdiv u) * u)=n - n % u:=by rw [qO,X9];exact wrap64 (by omega) (by omega)
   refine ⟨.tup [.v (.int .i64 (IntKind.i64.wrap (IntKind.i64.wrap (n.tdiv u) * u))),.v (.bool true)],ax,?_⟩;rw [hF];exact congrArg (fun z=>DV.tup [.v (.int .i64 z),.v (.bool true)]) tZ
end Go.Proofs.YtgjagnmeonoehaaGreat
