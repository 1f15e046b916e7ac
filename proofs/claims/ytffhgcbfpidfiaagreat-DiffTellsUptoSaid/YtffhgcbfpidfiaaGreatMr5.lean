/- Part 5 of the proof: What resolve.Build says of a schema; lattices in which nothing is wrong; resolve.Build; Reading a plan: Len, Root, Lattice, Node, Find; slices.Clone; of no plan as well; The reference of chapter 17: Great, Same; The program's comparing of schemas; The law's example: a type that leads to itself; The law of no plan: the call returns true; The document's relations: Leads; The document's lattices: Find, pairs, Leq, Loop; The document's lattices: what is wrong; The document's labels: over, Least, Of; The document's schemas: Find, word, all, Flat, End, Start; The document's schemas: Flat, End, Start; The document's schemas: named, unknown; The reference's Wrong returns what is wrong with a type; The document's schemas: what is wrong; The document's nodes: Same, of equal ones; the law's node; The document's nodes: node; The document's plan: Build; What is known of a type with which nothing is wrong; labels have levels; What is known of the nodes of a plan; A plan, as its readers know it; Values, plain; how many are in one, how deep they lie; What is read of a value, as the plain data; What the frames of laws over values share; The greatest multiple of a unit that is at most a number. No condition. -/
import Derived.Test.YtffhgcbfpidfiaaGreatMr3
import Derived.Test.YtffhgcbfpidfiaaGreatMr4
set_option linter.all false
set_option maxRecDepth 100000
namespace Go.Proofs.YtffhgcbfpidfiaaGreat
open Go Go.RowKit Dv Go.Proofs.Tryz
theorem pa {l:List Wd} {o:List (Wd × Wd)} (h:(latF l o).1=0):(fK l o).1=0/\(enumL l 0 l).1=0/\(numF (ay l) o).1=0/\bR (kf l.length (eO l.length (di (ay l) o))) l.length=none/\bR (nc (eO l.length (di (ay l) o)) l.length) l.length=none:=by
 unfold latF at h;split at h
 ·rename_i h1;exact (h1 h).elim
 ·rename_i h1;split at h
  ·rename_i h2;exact (h2 h).elim
  ·rename_i h2;split at h
   ·rename_i h3;exact (h3 h).elim
   ·rename_i h3;refine ⟨by simpa using h1,by simpa using h2,by simpa using h3,?_⟩;split at h
    ·cases h
    ·rename_i h4;refine ⟨h4,?_⟩;split at h
     ·cases h
     ·rename_i h5;exact h5
theorem dD {p:Nat->Bool} {n:Nat} (h:bR p n=none):∀ a,a < n->p a=false:=by
 intro a ha;unfold bR at h;rw [List.find?_eq_none] at h;have:=h a (sU ha);simpa using this
theorem kY {l:List Wd} {o:List (Wd × Wd)} (h:(latF l o).1=0):dN (eO l.length (di (ay l) o)) l.length/\l.length<=32:=by
 obtain ⟨h1,h2,h3,h4,h5⟩:=pa h;have hP:=nX h3;rw [dq] at hP
 have FC:l ≠ []:=by
  rintro rfl;simp [fK] at h1
 have On:l.length<=32:=by
  rcases Nat.lt_or_ge 32 l.length with h | h
  ·simp [fK,FC,h] at h1
  ·exact h
 have IX:∀ a b,a < l.length->b < l.length->kU (eO l.length (di (ay l) o)) l.length a b=false:=by
  have key:∀ a b,a<=b->b < l.length->kU (eO l.length (di (ay l) o)) l.length a b=false:=fun a b oT hb=>by
   have:=dD h5 b hb;unfold nc at this;rw [List.any_eq_false] at this;have:=this a (by simp;omega);simpa using this
  intro a b ha hb;rcases Nat.le_total a b with h | h
  ·exact key a b h hb
  ·have:=key b a h ha;unfold kU at this ⊢;rw [vV,vW];exact this
 refine ⟨{
  pos:=List.length_pos_iff.2 FC
  rfl':=fun a ha=>rO hP ha
  tr:=fun a b c ha hb hc=>F5 hP ha hb hc
  Gb:=fun a b ha hb h6 h7=>by
   have:=dD h4 a ha;unfold kf at this;rw [List.any_eq_false] at this;have:=this b (sU hb);simp only [Bool.and_eq_true,decide_eq_true_eq,not_and] at this;rcases Nat.lt_trichotomy a b with h8 | h8 | h8
   ·exact (this (by omega) h6 h7).elim
   ·exact h8
   ·exact (this (by omega) h6 h7).elim
  jn:=fun a b ha hb=>by
   have:=IX a b ha hb;unfold kU at this;simp only [Bool.or_eq_false_iff,Option.isNone_eq_false_iff] at this;exact Option.isSome_iff_exists.1 this.1
  mt:=fun a b ha hb=>by
   have:=IX a b ha hb;unfold kU at this;simp only [Bool.or_eq_false_iff,Option.isNone_eq_false_iff] at this
   exact Option.isSome_iff_exists.1 this.2 },On⟩
def ej (s:Sch) (aE:List Nat) (js:List Int):Lx:=⟨ay s.ae,aE,closeR (fb s.ae.length (di (ay s.ae) s.order)) s.ae.length,js,eO s.ae.length (di (ay s.ae) s.order)⟩
theorem R0 {s:Sch} {d:DV} (h:(latF s.ae s.order).1=0) (hd:V8 s.ae s.order d) (hw:s.ae.length<=1099511627776):∃ aE js,(ej s aE js).OK/\d=(ej s aE js).pd:=by
 obtain ⟨aE,js,hT,kK,oM,ur,rfl⟩:=hd;obtain ⟨h1,h2⟩:=kY h;refine ⟨aE,js,⟨hT,by show aE.length<=_;omega,?_,?_,?_⟩,rfl⟩
 ·show dN _ (ay s.ae).length;rw [dq];exact h1
 ·show (ay s.ae).length<=32;rw [dq];exact h2
 ·show ∀ x y,x < (ay s.ae).length->y < (ay s.ae).length->JM _ (ay s.ae).length js x y;rw [dq];exact ur
def iE (s:Sch) (l:List Wd):Int:=A5 (eO s.ae.length (di (ay s.ae) s.order)) (ay s.ae) l
def kh (s:Sch) (t:Ty):Ft:=knT ⟨ay s.ae,[],[],[],fun _ _=>false⟩ (tL s) t
mutual
theorem zt {X Y:Lx} (h:X.af=Y.af) (L:List ByteArray):∀ t:Ty,knT X L t=knT Y L t
 | .mk h1 ps=>by rw [knT,knT,zu h L ps]
theorem zu {X Y:Lx} (h:X.af=Y.af) (L:List ByteArray):∀ ps:Pts,knP X L ps=knP Y L ps
 | .nil=>by rw [knP,knP]
 | .cons p t r=>by
  rw [knP,knP,zu h L r,zt h L t];unfold Lx.bad;rw [h]
end
theorem Wl (s:Sch) (aE:List Nat) (js:List Int) (t:Ty):knT (ej s aE js) (tL s) t=kh s t:=zt (X:=ej s aE js) (Y:=⟨ay s.ae,[],[],[],fun _ _=>false⟩) rfl (tL s) t
def kF (s:Sch):Ft:=
 if (latF s.ae s.order).1≠0 then latF s.ae s.order
 else if (ei s).1≠0 then ei s
 else if (eaR s.root s.types 0).1.1≠0 then (eaR s.root s.types 0).1
 else if (eaL (kh s) (kh s s.root) s.types).1≠0 then eaL (kh s) (kh s s.root) s.types
 else loopF s
def ndsAll (lev:List Wd->Int) (s:Sch):List (Wd × Ty)->Nat->List Nd
 | [],_=>[]
 | x :: r,k=>ndsT lev s x.2 k ++ ndsAll lev s r (k + x.2.nn)
def qC (s:Sch):List Nd:=ndsAll (iE s) s s.types 0
def aQ (s:Sch):List Nd:=qC s ++ ndsT (iE s) s s.root (qC s).length
def dW (s:Sch):Int:=nh s s.root (qC s).length
def Uk (s:Sch) (aE kG:List Nat) (js:List Int):List DV:=
 [(ej s aE js).pd,.sl 7 (cY (aQ s)) none,.v (.int .i64 (dW s)),.pt (cJ (tL s) kG) 0,.sl 1 (dInts (namedL s)) none]
def Oo (s:Sch) (d:DV):Prop:=∃ aE kG js,(ej s aE js).OK/\ie (tL s) kG/\kG.length<=s.types.length/\d = .pt (Uk s aE kG js) 0
def Gp (s:Sch) (r:DV) (_:List (List DV)) (_:List TkE):Prop:=
 if (kF s).1≠0 then r = .tup [.v (.pointer none),(kF s).d] else ∃ d,Oo s d/\r = .tup [d,Ft.d (0,0)]
theorem ni {s:Sch} {f:Ft} {os:List (List DV)} {tk:List TkE} (h:kF s=f) (hf:f.1≠0):Gp s (.tup [.v (.pointer none),f.d]) os tk:=by
 unfold Gp;rw [h,if_pos hf]
theorem R4 {s:Sch} {d:DV} {os:List (List DV)} {tk:List TkE} (h:(kF s).1=0) (hd:Oo s d):Gp s (.tup [d,Ft.d (0,0)]) os tk:=by
 unfold Gp;rw [if_neg (by rw [h];simp)];exact ⟨d,hd,rfl⟩
theorem Oq {F:Ty->Ft} {z:Ft}:∀ {l:List (Wd × Ty)},(eaL F z l).1=0->z.1=0/\∀ x∈l,(F x.2).1=0
 | [],h=>⟨h,fun x hx=>by cases hx⟩
 | x :: r,h=>by
  rw [eaL] at h;split at h
  ·rename_i h1;exact (h1 h).elim
  ·rename_i h1;obtain ⟨h2,h3⟩:=Oq h;refine ⟨h2,fun y hy=>?_⟩;rcases List.mem_cons.1 hy with rfl | hy
   ·simpa using h1
   ·exact h3 y hy
theorem Ot {z:Ty}:∀ {l:List (Wd × Ty)} {m:Int},0<=m->(eaR z l m).1.1=0->(wrong z 1 0).1.1=0/\(∀ x∈l,(wrong x.2 1 0).1.1=0)/\(eaR z l m).2=m + ((l.map fun x=>x.2.cnt).sum + z.cnt:Nat)/\(eaR z l m).2<=512
 | [],m,_,h=>by
  rw [eaR] at h ⊢;obtain ⟨h1,h2,h3,_⟩:=nZ h;exact ⟨h3,(fun x hx=>by cases hx),(by simp [h1]),h2⟩
 | x :: r,m,hm,h=>by
  rw [eaR] at h ⊢;split at h
  ·rename_i h1;exact (h1 h).elim
  ·rename_i h1;rw [if_neg h1];obtain ⟨g1,g2,g3,_⟩:=nZ (sU h1);obtain ⟨h2,h3,h4,h5⟩:=Ot (by omega) h;refine ⟨h2,fun y hy=>?_,(by rw [h4,g1];simp only [List.map_cons,List.sum_cons];omega),h5⟩;rcases List.mem_cons.1 hy with rfl | hy
   ·exact g3
   ·exact h3 y hy
theorem wm (lev:List Wd->Int) (s:Sch):∀ (l:List (Wd × Ty)) (k:Nat),(ndsAll lev s l k).length=(l.map fun x=>x.2.nn).sum
 | [],_=>rfl
 | x :: r,k=>by simp only [ndsAll,List.length_append,jU,wm lev s r,List.map_cons,List.sum_cons]
theorem wo:∀ l:List (Wd × Ty),(l.map fun x=>x.2.nn).sum<=(l.map fun x=>x.2.cnt).sum
 | []=>Nat.le_refl _
 | x :: r=>by
  have:=x.2.gm;have:=wo r;simp only [List.map_cons,List.sum_cons];omega
theorem zw:∀ l:List Nd,(cY l).flatten.length=l.length * 7
 | []=>rfl
 | a :: r=>by
  have:=zw r;simp only [cY,List.map_cons,List.flatten_cons,List.length_append,List.length_cons] at this ⊢;rw [this];simp only [jc,List.length_cons,List.length_nil];omega
theorem Ba {X:Lx} {s:Sch} {t:Ty} (h:(knT X (tL s) t).1=0):tO s t=true:=by
 obtain ⟨hd,ps⟩:=t;have:=(l4 h).1;unfold tO;exact decide_eq_true this
theorem Dz {s:Sch} (h:(loopF s).1=0):∀ i,i < s.types.length->∃ k,endI s (s.types.length + 1) i=some k:=by
 intro i hi;unfold loopF at h;split at h
 ·rename_i h1;have:=dD h1 i hi;simp only [Option.isNone_eq_false_iff] at this;exact Option.isSome_iff_exists.1 this
 ·cases h
abbrev Ou (s:Sch) (aE:List Nat) (lc:List DV) (m:Int) (f1 f2:Int) (n:Nat) (base:List DV) (e:Nat):St:=
 ⟨[(1,⟨[],.loc 4 0⟩),(3,⟨[],.loc 3 0⟩),(6,⟨[],.loc 0 0⟩),(59,⟨[],.sl 11 (dNms s.types) none⟩),(60,⟨[],.v (.int .i64 (dNms s.types).length)⟩),(61,⟨[],.v (.int .i64 e)⟩)],
  [bC s (.pt lc 0) (.loc 1 0) m,L0 s aE lc n,[.v (.int .i64 f1),.v (.int .i64 f2)],[.v (.int .i64 0),.v (.int .i64 0)],dR s],[Gk n base]⟩
theorem wu (s:Sch) (hs:s.wt<=1099511627776):Ev prog 8 [.agg (dR s)] [] [] (Gp s):=by
 have hF:=kF.eq_1 s;have hw:=hs;simp only [Sch.wt] at hw;have hwl:=bw s.ae;have hwn:=jx s.types;have Rq:=Dh s.ae s.order (by omega) (by omega);have tH:=fun lc=>A8 s lc (by omega)
 have cr:∀ t,(t=s.root∨∃ x∈s.types,t=x.2)->t.wt<=1099511627776:=fun t ht=>by
  rcases ht with rfl | ⟨x,hx,rfl⟩
  ·omega
  ·have:=gx hx;omega
 have aa0:=fun lc aE=>Gh s lc aE 0 (by omega) (by omega) (by omega) cr;have aa1:=fun (X:Lx) (hX:X.OK) (aE:List Nat) (hT:ie (tL s) aE) (kK:aE.length<=1099511627776) (m:Int)=>Kx s X.pd (Gg s aE (ia X.af (cJ X.af X.aE) X.rows X.js)) m (by omega) 30 Vr (knT X (tL s)) (fun t ht=>we hX s aE (.pt (ia X.af (cJ X.af X.aE) X.rows X.js) 0) (.v (.slice none 0 0)) (.v (.int .i64 0)) (.v (.slice none 0 0)) m hT kK t.wt t (Nat.le_refl _) (cr t ht))
 have Wm:(ei s).1=0->s.types.length<=64:=fun h=>by
  unfold ei at h;split at h
  ·cases h
  ·omega
 have hLx:=fun d h hd=>@R0 s d h hd (by omega);have Ul:=fun (lat:DV) (aE:List Nat) (a b c e0:DV) (m:Int)=>Ge s lat aE a b c e0 m;have Ov:=fun (lc:List DV) (aE:List Nat) (m:Int)=>Du s lc aE m;have ey:=fun (X:Lx) (hX:X.OK) (aE:List Nat) (m:Int) (hT:ie (tL s) aE) (kK:aE.length<=1099511627776) (t:Ty) (ht:t.wt<=1099511627776)=>zq hX s aE m hT kK t.wt t (Nat.le_refl _) ht;refine eG 85 [.tmp 2,.cell 3 41] func8 rfl ntmps8 rfl fun _ _ _ _=>?_;generalize hS:s=S at *;obtain ⟨ae,order,types,⟨rh,rp⟩⟩:=s;subst hS;refine bL en26 rfl Rq ax (fun r hr=>?_);by_cases hL:(latF ae order).1≠0
 ·have hL':=hL;rw [if_pos (show (latF (Sch.mk ae order types (.mk rh rp)).ae (Sch.mk ae order types (.mk rh rp)).order).1≠0 from hL)] at hF;unfold F8 at hr;rw [if_pos (show (latF (Sch.mk ae order types (.mk rh rp)).ae (Sch.mk ae order types (.mk rh rp)).order).1≠0 from hL)] at hr;subst hr;refine br ?_ ?_<;>intro h
  ·refine dS ?_;exact ⟨_,ax,ni (os:=[]) (tk:=[]) hF hL⟩
  ·exfalso;simp at h;exact hL h
 unfold F8 at hr;rw [if_neg (show ¬ (latF (Sch.mk ae order types (.mk rh rp)).ae (Sch.mk ae order types (.mk rh rp)).order).1≠0 from hL)] at hF hr;obtain ⟨d,hd,rfl⟩:=hr;have hL0:(latF ae order).1=0:=sU hL;obtain ⟨aE,js,hX,rfl⟩:=hLx d hL0 hd;generalize Wn:ej ⟨ae,order,types,.mk rh rp⟩ aE js=X at hX;refine br (fun h=>?_) (fun _=>?_)
 ·exfalso;simp at h;exact hL h
 refine dx.aaV 0 4 rfl rfl rfl rfl (dx.aaV 1 3 rfl rfl rfl rfl ?_);refine fY 2 0 en27 rfl rfl rfl wC0 wC0 (tH (ia X.af (cJ X.af X.aE) X.rows X.js)) (fun r gI bU hΦ h1 h2=>?_);obtain ⟨rfl,Ka⟩:=hΦ;have h2:=List.eq_nil_of_length_eq_zero h2;subst h2;by_cases Gj:(ei ⟨ae,order,types,.mk rh rp⟩).1≠0
 ·rw [if_pos Gj] at hF
  obtain ⟨a,b,rfl⟩:∃ a b,gI=[a,b]:=by
   match gI,h1 with
   | [a,b],_=>exact ⟨a,b,rfl⟩
  refine br ?_ ?_<;>intro h
  ·refine dS ?_;exact ⟨_,ax,ni (os:=[]) (tk:=[]) hF Gj⟩
  ·exfalso;simp at h;exact Gj h
 rw [if_neg Gj] at hF;have aa2:(ei ⟨ae,order,types,.mk rh rp⟩).1=0:=sU Gj;have Ow:=Wm aa2;obtain ⟨kG,hT,kK,rfl⟩:=Ka aa2;refine br (fun h=>?_) (fun _=>?_)
 ·exfalso;simp at h;exact Gj h
 refine fY 2 0 YR rfl rfl rfl wC0 wC0 (aa0 (ia X.af (cJ X.af X.aE) X.rows X.js) kG) (fun r gI bU hΦ h1 h2=>?_);obtain ⟨rfl,rfl⟩:=hΦ;have h2:=List.eq_nil_of_length_eq_zero h2;subst h2;by_cases hR:(eaR (.mk rh rp) types 0).1.1≠0
 ·rw [if_pos (show (eaR (Sch.mk ae order types (.mk rh rp)).root (Sch.mk ae order types (.mk rh rp)).types 0).1.1≠0 from hR)] at hF;refine br ?_ ?_<;>intro h
  ·refine dS ?_;exact ⟨_,ax,ni (os:=[]) (tk:=[]) hF hR⟩
  ·exfalso;simp at h;exact hR h
 rw [if_neg (show ¬ (eaR (Sch.mk ae order types (.mk rh rp)).root (Sch.mk ae order types (.mk rh rp)).types 0).1.1≠0 from hR)] at hF;have hR0:(eaR (.mk rh rp) types 0).1.1=0:=sU hR;refine br (fun h=>?_) (fun _=>?_)
 ·exfalso;simp at h;exact hR h
 have hea:=aa1 X hX kG hT (by have:types.length<=64:=Ow;have:kG.length<=types.length:=kK;omega) (eaR (.mk rh rp) types 0).2;have Wo:∀ t,knT X (tL ⟨ae,order,types,.mk rh rp⟩) t=kh ⟨ae,order,types,.mk rh rp⟩ t:=fun t=>by rw [<- Wn];exact Wl _ _ _ t
 have Wp:eaL (knT X (tL ⟨ae,order,types,.mk rh rp⟩)) (knT X (tL ⟨ae,order,types,.mk rh rp⟩) (.mk rh rp)) types=eaL (kh ⟨ae,order,types,.mk rh rp⟩) (kh ⟨ae,order,types,.mk rh rp⟩ (.mk rh rp)) types:=by
  rw [show knT X (tL ⟨ae,order,types,.mk rh rp⟩)=kh ⟨ae,order,types,.mk rh rp⟩ from funext Wo]
 refine IU YR hea ax rfl rfl ?_;by_cases hK:(eaL (kh ⟨ae,order,types,.mk rh rp⟩) (kh ⟨ae,order,types,.mk rh rp⟩ (.mk rh rp)) types).1≠0
 ·rw [if_pos (show (eaL (kh ⟨ae,order,types,.mk rh rp⟩) (kh ⟨ae,order,types,.mk rh rp⟩ (Sch.mk ae order types (.mk rh rp)).root) (Sch.mk ae order types (.mk rh rp)).types).1≠0 from hK)] at hF;refine br ?_ ?_<;>intro h
  ·refine dS ?_;refine ⟨.tup [.v (.pointer none),(eaL (knT X (tL ⟨ae,order,types,.mk rh rp⟩)) (knT X (tL ⟨ae,order,types,.mk rh rp⟩) (.mk rh rp)) types).d],ax,?_⟩;rw [Wp];exact ni (os:=[]) (tk:=[]) hF hK
  ·exfalso;simp only [Wp] at h;simp at h;exact hK h
 rw [if_neg (show ¬ (eaL (kh ⟨ae,order,types,.mk rh rp⟩) (kh ⟨ae,order,types,.mk rh rp⟩ (Sch.mk ae order types (.mk rh rp)).root) (Sch.mk ae order types (.mk rh rp)).types).1≠0 from hK)] at hF;have hK0:(eaL (kh ⟨ae,order,types,.mk rh rp⟩) (kh ⟨ae,order,types,.mk rh rp⟩ (.mk rh rp)) types).1=0:=sU hK;refine br (fun h=>?_) (fun _=>?_)
 ·exfalso;have h:(!decide ((eaL (knT X (tL ⟨ae,order,types,.mk rh rp⟩)) (knT X (tL ⟨ae,order,types,.mk rh rp⟩) (.mk rh rp)) types).1=0))=true:=h;rw [Wp,hK0] at h;simp at h
 have kv:wdsWt ae + prsWt order + nmsWt types + (Ty.mk rh rp).wt<=1099511627776:=hw;have hnmw:nmsWt types<=1099511627776:=by omega
 obtain ⟨Um,gZ⟩:=Oq hK0;have hkr':(knT X (tL ⟨ae,order,types,.mk rh rp⟩) (.mk rh rp)).1=0:=by rw [Wo];exact Um
 have aa4:∀ x∈types,(knT X (tL ⟨ae,order,types,.mk rh rp⟩) x.2).1=0:=fun x hx=>by rw [Wo];exact gZ x hx
 have aa5:∀ x∈types,tO ⟨ae,order,types,.mk rh rp⟩ x.2=true:=fun x hx=>Ba (aa4 x hx);have R5:kG.length<=1099511627776:=by have:types.length<=64:=Ow;have:kG.length<=types.length:=kK;omega
 refine IU en31 (Ul X.pd kG X.pd (.v (.slice none 0 0)) (.v (.int .i64 0)) (.v (.slice none 0 0)) (eaR (.mk rh rp) types 0).2 hT R5 Ow aa5) ax rfl rfl ?_;by_cases hO:(loopF ⟨ae,order,types,.mk rh rp⟩).1≠0
 ·refine br ?_ ?_<;>intro h
  ·refine dS ?_;exact ⟨_,ax,ni (os:=[]) (tk:=[]) hF hO⟩
  ·exfalso;simp at h;exact hO h
 have hO0:(loopF ⟨ae,order,types,.mk rh rp⟩).1=0:=sU hO;have hF0:(kF ⟨ae,order,types,.mk rh rp⟩).1=0:=by rw [hF];exact hO0
 refine br (fun h=>?_) (fun _=>?_)
 ·exfalso;simp at h;exact hO h
 refine fY 2 0 en32 rfl rfl rfl wC0 wC0 (Ov (ia X.af (cJ X.af X.aE) X.rows X.js) kG (eaR (.mk rh rp) types 0).2 hT R5 Ow aa5 hnmw (Dz hO0)) (fun r gI bU hΦ h1 h2=>?_);subst hΦ;have h2:=List.eq_nil_of_length_eq_zero h2;subst h2;clear tH aa0 aa1 Ul Ov hea Rq;have hN:(dNms types).length=types.length:=aal types;obtain ⟨KF,CP,hcm,aa6⟩:=Ot (Int.le_refl 0) hR0;generalize (eaR (.mk rh rp) types 0).2=m at hcm aa6 ⊢
 refine av (fun j st=>∃ (e n:Nat) (base:List DV) (N:List Nd),st=Ou ⟨ae,order,types,.mk rh rp⟩ kG (ia X.af (cJ X.af X.aE) X.rows X.js) m (loopF ⟨ae,order,types,.mk rh rp⟩).1 (loopF ⟨ae,order,types,.mk rh rp⟩).2 n base e/\e<=types.length/\n=N.length/\base=(cY N).flatten/\N ++ ndsAll (iE ⟨ae,order,types,.mk rh rp⟩) ⟨ae,order,types,.mk rh rp⟩ (types.drop e) n=qC ⟨ae,order,types,.mk rh rp⟩/\j=types.length - e) types.length
  (Ou ⟨ae,order,types,.mk rh rp⟩ kG (ia X.af (cJ X.af X.aE) X.rows X.js) m (loopF ⟨ae,order,types,.mk rh rp⟩).1 (loopF ⟨ae,order,types,.mk rh rp⟩).2 0 [] 0) (dG 5 ⟨0,173,7,some []⟩ rfl rfl rfl wA0 rfl rfl wB0) ⟨0,0,[],[],rfl,by omega,rfl,rfl,rfl,by omega⟩ ?_
 rintro j st ⟨e,n,base,N,rfl,he,hn,QA,XQ,rfl⟩;have hl64':types.length<=64:=Ow;have Gq:X.lev=iE ⟨ae,order,types,.mk rh rp⟩:=by rw [<- Wn];all_goals rfl
 have htot:(qC ⟨ae,order,types,.mk rh rp⟩).length + (Ty.mk rh rp).nn<=512:=by
  have h1:=wo types;have h2:=(Ty.mk rh rp).gm;have h3:(qC ⟨ae,order,types,.mk rh rp⟩).length=(types.map fun x=>x.2.nn).sum:=wm _ _ _ _;omega
 have hbl:base.length=n * 7:=by rw [QA,hn,zw]
 have CE:n + (ndsAll (iE ⟨ae,order,types,.mk rh rp⟩) ⟨ae,order,types,.mk rh rp⟩ (types.drop e) n).length=(qC ⟨ae,order,types,.mk rh rp⟩).length:=by rw [<- XQ,List.length_append,hn]
 refine br ?_ ?_<;>intro hL
 ·have au:e < types.length:=by have:=hL;simp [hN] at this;exact this
  obtain ⟨x,hx⟩:=gX au;have XR:=mG hx;rw [drop_cons hx,ndsAll] at XQ CE;rw [List.length_append] at CE;have fV:=jU (iE ⟨ae,order,types,.mk rh rp⟩) ⟨ae,order,types,.mk rh rp⟩ x.2 n;have E8:=ey X hX kG m hT R5 x.2 (cr x.2 (.inr ⟨x,XR,rfl⟩)) (aa4 x XR) n base (by omega) hbl;rw [Gq] at E8;obtain ⟨xw,⟨xh,xp⟩⟩:=x;refine iX (dNms_get hx) ?_;refine fY 2 1 Ri rfl rfl rfl wC0 wC0 E8 (fun r gI bU hΦ h1 h2=>?_);obtain ⟨rfl,rfl,rfl⟩:=hΦ;refine ⟨Ou ⟨ae,order,types,.mk rh rp⟩ kG (ia X.af (cJ X.af X.aE) X.rows X.js) m (loopF ⟨ae,order,types,.mk rh rp⟩).1 (loopF ⟨ae,order,types,.mk rh rp⟩).2 (n + (ndsT (iE ⟨ae,order,types,.mk rh rp⟩) ⟨ae,order,types,.mk rh rp⟩ (.mk xh xp) n).length) (base ++ (cY (ndsT (iE ⟨ae,order,types,.mk rh rp⟩) ⟨ae,order,types,.mk rh rp⟩ (.mk xh xp) n)).flatten) (e + 1),(az 5 rfl (wA1 (nxt au (by omega))) rfl rfl rfl (wB1 (nxt au (by omega)))),types.length - (e + 1),by omega,e + 1,_,_,N ++ ndsT (iE ⟨ae,order,types,.mk rh rp⟩) ⟨ae,order,types,.mk rh rp⟩ (.mk xh xp) n,rfl,by omega,by rw [List.length_append,hn],by rw [QA];simp [cY],?_,rfl⟩;rw [List.append_assoc,fV];exact XQ
 have aN:e=types.length:=sW hN hL;subst aN;rw [List.drop_length,ndsAll,List.append_nil] at XQ;rw [List.drop_length,ndsAll,List.length_nil,Nat.add_zero] at CE;have QB:=ey X hX kG m hT R5 (.mk rh rp) (by omega) hkr' n base (by omega) hbl;rw [Gq] at QB;intro E a w hr;have j2:=kO hr;obtain ⟨b0,ty0,Fm,gH,hw0,Ml⟩:=j2.env.ek 0 _ rfl;obtain ⟨b1,ty1,arr1,eN,hw1,Ig⟩:=j2.env.ek 1 _ rfl;obtain ⟨v13,hv13,aa7⟩:=RvL.get (i:=13) (d:=.loc 1 0) Ml.1 rfl
 have aa8:v13 = .pointer (some ⟨b1,0,none⟩):=by
  unfold Rv at aa7;obtain ⟨b,hb,rfl⟩:=aa7;rw [eN] at hb;simp only [oI] at hb;rw [hb]
 subst aa8
 have mH:w.drew.cell? ⟨b0,13,none⟩=some (.pointer (some ⟨b1,0,none⟩)):=by
  rw [cy hw0];simpa using hv13
 have Vh:=RT j2.env [0,1,2,3];generalize yd:maskL [0,1,2,3] 0 _=bxm at Vh
 have hbmi:∀ (i:Nat) cs,bxm[i]? = some cs->cs ≠ []->2<=i:=fun i cs hi aT=>by
  rw [<- yd] at hi
  match i,hi with
  | 0,hi=>exact (aT (by simpa [maskL] using hi.symm)).elim
  | 1,hi=>exact (aT (by simpa [maskL] using hi.symm)).elim
  | i + 2,_=>omega
 refine kz (C:=fun w'=>CC E bxm w.drew w' /\ w'.cell? ⟨b0,13,none⟩=some (.pointer (some ⟨b1,0,none⟩))) (W:=fun i=>Nat.beq i 10) (Q:=fun a w=>kq _ _ .normal a w) mo (by decide +kernel) (fun _ _ h=>h) ⟨⟨fun _ _ _ _ _ _=>rfl,j2.env.sub⟩,mH⟩ ?_;show Go.Proofs.YtffhgcbfpidfiaaGreat.Dv.runT _ _ _ _ _ [0,1,2,3,4,5,6,7,8,9,10] _ _;refine l5 j2 rfl rfl rfl rfl rfl rfl (fun a0 h0=>?_);refine l5 h0 rfl rfl rfl rfl rfl rfl (fun a1 h1=>?_);refine l5 h1 rfl rfl rfl rfl rfl rfl (fun a2 h2=>?_);refine RV h2 rfl eN rfl rfl gH rfl rfl (fun w' h=>h.2) ⟨⟨fun _ _ _ _ _ _=>rfl,j2.env.sub⟩,mH⟩ rfl rfl (fun a3 h3=>?_);refine l5 h3 rfl rfl rfl rfl rfl rfl (fun a4 h4=>?_);refine l5 h4 rfl rfl rfl rfl rfl rfl (fun a5 h5=>?_);refine RU h5 rfl (bx:=bxm) (RS h5 Vh (fun w' h=>h.1)) ⟨⟨fun _ _ _ _ _ _=>rfl,j2.env.sub⟩,mH⟩ rfl rfl (by rw [<- yd];rfl) rfl (fun a6 h6=>?_);refine RW h6 rfl rfl rfl rfl rfl rfl Ri 2 1 rfl rfl wC0 wC0 QB rfl rfl ?_;intro v r gI bU E' w' hΦ _ _ bY Iy hx hβ hh;obtain ⟨rfl,rfl,rfl⟩:=hΦ;refine ⟨fun _ hC=>⟨⟨fun i b cs hb cG aT=>?_,fun x v hxv=>bY.env.sub x v (hx.c x v hxv)⟩,?_⟩,?_⟩
 ·exact hh i b (hbmi i cs cG aT) hb
 ·obtain ⟨b0',ty0',arr0',Wq,hw0',hc0'⟩:=bY.env.ek 0 _ rfl;rw [hβ,gH] at Wq;simp only [oI] at Wq;subst Wq;obtain ⟨u13,hu13,aa9⟩:=RvL.get (i:=13) (d:=.loc 1 0) hc0'.1 rfl;unfold Rv at aa9;obtain ⟨b,hb,rfl⟩:=aa9;rw [hβ,eN] at hb;simp only [oI] at hb;subst hb;rw [cy hw0'];simpa using hu13
 have h7:=aZ (dst:=some 77) bY rfl _ v Iy;have hrN:(qC ⟨ae,order,types,.mk rh rp⟩).length=n:=by rw [<- XQ,hn]
 have ry:base ++ (cY (ndsT (iE ⟨ae,order,types,.mk rh rp⟩) ⟨ae,order,types,.mk rh rp⟩ (.mk rh rp) n)).flatten=(cY (aQ ⟨ae,order,types,.mk rh rp⟩)).flatten:=by
  unfold aQ;rw [hrN,<- XQ,QA];simp [cY]
 have aba:(cY (aQ ⟨ae,order,types,.mk rh rp⟩)).length=n + (ndsT (iE ⟨ae,order,types,.mk rh rp⟩) ⟨ae,order,types,.mk rh rp⟩ (.mk rh rp) n).length:=by
  unfold aQ;rw [hrN];simp [cY,hrN]
 obtain ⟨E3,h8⟩:=RX h7 1 1 0 (ns:=cY (aQ ⟨ae,order,types,.mk rh rp⟩)) (congrArg (fun b=>some (Gk (n + (ndsT (iE ⟨ae,order,types,.mk rh rp⟩) ⟨ae,order,types,.mk rh rp⟩ (.mk rh rp) n).length) b)) ry) (fun x hx=>by
  simp only [cY,List.mem_map] at hx;obtain ⟨y,_,rfl⟩:=hx
  rfl) aba rfl rfl List.length_replicate
 refine l5 h8 rfl rfl rfl rfl rfl rfl (fun a8 h9=>?_);refine l5 h9 rfl rfl rfl rfl rfl rfl (fun a9 ru=>?_);refine KB ru rfl rfl rfl rfl rfl rfl ?_;refine ⟨.tup [.pt [X.pd,.sl 7 (cY (aQ ⟨ae,order,types,.mk rh rp⟩)) none,.v (.int .i64 (nh ⟨ae,order,types,.mk rh rp⟩ (.mk rh rp) n)),.pt (cJ (tL ⟨ae,order,types,.mk rh rp⟩) kG) 0,.sl 1 (dInts (namedL ⟨ae,order,types,.mk rh rp⟩)) none] 0,Ft.d (0,0)],ax,R4 (os:=[]) (tk:=[]) hF0 ⟨aE,kG,js,by rw [Wn];exact hX,hT,kK,?_⟩⟩;rw [Uk,Wn,dW,hrN]
theorem R6 (es:List (List DV)) (hl:es.length<=1099511627776):Ev prog 148 [.sl 1 es none] [] [] (fun r _ _=>r = .sl 1 es none∨(es=[]/\r = .v (.slice none 0 0))):=by
 refine eG 8 [.tmp 2] func148 rfl ntmps148 rfl fun _ _ _ _=>?_;refine Gn ⟨_,rfl⟩ rfl rfl rfl rfl (fun b hb=>?_);refine br ?_ ?_<;>intro h
 ·have h:b=true:=h;have he:es=[]:=Classical.byContradiction fun hn=>by rw [hb hn] at h;cases h
  subst he;exact Or.inr ⟨rfl,rfl⟩
 ·refine wj rfl rfl rfl rfl (hk:=?_);refine ⟨rfl,⟨by simp [maxLen];omega,by simp;omega⟩,?_⟩;exact ⟨_,ax,Or.inl rfl⟩
theorem R7 (es:List (List DV)) (hl:es.length<=1099511627776):Ev prog 149 [.sl 10 es none] [] [] (fun r _ _=>r = .sl 10 es none∨(es=[]/\r = .v (.slice none 0 0))):=by
 refine eG 8 [.tmp 2] func149 rfl ntmps149 rfl fun _ _ _ _=>?_;refine Gn ⟨_,rfl⟩ rfl rfl rfl rfl (fun b hb=>?_);refine br ?_ ?_<;>intro h
 ·have h:b=true:=h;have he:es=[]:=Classical.byContradiction fun hn=>by rw [hb hn] at h;cases h
  subst he;exact Or.inr ⟨rfl,rfl⟩
 ·refine wj rfl rfl rfl rfl (hk:=?_);refine ⟨rfl,⟨by simp [maxLen];omega,by simp;omega⟩,?_⟩;exact ⟨_,ax,Or.inl rfl⟩
def plD (lc:List DV) (A9:List Nd) (root:Int) (L:List ByteArray) (aE:List Nat) (named:List Nat):DV:=.pt [.pt lc 0,.sl 7 (cY A9) none,.v (.int .i64 root),.pt (cJ L aE) 0,.sl 1 (dInts named) none] 0
theorem kZ (l:List Nd):(cY l).length=l.length:=by simp [cY]
theorem fL {l:List Nd} {i:Nat} {n:Nd} (h:l[i]? = some n):(cY l)[i]? = some (jc n):=by simp [cY,h]
section
variable (lc:List DV) (A9:List Nd) (root:Int) (L:List ByteArray) (aE:List Nat) (named:List Nat)
theorem r7:EvP prog 147 [plD lc A9 root L aE named] (.v (.int .i64 A9.length)):=by
 refine eG 10 [.tmp 2] func147 rfl ntmps147 rfl fun _ _ _ _=>?_;refine (congrArg (fun z=>DV.v (.int .i64 z)) ?_:_=_);rw [kZ]
theorem Gr:EvP prog 41 [plD lc A9 root L aE named] (.v (.int .i64 root)):=by
 refine eG 9 [.tmp 2] func41 rfl ntmps41 rfl fun _ _ _ _=>?_;exact (rfl:_=_)
theorem KG:EvP prog 56 [plD lc A9 root L aE named] (.pt lc 0):=by
 refine eG 9 [.tmp 2] func56 rfl ntmps56 rfl fun _ _ _ _=>?_;exact ⟨_,ax,rfl⟩
theorem Gs (i:Nat) (n:Nd) (h:A9[i]? = some n) (hn:n.af.length<=1099511627776) (he:n.aw.length<=1099511627776) :
  EvP prog 90 [plD lc A9 root L aE named,.v (.int .i64 i)] (.tup [.agg (jc n),.v (.bool true)]):=by
 have au:=(gS h).1;have hlen:=r7 lc A9 root L aE named;have Ig:=R6 (dM n.af) (by rw [cg];exact hn);have nK:=R7 (fv n.aw) (by rw [bZ];exact he);refine eG 32 [.cell 4 173,.tmp 5] func90 rfl ntmps90 rfl fun _ _ _ _=>?_;refine cP Tv hlen ?_;refine br ?_ ?_<;>intro g
 ·exfalso;simp [pickB] at g;omega
 refine iX (fL h) ?_;refine dS ?_;refine p9 Zs rfl Ig ax (fun r1 hr1=>?_);rcases hr1 with rfl | ⟨h1,rfl⟩
 ·refine p9 Tw rfl nK ax (fun r2 lp=>?_);rcases lp with rfl | ⟨h2,rfl⟩
  ·exact ⟨.tup [.agg (jc n),.v (.bool true)],ax,rfl⟩
  ·exact ⟨.tup [.agg (jc n),.v (.bool true)],(by repeat' (first | exact rfl | exact trivial | exact Or.inr (Or.inl ⟨_,rfl⟩) | exact Or.inr ⟨_,rfl⟩ | exact Or.inl ⟨rfl,rfl⟩ | exact Or.inl rfl | refine Or.inr ⟨_,_,rfl,Nat.zero_le _,rfl,?_⟩ | refine ⟨_,_,rfl,?_,?_⟩ | refine ⟨_,rfl,?_⟩ | exact Or.inl ⟨h2,rfl⟩ | refine Or.inr (Or.inr (Or.inr ⟨_,_,rfl,?_⟩)) | exact Or.inl rfl | refine Or.inr ?_)),rfl⟩
 ·refine p9 Tw rfl nK ax (fun r2 lp=>?_);rcases lp with rfl | ⟨h2,rfl⟩
  ·exact ⟨.tup [.agg (jc n),.v (.bool true)],(by repeat' (first | exact rfl | exact trivial | exact Or.inr (Or.inl ⟨_,rfl⟩) | exact Or.inr ⟨_,rfl⟩ | exact Or.inl ⟨rfl,rfl⟩ | exact Or.inl rfl | refine Or.inr ⟨_,_,rfl,Nat.zero_le _,rfl,?_⟩ | refine ⟨_,_,rfl,?_,?_⟩ | refine ⟨_,rfl,?_⟩ | exact Or.inl ⟨h1,rfl⟩ | refine Or.inr (Or.inr (Or.inr ⟨_,_,rfl,?_⟩)) | exact Or.inl rfl | refine Or.inr ?_)),rfl⟩
  ·exact ⟨.tup [.agg (jc n),.v (.bool true)],(by repeat' (first | exact rfl | exact trivial | exact Or.inr (Or.inl ⟨_,rfl⟩) | exact Or.inr ⟨_,rfl⟩ | exact Or.inl ⟨rfl,rfl⟩ | exact Or.inl rfl | refine Or.inr ⟨_,_,rfl,Nat.zero_le _,rfl,?_⟩ | refine ⟨_,_,rfl,?_,?_⟩ | refine ⟨_,rfl,?_⟩ | exact Or.inl ⟨h1,rfl⟩ | exact Or.inl ⟨h2,rfl⟩ | refine Or.inr (Or.inr (Or.inr ⟨_,_,rfl,?_⟩)) | exact Or.inl rfl | refine Or.inr ?_)),rfl⟩
theorem Gt (i:Int) (h:i < 0∨A9.length<=i) :
  EvP prog 90 [plD lc A9 root L aE named,.v (.int .i64 i)] (.tup [.agg [.v (.int .i64 0),.v (.int .i64 0),.v (.int .i64 0),.v (.int .i64 0),.v (.int .i64 0),.v (.slice none 0 0),.v (.slice none 0 0)],.v (.bool false)]):=by
 have hlen:=r7 lc A9 root L aE named;refine eG 32 [.cell 4 173,.tmp 5] func90 rfl ntmps90 rfl fun _ _ _ _=>?_;refine br ?_ ?_<;>intro g
 ·refine cP Tv hlen ?_;refine br ?_ ?_<;>intro g2
  ·exact ⟨_,ax,rfl⟩
  ·exfalso;simp at g;simp [pickB,g] at g2;omega
 ·exact ⟨_,ax,rfl⟩
end
theorem Ox:EvP prog 56 [.v (.pointer none)] (.v (.pointer none)):=by
 refine eG 9 [.tmp 2] func56 rfl ntmps56 rfl fun _ _ _ _=>?_;exact (rfl:_=_)
abbrev uw (s:Sch) (n d k q:Int) (e:Nat):St:=
 ⟨[(1,⟨[],.loc 0 0⟩),(3,⟨[],.v (.int .i64 n)⟩),(4,⟨[],.v (.int .i64 d)⟩),(5,⟨[],.v (.int .i64 e)⟩)],[dR s],[]⟩
theorem Bb (s:Sch) (cr:s.wt<=1099511627776):Ev prog 24 [.agg (dR s)] [] [] (fun d _ _=>∃ b:Bool,d = .v (.bool b)):=by
 have h1:=bw s.ae;have h2:=iA s.order;have h3:=jx s.types;simp only [Sch.wt] at cr;have gV:=kb s.root.wt s.root (Nat.le_refl _) (by omega);obtain ⟨ae,order,types,⟨h,ps⟩⟩:=s;simp only at h1 h2 h3 cr gV;refine eG 60 [.tmp 2] func24 rfl ntmps24 rfl fun _ _ _ _=>?_;refine br ?_ ?_<;>intro _
 ·exact ⟨true,rfl⟩
 refine cP Rk gV ?_;refine av (fun j st=>∃ (e:Nat) (n d:Int),st=uw ⟨ae,order,types,.mk h ps⟩ n d 0 0 e/\e<=types.length/\j=types.length - e) types.length (uw ⟨ae,order,types,.mk h ps⟩ (Ty.mk h ps).cnt (Ty.mk h ps).deep 0 0 0) (weak_mk ⟨_,rfl⟩ wA rfl rfl rfl wB) ⟨0,_,_,rfl,by omega,by omega⟩ ?_;rintro j st ⟨e,n,d,rfl,he,rfl⟩;refine br ?_ ?_<;>intro hL
 ·have au:e < types.length:=by have:=hL;simp [aal] at this;exact this
  obtain ⟨w,hw⟩:=gX au;have CP:=gx (mG hw);have hs:=kb w.2.wt w.2 (Nat.le_refl _) (by omega);obtain ⟨w,u,us⟩:=w;simp only at hs;refine iX (dNms_get hw) ?_;refine cP Rk hs ?_;refine br ?_ ?_<;>intro _
  ·exact ⟨uw ⟨ae,order,types,.mk h ps⟩ _ _ 0 0 (e + 1),(weak_mk ⟨_,rfl⟩ wA rfl rfl rfl (wB1 (nxt au (by omega)))),types.length - (e + 1),by omega,e + 1,_,_,rfl,by omega,rfl⟩
  ·exact ⟨uw ⟨ae,order,types,.mk h ps⟩ _ _ 0 0 (e + 1),(weak_mk ⟨_,rfl⟩ wA rfl rfl rfl (wB1 (nxt au (by omega)))),types.length - (e + 1),by omega,e + 1,_,_,rfl,by omega,rfl⟩
 exact ⟨_,rfl⟩
def samePrs:List (Wd × Wd)->List (Wd × Wd)->Bool
 | [],[]=>true
 | x :: r,y :: s=>(decide (x.1.s=y.1.s) && decide (x.2.s=y.2.s)) && samePrs r s
 | _,_=>false
def sameNms:List (Wd × Ty)->List (Wd × Ty)->Bool
 | [],[]=>true
 | x :: r,y :: s=>(decide (x.1.s=y.1.s) && sameTy x.2 y.2) && sameNms r s
 | _,_=>false
def Ij (a b:Sch):Bool:=sameWds a.ae b.ae && samePrs a.order b.order && sameTy a.root b.root && sameNms a.types b.types
def cB (r:List Bool):List DV:=r.map fun b=>DV.v (.bool b)
def wv (r:List Bool):List (List DV):=r.map fun b=>[DV.v (.bool b)]
def cK (m:List (List Bool)):List (List DV):=m.map fun r=>[DV.sl 1 (wv r) none]
theorem r8 (r:List Bool):(cB r).length=r.length:=by simp [cB]
theorem ux (r:List Bool):(wv r).length=r.length:=by simp [wv]
theorem wx (m:List (List Bool)):(cK m).length=m.length:=by simp [cK]
theorem Oy {r:List Bool} {i:Nat} {b:Bool} (h:r[i]? = some b):(cB r)[i]? = some (DV.v (.bool b)):=by simp [cB,h]
theorem Bc (r:List Bool) (i:Nat) (b:Bool):(cB r).set i (DV.v (.bool b))=cB (r.set i b):=by simp [cB,List.map_set]
theorem I1 {r:List Bool} {i:Nat} {b:Bool} (h:r[i]? = some b):(wv r)[i]? = some [DV.v (.bool b)]:=by simp [wv,h]
theorem Oz {m:List (List Bool)} {i:Nat} {r:List Bool} (h:m[i]? = some r):(cK m)[i]? = some [DV.sl 1 (wv r) none]:=by simp [cK,h]
theorem qD (r:List Bool):(wv r).flatten=cB r:=by
 induction r with
 | nil=>rfl
 | cons b r ih=>simp only [wv,cB,List.map_cons,List.flatten_cons] at ih ⊢;rw [ih];all_goals rfl
theorem KH (n:Nat):(List.replicate n (vL [Value.bool false])).flatten=cB (List.replicate n false):=by
 induction n with
 | zero=>rfl
 | succ n ih=>simp only [List.replicate_succ,List.flatten_cons,ih];rfl
theorem dA {n m:Nat} {tk:List TkE} {l:List DV} {r:List Bool} (h:l=cB r):WeL n m tk l (cB r):=by
 subst h;refine vJ _ fun x hx=>?_;obtain ⟨z,_,rfl⟩:=List.mem_map.1 hx;exact ⟨_,rfl⟩
theorem Un {bx:List (List DV)} {N n0 m0 n:Nat} {r:List Bool} (hr:r.length=n) (hN:N<=0) (hb:bx[0]? = some (cB r)):Cc bx N n0 m0 (.sl 1 (wv r) none) (.ms 0 1 0 n n):=by
 simp only [Cc];refine Or.inr (Or.inr (Or.inl ⟨0,0,n,_,by rw [ux,hr],hN,hb,?_,?_,?_⟩))
 ·rw [qD,List.drop_zero,List.take_of_length_le (by rw [r8,ux];omega)]
 ·intro x hx;simp only [wv,List.mem_map] at hx;obtain ⟨_,_,rfl⟩:=hx;rfl
 ·intro x hx;rw [qD] at hx;obtain ⟨_,_,rfl⟩:=List.mem_map.1 hx;exact .inl ⟨_,rfl⟩
def fB (n:Nat) (l:List (Nat × Nat)):List (List Bool):=(List.range n).map (tM n l)
theorem Gu (n:Nat) (l:List (Nat × Nat)):(fB n l).length=n:=by simp [fB]
theorem Gv {n a:Nat} (l:List (Nat × Nat)) (h:a < n):(fB n l)[a]? = some (tM n l a):=by simp [fB,List.getElem?_range h]
theorem KI {n:Nat} {l:List (Nat × Nat)} (h:rN n l):fB n l=dw n (eO n l):=by
 unfold fB dw;exact List.map_congr_left fun a ha=>RC h (List.mem_range.1 ha)
def gn (l:List (Nat × Nat)) (r:List Bool) (e:Nat):List Bool:=(l.take e).foldl gT r
theorem Gw (l:List (Nat × Nat)) (r:List Bool) (e:Nat):(gn l r e).length=r.length:=oY (l.take e) r
theorem DA {l:List (Nat × Nat)} {r:List Bool} {e:Nat} {p:Nat × Nat} (h:l[e]? = some p):gn l r (e + 1)=gT (gn l r e) p:=by
 unfold gn;rw [List.take_add_one,h];simp
abbrev Wr (n:Nat) (l:List (Nat × Nat)) (q e:Nat):St:=
 ⟨[(0,⟨[],.v (.int .i64 n)⟩),(1,⟨[],.sl 2 (lS l) none⟩),(5,⟨[],.sl 1 (cK ((fB n l).take e)) (some 0)⟩),(6,⟨[],.v (.int .i64 e)⟩)],[],[⟨q,190,1,none⟩]⟩
abbrev OA (n:Nat) (l:List (Nat × Nat)) (q e:Nat) (r:List Bool) (k:Nat):St:=
 ⟨[(0,⟨[],.v (.int .i64 n)⟩),(1,⟨[],.sl 2 (lS l) none⟩),(5,⟨[],.sl 1 (cK ((fB n l).take e)) (some 0)⟩),(6,⟨[],.v (.int .i64 e)⟩),(7,⟨[],.ms 0 1 0 n n⟩),(8,⟨[],.v (.int .i64 k)⟩)],[cB r],[⟨q,190,1,none⟩]⟩
abbrev I2 (n:Nat) (l:List (Nat × Nat)) (q e:Nat) (r:List Bool) (k i:Nat):St:=
 ⟨[(0,⟨[],.v (.int .i64 n)⟩),(1,⟨[],.sl 2 (lS l) none⟩),(5,⟨[],.sl 1 (cK ((fB n l).take e)) (some 0)⟩),(6,⟨[],.v (.int .i64 e)⟩),(7,⟨[],.ms 0 1 0 n n⟩),(8,⟨[],.v (.int .i64 k)⟩),(9,⟨[],.v (.int .i64 i)⟩)],[cB r],[⟨q,190,1,none⟩]⟩
abbrev abc (n:Nat) (l:List (Nat × Nat)) (q e:Nat) (r:List Bool):St:=
 ⟨[(0,⟨[],.v (.int .i64 n)⟩),(1,⟨[],.sl 2 (lS l) none⟩),(6,⟨[],.v (.int .i64 e)⟩),(46,⟨[],.sl 1 (cK ((fB n l).take e)) (some 0)⟩),(47,⟨[],.sl 1 (wv r) none⟩)],[],[⟨q,190,1,none⟩]⟩
theorem Gx (n:Nat) (hn:n<=64) (l:List (Nat × Nat)) (hP:rN n l) (hb:l.length<=1099511627776) :
  EvP prog 83 [.v (.int .i64 n),.sl 2 (lS l) none] (.sl 1 (cK (fB n l)) none):=by
 have CE:=gR l;have hML:=Gu n l;refine eG 51 [.tmp 4] func83 rfl ntmps83 rfl fun _ _ _ _=>?_;refine lJ (fun e=>Wr n l e e) n (dX ⟨0,190,1,none⟩ rfl ⟨_,rfl⟩ rfl wA rfl rfl wB0) ?_;intro e he;refine br ?_ ?_<;>intro hL
 ·have au:e < n:=by have:=hL;simp at this;exact this
  have hr0l:((List.replicate n false).set e true).length=n:=by simp
  refine ⟨⟨rfl,by omega,by omega,by omega⟩,?_⟩;refine ⟨⟨by omega,by omega⟩,?_⟩;refine ⟨by rw [KH,r8,List.length_replicate];omega,?_⟩
  have gH:((List.replicate (n:Int).toNat (vL [Value.bool false])).flatten).set (0 + (e:Int).toNat * 1) (DV.v (.bool true))=cB (cA l ((List.replicate n false).set e true) 0):=by
   rw [KH,show 0 + (e:Int).toNat * 1=e by omega,show (n:Int).toNat=n by omega,Bc];rfl
  refine lJ (fun k=>OA n l e e (cA l ((List.replicate n false).set e true) k) k) n (az 1 rfl (wA1 gH) rfl rfl rfl (wB1 gH)) ?_;intro k hk;have gG:=fm l ((List.replicate n false).set e true) k;have Am:=eH l ((List.replicate n false).set e true) k;refine br ?_ ?_<;>intro jS
  ·have gZ:k < n:=by have:=jS;simp at this;exact this
   generalize cA l ((List.replicate n false).set e true) k=r at gG Am ⊢;rw [hr0l] at gG;refine lJ (fun i=>I2 n l e e (gn l r i) k i) l.length (az 1 rfl wA0 rfl rfl rfl wB0) ?_;intro i hi;have mF:=Gw l r i;refine br ?_ ?_<;>intro hL3
   ·have hit:i < l.length:=by have:=hL3;simp [CE] at this;exact this
    obtain ⟨p,hp⟩:∃ p,l[i]? = some p:=⟨_,gE hit⟩;obtain ⟨QF,Th⟩:=hP p (mG hp);have Uo:=DA (r:=r) hp;obtain ⟨b,eN⟩:∃ b,(gn l r i)[p.1]? = some b:=⟨_,gE (by omega)⟩;have JP:(gn l r i).getD p.1 false=b:=by simp [List.getD_eq_getElem?_getD,eN]
    rw [gT,JP] at Uo;refine iX (vF hp) ?_;refine ⟨⟨by decide,by decide⟩,?_⟩;refine ⟨⟨by omega,by omega⟩,?_⟩;refine ⟨_,(show (cB (gn l r i))[0 + (p.1:Int).toNat * 1]? = some (.v (.bool b)) by rw [show 0 + (p.1:Int).toNat * 1=p.1 by omega];exact Oy eN),?_⟩;refine br ?_ ?_<;>intro g
    ·have g:b=true:=g;rw [if_pos g] at Uo;refine iX (vF hp) ?_;refine ⟨⟨by decide,by decide⟩,?_⟩;refine ⟨⟨by omega,by omega⟩,?_⟩;refine ⟨by rw [r8];omega,?_⟩
     have dQ:(cB (gn l r i)).set (0 + (p.2:Int).toNat * 1) (DV.v (.bool true))=cB (gn l r (i + 1)):=by
      rw [show 0 + (p.2:Int).toNat * 1=p.2 by omega,Bc,Uo]
     exact rE ⟨_,by omega,i + 1,rfl,by omega,rfl⟩ (az 1 rfl (wA2 dQ (nxt hit (by omega))) rfl rfl rfl (dm dQ (nxt hit (by omega))))
    ·have g:¬ b=true:=by rw [show b=false from g];decide
     rw [if_neg g] at Uo;exact rE ⟨_,by omega,i + 1,rfl,by omega,rfl⟩ (az 1 rfl (by repeat' (first | exact rfl | exact ah rfl | exact dA (by rw [Uo]) | exact ai (nxt hit (by omega)) | refine ⟨_,_,rfl,?_,?_⟩)) rfl rfl rfl (by repeat' (first | exact trivial | exact ah rfl | exact dA (by rw [Uo]) | exact ai (nxt hit (by omega)) | refine ⟨⟨_,rfl,?_⟩,?_⟩)))
   ·have aN:i=l.length:=sW CE hL3;subst aN;have sa:gn l r l.length=cA l ((List.replicate n false).set e true) (k + 1):=by rw [Am,gn,List.take_length];all_goals rfl
    exact rE ⟨_,by omega,k + 1,rfl,by omega,rfl⟩ (az 1 rfl (by repeat' (first | exact rfl | exact ah rfl | exact dA (by rw [sa]) | exact ai (nxt gZ (by omega)) | refine ⟨_,_,rfl,?_,?_⟩)) rfl rfl rfl (by repeat' (first | exact trivial | exact ah rfl | exact dA (by rw [sa]) | exact ai (nxt gZ (by omega)) | refine ⟨⟨_,rfl,?_⟩,?_⟩)))
  ·have aN:k=n:=by have:=jS;simp at this;omega
   subst aN;have ry:cA l ((List.replicate k false).set e true) k=tM k l e:=rfl;rw [ry];have hrw:=qm k l e;refine HS.wk (.Ik (st':=abc k l e e (tM k l e)) 0 rfl rfl rfl rfl ?_) rfl rfl ?_
   ·refine ⟨⟨_,rfl,?_⟩,⟨_,rfl,?_⟩,⟨_,rfl,?_⟩,⟨_,rfl,?_⟩,⟨_,rfl,Un hrw (by omega) rfl⟩,trivial⟩
    ·simp only [Cc]
    ·simp only [Cc];exact Or.inr (Or.inl ⟨none,rfl⟩)
    ·simp only [Cc]
    ·simp only [Cc];exact ⟨Nat.zero_lt_one,trivial⟩
   ·have ep:(cK ((fB k l).take e)).length=e:=by rw [wx,List.length_take,hML];omega
    have fu:cK ((fB k l).take e) ++ [[DV.sl 1 (wv (tM k l e)) none]]=cK ((fB k l).take (e + 1)):=by rw [List.take_add_one,Gv l au];simp [cK]
    refine ⟨ep,⟨by rw [ep];simp [maxLen];omega,by rw [ep];simp;omega⟩,?_⟩;exact rE ⟨_,by omega,e + 1,rfl,by omega,rfl⟩ (weak_mk ⟨_,rfl⟩ wA rfl rfl rfl (dm (nxt au (by omega)) fu))
 ·have aN:e=n:=by have:=hL;simp at this;omega
  subst aN;have ht:(fB e l).take e=fB e l:=by rw [List.take_of_length_le (by rw [hML];omega)]
  rw [ht];exact ⟨_,ax,rfl⟩
theorem w9 {n m:Nat} {bU:List TkE} {x y:Bool} (h:x=y):We n m bU (.v (.bool x)) (.v (.bool y)):=.inl ⟨by rw [h],rfl⟩
theorem nj {l:List Wd} {j:Nat} {w:Wd} (h:l[j]? = some w):(ay l)[j]? = some w.s:=by simp [ay,h]
theorem I3 {L:List ByteArray} {s:ByteArray} (h:∀ j,j < L.length->L[j]? ≠ some s):cM L s=none:=rP fun j hj=>by
 exact h j (gS hj).1 hj
abbrev OB (l:List Wd) (s:ByteArray) (e:Nat):St:=
 ⟨[(0,⟨[],.sl 2 (bG l) none⟩),(1,⟨[],.v (.string s)⟩),(5,⟨[],.v (.int .i64 e)⟩)],[],[]⟩
theorem fo (l:List Wd) (s:ByteArray) (hs:wdsWt l<=1099511627776) :
  EvP prog 143 [.sl 2 (bG l) none,.v (.string s)] (.v (.int .i64 (oz (cM (ay l) s)))):=by
 have mF:=bw l;have fV:=dq l;refine eG 20 [.tmp 4] func143 rfl ntmps143 rfl fun _ _ _ _=>?_;refine lI (fun j st=>∃ e:Nat,st=OB l s e/\e<=l.length/\(∀ j,j < e->(ay l)[j]? ≠ some s)/\j=l.length - e) ⟨0,rfl,by omega,fun _ h=>by omega,rfl⟩ (weak_mk ⟨_,rfl⟩ wA rfl rfl rfl wB) ?_;rintro j st ⟨e,rfl,he,eS,rfl⟩;refine br ?_ ?_<;>intro hL
 ·have au:e < l.length:=by simpa [aA] using hL
  obtain ⟨w,hw⟩:=gX au;refine ⟨jN w,⟨by omega,aS hw⟩,?_⟩;refine br ?_ ?_<;>intro hq
  ·have hq:w.s=s:=sU hq;rw [A3 (p:=e) (by rw [nj hw,hq]) (fun j hj=>Nat.le_of_not_lt fun hl=>eS j hl hj)];exact (rfl:_=_)
  ·have hq:¬ w.s=s:=sU hq;refine ⟨OB l s (e + 1),(weak_mk ⟨_,rfl⟩ wA rfl rfl rfl (wB1 (nxt au (by omega)))),l.length - (e + 1),by omega,e + 1,rfl,by omega,fun j hj=>?_,rfl⟩;rcases Nat.lt_succ_iff_lt_or_eq.1 hj with hj | rfl
   ·exact eS j hj
   ·rw [nj hw];simpa using hq
 ·have aN:e=l.length:=by have:=hL;simp [aA] at this;omega
  rw [I3 (fun j hj=>eS j (by omega))];exact (rfl:_=_)
theorem fC {o:Option Nat}:decide (oz o < 0)=true↔o=none:=by
 cases o with
 | none=>simp [oz]
 | some k=>
  refine ⟨fun h=>?_,fun h=>by cases h⟩;have:=of_decide_eq_true h;simp only [oz] at this;omega
theorem DB {L:List ByteArray}:∀ {o:List (Wd × Wd)},(numF L o).1=0->∀ x∈o,(∃ a,cM L x.1.s=some a)/\∃ b,cM L x.2.s=some b
 | [],_,x,hx=>by cases hx
 | p :: r,h,x,hx=>by
  rw [numF] at h;split at h
  ·exact absurd h (by simp)
  rename_i h1;split at h
  ·exact absurd h (by simp)
  rename_i h2;rcases List.mem_cons.1 hx with rfl | hx
  ·exact ⟨Option.ne_none_iff_exists'.1 h1,Option.ne_none_iff_exists'.1 h2⟩
  ·exact DB h x hx
abbrev OC (l:List Wd) (o:List (Wd × Wd)) (q e:Nat):St:=
 ⟨[(0,⟨[],.sl 2 (bG l) none⟩),(1,⟨[],.sl 4 (mn o) none⟩),(5,⟨[],.sl 2 (lS (di (ay l) (o.take e))) (some 0)⟩),(6,⟨[],.v (.int .i64 e)⟩)],[],[⟨q,223,2,none⟩]⟩
theorem Gy (l:List Wd) (o:List (Wd × Wd)) (hs:wdsWt l<=1099511627776) (tD:prsWt o<=1099511627776) (hF:(numF (ay l) o).1=0) :
  EvP prog 84 [.sl 2 (bG l) none,.sl 4 (mn o) none] (.sl 2 (lS (di (ay l) o)) none):=by
 have mF:=iA o;refine eG 34 [.tmp 4] func84 rfl ntmps84 rfl fun _ _ _ _=>?_;refine lJ (fun e=>OC l o e e) o.length (dX ⟨0,223,2,none⟩ rfl ⟨_,rfl⟩ rfl wA rfl rfl wB0) ?_;intro e he;refine br ?_ ?_<;>intro hL
 ·have au:e < o.length:=by simpa [fJ] using hL
  obtain ⟨w,hw⟩:=gX au;obtain ⟨⟨a,ha⟩,⟨b,hb⟩⟩:=DB hF w (mG hw);have E7:=fo l w.1.s hs;have ua:=fo l w.2.s hs;rw [ha] at E7;rw [hb] at ua;refine dI ?_;refine ⟨LX w,⟨by omega,gP hw⟩,?_⟩;refine cD vb E7 ?_;refine ⟨LX w,⟨by omega,gP hw⟩,?_⟩;refine cD vb ua ?_;refine ⟨by simp [gR,di];omega,⟨by simp [gR,di,maxLen];omega,by simp [gR,di];omega⟩,?_⟩;exact rE ⟨_,by omega,e + 1,rfl,by omega,rfl⟩ (weak_mk ⟨_,rfl⟩ wA rfl rfl rfl (dm (nxt au (by omega)) (zg hw ha hb)))
 ·have aN:e=o.length:=by
   have:=hL;simp [fJ] at this;omega
  have ht:o.take e=o:=by rw [aN,List.take_length]
  rw [ht];exact ⟨_,ax,rfl⟩
theorem DC (l:List Wd) (o:List (Wd × Wd)) (hl:l.length<=32) (hs:wdsWt l<=1099511627776) (tD:prsWt o<=1099511627776) (hF:(numF (ay l) o).1=0) :
  EvP prog 34 [.sl 2 (bG l) none,.sl 4 (mn o) none] (.sl 1 (cK (dw l.length (eO l.length (di (ay l) o)))) none):=by
 have mF:=iA o;have hP:rN l.length (di (ay l) o):=by have:=nX hF;rwa [dq] at this
 have hN:=aA l;have RO:=Gx l.length (by omega) (di (ay l) o) hP (by simp [di];omega);rw [KI hP] at RO;refine eG 11 [.tmp 4] func34 rfl ntmps34 rfl fun _ _ _ _=>?_;refine cP en84 (Gy l o hs tD hF) ?_;rw [hN];refine cP en83 RO ?_;exact ⟨_,ax,rfl⟩
theorem DD (n:Nat) (f:Nat->Nat->Bool):(dw n f).length=n:=by simp [dw]
theorem gz (n:Nat) (f:Nat->Nat->Bool):(cK (dw n f)).length=n:=by rw [wx,DD]
theorem dr {n:Nat} {f:Nat->Nat->Bool} {a:Nat} (ha:a < n):(cK (dw n f))[a]? = some [DV.sl 1 (wv ((List.range n).map (f a))) none]:=Oz (Db ha)
theorem cI {n:Nat} {f:Nat->Nat->Bool} {a b:Nat} (hb:b < n):(wv ((List.range n).map (f a)))[b]? = some [DV.v (.bool (f a b))]:=I1 (by simp [List.getElem?_range hb])
abbrev OD (n:Nat) (f:Nat->Nat->Bool) (e:Nat):St:=
 ⟨[(0,⟨[],.sl 1 (cK (dw n f)) none⟩),(3,⟨[],.v (.int .i64 e)⟩)],[],[]⟩
abbrev wy (n:Nat) (f:Nat->Nat->Bool) (e k:Nat):St:=
 ⟨[(0,⟨[],.sl 1 (cK (dw n f)) none⟩),(3,⟨[],.v (.int .i64 e)⟩),(4,⟨[],.v (.int .i64 k)⟩)],[],[]⟩
theorem DE (n:Nat) (f:Nat->Nat->Bool) (hn:n<=64) :
  EvP prog 202 [.sl 1 (cK (dw n f)) none] (.v (.int .i64 (oz (bR (kf n f) n)))):=by
 have ep:=gz n f;refine eG 39 [.tmp 2] func202 rfl ntmps202 rfl fun _ _ _ _=>?_;refine lI (fun j st=>∃ e:Nat,st=OD n f e/\e<=n/\(∀ a,a < e->kf n f a=false)/\j=n - e) ⟨0,rfl,by omega,fun _ h=>by omega,rfl⟩ (weak_mk ⟨_,rfl⟩ wA rfl rfl rfl wB) ?_;rintro j st ⟨e,rfl,he,eS,rfl⟩;refine br ?_ ?_<;>intro hL
 ·have au:e < n:=sV ep hL;refine lI (fun j st=>∃ k:Nat,st=wy n f e k/\k<=n/\(∀ b,b < k->(decide (e≠b) && (f e b && f b e))=false)/\j=n - k) ⟨0,rfl,by omega,fun _ h=>by omega,rfl⟩ (weak_mk ⟨_,rfl⟩ wA rfl rfl rfl wB) ?_;rintro j st ⟨k,rfl,hk,DF,rfl⟩;refine br ?_ ?_<;>intro jS
  ·have gZ:k < n:=sV ep jS
   have CX:(decide (e≠k) && (f e k && f k e))=false->∀ b,b < k + 1->(decide (e≠b) && (f e b && f b e))=false:=fun h b hb=>by
    rcases Nat.lt_succ_iff_lt_or_eq.1 hb with hb | rfl
    ·exact DF b hb
    ·exact h
   refine br ?_ ?_<;>intro g1
   ·have g1:e≠k:=by have:=g1;simp at this;omega
    refine iX (dr au) ?_;refine iX (cI gZ) ?_;refine br ?_ ?_<;>intro g2
    ·have g2:f e k=true:=by simpa [pickB] using g2
     refine iX (dr gZ) ?_;refine iX (cI au) ?_;refine br ?_ ?_<;>intro g3
     ·have g3:f k e=true:=by simpa [pickB] using g3
      have hp:kf n f e=true:=List.any_eq_true.2 ⟨k,List.mem_range.2 gZ,by simp [g1,g2,g3]⟩;rw [cF au hp eS];exact (rfl:_=_)
     ·have g3:f k e=false:=by simpa [pickB] using g3
      exact rE ⟨_,by omega,k + 1,rfl,by omega,CX (by simp [g3]),rfl⟩ (weak_mk ⟨_,rfl⟩ wA rfl rfl rfl (wB1 (nxt gZ (by omega))))
    ·have g2:f e k=false:=by simpa [pickB] using g2
     exact rE ⟨_,by omega,k + 1,rfl,by omega,CX (by simp [g2]),rfl⟩ (weak_mk ⟨_,rfl⟩ wA rfl rfl rfl (wB1 (nxt gZ (by omega))))
   ·have g1:e=k:=by have:=g1;simp at this;omega
    exact rE ⟨_,by omega,k + 1,rfl,by omega,CX (by simp [g1]),rfl⟩ (weak_mk ⟨_,rfl⟩ wA rfl rfl rfl (wB1 (nxt gZ (by omega))))
  ·have aN:k=n:=sW ep jS;refine ⟨OD n f (e + 1),(weak_mk ⟨_,rfl⟩ wA rfl rfl rfl (wB1 (nxt au (by omega)))),n - (e + 1),by omega,e + 1,rfl,by omega,fun j hj=>?_,rfl⟩;rcases Nat.lt_succ_iff_lt_or_eq.1 hj with hj | rfl
   ·exact eS j hj
   ·unfold kf;rw [List.any_eq_false];intro b hb;rw [DF b (by have:=List.mem_range.1 hb;omega)];decide
 ·have aN:e=n:=sW ep hL;subst aN;rw [cL eS];exact (rfl:_=_)
abbrev Ws (n:Nat) (f:Nat->Nat->Bool) (q e:Nat):St:=
 ⟨[(0,⟨[],.sl 1 (cK (dw n f)) none⟩),(3,⟨[],.sl 1 (cK ((dw n fun a b=>f b a).take e)) (some 0)⟩),(4,⟨[],.v (.int .i64 e)⟩)],[],[⟨q,190,1,none⟩]⟩
abbrev OE (n:Nat) (f:Nat->Nat->Bool) (q e:Nat) (r:List Bool) (k:Nat):St:=
 ⟨[(0,⟨[],.sl 1 (cK (dw n f)) none⟩),(3,⟨[],.sl 1 (cK ((dw n fun a b=>f b a).take e)) (some 0)⟩),(4,⟨[],.v (.int .i64 e)⟩),(5,⟨[],.ms 0 1 0 n n⟩),(6,⟨[],.v (.int .i64 k)⟩)],[cB r],[⟨q,190,1,none⟩]⟩
abbrev abf (n:Nat) (f:Nat->Nat->Bool) (q e:Nat) (r:List Bool):St:=
 ⟨[(0,⟨[],.sl 1 (cK (dw n f)) none⟩),(4,⟨[],.v (.int .i64 e)⟩),(32,⟨[],.sl 1 (cK ((dw n fun a b=>f b a).take e)) (some 0)⟩),(33,⟨[],.sl 1 (wv r) none⟩)],[],[⟨q,190,1,none⟩]⟩
def jh (n:Nat) (f:Nat->Nat->Bool) (e k:Nat):List Bool:=(List.range n).map fun b=>if b < k then f b e else false
theorem sc (n:Nat) (f:Nat->Nat->Bool) (e k:Nat):(jh n f e k).length=n:=by simp [jh]
theorem Gz (n:Nat) (f:Nat->Nat->Bool) (e:Nat):jh n f e 0=List.replicate n false:=by
 refine List.ext_getElem? fun i=>?_;by_cases h:i < n
 ·simp [jh,List.getElem?_range h,List.getElem?_replicate,h]
 ·rw [List.getElem?_eq_none (by rw [sc];omega),List.getElem?_eq_none (by simp;omega)]
theorem GA (n:Nat) (f:Nat->Nat->Bool) (e k:Nat):(jh n f e k).set k (f k e)=jh n f e (k + 1):=by
 refine List.ext_getElem? fun i=>?_;by_cases h:i < n
 ·rw [List.getElem?_set];simp only [jh,List.getElem?_map,List.getElem?_range h,Option.map_some,List.length_map,List.length_range];by_cases hk:k=i
  ·subst hk;simp [h]
  ·rw [if_neg hk];by_cases hi:i < k
   ·rw [if_pos hi,if_pos (by omega)]
   ·rw [if_neg hi,if_neg (by omega)]
 ·rw [List.getElem?_eq_none (by simp [jh];omega),List.getElem?_eq_none (by rw [sc];omega)]
theorem GB (n:Nat) (f:Nat->Nat->Bool) (e:Nat):jh n f e n=(List.range n).map (fun b=>f b e):=by
 unfold jh;exact List.map_congr_left fun b hb=>by rw [if_pos (List.mem_range.1 hb)]
theorem KJ (n:Nat) (f:Nat->Nat->Bool) (hn:n<=64) :
  EvP prog 203 [.sl 1 (cK (dw n f)) none] (.sl 1 (cK (dw n fun a b=>f b a)) none):=by
 have ep:=gz n f;have hML:=DD n fun a b=>f b a;refine eG 37 [.tmp 2] func203 rfl ntmps203 rfl fun _ _ _ _=>?_;refine lJ (fun e=>Ws n f e e) n (dX ⟨0,190,1,none⟩ rfl ⟨_,rfl⟩ rfl wA rfl rfl wB0) ?_;intro e he;refine br ?_ ?_<;>intro hL
 ·have au:e < n:=sV ep hL;refine ⟨⟨rfl,by omega,by rw [ep];omega,by rw [ep];omega⟩,?_⟩;rw [ep]
  have gH:(List.replicate (n:Int).toNat (vL [Value.bool false])).flatten=cB (jh n f e 0):=by
   rw [KH,Gz,show (n:Int).toNat=n by omega]
  refine lJ (fun k=>OE n f e e (jh n f e k) k) n (az 1 rfl (wA1 gH) rfl rfl rfl (wB1 gH)) ?_;intro k hk;refine br ?_ ?_<;>intro jS
  ·have gZ:k < n:=sV ep jS;refine iX (dr gZ) ?_;refine iX (cI au) ?_;refine ⟨⟨by omega,by omega⟩,?_⟩;refine ⟨by rw [r8,sc];omega,?_⟩
   have dQ:(cB (jh n f e k)).set (0 + (k:Int).toNat * 1) (DV.v (.bool (f (k:Int).toNat (e:Int).toNat)))=cB (jh n f e (k + 1)):=by
    rw [show 0 + (k:Int).toNat * 1=k by omega,Bc,Int.toNat_natCast,Int.toNat_natCast,GA]
   exact rE ⟨_,by omega,k + 1,rfl,by omega,rfl⟩ (az 1 rfl (wA2 dQ (nxt gZ (by omega))) rfl rfl rfl (dm dQ (nxt gZ (by omega))))
  ·have aN:k=n:=sW ep jS;subst aN;rw [GB];refine HS.wk (.Ik (st':=abf k f e e ((List.range k).map fun b=>f b e)) 0 rfl rfl rfl rfl ?_) rfl rfl ?_
   ·refine ⟨⟨_,rfl,?_⟩,⟨_,rfl,?_⟩,⟨_,rfl,?_⟩,⟨_,rfl,Un (by simp) (by omega) rfl⟩,trivial⟩
    ·simp only [Cc];exact Or.inr (Or.inl ⟨none,rfl⟩)
    ·simp only [Cc]
    ·simp only [Cc];exact ⟨Nat.zero_lt_one,trivial⟩
   ·have hmr:(cK ((dw k fun a b=>f b a).take e)).length=e:=by rw [wx,List.length_take,hML];omega
    have fu:cK ((dw k fun a b=>f b a).take e) ++ [[DV.sl 1 (wv ((List.range k).map fun b=>f b e)) none]]=cK ((dw k fun a b=>f b a).take (e + 1)):=by rw [List.take_add_one,Db au];simp [cK]
    refine ⟨hmr,⟨by rw [hmr];simp [maxLen];omega,by rw [hmr];simp;omega⟩,?_⟩;exact rE ⟨_,by omega,e + 1,rfl,by omega,rfl⟩ (weak_mk ⟨_,rfl⟩ wA rfl rfl rfl (dm (nxt au (by omega)) fu))
 ·have aN:e=n:=sW ep hL;subst aN;rw [List.take_of_length_le (by rw [hML];omega)];exact ⟨_,ax,rfl⟩
def Up (f:Nat->Nat->Bool) (n a b c:Nat):Bool:=(f a c && f b c) && (List.range n).all fun d=>!(f a d && f b d) || f c d
def jV (f:Nat->Nat->Bool) (n a b:Nat):Option Nat:=bR (Up f n a b) n
def j4 (f:Nat->Nat->Bool) (a b c k:Nat):Bool:=(f a c && f b c) && (List.range k).all fun d=>!(f a d && f b d) || f c d
theorem KK (f:Nat->Nat->Bool) (a b c k:Nat):j4 f a b c (k + 1)=(j4 f a b c k && (!(f a k && f b k) || f c k)):=by
 simp only [j4,List.range_succ,List.all_append,List.all_cons,List.all_nil,Bool.and_true,Bool.and_assoc]
theorem zx (f:Nat->Nat->Bool) (a b c:Nat):j4 f a b c 0=(f a c && f b c):=by simp [j4]
abbrev Wt (n:Nat) (f:Nat->Nat->Bool) (a b e:Nat):St:=
 ⟨[(0,⟨[],.sl 1 (cK (dw n f)) none⟩),(1,⟨[],.v (.int .i64 a)⟩),(2,⟨[],.v (.int .i64 b)⟩),(7,⟨[],.v (.int .i64 e)⟩)],[],[]⟩
abbrev s5 (n:Nat) (f:Nat->Nat->Bool) (a b e:Nat) (x:Bool) (k:Nat):St:=
 ⟨[(0,⟨[],.sl 1 (cK (dw n f)) none⟩),(1,⟨[],.v (.int .i64 a)⟩),(2,⟨[],.v (.int .i64 b)⟩),(7,⟨[],.v (.int .i64 e)⟩),(8,⟨[],.v (.bool x)⟩),(9,⟨[],.v (.int .i64 k)⟩)],[],[]⟩
theorem ki (n:Nat) (f:Nat->Nat->Bool) (hn:n<=64) (a b:Nat) (ha:a < n) (hb:b < n) :
  EvP prog 152 [.sl 1 (cK (dw n f)) none,.v (.int .i64 a),.v (.int .i64 b)] (.v (.int .i64 (oz (jV f n a b)))):=by
 have ep:=gz n f;refine eG 66 [.tmp 6] func152 rfl ntmps152 rfl fun _ _ _ _=>?_;refine lI (fun j st=>∃ e:Nat,st=Wt n f a b e/\e<=n/\(∀ c,c < e->Up f n a b c=false)/\j=n - e) ⟨0,rfl,by omega,fun _ h=>by omega,rfl⟩ (weak_mk ⟨_,rfl⟩ wA rfl rfl rfl wB) ?_;rintro j st ⟨e,rfl,he,eS,rfl⟩;refine br ?_ ?_<;>intro hL
 ·have au:e < n:=sV ep hL;refine iX (dr ha) ?_;refine iX (cI au) ?_;have e1:(f a e == true)=true->f b e=j4 f a b e 0:=fun g=>by rw [zx,show f a e=true by simpa using g];simp
  have e2:(f a e == true)=false->false=j4 f a b e 0:=fun g=>by rw [zx,show f a e=false by simpa using g];simp
  refine have body:=?_;br (fun g1=>⟨_,⟨by omega,dr hb⟩,⟨_,⟨by omega,cI au⟩,av (fun j st=>∃ k:Nat,st=s5 n f a b e (j4 f a b e k) k/\k<=n/\j=n - k) n (s5 n f a b e (j4 f a b e 0) 0) (weak_mk ⟨_,rfl⟩ wA rfl rfl rfl (by repeat' (first | exact trivial | exact ah rfl | exact (show We _ _ _ (DV.v (.bool (f b e))) _ from w9 (e1 g1)) | refine ⟨⟨_,rfl,?_⟩,?_⟩))) ⟨0,rfl,by omega,by omega⟩ body⟩⟩) (fun g1=>av (fun j st=>∃ k:Nat,st=s5 n f a b e (j4 f a b e k) k/\k<=n/\j=n - k) n (s5 n f a b e (j4 f a b e 0) 0) (weak_mk ⟨_,rfl⟩ wA rfl rfl rfl (by repeat' (first | exact trivial | exact ah rfl | exact (show We _ _ _ (DV.v (.bool false)) _ from w9 (e2 g1)) | refine ⟨⟨_,rfl,?_⟩,?_⟩))) ⟨0,rfl,by omega,by omega⟩ body);rintro j st ⟨k,rfl,hk,rfl⟩;refine br ?_ ?_<;>intro jS
  ·have gZ:k < n:=sV ep jS;have KL:=KK f a b e k;refine iX (dr ha) ?_;refine iX (cI gZ) ?_;refine br ?_ ?_<;>intro g1
   ·refine iX (dr hb) ?_;refine iX (cI gZ) ?_;refine br ?_ ?_<;>intro g2
    ·refine iX (dr au) ?_;refine iX (cI gZ) ?_;refine br ?_ ?_<;>intro g3
     ·have hx:false=j4 f a b e (k + 1):=by simp [pickB] at g1 g2 g3;rw [KL];simp [g1,g2,g3]
      exact rE ⟨_,by omega,k + 1,rfl,by omega,rfl⟩ (weak_mk ⟨_,rfl⟩ wA rfl rfl rfl (dm (nxt gZ (by omega)) hx))
     ·have hx:j4 f a b e k=j4 f a b e (k + 1):=by simp [pickB] at g1 g2 g3;rw [KL];simp [g1,g2,g3]
      exact rE ⟨_,by omega,k + 1,rfl,by omega,rfl⟩ (weak_mk ⟨_,rfl⟩ wA rfl rfl rfl (dm (nxt gZ (by omega)) hx))
    ·have hx:j4 f a b e k=j4 f a b e (k + 1):=by simp [pickB] at g1 g2;rw [KL];simp [g1,g2]
     exact rE ⟨_,by omega,k + 1,rfl,by omega,rfl⟩ (weak_mk ⟨_,rfl⟩ wA rfl rfl rfl (dm (nxt gZ (by omega)) hx))
   ·have hx:j4 f a b e k=j4 f a b e (k + 1):=by simp [pickB] at g1;rw [KL];simp [g1]
    exact rE ⟨_,by omega,k + 1,rfl,by omega,rfl⟩ (weak_mk ⟨_,rfl⟩ wA rfl rfl rfl (dm (nxt gZ (by omega)) hx))
  ·have aN:k=n:=sW ep jS;subst aN;refine br ?_ ?_<;>intro g
   ·have g:Up f k a b e=true:=g;rw [jV,cF au g eS];exact (rfl:_=_)
   ·have g:Up f k a b e=false:=g;refine ⟨Wt k f a b (e + 1),(weak_mk ⟨_,rfl⟩ wA rfl rfl rfl (wB1 (nxt au (by omega)))),k - (e + 1),by omega,e + 1,rfl,by omega,fun j hj=>?_,rfl⟩;rcases Nat.lt_succ_iff_lt_or_eq.1 hj with hj | rfl
    ·exact eS j hj
    ·exact g
 ·have aN:e=n:=sW ep hL;subst aN;rw [jV,cL eS];exact (rfl:_=_)
theorem OG {l:List Wd} {i:Nat} {w:Wd} (hw:l[i]? = some w):∃ p,cM (ay l) w.s=some p/\(p < i↔bI (l.take i) w.s=true):=by
 cases h:cM (ay l) w.s with
 | none=>exact absurd (mG (nj hw)) (yg.1 h)
 | some p=>
  refine ⟨p,rfl,?_⟩;obtain ⟨h1,h2,h3⟩:=cR h;rw [dq] at h1
  have C8:∃ v,l[p]? = some v/\v.s=w.s:=by
   refine ⟨l[p],gE h1,?_⟩;rw [nj (gE h1)] at h2;exact Option.some.inj h2
  obtain ⟨v,hv,x9⟩:=C8;unfold bI;rw [List.any_eq_true];refine ⟨fun au=>⟨v,mG (i:=p) (by rw [List.getElem?_take,if_pos au];exact hv),by simp [x9]⟩,fun ⟨x,hx,ya⟩=>?_⟩;obtain ⟨j,hj⟩:=List.getElem?_of_mem hx;rw [List.getElem?_take] at hj;split at hj
  ·rename_i Td;have ya:x.s=w.s:=sU ya;have:=h3 j (by rw [nj hj,ya]);omega
  ·cases hj
theorem Bd {f:Nat->Nat->Bool} {n a b c:Nat}:Up f n a b c=true↔f a c=true/\f b c=true/\∀ d,d < n->f a d=true->f b d=true->f c d=true:=by
 unfold Up;simp only [Bool.and_eq_true,List.all_eq_true,List.mem_range,Bool.or_eq_true,Bool.not_eq_true',Bool.and_eq_false_iff,and_assoc];refine and_congr_right fun _=>and_congr_right fun _=>forall_congr' fun d=>imp_congr_right fun _=>?_;cases f a d<;>cases f b d<;>cases f c d<;>simp
structure QK (f:Nat->Nat->Bool) (n:Nat):Prop where
 rfl':∀ a,a < n->f a a=true
 Gb:∀ a b,a < n->b < n->f a b=true->f b a=true->a=b
theorem QK.flip {f:Nat->Nat->Bool} {n:Nat} (h:QK f n):QK (fun x y=>f y x) n:=⟨h.rfl',fun a b ha hb h1 h2=>h.Gb a b ha hb h2 h1⟩
theorem DG {f:Nat->Nat->Bool} {n a b c:Nat} (h:QK f n) (hc:c < n) (hj:Up f n a b c=true):eW f n a b=some c:=by
 obtain ⟨h1,h2,h3⟩:=Bd.1 hj
 have key:∀ e,e<=n->c < e->bestA (fun c=>f a c && f b c) f e=some c:=by
  intro e
  induction e with
  | zero=>intro _ h;omega
  | succ e ih=>
   intro he hce;rw [bestA];by_cases hec:e=c
   ·subst hec;rw [if_pos];simp only [h1,h2,Bool.and_true,Bool.true_and]
    cases ho:bestA (fun c=>f a c && f b c) f e with
    | none=>rfl
    | some o=>
     have hp:=rV ho;have hl:=nb ho;simp only [Bool.and_eq_true] at hp;exact h3 o (by omega) hp.1 hp.2
   ·rw [ih (by omega) (by omega),if_neg];simp only [Bool.and_eq_true,Df,not_and];intro hp hec2;exact hec (h.Gb e c (by omega) hc hec2 (h3 e (by omega) hp.1 hp.2))
 unfold eW na;rw [key n (Nat.le_refl _) hc];simp only;rw [if_neg];simp only [List.any_eq_true,List.mem_range,Bool.and_eq_true,Bool.not_eq_true',not_exists,not_and,Bool.not_eq_false];exact fun d hd hp=>h3 d hd hp.1 hp.2
theorem l6 {f:Nat->Nat->Bool} {n a b:Nat} (h:QK f n):(eW f n a b).isNone=(jV f n a b).isNone:=by
 cases hj:jV f n a b with
 | some c=>
  obtain ⟨hc,hi,_⟩:=dJ hj;rw [DG h hc hi]
 | none=>
  cases hk:eW f n a b with
  | none=>rfl
  | some k=>
   obtain ⟨h1,h2,h3,h4⟩:=o6 hk;have:=dD hj k h1;rw [Bd.2 ⟨h2,h3,h4⟩] at this;cases this
def oE (f:Nat->Nat->Bool) (n a b:Nat):Bool:=(jV f n a b).isNone || (jV (fun x y=>f y x) n a b).isNone
theorem I4 {f:Nat->Nat->Bool} {n a b:Nat} (h:QK f n):kU f n a b=oE f n a b:=by
 unfold kU oE;rw [l6 h,show iT f n a b=eW (fun x y=>f y x) n a b from rfl,l6 h.flip]
theorem wz {f:Nat->Nat->Bool} {n b:Nat} (h:QK f n) (hb:b < n):(jV f n b b).isNone=false:=by
 have hi:Up f n b b b=true:=Bd.2 ⟨h.rfl' b hb,h.rfl' b hb,fun d _ h1 _=>h1⟩
 cases hj:jV f n b b with
 | some c=>rfl
 | none=>rw [dD hj b hb] at hi;cases hi
theorem R8 {f:Nat->Nat->Bool} {n b:Nat} (h:QK f n) (hb:b < n):nc f n b=(List.range b).any fun a=>oE f n a b:=by
 unfold nc;rw [List.range_succ,List.any_append];simp only [List.any_cons,List.any_nil,Bool.or_false];rw [I4 h,show oE f n b b=false by unfold oE;rw [wz h hb,wz h.flip hb];rfl,Bool.or_false];exact congrArg (fun g=>List.any (List.range b) g) (funext fun a=>I4 h)
theorem Wu {n:Nat} {l:List (Nat × Nat)} (hP:rN n l) (h4:bR (kf n (eO n l)) n=none):QK (eO n l) n where
 rfl':=fun a ha=>rO hP ha
 Gb:=fun a b ha hb h6 h7=>by
  have:=dD h4 a ha;unfold kf at this;rw [List.any_eq_false] at this;have:=this b (sU hb);simp only [Bool.and_eq_true,decide_eq_true_eq,not_and] at this;rcases Nat.lt_trichotomy a b with h8 | h8 | h8
  ·exact (this (by omega) h6 h7).elim
  ·exact h8
  ·exact (this (by omega) h6 h7).elim
abbrev OH (l:List Wd) (o:List (Wd × Wd)) (e:Nat):St:=
 ⟨[(0,⟨[],.sl 2 (bG l) none⟩),(1,⟨[],.sl 4 (mn o) none⟩),(4,⟨[],.loc 0 0⟩),(5,⟨[],.v (.int .i64 e)⟩)],[[.v (.int .i64 0),.v (.int .i64 0)]],[]⟩
abbrev OI (l:List Wd) (o:List (Wd × Wd)) (e:Nat):St:=
 ⟨[(0,⟨[],.sl 2 (bG l) none⟩),(1,⟨[],.sl 4 (mn o) none⟩),(4,⟨[],.loc 0 0⟩),(6,⟨[],.v (.int .i64 e)⟩)],[[.v (.int .i64 0),.v (.int .i64 0)]],[]⟩
abbrev OJ (l:List Wd) (n:Nat) (f:Nat->Nat->Bool) (e:Nat):St:=
 ⟨[(0,⟨[],.sl 2 (bG l) none⟩),(4,⟨[],.loc 0 0⟩),(7,⟨[],.sl 1 (cK (dw n f)) none⟩),(9,⟨[],.sl 1 (cK (dw n fun a b=>f b a)) none⟩),(10,⟨[],.v (.int .i64 e)⟩)],[[.v (.int .i64 0),.v (.int .i64 0)]],[]⟩
abbrev OL (l:List Wd) (n:Nat) (f:Nat->Nat->Bool) (e k:Nat):St:=
 ⟨[(0,⟨[],.sl 2 (bG l) none⟩),(4,⟨[],.loc 0 0⟩),(7,⟨[],.sl 1 (cK (dw n f)) none⟩),(9,⟨[],.sl 1 (cK (dw n fun a b=>f b a)) none⟩),(10,⟨[],.v (.int .i64 e)⟩),(11,⟨[],.v (.int .i64 k)⟩)],[[.v (.int .i64 0),.v (.int .i64 0)]],[]⟩
theorem Be (l:List Wd) (o:List (Wd × Wd)) (hs:wdsWt l<=1099511627776) (tD:prsWt o<=1099511627776) :
  EvP prog 172 [.sl 2 (bG l) none,.sl 4 (mn o) none] (latF l o).d:=by
 have mF:=bw l;have hsl2:=iA o;have hF:latF l o=latF l o:=rfl
 conv at hF=>rhs;unfold latF
 refine eG 150 [.cell 4 41] func172 rfl ntmps172 rfl fun _ _ _ _=>?_;generalize latF l o=F at hF ⊢;refine br ?_ ?_<;>intro h
 ·have h:l=[]:=by simpa [aA] using h
  rw [show fK l o=(15,0) by rw [fK,if_pos h],if_pos (by decide)] at hF;refine ⟨_,?_,rfl⟩;rw [hF];exact ax
 have h:¬ l=[]:=by simpa [aA] using h
 refine br ?_ ?_<;>intro h1
 ·have h1:32 < l.length:=by simp [aA] at h1;omega
  obtain ⟨x,hx⟩:∃ x,l[32]? = some x:=⟨_,gE h1⟩;rw [show fK l o=(8,x.a) by rw [fK,if_neg h,if_pos h1,hx];rfl,if_pos (by simp)] at hF;refine ⟨jN x,⟨by omega,aS hx⟩,?_⟩;refine ⟨_,?_,rfl⟩;rw [hF];exact ax
 have h1:¬ 32 < l.length:=by simp [aA] at h1;omega
 refine br ?_ ?_<;>intro h2
 ·have h2:256 < o.length:=by simp [fJ] at h2;omega
  obtain ⟨x,hx⟩:∃ x,o[256]? = some x:=⟨_,gE h2⟩;rw [show fK l o=(8,x.1.a) by rw [fK,if_neg h,if_neg h1,if_pos h2,hx];rfl,if_pos (by simp)] at hF;refine ⟨LX x,⟨by omega,gP hx⟩,?_⟩;refine ⟨_,?_,rfl⟩;rw [hF];exact ax
 have h2:¬ 256 < o.length:=by simp [fJ] at h2;omega
 rw [show fK l o=(0,0) by rw [fK,if_neg h,if_neg h1,if_neg h2],if_neg (by decide)] at hF;have h0:enumL l 0 l=enumL l 0 (l.drop 0):=rfl;refine lI (fun j st=>∃ e:Nat,st=OH l o e/\e<=l.length/\enumL l 0 l=enumL l e (l.drop e)/\j=l.length - e) ⟨0,rfl,by omega,rfl,rfl⟩ (weak_mk ⟨_,rfl⟩ wA rfl rfl rfl wB) ?_;rintro j st ⟨e,rfl,he,aK,rfl⟩;refine br ?_ ?_<;>intro hL
 ·have au:e < l.length:=by simpa [aA] using hL
  obtain ⟨w,hw⟩:=gX au;have T6:=iu (mG hw);have aU:enumL l e (l.drop e)=if aF l e w≠0 then (aF l e w,w.a) else enumL l (e + 1) (l.drop (e + 1)):=by rw [drop_cons hw,enumL]
  obtain ⟨p,hp,HZ⟩:=OG hw;have hf:=fo l w.s hs;rw [hp] at hf;refine ⟨jN w,⟨by omega,aS hw⟩,?_⟩;refine cP Io (ka w.s (by omega)) ?_;refine br ?_ ?_<;>intro hN
  ·have hN:bd w.s=false:=sU hN;have hf:aF l e w=9:=by simp [aF,hN]
   rw [aK,aU,hf,if_pos (show (9:Int)≠0 by decide),if_pos (by simp)] at hF;refine ⟨jN w,⟨by omega,aS hw⟩,?_⟩;refine ⟨_,?_,rfl⟩;rw [hF];exact ax
  ·have hN:bd w.s=true:=sU hN;refine ⟨jN w,⟨by omega,aS hw⟩,?_⟩;refine cP vb hf ?_;refine br ?_ ?_<;>intro h2
   ·have h2:p < e:=by have:=h2;simp [oz] at this;exact this
    have hf:aF l e w=10:=by simp [aF,hN,HZ.1 h2]
    rw [aK,aU,hf,if_pos (show (10:Int)≠0 by decide),if_pos (by simp)] at hF;refine ⟨jN w,⟨by omega,aS hw⟩,?_⟩;refine ⟨_,?_,rfl⟩;rw [hF];exact ax
   ·have h2:¬ p < e:=by have:=h2;simp [oz] at this;omega
    have hd:bI (l.take e) w.s=false:=by
     cases hd:bI (l.take e) w.s
     ·rfl
     ·exact absurd (HZ.2 hd) h2
    have hf:aF l e w=0:=by simp [aF,hN,hd]
    rw [hf,if_neg (by simp)] at aU;exact rE ⟨_,by omega,e + 1,rfl,by omega,by rw [aK,aU],rfl⟩ (weak_mk ⟨_,rfl⟩ wA rfl rfl rfl (wB1 (nxt au (by omega))))
 have aN:e=l.length:=by have:=hL;simp [aA] at this;omega
 rw [aK,aN,List.drop_length,show enumL l l.length []=(0,0) from rfl,if_neg (by decide)] at hF;refine lI (fun j st=>∃ e:Nat,st=OI l o e/\e<=o.length/\numF (ay l) o=numF (ay l) (o.drop e)/\j=o.length - e) ⟨0,rfl,by omega,rfl,rfl⟩ (weak_mk ⟨_,rfl⟩ wA rfl rfl rfl wB) ?_;clear aK hL aN he e;rintro j st ⟨e,rfl,he,aK,rfl⟩;refine br ?_ ?_<;>intro hL
 ·have au:e < o.length:=by simpa [fJ] using hL
  obtain ⟨w,hw⟩:=gX au;have aU:numF (ay l) (o.drop e)=if cM (ay l) w.1.s=none then (17,w.1.a) else if cM (ay l) w.2.s=none then (17,w.2.a) else numF (ay l) (o.drop (e + 1)):=by rw [drop_cons hw,numF]
  refine ⟨LX w,⟨by omega,gP hw⟩,?_⟩;refine cP vb (fo l w.1.s hs) ?_;refine br ?_ ?_<;>intro ha
  ·have ha:=fC.1 ha;rw [aK,aU,if_pos ha,if_pos (by simp)] at hF;refine ⟨LX w,⟨by omega,gP hw⟩,?_⟩;refine ⟨_,?_,rfl⟩;rw [hF];exact ax
  have ha:¬ cM (ay l) w.1.s=none:=fun hn=>by have:=fC.2 hn;rw [ha] at this;cases this
  refine ⟨LX w,⟨by omega,gP hw⟩,?_⟩;refine cP vb (fo l w.2.s hs) ?_;refine br ?_ ?_<;>intro hb
  ·have hb:=fC.1 hb;rw [aK,aU,if_neg ha,if_pos hb,if_pos (by simp)] at hF;refine ⟨LX w,⟨by omega,gP hw⟩,?_⟩;refine ⟨_,?_,rfl⟩;rw [hF];exact ax
  have hb:¬ cM (ay l) w.2.s=none:=fun hn=>by have:=fC.2 hn;rw [hb] at this;cases this
  rw [if_neg ha,if_neg hb] at aU;exact rE ⟨_,by omega,e + 1,rfl,by omega,by rw [aK,aU],rfl⟩ (weak_mk ⟨_,rfl⟩ wA rfl rfl rfl (wB1 (nxt au (by omega))))
 have aN:e=o.length:=by have:=hL;simp [fJ] at this;omega
 rw [aN,List.drop_length,show numF (ay l) []=(0,0) from rfl] at aK;rw [aK,if_neg (by decide)] at hF;have jt:(numF (ay l) o).1=0:=by rw [aK]
 have hP:rN l.length (di (ay l) o):=by have:=nX jt;rwa [dq] at this
 have hpo:=Wu hP;have ep:=gz l.length (eO l.length (di (ay l) o));refine cP Vs (DC l o (by omega) hs tD jt) ?_;generalize eO l.length (di (ay l) o)=f at hF hpo ep ⊢;refine cP ZL (DE l.length f (by omega)) ?_
 cases hlo:bR (kf l.length f) l.length with
 | some a=>
  rw [hlo] at hF;have ha:=(dJ hlo).1;obtain ⟨x,hx⟩:∃ x,l[a]? = some x:=⟨_,gE ha⟩;simp only [kg hx] at hF;refine ⟨jN x,⟨by simp only [oz];omega,aS hx⟩,?_⟩;refine ⟨_,?_,rfl⟩;rw [hF];exact ax
 | none=>
 have hpo:=hpo hlo;rw [hlo] at hF;simp only at hF;refine cP ZM (KJ l.length f (by omega)) ?_;refine lI (fun j st=>∃ e:Nat,st=OJ l l.length f e/\e<=l.length/\(∀ b,b < e->nc f l.length b=false)/\j=l.length - e) ⟨0,rfl,by omega,fun _ h=>by omega,rfl⟩ (weak_mk ⟨_,rfl⟩ wA rfl rfl rfl wB) ?_;clear aK hL aN he e;rintro j st ⟨e,rfl,he,eS,rfl⟩;refine br ?_ ?_<;>intro hL
 ·have au:e < l.length:=sV ep hL;have gf:=R8 hpo au;refine lI (fun j st=>∃ k:Nat,st=OL l l.length f e k/\k<=e/\(∀ a,a < k->oE f l.length a e=false)/\j=e - k) ⟨0,rfl,by omega,fun _ h=>by omega,rfl⟩ (weak_mk ⟨_,rfl⟩ wA rfl rfl rfl wB) ?_;rintro j st ⟨k,rfl,hk,DF,rfl⟩;refine br ?_ ?_<;>intro jS
  ·have gZ:k < e:=sU jS;obtain ⟨x,hx⟩:=gX au
   have OM:oE f l.length k e=true->F=(12,x.a):=fun IX=>by
    rw [cF au (by rw [gf,List.any_eq_true];exact ⟨k,by simpa using gZ,IX⟩) eS] at hF;simp only [kg hx] at hF;exact hF
   refine cP Ir (ki l.length f (by omega) k e (by omega) au) ?_;refine br ?_ ?_<;>intro g1
   ·have g1:¬ jV f l.length k e=none:=fun hn=>by rw [fC.2 hn] at g1;cases g1
    refine cP Ir (ki l.length (fun a b=>f b a) (by omega) k e (by omega) au) ?_;refine br ?_ ?_<;>intro g2
    ·have g2:jV (fun a b=>f b a) l.length k e=none:=by
      rw [<- fC];simpa [pickB] using g2
     have hF:=OM (by unfold oE;rw [g2];simp);refine ⟨jN x,⟨by omega,aS hx⟩,?_⟩;refine ⟨_,?_,rfl⟩;rw [hF];exact ax
    ·have g2:¬ jV (fun a b=>f b a) l.length k e=none:=fun hn=>by
      have h3:=fC.2 hn;simp [pickB] at g2;have h3:=of_decide_eq_true h3;omega
     refine ⟨OL l l.length f e (k + 1),(weak_mk ⟨_,rfl⟩ wA rfl rfl rfl (wB1 (nxt gZ (by omega)))),e - (k + 1),by omega,k + 1,rfl,by omega,fun j hj=>?_,rfl⟩;rcases Nat.lt_succ_iff_lt_or_eq.1 hj with hj | rfl
     ·exact DF j hj
     ·unfold oE;rw [Option.isNone_eq_false_iff.2 (Option.isSome_iff_ne_none.2 g1),Option.isNone_eq_false_iff.2 (Option.isSome_iff_ne_none.2 g2)];rfl
   ·have g1:jV f l.length k e=none:=by
     rw [<- fC];simpa using g1
    have hF:=OM (by unfold oE;rw [g1];rfl);refine ⟨jN x,⟨by omega,aS hx⟩,?_⟩;refine ⟨_,?_,rfl⟩;rw [hF];exact ax
  ·have aN:k=e:=by have:=jS;simp at this;omega
   subst aN;refine ⟨OJ l l.length f (k + 1),(weak_mk ⟨_,rfl⟩ wA rfl rfl rfl (wB1 (nxt au (by omega)))),l.length - (k + 1),by omega,k + 1,rfl,by omega,fun j hj=>?_,rfl⟩;rcases Nat.lt_succ_iff_lt_or_eq.1 hj with hj | rfl
   ·exact eS j hj
   ·rw [gf,List.any_eq_false];intro a ha;rw [DF a (sU ha)];decide
 ·have aN:e=l.length:=sW ep hL;subst aN;rw [cL eS] at hF;simp only at hF;refine ⟨_,?_,rfl⟩;rw [hF];exact ax
abbrev Wv (n:Nat) (f:Nat->Nat->Bool) (l:List Nat) (c e:Nat):St:=
 ⟨[(0,⟨[],.sl 1 (cK (dw n f)) none⟩),(1,⟨[],.sl 1 (dInts l) none⟩),(2,⟨[],.v (.int .i64 c)⟩),(7,⟨[],.v (.int .i64 e)⟩)],[],[]⟩
theorem zy (n:Nat) (f:Nat->Nat->Bool) (hn:n<=64) (l:List Nat) (hl:∀ i∈l,i < n) (x4:l.length<=1099511627776) (c:Nat) (hc:c < n) :
  EvP prog 189 [.sl 1 (cK (dw n f)) none,.sl 1 (dInts l) none,.v (.int .i64 c)] (.v (.bool (gy f l c))):=by
 have ep:=gz n f;have LW:=bz l;refine eG 25 [.tmp 6] func189 rfl ntmps189 rfl fun _ _ _ _=>?_;refine lI (fun j st=>∃ e:Nat,st=Wv n f l c e/\e<=l.length/\gy f l c=gy f (l.drop e) c/\j=l.length - e) ⟨0,rfl,by omega,rfl,rfl⟩ (weak_mk ⟨_,rfl⟩ wA rfl rfl rfl wB) ?_;rintro j st ⟨e,rfl,he,aK,rfl⟩;rw [aK];refine br ?_ ?_<;>intro hL
 ·have au:e < l.length:=by have:=hL;simp [LW] at this;exact this
  obtain ⟨i,hi⟩:=gX au;have uf:=hl i (mG hi);have aU:gy f (l.drop e) c=(f i c && gy f (l.drop (e + 1)) c):=by unfold gy;rw [drop_cons hi,List.all_cons]
  refine iX (ee hi) ?_;refine iX (dr uf) ?_;refine iX (cI hc) ?_;refine br ?_ ?_<;>intro g
  ·have g:f i c=false:=sU g;rw [aU,g,Bool.false_and];exact (rfl:_=_)
  ·have g:f i c=true:=sU g;rw [g,Bool.true_and] at aU;exact rE ⟨_,by omega,e + 1,rfl,by omega,aU,rfl⟩ (weak_mk ⟨_,rfl⟩ wA rfl rfl rfl (wB1 (nxt au (by omega))))
 ·have aN:e=l.length:=sW LW hL;rw [aN,List.drop_length];exact (rfl:_=_)
def pe (f:Nat->Nat->Bool) (l:List Nat) (c k:Nat):Bool:=gy f l c && (List.range k).all fun d=>!gy f l d || f c d
theorem KM (f:Nat->Nat->Bool) (l:List Nat) (c:Nat):pe f l c 0=gy f l c:=by simp [pe]
theorem KN (f:Nat->Nat->Bool) (l:List Nat) (c k:Nat):pe f l c (k + 1)=(pe f l c k && (!gy f l k || f c k)):=by
 simp only [pe,List.range_succ,List.all_append,List.all_cons,List.all_nil,Bool.and_true,Bool.and_assoc]
abbrev Ww (n:Nat) (f:Nat->Nat->Bool) (l:List Nat) (e:Nat):St:=
 ⟨[(0,⟨[],.sl 1 (cK (dw n f)) none⟩),(1,⟨[],.sl 1 (dInts l) none⟩),(5,⟨[],.v (.int .i64 e)⟩)],[],[]⟩
abbrev DH (n:Nat) (f:Nat->Nat->Bool) (l:List Nat) (e:Nat) (x:Bool) (k:Nat):St:=
 ⟨[(0,⟨[],.sl 1 (cK (dw n f)) none⟩),(1,⟨[],.sl 1 (dInts l) none⟩),(5,⟨[],.v (.int .i64 e)⟩),(6,⟨[],.v (.bool x)⟩),(7,⟨[],.v (.int .i64 k)⟩)],[],[]⟩
theorem GC (n:Nat) (f:Nat->Nat->Bool) (hn:n<=64) (l:List Nat) (hl:∀ i∈l,i < n) (x4:l.length<=1099511627776) :
  EvP prog 144 [.sl 1 (cK (dw n f)) none,.sl 1 (dInts l) none] (.v (.int .i64 (oz (eI f n l)))):=by
 have ep:=gz n f;refine eG 40 [.tmp 4] func144 rfl ntmps144 rfl fun _ _ _ _=>?_;refine lI (fun j st=>∃ e:Nat,st=Ww n f l e/\e<=n/\(∀ c,c < e->rW f n l c=false)/\j=n - e) ⟨0,rfl,by omega,fun _ h=>by omega,rfl⟩ (weak_mk ⟨_,rfl⟩ wA rfl rfl rfl wB) ?_;rintro j st ⟨e,rfl,he,eS,rfl⟩;refine br ?_ ?_<;>intro hL
 ·have au:e < n:=sV ep hL;refine cP TI (zy n f hn l hl x4 e au) ?_;refine lJ (fun k=>DH n f l e (pe f l e k) k) n (weak_mk ⟨_,rfl⟩ wA rfl rfl rfl (wB1 ((KM f l e).symm))) ?_;intro k hk;refine br ?_ ?_<;>intro jS
  ·have gZ:k < n:=sV ep jS;have KL:=KN f l e k;refine cP TI (zy n f hn l hl x4 k gZ) ?_;refine br ?_ ?_<;>intro g1
   ·refine iX (dr au) ?_;refine iX (cI gZ) ?_;refine br ?_ ?_<;>intro g2
    ·have hx:false=pe f l e (k + 1):=by simp [pickB] at g1 g2;rw [KL];simp [g1,g2]
     exact rE ⟨_,by omega,k + 1,rfl,by omega,rfl⟩ (weak_mk ⟨_,rfl⟩ wA rfl rfl rfl (dm (nxt gZ (by omega)) hx))
    ·have hx:pe f l e k=pe f l e (k + 1):=by simp [pickB] at g1 g2;rw [KL];simp [g1,g2]
     exact rE ⟨_,by omega,k + 1,rfl,by omega,rfl⟩ (weak_mk ⟨_,rfl⟩ wA rfl rfl rfl (dm (nxt gZ (by omega)) hx))
   ·have hx:pe f l e k=pe f l e (k + 1):=by simp [pickB] at g1;rw [KL];simp [g1]
    exact rE ⟨_,by omega,k + 1,rfl,by omega,rfl⟩ (weak_mk ⟨_,rfl⟩ wA rfl rfl rfl (dm (nxt gZ (by omega)) hx))
  ·have aN:k=n:=sW ep jS;subst aN;refine br ?_ ?_<;>intro g
   ·have g:rW f k l e=true:=g;rw [eI,cF au g eS];exact (rfl:_=_)
   ·have g:rW f k l e=false:=g;refine ⟨Ww k f l (e + 1),(weak_mk ⟨_,rfl⟩ wA rfl rfl rfl (wB1 (nxt au (by omega)))),k - (e + 1),by omega,e + 1,rfl,by omega,fun j hj=>?_,rfl⟩;rcases Nat.lt_succ_iff_lt_or_eq.1 hj with hj | rfl
    ·exact eS j hj
    ·exact g
 ·have aN:e=n:=sW ep hL;subst aN;rw [eI,cL eS];exact (rfl:_=_)
abbrev GD (lv:List Wd) (f:Nat->Nat->Bool) (l:List Wd) (q e:Nat):St:=
 ⟨[(0,⟨[],.sl 2 (bG lv) none⟩),(1,⟨[],.sl 1 (cK (dw lv.length f)) none⟩),(2,⟨[],.sl 2 (bG l) none⟩),(7,⟨[],.loc 0 0⟩),(8,⟨[],.sl 1 (dInts (lY (ay lv) (l.take e))) (some 0)⟩),(9,⟨[],.v (.int .i64 e)⟩)],[[.v (.int .i64 0),.v (.int .i64 0)]],[⟨q,3,1,none⟩]⟩
theorem R9 {L:List ByteArray} {l:List Wd} {i:Nat} (h:i∈lY L l) (hL:0 < L.length):i < L.length:=by
 unfold lY at h;obtain ⟨w,_,rfl⟩:=List.mem_map.1 h
 cases hx:cM L w.s with
 | none=>simpa using hL
 | some p=>exact (cR hx).1
theorem GF {L:List ByteArray} {l:List Wd} {e i:Nat} {w:Wd} (h:l[e]? = some w) (hi:cM L w.s=some i):dInts (lY L (l.take e)) ++ [[DV.v (.int .i64 (oz (some i)))]]=dInts (lY L (l.take (e + 1))):=by
 rw [rY h hi];simp [dInts,oz]
theorem KO (lv:List Wd) (f:Nat->Nat->Bool) (h0:0 < lv.length) (hn:lv.length<=32) (hs:wdsWt lv<=1099511627776) (l:List Wd) (hl:wdsWt l<=1099511627776) :
  EvP prog 85 [.sl 2 (bG lv) none,.sl 1 (cK (dw lv.length f)) none,.sl 2 (bG l) none] (Kw f (ay lv) l):=by
 have mF:=bw l;have fV:=dq lv;unfold Kw A5;refine eG 40 [.tmp 6,.cell 7 41] func85 rfl ntmps85 rfl fun _ _ _ _=>?_;refine lI (fun j st=>∃ e:Nat,st=GD lv f l e e/\e<=l.length/\labW (ay lv) l=labW (ay lv) (l.drop e)/\j=l.length - e) ⟨0,rfl,by omega,rfl,rfl⟩ (dX ⟨0,3,1,none⟩ rfl ⟨_,rfl⟩ rfl wA rfl rfl wB0) ?_;rintro j st ⟨e,rfl,he,aK,rfl⟩;rw [aK];refine br ?_ ?_<;>intro hL
 ·have au:e < l.length:=by simpa [aA] using hL
  obtain ⟨w,hw⟩:=gX au;have aU:=rX (L:=ay lv) hw;refine ⟨jN w,⟨by omega,aS hw⟩,?_⟩;refine cP vb (fo lv w.s hs) ?_;refine br ?_ ?_<;>intro ha
  ·have ha:=fC.1 ha;rw [aU,if_pos ha];refine dS ?_;refine ⟨jN w,⟨by omega,aS hw⟩,?_⟩;exact ⟨_,ax,rfl⟩
  ·cases hi:cM (ay lv) w.s with
   | none=>have:=fC.2 hi;rw [ha] at this;cases this
   | some i=>
   rw [if_neg (by rw [hi];simp)] at aU;refine ⟨by simp [bz,lY];omega,⟨by simp [bz,lY,maxLen];omega,by simp [bz,lY];omega⟩,?_⟩;exact rE ⟨_,by omega,e + 1,rfl,by omega,aU,rfl⟩ (weak_mk ⟨_,rfl⟩ wA rfl rfl rfl (dm (nxt au (by omega)) (GF hw hi)))
 ·have aN:e=l.length:=by have:=hL;simp [aA] at this;omega
  rw [aN,List.drop_length,List.take_length];refine cP Zq (GC lv.length f (by omega) (lY (ay lv) l) (fun i hi=>by have:=R9 hi (by omega);omega) (by simp [lY];omega)) ?_;rw [<- fV];exact ⟨_,ax,rfl⟩
theorem Wx {S:Sch} {e:Nat} {x:Wd × Ty} (h:S.types[e]? = some x):(tL S)[e]? = some x.1.s:=by simp [tL,ay,tN,h]
abbrev ON (S:Sch) (s:ByteArray) (e:Nat):St:=
 ⟨[(1,⟨[],.v (.string s)⟩),(2,⟨[],.loc 0 0⟩),(5,⟨[],.v (.int .i64 e)⟩)],[dR S],[]⟩
theorem kj (S:Sch) (s:ByteArray) (hl:S.types.length<=1099511627776) :
  EvP prog 87 [.agg (dR S),.v (.string s)] (.v (.int .i64 (oz (cM (tL S) s)))):=by
 have hN:=aal S.types;have eZ:=jT S;have jl:=@Wx S;obtain ⟨ae,order,types,⟨rh,rp⟩⟩:=S;simp only at hl hN eZ jl;refine eG 23 [.tmp 4] func87 rfl ntmps87 rfl fun _ _ _ _=>?_;refine lI (fun j st=>∃ e:Nat,st=ON ⟨ae,order,types,.mk rh rp⟩ s e/\e<=types.length/\(∀ j,j < e->(tL ⟨ae,order,types,.mk rh rp⟩)[j]? ≠ some s)/\j=types.length - e) ⟨0,rfl,by omega,fun _ h=>by omega,rfl⟩ (weak_mk ⟨_,rfl⟩ wA rfl rfl rfl wB) ?_;rintro j st ⟨e,rfl,he,eS,rfl⟩;refine br ?_ ?_<;>intro hL
 ·have au:e < types.length:=by have:=hL;simp [hN] at this;exact this
  obtain ⟨x,hx⟩:=gX au;have hg:=jl hx;obtain ⟨xw,⟨xh,xp⟩⟩:=x;refine iX (dNms_get hx) ?_;refine br ?_ ?_<;>intro hq
  ·have hq:xw.s=s:=sU hq;rw [A3 (p:=e) (by rw [hg,hq]) (fun j hj=>Nat.le_of_not_lt fun hl=>eS j hl hj)];exact (rfl:_=_)
  ·have hq:¬ xw.s=s:=sU hq;refine ⟨ON ⟨ae,order,types,.mk rh rp⟩ s (e + 1),(weak_mk ⟨_,rfl⟩ wA rfl rfl rfl (wB1 (nxt au (by omega)))),types.length - (e + 1),by omega,e + 1,rfl,by omega,fun j hj=>?_,rfl⟩;rcases Nat.lt_succ_iff_lt_or_eq.1 hj with hj | rfl
   ·exact eS j hj
   ·rw [hg];simpa using hq
 ·have aN:e=types.length:=sW hN hL;rw [I3 (fun j hj=>eS j (by omega))];exact (rfl:_=_)
abbrev OO (S:Sch) (l:List Wd) (e:Nat):St:=
 ⟨[(1,⟨[],.sl 2 (bG l) none⟩),(2,⟨[],.loc 0 0⟩),(4,⟨[],.loc 1 0⟩),(5,⟨[],.v (.int .i64 e)⟩)],[dR S,[.v (.int .i64 0),.v (.int .i64 0)]],[]⟩
theorem DI (S:Sch) (hs:wdsWt S.ae<=1099511627776) (l:List Wd) (hl:wdsWt l<=1099511627776) :
  EvP prog 210 [.agg (dR S),.sl 2 (bG l) none] (labW (ay S.ae) l).d:=by
 have mF:=bw l;obtain ⟨ae,order,types,⟨rh,rp⟩⟩:=S;simp only at hs;refine eG 28 [.cell 4 41] func210 rfl ntmps210 rfl fun _ _ _ _=>?_;refine lI (fun j st=>∃ e:Nat,st=OO ⟨ae,order,types,.mk rh rp⟩ l e/\e<=l.length/\labW (ay ae) l=labW (ay ae) (l.drop e)/\j=l.length - e) ⟨0,rfl,by omega,rfl,rfl⟩ (weak_mk ⟨_,rfl⟩ wA rfl rfl rfl wB) ?_;rintro j st ⟨e,rfl,he,aK,rfl⟩;rw [aK];refine br ?_ ?_<;>intro hL
 ·have au:e < l.length:=by simpa [aA] using hL
  obtain ⟨w,hw⟩:=gX au;have aU:=rX (L:=ay ae) hw;refine dI ?_;refine ⟨jN w,⟨by omega,aS hw⟩,?_⟩;refine cD vb (fo ae w.s hs) ?_;refine br ?_ ?_<;>intro ha
  ·have ha:=fC.1 ha;rw [aU,if_pos ha];refine ⟨jN w,⟨by omega,aS hw⟩,?_⟩;exact ⟨_,ax,rfl⟩
  ·rw [if_neg (fun hn=>by have:=fC.2 hn;rw [ha] at this;cases this)] at aU;exact rE ⟨_,by omega,e + 1,rfl,by omega,aU,rfl⟩ (weak_mk ⟨_,rfl⟩ wA rfl rfl rfl (wB1 (nxt au (by omega))))
 ·have aN:e=l.length:=by have:=hL;simp [aA] at this;omega
  rw [aN,List.drop_length];exact ⟨_,ax,rfl⟩
def ib (l:List Ty):List (List DV):=l.map dV
theorem dK (l:List Ty):(ib l).length=l.length:=by simp [ib]
theorem jW {l:List Ty} {j:Nat} {t:Ty} (h:l[j]? = some t):(ib l)[j]? = some (dV t):=by simp [ib,h]
def eY (S:Sch):List Ty:=S.types.map fun x=>x.2
def fM (S:Sch):List Ty:=eY S ++ [S.root]
abbrev OP (S:Sch) (q e:Nat):St:=
 ⟨[(1,⟨[],.loc 0 0⟩),(3,⟨[],.sl 9 (ib ((eY S).take e)) (some 0)⟩),(4,⟨[],.v (.int .i64 e)⟩)],[dR S],[⟨q,29,9,none⟩]⟩
theorem DJ (S:Sch) (hl:S.types.length<=1099511627776) :
  EvP prog 35 [.agg (dR S)] (.sl 9 (ib (fM S)) none):=by
 have hN:=aal S.types;obtain ⟨ae,order,types,⟨rh,rp⟩⟩:=S;simp only at hl hN;refine eG 26 [.tmp 2] func35 rfl ntmps35 rfl fun _ _ _ _=>?_;refine lJ (fun e=>OP ⟨ae,order,types,.mk rh rp⟩ e e) types.length (dG 1 ⟨0,29,9,none⟩ rfl rfl rfl wA0 rfl rfl wB0) ?_;intro e he;have eZ:(ib ((eY ⟨ae,order,types,.mk rh rp⟩).take e)).length=e:=by simp [ib,eY];omega
 refine br ?_ ?_<;>intro hL
 ·have au:e < types.length:=by have:=hL;simp [hN] at this;exact this
  obtain ⟨x,hx⟩:=gX au
  have fu:ib ((eY ⟨ae,order,types,.mk rh rp⟩).take e) ++ [dV x.2]=ib ((eY ⟨ae,order,types,.mk rh rp⟩).take (e + 1)):=by
   rw [List.take_add_one];simp [eY,hx,ib]
  obtain ⟨xw,⟨xh,xp⟩⟩:=x;refine iX (dNms_get hx) ?_;refine ⟨eZ,⟨by rw [eZ];simp [maxLen];omega,by rw [eZ];simp;omega⟩,?_⟩;exact rE ⟨_,by omega,e + 1,rfl,by omega,rfl⟩ (az 1 rfl (wA2 (nxt au (by omega)) fu) rfl rfl rfl (dm (nxt au (by omega)) fu))
 ·have aN:e=types.length:=sW hN hL
  have QC:ib ((eY ⟨ae,order,types,.mk rh rp⟩).take e) ++ [dV (.mk rh rp)]=ib (fM ⟨ae,order,types,.mk rh rp⟩):=by
   rw [List.take_of_length_le (by simp [eY];omega)];simp [fM,ib]
  refine ⟨eZ,⟨by rw [eZ];simp [maxLen];omega,by rw [eZ];simp;omega⟩,?_⟩;rw [<- QC];exact ⟨_,ax,rfl⟩
mutual
def flatT:Ty->List Ty
 | .mk h ps=>if h.ag=9 then [] else .mk h ps :: flatP ps
def flatP:Pts->List Ty
 | .nil=>[]
 | .cons p t r=>(if p.bare then [] else flatT t) ++ flatP r
end
mutual
theorem jB:∀ t:Ty,(flatT t).length=t.nn
 | .mk h ps=>by
  have:=se ps;simp only [flatT,Ty.nn];split
  ·rfl
  ·simp only [List.length_cons];omega
theorem se:∀ ps:Pts,(flatP ps).length=ps.nn
 | .nil=>rfl
 | .cons p t r=>by
  have:=jB t;have:=se r;simp only [flatP,Pts.nn,List.length_append];split
  ·simp only [List.length_nil];omega
  ·omega
end
theorem Sa {P:Program} {f:FuncId} {args:List DV} {e:Nat} {es:List (List DV)} (h:Ev P f args [] [] (fun r _ _=>r = .sl e es none∨(es=[]/\r = .v (.slice none 0 0)))):EvP P f args (.sl e es none):=by
 intro E w vs hE ht hv;refine (h E w vs hE ht hv).mono ?_;rintro e' w' ⟨v,rfl,hM,hs,d,os,E',h1,h2,h3,h4,h5,h6⟩;rcases h6 with rfl | ⟨rfl,rfl⟩
 ·exact ⟨v,rfl,hM,hs,_,os,E',h1,h2,h3,h4,h5,rfl⟩
 ·refine ⟨v,rfl,hM,hs,.sl e [] none,os,E',h1,h2,h3,h4,?_,rfl⟩;unfold Rv at h5 ⊢;exact ⟨_,0,0,h5.1,⟨rfl,Nat.le_refl _⟩,fun hn=>(hn rfl).elim,fun k hk=>by cases hk⟩
abbrev Sb (t:Ty) (L:List Ty) (q e:Nat):St:=
 ⟨[(1,⟨[],.loc 0 0⟩),(3,⟨[],.sl 9 (ib L) (some 0)⟩),(4,⟨[],.v (.int .i64 e)⟩)],[dV t],[⟨q,29,9,none⟩]⟩
theorem n5:∀ (k:Nat) (t:Ty),t.wt<=k->t.wt<=1099511627776 ->
  EvP prog 36 [.agg (dV t)] (.sl 9 (ib (flatT t)) none)
 | 0,t,hn,_=>by have:=t.dh;omega
 | k + 1,.mk h ps,hn,cr=>by
  simp only [Ty.wt,Hd.wt] at hn cr;have hpl:=ps.fy;have hc:=ps.eF;have nK:=ps.gm;have Mm:=se ps;refine Sa ?_;refine uc (s:=false) (bt:=[]) (mu:=[9]) (hbt:=fun p hp=>by cases hp) (fr:=false) (P:=prog) tt aaP 5000 34 [.tmp 2] func36 rfl ntmps36 rfl (nL rfl) (fun _ _ _ _=>?_);refine br ?_ ?_<;>intro h9
  ·have h9:h.ag=9:=sU h9;have:flatT (.mk h ps)=[]:=by simp [flatT,h9]
   exact .inr ⟨by rw [this];rfl,rfl⟩
  have h9:¬ h.ag=9:=sU h9;have L3:flatT (.mk h ps) = .mk h ps :: flatP ps:=by simp [flatT,h9]
  refine Wj rfl rfl rfl rfl rfl rfl rfl rfl ?_
  refine av (fun j st=>∃ (e q:Nat) (L:List Ty),st=Sb (.mk h ps) L q e/\q=L.length/\e<=ps.len/\flatT (.mk h ps)=L ++ flatP (ps.drop e)/\j=ps.len - e) ps.len
   (Sb (.mk h ps) [.mk h ps] 1 0) (az 1 rfl wA0 rfl rfl rfl wB0) ⟨0,1,_,rfl,rfl,by omega,L3,by omega⟩ ?_
  rintro j st ⟨e,q,L,rfl,hq,he,aT,rfl⟩
  have Wy:L.length<=1 + ps.nn:=by
   have:=congrArg List.length aT;rw [L3] at this;simp at this;omega
  refine br ?_ ?_<;>intro hL
  ·have au:e < ps.len:=by simpa [aH] using hL
   obtain ⟨p,t,hx⟩:=Pts.eE au;have CP:=Pts.gj (mG hx);rw [Pts.drop_cons hx] at aT;simp only [flatP] at aT;obtain ⟨u,us⟩:=t;refine iX (bQ hx) ?_;refine br ?_ ?_<;>intro hB
   ·have hB:p.bare=false:=sU hB;have aT:flatT (.mk h ps)=(L ++ flatT (.mk u us)) ++ flatP (ps.drop (e + 1)):=by rw [aT,hB,List.append_assoc];all_goals rfl
    have x4:L.length + (flatT (.mk u us)).length<=1 + ps.nn:=by
     have:=congrArg List.length aT;rw [L3] at this;simp at this;omega
    have fu:ib L ++ ib (flatT (.mk u us))=ib (L ++ flatT (.mk u us)):=by simp [ib]
    refine iX (bQ hx) ?_;refine cP Rj (n5 k (.mk u us) (by omega) (by omega)) ?_;refine ⟨by rw [dK,hq],⟨by simp only [dK,maxLen];omega,by simp only [dK];omega⟩,?_⟩;exact ⟨Sb (.mk h ps) (L ++ flatT (.mk u us)) (q + (ib (flatT (.mk u us))).length) (e + 1),(az 1 rfl (wA2 (nxt au (by omega)) fu) rfl rfl rfl (dm (nxt au (by omega)) fu)),ps.len - (e + 1),by omega,e + 1,_,_,rfl,by rw [dK,List.length_append,hq],by omega,aT,rfl⟩
   ·have hB:p.bare=true:=sU hB;rw [hB] at aT;exact rE ⟨_,by omega,e + 1,q,L,rfl,hq,by omega,aT,rfl⟩ (az 1 rfl (wA1 (nxt au (by omega))) rfl rfl rfl (wB1 (nxt au (by omega))))
  ·have aN:e=ps.len:=by simp [aH] at hL;omega
   rw [aN,Pts.cX] at aT;simp only [flatP,List.append_nil] at aT;rw [aT];exact ⟨_,ax,.inl rfl⟩
theorem wE (S:Sch) (hl:S.types.length<=1099511627776) (hr:∀ x∈S.types,tO S x.2=true):∀ (k i:Nat),i < S.types.length->k<=99 ->
  EvP prog 86 [.agg (dR S),.v (.int .i64 i),.v (.int .i64 k)] (.v (.int .i64 (oz (endI S (k + 1) i))))
 | k,i,hi,hk=>by
  have hN:=aal S.types;have A4:=fun s=>kj S s hl;have ih:∀ k' j,k=k' + 1->j < S.types.length->EvP prog 86 [.agg (dR S),.v (.int .i64 j),.v (.int .i64 k')] (.v (.int .i64 (oz (endI S (k' + 1) j)))):=fun k' j he hj=>wE S hl hr k' j hj (by omega);obtain ⟨x,hx⟩:∃ x,S.types[i]? = some x:=⟨_,gE hi⟩;have hrx:=hr x (mG hx);have eZ:=jT S;obtain ⟨xw,⟨xh,xp⟩⟩:=x;have hE:endI S (k + 1) i=if xh.ag=9 then endI S k ((cM (tL S) xh.name.s).getD 0) else some i:=by rw [endI,hx];all_goals rfl
  obtain ⟨ae,order,types,⟨rh,rp⟩⟩:=S;simp only at hl hN hi hx hrx eZ;refine eG 32 [.tmp 6] func86 rfl ntmps86 rfl fun _ _ _ _=>?_;refine iX (dNms_get hx) ?_;refine br ?_ ?_<;>intro h9
  ·have h9:¬ xh.ag=9:=sU h9;rw [if_neg h9] at hE;rw [hE];exact (rfl:_=_)
  have h9:xh.ag=9:=sU h9;rw [if_pos h9] at hE;rw [hE];refine br ?_ ?_<;>intro h1
  ·have h1:k=0:=by have:=h1;simp at this;omega
   subst h1;exact (rfl:_=_)
  have h1:1<=k:=by have:=h1;simp at this;omega
  obtain ⟨k',rfl⟩:∃ k',k=k' + 1:=⟨k - 1,by omega⟩;have MC:=of_decide_eq_true hrx h9;obtain ⟨j,hj⟩:∃ j,cM (tL ⟨ae,order,types,.mk rh rp⟩) xh.name.s=some j:=Option.ne_none_iff_exists'.1 MC;have oM:=(cR hj).1;rw [eZ] at oM;have hf:=A4 xh.name.s;rw [hj] at hf ⊢;have fF:IntKind.i64.wrap (((k' + 1:Nat):Int) - 1)=(k':Int):=by rw [wrap64 (by omega) (by omega)];omega
  refine dI ?_;refine iX (dNms_get hx) ?_;refine cD Rm hf ?_;refine cD VC (ih k' j rfl oM) ?_ (wC1 fF);exact (rfl:_=_)
theorem sf {S:Sch}:∀ {k i j:Nat},endI S k i=some j->endI S (k + 1) i=some j
 | 0,i,j,h=>by cases h
 | k + 1,i,j,h=>by
  rw [endI] at h ⊢
  cases hx:S.types[i]? with
  | none=>rw [hx] at h;cases h
  | some x=>
   rw [hx] at h;simp only at h ⊢;split at h
   ·rename_i h9;rw [if_pos h9];exact sf h
   ·rename_i h9;rw [if_neg h9];exact h
def wF (S:Sch) (k:Nat):List Bool:=(List.range S.types.length).map fun i=>(endI S k i).isSome
theorem qE (S:Sch) (k:Nat):(wF S k).length=S.types.length:=by simp [wF]
theorem wH {S:Sch} {k i:Nat} (hi:i < S.types.length):(wF S k).getD i false=(endI S k i).isSome:=by
 simp [wF,List.getD_eq_getElem?_getD,List.getElem?_range hi]
theorem Sc (S:Sch) (k:Nat):RB (wF S k) (wF S (k + 1)):=by
 intro i h;by_cases hi:i < S.types.length
 ·rw [wH hi] at h ⊢;obtain ⟨j,hj⟩:=Option.isSome_iff_exists.1 h;rw [sf hj];rfl
 ·rw [List.getD_eq_getElem?_getD,List.getElem?_eq_none (by rw [qE];omega)] at h;cases h
theorem OQ {S:Sch} {k:Nat} (h:wF S k=wF S (k + 1)):∀ i,endI S (k + 2) i=endI S (k + 1) i:=by
 intro i
 have key:∀ {j:Nat},j < S.types.length->(endI S k j).isSome=(endI S (k + 1) j).isSome:=fun {j} hj=>by
  rw [<- wH hj,<- wH hj,h]
 have same:∀ j,endI S (k + 1) j=endI S k j:=fun j=>by
  cases h1:endI S k j with
  | some m=>exact sf h1
  | none=>
   cases h2:endI S (k + 1) j with
   | none=>rfl
   | some m=>
    have hj:j < S.types.length:=by
     rw [endI] at h2
     cases hx:S.types[j]? with
     | none=>rw [hx] at h2;cases h2
     | some x=>exact (gS hx).1
    have:=key hj;rw [h1,h2] at this;cases this
 rw [endI,endI]
 cases hx:S.types[i]? with
 | none=>rfl
 | some x=>
  simp only;split
  ·exact same _
  ·rfl
theorem zA (S:Sch):∀ k,(∀ i,endI S (k + 1) i=endI S k i)∨k<=vQ (wF S k)
 | 0=>.inr (Nat.zero_le _)
 | k + 1=>by
  rcases zA S k with h | h
  ·refine .inl fun i=>?_;rw [endI,endI]
   cases hx:S.types[i]? with
   | none=>rfl
   | some x=>
    simp only;split
    ·exact h _
    ·rfl
  ·rcases (vR (by rw [qE,qE]) (Sc S k)).1 with h2 | h2
   ·exact .inl (OQ h2)
   ·exact .inr (by omega)
theorem DK {S:Sch}:∀ {k:Nat},S.types.length + 1<=k->∀ i,endI S k i=endI S (S.types.length + 1) i:=by
 have aU:∀ i,endI S (S.types.length + 2) i=endI S (S.types.length + 1) i:=fun i=>by
  rcases zA S (S.types.length + 1) with h | h
  ·exact h i
  ·have:=IK (wF S (S.types.length + 1));rw [qE] at this;omega
 have key:∀ d i,endI S (S.types.length + 1 + (d + 1)) i=endI S (S.types.length + 1 + d) i:=by
  intro d
  induction d with
  | zero=>exact aU
  | succ d ih=>
   intro i;show endI S (S.types.length + 1 + (d + 1) + 1) i=endI S (S.types.length + 1 + d + 1) i;rw [endI,endI]
   cases hx:S.types[i]? with
   | none=>rfl
   | some x=>
    simp only;split
    ·exact ih _
    ·rfl
 intro k hk i;obtain ⟨d,rfl⟩:∃ d,k=S.types.length + 1 + d:=⟨k - (S.types.length + 1),by omega⟩;clear hk
 induction d with
 | zero=>rfl
 | succ d ih=>rw [key,ih]
theorem wI (S:Sch) (hl:S.types.length<=64) (hr:∀ x∈S.types,tO S x.2=true) (i:Nat) (hi:i < S.types.length) :
  EvP prog 86 [.agg (dR S),.v (.int .i64 i),.v (.int .i64 (99:Nat))] (.v (.int .i64 (oz (endI S (S.types.length + 1) i)))):=by
 have:=wE S (by omega) hr 99 i hi (Nat.le_refl _)
 rwa [DK (by omega)] at this
abbrev OR (S:Sch) (k n e:Nat):St:=
 ⟨[(2,⟨[],.loc 0 0⟩),(5,⟨[],.v (.int .i64 k)⟩),(6,⟨[],.v (.int .i64 n)⟩),(7,⟨[],.v (.int .i64 e)⟩)],[dR S],[]⟩
theorem wJ (S:Sch) (hl:S.types.length<=64) (hs:nmsWt S.types<=1099511627776) (hr:∀ x∈S.types,tO S x.2=true) (s:ByteArray) (i k:Nat) (hi:cM (tL S) s=some i) (hk:endI S (S.types.length + 1) i=some k) :
  EvP prog 38 [.agg (dR S),.v (.string s)] (.v (.int .i64 (firstA S k))):=by
 have hN:=aal S.types;have LW:=(cR hi).1;rw [jT] at LW;have jm:=(qy hk).1;have hf:=kj S s (by omega);have he:=wI S hl hr i LW;rw [hi] at hf;rw [hk] at he;have hfa:=@ng S;have IV:=zo S;obtain ⟨ae,order,types,⟨rh,rp⟩⟩:=S;simp only at hl hs hN LW jm hfa IV;refine eG 29 [.tmp 4] func38 rfl ntmps38 rfl fun _ _ _ _=>?_;refine dI ?_;refine cD Rm hf ?_;refine cD VC he ?_;refine lJ (fun e=>OR ⟨ae,order,types,.mk rh rp⟩ k (firstA ⟨ae,order,types,.mk rh rp⟩ e) e) k (weak_mk ⟨_,rfl⟩ wA rfl rfl rfl wB) ?_;intro e hek;refine br ?_ ?_<;>intro hL
 ·have au:e < k:=sU hL;obtain ⟨x,hx⟩:∃ x,types[e]? = some x:=⟨_,gE (by omega)⟩;have T6:=gx (mG hx);have h1:=hfa hx;have h2:=IV e;have h3:=IV (e + 1);have h4:=jB x.2;obtain ⟨xw,⟨xh,xp⟩⟩:=x;simp only at T6 h1 h4;refine iX (dNms_get hx) ?_;refine cP Rj (n5 _ (.mk xh xp) (Nat.le_refl _) (by omega)) ?_
  have sP:IntKind.i64.wrap ((firstA ⟨ae,order,types,.mk rh rp⟩ e:Int) + (ib (flatT (.mk xh xp))).length)=(firstA ⟨ae,order,types,.mk rh rp⟩ (e + 1):Int):=by
   rw [dK,wrap64 (by omega) (by omega)];omega
  exact rE ⟨_,by omega,e + 1,rfl,by omega,rfl⟩ (weak_mk ⟨_,rfl⟩ wA rfl rfl rfl (dm sP (nxt au (by omega))))
 ·have aN:e=k:=by have:=hL;simp at this;omega
  subst aN;exact (rfl:_=_)
theorem I5 {S:Sch} {e:Nat} {x:Wd × Ty} (h:S.types[e]? = some x):(tN S)[e]? = some x.1:=by simp [tN,h]
abbrev OS (S:Sch) (e:Nat):St:=
 ⟨[(1,⟨[],.loc 0 0⟩),(2,⟨[],.loc 1 0⟩),(3,⟨[],.v (.int .i64 e)⟩)],[dR S,[.v (.int .i64 0),.v (.int .i64 0)]],[]⟩
theorem Bf (S:Sch) (hs:nmsWt S.types<=1099511627776) :
  EvP prog 173 [.agg (dR S)] (ei S).d:=by
 have hN:=aal S.types;have fV:=jx S.types;have eZ:=IZ S;have hF:=ei.eq_1 S;have jl:=@I5 S;have A4:=fun s=>kj S s (by omega);have hTL:tL S=ay (tN S):=rfl;obtain ⟨ae,order,types,⟨rh,rp⟩⟩:=S;simp only at hs hN fV eZ jl hF;generalize hQ:tN ⟨ae,order,types,.mk rh rp⟩=Q at eZ hF jl hTL;refine eG 47 [.cell 2 41] func173 rfl ntmps173 rfl fun _ _ _ _=>?_;generalize ei ⟨ae,order,types,.mk rh rp⟩=F at hF ⊢;refine br ?_ ?_<;>intro h
 ·have h:64 < types.length:=by simp [hN] at h;omega
  obtain ⟨x,hx⟩:∃ x,types[64]? = some x:=⟨_,gE h⟩;have Wa:=jl hx;rw [if_pos h,kg Wa] at hF;obtain ⟨xw,⟨xh,xp⟩⟩:=x;refine iX (dNms_get hx) ?_;refine ⟨_,?_,rfl⟩;rw [hF];exact ax
 have h:¬ 64 < types.length:=by simp [hN] at h;omega
 rw [if_neg h] at hF;refine lI (fun j st=>∃ e:Nat,st=OS ⟨ae,order,types,.mk rh rp⟩ e/\e<=types.length/\enumL Q 0 Q=enumL Q e (Q.drop e)/\j=types.length - e) ⟨0,rfl,by omega,rfl,rfl⟩ (weak_mk ⟨_,rfl⟩ wA rfl rfl rfl wB) ?_;rintro j st ⟨e,rfl,he,aK,rfl⟩;rw [aK] at hF;refine br ?_ ?_<;>intro hL
 ·have au:e < types.length:=by have:=hL;simp [hN] at this;exact this
  obtain ⟨x,hx⟩:=gX au;have T6:=gx (mG hx);have hq:=jl hx;have aU:=oZ hq;obtain ⟨p,hp,HZ⟩:=OG hq;obtain ⟨xw,⟨xh,xp⟩⟩:=x;simp only [Wd.wt] at T6 hq aU hp HZ;have hf:=A4 xw.s;rw [hTL,hp] at hf;have hlab:=lP [xw] (by simp only [wdsWt,Wd.wt];omega);have B5:bN [xw]=if bd xw.s then (0,0) else (9,xw.a):=by simp [bN,badWd]
  refine iX (dNms_get hx) ?_;refine cP MU hlab ?_;refine br ?_ ?_<;>intro hN
  ·have hN:(bN [xw]).1≠0:=sU hN
   cases bS:bd xw.s with
   | true=>rw [B5,bS] at hN;exact absurd rfl hN
   | false=>
   rw [bS] at B5;have B5:bN [xw]=(9,xw.a):=B5;have hf9:aF Q e xw=9:=by simp [aF,bS]
   rw [aU,hf9,if_pos (by decide)] at hF;refine ⟨_,?_,rfl⟩;rw [hF,B5];exact ax
  ·have hN:(bN [xw]).1=0:=sU hN
   cases bS:bd xw.s with
   | false=>rw [B5,bS] at hN;exact absurd hN (by simp)
   | true=>
   refine cP Rm hf ?_;refine br ?_ ?_<;>intro h2
   ·have h2:p < e:=by have:=h2;simp [oz] at this;exact this
    have hf10:aF Q e xw=10:=by simp [aF,bS,HZ.1 h2]
    rw [aU,hf10,if_pos (by decide)] at hF;refine ⟨_,?_,rfl⟩;rw [hF];exact ax
   ·have h2:¬ p < e:=by have:=h2;simp [oz] at this;omega
    have hd:bI (Q.take e) xw.s=false:=by
     cases hd:bI (Q.take e) xw.s
     ·rfl
     ·exact absurd (HZ.2 hd) h2
    have hf0:aF Q e xw=0:=by simp [aF,bS,hd]
    rw [hf0,if_neg (by simp)] at aU;exact rE ⟨_,by omega,e + 1,rfl,by omega,by rw [aK,aU],rfl⟩ (weak_mk ⟨_,rfl⟩ wA rfl rfl rfl (wB1 (nxt au (by omega))))
 ·have aN:e=types.length:=sW hN hL;rw [aN,<- eZ,List.drop_length] at hF;refine ⟨_,?_,rfl⟩;rw [hF];exact ax
abbrev zB (S:Sch) (t:Ty) (e:Nat):St:=
 ⟨[(2,⟨[],.loc 0 0⟩),(3,⟨[],.loc 1 0⟩),(4,⟨[],.loc 2 0⟩),(5,⟨[],.v (.int .i64 e)⟩)],[dR S,dV t,[.v (.int .i64 0),.v (.int .i64 0)]],[]⟩
theorem qF (S:Sch) (hl:S.types.length<=1099511627776) (hs:wdsWt S.ae<=1099511627776):∀ (k:Nat) (t:Ty),t.wt<=k->t.wt<=1099511627776 ->
  EvP prog 175 [.agg (dR S),.agg (dV t)] (kh S t).d
 | 0,t,hn,_=>by have:=t.dh;omega
 | k + 1,.mk h ps,hn,cr=>by
  have ih:=qF S hl hs k;simp only [Ty.wt,Hd.wt] at hn cr;have hpl:=ps.fy;have hf:=kj S h.name.s hl;have XS:=fun l hl=>DI S hs l hl;have hS:kh S (.mk h ps)=if h.ag=9/\cM (tL S) h.name.s=none then (15,h.name.a) else knP ⟨ay S.ae,[],[],[],fun _ _=>false⟩ (tL S) ps:=by rw [kh,knT]
  have XM:knP ⟨ay S.ae,[],[],[],fun _ _=>false⟩ (tL S) ps=knP ⟨ay S.ae,[],[],[],fun _ _=>false⟩ (tL S) (ps.drop 0):=by rw [Pts.drop]
  have hK:∀ e p u,ps.toList[e]? = some (p,u)->knP ⟨ay S.ae,[],[],[],fun _ _=>false⟩ (tL S) (ps.drop e)=if (labW (ay S.ae) p.label).1≠0 then labW (ay S.ae) p.label else if (labW (ay S.ae) p.cl).1≠0 then labW (ay S.ae) p.cl else if p.bare then knP ⟨ay S.ae,[],[],[],fun _ _=>false⟩ (tL S) (ps.drop (e + 1)) else if (kh S u).1≠0 then kh S u else knP ⟨ay S.ae,[],[],[],fun _ _=>false⟩ (tL S) (ps.drop (e + 1)):=fun e p u hx=>by
   rw [Pts.drop_cons hx,knP];all_goals rfl
  have hK0:knP ⟨ay S.ae,[],[],[],fun _ _=>false⟩ (tL S) .nil=(0,0):=by rw [knP]
  generalize knP ⟨ay S.ae,[],[],[],fun _ _=>false⟩ (tL S)=KP at hS XM hK hK0;obtain ⟨ae,order,types,⟨rh,rp⟩⟩:=S;refine eG 64 [.cell 4 41] func175 rfl ntmps175 rfl fun _ _ _ _=>?_;generalize kh ⟨ae,order,types,.mk rh rp⟩ (.mk h ps)=F at hS ⊢;refine have body:=?_;br (fun h9=>abT Rm hf ax rfl (br (fun hx=>?_) (fun hx=>av (fun j st=>∃ e:Nat,st=zB ⟨ae,order,types,.mk rh rp⟩ (.mk h ps) e/\e<=ps.len/\F=KP (ps.drop e)/\j=ps.len - e) ps.len (zB ⟨ae,order,types,.mk rh rp⟩ (.mk h ps) 0) (weak_mk ⟨_,rfl⟩ wA rfl rfl rfl wB) ⟨0,rfl,by omega,?_,by omega⟩ body))) (fun h9=>av (fun j st=>∃ e:Nat,st=zB ⟨ae,order,types,.mk rh rp⟩ (.mk h ps) e/\e<=ps.len/\F=KP (ps.drop e)/\j=ps.len - e) ps.len (zB ⟨ae,order,types,.mk rh rp⟩ (.mk h ps) 0) (weak_mk ⟨_,rfl⟩ wA rfl rfl rfl wB) ⟨0,rfl,by omega,?_,by omega⟩ body)
  rotate_left
  ·have h9:h.ag=9:=sU h9;have hx:cM (tL ⟨ae,order,types,.mk rh rp⟩) h.name.s=none:=fC.1 (by simpa [pickB] using hx);rw [if_pos ⟨h9,hx⟩] at hS;refine ⟨_,?_,rfl⟩;rw [hS];exact ax
  ·have hx:¬ cM (tL ⟨ae,order,types,.mk rh rp⟩) h.name.s=none:=fun hn=>by
    have h3:=fC.2 hn;simp [pickB] at hx;have h3:=of_decide_eq_true h3;omega
   rw [if_neg (fun hc=>hx hc.2),XM] at hS;exact hS
  ·have h9:¬ h.ag=9:=sU h9;rw [if_neg (fun hc=>h9 hc.1),XM] at hS;exact hS
  rintro j st ⟨e,rfl,he,aK,rfl⟩;refine br ?_ ?_<;>intro hL
  ·have au:e < ps.len:=by simpa [aH] using hL
   obtain ⟨p,t,hx⟩:=Pts.eE au;have CP:=Pts.gj (mG hx);have hk:=hK e p t hx;have hw1:wdsWt p.label + wdsWt p.cl<=p.wt:=by simp only [Ph.wt];omega
   obtain ⟨u,us⟩:=t;refine iX (bQ hx) ?_;refine cP TM (XS p.label (by omega)) ?_;refine br ?_ ?_<;>intro b1
   ·have b1:(labW (ay ae) p.label).1=0:=sU b1;rw [if_neg (by simp [b1])] at hk;refine cP TM (XS p.cl (by omega)) ?_;refine br ?_ ?_<;>intro b2
    ·have b2:(labW (ay ae) p.cl).1=0/\p.bare=false:=by
      rw [pickB_and] at b2;simpa using b2
     obtain ⟨b2,b3⟩:=b2;rw [if_neg (by simp [b2]),if_neg (by simp [b3])] at hk;refine cP MS (ih (.mk u us) (by omega) (by omega)) ?_;refine br ?_ ?_<;>intro b4
     ·have b4:(kh ⟨ae,order,types,.mk rh rp⟩ (.mk u us)).1≠0:=sU b4;rw [if_pos b4] at hk
      (refine ⟨_,?_,rfl⟩;rw [aK,hk];exact ax)
     ·have b4:(kh ⟨ae,order,types,.mk rh rp⟩ (.mk u us)).1=0:=sU b4;rw [if_neg (by simp [b4])] at hk;exact rE ⟨_,by omega,e + 1,rfl,by omega,by rw [aK,hk],rfl⟩ (weak_mk ⟨_,rfl⟩ wA rfl rfl rfl (wB1 (nxt au (by omega))))
    ·refine br ?_ ?_<;>intro b4
     ·have b4:(labW (ay ae) p.cl).1≠0:=sU b4;rw [if_pos b4] at hk
      (refine ⟨_,?_,rfl⟩;rw [aK,hk];exact ax)
     ·have b4:(labW (ay ae) p.cl).1=0:=sU b4
      have b3:p.bare=true:=by
       rw [pickB_and] at b2;simpa [b4] using b2
      rw [if_neg (by simp [b4]),if_pos b3] at hk;exact rE ⟨_,by omega,e + 1,rfl,by omega,by rw [aK,hk],rfl⟩ (weak_mk ⟨_,rfl⟩ wA rfl rfl rfl (wB1 (nxt au (by omega))))
   ·have b1:¬ (labW (ay ae) p.label).1=0:=sU b1;rw [if_pos b1] at hk;refine br ?_ ?_<;>intro b2
    ·rw [pickB_and] at b2;simp [b1] at b2
    ·refine br ?_ ?_<;>intro b4
     ·(refine ⟨_,?_,rfl⟩;rw [aK,hk];exact ax)
     ·simp [b1] at b4
  ·have aN:e=ps.len:=by simp [aH] at hL;omega
   rw [aN,Pts.cX] at aK;refine ⟨_,?_,rfl⟩;rw [aK,hK0];exact ax
abbrev Bg (h:Hd) (ps:Pts) (e:Nat) (depth m:Int):St:=
 ⟨[(2,⟨[],.v (.int .i64 depth)⟩),(3,⟨[],.loc 0 0⟩),(4,⟨[],.loc 1 0⟩),(6,⟨[],.loc 2 0⟩),(7,⟨[],.v (.int .i64 e)⟩)],[[.v (.int .i64 0),.v (.int .i64 0),.v (.int .i64 m)],dV (.mk h ps),[.v (.int .i64 0),.v (.int .i64 0),.v (.int .i64 0)]],[]⟩
theorem Bh (k:Nat) (ih:AO k) (h:Hd) (ps:Pts) (depth m:Int) (hk:ps.wt<=k) (cr:(Ty.mk h ps).wt<=1099511627776) (yV:0<=depth) (E5:depth<=25) (jG:0<=m) (fH:m<=512) :
  EvP prog 174 [wD (0,0) m,.agg (dV (.mk h ps)),.v (.int .i64 depth)] (wD (wrong (.mk h ps) depth m).1 (wrong (.mk h ps) depth m).2):=by
 have zn:=cr;simp only [Ty.wt,Hd.wt] at zn;have hpl:=ps.fy;have VN:=bw h.af;have rb:IntKind.i64.wrap (m + 1)=m + 1:=wrap64 (by omega) (by omega)
 have hW:∀ e a,EvP prog 205 [.agg [.v (.int .i64 0),.v (.int .i64 0),.v (.int .i64 (IntKind.i64.wrap (m + 1)))],.v (.int .i64 e),.v (.int .i64 a)] (wD (e,a) (m + 1)):=by
  intro e a;rw [rb];exact eu (0,0) (m + 1) e a
 have hS:=wrong.eq_def (.mk h ps) depth m;simp only at hS;refine eG 201 [.cell 6 263] func174 rfl ntmps174 rfl fun _ _ _ _=>?_;refine br ?_ ?_<;>intro c
 ·have c:24 < depth:=of_decide_eq_true c;refine cP gw (hW 6 h.aD) ?_;rw [if_pos c] at hS;refine ⟨_,?_,rfl⟩;rw [hS];exact ax
 have c:¬ 24 < depth:=of_decide_eq_false c;rw [if_neg c] at hS;refine br ?_ ?_<;>intro c
 ·have c:512 < IntKind.i64.wrap (m + 1):=of_decide_eq_true c;rw [rb] at c;refine cP gw (hW 8 h.aD) ?_;rw [if_pos c] at hS;refine ⟨_,?_,rfl⟩;rw [hS];exact ax
 have c:¬ 512 < IntKind.i64.wrap (m + 1):=of_decide_eq_false c;rw [rb] at c;rw [if_neg c] at hS;refine br ?_ ?_<;>intro c
 ·have c:h.ag < 1∨9 < h.ag:=by simpa [ap] using c
  refine cP gw (hW 14 h.aD) ?_;rw [if_pos c] at hS;refine ⟨_,?_,rfl⟩;rw [hS];exact ax
 have c:¬ (h.ag < 1∨9 < h.ag):=by simp [ap] at c;omega
 rw [if_neg c] at hS;refine cP ZN (FM (.mk h ps) (by omega)) ?_;refine br ?_ ?_<;>intro c
 ·have c:tJ (.mk h ps)=false:=by simpa [tJ] using c
  refine cP gw (hW 19 h.aD) ?_;rw [if_pos c] at hS;refine ⟨_,?_,rfl⟩;rw [hS];exact ax
 have c:¬ tJ (.mk h ps)=false:=by simpa [tJ] using c
 rw [if_neg c] at hS;refine br ?_ ?_<;>intro c
 ·have c:(h.ag=2/\h.hi < h.lo)∨(h.ag=3/\(h.most < 0∨4096 < h.most)):=by simp [ap,pickB_and] at c;omega
  refine cP gw (hW 20 h.aD) ?_;rw [if_pos c] at hS;refine ⟨_,?_,rfl⟩;rw [hS];exact ax
 have c:¬ ((h.ag=2/\h.hi < h.lo)∨(h.ag=3/\(h.most < 0∨4096 < h.most))):=by simp [ap,pickB_and] at c;omega
 rw [if_neg c] at hS;refine br ?_ ?_<;>intro k9
 ·have k9:h.ag=9:=sU k9;refine cP Io (ka h.name.s (by simp only [Wd.wt] at zn;omega)) ?_;refine br ?_ ?_<;>intro q
  ·have q:bd h.name.s=false:=by simpa [pickB_and,k9] using q
   refine cP gw (hW 9 h.name.a) ?_;rw [if_pos ⟨k9,q⟩] at hS;refine ⟨_,?_,rfl⟩;rw [hS];exact ax
  ·have q:bd h.name.s=true:=by simpa [pickB_and,k9] using q
   rw [if_neg (by simp [q]),if_neg (by omega),if_neg (by omega),if_neg (by omega)] at hS;refine br (fun x=>?_) (fun _=>?_)
   ·have:=of_decide_eq_true x;omega
   refine br (fun x=>?_) (fun _=>?_)
   ·simp [ap] at x;omega
   refine br (fun x=>?_) (fun _=>?_)
   ·simp [ap] at x;omega
   refine ⟨_,?_,rfl⟩;rw [hS];exact (wC1 rb)
 ·have k9:¬ h.ag=9:=sU k9;rw [if_neg (by simp [k9])] at hS;refine br ?_ ?_<;>intro k4
  ·have k4:h.ag=4:=of_decide_eq_true k4;rw [if_pos k4] at hS;refine br ?_ ?_<;>intro c
   ·have c:h.af=[]:=by simp [aA] at c;exact c
    refine cP gw (hW 15 h.aD) ?_;refine ⟨_,?_,rfl⟩;rw [hS];simp only [iy,if_pos c];exact ax
   have c:¬ h.af=[]:=by simp [aA] at c;exact c
   refine br ?_ ?_<;>intro c2
   ·have au:64 < h.af.length:=by simp [aA] at c2;omega
    obtain ⟨x,hx⟩:=gX au;refine dS ?_;refine ⟨jN x,⟨by omega,aS hx⟩,?_⟩;refine cD gw (hW 8 x.a) ?_;refine ⟨_,?_,rfl⟩;rw [hS];simp only [iy,if_neg c,if_pos au,hx,Option.getD_some];exact ax
   have c2:¬ 64 < h.af.length:=by simp [aA] at c2;omega
   have hE:iy h=enumL h.af 0 h.af:=by simp only [iy,if_neg c,if_neg c2]
   rw [hE] at hS
   refine av (fun j st=>∃ (e:Nat),st=Bg h ps e depth (m + 1)/\e<=h.af.length/\enumL h.af 0 h.af=enumL h.af e (h.af.drop e)/\j=h.af.length - e) h.af.length
    (Bg h ps 0 depth (m + 1)) (az 3 rfl (wA1 rb) rfl rfl rfl (wB1 rb)) ⟨0,rfl,by omega,rfl,by omega⟩ ?_
   rintro j st ⟨e,rfl,he,aK,rfl⟩;refine br ?_ ?_<;>intro hL
   ·have au:e < h.af.length:=by simpa [aA] using hL
    obtain ⟨x,hx⟩:=gX au;rw [drop_cons hx] at aK;simp only [enumL] at aK;refine cP TL (oA h.af e x (by omega) hx) ?_;refine br ?_ ?_<;>intro hl
    ·have hl:aF h.af e x≠0:=sU hl;rw [if_pos hl] at aK;refine dS ?_;refine ⟨jN x,⟨by omega,aS hx⟩,?_⟩;refine cD gw (eu (0,0) (m + 1) _ x.a) ?_;refine ⟨_,?_,rfl⟩;rw [hS,aK];exact ax
    ·have hl:aF h.af e x=0:=sU hl;rw [if_neg (by simp [hl])] at aK;exact rE ⟨_,by omega,e + 1,rfl,by omega,aK,rfl⟩ (weak_mk ⟨_,rfl⟩ wA rfl rfl rfl (wB1 (nxt au (by omega))))
   ·have aN:e=h.af.length:=by simp [aA] at hL;omega
    rw [aN,List.drop_length] at aK;simp only [enumL] at aK;rw [aK] at hS;refine br (fun x=>?_) (fun _=>?_)
    ·simp [ap] at x;omega
    refine br (fun x=>?_) (fun _=>?_)
    ·simp [ap] at x;omega
    refine ⟨_,?_,rfl⟩;rw [hS];exact ax
  ·have k4:¬ h.ag=4:=of_decide_eq_false k4;rw [if_neg k4] at hS;refine br ?_ ?_<;>intro k5
   ·have k5:h.ag=5∨h.ag=6:=by simpa [ap] using k5
    rw [if_pos k5] at hS
    cases ps with
    | nil=>
     refine cP gw (hW 19 h.aD) ?_;refine ⟨_,?_,rfl⟩;rw [hS];simp only [wrongOne];exact ax
    | cons p t r=>
     cases r with
     | cons p2 t2 r2=>
      refine cP gw (hW 19 h.aD) ?_;refine ⟨_,?_,rfl⟩;rw [hS];simp only [wrongOne];exact ax
     | nil=>
      obtain ⟨u,us⟩:=t;simp only [wrongOne] at hS;simp only [Ty.wt,Pts.wt] at zn hk;refine ⟨_,⟨by omega,rfl⟩,?_⟩;refine br ?_ ?_<;>intro c
      ·have c:p.name.s=aq:=by
        have:=c;simp [ap] at this;exact this
       refine ⟨_,⟨by omega,rfl⟩,?_⟩;refine cP MV (lO p eT (dV (.mk u us)) (dV bW) (by omega) (yY _ _ _ _ _) (yY _ _ _ _ _)) ?_;refine br ?_ ?_<;>intro q
       ·have q:bM p eT=false:=by simpa [ap,c] using q
        refine cP gw (hW 19 h.aD) ?_;rw [if_pos (by simp [q])] at hS;refine ⟨_,?_,rfl⟩;rw [hS];exact ax
       ·have q:bM p eT=true:=by simpa [ap,c] using q
        rw [if_neg (by simp [q,c])] at hS;refine br ?_ ?_<;>intro x
        ·have x:h.most < 0∨1024 < h.most:=by simpa [ap] using x
         refine cP gw (hW 20 h.aD) ?_;rw [if_pos x] at hS;refine ⟨_,?_,rfl⟩;rw [hS];exact ax
        ·have x:¬ (h.most < 0∨1024 < h.most):=by simp [ap] at x;omega
         rw [if_neg x] at hS;refine dS ?_;refine ⟨_,⟨by omega,rfl⟩,?_⟩;refine cD MR (ih (.mk u us) (depth + 1) (m + 1) (by simp only [Ty.wt];omega) (by simp only [Ty.wt];omega) (by omega) (by omega) (by omega) (by omega)) ?_ (by repeat' (first | exact rfl | exact trivial | exact Or.inr (Or.inl ⟨_,rfl⟩) | exact Or.inr ⟨_,rfl⟩ | exact Or.inl ⟨rfl,rfl⟩ | exact Or.inl rfl | refine Or.inr ⟨_,_,rfl,Nat.zero_le _,rfl,?_⟩ | refine ⟨_,_,rfl,?_,?_⟩ | refine ⟨_,rfl,?_⟩ | exact congrArg (fun z=>DV.v (.int .i64 z)) rb | exact congrArg (fun z=>DV.v (.int .i64 z)) (wrap64 (by omega) (by omega))| refine Or.inr (Or.inr (Or.inr ⟨_,_,rfl,?_⟩)) | exact Or.inl rfl | refine Or.inr ?_));refine ⟨_,?_,rfl⟩;rw [hS];exact ax
      ·have c:p.name.s≠aq:=by
        have:=c;simp [ap] at this;exact this
       refine cP gw (hW 19 h.aD) ?_;rw [if_pos (.inl c)] at hS;refine ⟨_,?_,rfl⟩;rw [hS];exact ax
   ·have k5:¬ (h.ag=5∨h.ag=6):=by simp [ap] at k5;omega
    rw [if_neg k5] at hS;refine br ?_ ?_<;>intro k7
    ·have k7:h.ag=7∨h.ag=8:=by simpa [ap] using k7
     rw [if_pos k7] at hS;have hP:wrong (.mk h ps) depth m=eU h ps depth (m + 1):=by rw [hS];all_goals rfl
     refine cP ZO (AP k ih h ps depth (m + 1) hk cr yV (by omega) (by omega) (by omega)) ?_ (wC1 rb);refine ⟨_,?_,rfl⟩;rw [hP];exact ax
    ·have k7:¬ (h.ag=7∨h.ag=8):=by simp [ap] at k7;omega
     rw [if_neg k7] at hS;refine ⟨_,?_,rfl⟩;rw [hS];exact (wC1 rb)
theorem zC:∀ k,AO k
 | 0=>fun t depth m hk=>by have:=t.dh;omega
 | k + 1=>fun t depth m hk cr yV E5 jG fH=>by
  obtain ⟨h,ps⟩:=t;have fF:=hk;simp only [Ty.wt,Hd.wt] at fF;exact Bh k (zC k) h ps depth m (by omega) cr yV E5 jG fH
theorem Bi (t:Ty) (depth m:Int) (cr:t.wt<=1099511627776) (yV:0<=depth) (E5:depth<=25) (jG:0<=m) (fH:m<=512) :
  EvP prog 174 [wD (0,0) m,.agg (dV t),.v (.int .i64 depth)] (wD (wrong t depth m).1 (wrong t depth m).2):=
 zC t.wt t depth m (Nat.le_refl _) cr yV E5 jG fH
def eaA:List Ty->Int->Ft × Int
 | [],m=>((0,0),m)
 | t :: r,m=>if (bX t m).1.1≠0 then bX t m else eaA r (bX t m).2
theorem OT (z:Ty):∀ (l:List (Wd × Ty)) (m:Int),((eaA (l.map (fun x=>x.2) ++ [z]) m).1.1=0↔(eaR z l m).1.1=0)/\((eaR z l m).1.1≠0->eaA (l.map (fun x=>x.2) ++ [z]) m=eaR z l m)
 | [],m=>by
  show ((eaA [z] m).1.1=0↔(bX z m).1.1=0)/\((bX z m).1.1≠0->eaA [z] m=bX z m);simp only [eaA];by_cases h:(bX z m).1.1=0
  ·simp [h]
  ·simp [h]
 | x :: r,m=>by
  have ih:=OT z r (bX x.2 m).2;simp only [List.map_cons,List.cons_append,eaA,eaR];by_cases h:(bX x.2 m).1.1=0
  ·simp only [h,ne_eq,not_true,if_false];exact ih
  ·simp [h]
def eaK (F:Ty->Ft):List Ty->Ft
 | []=>(0,0)
 | t :: r=>if (F t).1≠0 then F t else eaK F r
theorem OU (F:Ty->Ft) (z:Ty):∀ l:List (Wd × Ty),((eaK F (l.map (fun x=>x.2) ++ [z])).1=0↔(eaL F (F z) l).1=0)/\((eaL F (F z) l).1≠0->eaK F (l.map (fun x=>x.2) ++ [z])=eaL F (F z) l)
 | []=>by
  show ((eaK F [z]).1=0↔(F z).1=0)/\((F z).1≠0->eaK F [z]=F z);simp only [eaK];by_cases h:(F z).1=0
  ·simp [h]
  ·simp [h]
 | x :: r=>by
  have ih:=OU F z r;simp only [List.map_cons,List.cons_append,eaK,eaL];by_cases h:(F x.2).1=0
  ·simp only [h,ne_eq,not_true,if_false];exact ih
  ·simp [h]
theorem GG {F:Ty->Ft}:∀ {l:List Ty},(eaK F l).1=0->∀ t∈l,(F t).1=0
 | [],_,t,ht=>by cases ht
 | u :: r,h,t,ht=>by
  rw [eaK] at h;split at h
  ·rename_i h1;exact (h1 h).elim
  ·rename_i h1;rcases List.mem_cons.1 ht with rfl | ht
   ·simpa using h1
   ·exact GG h t ht
theorem I6 (S:Sch):kF S=if (latF S.ae S.order).1≠0 then latF S.ae S.order
 else if (ei S).1≠0 then ei S
 else if (eaA (fM S) 0).1.1≠0 then (eaA (fM S) 0).1
 else if (eaK (kh S) (fM S)).1≠0 then eaK (kh S) (fM S)
 else loopF S:=by
 have h1:=OT S.root S.types 0;have h2:=OU (kh S) S.root S.types;unfold kF fM eY;by_cases a:(eaR S.root S.types 0).1.1=0
 ·have a':=h1.1.2 a;simp only [a,a',ne_eq,not_true,if_false];by_cases b:(eaL (kh S) (kh S S.root) S.types).1=0
  ·have b':=h2.1.2 b;simp only [b,b',ne_eq,not_true,if_false]
  ·rw [h2.2 b]
 ·rw [h1.2 a];by_cases b:(eaL (kh S) (kh S S.root) S.types).1=0
  ·have b':=h2.1.2 b;simp only [b,b',a,ne_eq,not_true,not_false_eq_true,if_false,if_true]
  ·rw [h2.2 b]
abbrev Wz (S:Sch) (T:List Ty) (m:Int) (e:Nat):St:=
 ⟨[(1,⟨[],.loc 0 0⟩),(2,⟨[],.loc 1 0⟩),(5,⟨[],.sl 9 (ib T) none⟩),(6,⟨[],.v (.int .i64 m)⟩),(7,⟨[],.v (.int .i64 e)⟩)],[dR S,[.v (.int .i64 0),.v (.int .i64 0)]],[]⟩
abbrev WA (S:Sch) (T:List Ty) (e:Nat):St:=
 ⟨[(1,⟨[],.loc 0 0⟩),(2,⟨[],.loc 1 0⟩),(5,⟨[],.sl 9 (ib T) none⟩),(11,⟨[],.v (.int .i64 e)⟩)],[dR S,[.v (.int .i64 0),.v (.int .i64 0)]],[]⟩
abbrev WB (S:Sch) (e:Nat):St:=
 ⟨[(1,⟨[],.loc 0 0⟩),(2,⟨[],.loc 1 0⟩),(13,⟨[],.v (.int .i64 e)⟩)],[dR S,[.v (.int .i64 0),.v (.int .i64 0)]],[]⟩
theorem Bj {S:Sch} (hs:S.wt<=1099511627776):∀ t∈fM S,t.wt<=1099511627776:=by
 intro t ht;unfold Sch.wt at hs;rcases List.mem_append.1 ht with h | h
 ·obtain ⟨x,hx,rfl⟩:=List.mem_map.1 h;have:=gx hx;omega
 ·simp only [List.mem_singleton] at h;subst h;omega
theorem Bl (S:Sch) (hs:S.wt<=1099511627776):EvP prog 122 [.agg (dR S)] (kF S).d:=by
 have XT:=Bj hs;unfold Sch.wt at hs;have hN:=aal S.types;have fV:=jx S.types;have k0:=Be S.ae S.order (by omega) (by omega);have abh:=Bf S (by omega);have ir:=DJ S (by omega);have abj:=fun t ht=>qF S (by omega) (by omega) _ t (Nat.le_refl _) (XT t ht);have hF:=I6 S;have hlen:(fM S).length=S.types.length + 1:=by simp [fM,eY]
 have hnF:(ei S).1=0->S.types.length<=64:=fun h=>by
  unfold ei at h;split at h
  ·cases h
  ·omega
 obtain ⟨ae,order,types,⟨rh,rp⟩⟩:=S;simp only at hs hN fV k0 abh hlen hnF hF;generalize hT:fM ⟨ae,order,types,.mk rh rp⟩=T at XT ir abj hlen hF;refine eG 104 [.cell 2 41] func122 rfl ntmps122 rfl fun _ _ _ _=>?_;generalize kF ⟨ae,order,types,.mk rh rp⟩=F at hF ⊢;refine cP Zy k0 ?_;refine br ?_ ?_<;>intro h1
 ·have h1:(latF ae order).1≠0:=sU h1;rw [if_pos h1] at hF;refine ⟨_,?_,rfl⟩;rw [hF];exact ax
 have h1:(latF ae order).1=0:=sU h1;rw [if_neg (by simp [h1])] at hF;refine cP Zz abh ?_;refine br ?_ ?_<;>intro h2
 ·have h2:(ei ⟨ae,order,types,.mk rh rp⟩).1≠0:=sU h2;rw [if_pos h2] at hF;refine ⟨_,?_,rfl⟩;rw [hF];exact ax
 have h2:(ei ⟨ae,order,types,.mk rh rp⟩).1=0:=sU h2;rw [if_neg (by simp [h2])] at hF;have Sd:=hnF h2;refine cP YT ir ?_
 refine av (fun j st=>∃ (e:Nat) (m:Int),st=Wz ⟨ae,order,types,.mk rh rp⟩ T m e/\e<=types.length + 1/\0<=m/\m<=512/\eaA T 0=eaA (T.drop e) m/\j=types.length + 1 - e) (types.length + 1)
  (Wz ⟨ae,order,types,.mk rh rp⟩ T 0 0) (weak_mk ⟨_,rfl⟩ wA rfl rfl rfl wB) ⟨0,0,rfl,by omega,by omega,by omega,rfl,by omega⟩ ?_
 rintro j st ⟨e,m,rfl,he,jG,fH,aK,rfl⟩;refine br ?_ ?_<;>intro hL
 ·have au:e < types.length + 1:=by have:=hL;simp [dK,hlen] at this;omega
  obtain ⟨t,ht⟩:∃ t,T[e]? = some t:=⟨_,gE (by omega)⟩;have NU:=XT t (mG ht);have aU:eaA (T.drop e) m=if (bX t m).1.1≠0 then bX t m else eaA (T.drop (e + 1)) (bX t m).2:=by rw [drop_cons ht,eaA]
  have Se:bX t m=if (wrong t 1 0).1.1≠0 then ((wrong t 1 0).1,m) else if 512 < m + t.cnt then ((8,t.h.aD),m + t.cnt) else ((0,0),m + t.cnt):=rfl
  have KF:=Bi t 1 0 NU (by omega) (by omega) (by omega) (by omega);have bJ:=kb _ t (Nat.le_refl _) NU;have E4:=t.eF;obtain ⟨u,us⟩:=t;refine iX (jW ht) ?_;refine cP MR KF ?_;refine br ?_ ?_<;>intro g1
  ·have g1:(wrong (.mk u us) 1 0).1.1≠0:=sU g1;rw [if_pos g1] at Se;rw [aK,aU,Se,if_pos g1,if_pos g1] at hF;refine ⟨_,?_,rfl⟩;rw [hF];exact ax
  have g1:(wrong (.mk u us) 1 0).1.1=0:=sU g1;rw [if_neg (by simp [g1])] at Se;refine iX (jW ht) ?_;refine cP Rk bJ ?_;have sP:IntKind.i64.wrap (m + ((Ty.mk u us).cnt:Int))=m + (Ty.mk u us).cnt:=wrap64 (by omega) (by omega);refine br ?_ ?_<;>intro g2
  ·have g2:512 < IntKind.i64.wrap (m + ((Ty.mk u us).cnt:Int)):=of_decide_eq_true g2;rw [sP] at g2;rw [if_pos g2] at Se;rw [aK,aU,Se,if_pos (by simp),if_pos (by simp)] at hF;refine iX (jW ht) ?_;refine ⟨_,?_,rfl⟩;rw [hF];exact ax
  ·have g2:¬ 512 < IntKind.i64.wrap (m + ((Ty.mk u us).cnt:Int)):=of_decide_eq_false g2;rw [sP] at g2;rw [if_neg g2] at Se;rw [Se,if_neg (by simp)] at aU;exact ⟨Wz ⟨ae,order,types,.mk rh rp⟩ T (m + (Ty.mk u us).cnt) (e + 1),(weak_mk ⟨_,rfl⟩ wA rfl rfl rfl (dm sP (nxt au (by omega)))),types.length + 1 - (e + 1),by omega,e + 1,_,rfl,by omega,by omega,by omega,by rw [aK,aU],rfl⟩
 have aN:e=types.length + 1:=by have:=hL;simp [dK,hlen] at this;omega
 rw [aK,List.drop_of_length_le (by omega),show eaA [] m=((0,0),m) from rfl,if_neg (by simp)] at hF
 refine av (fun j st=>∃ (e:Nat),st=WA ⟨ae,order,types,.mk rh rp⟩ T e/\e<=types.length + 1/\eaK (kh ⟨ae,order,types,.mk rh rp⟩) T=eaK (kh ⟨ae,order,types,.mk rh rp⟩) (T.drop e)/\j=types.length + 1 - e) (types.length + 1)
  (WA ⟨ae,order,types,.mk rh rp⟩ T 0) (weak_mk ⟨_,rfl⟩ wA rfl rfl rfl wB) ⟨0,rfl,by omega,rfl,by omega⟩ ?_
 clear aK hL aN he e;rintro j st ⟨e,rfl,he,aK,rfl⟩;refine br ?_ ?_<;>intro hL
 ·have au:e < types.length + 1:=by have:=hL;simp [dK,hlen] at this;omega
  obtain ⟨t,ht⟩:∃ t,T[e]? = some t:=⟨_,gE (by omega)⟩;have aU:eaK (kh ⟨ae,order,types,.mk rh rp⟩) (T.drop e)=if (kh ⟨ae,order,types,.mk rh rp⟩ t).1≠0 then kh ⟨ae,order,types,.mk rh rp⟩ t else eaK (kh ⟨ae,order,types,.mk rh rp⟩) (T.drop (e + 1)):=by rw [drop_cons ht,eaK]
  have hu:=abj t (mG ht);obtain ⟨u,us⟩:=t;apply nP (fun _=>false) 5 6 [0,1,2,3,4,5,6,7] [0,1,2,3,4,6,5,7] 2 2 mo (by decide +kernel)
  ·refine iX (jW ht) ?_;refine cD MS hu ?_;refine (?_:@Eq St _ _);exact rfl
  ·refine iX (jW ht) ?_;refine cD MS hu ?_;refine (⟨rfl,rfl,?_⟩:_/\_/\_)
   repeat' (first | exact trivial | refine ⟨rfl,?_⟩)
  ·rfl
  refine br ?_ ?_<;>intro g
  ·have g:(kh ⟨ae,order,types,.mk rh rp⟩ (.mk u us)).1≠0:=sU g;rw [aK,aU,if_pos g,if_pos g] at hF;refine ⟨_,?_,rfl⟩;rw [hF];exact ax
  ·have g:(kh ⟨ae,order,types,.mk rh rp⟩ (.mk u us)).1=0:=sU g;rw [if_neg (by simp [g])] at aU;exact rE ⟨_,by omega,e + 1,rfl,by omega,by rw [aK,aU],rfl⟩ (weak_mk ⟨_,rfl⟩ wA rfl rfl rfl (wB1 (nxt au (by omega))))
 have aN:e=types.length + 1:=by have:=hL;simp [dK,hlen] at this;omega
 have Ms:(eaK (kh ⟨ae,order,types,.mk rh rp⟩) T).1=0:=by rw [aK,List.drop_of_length_le (by omega)];all_goals rfl
 rw [aK,List.drop_of_length_le (by omega),show eaK (kh ⟨ae,order,types,.mk rh rp⟩) []=(0,0) from rfl,if_neg (by simp)] at hF
 have Um:∀ x∈types,tO ⟨ae,order,types,.mk rh rp⟩ x.2=true:=fun x hx=>Ba (GG Ms x.2 (by
  rw [<- hT]
  exact List.mem_append_left _ (List.mem_map_of_mem hx)))
 have he99:=wI ⟨ae,order,types,.mk rh rp⟩ Sd Um
 have hlo:F=match bR (fun i=>(endI ⟨ae,order,types,.mk rh rp⟩ (types.length + 1) i).isNone) types.length with
  | none=>(0,0)
  | some i=>(11,V7 (tN ⟨ae,order,types,.mk rh rp⟩) i):=hF
 refine av (fun j st=>∃ e:Nat,st=WB ⟨ae,order,types,.mk rh rp⟩ e/\e<=types.length/\(∀ i,i < e->(endI ⟨ae,order,types,.mk rh rp⟩ (types.length + 1) i).isNone=false)/\j=types.length - e) types.length
  (WB ⟨ae,order,types,.mk rh rp⟩ 0) (weak_mk ⟨_,rfl⟩ wA rfl rfl rfl wB) ⟨0,rfl,by omega,fun _ h=>by omega,by omega⟩ ?_
 clear aK hL aN he e;rintro j st ⟨e,rfl,he,eS,rfl⟩;refine br ?_ ?_<;>intro hL
 ·have au:e < types.length:=by have:=hL;simp [hN] at this;exact this
  obtain ⟨x,hx⟩:=gX au;have Wa:(tN ⟨ae,order,types,.mk rh rp⟩)[e]? = some x.1:=I5 hx;have h9:=he99 e au;obtain ⟨xw,⟨xh,xp⟩⟩:=x;refine cP VC h9 ?_;refine br ?_ ?_<;>intro g
  ·have g:endI ⟨ae,order,types,.mk rh rp⟩ (types.length + 1) e=none:=fC.1 g;have B0:=cF (p:=fun i=>(endI ⟨ae,order,types,.mk rh rp⟩ (types.length + 1) i).isNone) au (by simp only [g];rfl) eS;rw [B0] at hlo;simp only [kg Wa] at hlo;refine iX (dNms_get hx) ?_;refine ⟨_,?_,rfl⟩;rw [hlo];exact ax
  ·have g:¬ endI ⟨ae,order,types,.mk rh rp⟩ (types.length + 1) e=none:=fun hn=>by have h3:=fC.2 hn;rw [g] at h3;cases h3
   refine ⟨WB ⟨ae,order,types,.mk rh rp⟩ (e + 1),(weak_mk ⟨_,rfl⟩ wA rfl rfl rfl (wB1 (nxt au (by omega)))),types.length - (e + 1),by omega,e + 1,rfl,by omega,fun i hi=>?_,rfl⟩;rcases Nat.lt_succ_iff_lt_or_eq.1 hi with hi | rfl
   ·exact eS i hi
   ·exact Option.isNone_eq_false_iff.2 (Option.isSome_iff_ne_none.2 g)
 ·have aN:e=types.length:=sW hN hL;rw [aN] at eS;rw [cL eS] at hlo;refine ⟨_,?_,rfl⟩;rw [hlo];exact ax
theorem bm {l:List Ed} {i:Nat} {e:Ed} (h:l[i]? = some e):(fv l)[i]? = some (tP e):=by simp [fv,h]
def Sf (lev:List Wd->Int) (s:Sch) (t:Ty) (k:Nat):Nd:=⟨t.h.ag,t.h.aD,t.h.lo,t.h.hi,t.h.most,ay t.h.af,edsP lev s t.ps (k + 1)⟩
mutual
theorem uy (lev:List Wd->Int) (s:Sch):∀ (t:Ty) (k:Nat),ndsT lev s t k=(flatT t).zipIdx.map fun x=>Sf lev s x.1 (k + x.2)
 | .mk h ps,k=>by
  have ih:=Bm lev s ps (k + 1);rw [ndsT,flatT];split
  ·rfl
  ·rw [ih,List.zipIdx_cons,List.map_cons];rw [List.zipIdx_succ,List.map_map];refine congr (congrArg List.cons rfl) (List.map_congr_left fun x _=>?_);simp only [Function.comp];congr 1;omega
theorem Bm (lev:List Wd->Int) (s:Sch):∀ (ps:Pts) (k:Nat),wh lev s ps k=(flatP ps).zipIdx.map fun x=>Sf lev s x.1 (k + x.2)
 | .nil,k=>rfl
 | .cons p u r,k=>by
  rw [wh,flatP,List.zipIdx_append,List.map_append]
  cases hb:p.bare with
  | true=>
   simp only [if_true,List.zipIdx_nil,List.map_nil,List.nil_append,List.length_nil,Nat.add_zero];exact Bm lev s r k
  | false=>
   simp only [Bool.false_eq_true,if_false];rw [uy lev s u k,Bm lev s r (k + u.nn),jB];refine congrArg _ ?_;rw [List.zipIdx_eq_map_add (l:=flatP r) (i:=0 + u.nn)];rw [List.map_map];refine List.map_congr_left fun x _=>?_;simp only [Function.comp];congr 1;omega
end
theorem Bn {X:Lx} {L:List ByteArray}:∀ {ps:Pts},(knP X L ps).1=0->∀ {p:Ph} {u:Ty},(p,u)∈ps.toList->p.bare=false->(knT X L u).1=0
 | .nil,_,p,u,h,_=>by cases h
 | .cons q v r,hk,p,u,h,hb=>by
  rcases List.mem_cons.1 h with h | h
  ·cases h;exact (rZ hk).1 hb
  ·exact Bn (rZ hk).2 h hb
theorem sg {w:Int} (h:decide (w=0)=true):kX w=3:=by unfold kX;rw [if_pos (of_decide_eq_true h)]
theorem si {w:Int} (h:decide (w=0)=false):kX w=w:=by unfold kX;rw [if_neg (of_decide_eq_false h)]
theorem fZ {L:List Ed} {lev:List Wd->Int} {p:Ph} {to w z:Int} (hw:kX p.wide=w) (ht:to=z):fv L ++ [[.v (.string p.name.s),.v (.bool p.bare),.v (.int .i64 p.name.a),.v (.int .i64 z),.v (.int .i64 (lev p.label)),.v (.int .i64 w),.v (.int .i64 p.ck),.v (.int .i64 p.cn),.v (.int .i64 (lev p.cl)),.v (.int .i64 p.ca)]]=fv (L ++ [wg lev p to]):=by
 subst hw ht;simp [fv,tP,wg]
abbrev OV (S:Sch) (f:Nat->Nat->Bool) (t:Ty) (me:Nat) (q e:Nat):St:=
 ⟨[(1,⟨[],.sl 1 (cK (dw S.ae.length f)) none⟩),(3,⟨[],.v (.int .i64 me)⟩),(4,⟨[],.loc 0 0⟩),(6,⟨[],.loc 1 0⟩),(8,⟨[],.loc 2 0⟩),(9,⟨[],.loc 3 0⟩),(10,⟨[],.v (.int .i64 e)⟩)],
  [dR S,dV t,[.v (.int .i64 0),.v (.int .i64 0),.v (.int .i64 0),.v (.int .i64 0),.v (.int .i64 0),.v (.slice none 0 0),.v (.slice none 0 0)],
  [.v (.int .i64 t.h.ag),.v (.int .i64 t.h.aD),.v (.int .i64 t.h.lo),.v (.int .i64 t.h.hi),.v (.int .i64 t.h.most),.sl 1 (dM (ay (t.h.af.take e))) (some 0),.v (.slice none 0 0)]],[⟨q,9,1,none⟩]⟩
abbrev DL (S:Sch) (f:Nat->Nat->Bool) (t:Ty) (q1 q2:Nat) (L:List Ed) (nx e:Nat):St:=
 ⟨[(1,⟨[],.sl 1 (cK (dw S.ae.length f)) none⟩),(4,⟨[],.loc 0 0⟩),(6,⟨[],.loc 1 0⟩),(8,⟨[],.loc 2 0⟩),(9,⟨[],.loc 3 0⟩),(11,⟨[],.v (.int .i64 nx)⟩),(12,⟨[],.v (.int .i64 e)⟩)],
  [dR S,dV t,[.v (.int .i64 0),.v (.int .i64 0),.v (.int .i64 0),.v (.int .i64 0),.v (.int .i64 0),.v (.slice none 0 0),.v (.slice none 0 0)],
  [.v (.int .i64 t.h.ag),.v (.int .i64 t.h.aD),.v (.int .i64 t.h.lo),.v (.int .i64 t.h.hi),.v (.int .i64 t.h.most),.sl 1 (dM (ay t.h.af)) (some 0),.sl 10 (fv L) (some 1)]],[⟨q1,9,1,none⟩,⟨q2,117,10,none⟩]⟩
set_option maxHeartbeats 2000000 in
theorem GH (S:Sch) (hS:S.wt<=1099511627776) (hl:(latF S.ae S.order).1=0) (Sd:S.types.length<=64) (hr:∀ x∈S.types,tO S x.2=true) (hlo:∀ i,i < S.types.length->∃ k,endI S (S.types.length + 1) i=some k)
  (t:Ty) (ht:t.wt<=1099511627776) (hk:(kh S t).1=0) (me:Nat) (hme:me<=1099511627776) :
  EvP prog 37 [.agg (dR S),.sl 1 (cK (dw S.ae.length (eO S.ae.length (di (ay S.ae) S.order)))) none,.agg (dV t),.v (.int .i64 me)] (.agg (jc (Sf (iE S) S t me))):=by
 obtain ⟨hL,On⟩:=kY hl;have kx:=hL.pos;unfold Sch.wt at hS;have Gq:=fun l (h:wdsWt l<=1099511627776)=>KO S.ae (eO S.ae.length (di (ay S.ae) S.order)) kx On (by omega) l h;have hls:∀ l,iE S l=A5 (eO S.ae.length (di (ay S.ae) S.order)) (ay S.ae) l:=fun _=>rfl;have wK:=fun s i k=>wJ S Sd (by omega) hr s i k;have eZ:=jT S;generalize eO S.ae.length (di (ay S.ae) S.order)=f at Gq hls ⊢;obtain ⟨h,ps⟩:=t;have Wh:=(l4 hk).2;simp only [Ty.wt,Hd.wt] at ht;have hpl:=ps.fy;have hc:=ps.eF;have nK:=ps.gm;have hwl:=bw h.af;generalize XN:iE S=lev at hls ⊢;obtain ⟨ae,order,types,⟨rh,rp⟩⟩:=S;simp only at hS Sd hr hlo Gq hls wK eZ Wh;refine eG 131 [.cell 8 104] func37 rfl ntmps37 rfl fun _ _ _ _=>?_;refine lJ (fun e=>OV ⟨ae,order,types,.mk rh rp⟩ f (.mk h ps) me e e) h.af.length (dG 4 ⟨0,9,1,none⟩ rfl rfl rfl wA0 rfl rfl wB0) ?_;intro e he;refine br ?_ ?_<;>intro hL
 ·have au:e < h.af.length:=by have:=hL;simp [aA] at this;exact this
  obtain ⟨w,hw⟩:=gX au;have fu:=jw hw;have ep:(dM (ay (h.af.take e))).length=e:=by simp [dM,ay];omega
  refine dS ?_;refine iX (aS hw) ?_;refine ⟨ep,⟨by simp only [Ty.h];rw [ep];simp [maxLen];omega,by simp only [Ty.h];rw [ep];simp;omega⟩,?_⟩;exact rE ⟨_,by omega,e + 1,rfl,by omega,rfl⟩ (az 4 rfl (wA2 (nxt au (by omega)) fu) rfl rfl rfl (dm (nxt au (by omega)) fu))
 have aN:e=h.af.length:=by have:=hL;simp [aA] at this;omega
 have abk:IntKind.i64.wrap ((me:Int) + 1)=((me + 1:Nat):Int):=by rw [wrap64 (by omega) (by omega)];omega
 have JQ:dM (ay (h.af.take e))=dM (ay h.af):=by rw [aN,List.take_length]
 refine av (fun j st=>∃ (e q nx:Nat) (L:List Ed),st=DL ⟨ae,order,types,.mk rh rp⟩ f (.mk h ps) h.af.length q L nx e/\q=e/\L.length=e/\e<=ps.len/\nx + (ps.drop e).nn=me + 1 + ps.nn/\edsP lev ⟨ae,order,types,.mk rh rp⟩ ps (me + 1)=L ++ edsP lev ⟨ae,order,types,.mk rh rp⟩ (ps.drop e) nx/\j=ps.len - e) ps.len
  (DL ⟨ae,order,types,.mk rh rp⟩ f (.mk h ps) e 0 [] (me + 1) 0) (dG 4 ⟨0,117,10,none⟩ rfl rfl rfl (wA2 abk JQ) rfl rfl (dm abk JQ)) ⟨0,0,me + 1,[],by rw [aN],rfl,rfl,by omega,rfl,rfl,by omega⟩ ?_
 clear he hL aN JQ e;rintro j st ⟨e,q,nx,L,rfl,hq,Wy,he,E8,aK,rfl⟩;refine br ?_ ?_<;>intro hL
 ·have au:e < ps.len:=by simpa [aH] using hL
  obtain ⟨p,u,hx⟩:=Pts.eE au;have CP:=Pts.gj (mG hx);have hw1:p.name.wt + wdsWt p.label + wdsWt p.cl<=p.wt:=by simp only [Ph.wt];omega
  rw [Pts.drop_cons hx,edsP] at aK;rw [Pts.drop_cons hx,Pts.nn] at E8;have yb:=Gq p.label (by omega);have Ue:=Gq p.cl (by omega);unfold Kw at yb Ue;rw [<- hls] at yb Ue;obtain ⟨uh,us⟩:=u;refine iX (bQ hx) ?_;refine br ?_ ?_<;>intro hw
  all_goals
   refine cP Y7 yb ?_;refine cP Y7 Ue ?_;have ep:(fv L).length=q:=by rw [bZ,Wy,hq]
   refine br ?_ ?_<;>intro hB
   ·have hB:p.bare=true:=hB;have jz:uv ⟨ae,order,types,.mk rh rp⟩ p (.mk uh us) nx = -1:=by simp [uv,hB]
    rw [hB] at aK E8;refine ⟨ep,⟨by rw [ep];simp [maxLen];omega,by rw [ep];simp;omega⟩,?_⟩;exact ⟨DL ⟨ae,order,types,.mk rh rp⟩ f (.mk h ps) h.af.length (q + 1) (L ++ [wg lev p (uv ⟨ae,order,types,.mk rh rp⟩ p (.mk uh us) nx)]) nx (e + 1),(az 4 rfl (by repeat' (first | exact rfl | exact ah rfl | exact ai (nxt au (by omega)) | exact bi (fZ (sg hw) jz) rfl | exact bi (fZ (si hw) jz) rfl | refine ⟨_,_,rfl,?_,?_⟩)) rfl rfl rfl (by repeat' (first | exact trivial | exact ah rfl | exact ai (nxt au (by omega)) | exact bi (fZ (sg hw) jz) rfl | exact bi (fZ (si hw) jz) rfl | refine ⟨⟨_,rfl,?_⟩,?_⟩))),ps.len - (e + 1),by omega,e + 1,q + 1,nx,_,rfl,by omega,by simp [Wy],by omega,by rw [<- E8];simp,by rw [aK];simp,rfl⟩
   ·have hB:p.bare=false:=hB;have gZ:=Bn Wh (mG hx) hB;refine br ?_ ?_<;>intro h9
    ·have h9:uh.ag=9:=sU h9;obtain ⟨i,hi⟩:=Option.ne_none_iff_exists'.1 ((l4 gZ).1 h9);obtain ⟨k,hk⟩:=hlo i (by have:=(cR hi).1;omega);have jz:uv ⟨ae,order,types,.mk rh rp⟩ p (.mk uh us) nx=(firstA ⟨ae,order,types,.mk rh rp⟩ k:Int):=by simp [uv,hB,nh,Ty.h,h9,Wg,hi,namedN,hk]
     refine cP YU (wK uh.name.s i k hi hk) ?_;refine ⟨ep,⟨by rw [ep];simp [maxLen];omega,by rw [ep];simp;omega⟩,?_⟩;exact ⟨DL ⟨ae,order,types,.mk rh rp⟩ f (.mk h ps) h.af.length (q + 1) (L ++ [wg lev p (uv ⟨ae,order,types,.mk rh rp⟩ p (.mk uh us) nx)]) nx (e + 1),(az 4 rfl (by repeat' (first | exact rfl | exact ah rfl | exact ai (nxt au (by omega)) | exact bi (fZ (sg hw) jz) rfl | exact bi (fZ (si hw) jz) rfl | refine ⟨_,_,rfl,?_,?_⟩)) rfl rfl rfl (by repeat' (first | exact trivial | exact ah rfl | exact ai (nxt au (by omega)) | exact bi (fZ (sg hw) jz) rfl | exact bi (fZ (si hw) jz) rfl | refine ⟨⟨_,rfl,?_⟩,?_⟩))),ps.len - (e + 1),by omega,e + 1,q + 1,nx,_,rfl,by omega,by simp [Wy],by omega,by rw [<- E8];simp [hB,Ty.nn,h9],by rw [aK];simp [hB,Ty.nn,h9],rfl⟩
    ·have h9:¬ uh.ag=9:=sU h9;have jz:uv ⟨ae,order,types,.mk rh rp⟩ p (.mk uh us) nx=(nx:Int):=by simp [uv,hB,nh,Ty.h,h9]
     have hnn:=(Ty.mk uh us).gm;have QH:=(Ty.mk uh us).eF
     have sP:IntKind.i64.wrap ((nx:Int) + (ib (flatT (.mk uh us))).length)=((nx + (Ty.mk uh us).nn:Nat):Int):=by
      rw [dK,jB,wrap64 (by omega) (by omega)];omega
     refine cP Rj (n5 _ (.mk uh us) (Nat.le_refl _) (by omega)) ?_;refine ⟨ep,⟨by rw [ep];simp [maxLen];omega,by rw [ep];simp;omega⟩,?_⟩;exact ⟨DL ⟨ae,order,types,.mk rh rp⟩ f (.mk h ps) h.af.length (q + 1) (L ++ [wg lev p (uv ⟨ae,order,types,.mk rh rp⟩ p (.mk uh us) nx)]) (nx + (Ty.mk uh us).nn) (e + 1),(az 4 rfl (by repeat' (first | exact rfl | exact ah rfl | exact ai (nxt au (by omega)) | exact ai sP | exact bi (fZ (sg hw) jz) rfl | exact bi (fZ (si hw) jz) rfl | refine ⟨_,_,rfl,?_,?_⟩)) rfl rfl rfl (by repeat' (first | exact trivial | exact ah rfl | exact ai (nxt au (by omega)) | exact ai sP | exact bi (fZ (sg hw) jz) rfl | exact bi (fZ (si hw) jz) rfl | refine ⟨⟨_,rfl,?_⟩,?_⟩))),ps.len - (e + 1),by omega,e + 1,q + 1,(nx + (Ty.mk uh us).nn),_,rfl,by omega,by simp [Wy],by omega,by rw [<- E8];simp [hB];omega,by rw [aK];simp [hB],rfl⟩
 have aN:e=ps.len:=by simp [aH] at hL;omega
 rw [aN,Pts.cX,edsP,List.append_nil] at aK;unfold Sf;simp only [Ty.h,Ty.ps];rw [aK];exact ⟨_,ax,rfl⟩
def ndsA (lev:List Wd->Int) (s:Sch):List Ty->Nat->List Nd
 | [],_=>[]
 | t :: r,k=>ndsT lev s t k ++ ndsA lev s r (k + t.nn)
def qG (l:List Ty):Nat:=(l.map Ty.nn).sum
theorem np (t:Ty) (l:List Ty):qG (t :: l)=t.nn + qG l:=by simp [qG]
theorem uz (a b:List Ty):qG (a ++ b)=qG a + qG b:=by simp [qG]
theorem la (lev:List Wd->Int) (s:Sch):∀ (l:List Ty) (k:Nat),(ndsA lev s l k).length=qG l
 | [],_=>rfl
 | t :: r,k=>by simp only [ndsA,List.length_append,jU,la lev s r,np]
theorem wM (lev:List Wd->Int) (s:Sch):∀ (a b:List Ty) (k:Nat),ndsA lev s (a ++ b) k=ndsA lev s a k ++ ndsA lev s b (k + qG a)
 | [],b,k=>by simp [ndsA,qG]
 | t :: r,b,k=>by rw [List.cons_append,ndsA,ndsA,wM lev s r b,List.append_assoc,np,Nat.add_assoc]
theorem wN (lev:List Wd->Int) (s:Sch):∀ (l:List (Wd × Ty)) (k:Nat),ndsAll lev s l k=ndsA lev s (l.map fun x=>x.2) k
 | [],_=>rfl
 | x :: r,k=>by rw [ndsAll,List.map_cons,ndsA,wN lev s r]
theorem wO (s:Sch):(qC s).length=qG (eY s):=by rw [qC,wN,la];all_goals rfl
theorem jC (s:Sch):aQ s=ndsA (iE s) s (fM s) 0:=by
 unfold aQ fM;rw [wM,wO,qC,wN,ndsA,ndsA,List.append_nil,Nat.zero_add];rfl
theorem KQ {lev:List Wd->Int} {s:Sch} {l:List Ty} {e:Nat} {t:Ty} (h:l[e]? = some t):ndsA lev s (l.take (e + 1)) 0=ndsA lev s (l.take e) 0 ++ ndsT lev s t (ndsA lev s (l.take e) 0).length:=by
 rw [List.take_add_one,h,wM,la,Nat.zero_add];simp [ndsA]
theorem DM (l:List Ty):∀ e,qG (l.take e)<=qG l:=by
 intro e;have:=uz (l.take e) (l.drop e);rw [List.take_append_drop] at this;omega
theorem GI (s:Sch):qG (fM s)<=s.wt:=by
 have key:∀ l:List (Wd × Ty),qG (l.map fun x=>x.2)<=nmsWt l:=by
  intro l
  induction l with
  | nil=>exact Nat.le_refl _
  | cons x r ih=>
   have:=x.2.gm;have:=x.2.eF;simp only [List.map_cons,np,nmsWt];omega
 have h1:=key s.types;have h2:=s.root.gm;have h3:=s.root.eF;unfold fM;rw [uz,np];unfold Sch.wt eY;simp only [qG,List.map_nil,List.sum_nil] at h1 ⊢;omega
mutual
theorem wP {X:Lx} {L:List ByteArray}:∀ (t:Ty),(knT X L t).1=0->∀ u∈flatT t,(knT X L u).1=0
 | .mk h ps,hk,u,hu=>by
  rw [flatT] at hu;split at hu
  ·cases hu
  ·rcases List.mem_cons.1 hu with rfl | hu
   ·exact hk
   ·exact DN ps (l4 hk).2 u hu
theorem DN {X:Lx} {L:List ByteArray}:∀ (ps:Pts),(knP X L ps).1=0->∀ u∈flatP ps,(knT X L u).1=0
 | .nil,_,u,hu=>by cases hu
 | .cons p v r,hk,u,hu=>by
  rw [flatP] at hu;rcases List.mem_append.1 hu with hu | hu
  ·cases hb:p.bare with
   | true=>rw [hb] at hu;cases hu
   | false=>rw [hb] at hu;exact wP v ((rZ hk).1 hb) u hu
  ·exact DN r (rZ hk).2 u hu
end
mutual
theorem wQ:∀ (t:Ty),∀ u∈flatT t,u.wt<=t.wt
 | .mk h ps,u,hu=>by
  rw [flatT] at hu;split at hu
  ·cases hu
  ·rcases List.mem_cons.1 hu with rfl | hu
   ·exact Nat.le_refl _
   ·have:=DO ps u hu;simp only [Ty.wt];omega
theorem DO:∀ (ps:Pts),∀ u∈flatP ps,u.wt<=ps.wt
 | .nil,u,hu=>by cases hu
 | .cons p v r,u,hu=>by
  rw [flatP] at hu;simp only [Pts.wt];rcases List.mem_append.1 hu with hu | hu
  ·split at hu
   ·cases hu
   ·have:=wQ v u hu;omega
  ·have:=DO r u hu;omega
end
theorem OW {lev:List Wd->Int} {s:Sch} {t u:Ty} {n k:Nat} (h:(flatT t)[k]? = some u):(ndsT lev s t n)[k]? = some (Sf lev s u (n + k)):=by
 rw [uy,List.getElem?_map,List.getElem?_zipIdx,h];simp
structure wR (S:Sch):Prop where
 lat:(latF S.ae S.order).1=0
 l64:S.types.length<=64
 kn:∀ t∈fM S,(kh S t).1=0
 ends:∀ i,i < S.types.length->∃ k,endI S (S.types.length + 1) i=some k
 wr:∀ t∈fM S,(wrong t 1 0).1.1=0
theorem OX:∀ {l:List Ty} {m:Int},(eaA l m).1.1=0->∀ t∈l,(wrong t 1 0).1.1=0
 | [],_,_,t,ht=>by cases ht
 | u :: r,m,h,t,ht=>by
  rw [eaA] at h;split at h
  ·rename_i h1;exact (h1 h).elim
  ·rename_i h1;rcases List.mem_cons.1 ht with rfl | ht
   ·exact (nZ (sU h1)).2.2.1
   ·exact OX h t ht
theorem qH {S:Sch} (h:(kF S).1=0):wR S:=by
 rw [I6] at h;split at h
 ·rename_i h1;exact (h1 h).elim
 rename_i h1;split at h
 ·rename_i h2;exact (h2 h).elim
 rename_i h2;split at h
 ·rename_i h3;exact (h3 h).elim
 rename_i h3;split at h
 ·rename_i h4;exact (h4 h).elim
 rename_i h4
 exact {
  lat:=sU h1
  l64:=by
   have h2:(ei S).1=0:=sU h2;unfold ei at h2;split at h2
   ·cases h2
   ·omega
  kn:=GG (sU h4)
  ends:=Dz h
  wr:=OX (sU h3) }
theorem wR.refs {S:Sch} (h:wR S):∀ x∈S.types,tO S x.2=true:=fun x hx=>Ba (h.kn x.2 (List.mem_append_left _ (List.mem_map_of_mem hx)))
abbrev wC (S:Sch) (f:Nat->Nat->Bool) (N:DV) (z:Int):List DV:=[.sl 2 (bG S.ae) none,.sl 1 (cK (dw S.ae.length f)) none,N,.v (.int .i64 z)]
abbrev OY (S:Sch) (T:List Ty) (f:Nat->Nat->Bool) (L:List Nd) (z:Int) (e q:Nat):St:=
 ⟨[(1,⟨[],.loc 0 0⟩),(2,⟨[],.loc 1 0⟩),(3,⟨[],.loc 2 0⟩),(4,⟨[],.sl 9 (ib T) none⟩),(5,⟨[],.v (.int .i64 e)⟩)],[dR S,[.v (.slice none 0 0),.v (.slice none 0 0),.v (.slice none 0 0),.v (.int .i64 0)],wC S f (.sl 7 (cY L) (some 0)) z],[⟨q,104,7,none⟩]⟩
abbrev OZ (S:Sch) (T:List Ty) (f:Nat->Nat->Bool) (L:List Nd) (z:Int) (e:Nat) (F:List Ty) (k q:Nat):St:=
 ⟨[(1,⟨[],.loc 0 0⟩),(2,⟨[],.loc 1 0⟩),(3,⟨[],.loc 2 0⟩),(4,⟨[],.sl 9 (ib T) none⟩),(5,⟨[],.v (.int .i64 e)⟩),(6,⟨[],.sl 9 (ib F) none⟩),(7,⟨[],.v (.int .i64 k)⟩)],[dR S,[.v (.slice none 0 0),.v (.slice none 0 0),.v (.slice none 0 0),.v (.int .i64 0)],wC S f (.sl 7 (cY L) (some 0)) z],[⟨q,104,7,none⟩]⟩
theorem qI (S:Sch) (hS:S.wt<=1099511627776) (hR:(kF S).1=0) :
  EvP prog 9 [.agg (dR S)] (.agg (wC S (eO S.ae.length (di (ay S.ae) S.order)) (.sl 7 (cY (aQ S)) none) (dW S))):=by
 have QL:=qH hR;obtain ⟨_,On⟩:=kY QL.lat;have XT:=Bj hS;have VN:=GI S;have hN0:=(pa QL.lat).2.2.1;have hrr:=QL.refs;have ey:=fun t ht hk me hme=>GH S hS QL.lat QL.l64 hrr QL.ends t ht hk me hme;have hwS:=hS;unfold Sch.wt at hS;have Sg:=DC S.ae S.order On (by omega) (by omega) hN0;have ir:=DJ S (by have:=QL.l64;omega);have hlen:(fM S).length=S.types.length + 1:=by simp [fM,eY]
 have Sd:=QL.l64;have wK:=fun s i k=>wJ S Sd (by omega) hrr s i k;have Ms:=QL.kn;have wS:=QL.ends;have eZ:=jT S
 have gV:(fM S)[S.types.length]? = some S.root:=by
  unfold fM;rw [List.getElem?_append_right (by simp [eY])];simp [eY]
 have KR:=wO S
 have iZ:(fM S).take S.types.length=eY S:=by
  unfold fM;rw [List.take_append_of_le_length (by simp [eY])];exact List.take_of_length_le (by simp [eY])
 rw [jC];unfold dW;generalize iE S=lev at ey ⊢;generalize eO S.ae.length (di (ay S.ae) S.order)=f at ey Sg ⊢;obtain ⟨ae,order,types,⟨rh,rp⟩⟩:=S;simp only at hS Sg hlen Sd wS eZ gV iZ;generalize hT:fM ⟨ae,order,types,.mk rh rp⟩=T at XT VN ir hlen Ms gV iZ ⊢;refine eG 67 [.cell 2 47] func9 rfl ntmps9 rfl fun _ _ _ _=>?_;apply nP (fun _=>false) 6 8 [0,1,2,3,4,5,6,7,8,9] [0,1,2,3,4,5,8,6,7,9] 2 2 mo (by decide +kernel)
 ·refine cD Vs Sg ?_;refine (?_:@Eq St _ _);exact rfl
 ·refine cD Vs Sg ?_;refine (⟨rfl,rfl,?_⟩:_/\_/\_)
  repeat' (first | exact trivial | refine ⟨rfl,?_⟩)
 ·rfl
 refine cP YT ir ?_
 have hLN:∀ e,(ndsA lev ⟨ae,order,types,.mk rh rp⟩ (T.take e) 0).length<=1099511627776:=fun e=>by
  rw [la];have:=DM T e;omega
 refine av (fun j st=>∃ (e q:Nat) (z:Int),st=OY ⟨ae,order,types,.mk rh rp⟩ T f (ndsA lev ⟨ae,order,types,.mk rh rp⟩ (T.take e) 0) z e q/\q=(ndsA lev ⟨ae,order,types,.mk rh rp⟩ (T.take e) 0).length/\e<=types.length + 1/\(e=types.length + 1->z=(qG (T.take types.length):Nat))/\j=types.length + 1 - e) (types.length + 1)
  (OY ⟨ae,order,types,.mk rh rp⟩ T f [] 0 0 0) (dG 3 ⟨0,104,7,none⟩ rfl rfl rfl wA0 rfl rfl wB0) ⟨0,0,0,rfl,rfl,by omega,fun h=>by omega,by omega⟩ ?_
 rintro j st ⟨e,q,z,rfl,hq,he,hz,rfl⟩;refine br ?_ ?_<;>intro hL
 ·have au:e < types.length + 1:=by have:=hL;simp [dK,hlen] at this;omega
  obtain ⟨t,ht⟩:∃ t,T[e]? = some t:=⟨_,gE (by omega)⟩;have NU:=XT t (mG ht);have htk':=Ms t (mG ht);have Mm:=n5 _ t (Nat.le_refl _) NU;have hfk:=wP t htk';have hfw:=wQ t;have XU:=KQ (lev:=lev) (s:=⟨ae,order,types,.mk rh rp⟩) ht;have hfln:=jB t;have fV:=jU lev ⟨ae,order,types,.mk rh rp⟩ t (ndsA lev ⟨ae,order,types,.mk rh rp⟩ (T.take e) 0).length;have jl:=fun k u (h:(flatT t)[k]? = some u)=>OW (lev:=lev) (s:=⟨ae,order,types,.mk rh rp⟩) (n:=(ndsA lev ⟨ae,order,types,.mk rh rp⟩ (T.take e) 0).length) h;have hLe:=hLN e;have WC:=hLN (e + 1);have hLs:=la lev ⟨ae,order,types,.mk rh rp⟩ (T.take e) 0;rw [XU,List.length_append] at WC;obtain ⟨u,us⟩:=t;generalize ndsA lev ⟨ae,order,types,.mk rh rp⟩ (T.take e) 0=L at hq XU fV jl hLe WC hLs ⊢;generalize ndsT lev ⟨ae,order,types,.mk rh rp⟩ (.mk u us) L.length=M at XU fV jl WC;generalize flatT (.mk u us)=F at Mm hfk hfw hfln jl;have cu:((cY L).length:Int)=(L.length:Int):=by rw [kZ]
  refine iX (jW ht) ?_;refine cP Rj Mm ?_
  refine av (fun j st=>∃ (k q:Nat),st=OZ ⟨ae,order,types,.mk rh rp⟩ T f (L ++ M.take k) (L.length:Int) e F k q/\q=(L ++ M.take k).length/\k<=F.length/\j=F.length - k) F.length
   (OZ ⟨ae,order,types,.mk rh rp⟩ T f (L ++ []) (L.length:Int) e F 0 q) (az 3 rfl (by repeat' (first | exact rfl | exact ah rfl | exact ai cu | exact bi (by rw [List.append_nil]) rfl | refine ⟨_,_,rfl,?_,?_⟩)) rfl rfl rfl (by repeat' (first | exact trivial | exact ah rfl | exact ai cu | exact bi (by rw [List.append_nil]) rfl | refine ⟨⟨_,rfl,?_⟩,?_⟩))) ⟨0,q,rfl,by simp [hq],by omega,by omega⟩ ?_
  rintro j st ⟨k,q',rfl,lE,hk,rfl⟩;refine br ?_ ?_<;>intro jS
  ·have gZ:k < F.length:=by have:=jS;simp [dK] at this;exact this
   obtain ⟨v,hv⟩:∃ v,F[k]? = some v:=⟨_,gE gZ⟩;have Xy:=mG hv;have hvw:=hfw v Xy;have ep:(cY (L ++ M.take k)).length=q':=by rw [kZ,lE]
   have kJ:q'=L.length + k:=by rw [lE,List.length_append,List.length_take];omega
   have hnd:=ey v (by omega) (hfk v Xy) (cY (L ++ M.take k)).length (by omega)
   have fu:cY (L ++ M.take k) ++ [jc (Sf lev ⟨ae,order,types,.mk rh rp⟩ v (cY (L ++ M.take k)).length)]=cY (L ++ M.take (k + 1)):=by
    rw [List.take_add_one,jl k v hv,ep,kJ];simp [cY]
   obtain ⟨vh,vp⟩:=v;refine dS ?_;refine iX (jW hv) ?_;refine cD en37 hnd ?_;refine ⟨ep,⟨by rw [ep];simp [maxLen];omega,by rw [ep];simp;omega⟩,?_⟩;exact rE ⟨_,by omega,k + 1,q' + 1,rfl,by rw [kJ];simp;omega,by omega,rfl⟩ (az 3 rfl (wA2 (nxt gZ (by omega)) fu) rfl rfl rfl (dm (nxt gZ (by omega)) fu))
  ·have aN:k=F.length:=by have:=jS;simp [dK] at this;omega
   have hM:M.take k=M:=List.take_of_length_le (by omega);rw [hM] at lE;refine ⟨OY ⟨ae,order,types,.mk rh rp⟩ T f (ndsA lev ⟨ae,order,types,.mk rh rp⟩ (T.take (e + 1)) 0) (L.length:Int) (e + 1) q',(az 3 rfl (by repeat' (first | exact rfl | exact ah rfl | exact ai (nxt au (by omega)) | exact bi (by rw [XU,hM]) rfl | refine ⟨_,_,rfl,?_,?_⟩)) rfl rfl rfl (by repeat' (first | exact trivial | exact ah rfl | exact ai (nxt au (by omega)) | exact bi (by rw [XU,hM]) rfl | refine ⟨⟨_,rfl,?_⟩,?_⟩))),types.length + 1 - (e + 1),by omega,e + 1,q',_,rfl,by rw [XU,lE],by omega,fun B6=>?_,rfl⟩;rw [hLs,show e=types.length by omega]
 ·have aN:e=types.length + 1:=by have:=hL;simp [dK,hlen] at this;omega
  have hTa:T.take e=T:=List.take_of_length_le (by omega);rw [hTa];have hz:=hz aN;rw [iZ,<- KR] at hz;have Um:=Ms (.mk rh rp) (mG gV);refine br ?_ ?_<;>intro h9
  ·have h9:rh.ag=9:=sU h9;obtain ⟨i,hi⟩:=Option.ne_none_iff_exists'.1 ((l4 Um).1 h9);obtain ⟨k,hk⟩:=wS i (by have:=(cR hi).1;omega);have jz:nh ⟨ae,order,types,.mk rh rp⟩ (.mk rh rp) (qC ⟨ae,order,types,.mk rh rp⟩).length=(firstA ⟨ae,order,types,.mk rh rp⟩ k:Int):=by simp [nh,Ty.h,h9,Wg,hi,namedN,hk]
   refine cP YU (wK rh.name.s i k hi hk) ?_;rw [jz];exact ⟨_,ax,rfl⟩
  ·have h9:¬ rh.ag=9:=sU h9;have jz:nh ⟨ae,order,types,.mk rh rp⟩ (.mk rh rp) (qC ⟨ae,order,types,.mk rh rp⟩).length=z:=by simp [nh,Ty.h,h9,hz]
   rw [jz];exact ⟨_,ax,rfl⟩
def Uq (t:Ty):Prop:=∃ d m,(wrong t d m).1.1=0
def I7 (ag:Int) (p:Ph) (t:Ty):Prop:=(p.bare=true/\ag=8/\sameTy t bW=true/\bM p fi=true)∨(p.bare=false/\(dz p).1=0/\Uq t)
structure TyF (h:Hd) (ps:Pts):Prop where
 k1:1<=h.ag
 k9:h.ag<=9
 own:vw h ps=true
 int:h.ag=2->h.lo<=h.hi
 text:h.ag=3->0<=h.most/\h.most<=4096
 enum:h.ag=4->iy h=(0,0)
 one:h.ag=5∨h.ag=6->∃ p t,ps = .cons p t .nil/\p.name.s=aq/\bM p eT=true/\0<=h.most/\h.most<=1024/\Uq t
 many:h.ag=7∨h.ag=8->ps.len<=64/\(h.ag=8->ps.len≠0)/\∀ i p t,ps.toList[i]? = some (p,t)->aF (pNames ps) i p.name=0/\I7 h.ag p t
theorem WD {h:Hd} {ps:Pts} (ho:¬ tJ (.mk h ps)=false):vw h ps=true:=by
 rw [IA];cases hb:sameTy (.mk h ps) (mask (.mk h ps))
 ·exact absurd hb ho
 ·rfl
theorem nq {ag:Int} {all:List Wd}:∀ {ps:Pts} {i:Nat} {d m:Int},(wrongPts ag all i ps d m).1.1=0->(ag=7∨ag=8)->∀ j p t,ps.toList[j]? = some (p,t)->aF all (i + j) p.name=0/\I7 ag p t
 | .nil,i,d,m,_,_,j,p,t,hx=>by simp [Pts.toList] at hx
 | .cons q u r,i,d,m,he,hk,j,p,t,hx=>by
  simp only [wrongPts] at he;by_cases c0:aF all i q.name≠0
  ·rw [if_pos c0] at he;exact absurd he c0
  rw [if_neg c0] at he;have c0:aF all i q.name=0:=sU c0
  have step:∀ d' m',(wrongPts ag all (i + 1) r d' m').1.1=0->I7 ag q u->aF all (i + j) p.name=0/\I7 ag p t:=by
   intro d' m' h hq
   cases j with
   | zero=>
    simp only [Pts.toList,List.getElem?_cons_zero,oI,Prod.mk.injEq] at hx;obtain ⟨rfl,rfl⟩:=hx;exact ⟨c0,hq⟩
   | succ j=>
    simp only [Pts.toList,List.getElem?_cons_succ] at hx;have:=nq h hk j p t hx
    rwa [show i + 1 + j=i + (j + 1) by omega] at this
  by_cases c1:q.bare=true
  ·rw [if_pos c1] at he;by_cases c2:ag=7∨sameTy u bW=false∨bM q fi=false
   ·rw [if_pos c2] at he;simp at he
   rw [if_neg c2] at he;refine step d m he (.inl ⟨c1,?_,?_,?_⟩)
   ·rcases hk with hk | hk
    ·exact absurd (.inl hk) c2
    ·exact hk
   ·cases hb:sameTy u bW
    ·exact absurd (.inr (.inl hb)) c2
    ·rfl
   ·cases hb:bM q fi
    ·exact absurd (.inr (.inr hb)) c2
    ·rfl
  ·rw [if_neg c1] at he;by_cases c2:(dz q).1≠0
   ·rw [if_pos c2] at he;exact absurd he c2
   rw [if_neg c2] at he;by_cases c3:(wrong u (d + 1) m).1.1≠0
   ·rw [if_pos c3] at he;exact absurd he c3
   rw [if_neg c3] at he;exact step d _ he (.inr ⟨by simpa using c1,by simpa using c2,d + 1,m,by simpa using c3⟩)
theorem GJ:∀ {t:Ty},Uq t->TyF t.h t.ps
 | .mk h ps,⟨d,m,he⟩=>by
  simp only [Ty.h,Ty.ps];simp only [wrong] at he;by_cases c0:24 < d
  ·rw [if_pos c0] at he;simp at he
  rw [if_neg c0] at he;by_cases c1:512 < m + 1
  ·rw [if_pos c1] at he;simp at he
  rw [if_neg c1] at he;by_cases c2:h.ag < 1∨9 < h.ag
  ·rw [if_pos c2] at he;simp at he
  rw [if_neg c2] at he;by_cases c3:tJ (.mk h ps)=false
  ·rw [if_pos c3] at he;simp at he
  rw [if_neg c3] at he;by_cases c4:(h.ag=2/\h.hi < h.lo)∨(h.ag=3/\(h.most < 0∨4096 < h.most))
  ·rw [if_pos c4] at he;simp at he
  rw [if_neg c4] at he;by_cases c5:h.ag=9/\bd h.name.s=false
  ·rw [if_pos c5] at he;simp at he
  rw [if_neg c5] at he;refine { k1:=by omega,k9:=by omega,own:=WD c3,int:=fun h2=>by omega,text:=fun h3=>by omega,enum:=fun h4=>?_,one:=fun h5=>?_,many:=fun h7=>?_ }
  ·rw [if_pos h4] at he;exact yZ h he
  ·rw [if_neg (by omega),if_pos h5] at he
   match ps,he with
   | .nil,he=>simp [wrongOne] at he
   | .cons p t (.cons _ _ _),he=>simp [wrongOne] at he
   | .cons p t .nil,he=>
    simp only [wrongOne] at he;by_cases e0:p.name.s≠aq∨bM p eT=false
    ·rw [if_pos e0] at he;simp at he
    rw [if_neg e0] at he;by_cases e1:h.most < 0∨1024 < h.most
    ·rw [if_pos e1] at he;simp at he
    rw [if_neg e1] at he;refine ⟨p,t,rfl,Classical.byContradiction fun hn=>e0 (.inl hn),?_,by omega,by omega,d + 1,_,he⟩;cases hb:bM p eT
    ·exact absurd (.inr hb) e0
    ·rfl
  ·rw [if_neg (by omega),if_neg (by omega),if_pos h7] at he;by_cases e0:h.ag=8/\ps.len=0
   ·rw [if_pos e0] at he;simp at he
   rw [if_neg e0] at he;by_cases e1:64 < ps.len
   ·rw [if_pos e1] at he;simp at he
   rw [if_neg e1] at he;refine ⟨by omega,fun h8=>fun hl=>e0 ⟨h8,hl⟩,fun i p t hx=>?_⟩;have:=nq he h7 i p t hx
   rwa [Nat.zero_add] at this
theorem TyF.sub {h:Hd} {ps:Pts} (hF:TyF h ps) {p:Ph} {u:Ty} (hm:(p,u)∈ps.toList) (hb:p.bare=false):Uq u:=by
 obtain ⟨i,hi⟩:=List.mem_iff_getElem?.1 hm
 have hlen:0 < ps.len:=by
  cases ps with
  | nil=>simp [Pts.toList] at hm
  | cons _ _ _=>simp [Pts.len]
 have hk:5<=h.ag/\h.ag<=8:=by
  have h1:=hF.own;unfold vw at h1;simp only [Bool.and_eq_true,Bool.or_eq_true,decide_eq_true_eq] at h1;have:=h1.1.1.2;omega
 by_cases h5:h.ag=5∨h.ag=6
 ·obtain ⟨q,t,rfl,_,_,_,_,hw⟩:=hF.one h5;simp only [Pts.toList,List.mem_singleton,Prod.mk.injEq] at hm;rw [hm.2];exact hw
 ·rcases ((hF.many (by omega)).2.2 i p u hi).2 with h1 | h1
  ·rw [h1.1] at hb;cases hb
  ·exact h1.2.2
mutual
theorem wT:∀ (t:Ty),Uq t->∀ u∈flatT t,Uq u
 | .mk h ps,hw,u,hu=>by
  rw [flatT] at hu;split at hu
  ·cases hu
  ·rcases List.mem_cons.1 hu with rfl | hu
   ·exact hw
   ·exact DP ps (fun p v hm hb=>(GJ hw).sub hm hb) u hu
theorem DP:∀ (ps:Pts),(∀ p v,(p,v)∈ps.toList->p.bare=false->Uq v)->∀ u∈flatP ps,Uq u
 | .nil,_,u,hu=>by cases hu
 | .cons p v r,hw,u,hu=>by
  rw [flatP] at hu;rcases List.mem_append.1 hu with hu | hu
  ·cases hb:p.bare with
   | true=>rw [hb] at hu;cases hu
   | false=>rw [hb] at hu;exact wT v (hw p v (by simp [Pts.toList]) hb) u hu
  ·exact DP r (fun q w hm=>hw q w (by simp [Pts.toList,hm])) u hu
end
mutual
theorem DQ:∀ (t:Ty),∀ u∈flatT t,u.h.ag≠9
 | .mk h ps,u,hu=>by
  rw [flatT] at hu;split at hu
  ·cases hu
  ·rename_i h9;rcases List.mem_cons.1 hu with rfl | hu
   ·exact h9
   ·exact DR ps u hu
theorem DR:∀ (ps:Pts),∀ u∈flatP ps,u.h.ag≠9
 | .nil,u,hu=>by cases hu
 | .cons p v r,u,hu=>by
  rw [flatP] at hu;rcases List.mem_append.1 hu with hu | hu
  ·split at hu
   ·cases hu
   ·exact DQ v u hu
  ·exact DR r u hu
end
mutual
theorem zE:∀ (t:Ty) (j:Nat) (u:Ty),(flatT t)[j]? = some u->j + u.nn<=t.nn
 | .mk h ps,j,u,hu=>by
  rw [flatT] at hu;by_cases h9:h.ag=9
  ·rw [if_pos h9] at hu;simp at hu
  rw [if_neg h9] at hu
  cases j with
  | zero=>
   simp only [List.getElem?_cons_zero,oI] at hu;subst hu;omega
  | succ j=>
   simp only [List.getElem?_cons_succ] at hu;have:=sj ps j u hu;rw [Ty.nn,if_neg h9];omega
theorem sj:∀ (ps:Pts) (j:Nat) (u:Ty),(flatP ps)[j]? = some u->j + u.nn<=ps.nn
 | .nil,j,u,hu=>by simp [flatP] at hu
 | .cons p v r,j,u,hu=>by
  rw [flatP] at hu;rw [Pts.nn]
  cases hb:p.bare with
  | true=>
   rw [hb] at hu;have:=sj r j u (sU hu);simp only [if_true];omega
  | false=>
   rw [hb] at hu;simp only [Bool.false_eq_true,if_false] at hu ⊢;by_cases hj:j < (flatT v).length
   ·rw [List.getElem?_append_left hj] at hu;have:=zE v j u hu;omega
   ·rw [List.getElem?_append_right (by omega)] at hu;have:=sj r _ u hu;have h2:=jB v;omega
end
theorem qJ {lev:List Wd->Int} {s:Sch}:∀ {ps:Pts} {k:Nat} {e:Ed},e∈edsP lev s ps k->∃ p u k',(p,u)∈ps.toList/\e=wg lev p (uv s p u k')/\(p.bare=false->k' + u.nn<=k + ps.nn)
 | .nil,k,e,he=>by simp [edsP] at he
 | .cons p u r,k,e,he=>by
  rw [edsP] at he;rcases List.mem_cons.1 he with rfl | he
  ·refine ⟨p,u,k,by simp [Pts.toList],rfl,fun hb=>?_⟩;rw [Pts.nn,hb];simp
  ·obtain ⟨q,v,k',h1,h2,h3⟩:=qJ he;refine ⟨q,v,k',by simp [Pts.toList,h1],h2,fun hb=>?_⟩;have:=h3 hb;rw [Pts.nn];omega
theorem pf {lev:List Wd->Int} {s:Sch}:∀ {ps:Pts} {k:Nat},(edsP lev s ps k).map Ed.name=ay (pNames ps)
 | .nil,k=>rfl
 | .cons p u r,k=>by
  rw [edsP,List.map_cons,pf (ps:=r)];rfl
theorem zG {f:Nat->Nat->Bool} {n:Nat} (hL:dN f n):∀ e,e<=n->∃ b,b < n/\∀ x,x < e->f b x=true
 | 0,_=>⟨0,hL.pos,fun x hx=>by omega⟩
 | e + 1,he=>by
  obtain ⟨b,hb,eV⟩:=zG hL e (by omega);obtain ⟨k,hk⟩:=hL.mt b e hb (by omega);obtain ⟨g1,g2,g3,g4⟩:=o8 hk;refine ⟨k,g1,fun x hx=>?_⟩;rcases Nat.lt_succ_iff_lt_or_eq.1 hx with hx | rfl
  ·exact hL.tr k b x g1 hb (by omega) g2 (eV x hx)
  ·exact g3
theorem s6 {f:Nat->Nat->Bool} {n:Nat} (hL:dN f n) (l:List Nat) (hl:∀ x∈l,x < n):∃ c,eI f n l=some c:=by
 have key:∀ e,e<=l.length->∃ c,eI f n (l.take e)=some c:=by
  intro e
  induction e with
  | zero=>
   intro _;obtain ⟨b,hb,eV⟩:=zG hL n (Nat.le_refl _);exact ⟨b,o9 hL hb eV⟩
  | succ e ih=>
   intro he;obtain ⟨c,hc⟩:=ih (by omega);obtain ⟨x,hx⟩:∃ x,l[e]? = some x:=⟨_,gE (by omega)⟩;have ub:=hl x (mG hx);obtain ⟨k,hk⟩:=hL.jn c x (nY hc) ub;rw [List.take_add_one,hx];exact ⟨k,sX hL (fun y hy=>hl y (List.mem_of_mem_take hy)) ub hc hk⟩
 have:=key l.length (Nat.le_refl _)
 rwa [List.take_length] at this
theorem zH {L:List ByteArray}:∀ {l:List Wd},(labW L l).1=0->∀ w∈l,∃ i,cM L w.s=some i
 | [],_,w,hw=>by cases hw
 | x :: r,h,w,hw=>by
  rw [labW] at h;split at h
  ·cases h
  ·rename_i h1;rcases List.mem_cons.1 hw with rfl | hw
   ·exact Option.ne_none_iff_exists'.1 h1
   ·exact zH h w hw
theorem KT {f:Nat->Nat->Bool} {L:List ByteArray} (hL:dN f L.length) {l:List Wd} (h:(labW L l).1=0):∃ c:Nat,A5 f L l=c/\c < L.length:=by
 obtain ⟨c,hc⟩:=s6 hL (lY L l) (fun x hx=>by
  unfold lY at hx;obtain ⟨w,hw,rfl⟩:=List.mem_map.1 hx;obtain ⟨i,hi⟩:=zH h w hw;rw [hi]
  exact (cR hi).1)
 refine ⟨c,?_,nY hc⟩;unfold A5;rw [if_pos h,hc];rfl
structure EdOK (L N:Nat) (e:Ed):Prop where
 to0:e.bare=true->e.to = -1
 to1:e.bare=false->∃ k:Nat,e.to=k/\k < N
 lab:∃ k:Nat,e.label=k/\k < L
 seen:∃ k:Nat,e.seen=k/\k < L
 wide:1<=e.wide/\e.wide<=64
 ck:0<=e.ck/\e.ck<=3
 cn:(e.ck=0->e.cn=0)/\(e.ck=1->1<=e.cn)/\(e.ck=2->0<=e.cn/\e.cn<=4096)/\(e.ck=3->e.cn=0)
structure dB (L N:Nat) (n:Nd):Prop where
 k1:1<=n.ag
 k8:n.ag<=8
 lohi:n.ag=2->n.lo<=n.hi
 lo0:n.ag≠2->n.lo=0/\n.hi=0
 Ur:n.ag=3->0<=n.most/\n.most<=4096
 Us:n.ag=5->0<=n.most/\n.most<=1024
 Ut:n.ag≠3->n.ag≠5->n.most=0
 af:n.ag=4->n.af ≠ []/\n.af.length<=64/\n.af.Nodup/\∀ s∈n.af,bd s=true
 WE:n.ag≠4->n.af=[]
 leaf:n.ag < 5->n.aw=[]
 one:n.ag=5∨n.ag=6->∃ e,n.aw=[e]/\e.bare=false/\e.name=aq
 many:n.ag=7∨n.ag=8->n.aw.length<=64/\(n.ag=8->n.aw ≠ [])/\(n.aw.map Ed.name).Nodup/\∀ e∈n.aw,bd e.name=true
 bare:∀ e∈n.aw,e.bare=true->n.ag=8
 mY:∀ e∈n.aw,EdOK L N e
theorem wU {l:List Wd} (h:∀ j x,l[j]? = some x->aF l j x=0):(ay l).Nodup/\∀ x∈l,bd x.s=true:=by
 have key:∀ e,e<=l.length->(ay (l.take e)).Nodup:=by
  intro e
  induction e with
  | zero=>intro _;simp [ay]
  | succ e ih=>
   intro he;obtain ⟨x,hx⟩:∃ x,l[e]? = some x:=⟨_,gE (by omega)⟩;exact lX hx (ih (by omega)) (h e x hx)
 refine ⟨by have:=key l.length (Nat.le_refl _);rwa [List.take_length] at this,fun x hx=>?_⟩;obtain ⟨j,hj⟩:=List.mem_iff_getElem?.1 hx;have:=h j x hj;unfold aF at this;cases hb:bd x.s
 ·rw [hb] at this;simp at this
 ·rfl
theorem zI {all:List Wd}:∀ {l:List Wd} {i:Nat},(enumL all i l).1=0->∀ j x,l[j]? = some x->aF all (i + j) x=0
 | [],i,_,j,x,hx=>by simp at hx
 | y :: r,i,h,j,x,hx=>by
  rw [enumL] at h;split at h
  ·rename_i h1;exact (h1 h).elim
  ·rename_i h1
   cases j with
   | zero=>
    simp only [List.getElem?_cons_zero,oI] at hx;subst hx;simpa using h1
   | succ j=>
    simp only [List.getElem?_cons_succ] at hx;have:=zI h j x hx
    rwa [show i + 1 + j=i + (j + 1) by omega] at this
theorem Bo {h:Hd} (he:iy h=(0,0)):h.af ≠ []/\h.af.length<=64/\(ay h.af).Nodup/\∀ x∈h.af,bd x.s=true:=by
 unfold iy at he;split at he
 ·cases he
 ·rename_i h1;split at he
  ·cases he
  ·rename_i h2;refine ⟨h1,by omega,?_⟩
   exact wU fun j x hx=>by
    have:=zI (all:=h.af) (i:=0) (by rw [he]) j x hx
    rwa [Nat.zero_add] at this
theorem I8 {X:Lx} {L:List ByteArray}:∀ {ps:Pts},(knP X L ps).1=0->∀ {p:Ph} {u:Ty},(p,u)∈ps.toList->(X.bad p.label).1=0/\(X.bad p.cl).1=0
 | .nil,_,p,u,h=>by cases h
 | .cons q v r,hk,p,u,h=>by
  have hr:=(rZ hk).2;rw [knP] at hk;split at hk
  ·rename_i h1;exact (h1 hk).elim
  rename_i h1;split at hk
  ·rename_i h2;exact (h2 hk).elim
  rename_i h2;rcases List.mem_cons.1 h with h | h
  ·cases h;exact ⟨by simpa using h1,by simpa using h2⟩
  ·exact I8 hr h
theorem n7 {p q:Ph} (h:bM p q=true):p.bare=q.bare/\p.wide=q.wide/\p.ck=q.ck/\p.cn=q.cn:=by
 unfold bM at h;simp only [Bool.and_eq_true,beq_iff_eq,decide_eq_true_eq] at h;exact ⟨h.1.1.1.1.1,h.1.1.1.1.2,h.1.1.2,h.1.2⟩
theorem O0 {w:Int} (h:0<=w/\w<=64):1<=kX w/\kX w<=64:=by
 unfold kX;split<;>omega
theorem GK {p:Ph} (h:(aX p).1=0):(0<=p.ck/\p.ck<=3)/\(p.ck=0->p.cn=0)/\(p.ck=1->1<=p.cn)/\(p.ck=2->0<=p.cn/\p.cn<=4096)/\(p.ck=3->p.cn=0):=by
 unfold aX at h;by_cases c0:p.ck=0
 ·rw [if_pos c0] at h;by_cases c1:p.cn=0/\p.cl=[]
  ·exact ⟨by omega,fun _=>c1.1,by omega,by omega,by omega⟩
  ·rw [if_neg c1] at h;simp at h
 rw [if_neg c0] at h;by_cases c1:p.ck < 0∨3 < p.ck
 ·rw [if_pos c1] at h;simp at h
 rw [if_neg c1] at h;by_cases c2:(p.ck=1/\p.cn < 1)∨(p.ck=2/\(p.cn < 0∨4096 < p.cn))∨(p.ck=3/\p.cn≠0)
 ·rw [if_pos c2] at h;simp at h
 exact ⟨by omega,by omega,by omega,by omega,by omega⟩
theorem KU {p:Ph} (h:(dz p).1=0):(0<=p.wide/\p.wide<=64)/\(aX p).1=0:=by
 unfold dz at h;by_cases c0:p.wide < 0∨64 < p.wide
 ·rw [if_pos c0] at h;simp at h
 rw [if_neg c0] at h;by_cases c1:(bN p.label).1≠0
 ·rw [if_pos c1] at h;exact absurd h c1
 rw [if_neg c1] at h;exact ⟨by omega,h⟩
theorem Bp {t:Ty} (h:t.h.ag≠9):1<=t.nn:=by
 obtain ⟨h',ps⟩:=t;have h:¬ h'.ag=9:=h;rw [Ty.nn,if_neg h];omega
theorem zJ {S:Sch} {k:Nat} {x:Wd × Ty} (hx:S.types[k]? = some x):firstA S k + x.2.nn<=qG (fM S):=by
 have h1:=ng hx;rw [<- h1]
 have h2:firstA S (k + 1)=qG ((eY S).take (k + 1)):=by
  unfold firstA qG eY;rw [<- List.map_take,List.map_map];rfl
 have h3:=DM (eY S) (k + 1);have h4:qG (fM S)=qG (eY S) + qG [S.root]:=uz _ _;omega
theorem wV {lev:List Wd->Int} {s:Sch} {n:Nd}:∀ {l:List Ty} {k i:Nat},(ndsA lev s l k)[i]? = some n->∃ t∈l,∃ u∈flatT t,n=Sf lev s u (k + i)/\i + u.nn<=qG l
 | [],k,i,h=>by simp [ndsA] at h
 | t :: r,k,i,h=>by
  rw [ndsA] at h;rw [np];have hl:=jU lev s t k;by_cases hi:i < t.nn
  ·rw [List.getElem?_append_left (by omega),uy,List.getElem?_map,List.getElem?_zipIdx] at h
   cases hu:(flatT t)[i]? with
   | none=>rw [hu] at h;simp at h
   | some u=>
    rw [hu] at h;simp only [Option.map_some,oI] at h;have:=zE t i u hu;exact ⟨t,List.mem_cons_self,u,mG hu,by rw [<- h];simp,by omega⟩
  ·rw [List.getElem?_append_right (by omega),hl] at h;obtain ⟨t',h1,u,h2,h3,h4⟩:=wV h;refine ⟨t',List.mem_cons_of_mem _ h1,u,h2,?_,by omega⟩;rw [h3];congr 1;omega
theorem l7 (S:Sch):(aQ S).length=qG (fM S):=by rw [jC,la]
theorem sk {S:Sch} (hF:wR S) {i:Nat} {n:Nd} (h:(aQ S)[i]? = some n):dB S.ae.length (aQ S).length n:=by
 rw [l7];rw [jC] at h;obtain ⟨t,ht,u,hu,rfl,kx⟩:=wV h;rw [Nat.zero_add];have KF:=wT t ⟨_,_,hF.wr t ht⟩ u hu;have hk:=wP t (hF.kn t ht) u hu;have hk9:=DQ t u hu;have hT:=GJ KF;obtain ⟨abl,_⟩:=kY hF.lat;have fV:=dq S.ae;have wS:=hF.ends;obtain ⟨uh,us⟩:=u;simp only [Ty.h,Ty.ps] at hT hk9;have Wh:=(l4 hk).2;have E9:=hT.own;unfold vw at E9;simp only [Bool.and_eq_true,Bool.or_eq_true,decide_eq_true_eq] at E9;obtain ⟨⟨⟨⟨o1,o2⟩,o3⟩,o4⟩,o5⟩:=E9;have k1:=hT.k1;have k9:=hT.k9
 have XN:∀ l:List Wd,(labW (ay S.ae) l).1=0->∃ k:Nat,iE S l=k/\k < S.ae.length:=by
  intro l hl;have:=KT (f:=eO S.ae.length (di (ay S.ae) S.order)) (L:=ay S.ae) (by rw [fV];exact abl) hl
  rwa [fV] at this
 have jz:∀ (p:Ph) (v:Ty) (k':Nat),(p,v)∈us.toList->(p.bare=false->k' + v.nn<=i + 1 + us.nn)->(p.bare=true->uv S p v k' = -1)/\(p.bare=false->∃ k:Nat,uv S p v k'=k/\k < qG (fM S)):=by
  intro p v k' hm eV;refine ⟨fun hb=>by simp [uv,hb],fun hb=>?_⟩;have hkv:=Bn Wh hm hb;obtain ⟨vh,vs⟩:=v;by_cases h9:vh.ag=9
  ·obtain ⟨j,hj⟩:=Option.ne_none_iff_exists'.1 ((l4 hkv).1 h9);have oM:=(cR hj).1;rw [jT] at oM;obtain ⟨k,hk⟩:=wS j oM;have jm:=qy hk;obtain ⟨x,hx⟩:∃ x,S.types[k]? = some x:=⟨_,gE jm.1⟩;have h1:=zJ hx;have h2:=Bp (jm.2 x hx);refine ⟨firstA S k,?_,by omega⟩;simp [uv,hb,nh,Ty.h,h9,Wg,hj,namedN,hk]
  ·have h1:=Bp (t:=.mk vh vs) h9;have h2:=eV hb;have h3:(Ty.mk uh us).nn=1 + us.nn:=by rw [Ty.nn,if_neg hk9]
   refine ⟨k',by simp [uv,hb,nh,Ty.h,h9],by omega⟩
 have Dk:∀ p v,(p,v)∈us.toList->(0<=p.wide/\p.wide<=64)/\(0<=p.ck/\p.ck<=3)/\((p.ck=0->p.cn=0)/\(p.ck=1->1<=p.cn)/\(p.ck=2->0<=p.cn/\p.cn<=4096)/\(p.ck=3->p.cn=0))/\(p.bare=true->uh.ag=8):=by
  intro p v hm;obtain ⟨j,hj⟩:=List.mem_iff_getElem?.1 hm
  have hlen:us.len≠0:=by
   cases us with
   | nil=>simp [Pts.toList] at hm
   | cons _ _ _=>simp [Pts.len]
  by_cases h5:uh.ag=5∨uh.ag=6
  ·obtain ⟨q,t',rfl,_,hpl,_,_,_⟩:=hT.one h5;simp only [Pts.toList,List.mem_singleton,Prod.mk.injEq] at hm;obtain ⟨rfl,rfl⟩:=hm;obtain ⟨w1,w2,w3,w4⟩:=n7 hpl;have z1:eT.wide=0:=rfl;have z2:eT.ck=0:=rfl;have z3:eT.cn=0:=rfl;have z4:eT.bare=false:=rfl;rw [z1] at w2;rw [z2] at w3;rw [z3] at w4;rw [z4] at w1;refine ⟨by omega,by omega,⟨by omega,by omega,by omega,by omega⟩,fun hb=>?_⟩;rw [w1] at hb;cases hb
  ·obtain ⟨_,hP⟩:=(hT.many (by omega)).2.2 j p v hj;rcases hP with ⟨hb,h8,_,hpl⟩ | ⟨hb,hp,_⟩
   ·obtain ⟨w1,w2,w3,w4⟩:=n7 hpl;have z1:fi.wide=0:=rfl;have z2:fi.ck=0:=rfl;have z3:fi.cn=0:=rfl;rw [z1] at w2;rw [z2] at w3;rw [z3] at w4;exact ⟨by omega,by omega,⟨by omega,by omega,by omega,by omega⟩,fun _=>h8⟩
   ·obtain ⟨w1,w2⟩:=KU hp;obtain ⟨w3,w4⟩:=GK w2;exact ⟨w1,w3,w4,fun h=>by rw [hb] at h;cases h⟩
 have abm:us.len=0->us = .nil:=fun h=>by
  cases us with
  | nil=>rfl
  | cons _ _ _=>simp [Pts.len] at h
 refine {
  k1:=k1
  k8:=by show uh.ag<=8;omega
  lohi:=hT.int
  lo0:=fun h2=>?_
  Ur:=hT.text
  Us:=fun h5=>?_
  Ut:=fun h3 h5=>?_
  af:=fun h4=>?_
  WE:=fun h4=>?_
  leaf:=fun h5=>?_
  one:=fun h5=>?_
  many:=fun h7=>?_
  bare:=fun e he hb=>?_
  mY:=fun e he=>?_ }
 ·show uh.lo=0/\uh.hi=0;exact o1.resolve_left h2
 ·obtain ⟨q,t',rfl,_,_,jG,fH,_⟩:=hT.one (.inl h5);exact ⟨jG,fH⟩
 ·show uh.most=0;exact o2.resolve_left (fun h=>h.elim h3 h5)
 ·obtain ⟨e1,e2,e3,e4⟩:=Bo (hT.enum h4);show ay uh.af ≠ []/\(ay uh.af).length<=64/\(ay uh.af).Nodup/\∀ s∈ay uh.af,bd s=true;refine ⟨fun h=>e1 (by simpa [ay] using h),by rw [dq];exact e2,e3,fun s hs=>?_⟩;unfold ay at hs;obtain ⟨w,hw,rfl⟩:=List.mem_map.1 hs;exact e4 w hw
 ·show ay uh.af=[];have:=o4.resolve_right h4;have:uh.af=[]:=List.eq_nil_of_length_eq_zero this;rw [this];all_goals rfl
 ·show edsP (iE S) S us (i + 1)=[];have hk5:uh.ag < 5:=h5;rw [abm (o3.resolve_right (by omega))];rfl
 ·show ∃ e,edsP (iE S) S us (i + 1)=[e]/\_;obtain ⟨q,t',rfl,hn,hpl,_,_,_⟩:=hT.one h5;refine ⟨wg (iE S) q (uv S q t' (i + 1)),rfl,?_,hn⟩;exact (n7 hpl).1
 ·show (edsP (iE S) S us (i + 1)).length<=64/\(_->edsP (iE S) S us (i + 1) ≠ [])/\((edsP (iE S) S us (i + 1)).map Ed.name).Nodup/\∀ e∈edsP (iE S) S us (i + 1),bd e.name=true;obtain ⟨m1,m2,m3⟩:=hT.many h7
  have ir:∀ j x,(pNames us)[j]? = some x->aF (pNames us) j x=0:=by
   intro j x hx
   have hj:j < us.len:=by
    have:=(gS hx).1
    rwa [gk] at this
   obtain ⟨p,t',hp⟩:=Pts.eE hj;rw [gl hp] at hx;simp only [oI] at hx;rw [<- hx];exact (m3 j p t' hp).1
  obtain ⟨n1,n2⟩:=wU ir;refine ⟨by rw [qz];exact m1,fun h8 hn=>m2 h8 ?_,by rw [pf];exact n1,fun e he=>?_⟩
  ·have:=qz (iE S) S us (i + 1);rw [hn] at this;simpa using this.symm
  ·have:e.name∈ay (pNames us):=by rw [<- pf (lev:=iE S) (s:=S) (k:=i + 1)];exact List.mem_map_of_mem he
   unfold ay at this;obtain ⟨w,hw,h⟩:=List.mem_map.1 this;rw [<- h];exact n2 w hw
 ·obtain ⟨p,v,k',h1,rfl,_⟩:=qJ he;exact (Dk p v h1).2.2.2 hb
 ·obtain ⟨p,v,k',h1,rfl,h3⟩:=qJ he;obtain ⟨h4,h5⟩:=jz p v k' h1 h3;obtain ⟨h6,h7,h8,_⟩:=Dk p v h1;obtain ⟨h9,ru⟩:=I8 Wh h1;exact { to0:=h4,to1:=h5,lab:=XN _ h9,seen:=XN _ ru,wide:=O0 h6,ck:=h7,cn:=h8 }
theorem GL {S:Sch} (hF:wR S):∃ k:Nat,dW S=k/\k < (aQ S).length:=by
 rw [l7];have Um:=hF.kn S.root (by unfold fM;simp);have wS:=hF.ends;have gG:=wO S;have QC:qG (fM S)=qG (eY S) + S.root.nn:=by unfold fM;rw [uz];simp [qG]
 unfold dW;obtain ⟨ae,order,types,⟨rh,rp⟩⟩:=S;simp only at Um wS QC;by_cases h9:rh.ag=9
 ·obtain ⟨j,hj⟩:=Option.ne_none_iff_exists'.1 ((l4 Um).1 h9);have oM:=(cR hj).1;rw [jT] at oM;obtain ⟨k,hk⟩:=wS j oM;have jm:=qy hk;obtain ⟨x,hx⟩:∃ x,(Sch.mk ae order types (.mk rh rp)).types[k]? = some x:=⟨_,gE jm.1⟩;have h1:=zJ hx;have h2:=Bp (jm.2 x hx);exact ⟨firstA ⟨ae,order,types,.mk rh rp⟩ k,by simp [nh,Ty.h,h9,Wg,hj,namedN,hk],by omega⟩
 ·have h1:=Bp (t:=.mk rh rp) h9;exact ⟨(qC ⟨ae,order,types,.mk rh rp⟩).length,by simp [nh,Ty.h,h9],by omega⟩
theorem wW {lev:List Wd->Int} {s:Sch} {n:Nd}:∀ {l:List Ty} {k:Nat},n∈ndsA lev s l k->∃ t∈l,∃ u∈flatT t,∃ k',n=Sf lev s u k'
 | [],_,h=>by cases h
 | t :: r,k,h=>by
  rw [ndsA] at h;rcases List.mem_append.1 h with h | h
  ·rw [uy] at h;obtain ⟨x,hx,rfl⟩:=List.mem_map.1 h;have:=(List.mem_zipIdx hx).2.2;refine ⟨t,List.mem_cons_self,x.1,?_,_,rfl⟩;rw [this];exact List.getElem_mem _
  ·obtain ⟨t',ht,h⟩:=wW h;exact ⟨t',List.mem_cons_of_mem _ ht,h⟩
theorem ld {S:Sch} {n:Nd} (h:n∈aQ S) (hS:S.wt<=1099511627776):n.af.length<=1099511627776/\n.aw.length<=1099511627776:=by
 rw [jC] at h;obtain ⟨t,ht,u,hu,k,rfl⟩:=wW h;have h1:=Bj hS t ht;have h2:=wQ t u hu;obtain ⟨uh,us⟩:=u;have h3:=bw uh.af;have h4:=us.fy;simp only [Ty.wt,Hd.wt] at h2;simp only [Sf,Ty.h,Ty.ps,dq,qz];omega
abbrev zNd:List DV:=[.v (.int .i64 0),.v (.int .i64 0),.v (.int .i64 0),.v (.int .i64 0),.v (.int .i64 0),.v (.slice none 0 0),.v (.slice none 0 0)]
structure fN (S:Sch) (ND:List Nd) (PC:List DV):Prop where
 fine:wR S
 wt:S.wt<=1099511627776
 A9:ND=aQ S
 ok:∀ n∈ND,dB S.ae.length ND.length n
 nl:ND.length<=1099511627776
 len:EvP prog 147 [.pt PC 0] (.v (.int .i64 ND.length))
 root:EvP prog 41 [.pt PC 0] (.v (.int .i64 (dW S)))
 aj:∀ (i:Nat) n,ND[i]? = some n->EvP prog 90 [.pt PC 0,.v (.int .i64 i)] (.tup [.agg (jc n),.v (.bool true)])
 Uu:∀ i:Int,(i < 0∨ND.length<=i)->EvP prog 90 [.pt PC 0,.v (.int .i64 i)] (.tup [.agg zNd,.v (.bool false)])
 lat:∃ aE js,(ej S aE js).OK/\EvP prog 56 [.pt PC 0] (ej S aE js).pd
theorem O1 {S:Sch} {d:DV} (hS:S.wt<=1099511627776) (h0:(kF S).1=0) (hd:Oo S d):∃ PC,d = .pt PC 0/\fN S (aQ S) PC:=by
 obtain ⟨aE,kG,js,hX,hT,kK,rfl⟩:=hd;have hF:=qH h0;have bJ:=fun n (h:n∈aQ S)=>ld h hS
 refine ⟨_,rfl,{
  fine:=hF
  wt:=hS
  A9:=rfl
  ok:=fun n hn=>?_
  nl:=by rw [l7];exact Nat.le_trans (GI S) hS
  len:=r7 _ _ _ _ _ _
  root:=Gr _ _ _ _ _ _
  aj:=fun i n h=>Gs _ _ _ _ _ _ i n h (bJ n (mG h)).1 (bJ n (mG h)).2
  Uu:=fun i h=>Gt _ _ _ _ _ _ i h
  lat:=⟨aE,js,hX,KG _ _ _ _ _ _⟩ }⟩
 obtain ⟨i,hi⟩:=List.mem_iff_getElem?.1 hn;exact sk hF hi
def GM (S:Sch) (r:DV):Prop:=((kF S).1≠0/\r = .tup [.v (.pointer none),(kF S).d])∨((kF S).1=0/\∃ PC,fN S (aQ S) PC/\r = .tup [.pt PC 0,Ft.d (0,0)])
theorem zK {S:Sch} (hS:S.wt<=1099511627776) {r:DV} {os:List (List DV)} {tk:List TkE} (h:Gp S r os tk):GM S r:=by
 unfold Gp at h;by_cases h0:(kF S).1=0
 ·rw [if_neg (by rw [h0];simp)] at h;obtain ⟨d,hd,rfl⟩:=h;obtain ⟨PC,rfl,hP⟩:=O1 hS h0 hd;exact .inr ⟨h0,PC,hP,rfl⟩
 ·rw [if_pos h0] at h;exact .inl ⟨h0,h⟩
inductive Val where
 | mk (k n:Int) (s:ByteArray) (ks:List Val)
def Val.k:Val->Int | .mk k _ _ _=>k
def Val.n:Val->Int | .mk _ n _ _=>n
def Val.s:Val->ByteArray | .mk _ _ s _=>s
def Val.ks:Val->List Val | .mk _ _ _ ks=>ks
mutual
def aM:Val->List DV
 | .mk k n s ks=>[.v (.int .i64 k),.v (.int .i64 n),.v (.string s),.sl 4 (dVals ks) none]
def dVals:List Val->List (List DV)
 | []=>[]
 | v :: r=>aM v :: dVals r
end
theorem lf:∀ l:List Val,dVals l=l.map aM
 | []=>rfl
 | v :: r=>by rw [dVals,lf r];all_goals rfl
theorem bo (l:List Val):(dVals l).length=l.length:=by rw [lf,List.length_map]
theorem bf {l:List Val} {e:Nat} {x:Val} (h:l[e]? = some x):(dVals l)[e]? = some (aM x):=by rw [lf,List.getElem?_map,h];all_goals rfl
theorem GN {l:List Val} {e:Nat} {x:Val} (h:l[e]? = some x):dVals (l.take e) ++ [aM x]=dVals (l.take (e + 1)):=by
 rw [lf,lf,List.take_add_one,h];simp
mutual
def Val.wt:Val->Nat
 | .mk _ _ s ks=>64 + s.size + aav ks
def aav:List Val->Nat
 | []=>0
 | v :: r=>v.wt + aav r
end
theorem Val.dh:∀ v:Val,64<=v.wt
 | .mk _ _ _ _=>by rw [Val.wt];omega
theorem cE:∀ {l:List Val} {x:Val},x∈l->x.wt<=aav l
 | v :: r,x,h=>by
  rcases List.mem_cons.1 h with rfl | h
  ·rw [aav];omega
  ·have:=cE h;rw [aav];omega
theorem dc:∀ l:List Val,64 * l.length<=aav l
 | []=>Nat.le_refl _
 | v :: r=>by
  have:=dc r;have:=v.dh;rw [aav,List.length_cons];omega
mutual
def dT:Val->Nat
 | .mk _ _ _ ks=>1 + aY ks
def aY:List Val->Nat
 | []=>0
 | v :: r=>dT v + aY r
end
mutual
def wX:Val->Nat
 | .mk _ _ _ ks=>gA ks + 1
def gA:List Val->Nat
 | []=>0
 | v :: r=>max (wX v) (gA r)
end
mutual
theorem I9:∀ v:Val,dT v<=v.wt/\wX v<=v.wt
 | .mk _ _ _ ks=>by
  have:=wY ks;rw [dT,wX,Val.wt];omega
theorem wY:∀ l:List Val,aY l<=aav l/\gA l<=aav l
 | []=>⟨Nat.le_refl _,Nat.le_refl _⟩
 | v :: r=>by
  have h1:=I9 v;have h2:=wY r;rw [aY,gA,aav];omega
end
theorem pg:∀ (l:List Val) (x:Val),aY (l ++ [x])=aY l + dT x
 | [],x=>by simp [aY]
 | v :: r,x=>by rw [List.cons_append,aY,aY,pg r];omega
theorem wZ:∀ (l:List Val) (x:Val),gA (l ++ [x])=max (gA l) (wX x)
 | [],x=>by simp [gA]
 | v :: r,x=>by rw [List.cons_append,gA,gA,wZ r];omega
theorem zL {α:Type} {l:List α} {e:Nat} {x:α} (h:l[e]? = some x):l.take (e + 1)=l.take e ++ [x]:=by rw [List.take_add_one,h];all_goals rfl
theorem GO (l:List Val):∀ e,aY (l.take e)<=aav l/\gA (l.take e)<=aav l:=fun e=>by
 have h1:=wY (l.take e)
 have h2:∀ (l:List Val) e,aav (l.take e)<=aav l:=by
  intro l
  induction l with
  | nil=>intro e;simp [aav]
  | cons v r ih=>
   intro e
   cases e with
   | zero=>simp [aav]
   | succ e=>have:=ih e;simp only [List.take_succ_cons,aav];omega
 have:=h2 l e;omega
abbrev Sh (v:Val) (n d e:Nat):St:=
 ⟨[(1,⟨[],.loc 0 0⟩),(4,⟨[],.v (.int .i64 n)⟩),(5,⟨[],.v (.int .i64 d)⟩),(6,⟨[],.v (.int .i64 e)⟩)],[aM v],[]⟩
theorem nr:∀ (k:Nat) (v:Val),v.wt<=k->v.wt<=1099511627776->EvP prog 23 [.agg (aM v)] (.tup [.v (.int .i64 (dT v:Nat)),.v (.int .i64 (wX v:Nat))])
 | 0,v,h,_=>by have:=v.dh;omega
 | k + 1,.mk q n s ks,h,hb=>by
  have ih:=nr k;have cu:=bo ks;have jm:=dc ks;have iZ:=GO ks;rw [Val.wt] at h hb;rw [dT,wX];refine eG 35 [.tmp 2,.tmp 3] func23 rfl ntmps23 rfl fun _ _ _ _=>?_;refine lJ (fun e=>Sh (.mk q n s ks) (1 + aY (ks.take e)) (gA (ks.take e)) e) ks.length (weak_mk ⟨_,rfl⟩ wA rfl rfl rfl wB) ?_;intro e he;refine br ?_ ?_<;>intro hL
  ·have au:e < ks.length:=by have:=hL;simp [cu] at this;exact this
   obtain ⟨x,hx⟩:=gX au;have QJ:=cE (mG hx);have hc:=pg (ks.take e) x;have hd:=wZ (ks.take e) x;rw [<- zL hx] at hc hd;have h1:=iZ (e + 1);have hi:=ih x (by omega) (by omega);have XV:=I9 x;obtain ⟨xk,xn,xs,xl⟩:=x;refine iX (bf hx) ?_;refine cP Vq hi ?_;have hw:IntKind.i64.wrap (((1 + aY (ks.take e):Nat):Int) + ((dT (.mk xk xn xs xl):Nat):Int))=((1 + aY (ks.take (e + 1)):Nat):Int):=by rw [wrap64 (by omega) (by omega)];omega
   refine br ?_ ?_<;>intro g
   ·have g:gA (ks.take e) < wX (.mk xk xn xs xl):=sU g;have MA:((wX (.mk xk xn xs xl):Nat):Int)=((gA (ks.take (e + 1)):Nat):Int):=by omega
    exact rE ⟨_,by omega,e + 1,rfl,by omega,rfl⟩ (weak_mk ⟨_,rfl⟩ wA rfl rfl rfl (wB3 hw MA (nxt au (by omega))))
   ·have g:¬ gA (ks.take e) < wX (.mk xk xn xs xl):=sU g;have MA:((gA (ks.take e):Nat):Int)=((gA (ks.take (e + 1)):Nat):Int):=by omega
    exact rE ⟨_,by omega,e + 1,rfl,by omega,rfl⟩ (weak_mk ⟨_,rfl⟩ wA rfl rfl rfl (wB3 hw MA (nxt au (by omega))))
  ·have aN:e=ks.length:=sW cu hL;subst aN;have h1:=iZ ks.length;rw [List.take_length] at h1 ⊢;have hw:IntKind.i64.wrap (((gA ks:Nat):Int) + 1)=((gA ks + 1:Nat):Int):=by rw [wrap64 (by omega) (by omega)];omega
   refine ⟨_,(wC1 hw),rfl⟩
theorem DS:prog.cellsOf 34=4:=by kernel_rfl
end Go.Proofs.YtffhgcbfpidfiaaGreat
namespace Go.Proofs.YtffhgcbfpidfiaaGreat
open Go Go.RowKit Dv
def tyVS:List TypeId:=[34,32,9,3]
theorem tyVS_ok:∀ t∈tyVS,mS Tryz.prog tyVS t=true:=by
 have h:(tyVS.all fun t=>mS Tryz.prog tyVS t)=true:=by kernel_rfl
 exact fun t ht=>List.all_eq_true.1 h t ht
end Go.Proofs.YtffhgcbfpidfiaaGreat
set_option maxRecDepth 100000
namespace Go.Proofs.YtffhgcbfpidfiaaGreat
open Go Go.RowKit Dv Go.Proofs.Tryz
def bH (n u:Int):Int × Bool:=if u < 1 then (0,false) else if n - n % u < -9223372036854775808 then (0,false) else (n - n % u,true)
def Bq (r:Int × Bool):DV:=.tup [.v (.int .i64 r.1),.v (.bool r.2)]
theorem qK {n u:Int} (hu:1<=u):(n.tmod u < 0->n.tmod u + u=n % u)/\(¬ n.tmod u < 0->n.tmod u=n % u):=by
 have h1:=Int.emod_nonneg n (show u≠0 by omega);have h2:=Int.emod_lt_of_pos n (show 0 < u by omega);have h3:=Int.tmod_eq_emod (a:=n) (b:=u);have h4:(u.natAbs:Int)=u:=Int.natAbs_of_nonneg (by omega);rw [h3];split<;>omega
theorem ph (n u:Int) (hn : -9223372036854775808<=n/\n<=9223372036854775807) (hu : -9223372036854775808<=u/\u<=9223372036854775807):EvP prog 158 [.v (.int .i64 n),.v (.int .i64 u)] (Bq (bH n u)):=by
 have hF:bH n u=if u < 1 then (0,false) else if n - n % u < -9223372036854775808 then (0,false) else (n - n % u,true):=rfl
 generalize bH n u=F at hF ⊢;refine eG 24 [.tmp 4,.tmp 5] func158 rfl ntmps158 rfl fun _ _ _ _=>?_;refine br ?_ ?_<;>intro c
 ·have c:u < 1:=sU c;rw [if_pos c] at hF;subst hF;exact ⟨_,ax,rfl⟩
 have c:¬ u < 1:=sU c;rw [if_neg c] at hF;have hm:=qK (n:=n) (u:=u) (by omega);have h1:=Int.emod_nonneg n (show u≠0 by omega);have h2:=Int.emod_lt_of_pos n (show 0 < u by omega)
 have h5 : -u<=n.tmod u/\n.tmod u < u:=by
  rcases Int.lt_or_le (n.tmod u) 0 with h | h
  ·have:=hm.1 h;omega
  ·have:=hm.2 (by omega);omega
 have Qx:IntKind.i64.wrap (-9223372036854775808 + n % u) = -9223372036854775808 + n % u:=wrap64 (by omega) (by omega);refine ⟨⟨rfl,by omega⟩,?_⟩;refine br ?_ ?_<;>intro g
 ·have g:n.tmod u < 0:=sU g;have kv:IntKind.i64.wrap (n.tmod u + u)=n % u:=by rw [hm.1 g];exact wrap64 (by omega) (by omega)
  refine br ?_ ?_<;>intro h
  ·have h:n < IntKind.i64.wrap (-9223372036854775808 + IntKind.i64.wrap (n.tmod u + u)):=sU h;rw [kv,Qx] at h;rw [if_pos (by omega)] at hF;subst hF;exact ⟨_,ax,rfl⟩
  ·have h:¬ n < IntKind.i64.wrap (-9223372036854775808 + IntKind.i64.wrap (n.tmod u + u)):=sU h;rw [kv,Qx] at h;rw [if_neg (by omega)] at hF;have sP:IntKind.i64.wrap (n - IntKind.i64.wrap (n.tmod u + u))=n - n % u:=by rw [kv];exact wrap64 (by omega) (by omega)
   refine ⟨.tup [.v (.int .i64 (IntKind.i64.wrap (n - IntKind.i64.wrap (n.tmod u + u)))),.v (.bool true)],ax,?_⟩;rw [hF];exact congrArg (fun z=>DV.tup [.v (.int .i64 z),.v (.bool true)]) sP
 ·have g:¬ n.tmod u < 0:=sU g;have kv:n.tmod u=n % u:=hm.2 g;refine br ?_ ?_<;>intro h
  ·have h:n < IntKind.i64.wrap (-9223372036854775808 + n.tmod u):=sU h;rw [kv,Qx] at h;rw [if_pos (by omega)] at hF;subst hF;exact ⟨_,ax,rfl⟩
  ·have h:¬ n < IntKind.i64.wrap (-9223372036854775808 + n.tmod u):=sU h;rw [kv,Qx] at h;rw [if_neg (by omega)] at hF;have sP:IntKind.i64.wrap (n - n.tmod u)=n - n % u:=by rw [kv];exact wrap64 (by omega) (by omega)
   refine ⟨.tup [.v (.int .i64 (IntKind.i64.wrap (n - n.tmod u))),.v (.bool true)],ax,?_⟩;rw [hF];exact congrArg (fun z=>DV.tup [.v (.int .i64 z),.v (.bool true)]) sP
theorem emod_le {a u:Int} (ha:0<=a) (hu:1<=u):a % u<=a:=by
 have h1:=Int.mul_ediv_add_emod a u;have h2:=Int.mul_nonneg (show 0<=u by omega) (Int.ediv_nonneg ha (show 0<=u by omega));omega
theorem tdiv_le {n u:Int} (hu:1<=u):(0<=n.tdiv u->n.tdiv u<=n.tdiv u * u)/\(n.tdiv u<=0->n.tdiv u * u<=n.tdiv u):=by
 constructor
 ·intro h;have:=Int.mul_le_mul_of_nonneg_left hu h
  rwa [Int.mul_one] at this
 ·intro h;have:=Int.mul_le_mul_of_nonneg_left hu (show 0 <= -(n.tdiv u) by omega);rw [Int.mul_one,Int.neg_mul] at this;omega
theorem Bs {q u l:Int} (hu:1<=u) (hl:l<=0):q < l.tdiv u↔q * u < l:=by
 have h1:=Int.mul_tdiv_add_tmod l u;rw [Int.mul_comm] at h1;have hm:=qK (n:=l) (u:=u) hu;have h2:=Int.emod_nonneg l (show u≠0 by omega);have h3:=Int.emod_lt_of_pos l (show 0 < u by omega)
 have h4 : -u < l.tmod u/\l.tmod u<=0:=by
  have h5:(-l).tmod u = -(l.tmod u):=Int.neg_tmod ..;have h6:(-l).tmod u=(-l) % u:=Int.tmod_eq_emod_of_nonneg (by omega);have h7:=Int.emod_nonneg (-l) (show u≠0 by omega);have h8:=Int.emod_lt_of_pos (-l) (show 0 < u by omega);omega
 constructor
 ·intro h;have:=Int.mul_le_mul_of_nonneg_right (a:=q + 1) (b:=l.tdiv u) (c:=u) (by omega) (by omega);rw [Int.add_mul,Int.one_mul] at this;omega
 ·intro h;rcases Int.lt_or_le q (l.tdiv u) with h9 | h9
  ·exact h9
  ·have:=Int.mul_le_mul_of_nonneg_right (a:=l.tdiv u) (b:=q) (c:=u) (by omega) (by omega);omega
theorem qL (n u:Int) (hn : -9223372036854775808<=n/\n<=9223372036854775807) (hu : -9223372036854775808<=u/\u<=9223372036854775807):EvP prog 153 [.v (.int .i64 n),.v (.int .i64 u)] (Bq (bH n u)):=by
 have hF:bH n u=if u < 1 then (0,false) else if n - n % u < -9223372036854775808 then (0,false) else (n - n % u,true):=rfl
 generalize bH n u=F at hF ⊢;refine eG 26 [.tmp 4,.tmp 5] func153 rfl ntmps153 rfl fun _ _ _ _=>?_;refine br ?_ ?_<;>intro c
 ·have c:u < 1:=sU c;rw [if_pos c] at hF;subst hF;exact ⟨_,ax,rfl⟩
 have c:¬ u < 1:=sU c;rw [if_neg c] at hF;have h1:=Int.emod_nonneg n (show u≠0 by omega);have h2:=Int.emod_lt_of_pos n (show 0 < u by omega);have hT:=Int.mul_tdiv_add_tmod n u;rw [Int.mul_comm] at hT;have hm:=qK (n:=n) (u:=u) (by omega);have hb:=tdiv_le (n:=n) (u:=u) (by omega);have hbl:=tdiv_le (n:=-9223372036854775808) (u:=u) (by omega);have hl:=Int.mul_tdiv_add_tmod (-9223372036854775808) u;rw [Int.mul_comm] at hl;have ep:=qK (n:=-9223372036854775808) (u:=u) (by omega);have hml1:=Int.emod_nonneg (-9223372036854775808) (show u≠0 by omega);have hml2:=Int.emod_lt_of_pos (-9223372036854775808) (show 0 < u by omega)
 have hsg:(0<=n->0<=n.tmod u/\n.tmod u<=n)/\(n<=0->n.tmod u<=0/\n<=n.tmod u):=by
  constructor
  ·intro h;rw [Int.tmod_eq_emod_of_nonneg h];exact ⟨h1,emod_le h (by omega)⟩
  ·intro h;have h5:(-n).tmod u = -(n.tmod u):=Int.neg_tmod ..;rw [Int.tmod_eq_emod_of_nonneg (by omega)] at h5;have h7:=Int.emod_nonneg (-n) (show u≠0 by omega);have h8:=emod_le (show 0 <= -n by omega) (show 1<=u by omega);omega
 have mF:(-9223372036854775808:Int).tmod u<=0 /\ -9223372036854775808<=(-9223372036854775808:Int).tmod u:=by
  have h5:(-(-9223372036854775808):Int).tmod u = -((-9223372036854775808:Int).tmod u):=Int.neg_tmod ..;rw [Int.tmod_eq_emod_of_nonneg (by omega)] at h5;have h7:=Int.emod_nonneg (-(-9223372036854775808)) (show u≠0 by omega);have h8:=emod_le (show (0:Int) <= -(-9223372036854775808) by omega) (show 1<=u by omega);omega
 have hTr : -9223372036854775808<=n.tdiv u/\n.tdiv u<=9223372036854775807:=by
  rcases Int.le_total 0 (n.tdiv u) with h | h
  ·have:=hb.1 h;omega
  ·have:=hb.2 h;omega
 have hLr : -9223372036854775808<=(-9223372036854775808:Int).tdiv u/\(-9223372036854775808:Int).tdiv u<=9223372036854775807:=by
  rcases Int.le_total 0 ((-9223372036854775808:Int).tdiv u) with h | h
  ·have:=hbl.1 h;omega
  ·have:=hbl.2 h;omega
 have hw5:IntKind.i64.wrap ((-9223372036854775808:Int).tdiv u)=(-9223372036854775808:Int).tdiv u:=wrap64 (by omega) (by omega);have hw1:IntKind.i64.wrap (n.tdiv u)=n.tdiv u:=wrap64 (by omega) (by omega);have kv:IntKind.i64.wrap (IntKind.i64.wrap (n.tdiv u) * u)=n.tdiv u * u:=by rw [hw1];exact wrap64 (by omega) (by omega)
 refine ⟨⟨rfl,by omega⟩,?_⟩;refine br ?_ ?_<;>intro g
 ·have g:n < IntKind.i64.wrap (IntKind.i64.wrap (n.tdiv u) * u):=sU g;rw [kv] at g;have hR:n.tmod u < 0:=by omega
  have hmr:=hm.1 hR
  have hqr : -9223372036854775808<=n.tdiv u - 1:=by
   rcases Int.le_total 0 (n.tdiv u) with h | h
   ·omega
   ·have:=hb.2 h;omega
  have rr:IntKind.i64.wrap (IntKind.i64.wrap (n.tdiv u) - 1)=n.tdiv u - 1:=by rw [hw1];exact wrap64 hqr (by omega)
  have WG:(n.tdiv u - 1) * u=n - n % u:=by rw [Int.sub_mul,Int.one_mul];omega
  refine ⟨⟨rfl,by omega⟩,?_⟩;refine br ?_ ?_<;>intro h
  ·have h:IntKind.i64.wrap (IntKind.i64.wrap (n.tdiv u) - 1) < IntKind.i64.wrap ((-9223372036854775808:Int).tdiv u):=sU h;rw [hw5,rr,Bs (by omega) (by omega),WG] at h;rw [if_pos (by omega)] at hF;subst hF;exact ⟨_,ax,rfl⟩
  ·have h:¬ IntKind.i64.wrap (IntKind.i64.wrap (n.tdiv u) - 1) < IntKind.i64.wrap ((-9223372036854775808:Int).tdiv u):=sU h;rw [hw5,rr,Bs (by omega) (by omega),WG] at h;rw [if_neg (by omega)] at hF;have sP:IntKind.i64.wrap (IntKind.i64.wrap (IntKind.i64.wrap (n.tdiv u) - 1) * u)=n - n % u:=by rw [rr,WG];exact wrap64 (by omega) (by omega)
   refine ⟨.tup [.v (.int .i64 (IntKind.i64.wrap (IntKind.i64.wrap (IntKind.i64.wrap (n.tdiv u) - 1) * u))),.v (.bool true)],ax,?_⟩;rw [hF];exact congrArg (fun z=>DV.tup [.v (.int .i64 z),.v (.bool true)]) sP
 ·have g:¬ n < IntKind.i64.wrap (IntKind.i64.wrap (n.tdiv u) * u):=sU g;rw [kv] at g;have hR:¬ n.tmod u < 0:=by omega
  have hmr:=hm.2 hR;have rr:=hw1;have WG:n.tdiv u * u=n - n % u:=by omega
  refine ⟨⟨rfl,by omega⟩,?_⟩;refine br ?_ ?_<;>intro h
  ·have h:IntKind.i64.wrap (n.tdiv u) < IntKind.i64.wrap ((-9223372036854775808:Int).tdiv u):=sU h;rw [hw5,rr,Bs (by omega) (by omega),WG] at h;rw [if_pos (by omega)] at hF;subst hF;exact ⟨_,ax,rfl⟩
  ·have h:¬ IntKind.i64.wrap (n.tdiv u) < IntKind.i64.wrap ((-9223372036854775808:Int).tdiv u):=sU h;rw [hw5,rr,Bs (by omega) (by omega),WG] at h;rw [if_neg (by omega)] at hF;have sP:IntKind.i64.wrap (IntKind.i64.wrap (n.tdiv u) * u)=n - n % u:=by rw [rr,WG];exact wrap64 (by omega) (by omega)
   refine ⟨.tup [.v (.int .i64 (IntKind.i64.wrap (IntKind.i64.wrap (n.tdiv u) * u))),.v (.bool true)],ax,?_⟩;rw [hF];exact congrArg (fun z=>DV.tup [.v (.int .i64 z),.v (.bool true)]) sP
end Go.Proofs.YtffhgcbfpidfiaaGreat
