/- Part 5 of the proof: What resolve.Build says of a schema; lattices in which nothing is wrong; resolve.Build; Reading a plan: Len, Root, Lattice, Node, Find; slices.Clone; of no plan as well; The reference of chapter 17: Great, Same; The program's comparing of schemas; The law's example: a type that leads to itself; The law of no plan: the call returns true; The document's relations: Leads; The document's lattices: Find, pairs, Leq, Loop; The document's lattices: what is wrong; The document's labels: over, Least, Of; The document's schemas: Find, word, all, Flat, End, Start; The document's schemas: Flat, End, Start; The document's schemas: named, unknown; The reference's Wrong returns what is wrong with a type; The document's schemas: what is wrong; The document's nodes: Same, of equal ones; the law's node; The document's nodes: node; The document's plan: Build; What is known of a type with which nothing is wrong; labels have levels; What is known of the nodes of a plan; A plan, as its readers know it; Values, plain; how many are in one, how deep they lie; What is read of a value, as the plain data; What the frames of laws over values share; The greatest multiple of a unit that is at most a number. No condition. -/
import Derived.Test.YtfifjddnnmfeoaaGreatMm3
import Derived.Test.YtfifjddnnmfeoaaGreatMm4
set_option linter.all false
set_option maxRecDepth 100000
namespace Go.Proofs.YtfifjddnnmfeoaaGreat
open Go Go.RowKit Dv Tryz
theorem nW {l:List Wd} {o:List (Wd × Wd)} (h:(latF l o).1=0):(eZ l o).1=0/\(enumL l 0 l).1=0/\(numF (av l) o).1=0/\bG (jE l.length (dY l.length (cL (av l) o))) l.length=none/\bG (l7 (dY l.length (cL (av l) o)) l.length) l.length=none:=by
 unfold latF at h;split at h
 ·rename_i h1;exact (h1 h).elim
 ·rename_i h1;split at h
  ·rename_i h2;exact (h2 h).elim
  ·rename_i h2;split at h
   ·rename_i h3;exact (h3 h).elim
   ·rename_i h3;refine ⟨by simpa using h1,by simpa using h2,by simpa using h3,?_⟩;split at h
    ·cases h
    ·rename_i h4;refine ⟨h4,?_⟩;split at h
     ·cases h
     ·rename_i h5;exact h5
theorem dg {p:Nat->Bool} {n:Nat} (h:bG p n=none):∀ a,a < n->p a=false:=by
 intro a ha;unfold bG at h;rw [List.find?_eq_none] at h;have:=h a (by simpa using ha);simpa using this
theorem kf {l:List Wd} {o:List (Wd × Wd)} (h:(latF l o).1=0):dL (dY l.length (cL (av l) o)) l.length/\l.length<=32:=by
 obtain ⟨h1,h2,h3,h4,h5⟩:=nW h;have hP:=mM h3;rw [cS] at hP
 have DB:l ≠ []:=by
  rintro rfl;simp [eZ] at h1
 have Iy:l.length<=32:=by
  rcases Nat.lt_or_ge 32 l.length with h | h
  ·simp [eZ,DB,h] at h1
  ·exact h
 have GJ:∀ a b,a < l.length->b < l.length->ka (dY l.length (cL (av l) o)) l.length a b=false:=by
  have key:∀ a b,a<=b->b < l.length->ka (dY l.length (cL (av l) o)) l.length a b=false:=fun a b nJ hb=>by
   have:=dg h5 b hb;unfold l7 at this;rw [List.any_eq_false] at this;have:=this a (by simp;omega);simpa using this
  intro a b ha hb;rcases Nat.le_total a b with h | h
  ·exact key a b h hb
  ·have:=key b a h ha;unfold ka at this ⊢;rw [uw,ux];exact this
 refine ⟨{
  pos:=List.length_pos_iff.2 DB
  rfl':=fun a ha=>qy hP ha
  tr:=fun a b c ha hb hc=>D4 hP ha hb hc
  Eb:=fun a b ha hb h6 h7=>by
   have:=dg h4 a ha;unfold jE at this;rw [List.any_eq_false] at this;have:=this b (by simpa using hb);simp only [Bool.and_eq_true,decide_eq_true_eq,not_and] at this;rcases Nat.lt_trichotomy a b with h8 | h8 | h8
   ·exact (this (by omega) h6 h7).elim
   ·exact h8
   ·exact (this (by omega) h6 h7).elim
  jn:=fun a b ha hb=>by
   have:=GJ a b ha hb;unfold ka at this;simp only [Bool.or_eq_false_iff,Option.isNone_eq_false_iff] at this;exact Option.isSome_iff_exists.1 this.1
  mt:=fun a b ha hb=>by
   have:=GJ a b ha hb;unfold ka at this;simp only [Bool.or_eq_false_iff,Option.isNone_eq_false_iff] at this
   exact Option.isSome_iff_exists.1 this.2 },Iy⟩
def dD (s:Sch) (az:List Nat) (js:List Int):Lx:=⟨av s.ae,az,closeR (ez s.ae.length (cL (av s.ae) s.order)) s.ae.length,js,dY s.ae.length (cL (av s.ae) s.order)⟩
theorem O1 {s:Sch} {d:DV} (h:(latF s.ae s.order).1=0) (hd:Sy s.ae s.order d) (hw:s.ae.length<=1099511627776):∃ az js,(dD s az js).OK/\d=(dD s az js).pd:=by
 obtain ⟨az,js,hT,jN,ng,JE,rfl⟩:=hd;obtain ⟨h1,h2⟩:=kf h;refine ⟨az,js,⟨hT,by show az.length<=_;omega,?_,?_,?_⟩,rfl⟩
 ·show dL _ (av s.ae).length;rw [cS];exact h1
 ·show (av s.ae).length<=32;rw [cS];exact h2
 ·show ∀ x y,x < (av s.ae).length->y < (av s.ae).length->JM _ (av s.ae).length js x y;rw [cS];exact JE
def gH (s:Sch) (l:List Wd):Int:=zb (dY s.ae.length (cL (av s.ae) s.order)) (av s.ae) l
def jH (s:Sch) (t:Ty):Ft:=knT ⟨av s.ae,[],[],[],fun _ _=>false⟩ (tL s) t
mutual
theorem xP {X Y:Lx} (h:X.af=Y.af) (L:List ByteArray):∀ t:Ty,knT X L t=knT Y L t
 | .mk h1 ps=>by rw [knT,knT,xQ h L ps]
theorem xQ {X Y:Lx} (h:X.af=Y.af) (L:List ByteArray):∀ ps:Pts,knP X L ps=knP Y L ps
 | .nil=>by rw [knP,knP]
 | .cons p t r=>by
  rw [knP,knP,xQ h L r,xP h L t];unfold Lx.bad;rw [h]
end
theorem SL (s:Sch) (az:List Nat) (js:List Int) (t:Ty):knT (dD s az js) (tL s) t=jH s t:=xP (X:=dD s az js) (Y:=⟨av s.ae,[],[],[],fun _ _=>false⟩) rfl (tL s) t
def jU (s:Sch):Ft:=
 if (latF s.ae s.order).1≠0 then latF s.ae s.order
 else if (dC s).1≠0 then dC s
 else if (eaR s.root s.types 0).1.1≠0 then (eaR s.root s.types 0).1
 else if (eaL (jH s) (jH s s.root) s.types).1≠0 then eaL (jH s) (jH s s.root) s.types
 else loopF s
def ndsAll (lev:List Wd->Int) (s:Sch):List (Wd × Ty)->Nat->List Nd
 | [],_=>[]
 | x :: r,k=>ndsT lev s x.2 k ++ ndsAll lev s r (k + x.2.nn)
def pj (s:Sch):List Nd:=ndsAll (gH s) s s.types 0
def aQ (s:Sch):List Nd:=pj s ++ ndsT (gH s) s s.root (pj s).length
def bL (s:Sch):Int:=mb s s.root (pj s).length
def QJ (s:Sch) (az jV:List Nat) (js:List Int):List DV:=
 [(dD s az js).pd,.sl 7 (cK (aQ s)) none,.v (.int .i64 (bL s)),.pt (cr (tL s) jV) 0,.sl 1 (dInts (namedL s)) none]
def LZ (s:Sch) (d:DV):Prop:=∃ az jV js,(dD s az js).OK/\gk (tL s) jV/\jV.length<=s.types.length/\d = .pt (QJ s az jV js) 0
def Ep (s:Sch) (r:DV) (_:List (List DV)) (_:List TkE):Prop:=
 if (jU s).1≠0 then r = .tup [.v (.pointer none),(jU s).d] else ∃ d,LZ s d/\r = .tup [d,Ft.d (0,0)]
theorem mc {s:Sch} {f:Ft} {os:List (List DV)} {tk:List TkE} (h:jU s=f) (hf:f.1≠0):Ep s (.tup [.v (.pointer none),f.d]) os tk:=by
 unfold Ep;rw [h,if_pos hf]
theorem O2 {s:Sch} {d:DV} {os:List (List DV)} {tk:List TkE} (h:(jU s).1=0) (hd:LZ s d):Ep s (.tup [d,Ft.d (0,0)]) os tk:=by
 unfold Ep;rw [if_neg (by rw [h];simp)];exact ⟨d,hd,rfl⟩
theorem L0 {F:Ty->Ft} {z:Ft}:∀ {l:List (Wd × Ty)},(eaL F z l).1=0->z.1=0/\∀ x∈l,(F x.2).1=0
 | [],h=>⟨h,fun x hx=>by cases hx⟩
 | x :: r,h=>by
  rw [eaL] at h;split at h
  ·rename_i h1;exact (h1 h).elim
  ·rename_i h1;obtain ⟨h2,h3⟩:=L0 h;refine ⟨h2,fun y hy=>?_⟩;rcases List.mem_cons.1 hy with rfl | hy
   ·simpa using h1
   ·exact h3 y hy
theorem L3 {z:Ty}:∀ {l:List (Wd × Ty)} {m:Int},0<=m->(eaR z l m).1.1=0->(wrong z 1 0).1.1=0/\(∀ x∈l,(wrong x.2 1 0).1.1=0)/\(eaR z l m).2=m + ((l.map fun x=>x.2.cnt).sum + z.cnt:Nat)/\(eaR z l m).2<=512
 | [],m,_,h=>by
  rw [eaR] at h ⊢;obtain ⟨h1,h2,h3,_⟩:=mO h;exact ⟨h3,(fun x hx=>by cases hx),(by simp [h1]),h2⟩
 | x :: r,m,hm,h=>by
  rw [eaR] at h ⊢;split at h
  ·rename_i h1;exact (h1 h).elim
  ·rename_i h1;rw [if_neg h1];obtain ⟨g1,g2,g3,_⟩:=mO (by simpa using h1);obtain ⟨h2,h3,h4,h5⟩:=L3 (by omega) h;refine ⟨h2,fun y hy=>?_,(by rw [h4,g1];simp only [List.map_cons,List.sum_cons];omega),h5⟩;rcases List.mem_cons.1 hy with rfl | hy
   ·exact g3
   ·exact h3 y hy
theorem uL (lev:List Wd->Int) (s:Sch):∀ (l:List (Wd × Ty)) (k:Nat),(ndsAll lev s l k).length=(l.map fun x=>x.2.nn).sum
 | [],_=>rfl
 | x :: r,k=>by simp only [ndsAll,List.length_append,jf,uL lev s r,List.map_cons,List.sum_cons]
theorem uM:∀ l:List (Wd × Ty),(l.map fun x=>x.2.nn).sum<=(l.map fun x=>x.2.cnt).sum
 | []=>Nat.le_refl _
 | x :: r=>by
  have:=x.2.fo;have:=uM r;simp only [List.map_cons,List.sum_cons];omega
theorem xR:∀ l:List Nd,(cK l).flatten.length=l.length * 7
 | []=>rfl
 | a :: r=>by
  have:=xR r;simp only [cK,List.map_cons,List.flatten_cons,List.length_append,List.length_cons] at this ⊢;rw [this];simp only [jG,List.length_cons,List.length_nil];omega
theorem zf {X:Lx} {s:Sch} {t:Ty} (h:(knT X (tL s) t).1=0):ss s t=true:=by
 obtain ⟨hd,ps⟩:=t;have:=(kY h).1;unfold ss;exact decide_eq_true this
theorem BU {s:Sch} (h:(loopF s).1=0):∀ i,i < s.types.length->∃ k,endI s (s.types.length + 1) i=some k:=by
 intro i hi;unfold loopF at h;split at h
 ·rename_i h1;have:=dg h1 i hi;simp only [Option.isNone_eq_false_iff] at this;exact Option.isSome_iff_exists.1 this
 ·cases h
abbrev L4 (s:Sch) (az:List Nat) (lc:List DV) (m:Int) (f1 f2:Int) (n:Nat) (base:List DV) (e:Nat):St:=
 ⟨[(1,⟨[],.loc 4 0⟩),(3,⟨[],.loc 3 0⟩),(6,⟨[],.loc 0 0⟩),(59,⟨[],.sl 11 (dNms s.types) none⟩),(60,⟨[],.v (.int .i64 (dNms s.types).length)⟩),(61,⟨[],.v (.int .i64 e)⟩)],
  [bC s (.pt lc 0) (.loc 1 0) m,JF s az lc n,[.v (.int .i64 f1),.v (.int .i64 f2)],[.v (.int .i64 0),.v (.int .i64 0)],ey s],[El n base]⟩
theorem uN (s:Sch) (hs:s.wt<=1099511627776):Ev Tryz.prog 16 [.agg (ey s)] [] [] (Ep s):=by
 have hF:=jU.eq_1 s;have hw:=hs;simp only [Sch.wt] at hw;have hwl:=bd s.ae;have YO:=iC s.types;have Ou:=BH s.ae s.order (by omega) (by omega);have sg:=fun lc=>ze s lc (by omega)
 have bS:∀ t,(t=s.root∨∃ x∈s.types,t=x.2)->t.wt<=1099511627776:=fun t ht=>by
  rcases ht with rfl | ⟨x,hx,rfl⟩
  ·omega
  ·have:=fx hx;omega
 have Xp:=fun lc az=>Ei s lc az 0 (by omega) (by omega) (by omega) bS;have Xq:=fun (X:Lx) (hX:X.OK) (az:List Nat) (hT:gk (tL s) az) (jN:az.length<=1099511627776) (m:Int)=>Ir s X.pd (Eh s az (gg X.af (cr X.af X.az) X.rows X.js)) m (by omega) 47 RU (knT X (tL s)) (fun t ht=>uF hX s az (.pt (gg X.af (cr X.af X.az) X.rows X.js) 0) (.v (.slice none 0 0)) (.v (.int .i64 0)) (.v (.slice none 0 0)) m hT jN t.wt t (Nat.le_refl _) (bS t ht))
 have SM:(dC s).1=0->s.types.length<=64:=fun h=>by
  unfold dC at h;split at h
  ·cases h
  ·omega
 have hLx:=fun d h hd=>@O1 s d h hd (by omega);have QK:=fun (lat:DV) (az:List Nat) (a b c e0:DV) (m:Int)=>Ef s lat az a b c e0 m;have L5:=fun (lc:List DV) (az:List Nat) (m:Int)=>BQ s lc az m;have gW:=fun (X:Lx) (hX:X.OK) (az:List Nat) (m:Int) (hT:gk (tL s) az) (jN:az.length<=1099511627776) (t:Ty) (ht:t.wt<=1099511627776)=>xM hX s az m hT jN t.wt t (Nat.le_refl _) ht;refine ev_go (P:=Tryz.prog) tt tt_ok 5000 85 [.tmp 2,.cell 3 54] Tryz.func16 rfl Tryz.ntmps16 rfl (nL rfl) (fun E9 w9 hn9 hm9=>?_);generalize hS:s=S at *;obtain ⟨ae,order,types,⟨rh,rp⟩⟩:=s;subst hS;refine bl ZS rfl Ou ax (fun r hr=>?_);by_cases hL:(latF ae order).1≠0
 ·have YJ:=hL;rw [if_pos (show (latF (Sch.mk ae order types (.mk rh rp)).ae (Sch.mk ae order types (.mk rh rp)).order).1≠0 from hL)] at hF;unfold D7 at hr;rw [if_pos (show (latF (Sch.mk ae order types (.mk rh rp)).ae (Sch.mk ae order types (.mk rh rp)).order).1≠0 from hL)] at hr;subst hr;refine br (fun h=>?_) (fun h=>?_)
  ·refine aX mo (by decide +kernel) ?_;exact ⟨_,ax,mc (os:=[]) (tk:=[]) hF hL⟩
  ·exfalso;simp at h;exact hL h
 unfold D7 at hr;rw [if_neg (show ¬ (latF (Sch.mk ae order types (.mk rh rp)).ae (Sch.mk ae order types (.mk rh rp)).order).1≠0 from hL)] at hF hr;obtain ⟨d,hd,rfl⟩:=hr;have hL0:(latF ae order).1=0:=by simpa using hL
 obtain ⟨az,js,hX,rfl⟩:=hLx d hL0 hd;generalize NL:dD ⟨ae,order,types,.mk rh rp⟩ az js=X at hX;refine br (fun h=>?_) (fun _=>?_)
 ·exfalso;simp at h;exact hL h
 refine dy.Xj 0 4 rfl rfl rfl rfl (dy.Xj 1 3 rfl rfl rfl rfl ?_);refine iu 2 0 ZT rfl rfl rfl aL aL (sg (gg X.af (cr X.af X.az) X.rows X.js)) (fun r fZ bR hΦ h1 h2=>?_);obtain ⟨rfl,H0⟩:=hΦ;have h2:=List.eq_nil_of_length_eq_zero h2;subst h2;by_cases Ek:(dC ⟨ae,order,types,.mk rh rp⟩).1≠0
 ·rw [if_pos Ek] at hF
  obtain ⟨a,b,rfl⟩:∃ a b,fZ=[a,b]:=by
   match fZ,h1 with
   | [a,b],_=>exact ⟨a,b,rfl⟩
  refine br (fun h=>?_) (fun h=>?_)
  ·refine aX mo (by decide +kernel) ?_;exact ⟨_,ax,mc (os:=[]) (tk:=[]) hF Ek⟩
  ·exfalso;simp at h;exact Ek h
 rw [if_neg Ek] at hF;have Xr:(dC ⟨ae,order,types,.mk rh rp⟩).1=0:=by simpa using Ek
 have L6:=SM Xr;obtain ⟨jV,hT,jN,rfl⟩:=H0 Xr;refine br (fun h=>?_) (fun _=>?_)
 ·exfalso;simp at h;exact Ek h
 refine iu 2 0 Va rfl rfl rfl aL aL (Xp (gg X.af (cr X.af X.az) X.rows X.js) jV) (fun r fZ bR hΦ h1 h2=>?_);obtain ⟨rfl,rfl⟩:=hΦ;have h2:=List.eq_nil_of_length_eq_zero h2;subst h2;by_cases hR:(eaR (.mk rh rp) types 0).1.1≠0
 ·rw [if_pos (show (eaR (Sch.mk ae order types (.mk rh rp)).root (Sch.mk ae order types (.mk rh rp)).types 0).1.1≠0 from hR)] at hF;refine br (fun h=>?_) (fun h=>?_)
  ·refine aX mo (by decide +kernel) ?_;exact ⟨_,ax,mc (os:=[]) (tk:=[]) hF hR⟩
  ·exfalso;simp at h;exact hR h
 rw [if_neg (show ¬ (eaR (Sch.mk ae order types (.mk rh rp)).root (Sch.mk ae order types (.mk rh rp)).types 0).1.1≠0 from hR)] at hF;have hR0:(eaR (.mk rh rp) types 0).1.1=0:=by simpa using hR
 refine br (fun h=>?_) (fun _=>?_)
 ·exfalso;simp at h;exact hR h
 have hea:=Xq X hX jV hT (by have:types.length<=64:=L6;have:jV.length<=types.length:=jN;omega) (eaR (.mk rh rp) types 0).2;have SN:∀ t,knT X (tL ⟨ae,order,types,.mk rh rp⟩) t=jH ⟨ae,order,types,.mk rh rp⟩ t:=fun t=>by rw [<- NL];exact SL _ _ _ t
 have SO:eaL (knT X (tL ⟨ae,order,types,.mk rh rp⟩)) (knT X (tL ⟨ae,order,types,.mk rh rp⟩) (.mk rh rp)) types=eaL (jH ⟨ae,order,types,.mk rh rp⟩) (jH ⟨ae,order,types,.mk rh rp⟩ (.mk rh rp)) types:=by
  rw [show knT X (tL ⟨ae,order,types,.mk rh rp⟩)=jH ⟨ae,order,types,.mk rh rp⟩ from funext SN]
 refine GG Va hea ax rfl rfl ?_;by_cases hK:(eaL (jH ⟨ae,order,types,.mk rh rp⟩) (jH ⟨ae,order,types,.mk rh rp⟩ (.mk rh rp)) types).1≠0
 ·rw [if_pos (show (eaL (jH ⟨ae,order,types,.mk rh rp⟩) (jH ⟨ae,order,types,.mk rh rp⟩ (Sch.mk ae order types (.mk rh rp)).root) (Sch.mk ae order types (.mk rh rp)).types).1≠0 from hK)] at hF;refine br (fun h=>?_) (fun h=>?_)
  ·refine aX mo (by decide +kernel) ?_;refine ⟨.tup [.v (.pointer none),(eaL (knT X (tL ⟨ae,order,types,.mk rh rp⟩)) (knT X (tL ⟨ae,order,types,.mk rh rp⟩) (.mk rh rp)) types).d],ax,?_⟩;rw [SO];exact mc (os:=[]) (tk:=[]) hF hK
  ·exfalso;simp only [SO] at h;simp at h;exact hK h
 rw [if_neg (show ¬ (eaL (jH ⟨ae,order,types,.mk rh rp⟩) (jH ⟨ae,order,types,.mk rh rp⟩ (Sch.mk ae order types (.mk rh rp)).root) (Sch.mk ae order types (.mk rh rp)).types).1≠0 from hK)] at hF;have Xs:(eaL (jH ⟨ae,order,types,.mk rh rp⟩) (jH ⟨ae,order,types,.mk rh rp⟩ (.mk rh rp)) types).1=0:=by simpa using hK
 refine br (fun h=>?_) (fun _=>?_)
 ·exfalso;have h:(!decide ((eaL (knT X (tL ⟨ae,order,types,.mk rh rp⟩)) (knT X (tL ⟨ae,order,types,.mk rh rp⟩) (.mk rh rp)) types).1=0))=true:=h;rw [SO,Xs] at h;simp at h
 have nC:wdsWt ae + prsWt order + nmsWt types + (Ty.mk rh rp).wt<=1099511627776:=hw;have hnmw:nmsWt types<=1099511627776:=by omega
 obtain ⟨QL,fY⟩:=L0 Xs;have hkr':(knT X (tL ⟨ae,order,types,.mk rh rp⟩) (.mk rh rp)).1=0:=by rw [SN];exact QL
 have Xt:∀ x∈types,(knT X (tL ⟨ae,order,types,.mk rh rp⟩) x.2).1=0:=fun x hx=>by rw [SN];exact fY x hx
 have Xu:∀ x∈types,ss ⟨ae,order,types,.mk rh rp⟩ x.2=true:=fun x hx=>zf (Xt x hx);have O3:jV.length<=1099511627776:=by have:types.length<=64:=L6;have:jV.length<=types.length:=jN;omega
 refine GG ZU (QK X.pd jV X.pd (.v (.slice none 0 0)) (.v (.int .i64 0)) (.v (.slice none 0 0)) (eaR (.mk rh rp) types 0).2 hT O3 L6 Xu) ax rfl rfl ?_;by_cases hO:(loopF ⟨ae,order,types,.mk rh rp⟩).1≠0
 ·refine br (fun h=>?_) (fun h=>?_)
  ·refine aX mo (by decide +kernel) ?_;exact ⟨_,ax,mc (os:=[]) (tk:=[]) hF hO⟩
  ·exfalso;simp at h;exact hO h
 have hO0:(loopF ⟨ae,order,types,.mk rh rp⟩).1=0:=by simpa using hO
 have hF0:(jU ⟨ae,order,types,.mk rh rp⟩).1=0:=by rw [hF];exact hO0
 refine br (fun h=>?_) (fun _=>?_)
 ·exfalso;simp at h;exact hO h
 refine iu 2 0 ZV rfl rfl rfl aL aL (L5 (gg X.af (cr X.af X.az) X.rows X.js) jV (eaR (.mk rh rp) types 0).2 hT O3 L6 Xu hnmw (BU hO0)) (fun r fZ bR hΦ h1 h2=>?_);subst hΦ;have h2:=List.eq_nil_of_length_eq_zero h2;subst h2;clear sg Xp Xq QK L5 hea Ou;have hN:(dNms types).length=types.length:=dm types;obtain ⟨JG,Ba,hcm,Xv⟩:=L3 (Int.le_refl 0) hR0;generalize (eaR (.mk rh rp) types 0).2=m at hcm Xv ⊢
 refine aq (fun j st=>∃ (e n:Nat) (base:List DV) (N:List Nd),st=L4 ⟨ae,order,types,.mk rh rp⟩ jV (gg X.af (cr X.af X.az) X.rows X.js) m (loopF ⟨ae,order,types,.mk rh rp⟩).1 (loopF ⟨ae,order,types,.mk rh rp⟩).2 n base e/\e<=types.length/\n=N.length/\base=(cK N).flatten/\N ++ ndsAll (gH ⟨ae,order,types,.mk rh rp⟩) ⟨ae,order,types,.mk rh rp⟩ (types.drop e) n=pj ⟨ae,order,types,.mk rh rp⟩/\j=types.length - e) types.length
  (L4 ⟨ae,order,types,.mk rh rp⟩ jV (gg X.af (cr X.af X.az) X.rows X.js) m (loopF ⟨ae,order,types,.mk rh rp⟩).1 (loopF ⟨ae,order,types,.mk rh rp⟩).2 0 [] 0) (dO 5 ⟨0,125,7,some []⟩ rfl rfl rfl (by repeat' (first | exact rfl | exact ah rfl | exact bm (Nat.le_refl _) rfl | exact bm (Nat.le_refl _) rfl | refine ⟨_,_,rfl,?_,?_⟩)) rfl rfl Ah) ⟨0,0,[],[],rfl,by omega,rfl,rfl,rfl,by omega⟩ ?_
 rintro j st ⟨e,n,base,N,rfl,he,hn,NH,T8,rfl⟩;have hl64':types.length<=64:=L6;have Er:X.lev=gH ⟨ae,order,types,.mk rh rp⟩:=by rw [<- NL];all_goals rfl
 have htot:(pj ⟨ae,order,types,.mk rh rp⟩).length + (Ty.mk rh rp).nn<=512:=by
  have h1:=uM types;have h2:=(Ty.mk rh rp).fo;have h3:(pj ⟨ae,order,types,.mk rh rp⟩).length=(types.map fun x=>x.2.nn).sum:=uL _ _ _ _;omega
 have hbl:base.length=n * 7:=by rw [NH,hn,xR]
 have AX:n + (ndsAll (gH ⟨ae,order,types,.mk rh rp⟩) ⟨ae,order,types,.mk rh rp⟩ (types.drop e) n).length=(pj ⟨ae,order,types,.mk rh rp⟩).length:=by rw [<- T8,List.length_append,hn]
 refine br (fun hL=>?_) (fun hL=>?_)
 ·have al:e < types.length:=by have:=hL;simp [hN] at this;exact this
  obtain ⟨x,hx⟩:∃ x,types[e]? = some x:=⟨_,gE al⟩;have T9:=mG hx;rw [drop_cons hx,ndsAll] at T8 AX;rw [List.length_append] at AX;have gj:=jf (gH ⟨ae,order,types,.mk rh rp⟩) ⟨ae,order,types,.mk rh rp⟩ x.2 n;have Iq:=gW X hX jV m hT O3 x.2 (bS x.2 (.inr ⟨x,T9,rfl⟩)) (Xt x T9) n base (by omega) hbl;rw [Er] at Iq;obtain ⟨xw,⟨xh,xp⟩⟩:=x;refine ⟨_,⟨by omega,dNms_get hx⟩,?_⟩;refine iu 2 1 Om rfl rfl rfl aL aL Iq (fun r fZ bR hΦ h1 h2=>?_);obtain ⟨rfl,rfl,rfl⟩:=hΦ;refine ⟨L4 ⟨ae,order,types,.mk rh rp⟩ jV (gg X.af (cr X.af X.az) X.rows X.js) m (loopF ⟨ae,order,types,.mk rh rp⟩).1 (loopF ⟨ae,order,types,.mk rh rp⟩).2 (n + (ndsT (gH ⟨ae,order,types,.mk rh rp⟩) ⟨ae,order,types,.mk rh rp⟩ (.mk xh xp) n).length) (base ++ (cK (ndsT (gH ⟨ae,order,types,.mk rh rp⟩) ⟨ae,order,types,.mk rh rp⟩ (.mk xh xp) n)).flatten) (e + 1),(ay 5 rfl (C6 al) rfl rfl rfl (wNB al)),types.length - (e + 1),by omega,e + 1,_,_,N ++ ndsT (gH ⟨ae,order,types,.mk rh rp⟩) ⟨ae,order,types,.mk rh rp⟩ (.mk xh xp) n,rfl,by omega,by rw [List.length_append,hn],by rw [NH];simp [cK],?_,rfl⟩;rw [List.append_assoc,gj];exact T8
 have aN:e=types.length:=by have:=hL;simp [hN] at this;omega
 subst aN;rw [List.drop_length,ndsAll,List.append_nil] at T8;rw [List.drop_length,ndsAll,List.length_nil,Nat.add_zero] at AX;have Ym:=gW X hX jV m hT O3 (.mk rh rp) (by omega) hkr' n base (by omega) hbl;rw [Er] at Ym;intro E a w hr;have kr:=lH hr;obtain ⟨b0,ty0,Dk,fF,hw0,J2⟩:=kr.env.dW 0 _ rfl;obtain ⟨b1,ty1,arr1,gP,hw1,HK⟩:=kr.env.dW 1 _ rfl;obtain ⟨v13,hv13,Xw⟩:=RvL.get (i:=13) (d:=.loc 1 0) J2.1 rfl
 have Xx:v13 = .pointer (some ⟨b1,0,none⟩):=by
  unfold Rv at Xw;obtain ⟨b,hb,rfl⟩:=Xw;rw [gP] at hb;simp only [oI] at hb;rw [hb]
 subst Xx
 have lK:w.drew.cell? ⟨b0,13,none⟩=some (.pointer (some ⟨b1,0,none⟩)):=by
  rw [bY hw0];simpa using hv13
 have RJ:=OU kr.env [0,1,2,3];generalize vW:maskL [0,1,2,3] 0 _=bxm at RJ
 have hbmi:∀ (i:Nat) cs,bxm[i]? = some cs->cs ≠ []->2<=i:=fun i cs hi aR=>by
  rw [<- vW] at hi
  match i,hi with
  | 0,hi=>exact (aR (by simpa [maskL] using hi.symm)).elim
  | 1,hi=>exact (aR (by simpa [maskL] using hi.symm)).elim
  | i + 2,_=>omega
 refine jO (C:=fun w'=>CC E bxm w.drew w' /\ w'.cell? ⟨b0,13,none⟩=some (.pointer (some ⟨b1,0,none⟩))) (W:=fun i=>Nat.beq i 10) (Q:=fun a w=>kq _ _ .normal a w) mo (by decide +kernel) (fun _ _ h=>h) ⟨⟨fun _ _ _ _ _ _=>rfl,kr.env.sub⟩,lK⟩ ?_;show Go.Proofs.YtfifjddnnmfeoaaGreat.Dv.runT _ _ _ _ _ [0,1,2,3,4,5,6,7,8,9,10] _ _;refine kZ kr rfl rfl rfl rfl rfl rfl (fun a0 h0=>?_);refine kZ h0 rfl rfl rfl rfl rfl rfl (fun a1 h1=>?_);refine kZ h1 rfl rfl rfl rfl rfl rfl (fun a2 h2=>?_);refine OW h2 rfl gP rfl rfl fF rfl rfl (fun w' h=>h.2) ⟨⟨fun _ _ _ _ _ _=>rfl,kr.env.sub⟩,lK⟩ rfl rfl (fun a3 h3=>?_);refine kZ h3 rfl rfl rfl rfl rfl rfl (fun a4 h4=>?_);refine kZ h4 rfl rfl rfl rfl rfl rfl (fun a5 h5=>?_);refine OV h5 rfl (bx:=bxm) (OT h5 RJ (fun w' h=>h.1)) ⟨⟨fun _ _ _ _ _ _=>rfl,kr.env.sub⟩,lK⟩ rfl rfl (by rw [<- vW];rfl) rfl (fun a6 h6=>?_);refine OX h6 rfl rfl rfl rfl rfl rfl Om 2 1 rfl rfl aL aL Ym rfl rfl ?_;intro v r fZ bR E' w' hΦ _ _ cj Gm hx hβ hh;obtain ⟨rfl,rfl,rfl⟩:=hΦ;refine ⟨fun _ hC=>⟨⟨fun i b cs hb cm aR=>?_,fun x v YG=>cj.env.sub x v (hx.c x v YG)⟩,?_⟩,?_⟩
 ·exact hh i b (hbmi i cs cm aR) hb
 ·obtain ⟨b0',ty0',arr0',SP,hw0',hc0'⟩:=cj.env.dW 0 _ rfl;rw [hβ,fF] at SP;simp only [oI] at SP;subst SP;obtain ⟨u13,hu13,Xy⟩:=RvL.get (i:=13) (d:=.loc 1 0) hc0'.1 rfl;unfold Rv at Xy;obtain ⟨b,hb,rfl⟩:=Xy;rw [hβ,gP] at hb;simp only [oI] at hb;subst hb;rw [bY hw0'];simpa using hu13
 have h7:=aT (dst:=some 77) cj rfl _ v Gm;have YQ:(pj ⟨ae,order,types,.mk rh rp⟩).length=n:=by rw [<- T8,hn]
 have qa:base ++ (cK (ndsT (gH ⟨ae,order,types,.mk rh rp⟩) ⟨ae,order,types,.mk rh rp⟩ (.mk rh rp) n)).flatten=(cK (aQ ⟨ae,order,types,.mk rh rp⟩)).flatten:=by
  unfold aQ;rw [YQ,<- T8,NH];simp [cK]
 have Xz:(cK (aQ ⟨ae,order,types,.mk rh rp⟩)).length=n + (ndsT (gH ⟨ae,order,types,.mk rh rp⟩) ⟨ae,order,types,.mk rh rp⟩ (.mk rh rp) n).length:=by
  unfold aQ;rw [YQ];simp [cK,YQ]
 obtain ⟨E3,h8⟩:=OY h7 1 1 0 (ns:=cK (aQ ⟨ae,order,types,.mk rh rp⟩)) (congrArg (fun b=>some (El (n + (ndsT (gH ⟨ae,order,types,.mk rh rp⟩) ⟨ae,order,types,.mk rh rp⟩ (.mk rh rp) n).length) b)) qa) (fun x hx=>by
  simp only [cK,List.mem_map] at hx;obtain ⟨y,_,rfl⟩:=hx
  rfl) Xz rfl rfl List.length_replicate
 refine kZ h8 rfl rfl rfl rfl rfl rfl (fun a8 h9=>?_);refine kZ h9 rfl rfl rfl rfl rfl rfl (fun a9 oB=>?_);refine Iw oB rfl rfl rfl rfl rfl rfl ?_;refine ⟨.tup [.pt [X.pd,.sl 7 (cK (aQ ⟨ae,order,types,.mk rh rp⟩)) none,.v (.int .i64 (mb ⟨ae,order,types,.mk rh rp⟩ (.mk rh rp) n)),.pt (cr (tL ⟨ae,order,types,.mk rh rp⟩) jV) 0,.sl 1 (dInts (namedL ⟨ae,order,types,.mk rh rp⟩)) none] 0,Ft.d (0,0)],ax,O2 (os:=[]) (tk:=[]) hF0 ⟨az,jV,js,by rw [NL];exact hX,hT,jN,?_⟩⟩;rw [QJ,NL,bL,YQ]
theorem O4 (es:List (List DV)) (hl:es.length<=1099511627776):Ev Tryz.prog 111 [.sl 1 es none] [] [] (fun r _ _=>r = .sl 1 es none∨(es=[]/\r = .v (.slice none 0 0))):=by
 refine ev_go (P:=Tryz.prog) tt tt_ok 5000 8 [.tmp 2] Tryz.func111 rfl Tryz.ntmps111 rfl (nL rfl) (fun E9 w9 hn9 hm9=>?_);refine LX ⟨_,rfl⟩ rfl rfl rfl rfl (fun b hb=>?_);refine br (fun h=>?_) (fun h=>?_)
 ·have h:b=true:=h;have he:es=[]:=Classical.byContradiction fun hn=>by rw [hb hn] at h;cases h
  subst he;exact Or.inr ⟨rfl,rfl⟩
 ·refine BS rfl rfl rfl rfl (hk:=?_);refine ⟨rfl,⟨by simp [maxLen];omega,by simp;omega⟩,?_⟩;exact ⟨_,ax,Or.inl rfl⟩
theorem O5 (es:List (List DV)) (hl:es.length<=1099511627776):Ev Tryz.prog 112 [.sl 10 es none] [] [] (fun r _ _=>r = .sl 10 es none∨(es=[]/\r = .v (.slice none 0 0))):=by
 refine ev_go (P:=Tryz.prog) tt tt_ok 5000 8 [.tmp 2] Tryz.func112 rfl Tryz.ntmps112 rfl (nL rfl) (fun E9 w9 hn9 hm9=>?_);refine LX ⟨_,rfl⟩ rfl rfl rfl rfl (fun b hb=>?_);refine br (fun h=>?_) (fun h=>?_)
 ·have h:b=true:=h;have he:es=[]:=Classical.byContradiction fun hn=>by rw [hb hn] at h;cases h
  subst he;exact Or.inr ⟨rfl,rfl⟩
 ·refine BS rfl rfl rfl rfl (hk:=?_);refine ⟨rfl,⟨by simp [maxLen];omega,by simp;omega⟩,?_⟩;exact ⟨_,ax,Or.inl rfl⟩
def XA (lc:List DV) (Al:List Nd) (root:Int) (L:List ByteArray) (az:List Nat) (named:List Nat):DV:=.pt [.pt lc 0,.sl 7 (cK Al) none,.v (.int .i64 root),.pt (cr L az) 0,.sl 1 (dInts named) none] 0
theorem kg (l:List Nd):(cK l).length=l.length:=by simp [cK]
theorem fV {l:List Nd} {i:Nat} {n:Nd} (h:l[i]? = some n):(cK l)[i]? = some (jG n):=by simp [cK,h]
section
variable (lc:List DV) (Al:List Nd) (root:Int) (L:List ByteArray) (az:List Nat) (named:List Nat)
theorem qL:EvP Tryz.prog 110 [XA lc Al root L az named] (.v (.int .i64 Al.length)):=by
 refine ev_go (P:=Tryz.prog) tt tt_ok 5000 10 [.tmp 2] Tryz.func110 rfl Tryz.ntmps110 rfl (nL rfl) (fun E9 w9 hn9 hm9=>?_);refine (congrArg (fun z=>DV.v (.int .i64 z)) ?_:_=_);rw [kg]
theorem Et:EvP Tryz.prog 19 [XA lc Al root L az named] (.v (.int .i64 root)):=by
 refine ev_go (P:=Tryz.prog) tt tt_ok 5000 9 [.tmp 2] Tryz.func19 rfl Tryz.ntmps19 rfl (nL rfl) (fun E9 w9 hn9 hm9=>?_);exact (rfl:_=_)
theorem Iz:EvP Tryz.prog 38 [XA lc Al root L az named] (.pt lc 0):=by
 refine ev_go (P:=Tryz.prog) tt tt_ok 5000 9 [.tmp 2] Tryz.func38 rfl Tryz.ntmps38 rfl (nL rfl) (fun E9 w9 hn9 hm9=>?_);exact ⟨_,ax,rfl⟩
theorem Eu (i:Nat) (n:Nd) (h:Al[i]? = some n) (hn:n.af.length<=1099511627776) (he:n.au.length<=1099511627776) :
  EvP Tryz.prog 51 [XA lc Al root L az named,.v (.int .i64 i)] (.tup [.agg (jG n),.v (.bool true)]):=by
 have al:=(gS h).1;have hlen:=qL lc Al root L az named;have HK:=O4 (dt n.af) (by rw [bK];exact hn);have lF:=O5 (e9 n.au) (by rw [cy];exact he);refine ev_go (P:=Tryz.prog) tt tt_ok 5000 32 [.cell 4 125,.tmp 5] Tryz.func51 rfl Tryz.ntmps51 rfl (nL rfl) (fun E9 w9 hn9 hm9=>?_);refine call_p PU (hlen) ax rfl ?_;refine br (fun g=>?_) (fun g=>?_)
 ·exfalso;simp [pickB] at g;omega
 refine ⟨_,⟨by omega,fV h⟩,?_⟩;refine aX mo (by decide +kernel) ?_;refine oK Vq rfl HK ax (fun r1 hr1=>?_);rcases hr1 with rfl | ⟨h1,rfl⟩
 ·refine oK PV rfl lF ax (fun r2 ko=>?_);rcases ko with rfl | ⟨h2,rfl⟩
  ·exact ⟨.tup [.agg (jG n),.v (.bool true)],ax,rfl⟩
  ·exact ⟨.tup [.agg (jG n),.v (.bool true)],(by repeat' (first | exact rfl | exact trivial | exact Or.inr (Or.inl ⟨_,rfl⟩) | exact Or.inr ⟨_,rfl⟩ | exact Or.inl ⟨rfl,rfl⟩ | exact Or.inl rfl | refine Or.inr ⟨_,_,rfl,Nat.zero_le _,rfl,?_⟩ | refine ⟨_,_,rfl,?_,?_⟩ | refine ⟨_,rfl,?_⟩ | exact Or.inl ⟨h2,rfl⟩ | refine Or.inr (Or.inr (Or.inr ⟨_,_,rfl,?_⟩)) | exact Or.inl rfl | refine Or.inr ?_)),rfl⟩
 ·refine oK PV rfl lF ax (fun r2 ko=>?_);rcases ko with rfl | ⟨h2,rfl⟩
  ·exact ⟨.tup [.agg (jG n),.v (.bool true)],(by repeat' (first | exact rfl | exact trivial | exact Or.inr (Or.inl ⟨_,rfl⟩) | exact Or.inr ⟨_,rfl⟩ | exact Or.inl ⟨rfl,rfl⟩ | exact Or.inl rfl | refine Or.inr ⟨_,_,rfl,Nat.zero_le _,rfl,?_⟩ | refine ⟨_,_,rfl,?_,?_⟩ | refine ⟨_,rfl,?_⟩ | exact Or.inl ⟨h1,rfl⟩ | refine Or.inr (Or.inr (Or.inr ⟨_,_,rfl,?_⟩)) | exact Or.inl rfl | refine Or.inr ?_)),rfl⟩
  ·exact ⟨.tup [.agg (jG n),.v (.bool true)],(by repeat' (first | exact rfl | exact trivial | exact Or.inr (Or.inl ⟨_,rfl⟩) | exact Or.inr ⟨_,rfl⟩ | exact Or.inl ⟨rfl,rfl⟩ | exact Or.inl rfl | refine Or.inr ⟨_,_,rfl,Nat.zero_le _,rfl,?_⟩ | refine ⟨_,_,rfl,?_,?_⟩ | refine ⟨_,rfl,?_⟩ | exact Or.inl ⟨h1,rfl⟩ | exact Or.inl ⟨h2,rfl⟩ | refine Or.inr (Or.inr (Or.inr ⟨_,_,rfl,?_⟩)) | exact Or.inl rfl | refine Or.inr ?_)),rfl⟩
theorem Ew (i:Int) (h:i < 0∨Al.length<=i) :
  EvP Tryz.prog 51 [XA lc Al root L az named,.v (.int .i64 i)] (.tup [.agg [.v (.int .i64 0),.v (.int .i64 0),.v (.int .i64 0),.v (.int .i64 0),.v (.int .i64 0),.v (.slice none 0 0),.v (.slice none 0 0)],.v (.bool false)]):=by
 have hlen:=qL lc Al root L az named;refine ev_go (P:=Tryz.prog) tt tt_ok 5000 32 [.cell 4 125,.tmp 5] Tryz.func51 rfl Tryz.ntmps51 rfl (nL rfl) (fun E9 w9 hn9 hm9=>?_);refine br (fun g=>?_) (fun g=>?_)
 ·refine call_p PU (hlen) ax rfl ?_;refine br (fun g2=>?_) (fun g2=>?_)
  ·exact ⟨_,ax,rfl⟩
  ·exfalso;simp at g;simp [pickB,g] at g2;omega
 ·exact ⟨_,ax,rfl⟩
end
theorem L7:EvP Tryz.prog 38 [.v (.pointer none)] (.v (.pointer none)):=by
 refine ev_go (P:=Tryz.prog) tt tt_ok 5000 9 [.tmp 2] Tryz.func38 rfl Tryz.ntmps38 rfl (nL rfl) (fun E9 w9 hn9 hm9=>?_);exact (rfl:_=_)
abbrev sL (s:Sch) (n d k q:Int) (e:Nat):St:=
 ⟨[(1,⟨[],.loc 0 0⟩),(3,⟨[],.v (.int .i64 n)⟩),(4,⟨[],.v (.int .i64 d)⟩),(5,⟨[],.v (.int .i64 e)⟩)],[ey s],[]⟩
theorem zg (s:Sch) (bS:s.wt<=1099511627776):Ev Tryz.prog 14 [.agg (ey s)] [] [] (fun d _ _=>∃ b:Bool,d = .v (.bool b)):=by
 have h1:=bd s.ae;have h2:=gC s.order;have h3:=iC s.types;simp only [Sch.wt] at bS;have je:=jC s.root.wt s.root (Nat.le_refl _) (by omega);obtain ⟨ae,order,types,⟨h,ps⟩⟩:=s;simp only at h1 h2 h3 bS je;refine ev_go (P:=Tryz.prog) tt tt_ok 5000 60 [.tmp 2] Tryz.func14 rfl Tryz.ntmps14 rfl (nL rfl) (fun E9 w9 hn9 hm9=>?_);refine br (fun _=>?_) (fun _=>?_)
 ·exact ⟨true,rfl⟩
 refine call_p Ol (je) ax rfl ?_;refine aq (fun j st=>∃ (e:Nat) (n d:Int),st=sL ⟨ae,order,types,.mk h ps⟩ n d 0 0 e/\e<=types.length/\j=types.length - e) types.length (sL ⟨ae,order,types,.mk h ps⟩ (Ty.mk h ps).cnt (Ty.mk h ps).deep 0 0 0) (weak_mk ⟨_,rfl⟩ wA rfl rfl rfl wB) ⟨0,_,_,rfl,by omega,by omega⟩ ?_;rintro j st ⟨e,n,d,rfl,he,rfl⟩;refine br (fun hL=>?_) (fun hL=>?_)
 ·have al:e < types.length:=by have:=hL;simp [dm] at this;exact this
  obtain ⟨w,hw⟩:∃ w,types[e]? = some w:=⟨_,gE al⟩;have Ba:=fx (mG hw);have hs:=jC w.2.wt w.2 (Nat.le_refl _) (by omega);obtain ⟨w,u,us⟩:=w;simp only at hs;refine ⟨_,⟨by omega,dNms_get hw⟩,?_⟩;refine call_p Ol (hs) ax rfl ?_;refine br (fun _=>?_) (fun _=>?_)
  ·exact ⟨sL ⟨ae,order,types,.mk h ps⟩ _ _ 0 0 (e + 1),(weak_mk ⟨_,rfl⟩ wA rfl rfl rfl (wNB al)),types.length - (e + 1),by omega,e + 1,_,_,rfl,by omega,rfl⟩
  ·exact ⟨sL ⟨ae,order,types,.mk h ps⟩ _ _ 0 0 (e + 1),(weak_mk ⟨_,rfl⟩ wA rfl rfl rfl (wNB al)),types.length - (e + 1),by omega,e + 1,_,_,rfl,by omega,rfl⟩
 exact ⟨_,rfl⟩
def samePrs:List (Wd × Wd)->List (Wd × Wd)->Bool
 | [],[]=>true
 | x :: r,y :: s=>(decide (x.1.s=y.1.s) && decide (x.2.s=y.2.s)) && samePrs r s
 | _,_=>false
def sameNms:List (Wd × Ty)->List (Wd × Ty)->Bool
 | [],[]=>true
 | x :: r,y :: s=>(decide (x.1.s=y.1.s) && sameTy x.2 y.2) && sameNms r s
 | _,_=>false
def F9 (a b:Sch):Bool:=sameWds a.ae b.ae && samePrs a.order b.order && sameTy a.root b.root && sameNms a.types b.types
end Go.Proofs.YtfifjddnnmfeoaaGreat
set_option maxRecDepth 100000
namespace Go.Proofs.YtfifjddnnmfeoaaGreat
open Go Go.RowKit Dv Tryz
end Go.Proofs.YtfifjddnnmfeoaaGreat
set_option maxRecDepth 100000
namespace Go.Proofs.YtfifjddnnmfeoaaGreat
open Go Go.RowKit Dv Tryz
end Go.Proofs.YtfifjddnnmfeoaaGreat
set_option maxRecDepth 100000
namespace Go.Proofs.YtfifjddnnmfeoaaGreat
open Go Go.RowKit Dv Tryz
end Go.Proofs.YtfifjddnnmfeoaaGreat
set_option maxRecDepth 100000
namespace Go.Proofs.YtfifjddnnmfeoaaGreat
open Go Go.RowKit Dv Tryz
def cB (r:List Bool):List DV:=r.map fun b=>DV.v (.bool b)
def uO (r:List Bool):List (List DV):=r.map fun b=>[DV.v (.bool b)]
def ct (m:List (List Bool)):List (List DV):=m.map fun r=>[DV.sl 1 (uO r) none]
theorem qM (r:List Bool):(cB r).length=r.length:=by simp [cB]
theorem sM (r:List Bool):(uO r).length=r.length:=by simp [uO]
theorem uP (m:List (List Bool)):(ct m).length=m.length:=by simp [ct]
theorem L8 {r:List Bool} {i:Nat} {b:Bool} (h:r[i]? = some b):(cB r)[i]? = some (DV.v (.bool b)):=by simp [cB,h]
theorem zh (r:List Bool) (i:Nat) (b:Bool):(cB r).set i (DV.v (.bool b))=cB (r.set i b):=by simp [cB,List.map_set]
theorem GN {r:List Bool} {i:Nat} {b:Bool} (h:r[i]? = some b):(uO r)[i]? = some [DV.v (.bool b)]:=by simp [uO,h]
theorem L9 {m:List (List Bool)} {i:Nat} {r:List Bool} (h:m[i]? = some r):(ct m)[i]? = some [DV.sl 1 (uO r) none]:=by simp [ct,h]
theorem pk (r:List Bool):(uO r).flatten=cB r:=by
 induction r with
 | nil=>rfl
 | cons b r ih=>simp only [uO,cB,List.map_cons,List.flatten_cons] at ih ⊢;rw [ih];all_goals rfl
theorem IA (n:Nat):(List.replicate n (vL [Value.bool false])).flatten=cB (List.replicate n false):=by
 induction n with
 | zero=>rfl
 | succ n ih=>simp only [List.replicate_succ,List.flatten_cons,ih];rfl
theorem dc {n m:Nat} {tk:List TkE} {l:List DV} {r:List Bool} (h:l=cB r):WeL n m tk l (cB r):=by
 subst h;refine uf _ fun x hx=>?_;obtain ⟨z,_,rfl⟩:=List.mem_map.1 hx;exact ⟨_,rfl⟩
theorem QM {bx:List (List DV)} {N n0 m0 n:Nat} {r:List Bool} (hr:r.length=n) (hN:N<=0) (hb:bx[0]? = some (cB r)):Cc bx N n0 m0 (.sl 1 (uO r) none) (.ms 0 1 0 n n):=by
 simp only [Cc];refine Or.inr (Or.inr (Or.inl ⟨0,0,n,_,by rw [sM,hr],hN,hb,?_,?_,?_⟩))
 ·rw [pk,List.drop_zero,List.take_of_length_le (by rw [qM,sM];omega)]
 ·intro x hx;simp only [uO,List.mem_map] at hx;obtain ⟨_,_,rfl⟩:=hx;rfl
 ·intro x hx;rw [pk] at hx;obtain ⟨_,_,rfl⟩:=List.mem_map.1 hx;exact .inl ⟨_,rfl⟩
def eQ (n:Nat) (l:List (Nat × Nat)):List (List Bool):=(List.range n).map (sq n l)
theorem Ex (n:Nat) (l:List (Nat × Nat)):(eQ n l).length=n:=by simp [eQ]
theorem Ey {n a:Nat} (l:List (Nat × Nat)) (h:a < n):(eQ n l)[a]? = some (sq n l a):=by simp [eQ,List.getElem?_range h]
theorem IB {n:Nat} {l:List (Nat × Nat)} (h:qx n l):eQ n l=cW n (dY n l):=by
 unfold eQ cW;exact List.map_congr_left fun a ha=>OD h (List.mem_range.1 ha)
def fp (l:List (Nat × Nat)) (r:List Bool) (e:Nat):List Bool:=(l.take e).foldl fT r
theorem Ez (l:List (Nat × Nat)) (r:List Bool) (e:Nat):(fp l r e).length=r.length:=nQ (l.take e) r
theorem BV {l:List (Nat × Nat)} {r:List Bool} {e:Nat} {p:Nat × Nat} (h:l[e]? = some p):fp l r (e + 1)=fT (fp l r e) p:=by
 unfold fp;rw [List.take_add_one,h];simp
abbrev SQ (n:Nat) (l:List (Nat × Nat)) (q e:Nat):St:=
 ⟨[(0,⟨[],.v (.int .i64 n)⟩),(1,⟨[],.sl 2 (kQ l) none⟩),(5,⟨[],.sl 1 (ct ((eQ n l).take e)) (some 0)⟩),(6,⟨[],.v (.int .i64 e)⟩)],[],[⟨q,206,1,none⟩]⟩
abbrev Ma (n:Nat) (l:List (Nat × Nat)) (q e:Nat) (r:List Bool) (k:Nat):St:=
 ⟨[(0,⟨[],.v (.int .i64 n)⟩),(1,⟨[],.sl 2 (kQ l) none⟩),(5,⟨[],.sl 1 (ct ((eQ n l).take e)) (some 0)⟩),(6,⟨[],.v (.int .i64 e)⟩),(7,⟨[],.ms 0 1 0 n n⟩),(8,⟨[],.v (.int .i64 k)⟩)],[cB r],[⟨q,206,1,none⟩]⟩
abbrev GO (n:Nat) (l:List (Nat × Nat)) (q e:Nat) (r:List Bool) (k i:Nat):St:=
 ⟨[(0,⟨[],.v (.int .i64 n)⟩),(1,⟨[],.sl 2 (kQ l) none⟩),(5,⟨[],.sl 1 (ct ((eQ n l).take e)) (some 0)⟩),(6,⟨[],.v (.int .i64 e)⟩),(7,⟨[],.ms 0 1 0 n n⟩),(8,⟨[],.v (.int .i64 k)⟩),(9,⟨[],.v (.int .i64 i)⟩)],[cB r],[⟨q,206,1,none⟩]⟩
abbrev XB (n:Nat) (l:List (Nat × Nat)) (q e:Nat) (r:List Bool):St:=
 ⟨[(0,⟨[],.v (.int .i64 n)⟩),(1,⟨[],.sl 2 (kQ l) none⟩),(6,⟨[],.v (.int .i64 e)⟩),(46,⟨[],.sl 1 (ct ((eQ n l).take e)) (some 0)⟩),(47,⟨[],.sl 1 (uO r) none⟩)],[],[⟨q,206,1,none⟩]⟩
theorem EA (n:Nat) (hn:n<=64) (l:List (Nat × Nat)) (hP:qx n l) (hb:l.length<=1099511627776) :
  EvP Tryz.prog 131 [.v (.int .i64 n),.sl 2 (kQ l) none] (.sl 1 (ct (eQ n l)) none):=by
 have AX:=fQ l;have XC:=Ex n l;refine ev_go (P:=Tryz.prog) tt tt_ok 5000 51 [.tmp 4] Tryz.func131 rfl Tryz.ntmps131 rfl (nL rfl) (fun E9 w9 hn9 hm9=>?_);refine aq (fun j st=>∃ e:Nat,st=SQ n l e e/\e<=n/\j=n - e) n (SQ n l 0 0) (eV ⟨0,206,1,none⟩ rfl ⟨_,rfl⟩ rfl wA rfl rfl Ah) ⟨0,rfl,by omega,by omega⟩ ?_;rintro j st ⟨e,rfl,he,rfl⟩;refine br (fun hL=>?_) (fun hL=>?_)
 ·have al:e < n:=by have:=hL;simp at this;exact this
  have hr0l:((List.replicate n false).set e true).length=n:=by simp
  refine ⟨⟨rfl,by omega,by omega,by omega⟩,?_⟩;refine ⟨⟨by omega,by omega⟩,?_⟩;refine ⟨by rw [IA,qM,List.length_replicate];omega,?_⟩
  have fF:((List.replicate (n:Int).toNat (vL [Value.bool false])).flatten).set (0 + (e:Int).toNat * 1) (DV.v (.bool true))=cB (cd l ((List.replicate n false).set e true) 0):=by
   rw [IA,show 0 + (e:Int).toNat * 1=e by omega,show (n:Int).toNat=n by omega,zh];rfl
  refine aq (fun j st=>∃ k:Nat,st=Ma n l e e (cd l ((List.replicate n false).set e true) k) k/\k<=n/\j=n - k) n (Ma n l e e (cd l ((List.replicate n false).set e true) 0) 0) (ay 1 rfl (by repeat' (first | exact rfl | exact ah rfl | exact dc fF | refine ⟨_,_,rfl,?_,?_⟩)) rfl rfl rfl (by repeat' (first | exact trivial | exact ah rfl | exact dc fF | refine ⟨⟨_,rfl,?_⟩,?_⟩))) ⟨0,rfl,by omega,by omega⟩ ?_;rintro j st ⟨k,rfl,hk,rfl⟩;have fH:=eH l ((List.replicate n false).set e true) k;have yr:=dS l ((List.replicate n false).set e true) k;refine br (fun jb=>?_) (fun jb=>?_)
  ·have fY:k < n:=by have:=jb;simp at this;exact this
   generalize cd l ((List.replicate n false).set e true) k=r at fH yr ⊢;rw [hr0l] at fH;refine aq (fun j st=>∃ i:Nat,st=GO n l e e (fp l r i) k i/\i<=l.length/\j=l.length - i) l.length (GO n l e e (fp l r 0) k 0) (ay 1 rfl (by repeat' (first | exact rfl | exact ah rfl | exact dc rfl | refine ⟨_,_,rfl,?_,?_⟩)) rfl rfl rfl (by repeat' (first | exact trivial | exact ah rfl | exact dc rfl | refine ⟨⟨_,rfl,?_⟩,?_⟩))) ⟨0,rfl,by omega,by omega⟩ ?_;rintro j st ⟨i,rfl,hi,rfl⟩;have ll:=Ez l r i;refine br (fun hL3=>?_) (fun hL3=>?_)
   ·have XD:i < l.length:=by have:=hL3;simp [AX] at this;exact this
    obtain ⟨p,hp⟩:∃ p,l[i]? = some p:=⟨_,gE XD⟩;obtain ⟨NJ,PM⟩:=hP p (mG hp);have Ua:=BV (r:=r) hp;obtain ⟨b,gP⟩:∃ b,(fp l r i)[p.1]? = some b:=⟨_,gE (by omega)⟩;have HF:(fp l r i).getD p.1 false=b:=by simp [List.getD_eq_getElem?_getD,gP]
    rw [fT,HF] at Ua;refine ⟨_,⟨by omega,ub hp⟩,?_⟩;refine ⟨⟨by decide,by decide⟩,?_⟩;refine ⟨⟨by omega,by omega⟩,?_⟩;refine ⟨_,(show (cB (fp l r i))[0 + (p.1:Int).toNat * 1]? = some (.v (.bool b)) by rw [show 0 + (p.1:Int).toNat * 1=p.1 by omega];exact L8 gP),?_⟩;refine br (fun g=>?_) (fun g=>?_)
    ·have g:b=true:=g;rw [if_pos g] at Ua;refine ⟨_,⟨by omega,ub hp⟩,?_⟩;refine ⟨⟨by decide,by decide⟩,?_⟩;refine ⟨⟨by omega,by omega⟩,?_⟩;refine ⟨by rw [qM];omega,?_⟩
     have fj:(cB (fp l r i)).set (0 + (p.2:Int).toNat * 1) (DV.v (.bool true))=cB (fp l r (i + 1)):=by
      rw [show 0 + (p.2:Int).toNat * 1=p.2 by omega,zh,Ua]
     exact ⟨GO n l e e (fp l r (i + 1)) k (i + 1),(ay 1 rfl (by repeat' (first | exact rfl | exact ah rfl | exact dc fj | exact ak (cA XD (by omega)) | refine ⟨_,_,rfl,?_,?_⟩)) rfl rfl rfl (by repeat' (first | exact trivial | exact ah rfl | exact dc fj | exact ak (cA XD (by omega)) | refine ⟨⟨_,rfl,?_⟩,?_⟩))),l.length - (i + 1),by omega,i + 1,rfl,by omega,rfl⟩
    ·have g:¬ b=true:=by rw [show b=false from g];decide
     rw [if_neg g] at Ua;exact ⟨GO n l e e (fp l r (i + 1)) k (i + 1),(ay 1 rfl (by repeat' (first | exact rfl | exact ah rfl | exact dc (by rw [Ua]) | exact ak (cA XD (by omega)) | refine ⟨_,_,rfl,?_,?_⟩)) rfl rfl rfl (by repeat' (first | exact trivial | exact ah rfl | exact dc (by rw [Ua]) | exact ak (cA XD (by omega)) | refine ⟨⟨_,rfl,?_⟩,?_⟩))),l.length - (i + 1),by omega,i + 1,rfl,by omega,rfl⟩
   ·have aN:i=l.length:=by have:=hL3;simp [AX] at this;omega
    subst aN;have qN:fp l r l.length=cd l ((List.replicate n false).set e true) (k + 1):=by rw [yr,fp,List.take_length];all_goals rfl
    exact ⟨Ma n l e e (cd l ((List.replicate n false).set e true) (k + 1)) (k + 1),(ay 1 rfl (by repeat' (first | exact rfl | exact ah rfl | exact dc (by rw [qN]) | exact ak (cA fY (by omega)) | refine ⟨_,_,rfl,?_,?_⟩)) rfl rfl rfl (by repeat' (first | exact trivial | exact ah rfl | exact dc (by rw [qN]) | exact ak (cA fY (by omega)) | refine ⟨⟨_,rfl,?_⟩,?_⟩))),n - (k + 1),by omega,k + 1,rfl,by omega,rfl⟩
  ·have aN:k=n:=by have:=jb;simp at this;omega
   subst aN;have qa:cd l ((List.replicate k false).set e true) k=sq k l e:=rfl;rw [qa];have hrw:=oZ k l e;refine Ht.wk (.Ga (st':=XB k l e e (sq k l e)) 0 rfl rfl rfl rfl ?_) rfl rfl ?_
   ·refine ⟨⟨_,rfl,?_⟩,⟨_,rfl,?_⟩,⟨_,rfl,?_⟩,⟨_,rfl,?_⟩,⟨_,rfl,QM hrw (by omega) rfl⟩,trivial⟩
    ·simp only [Cc]
    ·simp only [Cc];exact Or.inr (Or.inl ⟨none,rfl⟩)
    ·simp only [Cc]
    ·simp only [Cc];exact ⟨Nat.zero_lt_one,trivial⟩
   ·have dI:(ct ((eQ k l).take e)).length=e:=by rw [uP,List.length_take,XC];omega
    have gR:ct ((eQ k l).take e) ++ [[DV.sl 1 (uO (sq k l e)) none]]=ct ((eQ k l).take (e + 1)):=by rw [List.take_add_one,Ey l al];simp [ct]
    refine ⟨dI,⟨by rw [dI];simp [maxLen];omega,by rw [dI];simp;omega⟩,?_⟩;exact ⟨SQ k l (e + 1) (e + 1),(weak_mk ⟨_,rfl⟩ wA rfl rfl rfl (yF al gR)),k - (e + 1),by omega,e + 1,rfl,by omega,rfl⟩
 ·have aN:e=n:=by have:=hL;simp at this;omega
  subst aN;have ht:(eQ e l).take e=eQ e l:=by rw [List.take_of_length_le (by rw [XC];omega)]
  rw [ht];exact ⟨_,ax,rfl⟩
theorem cg {n m:Nat} {bR:List TkE} {x y:Bool} (h:x=y):We n m bR (.v (.bool x)) (.v (.bool y)):=.inl ⟨by rw [h],rfl⟩
theorem mf {l:List Wd} {j:Nat} {w:Wd} (h:l[j]? = some w):(av l)[j]? = some w.s:=by simp [av,h]
theorem GP {L:List ByteArray} {s:ByteArray} (h:∀ j,j < L.length->L[j]? ≠ some s):cx L s=none:=qz fun j hj=>by
 exact h j (gS hj).1 hj
abbrev Mb (l:List Wd) (s:ByteArray) (e:Nat):St:=
 ⟨[(0,⟨[],.sl 2 (bn l) none⟩),(1,⟨[],.v (.string s)⟩),(5,⟨[],.v (.int .i64 e)⟩)],[],[]⟩
theorem eI (l:List Wd) (s:ByteArray) (hs:wdsWt l<=1099511627776) :
  EvP Tryz.prog 193 [.sl 2 (bn l) none,.v (.string s)] (.v (.int .i64 (oz (cx (av l) s)))):=by
 have ll:=bd l;have gj:=cS l;refine ev_go (P:=Tryz.prog) tt tt_ok 5000 20 [.tmp 4] Tryz.func193 rfl Tryz.ntmps193 rfl (nL rfl) (fun E9 w9 hn9 hm9=>?_);refine aq (fun j st=>∃ e:Nat,st=Mb l s e/\e<=l.length/\(∀ j,j < e->(av l)[j]? ≠ some s)/\j=l.length - e) l.length (Mb l s 0) (weak_mk ⟨_,rfl⟩ wA rfl rfl rfl wB) ⟨0,rfl,by omega,fun _ h=>by omega,by omega⟩ ?_;rintro j st ⟨e,rfl,he,eu,rfl⟩;refine br (fun hL=>?_) (fun hL=>?_)
 ·have al:e < l.length:=by simpa [aw] using hL
  obtain ⟨w,hw⟩:∃ w,l[e]? = some w:=⟨_,gE al⟩;refine ⟨iV w,⟨by omega,aK hw⟩,?_⟩;refine br (fun hq=>?_) (fun hq=>?_)
  ·have hq:w.s=s:=by simpa using hq
   rw [y9 (p:=e) (by rw [mf hw,hq]) (fun j hj=>Nat.le_of_not_lt fun hl=>eu j hl hj)];exact (rfl:_=_)
  ·have hq:¬ w.s=s:=by simpa using hq
   refine ⟨Mb l s (e + 1),(weak_mk ⟨_,rfl⟩ wA rfl rfl rfl (wNB al)),l.length - (e + 1),by omega,e + 1,rfl,by omega,fun j hj=>?_,rfl⟩;rcases Nat.lt_succ_iff_lt_or_eq.1 hj with hj | rfl
   ·exact eu j hj
   ·rw [mf hw];simpa using hq
 ·have aN:e=l.length:=by have:=hL;simp [aw] at this;omega
  rw [GP (fun j hj=>eu j (by omega))];exact (rfl:_=_)
theorem eS {o:Option Nat}:decide (oz o < 0)=true↔o=none:=by
 cases o with
 | none=>simp [oz]
 | some k=>
  refine ⟨fun h=>?_,fun h=>by cases h⟩;have:=of_decide_eq_true h;simp only [oz] at this;omega
theorem BW {L:List ByteArray}:∀ {o:List (Wd × Wd)},(numF L o).1=0->∀ x∈o,(∃ a,cx L x.1.s=some a)/\∃ b,cx L x.2.s=some b
 | [],_,x,hx=>by cases hx
 | p :: r,h,x,hx=>by
  rw [numF] at h;split at h
  ·exact absurd h (by simp)
  rename_i h1;split at h
  ·exact absurd h (by simp)
  rename_i h2;rcases List.mem_cons.1 hx with rfl | hx
  ·exact ⟨Option.ne_none_iff_exists'.1 h1,Option.ne_none_iff_exists'.1 h2⟩
  ·exact BW h x hx
abbrev Mc (l:List Wd) (o:List (Wd × Wd)) (q e:Nat):St:=
 ⟨[(0,⟨[],.sl 2 (bn l) none⟩),(1,⟨[],.sl 4 (lx o) none⟩),(5,⟨[],.sl 2 (kQ (cL (av l) (o.take e))) (some 0)⟩),(6,⟨[],.v (.int .i64 e)⟩)],[],[⟨q,257,2,none⟩]⟩
theorem EB (l:List Wd) (o:List (Wd × Wd)) (hs:wdsWt l<=1099511627776) (Dg:prsWt o<=1099511627776) (hF:(numF (av l) o).1=0) :
  EvP Tryz.prog 132 [.sl 2 (bn l) none,.sl 4 (lx o) none] (.sl 2 (kQ (cL (av l) o)) none):=by
 have ll:=gC o;refine ev_go (P:=Tryz.prog) tt tt_ok 5000 34 [.tmp 4] Tryz.func132 rfl Tryz.ntmps132 rfl (nL rfl) (fun E9 w9 hn9 hm9=>?_);refine aq (fun j st=>∃ e:Nat,st=Mc l o e e/\e<=o.length/\j=o.length - e) o.length (Mc l o 0 0) (eV ⟨0,257,2,none⟩ rfl ⟨_,rfl⟩ rfl wA rfl rfl Ah) ⟨0,rfl,by omega,by omega⟩ ?_;rintro j st ⟨e,rfl,he,rfl⟩;refine br (fun hL=>?_) (fun hL=>?_)
 ·have al:e < o.length:=by simpa [eY] using hL
  obtain ⟨w,hw⟩:∃ w,o[e]? = some w:=⟨_,gE al⟩;obtain ⟨⟨a,ha⟩,⟨b,hb⟩⟩:=BW hF w (mG hw);have JB:=eI l w.1.s hs;have yz:=eI l w.2.s hs;rw [ha] at JB;rw [hb] at yz;refine aD (fun _=>false) mo (by decide +kernel) ?_;refine ⟨JC w,⟨by omega,fN hw⟩,?_⟩;refine aG tF (JB) ax rfl ?_;refine ⟨JC w,⟨by omega,fN hw⟩,?_⟩;refine aG tF (yz) ax rfl ?_;refine ⟨by simp [fQ,cL];omega,⟨by simp [fQ,cL,maxLen];omega,by simp [fQ,cL];omega⟩,?_⟩;exact ⟨Mc l o (e + 1) (e + 1),(weak_mk ⟨_,rfl⟩ wA rfl rfl rfl (by repeat' (first | exact trivial | exact ah rfl | exact ak (cA al (by omega)) | exact cI (xC hw ha hb) rfl | refine ⟨⟨_,rfl,?_⟩,?_⟩))),o.length - (e + 1),by omega,e + 1,rfl,by omega,rfl⟩
 ·have aN:e=o.length:=by
   have:=hL;simp [eY] at this;omega
  have ht:o.take e=o:=by rw [aN,List.take_length]
  rw [ht];exact ⟨_,ax,rfl⟩
theorem BX (l:List Wd) (o:List (Wd × Wd)) (hl:l.length<=32) (hs:wdsWt l<=1099511627776) (Dg:prsWt o<=1099511627776) (hF:(numF (av l) o).1=0) :
  EvP Tryz.prog 73 [.sl 2 (bn l) none,.sl 4 (lx o) none] (.sl 1 (ct (cW l.length (dY l.length (cL (av l) o)))) none):=by
 have ll:=gC o;have hP:qx l.length (cL (av l) o):=by have:=mM hF;rwa [cS] at this
 have hN:=aw l;have OQ:=EA l.length (by omega) (cL (av l) o) hP (by simp [cL];omega);rw [IB hP] at OQ;refine ev_go (P:=Tryz.prog) tt tt_ok 5000 11 [.tmp 4] Tryz.func73 rfl Tryz.ntmps73 rfl (nL rfl) (fun E9 w9 hn9 hm9=>?_);refine call_p Vw (EB l o hs Dg hF) ax rfl ?_;rw [hN];refine call_p Vv (OQ) ax rfl ?_;exact ⟨_,ax,rfl⟩
theorem BZ (n:Nat) (f:Nat->Nat->Bool):(cW n f).length=n:=by simp [cW]
theorem fA (n:Nat) (f:Nat->Nat->Bool):(ct (cW n f)).length=n:=by rw [uP,BZ]
theorem cT {n:Nat} {f:Nat->Nat->Bool} {a:Nat} (ha:a < n):(ct (cW n f))[a]? = some [DV.sl 1 (uO ((List.range n).map (f a))) none]:=L9 (BB ha)
theorem cq {n:Nat} {f:Nat->Nat->Bool} {a b:Nat} (hb:b < n):(uO ((List.range n).map (f a)))[b]? = some [DV.v (.bool (f a b))]:=GN (by simp [List.getElem?_range hb])
abbrev Md (n:Nat) (f:Nat->Nat->Bool) (e:Nat):St:=
 ⟨[(0,⟨[],.sl 1 (ct (cW n f)) none⟩),(3,⟨[],.v (.int .i64 e)⟩)],[],[]⟩
abbrev uQ (n:Nat) (f:Nat->Nat->Bool) (e k:Nat):St:=
 ⟨[(0,⟨[],.sl 1 (ct (cW n f)) none⟩),(3,⟨[],.v (.int .i64 e)⟩),(4,⟨[],.v (.int .i64 k)⟩)],[],[]⟩
theorem B0 (n:Nat) (f:Nat->Nat->Bool) (hn:n<=64) :
  EvP Tryz.prog 270 [.sl 1 (ct (cW n f)) none] (.v (.int .i64 (oz (bG (jE n f) n)))):=by
 have dI:=fA n f;refine ev_go (P:=Tryz.prog) tt tt_ok 5000 39 [.tmp 2] Tryz.func270 rfl Tryz.ntmps270 rfl (nL rfl) (fun E9 w9 hn9 hm9=>?_);refine aq (fun j st=>∃ e:Nat,st=Md n f e/\e<=n/\(∀ a,a < e->jE n f a=false)/\j=n - e) n (Md n f 0) (weak_mk ⟨_,rfl⟩ wA rfl rfl rfl wB) ⟨0,rfl,by omega,fun _ h=>by omega,by omega⟩ ?_;rintro j st ⟨e,rfl,he,eu,rfl⟩;refine br (fun hL=>?_) (fun hL=>?_)
 ·have al:e < n:=by simpa [dI] using hL
  refine aq (fun j st=>∃ k:Nat,st=uQ n f e k/\k<=n/\(∀ b,b < k->(decide (e≠b) && (f e b && f b e))=false)/\j=n - k) n (uQ n f e 0) (weak_mk ⟨_,rfl⟩ wA rfl rfl rfl wB) ⟨0,rfl,by omega,fun _ h=>by omega,by omega⟩ ?_;rintro j st ⟨k,rfl,hk,B1,rfl⟩;refine br (fun jb=>?_) (fun jb=>?_)
  ·have fY:k < n:=by simpa [dI] using jb
   have Bi:(decide (e≠k) && (f e k && f k e))=false->∀ b,b < k + 1->(decide (e≠b) && (f e b && f b e))=false:=fun h b hb=>by
    rcases Nat.lt_succ_iff_lt_or_eq.1 hb with hb | rfl
    ·exact B1 b hb
    ·exact h
   refine br (fun g1=>?_) (fun g1=>?_)
   ·have g1:e≠k:=by have:=g1;simp at this;omega
    refine ⟨_,⟨by omega,cT al⟩,?_⟩;refine ⟨_,⟨by omega,cq fY⟩,?_⟩;refine br (fun g2=>?_) (fun g2=>?_)
    ·have g2:f e k=true:=by simpa [pickB] using g2
     refine ⟨_,⟨by omega,cT fY⟩,?_⟩;refine ⟨_,⟨by omega,cq al⟩,?_⟩;refine br (fun g3=>?_) (fun g3=>?_)
     ·have g3:f k e=true:=by simpa [pickB] using g3
      have hp:jE n f e=true:=List.any_eq_true.2 ⟨k,List.mem_range.2 fY,by simp [g1,g2,g3]⟩;rw [cw al hp eu];exact (rfl:_=_)
     ·have g3:f k e=false:=by simpa [pickB] using g3
      exact ⟨uQ n f e (k + 1),(weak_mk ⟨_,rfl⟩ wA rfl rfl rfl (wNB fY)),n - (k + 1),by omega,k + 1,rfl,by omega,Bi (by simp [g3]),rfl⟩
    ·have g2:f e k=false:=by simpa [pickB] using g2
     exact ⟨uQ n f e (k + 1),(weak_mk ⟨_,rfl⟩ wA rfl rfl rfl (wNB fY)),n - (k + 1),by omega,k + 1,rfl,by omega,Bi (by simp [g2]),rfl⟩
   ·have g1:e=k:=by have:=g1;simp at this;omega
    exact ⟨uQ n f e (k + 1),(weak_mk ⟨_,rfl⟩ wA rfl rfl rfl (wNB fY)),n - (k + 1),by omega,k + 1,rfl,by omega,Bi (by simp [g1]),rfl⟩
  ·have aN:k=n:=by have:=jb;simp [dI] at this;omega
   refine ⟨Md n f (e + 1),(weak_mk ⟨_,rfl⟩ wA rfl rfl rfl (wNB al)),n - (e + 1),by omega,e + 1,rfl,by omega,fun j hj=>?_,rfl⟩;rcases Nat.lt_succ_iff_lt_or_eq.1 hj with hj | rfl
   ·exact eu j hj
   ·unfold jE;rw [List.any_eq_false];intro b hb;rw [B1 b (by have:=List.mem_range.1 hb;omega)];decide
 ·have aN:e=n:=by have:=hL;simp [dI] at this;omega
  subst aN;rw [cO eu];exact (rfl:_=_)
abbrev SR (n:Nat) (f:Nat->Nat->Bool) (q e:Nat):St:=
 ⟨[(0,⟨[],.sl 1 (ct (cW n f)) none⟩),(3,⟨[],.sl 1 (ct ((cW n fun a b=>f b a).take e)) (some 0)⟩),(4,⟨[],.v (.int .i64 e)⟩)],[],[⟨q,206,1,none⟩]⟩
abbrev Me (n:Nat) (f:Nat->Nat->Bool) (q e:Nat) (r:List Bool) (k:Nat):St:=
 ⟨[(0,⟨[],.sl 1 (ct (cW n f)) none⟩),(3,⟨[],.sl 1 (ct ((cW n fun a b=>f b a).take e)) (some 0)⟩),(4,⟨[],.v (.int .i64 e)⟩),(5,⟨[],.ms 0 1 0 n n⟩),(6,⟨[],.v (.int .i64 k)⟩)],[cB r],[⟨q,206,1,none⟩]⟩
abbrev XE (n:Nat) (f:Nat->Nat->Bool) (q e:Nat) (r:List Bool):St:=
 ⟨[(0,⟨[],.sl 1 (ct (cW n f)) none⟩),(4,⟨[],.v (.int .i64 e)⟩),(32,⟨[],.sl 1 (ct ((cW n fun a b=>f b a).take e)) (some 0)⟩),(33,⟨[],.sl 1 (uO r) none⟩)],[],[⟨q,206,1,none⟩]⟩
def ij (n:Nat) (f:Nat->Nat->Bool) (e k:Nat):List Bool:=(List.range n).map fun b=>if b < k then f b e else false
theorem qO (n:Nat) (f:Nat->Nat->Bool) (e k:Nat):(ij n f e k).length=n:=by simp [ij]
theorem EC (n:Nat) (f:Nat->Nat->Bool) (e:Nat):ij n f e 0=List.replicate n false:=by
 refine List.ext_getElem? fun i=>?_;by_cases h:i < n
 ·simp [ij,List.getElem?_range h,List.getElem?_replicate,h]
 ·rw [List.getElem?_eq_none (by rw [qO];omega),List.getElem?_eq_none (by simp;omega)]
theorem ED (n:Nat) (f:Nat->Nat->Bool) (e k:Nat):(ij n f e k).set k (f k e)=ij n f e (k + 1):=by
 refine List.ext_getElem? fun i=>?_;by_cases h:i < n
 ·rw [List.getElem?_set];simp only [ij,List.getElem?_map,List.getElem?_range h,Option.map_some,List.length_map,List.length_range];by_cases hk:k=i
  ·subst hk;simp [h]
  ·rw [if_neg hk];by_cases hi:i < k
   ·rw [if_pos hi,if_pos (by omega)]
   ·rw [if_neg hi,if_neg (by omega)]
 ·rw [List.getElem?_eq_none (by simp [ij];omega),List.getElem?_eq_none (by rw [qO];omega)]
theorem EE (n:Nat) (f:Nat->Nat->Bool) (e:Nat):ij n f e n=(List.range n).map (fun b=>f b e):=by
 unfold ij;exact List.map_congr_left fun b hb=>by rw [if_pos (List.mem_range.1 hb)]
theorem IC (n:Nat) (f:Nat->Nat->Bool) (hn:n<=64) :
  EvP Tryz.prog 271 [.sl 1 (ct (cW n f)) none] (.sl 1 (ct (cW n fun a b=>f b a)) none):=by
 have dI:=fA n f;have XC:=BZ n fun a b=>f b a;refine ev_go (P:=Tryz.prog) tt tt_ok 5000 37 [.tmp 2] Tryz.func271 rfl Tryz.ntmps271 rfl (nL rfl) (fun E9 w9 hn9 hm9=>?_);refine aq (fun j st=>∃ e:Nat,st=SR n f e e/\e<=n/\j=n - e) n (SR n f 0 0) (eV ⟨0,206,1,none⟩ rfl ⟨_,rfl⟩ rfl wA rfl rfl Ah) ⟨0,rfl,by omega,by omega⟩ ?_;rintro j st ⟨e,rfl,he,rfl⟩;refine br (fun hL=>?_) (fun hL=>?_)
 ·have al:e < n:=by simpa [dI] using hL
  refine ⟨⟨rfl,by omega,by rw [dI];omega,by rw [dI];omega⟩,?_⟩;rw [dI]
  have fF:(List.replicate (n:Int).toNat (vL [Value.bool false])).flatten=cB (ij n f e 0):=by
   rw [IA,EC,show (n:Int).toNat=n by omega]
  refine aq (fun j st=>∃ k:Nat,st=Me n f e e (ij n f e k) k/\k<=n/\j=n - k) n (Me n f e e (ij n f e 0) 0) (ay 1 rfl (by repeat' (first | exact rfl | exact ah rfl | exact dc fF | refine ⟨_,_,rfl,?_,?_⟩)) rfl rfl rfl (by repeat' (first | exact trivial | exact ah rfl | exact dc fF | refine ⟨⟨_,rfl,?_⟩,?_⟩))) ⟨0,rfl,by omega,by omega⟩ ?_;rintro j st ⟨k,rfl,hk,rfl⟩;refine br (fun jb=>?_) (fun jb=>?_)
  ·have fY:k < n:=by simpa [dI] using jb
   refine ⟨_,⟨by omega,cT fY⟩,?_⟩;refine ⟨_,⟨by omega,cq al⟩,?_⟩;refine ⟨⟨by omega,by omega⟩,?_⟩;refine ⟨by rw [qM,qO];omega,?_⟩
   have fj:(cB (ij n f e k)).set (0 + (k:Int).toNat * 1) (DV.v (.bool (f (k:Int).toNat (e:Int).toNat)))=cB (ij n f e (k + 1)):=by
    rw [show 0 + (k:Int).toNat * 1=k by omega,zh,Int.toNat_natCast,Int.toNat_natCast,ED]
   exact ⟨Me n f e e (ij n f e (k + 1)) (k + 1),(ay 1 rfl (by repeat' (first | exact rfl | exact ah rfl | exact dc fj | exact ak (cA fY (by omega)) | refine ⟨_,_,rfl,?_,?_⟩)) rfl rfl rfl (by repeat' (first | exact trivial | exact ah rfl | exact dc fj | exact ak (cA fY (by omega)) | refine ⟨⟨_,rfl,?_⟩,?_⟩))),n - (k + 1),by omega,k + 1,rfl,by omega,rfl⟩
  ·have aN:k=n:=by have:=jb;simp [dI] at this;omega
   subst aN;rw [EE];refine Ht.wk (.Ga (st':=XE k f e e ((List.range k).map fun b=>f b e)) 0 rfl rfl rfl rfl ?_) rfl rfl ?_
   ·refine ⟨⟨_,rfl,?_⟩,⟨_,rfl,?_⟩,⟨_,rfl,?_⟩,⟨_,rfl,QM (by simp) (by omega) rfl⟩,trivial⟩
    ·simp only [Cc];exact Or.inr (Or.inl ⟨none,rfl⟩)
    ·simp only [Cc]
    ·simp only [Cc];exact ⟨Nat.zero_lt_one,trivial⟩
   ·have XF:(ct ((cW k fun a b=>f b a).take e)).length=e:=by rw [uP,List.length_take,XC];omega
    have gR:ct ((cW k fun a b=>f b a).take e) ++ [[DV.sl 1 (uO ((List.range k).map fun b=>f b e)) none]]=ct ((cW k fun a b=>f b a).take (e + 1)):=by rw [List.take_add_one,BB al];simp [ct]
    refine ⟨XF,⟨by rw [XF];simp [maxLen];omega,by rw [XF];simp;omega⟩,?_⟩;exact ⟨SR k f (e + 1) (e + 1),(weak_mk ⟨_,rfl⟩ wA rfl rfl rfl (yF al gR)),k - (e + 1),by omega,e + 1,rfl,by omega,rfl⟩
 ·have aN:e=n:=by have:=hL;simp [dI] at this;omega
  subst aN;rw [List.take_of_length_le (by rw [XC];omega)];exact ⟨_,ax,rfl⟩
def QN (f:Nat->Nat->Bool) (n a b c:Nat):Bool:=(f a c && f b c) && (List.range n).all fun d=>!(f a d && f b d) || f c d
def jg (f:Nat->Nat->Bool) (n a b:Nat):Option Nat:=bG (QN f n a b) n
def jv (f:Nat->Nat->Bool) (a b c k:Nat):Bool:=(f a c && f b c) && (List.range k).all fun d=>!(f a d && f b d) || f c d
theorem ID (f:Nat->Nat->Bool) (a b c k:Nat):jv f a b c (k + 1)=(jv f a b c k && (!(f a k && f b k) || f c k)):=by
 simp only [jv,List.range_succ,List.all_append,List.all_cons,List.all_nil,Bool.and_true,Bool.and_assoc]
theorem xS (f:Nat->Nat->Bool) (a b c:Nat):jv f a b c 0=(f a c && f b c):=by simp [jv]
abbrev SU (n:Nat) (f:Nat->Nat->Bool) (a b e:Nat):St:=
 ⟨[(0,⟨[],.sl 1 (ct (cW n f)) none⟩),(1,⟨[],.v (.int .i64 a)⟩),(2,⟨[],.v (.int .i64 b)⟩),(7,⟨[],.v (.int .i64 e)⟩)],[],[]⟩
abbrev rJ (n:Nat) (f:Nat->Nat->Bool) (a b e:Nat) (x:Bool) (k:Nat):St:=
 ⟨[(0,⟨[],.sl 1 (ct (cW n f)) none⟩),(1,⟨[],.v (.int .i64 a)⟩),(2,⟨[],.v (.int .i64 b)⟩),(7,⟨[],.v (.int .i64 e)⟩),(8,⟨[],.v (.bool x)⟩),(9,⟨[],.v (.int .i64 k)⟩)],[],[]⟩
theorem jI (n:Nat) (f:Nat->Nat->Bool) (hn:n<=64) (a b:Nat) (ha:a < n) (hb:b < n) :
  EvP Tryz.prog 203 [.sl 1 (ct (cW n f)) none,.v (.int .i64 a),.v (.int .i64 b)] (.v (.int .i64 (oz (jg f n a b)))):=by
 have dI:=fA n f;refine ev_go (P:=Tryz.prog) tt tt_ok 5000 66 [.tmp 6] Tryz.func203 rfl Tryz.ntmps203 rfl (nL rfl) (fun E9 w9 hn9 hm9=>?_);refine aq (fun j st=>∃ e:Nat,st=SU n f a b e/\e<=n/\(∀ c,c < e->QN f n a b c=false)/\j=n - e) n (SU n f a b 0) (weak_mk ⟨_,rfl⟩ wA rfl rfl rfl wB) ⟨0,rfl,by omega,fun _ h=>by omega,by omega⟩ ?_;rintro j st ⟨e,rfl,he,eu,rfl⟩;refine br (fun hL=>?_) (fun hL=>?_)
 ·have al:e < n:=by simpa [dI] using hL
  refine ⟨_,⟨by omega,cT ha⟩,?_⟩;refine ⟨_,⟨by omega,cq al⟩,?_⟩;have e1:(f a e == true)=true->f b e=jv f a b e 0:=fun g=>by rw [xS,show f a e=true by simpa using g];simp
  have e2:(f a e == true)=false->false=jv f a b e 0:=fun g=>by rw [xS,show f a e=false by simpa using g];simp
  refine have body:=?_;br (fun g1=>⟨_,⟨by omega,cT hb⟩,⟨_,⟨by omega,cq al⟩,aq (fun j st=>∃ k:Nat,st=rJ n f a b e (jv f a b e k) k/\k<=n/\j=n - k) n (rJ n f a b e (jv f a b e 0) 0) (weak_mk ⟨_,rfl⟩ wA rfl rfl rfl (by repeat' (first | exact trivial | exact ah rfl | exact (show We _ _ _ (DV.v (.bool (f b e))) _ from cg (e1 g1)) | refine ⟨⟨_,rfl,?_⟩,?_⟩))) ⟨0,rfl,by omega,by omega⟩ body⟩⟩) (fun g1=>aq (fun j st=>∃ k:Nat,st=rJ n f a b e (jv f a b e k) k/\k<=n/\j=n - k) n (rJ n f a b e (jv f a b e 0) 0) (weak_mk ⟨_,rfl⟩ wA rfl rfl rfl (by repeat' (first | exact trivial | exact ah rfl | exact (show We _ _ _ (DV.v (.bool false)) _ from cg (e2 g1)) | refine ⟨⟨_,rfl,?_⟩,?_⟩))) ⟨0,rfl,by omega,by omega⟩ body);rintro j st ⟨k,rfl,hk,rfl⟩;refine br (fun jb=>?_) (fun jb=>?_)
  ·have fY:k < n:=by simpa [dI] using jb
   have IE:=ID f a b e k;refine ⟨_,⟨by omega,cT ha⟩,?_⟩;refine ⟨_,⟨by omega,cq fY⟩,?_⟩;refine br (fun g1=>?_) (fun g1=>?_)
   ·refine ⟨_,⟨by omega,cT hb⟩,?_⟩;refine ⟨_,⟨by omega,cq fY⟩,?_⟩;refine br (fun g2=>?_) (fun g2=>?_)
    ·refine ⟨_,⟨by omega,cT al⟩,?_⟩;refine ⟨_,⟨by omega,cq fY⟩,?_⟩;refine br (fun g3=>?_) (fun g3=>?_)
     ·have hx:false=jv f a b e (k + 1):=by simp [pickB] at g1 g2 g3;rw [IE];simp [g1,g2,g3]
      exact ⟨rJ n f a b e (jv f a b e (k + 1)) (k + 1),(weak_mk ⟨_,rfl⟩ wA rfl rfl rfl (by repeat' (first | exact trivial | exact ah rfl | exact ak (cA fY (by omega)) | exact cg hx | refine ⟨⟨_,rfl,?_⟩,?_⟩))),n - (k + 1),by omega,k + 1,rfl,by omega,rfl⟩
     ·have hx:jv f a b e k=jv f a b e (k + 1):=by simp [pickB] at g1 g2 g3;rw [IE];simp [g1,g2,g3]
      exact ⟨rJ n f a b e (jv f a b e (k + 1)) (k + 1),(weak_mk ⟨_,rfl⟩ wA rfl rfl rfl (by repeat' (first | exact trivial | exact ah rfl | exact ak (cA fY (by omega)) | exact cg hx | refine ⟨⟨_,rfl,?_⟩,?_⟩))),n - (k + 1),by omega,k + 1,rfl,by omega,rfl⟩
    ·have hx:jv f a b e k=jv f a b e (k + 1):=by simp [pickB] at g1 g2;rw [IE];simp [g1,g2]
     exact ⟨rJ n f a b e (jv f a b e (k + 1)) (k + 1),(weak_mk ⟨_,rfl⟩ wA rfl rfl rfl (by repeat' (first | exact trivial | exact ah rfl | exact ak (cA fY (by omega)) | exact cg hx | refine ⟨⟨_,rfl,?_⟩,?_⟩))),n - (k + 1),by omega,k + 1,rfl,by omega,rfl⟩
   ·have hx:jv f a b e k=jv f a b e (k + 1):=by simp [pickB] at g1;rw [IE];simp [g1]
    exact ⟨rJ n f a b e (jv f a b e (k + 1)) (k + 1),(weak_mk ⟨_,rfl⟩ wA rfl rfl rfl (by repeat' (first | exact trivial | exact ah rfl | exact ak (cA fY (by omega)) | exact cg hx | refine ⟨⟨_,rfl,?_⟩,?_⟩))),n - (k + 1),by omega,k + 1,rfl,by omega,rfl⟩
  ·have aN:k=n:=by have:=jb;simp [dI] at this;omega
   subst aN;refine br (fun g=>?_) (fun g=>?_)
   ·have g:QN f k a b e=true:=g;rw [jg,cw al g eu];exact (rfl:_=_)
   ·have g:QN f k a b e=false:=g;refine ⟨SU k f a b (e + 1),(weak_mk ⟨_,rfl⟩ wA rfl rfl rfl (wNB al)),k - (e + 1),by omega,e + 1,rfl,by omega,fun j hj=>?_,rfl⟩;rcases Nat.lt_succ_iff_lt_or_eq.1 hj with hj | rfl
    ·exact eu j hj
    ·exact g
 ·have aN:e=n:=by have:=hL;simp [dI] at this;omega
  subst aN;rw [jg,cO eu];exact (rfl:_=_)
theorem Mf {l:List Wd} {i:Nat} {w:Wd} (hw:l[i]? = some w):∃ p,cx (av l) w.s=some p/\(p < i↔bp (l.take i) w.s=true):=by
 cases h:cx (av l) w.s with
 | none=>exact absurd (mG (mf hw)) (vZ.1 h)
 | some p=>
  refine ⟨p,rfl,?_⟩;obtain ⟨h1,h2,h3⟩:=cF h;rw [cS] at h1
  have Bw:∃ v,l[p]? = some v/\v.s=w.s:=by
   refine ⟨l[p],gE h1,?_⟩;rw [mf (gE h1)] at h2;exact Option.some.inj h2
  obtain ⟨v,hv,vU⟩:=Bw;unfold bp;rw [List.any_eq_true];refine ⟨fun al=>⟨v,mG (i:=p) (by rw [List.getElem?_take,if_pos al];exact hv),by simp [vU]⟩,fun ⟨x,hx,wM⟩=>?_⟩;obtain ⟨j,hj⟩:=List.getElem?_of_mem hx;rw [List.getElem?_take] at hj;split at hj
  ·rename_i PI;have wM:x.s=w.s:=by simpa using wM
   have:=h3 j (by rw [mf hj,wM]);omega
  ·cases hj
theorem zi {f:Nat->Nat->Bool} {n a b c:Nat}:QN f n a b c=true↔f a c=true/\f b c=true/\∀ d,d < n->f a d=true->f b d=true->f c d=true:=by
 unfold QN;simp only [Bool.and_eq_true,List.all_eq_true,List.mem_range,Bool.or_eq_true,Bool.not_eq_true',Bool.and_eq_false_iff,and_assoc];refine and_congr_right fun _=>and_congr_right fun _=>forall_congr' fun d=>imp_congr_right fun _=>?_;cases f a d<;>cases f b d<;>cases f c d<;>simp
structure NN (f:Nat->Nat->Bool) (n:Nat):Prop where
 rfl':∀ a,a < n->f a a=true
 Eb:∀ a b,a < n->b < n->f a b=true->f b a=true->a=b
theorem NN.flip {f:Nat->Nat->Bool} {n:Nat} (h:NN f n):NN (fun x y=>f y x) n:=⟨h.rfl',fun a b ha hb h1 h2=>h.Eb a b ha hb h2 h1⟩
theorem B2 {f:Nat->Nat->Bool} {n a b c:Nat} (h:NN f n) (hc:c < n) (hj:QN f n a b c=true):ep f n a b=some c:=by
 obtain ⟨h1,h2,h3⟩:=zi.1 hj
 have key:∀ e,e<=n->c < e->bestA (fun c=>f a c && f b c) f e=some c:=by
  intro e
  induction e with
  | zero=>intro _ h;omega
  | succ e ih=>
   intro he hce;rw [bestA];by_cases hec:e=c
   ·subst hec;rw [if_pos];simp only [h1,h2,Bool.and_true,Bool.true_and]
    cases ho:bestA (fun c=>f a c && f b c) f e with
    | none=>rfl
    | some o=>
     have hp:=qF ho;have hl:=l6 ho;simp only [Bool.and_eq_true] at hp;exact h3 o (by omega) hp.1 hp.2
   ·rw [ih (by omega) (by omega),if_neg];simp only [Bool.and_eq_true,BF,not_and];intro hp hec2;exact hec (h.Eb e c (by omega) hc hec2 (h3 e (by omega) hp.1 hp.2))
 unfold ep l5;rw [key n (Nat.le_refl _) hc];simp only;rw [if_neg];simp only [List.any_eq_true,List.mem_range,Bool.and_eq_true,Bool.not_eq_true',not_exists,not_and,Bool.not_eq_false];exact fun d hd hp=>h3 d hd hp.1 hp.2
theorem k0 {f:Nat->Nat->Bool} {n a b:Nat} (h:NN f n):(ep f n a b).isNone=(jg f n a b).isNone:=by
 cases hj:jg f n a b with
 | some c=>
  obtain ⟨hc,hi,_⟩:=dK hj;rw [B2 h hc hi]
 | none=>
  cases hk:ep f n a b with
  | none=>rfl
  | some k=>
   obtain ⟨h1,h2,h3,h4⟩:=nT hk;have:=dg hj k h1;rw [zi.2 ⟨h2,h3,h4⟩] at this;cases this
def ny (f:Nat->Nat->Bool) (n a b:Nat):Bool:=(jg f n a b).isNone || (jg (fun x y=>f y x) n a b).isNone
theorem GQ {f:Nat->Nat->Bool} {n a b:Nat} (h:NN f n):ka f n a b=ny f n a b:=by
 unfold ka ny;rw [k0 h,show gV f n a b=ep (fun x y=>f y x) n a b from rfl,k0 h.flip]
theorem uR {f:Nat->Nat->Bool} {n b:Nat} (h:NN f n) (hb:b < n):(jg f n b b).isNone=false:=by
 have hi:QN f n b b b=true:=zi.2 ⟨h.rfl' b hb,h.rfl' b hb,fun d _ h1 _=>h1⟩
 cases hj:jg f n b b with
 | some c=>rfl
 | none=>rw [dg hj b hb] at hi;cases hi
theorem O6 {f:Nat->Nat->Bool} {n b:Nat} (h:NN f n) (hb:b < n):l7 f n b=(List.range b).any fun a=>ny f n a b:=by
 unfold l7;rw [List.range_succ,List.any_append];simp only [List.any_cons,List.any_nil,Bool.or_false];rw [GQ h,show ny f n b b=false by unfold ny;rw [uR h hb,uR h.flip hb];rfl,Bool.or_false];exact congrArg (fun g=>List.any (List.range b) g) (funext fun a=>GQ h)
theorem SV {n:Nat} {l:List (Nat × Nat)} (hP:qx n l) (h4:bG (jE n (dY n l)) n=none):NN (dY n l) n where
 rfl':=fun a ha=>qy hP ha
 Eb:=fun a b ha hb h6 h7=>by
  have:=dg h4 a ha;unfold jE at this;rw [List.any_eq_false] at this;have:=this b (by simpa using hb);simp only [Bool.and_eq_true,decide_eq_true_eq,not_and] at this;rcases Nat.lt_trichotomy a b with h8 | h8 | h8
  ·exact (this (by omega) h6 h7).elim
  ·exact h8
  ·exact (this (by omega) h6 h7).elim
abbrev Mg (l:List Wd) (o:List (Wd × Wd)) (e:Nat):St:=
 ⟨[(0,⟨[],.sl 2 (bn l) none⟩),(1,⟨[],.sl 4 (lx o) none⟩),(4,⟨[],.loc 0 0⟩),(5,⟨[],.v (.int .i64 e)⟩)],[[.v (.int .i64 0),.v (.int .i64 0)]],[]⟩
abbrev Mh (l:List Wd) (o:List (Wd × Wd)) (e:Nat):St:=
 ⟨[(0,⟨[],.sl 2 (bn l) none⟩),(1,⟨[],.sl 4 (lx o) none⟩),(4,⟨[],.loc 0 0⟩),(6,⟨[],.v (.int .i64 e)⟩)],[[.v (.int .i64 0),.v (.int .i64 0)]],[]⟩
abbrev Mi (l:List Wd) (n:Nat) (f:Nat->Nat->Bool) (e:Nat):St:=
 ⟨[(0,⟨[],.sl 2 (bn l) none⟩),(4,⟨[],.loc 0 0⟩),(7,⟨[],.sl 1 (ct (cW n f)) none⟩),(9,⟨[],.sl 1 (ct (cW n fun a b=>f b a)) none⟩),(10,⟨[],.v (.int .i64 e)⟩)],[[.v (.int .i64 0),.v (.int .i64 0)]],[]⟩
abbrev Mj (l:List Wd) (n:Nat) (f:Nat->Nat->Bool) (e k:Nat):St:=
 ⟨[(0,⟨[],.sl 2 (bn l) none⟩),(4,⟨[],.loc 0 0⟩),(7,⟨[],.sl 1 (ct (cW n f)) none⟩),(9,⟨[],.sl 1 (ct (cW n fun a b=>f b a)) none⟩),(10,⟨[],.v (.int .i64 e)⟩),(11,⟨[],.v (.int .i64 k)⟩)],[[.v (.int .i64 0),.v (.int .i64 0)]],[]⟩
theorem zj (l:List Wd) (o:List (Wd × Wd)) (hs:wdsWt l<=1099511627776) (Dg:prsWt o<=1099511627776) :
  EvP Tryz.prog 231 [.sl 2 (bn l) none,.sl 4 (lx o) none] (latF l o).d:=by
 have ll:=bd l;have hsl2:=gC o;have hF:latF l o=latF l o:=rfl
 conv at hF=>rhs;unfold latF
 refine ev_go (P:=Tryz.prog) tt tt_ok 5000 150 [.cell 4 54] Tryz.func231 rfl Tryz.ntmps231 rfl (nL rfl) (fun E9 w9 hn9 hm9=>?_);generalize latF l o=F at hF ⊢;refine br (fun h=>?_) (fun h=>?_)
 ·have h:l=[]:=by simpa [aw] using h
  rw [show eZ l o=(15,0) by rw [eZ,if_pos h],if_pos (by decide)] at hF;refine ⟨_,?_,rfl⟩;rw [hF];exact ax
 have h:¬ l=[]:=by simpa [aw] using h
 refine br (fun h1=>?_) (fun h1=>?_)
 ·have h1:32 < l.length:=by simp [aw] at h1;omega
  obtain ⟨x,hx⟩:∃ x,l[32]? = some x:=⟨_,gE h1⟩;rw [show eZ l o=(8,x.a) by rw [eZ,if_neg h,if_pos h1,hx];rfl,if_pos (by simp)] at hF;refine ⟨iV x,⟨by omega,aK hx⟩,?_⟩;refine ⟨_,?_,rfl⟩;rw [hF];exact ax
 have h1:¬ 32 < l.length:=by simp [aw] at h1;omega
 refine br (fun h2=>?_) (fun h2=>?_)
 ·have h2:256 < o.length:=by simp [eY] at h2;omega
  obtain ⟨x,hx⟩:∃ x,o[256]? = some x:=⟨_,gE h2⟩;rw [show eZ l o=(8,x.1.a) by rw [eZ,if_neg h,if_neg h1,if_pos h2,hx];rfl,if_pos (by simp)] at hF;refine ⟨JC x,⟨by omega,fN hx⟩,?_⟩;refine ⟨_,?_,rfl⟩;rw [hF];exact ax
 have h2:¬ 256 < o.length:=by simp [eY] at h2;omega
 rw [show eZ l o=(0,0) by rw [eZ,if_neg h,if_neg h1,if_neg h2],if_neg (by decide)] at hF;have h0:enumL l 0 l=enumL l 0 (l.drop 0):=rfl;refine aq (fun j st=>∃ e:Nat,st=Mg l o e/\e<=l.length/\enumL l 0 l=enumL l e (l.drop e)/\j=l.length - e) l.length (Mg l o 0) (weak_mk ⟨_,rfl⟩ wA rfl rfl rfl wB) ⟨0,rfl,by omega,rfl,by omega⟩ ?_;rintro j st ⟨e,rfl,he,aH,rfl⟩;refine br (fun hL=>?_) (fun hL=>?_)
 ·have al:e < l.length:=by simpa [aw] using hL
  obtain ⟨w,hw⟩:∃ w,l[e]? = some w:=⟨_,gE al⟩;have Qw:=gy (mG hw);have aS:enumL l e (l.drop e)=if aA l e w≠0 then (aA l e w,w.a) else enumL l (e + 1) (l.drop (e + 1)):=by rw [drop_cons hw,enumL]
  obtain ⟨p,hp,FV⟩:=Mf hw;have hf:=eI l w.s hs;rw [hp] at hf;refine ⟨iV w,⟨by omega,aK hw⟩,?_⟩;refine call_p Gh (jB w.s (by omega)) ax rfl ?_;refine br (fun hN=>?_) (fun hN=>?_)
  ·have hN:aU w.s=false:=by simpa using hN
   have hf:aA l e w=9:=by simp [aA,hN]
   rw [aH,aS,hf,if_pos (show (9:Int)≠0 by decide),if_pos (by simp)] at hF;refine ⟨iV w,⟨by omega,aK hw⟩,?_⟩;refine ⟨_,?_,rfl⟩;rw [hF];exact ax
  ·have hN:aU w.s=true:=by simpa using hN
   refine ⟨iV w,⟨by omega,aK hw⟩,?_⟩;refine call_p tF (hf) ax rfl ?_;refine br (fun h2=>?_) (fun h2=>?_)
   ·have h2:p < e:=by have:=h2;simp [oz] at this;exact this
    have hf:aA l e w=10:=by simp [aA,hN,FV.1 h2]
    rw [aH,aS,hf,if_pos (show (10:Int)≠0 by decide),if_pos (by simp)] at hF;refine ⟨iV w,⟨by omega,aK hw⟩,?_⟩;refine ⟨_,?_,rfl⟩;rw [hF];exact ax
   ·have h2:¬ p < e:=by have:=h2;simp [oz] at this;omega
    have hd:bp (l.take e) w.s=false:=by
     cases hd:bp (l.take e) w.s
     ·rfl
     ·exact absurd (FV.2 hd) h2
    have hf:aA l e w=0:=by simp [aA,hN,hd]
    rw [hf,if_neg (by simp)] at aS;exact ⟨Mg l o (e + 1),(weak_mk ⟨_,rfl⟩ wA rfl rfl rfl (wNB al)),l.length - (e + 1),by omega,e + 1,rfl,by omega,by rw [aH,aS],rfl⟩
 have aN:e=l.length:=by have:=hL;simp [aw] at this;omega
 rw [aH,aN,List.drop_length,show enumL l l.length []=(0,0) from rfl,if_neg (by decide)] at hF;refine aq (fun j st=>∃ e:Nat,st=Mh l o e/\e<=o.length/\numF (av l) o=numF (av l) (o.drop e)/\j=o.length - e) o.length (Mh l o 0) (weak_mk ⟨_,rfl⟩ wA rfl rfl rfl wB) ⟨0,rfl,by omega,rfl,by omega⟩ ?_;clear aH hL aN he e;rintro j st ⟨e,rfl,he,aH,rfl⟩;refine br (fun hL=>?_) (fun hL=>?_)
 ·have al:e < o.length:=by simpa [eY] using hL
  obtain ⟨w,hw⟩:∃ w,o[e]? = some w:=⟨_,gE al⟩;have aS:numF (av l) (o.drop e)=if cx (av l) w.1.s=none then (17,w.1.a) else if cx (av l) w.2.s=none then (17,w.2.a) else numF (av l) (o.drop (e + 1)):=by rw [drop_cons hw,numF]
  refine ⟨JC w,⟨by omega,fN hw⟩,?_⟩;refine call_p tF (eI l w.1.s hs) ax rfl ?_;refine br (fun ha=>?_) (fun ha=>?_)
  ·have ha:=eS.1 ha;rw [aH,aS,if_pos ha,if_pos (by simp)] at hF;refine ⟨JC w,⟨by omega,fN hw⟩,?_⟩;refine ⟨_,?_,rfl⟩;rw [hF];exact ax
  have ha:¬ cx (av l) w.1.s=none:=fun hn=>by have:=eS.2 hn;rw [ha] at this;cases this
  refine ⟨JC w,⟨by omega,fN hw⟩,?_⟩;refine call_p tF (eI l w.2.s hs) ax rfl ?_;refine br (fun hb=>?_) (fun hb=>?_)
  ·have hb:=eS.1 hb;rw [aH,aS,if_neg ha,if_pos hb,if_pos (by simp)] at hF;refine ⟨JC w,⟨by omega,fN hw⟩,?_⟩;refine ⟨_,?_,rfl⟩;rw [hF];exact ax
  have hb:¬ cx (av l) w.2.s=none:=fun hn=>by have:=eS.2 hn;rw [hb] at this;cases this
  rw [if_neg ha,if_neg hb] at aS;exact ⟨Mh l o (e + 1),(weak_mk ⟨_,rfl⟩ wA rfl rfl rfl (wNB al)),o.length - (e + 1),by omega,e + 1,rfl,by omega,by rw [aH,aS],rfl⟩
 have aN:e=o.length:=by have:=hL;simp [eY] at this;omega
 rw [aN,List.drop_length,show numF (av l) []=(0,0) from rfl] at aH;rw [aH,if_neg (by decide)] at hF;have jr:(numF (av l) o).1=0:=by rw [aH]
 have hP:qx l.length (cL (av l) o):=by have:=mM jr;rwa [cS] at this
 have YR:=SV hP;have dI:=fA l.length (dY l.length (cL (av l) o));refine call_p RW (BX l o (by omega) hs Dg jr) ax rfl ?_;generalize dY l.length (cL (av l) o)=f at hF YR dI ⊢;refine call_p Wh (B0 l.length f (by omega)) ax rfl ?_
 cases hlo:bG (jE l.length f) l.length with
 | some a=>
  rw [hlo] at hF;have ha:=(dK hlo).1;obtain ⟨x,hx⟩:∃ x,l[a]? = some x:=⟨_,gE ha⟩;simp only [jF hx] at hF;refine ⟨iV x,⟨by simp only [oz];omega,aK hx⟩,?_⟩;refine ⟨_,?_,rfl⟩;rw [hF];exact ax
 | none=>
 have YR:=YR hlo;rw [hlo] at hF;simp only at hF;refine call_p Wi (IC l.length f (by omega)) ax rfl ?_;refine aq (fun j st=>∃ e:Nat,st=Mi l l.length f e/\e<=l.length/\(∀ b,b < e->l7 f l.length b=false)/\j=l.length - e) l.length (Mi l l.length f 0) (weak_mk ⟨_,rfl⟩ wA rfl rfl rfl wB) ⟨0,rfl,by omega,fun _ h=>by omega,by omega⟩ ?_;clear aH hL aN he e;rintro j st ⟨e,rfl,he,eu,rfl⟩;refine br (fun hL=>?_) (fun hL=>?_)
 ·have al:e < l.length:=by simpa [dI] using hL
  have AJ:=O6 YR al;refine aq (fun j st=>∃ k:Nat,st=Mj l l.length f e k/\k<=e/\(∀ a,a < k->ny f l.length a e=false)/\j=e - k) e (Mj l l.length f e 0) (weak_mk ⟨_,rfl⟩ wA rfl rfl rfl wB) ⟨0,rfl,by omega,fun _ h=>by omega,by omega⟩ ?_;rintro j st ⟨k,rfl,hk,B1,rfl⟩;refine br (fun jb=>?_) (fun jb=>?_)
  ·have fY:k < e:=by simpa using jb
   obtain ⟨x,hx⟩:∃ x,l[e]? = some x:=⟨_,gE al⟩
   have Mk:ny f l.length k e=true->F=(12,x.a):=fun GJ=>by
    rw [cw al (by rw [AJ,List.any_eq_true];exact ⟨k,by simpa using fY,GJ⟩) eu] at hF;simp only [jF hx] at hF;exact hF
   refine call_p Gf (jI l.length f (by omega) k e (by omega) al) ax rfl ?_;refine br (fun g1=>?_) (fun g1=>?_)
   ·have g1:¬ jg f l.length k e=none:=fun hn=>by rw [eS.2 hn] at g1;cases g1
    refine call_p Gf (jI l.length (fun a b=>f b a) (by omega) k e (by omega) al) ax rfl ?_;refine br (fun g2=>?_) (fun g2=>?_)
    ·have g2:jg (fun a b=>f b a) l.length k e=none:=by
      rw [<- eS];simpa [pickB] using g2
     have hF:=Mk (by unfold ny;rw [g2];simp);refine ⟨iV x,⟨by omega,aK hx⟩,?_⟩;refine ⟨_,?_,rfl⟩;rw [hF];exact ax
    ·have g2:¬ jg (fun a b=>f b a) l.length k e=none:=fun hn=>by
      have h3:=eS.2 hn;simp [pickB] at g2;have h3:=of_decide_eq_true h3;omega
     refine ⟨Mj l l.length f e (k + 1),(weak_mk ⟨_,rfl⟩ wA rfl rfl rfl (wNB fY)),e - (k + 1),by omega,k + 1,rfl,by omega,fun j hj=>?_,rfl⟩;rcases Nat.lt_succ_iff_lt_or_eq.1 hj with hj | rfl
     ·exact B1 j hj
     ·unfold ny;rw [Option.isNone_eq_false_iff.2 (Option.isSome_iff_ne_none.2 g1),Option.isNone_eq_false_iff.2 (Option.isSome_iff_ne_none.2 g2)];rfl
   ·have g1:jg f l.length k e=none:=by
     rw [<- eS];simpa using g1
    have hF:=Mk (by unfold ny;rw [g1];rfl);refine ⟨iV x,⟨by omega,aK hx⟩,?_⟩;refine ⟨_,?_,rfl⟩;rw [hF];exact ax
  ·have aN:k=e:=by have:=jb;simp at this;omega
   subst aN;refine ⟨Mi l l.length f (k + 1),(weak_mk ⟨_,rfl⟩ wA rfl rfl rfl (wNB al)),l.length - (k + 1),by omega,k + 1,rfl,by omega,fun j hj=>?_,rfl⟩;rcases Nat.lt_succ_iff_lt_or_eq.1 hj with hj | rfl
   ·exact eu j hj
   ·rw [AJ,List.any_eq_false];intro a ha;rw [B1 a (by simpa using ha)];decide
 ·have aN:e=l.length:=by have:=hL;simp [dI] at this;omega
  subst aN;rw [cO eu] at hF;simp only at hF;refine ⟨_,?_,rfl⟩;rw [hF];exact ax
abbrev SX (n:Nat) (f:Nat->Nat->Bool) (l:List Nat) (c e:Nat):St:=
 ⟨[(0,⟨[],.sl 1 (ct (cW n f)) none⟩),(1,⟨[],.sl 1 (dInts l) none⟩),(2,⟨[],.v (.int .i64 c)⟩),(7,⟨[],.v (.int .i64 e)⟩)],[],[]⟩
theorem xT (n:Nat) (f:Nat->Nat->Bool) (hn:n<=64) (l:List Nat) (hl:∀ i∈l,i < n) (vO:l.length<=1099511627776) (c:Nat) (hc:c < n) :
  EvP Tryz.prog 236 [.sl 1 (ct (cW n f)) none,.sl 1 (dInts l) none,.v (.int .i64 c)] (.v (.bool (fy f l c))):=by
 have dI:=fA n f;have JA:=bf l;refine ev_go (P:=Tryz.prog) tt tt_ok 5000 25 [.tmp 6] Tryz.func236 rfl Tryz.ntmps236 rfl (nL rfl) (fun E9 w9 hn9 hm9=>?_);refine aq (fun j st=>∃ e:Nat,st=SX n f l c e/\e<=l.length/\fy f l c=fy f (l.drop e) c/\j=l.length - e) l.length (SX n f l c 0) (weak_mk ⟨_,rfl⟩ wA rfl rfl rfl wB) ⟨0,rfl,by omega,rfl,by omega⟩ ?_;rintro j st ⟨e,rfl,he,aH,rfl⟩;rw [aH];refine br (fun hL=>?_) (fun hL=>?_)
 ·have al:e < l.length:=by have:=hL;simp [JA] at this;exact this
  obtain ⟨i,hi⟩:∃ i,l[e]? = some i:=⟨_,gE al⟩;have qm:=hl i (mG hi);have aS:fy f (l.drop e) c=(f i c && fy f (l.drop (e + 1)) c):=by unfold fy;rw [drop_cons hi,List.all_cons]
  refine ⟨_,⟨by omega,dA hi⟩,?_⟩;refine ⟨_,⟨by omega,cT qm⟩,?_⟩;refine ⟨_,⟨by omega,cq hc⟩,?_⟩;refine br (fun g=>?_) (fun g=>?_)
  ·have g:f i c=false:=by simpa using g
   rw [aS,g,Bool.false_and];exact (rfl:_=_)
  ·have g:f i c=true:=by simpa using g
   rw [g,Bool.true_and] at aS;exact ⟨SX n f l c (e + 1),(weak_mk ⟨_,rfl⟩ wA rfl rfl rfl (wNB al)),l.length - (e + 1),by omega,e + 1,rfl,by omega,aS,rfl⟩
 ·have aN:e=l.length:=by have:=hL;simp [JA] at this;omega
  rw [aN,List.drop_length];exact (rfl:_=_)
def nX (f:Nat->Nat->Bool) (l:List Nat) (c k:Nat):Bool:=fy f l c && (List.range k).all fun d=>!fy f l d || f c d
theorem IF (f:Nat->Nat->Bool) (l:List Nat) (c:Nat):nX f l c 0=fy f l c:=by simp [nX]
theorem IG (f:Nat->Nat->Bool) (l:List Nat) (c k:Nat):nX f l c (k + 1)=(nX f l c k && (!fy f l k || f c k)):=by
 simp only [nX,List.range_succ,List.all_append,List.all_cons,List.all_nil,Bool.and_true,Bool.and_assoc]
abbrev SY (n:Nat) (f:Nat->Nat->Bool) (l:List Nat) (e:Nat):St:=
 ⟨[(0,⟨[],.sl 1 (ct (cW n f)) none⟩),(1,⟨[],.sl 1 (dInts l) none⟩),(5,⟨[],.v (.int .i64 e)⟩)],[],[]⟩
abbrev B3 (n:Nat) (f:Nat->Nat->Bool) (l:List Nat) (e:Nat) (x:Bool) (k:Nat):St:=
 ⟨[(0,⟨[],.sl 1 (ct (cW n f)) none⟩),(1,⟨[],.sl 1 (dInts l) none⟩),(5,⟨[],.v (.int .i64 e)⟩),(6,⟨[],.v (.bool x)⟩),(7,⟨[],.v (.int .i64 k)⟩)],[],[]⟩
theorem EF (n:Nat) (f:Nat->Nat->Bool) (hn:n<=64) (l:List Nat) (hl:∀ i∈l,i < n) (vO:l.length<=1099511627776) :
  EvP Tryz.prog 194 [.sl 1 (ct (cW n f)) none,.sl 1 (dInts l) none] (.v (.int .i64 (oz (dT f n l)))):=by
 have dI:=fA n f;refine ev_go (P:=Tryz.prog) tt tt_ok 5000 40 [.tmp 4] Tryz.func194 rfl Tryz.ntmps194 rfl (nL rfl) (fun E9 w9 hn9 hm9=>?_);refine aq (fun j st=>∃ e:Nat,st=SY n f l e/\e<=n/\(∀ c,c < e->qG f n l c=false)/\j=n - e) n (SY n f l 0) (weak_mk ⟨_,rfl⟩ wA rfl rfl rfl wB) ⟨0,rfl,by omega,fun _ h=>by omega,by omega⟩ ?_;rintro j st ⟨e,rfl,he,eu,rfl⟩;refine br (fun hL=>?_) (fun hL=>?_)
 ·have al:e < n:=by simpa [dI] using hL
  refine call_p Qi (xT n f hn l hl vO e al) ax rfl ?_;refine aq (fun j st=>∃ k:Nat,st=B3 n f l e (nX f l e k) k/\k<=n/\j=n - k) n (B3 n f l e (nX f l e 0) 0) (weak_mk ⟨_,rfl⟩ wA rfl rfl rfl (by repeat' (first | exact trivial | exact ah rfl | exact cg (IF f l e).symm | refine ⟨⟨_,rfl,?_⟩,?_⟩))) ⟨0,rfl,by omega,by omega⟩ ?_;rintro j st ⟨k,rfl,hk,rfl⟩;refine br (fun jb=>?_) (fun jb=>?_)
  ·have fY:k < n:=by simpa [dI] using jb
   have IE:=IG f l e k;refine call_p Qi (xT n f hn l hl vO k fY) ax rfl ?_;refine br (fun g1=>?_) (fun g1=>?_)
   ·refine ⟨_,⟨by omega,cT al⟩,?_⟩;refine ⟨_,⟨by omega,cq fY⟩,?_⟩;refine br (fun g2=>?_) (fun g2=>?_)
    ·have hx:false=nX f l e (k + 1):=by simp [pickB] at g1 g2;rw [IE];simp [g1,g2]
     exact ⟨B3 n f l e (nX f l e (k + 1)) (k + 1),(weak_mk ⟨_,rfl⟩ wA rfl rfl rfl (by repeat' (first | exact trivial | exact ah rfl | exact ak (cA fY (by omega)) | exact cg hx | refine ⟨⟨_,rfl,?_⟩,?_⟩))),n - (k + 1),by omega,k + 1,rfl,by omega,rfl⟩
    ·have hx:nX f l e k=nX f l e (k + 1):=by simp [pickB] at g1 g2;rw [IE];simp [g1,g2]
     exact ⟨B3 n f l e (nX f l e (k + 1)) (k + 1),(weak_mk ⟨_,rfl⟩ wA rfl rfl rfl (by repeat' (first | exact trivial | exact ah rfl | exact ak (cA fY (by omega)) | exact cg hx | refine ⟨⟨_,rfl,?_⟩,?_⟩))),n - (k + 1),by omega,k + 1,rfl,by omega,rfl⟩
   ·have hx:nX f l e k=nX f l e (k + 1):=by simp [pickB] at g1;rw [IE];simp [g1]
    exact ⟨B3 n f l e (nX f l e (k + 1)) (k + 1),(weak_mk ⟨_,rfl⟩ wA rfl rfl rfl (by repeat' (first | exact trivial | exact ah rfl | exact ak (cA fY (by omega)) | exact cg hx | refine ⟨⟨_,rfl,?_⟩,?_⟩))),n - (k + 1),by omega,k + 1,rfl,by omega,rfl⟩
  ·have aN:k=n:=by have:=jb;simp [dI] at this;omega
   subst aN;refine br (fun g=>?_) (fun g=>?_)
   ·have g:qG f k l e=true:=g;rw [dT,cw al g eu];exact (rfl:_=_)
   ·have g:qG f k l e=false:=g;refine ⟨SY k f l (e + 1),(weak_mk ⟨_,rfl⟩ wA rfl rfl rfl (wNB al)),k - (e + 1),by omega,e + 1,rfl,by omega,fun j hj=>?_,rfl⟩;rcases Nat.lt_succ_iff_lt_or_eq.1 hj with hj | rfl
    ·exact eu j hj
    ·exact g
 ·have aN:e=n:=by have:=hL;simp [dI] at this;omega
  subst aN;rw [dT,cO eu];exact (rfl:_=_)
abbrev EG (lv:List Wd) (f:Nat->Nat->Bool) (l:List Wd) (q e:Nat):St:=
 ⟨[(0,⟨[],.sl 2 (bn lv) none⟩),(1,⟨[],.sl 1 (ct (cW lv.length f)) none⟩),(2,⟨[],.sl 2 (bn l) none⟩),(7,⟨[],.loc 0 0⟩),(8,⟨[],.sl 1 (dInts (kW (av lv) (l.take e))) (some 0)⟩),(9,⟨[],.v (.int .i64 e)⟩)],[[.v (.int .i64 0),.v (.int .i64 0)]],[⟨q,3,1,none⟩]⟩
theorem O7 {L:List ByteArray} {l:List Wd} {i:Nat} (h:i∈kW L l) (hL:0 < L.length):i < L.length:=by
 unfold kW at h;obtain ⟨w,_,rfl⟩:=List.mem_map.1 h
 cases hx:cx L w.s with
 | none=>simpa using hL
 | some p=>exact (cF hx).1
theorem EH {L:List ByteArray} {l:List Wd} {e i:Nat} {w:Wd} (h:l[e]? = some w) (hi:cx L w.s=some i):dInts (kW L (l.take e)) ++ [[DV.v (.int .i64 (oz (some i)))]]=dInts (kW L (l.take (e + 1))):=by
 rw [qI h hi];simp [dInts,oz]
theorem IH (lv:List Wd) (f:Nat->Nat->Bool) (h0:0 < lv.length) (hn:lv.length<=32) (hs:wdsWt lv<=1099511627776) (l:List Wd) (hl:wdsWt l<=1099511627776) :
  EvP Tryz.prog 133 [.sl 2 (bn lv) none,.sl 1 (ct (cW lv.length f)) none,.sl 2 (bn l) none] (Ip f (av lv) l):=by
 have ll:=bd l;have gj:=cS lv;unfold Ip zb;refine ev_go (P:=Tryz.prog) tt tt_ok 5000 40 [.tmp 6,.cell 7 54] Tryz.func133 rfl Tryz.ntmps133 rfl (nL rfl) (fun E9 w9 hn9 hm9=>?_);refine aq (fun j st=>∃ e:Nat,st=EG lv f l e e/\e<=l.length/\labW (av lv) l=labW (av lv) (l.drop e)/\j=l.length - e) l.length (EG lv f l 0 0) (eV ⟨0,3,1,none⟩ rfl ⟨_,rfl⟩ rfl wA rfl rfl Ah) ⟨0,rfl,by omega,rfl,by omega⟩ ?_;rintro j st ⟨e,rfl,he,aH,rfl⟩;rw [aH];refine br (fun hL=>?_) (fun hL=>?_)
 ·have al:e < l.length:=by simpa [aw] using hL
  obtain ⟨w,hw⟩:∃ w,l[e]? = some w:=⟨_,gE al⟩;have aS:=qH (L:=av lv) hw;refine ⟨iV w,⟨by omega,aK hw⟩,?_⟩;refine call_p tF (eI lv w.s hs) ax rfl ?_;refine br (fun ha=>?_) (fun ha=>?_)
  ·have ha:=eS.1 ha;rw [aS,if_pos ha];refine aX mo (by decide +kernel) ?_;refine ⟨iV w,⟨by omega,aK hw⟩,?_⟩;exact ⟨_,ax,rfl⟩
  ·cases hi:cx (av lv) w.s with
   | none=>have:=eS.2 hi;rw [ha] at this;cases this
   | some i=>
   rw [if_neg (by rw [hi];simp)] at aS;refine ⟨by simp [bf,kW];omega,⟨by simp [bf,kW,maxLen];omega,by simp [bf,kW];omega⟩,?_⟩;exact ⟨EG lv f l (e + 1) (e + 1),(weak_mk ⟨_,rfl⟩ wA rfl rfl rfl (by repeat' (first | exact trivial | exact ah rfl | exact ak (cA al (by omega)) | exact cI (EH hw hi) rfl | refine ⟨⟨_,rfl,?_⟩,?_⟩))),l.length - (e + 1),by omega,e + 1,rfl,by omega,aS,rfl⟩
 ·have aN:e=l.length:=by have:=hL;simp [aw] at this;omega
  rw [aN,List.drop_length,List.take_length];refine call_p VO (EF lv.length f (by omega) (kW (av lv) l) (fun i hi=>by have:=O7 hi (by omega);omega) (by simp [kW];omega)) ax rfl ?_;rw [<- gj];exact ⟨_,ax,rfl⟩
theorem SZ {S:Sch} {e:Nat} {x:Wd × Ty} (h:S.types[e]? = some x):(tL S)[e]? = some x.1.s:=by simp [tL,av,sr,h]
abbrev Ml (S:Sch) (s:ByteArray) (e:Nat):St:=
 ⟨[(1,⟨[],.v (.string s)⟩),(2,⟨[],.loc 0 0⟩),(5,⟨[],.v (.int .i64 e)⟩)],[ey S],[]⟩
theorem jJ (S:Sch) (s:ByteArray) (hl:S.types.length<=1099511627776) :
  EvP Tryz.prog 135 [.agg (ey S),.v (.string s)] (.v (.int .i64 (oz (cx (tL S) s)))):=by
 have hN:=dm S.types;have eM:=jc S;have im:=@SZ S;obtain ⟨ae,order,types,⟨rh,rp⟩⟩:=S;simp only at hl hN eM im;refine ev_go (P:=Tryz.prog) tt tt_ok 5000 23 [.tmp 4] Tryz.func135 rfl Tryz.ntmps135 rfl (nL rfl) (fun E9 w9 hn9 hm9=>?_);refine aq (fun j st=>∃ e:Nat,st=Ml ⟨ae,order,types,.mk rh rp⟩ s e/\e<=types.length/\(∀ j,j < e->(tL ⟨ae,order,types,.mk rh rp⟩)[j]? ≠ some s)/\j=types.length - e) types.length (Ml ⟨ae,order,types,.mk rh rp⟩ s 0) (weak_mk ⟨_,rfl⟩ wA rfl rfl rfl wB) ⟨0,rfl,by omega,fun _ h=>by omega,by omega⟩ ?_;rintro j st ⟨e,rfl,he,eu,rfl⟩;refine br (fun hL=>?_) (fun hL=>?_)
 ·have al:e < types.length:=by have:=hL;simp [hN] at this;exact this
  obtain ⟨x,hx⟩:∃ x,types[e]? = some x:=⟨_,gE al⟩;have hg:=im hx;obtain ⟨xw,⟨xh,xp⟩⟩:=x;refine ⟨_,⟨by omega,dNms_get hx⟩,?_⟩;refine br (fun hq=>?_) (fun hq=>?_)
  ·have hq:xw.s=s:=by simpa using hq
   rw [y9 (p:=e) (by rw [hg,hq]) (fun j hj=>Nat.le_of_not_lt fun hl=>eu j hl hj)];exact (rfl:_=_)
  ·have hq:¬ xw.s=s:=by simpa using hq
   refine ⟨Ml ⟨ae,order,types,.mk rh rp⟩ s (e + 1),(weak_mk ⟨_,rfl⟩ wA rfl rfl rfl (wNB al)),types.length - (e + 1),by omega,e + 1,rfl,by omega,fun j hj=>?_,rfl⟩;rcases Nat.lt_succ_iff_lt_or_eq.1 hj with hj | rfl
   ·exact eu j hj
   ·rw [hg];simpa using hq
 ·have aN:e=types.length:=by have:=hL;simp [hN] at this;omega
  rw [GP (fun j hj=>eu j (by omega))];exact (rfl:_=_)
abbrev Mm (S:Sch) (l:List Wd) (e:Nat):St:=
 ⟨[(1,⟨[],.sl 2 (bn l) none⟩),(2,⟨[],.loc 0 0⟩),(4,⟨[],.loc 1 0⟩),(5,⟨[],.v (.int .i64 e)⟩)],[ey S,[.v (.int .i64 0),.v (.int .i64 0)]],[]⟩
theorem B4 (S:Sch) (hs:wdsWt S.ae<=1099511627776) (l:List Wd) (hl:wdsWt l<=1099511627776) :
  EvP Tryz.prog 278 [.agg (ey S),.sl 2 (bn l) none] (labW (av S.ae) l).d:=by
 have ll:=bd l;obtain ⟨ae,order,types,⟨rh,rp⟩⟩:=S;simp only at hs;refine ev_go (P:=Tryz.prog) tt tt_ok 5000 28 [.cell 4 54] Tryz.func278 rfl Tryz.ntmps278 rfl (nL rfl) (fun E9 w9 hn9 hm9=>?_);refine aq (fun j st=>∃ e:Nat,st=Mm ⟨ae,order,types,.mk rh rp⟩ l e/\e<=l.length/\labW (av ae) l=labW (av ae) (l.drop e)/\j=l.length - e) l.length (Mm ⟨ae,order,types,.mk rh rp⟩ l 0) (weak_mk ⟨_,rfl⟩ wA rfl rfl rfl wB) ⟨0,rfl,by omega,rfl,by omega⟩ ?_;rintro j st ⟨e,rfl,he,aH,rfl⟩;rw [aH];refine br (fun hL=>?_) (fun hL=>?_)
 ·have al:e < l.length:=by simpa [aw] using hL
  obtain ⟨w,hw⟩:∃ w,l[e]? = some w:=⟨_,gE al⟩;have aS:=qH (L:=av ae) hw;refine aD (fun _=>false) mo (by decide +kernel) ?_;refine ⟨iV w,⟨by omega,aK hw⟩,?_⟩;refine aG tF (eI ae w.s hs) ax rfl ?_;refine br (fun ha=>?_) (fun ha=>?_)
  ·have ha:=eS.1 ha;rw [aS,if_pos ha];refine ⟨iV w,⟨by omega,aK hw⟩,?_⟩;exact ⟨_,ax,rfl⟩
  ·rw [if_neg (fun hn=>by have:=eS.2 hn;rw [ha] at this;cases this)] at aS;exact ⟨Mm ⟨ae,order,types,.mk rh rp⟩ l (e + 1),(weak_mk ⟨_,rfl⟩ wA rfl rfl rfl (wNB al)),l.length - (e + 1),by omega,e + 1,rfl,by omega,aS,rfl⟩
 ·have aN:e=l.length:=by have:=hL;simp [aw] at this;omega
  rw [aN,List.drop_length];exact ⟨_,ax,rfl⟩
def gh (l:List Ty):List (List DV):=l.map dx
theorem dn (l:List Ty):(gh l).length=l.length:=by simp [gh]
theorem jh {l:List Ty} {j:Nat} {t:Ty} (h:l[j]? = some t):(gh l)[j]? = some (dx t):=by simp [gh,h]
def er (S:Sch):List Ty:=S.types.map fun x=>x.2
def fb (S:Sch):List Ty:=er S ++ [S.root]
abbrev Mn (S:Sch) (q e:Nat):St:=
 ⟨[(1,⟨[],.loc 0 0⟩),(3,⟨[],.sl 9 (gh ((er S).take e)) (some 0)⟩),(4,⟨[],.v (.int .i64 e)⟩)],[ey S],[⟨q,40,9,none⟩]⟩
theorem B5 (S:Sch) (hl:S.types.length<=1099511627776) :
  EvP Tryz.prog 74 [.agg (ey S)] (.sl 9 (gh (fb S)) none):=by
 have hN:=dm S.types;obtain ⟨ae,order,types,⟨rh,rp⟩⟩:=S;simp only at hl hN;refine ev_go (P:=Tryz.prog) tt tt_ok 5000 26 [.tmp 2] Tryz.func74 rfl Tryz.ntmps74 rfl (nL rfl) (fun E9 w9 hn9 hm9=>?_);refine aq (fun j st=>∃ e:Nat,st=Mn ⟨ae,order,types,.mk rh rp⟩ e e/\e<=types.length/\j=types.length - e) types.length (Mn ⟨ae,order,types,.mk rh rp⟩ 0 0) (dO 1 ⟨0,40,9,none⟩ rfl rfl rfl (by repeat' (first | exact rfl | exact ah rfl | exact bm (Nat.le_refl _) rfl | exact bm (Nat.le_refl _) rfl | refine ⟨_,_,rfl,?_,?_⟩)) rfl rfl Ah) ⟨0,rfl,by omega,by omega⟩ ?_;rintro j st ⟨e,rfl,he,rfl⟩;have eM:(gh ((er ⟨ae,order,types,.mk rh rp⟩).take e)).length=e:=by simp [gh,er];omega
 refine br (fun hL=>?_) (fun hL=>?_)
 ·have al:e < types.length:=by have:=hL;simp [hN] at this;exact this
  obtain ⟨x,hx⟩:∃ x,types[e]? = some x:=⟨_,gE al⟩
  have gR:gh ((er ⟨ae,order,types,.mk rh rp⟩).take e) ++ [dx x.2]=gh ((er ⟨ae,order,types,.mk rh rp⟩).take (e + 1)):=by
   rw [List.take_add_one];simp [er,hx,gh]
  obtain ⟨xw,⟨xh,xp⟩⟩:=x;refine ⟨_,⟨by omega,dNms_get hx⟩,?_⟩;refine ⟨eM,⟨by rw [eM];simp [maxLen];omega,by rw [eM];simp;omega⟩,?_⟩;exact ⟨Mn ⟨ae,order,types,.mk rh rp⟩ (e + 1) (e + 1),(ay 1 rfl (F1 al gR) rfl rfl rfl (yF al gR)),types.length - (e + 1),by omega,e + 1,rfl,by omega,rfl⟩
 ·have aN:e=types.length:=by have:=hL;simp [hN] at this;omega
  have N3:gh ((er ⟨ae,order,types,.mk rh rp⟩).take e) ++ [dx (.mk rh rp)]=gh (fb ⟨ae,order,types,.mk rh rp⟩):=by
   rw [List.take_of_length_le (by simp [er];omega)];simp [fb,gh]
  refine ⟨eM,⟨by rw [eM];simp [maxLen];omega,by rw [eM];simp;omega⟩,?_⟩;rw [<- N3];exact ⟨_,ax,rfl⟩
mutual
def flatT:Ty->List Ty
 | .mk h ps=>if h.ag=9 then [] else .mk h ps :: flatP ps
def flatP:Pts->List Ty
 | .nil=>[]
 | .cons p t r=>(if p.bare then [] else flatT t) ++ flatP r
end
mutual
theorem iF:∀ t:Ty,(flatT t).length=t.nn
 | .mk h ps=>by
  have:=qP ps;simp only [flatT,Ty.nn];split
  ·rfl
  ·simp only [List.length_cons];omega
theorem qP:∀ ps:Pts,(flatP ps).length=ps.nn
 | .nil=>rfl
 | .cons p t r=>by
  have:=iF t;have:=qP r;simp only [flatP,Pts.nn,List.length_append];split
  ·simp only [List.length_nil];omega
  ·omega
end
theorem O8 {P:Program} {f:FuncId} {args:List DV} {e:Nat} {es:List (List DV)} (h:Ev P f args [] [] (fun r _ _=>r = .sl e es none∨(es=[]/\r = .v (.slice none 0 0)))):EvP P f args (.sl e es none):=by
 intro E w vs hE ht hv;refine (h E w vs hE ht hv).mono ?_;rintro e' w' ⟨v,rfl,hM,hs,d,os,E',h1,h2,h3,h4,h5,h6⟩;rcases h6 with rfl | ⟨rfl,rfl⟩
 ·exact ⟨v,rfl,hM,hs,_,os,E',h1,h2,h3,h4,h5,rfl⟩
 ·refine ⟨v,rfl,hM,hs,.sl e [] none,os,E',h1,h2,h3,h4,?_,rfl⟩;unfold Rv at h5 ⊢;exact ⟨_,0,0,h5.1,⟨rfl,Nat.le_refl _⟩,fun hn=>(hn rfl).elim,fun k hk=>by cases hk⟩
abbrev O9 (t:Ty) (L:List Ty) (q e:Nat):St:=
 ⟨[(1,⟨[],.loc 0 0⟩),(3,⟨[],.sl 9 (gh L) (some 0)⟩),(4,⟨[],.v (.int .i64 e)⟩)],[dx t],[⟨q,40,9,none⟩]⟩
theorem mQ:∀ (k:Nat) (t:Ty),t.wt<=k->t.wt<=1099511627776 ->
  EvP Tryz.prog 75 [.agg (dx t)] (.sl 9 (gh (flatT t)) none)
 | 0,t,hn,_=>by have:=t.dr;omega
 | k + 1,.mk h ps,hn,bS=>by
  simp only [Ty.wt,Hd.wt] at hn bS;have jt:=ps.eO;have hc:=ps.dQ;have lF:=ps.fo;have J3:=qP ps;refine O8 ?_;refine yE (s:=false) (bt:=[]) (mu:=[9]) (hbt:=fun p hp=>by cases hp) (fr:=false) (P:=Tryz.prog) tt tt_ok 5000 34 [.tmp 2] Tryz.func75 rfl Tryz.ntmps75 rfl (nL rfl) (fun E9 w9 hn9 hm9=>?_);refine br (fun h9=>?_) (fun h9=>?_)
  ·have h9:h.ag=9:=by simpa using h9
   have:flatT (.mk h ps)=[]:=by simp [flatT,h9]
   exact .inr ⟨by rw [this];rfl,rfl⟩
  have h9:¬ h.ag=9:=by simpa using h9
  have JH:flatT (.mk h ps) = .mk h ps :: flatP ps:=by simp [flatT,h9]
  refine SK rfl rfl rfl rfl rfl rfl rfl rfl ?_
  refine aq (fun j st=>∃ (e q:Nat) (L:List Ty),st=O9 (.mk h ps) L q e/\q=L.length/\e<=ps.len/\flatT (.mk h ps)=L ++ flatP (ps.drop e)/\j=ps.len - e) ps.len
   (O9 (.mk h ps) [.mk h ps] 1 0) (ay 1 rfl (by repeat' (first | exact rfl | exact ah rfl | exact ah rfl | refine ⟨_,_,rfl,?_,?_⟩)) rfl rfl rfl (by repeat' (first | exact trivial | exact ah rfl | exact ah rfl | refine ⟨⟨_,rfl,?_⟩,?_⟩))) ⟨0,1,_,rfl,rfl,by omega,JH,by omega⟩ ?_
  rintro j st ⟨e,q,L,rfl,hq,he,aR,rfl⟩
  have XG:L.length<=1 + ps.nn:=by
   have:=congrArg List.length aR;rw [JH] at this;simp at this;omega
  refine br (fun hL=>?_) (fun hL=>?_)
  ·have al:e < ps.len:=by simpa [aE] using hL
   obtain ⟨p,t,hx⟩:=Pts.dP al;have Ba:=Pts.fk (mG hx);rw [Pts.drop_cons hx] at aR;simp only [flatP] at aR;obtain ⟨u,us⟩:=t;refine ⟨_,⟨by omega,bz hx⟩,?_⟩;refine br (fun hB=>?_) (fun hB=>?_)
   ·have hB:p.bare=false:=by simpa using hB
    have aR:flatT (.mk h ps)=(L ++ flatT (.mk u us)) ++ flatP (ps.drop (e + 1)):=by rw [aR,hB,List.append_assoc];all_goals rfl
    have vO:L.length + (flatT (.mk u us)).length<=1 + ps.nn:=by
     have:=congrArg List.length aR;rw [JH] at this;simp at this;omega
    have gR:gh L ++ gh (flatT (.mk u us))=gh (L ++ flatT (.mk u us)):=by simp [gh]
    refine ⟨_,⟨by omega,bz hx⟩,?_⟩;refine call_p On (mQ k (.mk u us) (by omega) (by omega)) ax rfl ?_;refine ⟨by rw [dn,hq],⟨by simp only [dn,maxLen];omega,by simp only [dn];omega⟩,?_⟩;exact ⟨O9 (.mk h ps) (L ++ flatT (.mk u us)) (q + (gh (flatT (.mk u us))).length) (e + 1),(ay 1 rfl (F1 al gR) rfl rfl rfl (yF al gR)),ps.len - (e + 1),by omega,e + 1,_,_,rfl,by rw [dn,List.length_append,hq],by omega,aR,rfl⟩
   ·have hB:p.bare=true:=by simpa using hB
    rw [hB] at aR;exact ⟨O9 (.mk h ps) L q (e + 1),(ay 1 rfl (C6 al) rfl rfl rfl (wNB al)),ps.len - (e + 1),by omega,e + 1,q,L,rfl,hq,by omega,aR,rfl⟩
  ·have aN:e=ps.len:=by simp [aE] at hL;omega
   rw [aN,Pts.cJ] at aR;simp only [flatP,List.append_nil] at aR;rw [aR];exact ⟨_,ax,.inl rfl⟩
theorem uS (S:Sch) (hl:S.types.length<=1099511627776) (hr:∀ x∈S.types,ss S x.2=true):∀ (k i:Nat),i < S.types.length->k<=99 ->
  EvP Tryz.prog 134 [.agg (ey S),.v (.int .i64 i),.v (.int .i64 k)] (.v (.int .i64 (oz (endI S (k + 1) i))))
 | k,i,hi,hk=>by
  have hN:=dm S.types;have za:=fun s=>jJ S s hl;have ih:∀ k' j,k=k' + 1->j < S.types.length->EvP Tryz.prog 134 [.agg (ey S),.v (.int .i64 j),.v (.int .i64 k')] (.v (.int .i64 (oz (endI S (k' + 1) j)))):=fun k' j he hj=>uS S hl hr k' j hj (by omega);obtain ⟨x,hx⟩:∃ x,S.types[i]? = some x:=⟨_,gE hi⟩;have wb:=hr x (mG hx);have eM:=jc S;obtain ⟨xw,⟨xh,xp⟩⟩:=x;have hE:endI S (k + 1) i=if xh.ag=9 then endI S k ((cx (tL S) xh.name.s).getD 0) else some i:=by rw [endI,hx];all_goals rfl
  obtain ⟨ae,order,types,⟨rh,rp⟩⟩:=S;simp only at hl hN hi hx wb eM;refine ev_go (P:=Tryz.prog) tt tt_ok 5000 32 [.tmp 6] Tryz.func134 rfl Tryz.ntmps134 rfl (nL rfl) (fun E9 w9 hn9 hm9=>?_);refine ⟨_,⟨by omega,dNms_get hx⟩,?_⟩;refine br (fun h9=>?_) (fun h9=>?_)
  ·have h9:¬ xh.ag=9:=by simpa using h9
   rw [if_neg h9] at hE;rw [hE];exact (rfl:_=_)
  have h9:xh.ag=9:=by simpa using h9
  rw [if_pos h9] at hE;rw [hE];refine br (fun h1=>?_) (fun h1=>?_)
  ·have h1:k=0:=by have:=h1;simp at this;omega
   subst h1;exact (rfl:_=_)
  have h1:1<=k:=by have:=h1;simp at this;omega
  obtain ⟨k',rfl⟩:∃ k',k=k' + 1:=⟨k - 1,by omega⟩;have Kh:=of_decide_eq_true wb h9;obtain ⟨j,hj⟩:∃ j,cx (tL ⟨ae,order,types,.mk rh rp⟩) xh.name.s=some j:=Option.ne_none_iff_exists'.1 Kh;have ng:=(cF hj).1;rw [eM] at ng;have hf:=za xh.name.s;rw [hj] at hf ⊢;have fI:IntKind.i64.wrap (((k' + 1:Nat):Int) - 1)=(k':Int):=by rw [wrap64 (by omega) (by omega)];omega
  refine aD (fun _=>false) mo (by decide +kernel) ?_;refine ⟨_,⟨by omega,dNms_get hx⟩,?_⟩;refine aG Gc (hf) ax rfl ?_;refine aG Ks (ih k' j rfl ng) (by repeat' (first | exact rfl | exact trivial | exact Or.inr (Or.inl ⟨_,rfl⟩) | exact Or.inr ⟨_,rfl⟩ | exact Or.inl ⟨rfl,rfl⟩ | exact Or.inl rfl | refine Or.inr ⟨_,_,rfl,Nat.zero_le _,rfl,?_⟩ | refine ⟨_,_,rfl,?_,?_⟩ | refine ⟨_,rfl,?_⟩ | exact congrArg (fun z=>DV.v (.int .i64 z)) fI| refine Or.inr (Or.inr (Or.inr ⟨_,_,rfl,?_⟩)) | exact Or.inl rfl | refine Or.inr ?_)) rfl ?_;exact (rfl:_=_)
theorem qQ {S:Sch}:∀ {k i j:Nat},endI S k i=some j->endI S (k + 1) i=some j
 | 0,i,j,h=>by cases h
 | k + 1,i,j,h=>by
  rw [endI] at h ⊢
  cases hx:S.types[i]? with
  | none=>rw [hx] at h;cases h
  | some x=>
   rw [hx] at h;simp only at h ⊢;split at h
   ·rename_i h9;rw [if_pos h9];exact qQ h
   ·rename_i h9;rw [if_neg h9];exact h
def we (S:Sch) (k:Nat):List Bool:=(List.range S.types.length).map fun i=>(endI S k i).isSome
theorem po (S:Sch) (k:Nat):(we S k).length=S.types.length:=by simp [we]
theorem uT {S:Sch} {k i:Nat} (hi:i < S.types.length):(we S k).getD i false=(endI S k i).isSome:=by
 simp [we,List.getD_eq_getElem?_getD,List.getElem?_range hi]
theorem Pa (S:Sch) (k:Nat):OC (we S k) (we S (k + 1)):=by
 intro i h;by_cases hi:i < S.types.length
 ·rw [uT hi] at h ⊢;obtain ⟨j,hj⟩:=Option.isSome_iff_exists.1 h;rw [qQ hj];rfl
 ·rw [List.getD_eq_getElem?_getD,List.getElem?_eq_none (by rw [po];omega)] at h;cases h
theorem Mo {S:Sch} {k:Nat} (h:we S k=we S (k + 1)):∀ i,endI S (k + 2) i=endI S (k + 1) i:=by
 intro i
 have key:∀ {j:Nat},j < S.types.length->(endI S k j).isSome=(endI S (k + 1) j).isSome:=fun {j} hj=>by
  rw [<- uT hj,<- uT hj,h]
 have same:∀ j,endI S (k + 1) j=endI S k j:=fun j=>by
  cases h1:endI S k j with
  | some m=>exact qQ h1
  | none=>
   cases h2:endI S (k + 1) j with
   | none=>rfl
   | some m=>
    have hj:j < S.types.length:=by
     rw [endI] at h2
     cases hx:S.types[j]? with
     | none=>rw [hx] at h2;cases h2
     | some x=>exact (gS hx).1
    have:=key hj;rw [h1,h2] at this;cases this
 rw [endI,endI]
 cases hx:S.types[i]? with
 | none=>rfl
 | some x=>
  simp only;split
  ·exact same _
  ·rfl
theorem xU (S:Sch):∀ k,(∀ i,endI S (k + 1) i=endI S k i)∨k<=uo (we S k)
 | 0=>.inr (Nat.zero_le _)
 | k + 1=>by
  rcases xU S k with h | h
  ·refine .inl fun i=>?_;rw [endI,endI]
   cases hx:S.types[i]? with
   | none=>rfl
   | some x=>
    simp only;split
    ·exact h _
    ·rfl
  ·rcases (uq (by rw [po,po]) (Pa S k)).1 with h2 | h2
   ·exact .inl (Mo h2)
   ·exact .inr (by omega)
theorem B6 {S:Sch}:∀ {k:Nat},S.types.length + 1<=k->∀ i,endI S k i=endI S (S.types.length + 1) i:=by
 have aS:∀ i,endI S (S.types.length + 2) i=endI S (S.types.length + 1) i:=fun i=>by
  rcases xU S (S.types.length + 1) with h | h
  ·exact h i
  ·have:=GA (we S (S.types.length + 1));rw [po] at this;omega
 have key:∀ d i,endI S (S.types.length + 1 + (d + 1)) i=endI S (S.types.length + 1 + d) i:=by
  intro d
  induction d with
  | zero=>exact aS
  | succ d ih=>
   intro i;show endI S (S.types.length + 1 + (d + 1) + 1) i=endI S (S.types.length + 1 + d + 1) i;rw [endI,endI]
   cases hx:S.types[i]? with
   | none=>rfl
   | some x=>
    simp only;split
    ·exact ih _
    ·rfl
 intro k hk i;obtain ⟨d,rfl⟩:∃ d,k=S.types.length + 1 + d:=⟨k - (S.types.length + 1),by omega⟩;clear hk
 induction d with
 | zero=>rfl
 | succ d ih=>rw [key,ih]
theorem uU (S:Sch) (hl:S.types.length<=64) (hr:∀ x∈S.types,ss S x.2=true) (i:Nat) (hi:i < S.types.length) :
  EvP Tryz.prog 134 [.agg (ey S),.v (.int .i64 i),.v (.int .i64 (99:Nat))] (.v (.int .i64 (oz (endI S (S.types.length + 1) i)))):=by
 have:=uS S (by omega) hr 99 i hi (Nat.le_refl _)
 rwa [B6 (by omega)] at this
abbrev Mp (S:Sch) (k n e:Nat):St:=
 ⟨[(2,⟨[],.loc 0 0⟩),(5,⟨[],.v (.int .i64 k)⟩),(6,⟨[],.v (.int .i64 n)⟩),(7,⟨[],.v (.int .i64 e)⟩)],[ey S],[]⟩
theorem uV (S:Sch) (hl:S.types.length<=64) (hs:nmsWt S.types<=1099511627776) (hr:∀ x∈S.types,ss S x.2=true) (s:ByteArray) (i k:Nat) (hi:cx (tL S) s=some i) (hk:endI S (S.types.length + 1) i=some k) :
  EvP Tryz.prog 77 [.agg (ey S),.v (.string s)] (.v (.int .i64 (firstA S k))):=by
 have hN:=dm S.types;have JA:=(cF hi).1;rw [jc] at JA;have iP:=(pf hk).1;have hf:=jJ S s (by omega);have he:=uU S hl hr i JA;rw [hi] at hf;rw [hk] at he;have hfa:=@ma S;have GH:=xK S;obtain ⟨ae,order,types,⟨rh,rp⟩⟩:=S;simp only at hl hs hN JA iP hfa GH;refine ev_go (P:=Tryz.prog) tt tt_ok 5000 29 [.tmp 4] Tryz.func77 rfl Tryz.ntmps77 rfl (nL rfl) (fun E9 w9 hn9 hm9=>?_);refine aD (fun _=>false) mo (by decide +kernel) ?_;refine aG Gc (hf) ax rfl ?_;refine aG Ks (he) ax rfl ?_;refine aq (fun j st=>∃ e:Nat,st=Mp ⟨ae,order,types,.mk rh rp⟩ k (firstA ⟨ae,order,types,.mk rh rp⟩ e) e/\e<=k/\j=k - e) k (Mp ⟨ae,order,types,.mk rh rp⟩ k (firstA ⟨ae,order,types,.mk rh rp⟩ 0) 0) (weak_mk ⟨_,rfl⟩ wA rfl rfl rfl wB) ⟨0,rfl,by omega,by omega⟩ ?_;rintro j st ⟨e,rfl,hek,rfl⟩;refine br (fun hL=>?_) (fun hL=>?_)
 ·have al:e < k:=by simpa using hL
  obtain ⟨x,hx⟩:∃ x,types[e]? = some x:=⟨_,gE (by omega)⟩;have Qw:=fx (mG hx);have h1:=hfa hx;have h2:=GH e;have h3:=GH (e + 1);have h4:=iF x.2;obtain ⟨xw,⟨xh,xp⟩⟩:=x;simp only at Qw h1 h4;refine ⟨_,⟨by omega,dNms_get hx⟩,?_⟩;refine call_p On (mQ _ (.mk xh xp) (Nat.le_refl _) (by omega)) ax rfl ?_
  have rA:IntKind.i64.wrap ((firstA ⟨ae,order,types,.mk rh rp⟩ e:Int) + (gh (flatT (.mk xh xp))).length)=(firstA ⟨ae,order,types,.mk rh rp⟩ (e + 1):Int):=by
   rw [dn,wrap64 (by omega) (by omega)];omega
  exact ⟨Mp ⟨ae,order,types,.mk rh rp⟩ k (firstA ⟨ae,order,types,.mk rh rp⟩ (e + 1)) (e + 1),(weak_mk ⟨_,rfl⟩ wA rfl rfl rfl (by repeat' (first | exact trivial | exact ah rfl | exact ak rA | exact ak (cA al (by omega)) | refine ⟨⟨_,rfl,?_⟩,?_⟩))),k - (e + 1),by omega,e + 1,rfl,by omega,rfl⟩
 ·have aN:e=k:=by have:=hL;simp at this;omega
  subst aN;exact (rfl:_=_)
theorem GR {S:Sch} {e:Nat} {x:Wd × Ty} (h:S.types[e]? = some x):(sr S)[e]? = some x.1:=by simp [sr,h]
abbrev Mq (S:Sch) (e:Nat):St:=
 ⟨[(1,⟨[],.loc 0 0⟩),(2,⟨[],.loc 1 0⟩),(3,⟨[],.v (.int .i64 e)⟩)],[ey S,[.v (.int .i64 0),.v (.int .i64 0)]],[]⟩
theorem zk (S:Sch) (hs:nmsWt S.types<=1099511627776) :
  EvP Tryz.prog 232 [.agg (ey S)] (dC S).d:=by
 have hN:=dm S.types;have gj:=iC S.types;have eM:=GL S;have hF:=dC.eq_1 S;have im:=@GR S;have za:=fun s=>jJ S s (by omega);have Xd:tL S=av (sr S):=rfl;obtain ⟨ae,order,types,⟨rh,rp⟩⟩:=S;simp only at hs hN gj eM im hF;generalize hQ:sr ⟨ae,order,types,.mk rh rp⟩=Q at eM hF im Xd;refine ev_go (P:=Tryz.prog) tt tt_ok 5000 47 [.cell 2 54] Tryz.func232 rfl Tryz.ntmps232 rfl (nL rfl) (fun E9 w9 hn9 hm9=>?_);generalize dC ⟨ae,order,types,.mk rh rp⟩=F at hF ⊢;refine br (fun h=>?_) (fun h=>?_)
 ·have h:64 < types.length:=by simp [hN] at h;omega
  obtain ⟨x,hx⟩:∃ x,types[64]? = some x:=⟨_,gE h⟩;have SA:=im hx;rw [if_pos h,jF SA] at hF;obtain ⟨xw,⟨xh,xp⟩⟩:=x;refine ⟨_,⟨by omega,dNms_get hx⟩,?_⟩;refine ⟨_,?_,rfl⟩;rw [hF];exact ax
 have h:¬ 64 < types.length:=by simp [hN] at h;omega
 rw [if_neg h] at hF;refine aq (fun j st=>∃ e:Nat,st=Mq ⟨ae,order,types,.mk rh rp⟩ e/\e<=types.length/\enumL Q 0 Q=enumL Q e (Q.drop e)/\j=types.length - e) types.length (Mq ⟨ae,order,types,.mk rh rp⟩ 0) (weak_mk ⟨_,rfl⟩ wA rfl rfl rfl wB) ⟨0,rfl,by omega,rfl,by omega⟩ ?_;rintro j st ⟨e,rfl,he,aH,rfl⟩;rw [aH] at hF;refine br (fun hL=>?_) (fun hL=>?_)
 ·have al:e < types.length:=by have:=hL;simp [hN] at this;exact this
  obtain ⟨x,hx⟩:∃ x,types[e]? = some x:=⟨_,gE al⟩;have Qw:=fx (mG hx);have hq:=im hx;have aS:=nR hq;obtain ⟨p,hp,FV⟩:=Mf hq;obtain ⟨xw,⟨xh,xp⟩⟩:=x;simp only [Wd.wt] at Qw hq aS hp FV;have hf:=za xw.s;rw [Xd,hp] at hf;have hlab:=kN [xw] (by simp only [wdsWt,Wd.wt];omega);have Ak:bu [xw]=if aU xw.s then (0,0) else (9,xw.a):=by simp [bu,badWd]
  refine ⟨_,⟨by omega,dNms_get hx⟩,?_⟩;refine call_p KD (hlab) ax rfl ?_;refine br (fun hN=>?_) (fun hN=>?_)
  ·have hN:(bu [xw]).1≠0:=by simpa using hN
   cases bE:aU xw.s with
   | true=>rw [Ak,bE] at hN;exact absurd rfl hN
   | false=>
   rw [bE] at Ak;have Ak:bu [xw]=(9,xw.a):=Ak;have hf9:aA Q e xw=9:=by simp [aA,bE]
   rw [aS,hf9,if_pos (by decide)] at hF;refine ⟨_,?_,rfl⟩;rw [hF,Ak];exact ax
  ·have hN:(bu [xw]).1=0:=by simpa using hN
   cases bE:aU xw.s with
   | false=>rw [Ak,bE] at hN;exact absurd hN (by simp)
   | true=>
   refine call_p Gc (hf) ax rfl ?_;refine br (fun h2=>?_) (fun h2=>?_)
   ·have h2:p < e:=by have:=h2;simp [oz] at this;exact this
    have hf10:aA Q e xw=10:=by simp [aA,bE,FV.1 h2]
    rw [aS,hf10,if_pos (by decide)] at hF;refine ⟨_,?_,rfl⟩;rw [hF];exact ax
   ·have h2:¬ p < e:=by have:=h2;simp [oz] at this;omega
    have hd:bp (Q.take e) xw.s=false:=by
     cases hd:bp (Q.take e) xw.s
     ·rfl
     ·exact absurd (FV.2 hd) h2
    have hf0:aA Q e xw=0:=by simp [aA,bE,hd]
    rw [hf0,if_neg (by simp)] at aS;exact ⟨Mq ⟨ae,order,types,.mk rh rp⟩ (e + 1),(weak_mk ⟨_,rfl⟩ wA rfl rfl rfl (wNB al)),types.length - (e + 1),by omega,e + 1,rfl,by omega,by rw [aH,aS],rfl⟩
 ·have aN:e=types.length:=by have:=hL;simp [hN] at this;omega
  rw [aN,<- eM,List.drop_length] at hF;refine ⟨_,?_,rfl⟩;rw [hF];exact ax
abbrev xV (S:Sch) (t:Ty) (e:Nat):St:=
 ⟨[(2,⟨[],.loc 0 0⟩),(3,⟨[],.loc 1 0⟩),(4,⟨[],.loc 2 0⟩),(5,⟨[],.v (.int .i64 e)⟩)],[ey S,dx t,[.v (.int .i64 0),.v (.int .i64 0)]],[]⟩
theorem pq (S:Sch) (hl:S.types.length<=1099511627776) (hs:wdsWt S.ae<=1099511627776):∀ (k:Nat) (t:Ty),t.wt<=k->t.wt<=1099511627776 ->
  EvP Tryz.prog 234 [.agg (ey S),.agg (dx t)] (jH S t).d
 | 0,t,hn,_=>by have:=t.dr;omega
 | k + 1,.mk h ps,hn,bS=>by
  have ih:=pq S hl hs k;simp only [Ty.wt,Hd.wt] at hn bS;have jt:=ps.eO;have hf:=jJ S h.name.s hl;have YS:=fun l hl=>B4 S hs l hl;have hS:jH S (.mk h ps)=if h.ag=9/\cx (tL S) h.name.s=none then (15,h.name.a) else knP ⟨av S.ae,[],[],[],fun _ _=>false⟩ (tL S) ps:=by rw [jH,knT]
  have TZ:knP ⟨av S.ae,[],[],[],fun _ _=>false⟩ (tL S) ps=knP ⟨av S.ae,[],[],[],fun _ _=>false⟩ (tL S) (ps.drop 0):=by rw [Pts.drop]
  have hK:∀ e p u,ps.toList[e]? = some (p,u)->knP ⟨av S.ae,[],[],[],fun _ _=>false⟩ (tL S) (ps.drop e)=if (labW (av S.ae) p.label).1≠0 then labW (av S.ae) p.label else if (labW (av S.ae) p.cl).1≠0 then labW (av S.ae) p.cl else if p.bare then knP ⟨av S.ae,[],[],[],fun _ _=>false⟩ (tL S) (ps.drop (e + 1)) else if (jH S u).1≠0 then jH S u else knP ⟨av S.ae,[],[],[],fun _ _=>false⟩ (tL S) (ps.drop (e + 1)):=fun e p u hx=>by
   rw [Pts.drop_cons hx,knP];all_goals rfl
  have Xs:knP ⟨av S.ae,[],[],[],fun _ _=>false⟩ (tL S) .nil=(0,0):=by rw [knP]
  generalize knP ⟨av S.ae,[],[],[],fun _ _=>false⟩ (tL S)=KP at hS TZ hK Xs;obtain ⟨ae,order,types,⟨rh,rp⟩⟩:=S;refine ev_go (P:=Tryz.prog) tt tt_ok 5000 64 [.cell 4 54] Tryz.func234 rfl Tryz.ntmps234 rfl (nL rfl) (fun E9 w9 hn9 hm9=>?_);generalize jH ⟨ae,order,types,.mk rh rp⟩ (.mk h ps)=F at hS ⊢;refine have body:=?_;br (fun h9=>call_p Gc hf ax rfl (br (fun hx=>?_) (fun hx=>aq (fun j st=>∃ e:Nat,st=xV ⟨ae,order,types,.mk rh rp⟩ (.mk h ps) e/\e<=ps.len/\F=KP (ps.drop e)/\j=ps.len - e) ps.len (xV ⟨ae,order,types,.mk rh rp⟩ (.mk h ps) 0) (weak_mk ⟨_,rfl⟩ wA rfl rfl rfl wB) ⟨0,rfl,by omega,?_,by omega⟩ body))) (fun h9=>aq (fun j st=>∃ e:Nat,st=xV ⟨ae,order,types,.mk rh rp⟩ (.mk h ps) e/\e<=ps.len/\F=KP (ps.drop e)/\j=ps.len - e) ps.len (xV ⟨ae,order,types,.mk rh rp⟩ (.mk h ps) 0) (weak_mk ⟨_,rfl⟩ wA rfl rfl rfl wB) ⟨0,rfl,by omega,?_,by omega⟩ body)
  rotate_left
  ·have h9:h.ag=9:=by simpa using h9
   have hx:cx (tL ⟨ae,order,types,.mk rh rp⟩) h.name.s=none:=eS.1 (by simpa [pickB] using hx);rw [if_pos ⟨h9,hx⟩] at hS;refine ⟨_,?_,rfl⟩;rw [hS];exact ax
  ·have hx:¬ cx (tL ⟨ae,order,types,.mk rh rp⟩) h.name.s=none:=fun hn=>by
    have h3:=eS.2 hn;simp [pickB] at hx;have h3:=of_decide_eq_true h3;omega
   rw [if_neg (fun hc=>hx hc.2),TZ] at hS;exact hS
  ·have h9:¬ h.ag=9:=by simpa using h9
   rw [if_neg (fun hc=>h9 hc.1),TZ] at hS;exact hS
  rintro j st ⟨e,rfl,he,aH,rfl⟩;refine br (fun hL=>?_) (fun hL=>?_)
  ·have al:e < ps.len:=by simpa [aE] using hL
   obtain ⟨p,t,hx⟩:=Pts.dP al;have Ba:=Pts.fk (mG hx);have hk:=hK e p t hx;have hw1:wdsWt p.label + wdsWt p.cl<=p.wt:=by simp only [Ph.wt];omega
   obtain ⟨u,us⟩:=t;refine ⟨_,⟨by omega,bz hx⟩,?_⟩;refine call_p Qn (YS p.label (by omega)) ax rfl ?_;refine br (fun b1=>?_) (fun b1=>?_)
   ·have b1:(labW (av ae) p.label).1=0:=by simpa using b1
    rw [if_neg (by simp [b1])] at hk;refine call_p Qn (YS p.cl (by omega)) ax rfl ?_;refine br (fun b2=>?_) (fun b2=>?_)
    ·have b2:(labW (av ae) p.cl).1=0/\p.bare=false:=by
      rw [pickB_and] at b2;simpa using b2
     obtain ⟨b2,b3⟩:=b2;rw [if_neg (by simp [b2]),if_neg (by simp [b3])] at hk;refine call_p KC (ih (.mk u us) (by omega) (by omega)) ax rfl ?_;refine br (fun b4=>?_) (fun b4=>?_)
     ·have b4:(jH ⟨ae,order,types,.mk rh rp⟩ (.mk u us)).1≠0:=by simpa using b4
      rw [if_pos b4] at hk
      (refine ⟨_,?_,rfl⟩;rw [aH,hk];exact ax)
     ·have b4:(jH ⟨ae,order,types,.mk rh rp⟩ (.mk u us)).1=0:=by simpa using b4
      rw [if_neg (by simp [b4])] at hk;exact ⟨xV ⟨ae,order,types,.mk rh rp⟩ (.mk h ps) (e + 1),(weak_mk ⟨_,rfl⟩ wA rfl rfl rfl (wNB al)),ps.len - (e + 1),by omega,e + 1,rfl,by omega,by rw [aH,hk],rfl⟩
    ·refine br (fun b4=>?_) (fun b4=>?_)
     ·have b4:(labW (av ae) p.cl).1≠0:=by simpa using b4
      rw [if_pos b4] at hk
      (refine ⟨_,?_,rfl⟩;rw [aH,hk];exact ax)
     ·have b4:(labW (av ae) p.cl).1=0:=by simpa using b4
      have b3:p.bare=true:=by
       rw [pickB_and] at b2;simpa [b4] using b2
      rw [if_neg (by simp [b4]),if_pos b3] at hk;exact ⟨xV ⟨ae,order,types,.mk rh rp⟩ (.mk h ps) (e + 1),(weak_mk ⟨_,rfl⟩ wA rfl rfl rfl (wNB al)),ps.len - (e + 1),by omega,e + 1,rfl,by omega,by rw [aH,hk],rfl⟩
   ·have b1:¬ (labW (av ae) p.label).1=0:=by simpa using b1
    rw [if_pos b1] at hk;refine br (fun b2=>?_) (fun b2=>?_)
    ·rw [pickB_and] at b2;simp [b1] at b2
    ·refine br (fun b4=>?_) (fun b4=>?_)
     ·(refine ⟨_,?_,rfl⟩;rw [aH,hk];exact ax)
     ·simp [b1] at b4
  ·have aN:e=ps.len:=by simp [aE] at hL;omega
   rw [aN,Pts.cJ] at aH;refine ⟨_,?_,rfl⟩;rw [aH,Xs];exact ax
abbrev zl (h:Hd) (ps:Pts) (e:Nat) (depth m:Int):St:=
 ⟨[(2,⟨[],.v (.int .i64 depth)⟩),(3,⟨[],.loc 0 0⟩),(4,⟨[],.loc 1 0⟩),(6,⟨[],.loc 2 0⟩),(7,⟨[],.v (.int .i64 e)⟩)],[[.v (.int .i64 0),.v (.int .i64 0),.v (.int .i64 m)],dx (.mk h ps),[.v (.int .i64 0),.v (.int .i64 0),.v (.int .i64 0)]],[]⟩
theorem zm (k:Nat) (ih:yR k) (h:Hd) (ps:Pts) (depth m:Int) (hk:ps.wt<=k) (bS:(Ty.mk h ps).wt<=1099511627776) (xa:0<=depth) (C8:depth<=25) (jx:0<=m) (fg:m<=512) :
  EvP Tryz.prog 233 [wD (0,0) m,.agg (dx (.mk h ps)),.v (.int .i64 depth)] (wD (wrong (.mk h ps) depth m).1 (wrong (.mk h ps) depth m).2):=by
 have xJ:=bS;simp only [Ty.wt,Hd.wt] at xJ;have jt:=ps.eO;have Sa:=bd h.af;have pQ:IntKind.i64.wrap (m + 1)=m + 1:=wrap64 (by omega) (by omega)
 have hW:∀ e a,EvP Tryz.prog 273 [.agg [.v (.int .i64 0),.v (.int .i64 0),.v (.int .i64 (IntKind.i64.wrap (m + 1)))],.v (.int .i64 e),.v (.int .i64 a)] (wD (e,a) (m + 1)):=by
  intro e a;rw [pQ];exact dJ (0,0) (m + 1) e a
 have hS:=wrong.eq_def (.mk h ps) depth m;simp only at hS;refine ev_go (P:=Tryz.prog) tt tt_ok 5000 201 [.cell 6 320] Tryz.func233 rfl Tryz.ntmps233 rfl (nL rfl) (fun E9 w9 hn9 hm9=>?_);refine br (fun c=>?_) (fun c=>?_)
 ·have c:24 < depth:=of_decide_eq_true c;refine call_p fw (hW 6 h.aC) ax rfl ?_;rw [if_pos c] at hS;refine ⟨_,?_,rfl⟩;rw [hS];exact ax
 have c:¬ 24 < depth:=of_decide_eq_false c;rw [if_neg c] at hS;refine br (fun c=>?_) (fun c=>?_)
 ·have c:512 < IntKind.i64.wrap (m + 1):=of_decide_eq_true c;rw [pQ] at c;refine call_p fw (hW 8 h.aC) ax rfl ?_;rw [if_pos c] at hS;refine ⟨_,?_,rfl⟩;rw [hS];exact ax
 have c:¬ 512 < IntKind.i64.wrap (m + 1):=of_decide_eq_false c;rw [pQ] at c;rw [if_neg c] at hS;refine br (fun c=>?_) (fun c=>?_)
 ·have c:h.ag < 1∨9 < h.ag:=by simpa [aj] using c
  refine call_p fw (hW 14 h.aC) ax rfl ?_;rw [if_pos c] at hS;refine ⟨_,?_,rfl⟩;rw [hS];exact ax
 have c:¬ (h.ag < 1∨9 < h.ag):=by simp [aj] at c;omega
 rw [if_neg c] at hS;refine call_p Wj (DJ (.mk h ps) (by omega)) ax rfl ?_;refine br (fun c=>?_) (fun c=>?_)
 ·have c:sj (.mk h ps)=false:=by simpa [sj] using c
  refine call_p fw (hW 19 h.aC) ax rfl ?_;rw [if_pos c] at hS;refine ⟨_,?_,rfl⟩;rw [hS];exact ax
 have c:¬ sj (.mk h ps)=false:=by simpa [sj] using c
 rw [if_neg c] at hS;refine br (fun c=>?_) (fun c=>?_)
 ·have c:(h.ag=2/\h.hi < h.lo)∨(h.ag=3/\(h.most < 0∨4096 < h.most)):=by simp [aj,pickB_and] at c;omega
  refine call_p fw (hW 20 h.aC) ax rfl ?_;rw [if_pos c] at hS;refine ⟨_,?_,rfl⟩;rw [hS];exact ax
 have c:¬ ((h.ag=2/\h.hi < h.lo)∨(h.ag=3/\(h.most < 0∨4096 < h.most))):=by simp [aj,pickB_and] at c;omega
 rw [if_neg c] at hS;refine br (fun k9=>?_) (fun k9=>?_)
 ·have k9:h.ag=9:=by simpa using k9
  refine call_p Gh (jB h.name.s (by simp only [Wd.wt] at xJ;omega)) ax rfl ?_;refine br (fun q=>?_) (fun q=>?_)
  ·have q:aU h.name.s=false:=by simpa [pickB_and,k9] using q
   refine call_p fw (hW 9 h.name.a) ax rfl ?_;rw [if_pos ⟨k9,q⟩] at hS;refine ⟨_,?_,rfl⟩;rw [hS];exact ax
  ·have q:aU h.name.s=true:=by simpa [pickB_and,k9] using q
   rw [if_neg (by simp [q]),if_neg (by omega),if_neg (by omega),if_neg (by omega)] at hS;refine br (fun x=>?_) (fun _=>?_)
   ·have:=of_decide_eq_true x;omega
   refine br (fun x=>?_) (fun _=>?_)
   ·simp [aj] at x;omega
   refine br (fun x=>?_) (fun _=>?_)
   ·simp [aj] at x;omega
   refine ⟨_,?_,rfl⟩;rw [hS];exact (aI pQ)
 ·have k9:¬ h.ag=9:=by simpa using k9
  rw [if_neg (by simp [k9])] at hS;refine br (fun k4=>?_) (fun k4=>?_)
  ·have k4:h.ag=4:=of_decide_eq_true k4;rw [if_pos k4] at hS;refine br (fun c=>?_) (fun c=>?_)
   ·have c:h.af=[]:=by simp [aw] at c;exact c
    refine call_p fw (hW 15 h.aC) ax rfl ?_;refine ⟨_,?_,rfl⟩;rw [hS];simp only [gA,if_pos c];exact ax
   have c:¬ h.af=[]:=by simp [aw] at c;exact c
   refine br (fun c2=>?_) (fun c2=>?_)
   ·have al:64 < h.af.length:=by simp [aw] at c2;omega
    obtain ⟨x,hx⟩:∃ x,h.af[64]? = some x:=⟨_,gE al⟩;refine aX mo (by decide +kernel) ?_;refine ⟨iV x,⟨by omega,aK hx⟩,?_⟩;refine aG fw (hW 8 x.a) ax rfl ?_;refine ⟨_,?_,rfl⟩;rw [hS];simp only [gA,if_neg c,if_pos al,hx,Option.getD_some];exact ax
   have c2:¬ 64 < h.af.length:=by simp [aw] at c2;omega
   have hE:gA h=enumL h.af 0 h.af:=by simp only [gA,if_neg c,if_neg c2]
   rw [hE] at hS
   refine aq (fun j st=>∃ (e:Nat),st=zl h ps e depth (m + 1)/\e<=h.af.length/\enumL h.af 0 h.af=enumL h.af e (h.af.drop e)/\j=h.af.length - e) h.af.length
    (zl h ps 0 depth (m + 1)) (ay 3 rfl (by repeat' (first | exact rfl | exact ah rfl | exact ak pQ | refine ⟨_,_,rfl,?_,?_⟩)) rfl rfl rfl (by repeat' (first | exact trivial | exact ah rfl | exact ak pQ | refine ⟨⟨_,rfl,?_⟩,?_⟩))) ⟨0,rfl,by omega,rfl,by omega⟩ ?_
   rintro j st ⟨e,rfl,he,aH,rfl⟩;refine br (fun hL=>?_) (fun hL=>?_)
   ·have al:e < h.af.length:=by simpa [aw] using hL
    obtain ⟨x,hx⟩:∃ x,h.af[e]? = some x:=⟨_,gE al⟩;rw [drop_cons hx] at aH;simp only [enumL] at aH;refine call_p Qm (np h.af e x (by omega) hx) ax rfl ?_;refine br (fun hl=>?_) (fun hl=>?_)
    ·have hl:aA h.af e x≠0:=by simpa using hl
     rw [if_pos hl] at aH;refine aX mo (by decide +kernel) ?_;refine ⟨iV x,⟨by omega,aK hx⟩,?_⟩;refine aG fw (dJ (0,0) (m + 1) _ x.a) ax rfl ?_;refine ⟨_,?_,rfl⟩;rw [hS,aH];exact ax
    ·have hl:aA h.af e x=0:=by simpa using hl
     rw [if_neg (by simp [hl])] at aH;exact ⟨zl h ps (e + 1) depth (m + 1),(weak_mk ⟨_,rfl⟩ wA rfl rfl rfl (wNB al)),h.af.length - (e + 1),by omega,e + 1,rfl,by omega,aH,rfl⟩
   ·have aN:e=h.af.length:=by simp [aw] at hL;omega
    rw [aN,List.drop_length] at aH;simp only [enumL] at aH;rw [aH] at hS;refine br (fun x=>?_) (fun _=>?_)
    ·simp [aj] at x;omega
    refine br (fun x=>?_) (fun _=>?_)
    ·simp [aj] at x;omega
    refine ⟨_,?_,rfl⟩;rw [hS];exact ax
  ·have k4:¬ h.ag=4:=of_decide_eq_false k4;rw [if_neg k4] at hS;refine br (fun k5=>?_) (fun k5=>?_)
   ·have k5:h.ag=5∨h.ag=6:=by simpa [aj] using k5
    rw [if_pos k5] at hS
    cases ps with
    | nil=>
     refine call_p fw (hW 19 h.aC) ax rfl ?_;refine ⟨_,?_,rfl⟩;rw [hS];simp only [wrongOne];exact ax
    | cons p t r=>
     cases r with
     | cons p2 t2 r2=>
      refine call_p fw (hW 19 h.aC) ax rfl ?_;refine ⟨_,?_,rfl⟩;rw [hS];simp only [wrongOne];exact ax
     | nil=>
      obtain ⟨u,us⟩:=t;simp only [wrongOne] at hS;simp only [Ty.wt,Pts.wt] at xJ hk;refine ⟨_,⟨by omega,rfl⟩,?_⟩;refine br (fun c=>?_) (fun c=>?_)
      ·have c:p.name.s=ap:=by
        have:=c;simp [aj] at this;exact this
       refine ⟨_,⟨by omega,rfl⟩,?_⟩;refine call_p KE (kM p ei (dx (.mk u us)) (dx bF) (by omega) (xf _ _ _ _ _) (xf _ _ _ _ _)) ax rfl ?_;refine br (fun q=>?_) (fun q=>?_)
       ·have q:bq p ei=false:=by simpa [aj,c] using q
        refine call_p fw (hW 19 h.aC) ax rfl ?_;rw [if_pos (by simp [q])] at hS;refine ⟨_,?_,rfl⟩;rw [hS];exact ax
       ·have q:bq p ei=true:=by simpa [aj,c] using q
        rw [if_neg (by simp [q,c])] at hS;refine br (fun x=>?_) (fun x=>?_)
        ·have x:h.most < 0∨1024 < h.most:=by simpa [aj] using x
         refine call_p fw (hW 20 h.aC) ax rfl ?_;rw [if_pos x] at hS;refine ⟨_,?_,rfl⟩;rw [hS];exact ax
        ·have x:¬ (h.most < 0∨1024 < h.most):=by simp [aj] at x;omega
         rw [if_neg x] at hS;refine aX mo (by decide +kernel) ?_;refine ⟨_,⟨by omega,rfl⟩,?_⟩;refine aG KB (ih (.mk u us) (depth + 1) (m + 1) (by simp only [Ty.wt];omega) (by simp only [Ty.wt];omega) (by omega) (by omega) (by omega) (by omega)) (by repeat' (first | exact rfl | exact trivial | exact Or.inr (Or.inl ⟨_,rfl⟩) | exact Or.inr ⟨_,rfl⟩ | exact Or.inl ⟨rfl,rfl⟩ | exact Or.inl rfl | refine Or.inr ⟨_,_,rfl,Nat.zero_le _,rfl,?_⟩ | refine ⟨_,_,rfl,?_,?_⟩ | refine ⟨_,rfl,?_⟩ | exact congrArg (fun z=>DV.v (.int .i64 z)) pQ | exact congrArg (fun z=>DV.v (.int .i64 z)) (wrap64 (by omega) (by omega))| refine Or.inr (Or.inr (Or.inr ⟨_,_,rfl,?_⟩)) | exact Or.inl rfl | refine Or.inr ?_)) rfl ?_;refine ⟨_,?_,rfl⟩;rw [hS];exact ax
      ·have c:p.name.s≠ap:=by
        have:=c;simp [aj] at this;exact this
       refine call_p fw (hW 19 h.aC) ax rfl ?_;rw [if_pos (.inl c)] at hS;refine ⟨_,?_,rfl⟩;rw [hS];exact ax
   ·have k5:¬ (h.ag=5∨h.ag=6):=by simp [aj] at k5;omega
    rw [if_neg k5] at hS;refine br (fun k7=>?_) (fun k7=>?_)
    ·have k7:h.ag=7∨h.ag=8:=by simpa [aj] using k7
     rw [if_pos k7] at hS;have hP:wrong (.mk h ps) depth m=ej h ps depth (m + 1):=by rw [hS];all_goals rfl
     refine call_p Wl (yS k ih h ps depth (m + 1) hk bS xa (by omega) (by omega) (by omega)) (by repeat' (first | exact rfl | exact trivial | exact Or.inr (Or.inl ⟨_,rfl⟩) | exact Or.inr ⟨_,rfl⟩ | exact Or.inl ⟨rfl,rfl⟩ | exact Or.inl rfl | refine Or.inr ⟨_,_,rfl,Nat.zero_le _,rfl,?_⟩ | refine ⟨_,_,rfl,?_,?_⟩ | refine ⟨_,rfl,?_⟩ | exact congrArg (fun z=>DV.v (.int .i64 z)) pQ| refine Or.inr (Or.inr (Or.inr ⟨_,_,rfl,?_⟩)) | exact Or.inl rfl | refine Or.inr ?_)) rfl ?_;refine ⟨_,?_,rfl⟩;rw [hP];exact ax
    ·have k7:¬ (h.ag=7∨h.ag=8):=by simp [aj] at k7;omega
     rw [if_neg k7] at hS;refine ⟨_,?_,rfl⟩;rw [hS];exact (aI pQ)
theorem xW:∀ k,yR k
 | 0=>fun t depth m hk=>by have:=t.dr;omega
 | k + 1=>fun t depth m hk bS xa C8 jx fg=>by
  obtain ⟨h,ps⟩:=t;have fI:=hk;simp only [Ty.wt,Hd.wt] at fI;exact zm k (xW k) h ps depth m (by omega) bS xa C8 jx fg
theorem zn (t:Ty) (depth m:Int) (bS:t.wt<=1099511627776) (xa:0<=depth) (C8:depth<=25) (jx:0<=m) (fg:m<=512) :
  EvP Tryz.prog 233 [wD (0,0) m,.agg (dx t),.v (.int .i64 depth)] (wD (wrong t depth m).1 (wrong t depth m).2):=
 xW t.wt t depth m (Nat.le_refl _) bS xa C8 jx fg
def eaA:List Ty->Int->Ft × Int
 | [],m=>((0,0),m)
 | t :: r,m=>if (bH t m).1.1≠0 then bH t m else eaA r (bH t m).2
theorem Mr (z:Ty):∀ (l:List (Wd × Ty)) (m:Int),((eaA (l.map (fun x=>x.2) ++ [z]) m).1.1=0↔(eaR z l m).1.1=0)/\((eaR z l m).1.1≠0->eaA (l.map (fun x=>x.2) ++ [z]) m=eaR z l m)
 | [],m=>by
  show ((eaA [z] m).1.1=0↔(bH z m).1.1=0)/\((bH z m).1.1≠0->eaA [z] m=bH z m);simp only [eaA];by_cases h:(bH z m).1.1=0
  ·simp [h]
  ·simp [h]
 | x :: r,m=>by
  have ih:=Mr z r (bH x.2 m).2;simp only [List.map_cons,List.cons_append,eaA,eaR];by_cases h:(bH x.2 m).1.1=0
  ·simp only [h,ne_eq,not_true,if_false];exact ih
  ·simp [h]
def eaK (F:Ty->Ft):List Ty->Ft
 | []=>(0,0)
 | t :: r=>if (F t).1≠0 then F t else eaK F r
theorem Ms (F:Ty->Ft) (z:Ty):∀ l:List (Wd × Ty),((eaK F (l.map (fun x=>x.2) ++ [z])).1=0↔(eaL F (F z) l).1=0)/\((eaL F (F z) l).1≠0->eaK F (l.map (fun x=>x.2) ++ [z])=eaL F (F z) l)
 | []=>by
  show ((eaK F [z]).1=0↔(F z).1=0)/\((F z).1≠0->eaK F [z]=F z);simp only [eaK];by_cases h:(F z).1=0
  ·simp [h]
  ·simp [h]
 | x :: r=>by
  have ih:=Ms F z r;simp only [List.map_cons,List.cons_append,eaK,eaL];by_cases h:(F x.2).1=0
  ·simp only [h,ne_eq,not_true,if_false];exact ih
  ·simp [h]
theorem EI {F:Ty->Ft}:∀ {l:List Ty},(eaK F l).1=0->∀ t∈l,(F t).1=0
 | [],_,t,ht=>by cases ht
 | u :: r,h,t,ht=>by
  rw [eaK] at h;split at h
  ·rename_i h1;exact (h1 h).elim
  ·rename_i h1;rcases List.mem_cons.1 ht with rfl | ht
   ·simpa using h1
   ·exact EI h t ht
theorem GS (S:Sch):jU S=if (latF S.ae S.order).1≠0 then latF S.ae S.order
 else if (dC S).1≠0 then dC S
 else if (eaA (fb S) 0).1.1≠0 then (eaA (fb S) 0).1
 else if (eaK (jH S) (fb S)).1≠0 then eaK (jH S) (fb S)
 else loopF S:=by
 have h1:=Mr S.root S.types 0;have h2:=Ms (jH S) S.root S.types;unfold jU fb er;by_cases a:(eaR S.root S.types 0).1.1=0
 ·have a':=h1.1.2 a;simp only [a,a',ne_eq,not_true,if_false];by_cases b:(eaL (jH S) (jH S S.root) S.types).1=0
  ·have b':=h2.1.2 b;simp only [b,b',ne_eq,not_true,if_false]
  ·rw [h2.2 b]
 ·rw [h1.2 a];by_cases b:(eaL (jH S) (jH S S.root) S.types).1=0
  ·have b':=h2.1.2 b;simp only [b,b',a,ne_eq,not_true,not_false_eq_true,if_false,if_true]
  ·rw [h2.2 b]
abbrev S0 (S:Sch) (T:List Ty) (m:Int) (e:Nat):St:=
 ⟨[(1,⟨[],.loc 0 0⟩),(2,⟨[],.loc 1 0⟩),(5,⟨[],.sl 9 (gh T) none⟩),(6,⟨[],.v (.int .i64 m)⟩),(7,⟨[],.v (.int .i64 e)⟩)],[ey S,[.v (.int .i64 0),.v (.int .i64 0)]],[]⟩
abbrev S1 (S:Sch) (T:List Ty) (e:Nat):St:=
 ⟨[(1,⟨[],.loc 0 0⟩),(2,⟨[],.loc 1 0⟩),(5,⟨[],.sl 9 (gh T) none⟩),(11,⟨[],.v (.int .i64 e)⟩)],[ey S,[.v (.int .i64 0),.v (.int .i64 0)]],[]⟩
abbrev S2 (S:Sch) (e:Nat):St:=
 ⟨[(1,⟨[],.loc 0 0⟩),(2,⟨[],.loc 1 0⟩),(13,⟨[],.v (.int .i64 e)⟩)],[ey S,[.v (.int .i64 0),.v (.int .i64 0)]],[]⟩
theorem zo {S:Sch} (hs:S.wt<=1099511627776):∀ t∈fb S,t.wt<=1099511627776:=by
 intro t ht;unfold Sch.wt at hs;rcases List.mem_append.1 ht with h | h
 ·obtain ⟨x,hx,rfl⟩:=List.mem_map.1 h;have:=fx hx;omega
 ·simp only [List.mem_singleton] at h;subst h;omega
theorem zp (S:Sch) (hs:S.wt<=1099511627776):EvP Tryz.prog 190 [.agg (ey S)] (jU S).d:=by
 have Ub:=zo hs;unfold Sch.wt at hs;have hN:=dm S.types;have gj:=iC S.types;have qR:=zj S.ae S.order (by omega) (by omega);have XH:=zk S (by omega);have iM:=B5 S (by omega);have XI:=fun t ht=>pq S (by omega) (by omega) _ t (Nat.le_refl _) (Ub t ht);have hF:=GS S;have hlen:(fb S).length=S.types.length + 1:=by simp [fb,er]
 have hnF:(dC S).1=0->S.types.length<=64:=fun h=>by
  unfold dC at h;split at h
  ·cases h
  ·omega
 obtain ⟨ae,order,types,⟨rh,rp⟩⟩:=S;simp only at hs hN gj qR XH hlen hnF hF;generalize hT:fb ⟨ae,order,types,.mk rh rp⟩=T at Ub iM XI hlen hF;refine ev_go (P:=Tryz.prog) tt tt_ok 5000 104 [.cell 2 54] Tryz.func190 rfl Tryz.ntmps190 rfl (nL rfl) (fun E9 w9 hn9 hm9=>?_);generalize jU ⟨ae,order,types,.mk rh rp⟩=F at hF ⊢;refine call_p V3 (qR) ax rfl ?_;refine br (fun h1=>?_) (fun h1=>?_)
 ·have h1:(latF ae order).1≠0:=by simpa using h1
  rw [if_pos h1] at hF;refine ⟨_,?_,rfl⟩;rw [hF];exact ax
 have h1:(latF ae order).1=0:=by simpa using h1
 rw [if_neg (by simp [h1])] at hF;refine call_p V4 (XH) ax rfl ?_;refine br (fun h2=>?_) (fun h2=>?_)
 ·have h2:(dC ⟨ae,order,types,.mk rh rp⟩).1≠0:=by simpa using h2
  rw [if_pos h2] at hF;refine ⟨_,?_,rfl⟩;rw [hF];exact ax
 have h2:(dC ⟨ae,order,types,.mk rh rp⟩).1=0:=by simpa using h2
 rw [if_neg (by simp [h2])] at hF;have S3:=hnF h2;refine call_p Ve (iM) ax rfl ?_
 refine aq (fun j st=>∃ (e:Nat) (m:Int),st=S0 ⟨ae,order,types,.mk rh rp⟩ T m e/\e<=types.length + 1/\0<=m/\m<=512/\eaA T 0=eaA (T.drop e) m/\j=types.length + 1 - e) (types.length + 1)
  (S0 ⟨ae,order,types,.mk rh rp⟩ T 0 0) (weak_mk ⟨_,rfl⟩ wA rfl rfl rfl wB) ⟨0,0,rfl,by omega,by omega,by omega,rfl,by omega⟩ ?_
 rintro j st ⟨e,m,rfl,he,jx,fg,aH,rfl⟩;refine br (fun hL=>?_) (fun hL=>?_)
 ·have al:e < types.length + 1:=by have:=hL;simp [dn,hlen] at this;omega
  obtain ⟨t,ht⟩:∃ t,T[e]? = some t:=⟨_,gE (by omega)⟩;have Lu:=Ub t (mG ht);have aS:eaA (T.drop e) m=if (bH t m).1.1≠0 then bH t m else eaA (T.drop (e + 1)) (bH t m).2:=by rw [drop_cons ht,eaA]
  have Pb:bH t m=if (wrong t 1 0).1.1≠0 then ((wrong t 1 0).1,m) else if 512 < m + t.cnt then ((8,t.h.aC),m + t.cnt) else ((0,0),m + t.cnt):=rfl
  have JG:=zn t 1 0 Lu (by omega) (by omega) (by omega) (by omega);have bI:=jC _ t (Nat.le_refl _) Lu;have HI:=t.dQ;obtain ⟨u,us⟩:=t;refine ⟨_,⟨by omega,jh ht⟩,?_⟩;refine call_p KB (JG) ax rfl ?_;refine br (fun g1=>?_) (fun g1=>?_)
  ·have g1:(wrong (.mk u us) 1 0).1.1≠0:=by simpa using g1
   rw [if_pos g1] at Pb;rw [aH,aS,Pb,if_pos g1,if_pos g1] at hF;refine ⟨_,?_,rfl⟩;rw [hF];exact ax
  have g1:(wrong (.mk u us) 1 0).1.1=0:=by simpa using g1
  rw [if_neg (by simp [g1])] at Pb;refine ⟨_,⟨by omega,jh ht⟩,?_⟩;refine call_p Ol (bI) ax rfl ?_;have rA:IntKind.i64.wrap (m + ((Ty.mk u us).cnt:Int))=m + (Ty.mk u us).cnt:=wrap64 (by omega) (by omega);refine br (fun g2=>?_) (fun g2=>?_)
  ·have g2:512 < IntKind.i64.wrap (m + ((Ty.mk u us).cnt:Int)):=of_decide_eq_true g2;rw [rA] at g2;rw [if_pos g2] at Pb;rw [aH,aS,Pb,if_pos (by simp),if_pos (by simp)] at hF;refine ⟨_,⟨by omega,jh ht⟩,?_⟩;refine ⟨_,?_,rfl⟩;rw [hF];exact ax
  ·have g2:¬ 512 < IntKind.i64.wrap (m + ((Ty.mk u us).cnt:Int)):=of_decide_eq_false g2;rw [rA] at g2;rw [if_neg g2] at Pb;rw [Pb,if_neg (by simp)] at aS;exact ⟨S0 ⟨ae,order,types,.mk rh rp⟩ T (m + (Ty.mk u us).cnt) (e + 1),(weak_mk ⟨_,rfl⟩ wA rfl rfl rfl (by repeat' (first | exact trivial | exact ah rfl | exact ak rA | exact ak (cA al (by omega)) | refine ⟨⟨_,rfl,?_⟩,?_⟩))),types.length + 1 - (e + 1),by omega,e + 1,_,rfl,by omega,by omega,by omega,by rw [aH,aS],rfl⟩
 have aN:e=types.length + 1:=by have:=hL;simp [dn,hlen] at this;omega
 rw [aH,List.drop_of_length_le (by omega),show eaA [] m=((0,0),m) from rfl,if_neg (by simp)] at hF
 refine aq (fun j st=>∃ (e:Nat),st=S1 ⟨ae,order,types,.mk rh rp⟩ T e/\e<=types.length + 1/\eaK (jH ⟨ae,order,types,.mk rh rp⟩) T=eaK (jH ⟨ae,order,types,.mk rh rp⟩) (T.drop e)/\j=types.length + 1 - e) (types.length + 1)
  (S1 ⟨ae,order,types,.mk rh rp⟩ T 0) (weak_mk ⟨_,rfl⟩ wA rfl rfl rfl wB) ⟨0,rfl,by omega,rfl,by omega⟩ ?_
 clear aH hL aN he e;rintro j st ⟨e,rfl,he,aH,rfl⟩;refine br (fun hL=>?_) (fun hL=>?_)
 ·have al:e < types.length + 1:=by have:=hL;simp [dn,hlen] at this;omega
  obtain ⟨t,ht⟩:∃ t,T[e]? = some t:=⟨_,gE (by omega)⟩;have aS:eaK (jH ⟨ae,order,types,.mk rh rp⟩) (T.drop e)=if (jH ⟨ae,order,types,.mk rh rp⟩ t).1≠0 then jH ⟨ae,order,types,.mk rh rp⟩ t else eaK (jH ⟨ae,order,types,.mk rh rp⟩) (T.drop (e + 1)):=by rw [drop_cons ht,eaK]
  have hu:=XI t (mG ht);obtain ⟨u,us⟩:=t;apply mD (fun _=>false) 5 6 [0,1,2,3,4,5,6,7] [0,1,2,3,4,6,5,7] 2 2 mo (by decide +kernel)
  ·refine ⟨_,⟨by omega,jh ht⟩,?_⟩;refine aG KC (hu) ax rfl ?_;refine (?_:@Eq St _ _);exact rfl
  ·refine ⟨_,⟨by omega,jh ht⟩,?_⟩;refine aG KC (hu) ax rfl ?_;refine (⟨rfl,rfl,?_⟩:_/\_/\_)
   repeat' (first | exact trivial | refine ⟨rfl,?_⟩)
  ·rfl
  refine br (fun g=>?_) (fun g=>?_)
  ·have g:(jH ⟨ae,order,types,.mk rh rp⟩ (.mk u us)).1≠0:=by simpa using g
   rw [aH,aS,if_pos g,if_pos g] at hF;refine ⟨_,?_,rfl⟩;rw [hF];exact ax
  ·have g:(jH ⟨ae,order,types,.mk rh rp⟩ (.mk u us)).1=0:=by simpa using g
   rw [if_neg (by simp [g])] at aS;exact ⟨S1 ⟨ae,order,types,.mk rh rp⟩ T (e + 1),(weak_mk ⟨_,rfl⟩ wA rfl rfl rfl (wNB al)),types.length + 1 - (e + 1),by omega,e + 1,rfl,by omega,by rw [aH,aS],rfl⟩
 have aN:e=types.length + 1:=by have:=hL;simp [dn,hlen] at this;omega
 have J8:(eaK (jH ⟨ae,order,types,.mk rh rp⟩) T).1=0:=by rw [aH,List.drop_of_length_le (by omega)];all_goals rfl
 rw [aH,List.drop_of_length_le (by omega),show eaK (jH ⟨ae,order,types,.mk rh rp⟩) []=(0,0) from rfl,if_neg (by simp)] at hF
 have QL:∀ x∈types,ss ⟨ae,order,types,.mk rh rp⟩ x.2=true:=fun x hx=>zf (EI J8 x.2 (by
  rw [<- hT]
  exact List.mem_append_left _ (List.mem_map_of_mem hx)))
 have he99:=uU ⟨ae,order,types,.mk rh rp⟩ S3 QL
 have hlo:F=match bG (fun i=>(endI ⟨ae,order,types,.mk rh rp⟩ (types.length + 1) i).isNone) types.length with
  | none=>(0,0)
  | some i=>(11,Sx (sr ⟨ae,order,types,.mk rh rp⟩) i):=hF
 refine aq (fun j st=>∃ e:Nat,st=S2 ⟨ae,order,types,.mk rh rp⟩ e/\e<=types.length/\(∀ i,i < e->(endI ⟨ae,order,types,.mk rh rp⟩ (types.length + 1) i).isNone=false)/\j=types.length - e) types.length
  (S2 ⟨ae,order,types,.mk rh rp⟩ 0) (weak_mk ⟨_,rfl⟩ wA rfl rfl rfl wB) ⟨0,rfl,by omega,fun _ h=>by omega,by omega⟩ ?_
 clear aH hL aN he e;rintro j st ⟨e,rfl,he,eu,rfl⟩;refine br (fun hL=>?_) (fun hL=>?_)
 ·have al:e < types.length:=by have:=hL;simp [hN] at this;exact this
  obtain ⟨x,hx⟩:∃ x,types[e]? = some x:=⟨_,gE al⟩;have SA:(sr ⟨ae,order,types,.mk rh rp⟩)[e]? = some x.1:=GR hx;have h9:=he99 e al;obtain ⟨xw,⟨xh,xp⟩⟩:=x;refine call_p Ks (h9) ax rfl ?_;refine br (fun g=>?_) (fun g=>?_)
  ·have g:endI ⟨ae,order,types,.mk rh rp⟩ (types.length + 1) e=none:=eS.1 g;have Ag:=cw (p:=fun i=>(endI ⟨ae,order,types,.mk rh rp⟩ (types.length + 1) i).isNone) al (by simp only [g];rfl) eu;rw [Ag] at hlo;simp only [jF SA] at hlo;refine ⟨_,⟨by omega,dNms_get hx⟩,?_⟩;refine ⟨_,?_,rfl⟩;rw [hlo];exact ax
  ·have g:¬ endI ⟨ae,order,types,.mk rh rp⟩ (types.length + 1) e=none:=fun hn=>by have h3:=eS.2 hn;rw [g] at h3;cases h3
   refine ⟨S2 ⟨ae,order,types,.mk rh rp⟩ (e + 1),(weak_mk ⟨_,rfl⟩ wA rfl rfl rfl (wNB al)),types.length - (e + 1),by omega,e + 1,rfl,by omega,fun i hi=>?_,rfl⟩;rcases Nat.lt_succ_iff_lt_or_eq.1 hi with hi | rfl
   ·exact eu i hi
   ·exact Option.isNone_eq_false_iff.2 (Option.isSome_iff_ne_none.2 g)
 ·have aN:e=types.length:=by have:=hL;simp [hN] at this;omega
  rw [aN] at eu;rw [cO eu] at hlo;refine ⟨_,?_,rfl⟩;rw [hlo];exact ax
theorem bA {l:List Ed} {i:Nat} {e:Ed} (h:l[i]? = some e):(e9 l)[i]? = some (uG e):=by simp [e9,h]
def Pc (lev:List Wd->Int) (s:Sch) (t:Ty) (k:Nat):Nd:=⟨t.h.ag,t.h.aC,t.h.lo,t.h.hi,t.h.most,av t.h.af,edsP lev s t.ps (k + 1)⟩
mutual
theorem sN (lev:List Wd->Int) (s:Sch):∀ (t:Ty) (k:Nat),ndsT lev s t k=(flatT t).zipIdx.map fun x=>Pc lev s x.1 (k + x.2)
 | .mk h ps,k=>by
  have ih:=zq lev s ps (k + 1);rw [ndsT,flatT];split
  ·rfl
  ·rw [ih,List.zipIdx_cons,List.map_cons];rw [List.zipIdx_succ,List.map_map];refine congr (congrArg List.cons rfl) (List.map_congr_left fun x _=>?_);simp only [Function.comp];congr 1;omega
theorem zq (lev:List Wd->Int) (s:Sch):∀ (ps:Pts) (k:Nat),uI lev s ps k=(flatP ps).zipIdx.map fun x=>Pc lev s x.1 (k + x.2)
 | .nil,k=>rfl
 | .cons p u r,k=>by
  rw [uI,flatP,List.zipIdx_append,List.map_append]
  cases hb:p.bare with
  | true=>
   simp only [if_true,List.zipIdx_nil,List.map_nil,List.nil_append,List.length_nil,Nat.add_zero];exact zq lev s r k
  | false=>
   simp only [Bool.false_eq_true,if_false];rw [sN lev s u k,zq lev s r (k + u.nn),iF];refine congrArg _ ?_;rw [List.zipIdx_eq_map_add (l:=flatP r) (i:=0 + u.nn)];rw [List.map_map];refine List.map_congr_left fun x _=>?_;simp only [Function.comp];congr 1;omega
end
theorem zr {X:Lx} {L:List ByteArray}:∀ {ps:Pts},(knP X L ps).1=0->∀ {p:Ph} {u:Ty},(p,u)∈ps.toList->p.bare=false->(knT X L u).1=0
 | .nil,_,p,u,h,_=>by cases h
 | .cons q v r,hk,p,u,h,hb=>by
  rcases List.mem_cons.1 h with h | h
  ·cases h;exact (qJ hk).1 hb
  ·exact zr (qJ hk).2 h hb
theorem qS {w:Int} (h:decide (w=0)=true):ke w=3:=by unfold ke;rw [if_pos (of_decide_eq_true h)]
theorem qT {w:Int} (h:decide (w=0)=false):ke w=w:=by unfold ke;rw [if_neg (of_decide_eq_false h)]
theorem fi {L:List Ed} {lev:List Wd->Int} {p:Ph} {to w z:Int} (hw:ke p.wide=w) (ht:to=z):e9 L ++ [[.v (.string p.name.s),.v (.bool p.bare),.v (.int .i64 p.name.a),.v (.int .i64 z),.v (.int .i64 (lev p.label)),.v (.int .i64 w),.v (.int .i64 p.ck),.v (.int .i64 p.cn),.v (.int .i64 (lev p.cl)),.v (.int .i64 p.ca)]]=e9 (L ++ [uH lev p to]):=by
 subst hw ht;simp [e9,uG,uH]
abbrev Mt (S:Sch) (f:Nat->Nat->Bool) (t:Ty) (me:Nat) (q e:Nat):St:=
 ⟨[(1,⟨[],.sl 1 (ct (cW S.ae.length f)) none⟩),(3,⟨[],.v (.int .i64 me)⟩),(4,⟨[],.loc 0 0⟩),(6,⟨[],.loc 1 0⟩),(8,⟨[],.loc 2 0⟩),(9,⟨[],.loc 3 0⟩),(10,⟨[],.v (.int .i64 e)⟩)],
  [ey S,dx t,[.v (.int .i64 0),.v (.int .i64 0),.v (.int .i64 0),.v (.int .i64 0),.v (.int .i64 0),.v (.slice none 0 0),.v (.slice none 0 0)],
  [.v (.int .i64 t.h.ag),.v (.int .i64 t.h.aC),.v (.int .i64 t.h.lo),.v (.int .i64 t.h.hi),.v (.int .i64 t.h.most),.sl 1 (dt (av (t.h.af.take e))) (some 0),.v (.slice none 0 0)]],[⟨q,9,1,none⟩]⟩
abbrev B7 (S:Sch) (f:Nat->Nat->Bool) (t:Ty) (q1 q2:Nat) (L:List Ed) (nx e:Nat):St:=
 ⟨[(1,⟨[],.sl 1 (ct (cW S.ae.length f)) none⟩),(4,⟨[],.loc 0 0⟩),(6,⟨[],.loc 1 0⟩),(8,⟨[],.loc 2 0⟩),(9,⟨[],.loc 3 0⟩),(11,⟨[],.v (.int .i64 nx)⟩),(12,⟨[],.v (.int .i64 e)⟩)],
  [ey S,dx t,[.v (.int .i64 0),.v (.int .i64 0),.v (.int .i64 0),.v (.int .i64 0),.v (.int .i64 0),.v (.slice none 0 0),.v (.slice none 0 0)],
  [.v (.int .i64 t.h.ag),.v (.int .i64 t.h.aC),.v (.int .i64 t.h.lo),.v (.int .i64 t.h.hi),.v (.int .i64 t.h.most),.sl 1 (dt (av t.h.af)) (some 0),.sl 10 (e9 L) (some 1)]],[⟨q1,9,1,none⟩,⟨q2,168,10,none⟩]⟩
set_option maxHeartbeats 2000000 in
theorem EJ (S:Sch) (hS:S.wt<=1099511627776) (hl:(latF S.ae S.order).1=0) (S3:S.types.length<=64) (hr:∀ x∈S.types,ss S x.2=true) (hlo:∀ i,i < S.types.length->∃ k,endI S (S.types.length + 1) i=some k)
  (t:Ty) (ht:t.wt<=1099511627776) (hk:(jH S t).1=0) (me:Nat) (hme:me<=1099511627776) :
  EvP Tryz.prog 76 [.agg (ey S),.sl 1 (ct (cW S.ae.length (dY S.ae.length (cL (av S.ae) S.order)))) none,.agg (dx t),.v (.int .i64 me)] (.agg (jG (Pc (gH S) S t me))):=by
 obtain ⟨hL,Iy⟩:=kf hl;have jM:=hL.pos;unfold Sch.wt at hS;have Er:=fun l (h:wdsWt l<=1099511627776)=>IH S.ae (dY S.ae.length (cL (av S.ae) S.order)) jM Iy (by omega) l h;have YT:∀ l,gH S l=zb (dY S.ae.length (cL (av S.ae) S.order)) (av S.ae) l:=fun _=>rfl;have Pd:=fun s i k=>uV S S3 (by omega) hr s i k;have eM:=jc S;generalize dY S.ae.length (cL (av S.ae) S.order)=f at Er YT ⊢;obtain ⟨h,ps⟩:=t;have SG:=(kY hk).2;simp only [Ty.wt,Hd.wt] at ht;have jt:=ps.eO;have hc:=ps.dQ;have lF:=ps.fo;have hwl:=bd h.af;generalize T0:gH S=lev at YT ⊢;obtain ⟨ae,order,types,⟨rh,rp⟩⟩:=S;simp only at hS S3 hr hlo Er YT Pd eM SG;refine ev_go (P:=Tryz.prog) tt tt_ok 5000 131 [.cell 8 155] Tryz.func76 rfl Tryz.ntmps76 rfl (nL rfl) (fun E9 w9 hn9 hm9=>?_);refine aq (fun j st=>∃ e:Nat,st=Mt ⟨ae,order,types,.mk rh rp⟩ f (.mk h ps) me e e/\e<=h.af.length/\j=h.af.length - e) h.af.length (Mt ⟨ae,order,types,.mk rh rp⟩ f (.mk h ps) me 0 0) (dO 4 ⟨0,9,1,none⟩ rfl rfl rfl (by repeat' (first | exact rfl | exact ah rfl | exact bm (Nat.le_refl _) rfl | exact bm (Nat.le_refl _) rfl | refine ⟨_,_,rfl,?_,?_⟩)) rfl rfl Ah) ⟨0,rfl,by omega,by omega⟩ ?_;rintro j st ⟨e,rfl,he,rfl⟩;refine br (fun hL=>?_) (fun hL=>?_)
 ·have al:e < h.af.length:=by have:=hL;simp [aw] at this;exact this
  obtain ⟨w,hw⟩:∃ w,h.af[e]? = some w:=⟨_,gE al⟩;have gR:=iB hw;have dI:(dt (av (h.af.take e))).length=e:=by simp [dt,av];omega
  refine aX mo (by decide +kernel) ?_;refine ⟨_,⟨by omega,aK hw⟩,?_⟩;refine ⟨dI,⟨by simp only [Ty.h];rw [dI];simp [maxLen];omega,by simp only [Ty.h];rw [dI];simp;omega⟩,?_⟩;exact ⟨Mt ⟨ae,order,types,.mk rh rp⟩ f (.mk h ps) me (e + 1) (e + 1),(ay 4 rfl (F1 al gR) rfl rfl rfl (yF al gR)),h.af.length - (e + 1),by omega,e + 1,rfl,by omega,rfl⟩
 have aN:e=h.af.length:=by have:=hL;simp [aw] at this;omega
 have XJ:IntKind.i64.wrap ((me:Int) + 1)=((me + 1:Nat):Int):=by rw [wrap64 (by omega) (by omega)];omega
 have HG:dt (av (h.af.take e))=dt (av h.af):=by rw [aN,List.take_length]
 refine aq (fun j st=>∃ (e q nx:Nat) (L:List Ed),st=B7 ⟨ae,order,types,.mk rh rp⟩ f (.mk h ps) h.af.length q L nx e/\q=e/\L.length=e/\e<=ps.len/\nx + (ps.drop e).nn=me + 1 + ps.nn/\edsP lev ⟨ae,order,types,.mk rh rp⟩ ps (me + 1)=L ++ edsP lev ⟨ae,order,types,.mk rh rp⟩ (ps.drop e) nx/\j=ps.len - e) ps.len
  (B7 ⟨ae,order,types,.mk rh rp⟩ f (.mk h ps) e 0 [] (me + 1) 0) (dO 4 ⟨0,168,10,none⟩ rfl rfl rfl (by repeat' (first | exact rfl | exact ah rfl | exact ak XJ | exact cI HG rfl | exact bm (Nat.le_refl _) rfl | exact bm (Nat.le_refl _) rfl | refine ⟨_,_,rfl,?_,?_⟩)) rfl rfl (by repeat' (first | exact trivial | exact ah rfl | exact ak XJ | exact cI HG rfl | exact bm (Nat.le_refl _) rfl | refine ⟨⟨_,rfl,?_⟩,?_⟩))) ⟨0,0,me + 1,[],by rw [aN],rfl,rfl,by omega,rfl,rfl,by omega⟩ ?_
 clear he hL aN HG e;rintro j st ⟨e,q,nx,L,rfl,hq,XG,he,Iq,aH,rfl⟩;refine br (fun hL=>?_) (fun hL=>?_)
 ·have al:e < ps.len:=by simpa [aE] using hL
  obtain ⟨p,u,hx⟩:=Pts.dP al;have Ba:=Pts.fk (mG hx);have hw1:p.name.wt + wdsWt p.label + wdsWt p.cl<=p.wt:=by simp only [Ph.wt];omega
  rw [Pts.drop_cons hx,edsP] at aH;rw [Pts.drop_cons hx,Pts.nn] at Iq;have Af:=Er p.label (by omega);have QE:=Er p.cl (by omega);unfold Ip at Af QE;rw [<- YT] at Af QE;obtain ⟨uh,us⟩:=u;refine ⟨_,⟨by omega,bz hx⟩,?_⟩;refine br (fun hw=>?_) (fun hw=>?_)
  all_goals
   refine call_p PX (Af) ax rfl ?_;refine call_p PX (QE) ax rfl ?_;have dI:(e9 L).length=q:=by rw [cy,XG,hq]
   refine br (fun hB=>?_) (fun hB=>?_)
   ·have hB:p.bare=true:=hB;have mP:sK ⟨ae,order,types,.mk rh rp⟩ p (.mk uh us) nx = -1:=by simp [sK,hB]
    rw [hB] at aH Iq;refine ⟨dI,⟨by rw [dI];simp [maxLen];omega,by rw [dI];simp;omega⟩,?_⟩;exact ⟨B7 ⟨ae,order,types,.mk rh rp⟩ f (.mk h ps) h.af.length (q + 1) (L ++ [uH lev p (sK ⟨ae,order,types,.mk rh rp⟩ p (.mk uh us) nx)]) nx (e + 1),(ay 4 rfl (by repeat' (first | exact rfl | exact ah rfl | exact ak (cA al (by omega)) | exact cI (fi (qS hw) mP) rfl | exact cI (fi (qT hw) mP) rfl | refine ⟨_,_,rfl,?_,?_⟩)) rfl rfl rfl (by repeat' (first | exact trivial | exact ah rfl | exact ak (cA al (by omega)) | exact cI (fi (qS hw) mP) rfl | exact cI (fi (qT hw) mP) rfl | refine ⟨⟨_,rfl,?_⟩,?_⟩))),ps.len - (e + 1),by omega,e + 1,q + 1,nx,_,rfl,by omega,by simp [XG],by omega,by rw [<- Iq];simp,by rw [aH];simp,rfl⟩
   ·have hB:p.bare=false:=hB;have fY:=zr SG (mG hx) hB;refine br (fun h9=>?_) (fun h9=>?_)
    ·have h9:uh.ag=9:=by simpa using h9
     obtain ⟨i,hi⟩:=Option.ne_none_iff_exists'.1 ((kY fY).1 h9);obtain ⟨k,hk⟩:=hlo i (by have:=(cF hi).1;omega);have mP:sK ⟨ae,order,types,.mk rh rp⟩ p (.mk uh us) nx=(firstA ⟨ae,order,types,.mk rh rp⟩ k:Int):=by simp [sK,hB,mb,Ty.h,h9,SE,hi,namedN,hk]
     refine call_p Vf (Pd uh.name.s i k hi hk) ax rfl ?_;refine ⟨dI,⟨by rw [dI];simp [maxLen];omega,by rw [dI];simp;omega⟩,?_⟩;exact ⟨B7 ⟨ae,order,types,.mk rh rp⟩ f (.mk h ps) h.af.length (q + 1) (L ++ [uH lev p (sK ⟨ae,order,types,.mk rh rp⟩ p (.mk uh us) nx)]) nx (e + 1),(ay 4 rfl (by repeat' (first | exact rfl | exact ah rfl | exact ak (cA al (by omega)) | exact cI (fi (qS hw) mP) rfl | exact cI (fi (qT hw) mP) rfl | refine ⟨_,_,rfl,?_,?_⟩)) rfl rfl rfl (by repeat' (first | exact trivial | exact ah rfl | exact ak (cA al (by omega)) | exact cI (fi (qS hw) mP) rfl | exact cI (fi (qT hw) mP) rfl | refine ⟨⟨_,rfl,?_⟩,?_⟩))),ps.len - (e + 1),by omega,e + 1,q + 1,nx,_,rfl,by omega,by simp [XG],by omega,by rw [<- Iq];simp [hB,Ty.nn,h9],by rw [aH];simp [hB,Ty.nn,h9],rfl⟩
    ·have h9:¬ uh.ag=9:=by simpa using h9
     have mP:sK ⟨ae,order,types,.mk rh rp⟩ p (.mk uh us) nx=(nx:Int):=by simp [sK,hB,mb,Ty.h,h9]
     have hnn:=(Ty.mk uh us).fo;have hct:=(Ty.mk uh us).dQ
     have rA:IntKind.i64.wrap ((nx:Int) + (gh (flatT (.mk uh us))).length)=((nx + (Ty.mk uh us).nn:Nat):Int):=by
      rw [dn,iF,wrap64 (by omega) (by omega)];omega
     refine call_p On (mQ _ (.mk uh us) (Nat.le_refl _) (by omega)) ax rfl ?_;refine ⟨dI,⟨by rw [dI];simp [maxLen];omega,by rw [dI];simp;omega⟩,?_⟩;exact ⟨B7 ⟨ae,order,types,.mk rh rp⟩ f (.mk h ps) h.af.length (q + 1) (L ++ [uH lev p (sK ⟨ae,order,types,.mk rh rp⟩ p (.mk uh us) nx)]) (nx + (Ty.mk uh us).nn) (e + 1),(ay 4 rfl (by repeat' (first | exact rfl | exact ah rfl | exact ak (cA al (by omega)) | exact ak rA | exact cI (fi (qS hw) mP) rfl | exact cI (fi (qT hw) mP) rfl | refine ⟨_,_,rfl,?_,?_⟩)) rfl rfl rfl (by repeat' (first | exact trivial | exact ah rfl | exact ak (cA al (by omega)) | exact ak rA | exact cI (fi (qS hw) mP) rfl | exact cI (fi (qT hw) mP) rfl | refine ⟨⟨_,rfl,?_⟩,?_⟩))),ps.len - (e + 1),by omega,e + 1,q + 1,(nx + (Ty.mk uh us).nn),_,rfl,by omega,by simp [XG],by omega,by rw [<- Iq];simp [hB];omega,by rw [aH];simp [hB],rfl⟩
 have aN:e=ps.len:=by simp [aE] at hL;omega
 rw [aN,Pts.cJ,edsP,List.append_nil] at aH;unfold Pc;simp only [Ty.h,Ty.ps];rw [aH];exact ⟨_,ax,rfl⟩
def ndsA (lev:List Wd->Int) (s:Sch):List Ty->Nat->List Nd
 | [],_=>[]
 | t :: r,k=>ndsT lev s t k ++ ndsA lev s r (k + t.nn)
def pu (l:List Ty):Nat:=(l.map Ty.nn).sum
theorem mg (t:Ty) (l:List Ty):pu (t :: l)=t.nn + pu l:=by simp [pu]
theorem sO (a b:List Ty):pu (a ++ b)=pu a + pu b:=by simp [pu]
theorem kh (lev:List Wd->Int) (s:Sch):∀ (l:List Ty) (k:Nat),(ndsA lev s l k).length=pu l
 | [],_=>rfl
 | t :: r,k=>by simp only [ndsA,List.length_append,jf,kh lev s r,mg]
theorem uW (lev:List Wd->Int) (s:Sch):∀ (a b:List Ty) (k:Nat),ndsA lev s (a ++ b) k=ndsA lev s a k ++ ndsA lev s b (k + pu a)
 | [],b,k=>by simp [ndsA,pu]
 | t :: r,b,k=>by rw [List.cons_append,ndsA,ndsA,uW lev s r b,List.append_assoc,mg,Nat.add_assoc]
theorem uX (lev:List Wd->Int) (s:Sch):∀ (l:List (Wd × Ty)) (k:Nat),ndsAll lev s l k=ndsA lev s (l.map fun x=>x.2) k
 | [],_=>rfl
 | x :: r,k=>by rw [ndsAll,List.map_cons,ndsA,uX lev s r]
theorem uY (s:Sch):(pj s).length=pu (er s):=by rw [pj,uX,kh];all_goals rfl
theorem iG (s:Sch):aQ s=ndsA (gH s) s (fb s) 0:=by
 unfold aQ fb;rw [uW,uY,pj,uX,ndsA,ndsA,List.append_nil,Nat.zero_add];rfl
theorem II {lev:List Wd->Int} {s:Sch} {l:List Ty} {e:Nat} {t:Ty} (h:l[e]? = some t):ndsA lev s (l.take (e + 1)) 0=ndsA lev s (l.take e) 0 ++ ndsT lev s t (ndsA lev s (l.take e) 0).length:=by
 rw [List.take_add_one,h,uW,kh,Nat.zero_add];simp [ndsA]
theorem B8 (l:List Ty):∀ e,pu (l.take e)<=pu l:=by
 intro e;have:=sO (l.take e) (l.drop e);rw [List.take_append_drop] at this;omega
theorem EK (s:Sch):pu (fb s)<=s.wt:=by
 have key:∀ l:List (Wd × Ty),pu (l.map fun x=>x.2)<=nmsWt l:=by
  intro l
  induction l with
  | nil=>exact Nat.le_refl _
  | cons x r ih=>
   have:=x.2.fo;have:=x.2.dQ;simp only [List.map_cons,mg,nmsWt];omega
 have h1:=key s.types;have h2:=s.root.fo;have h3:=s.root.dQ;unfold fb;rw [sO,mg];unfold Sch.wt er;simp only [pu,List.map_nil,List.sum_nil] at h1 ⊢;omega
mutual
theorem uZ {X:Lx} {L:List ByteArray}:∀ (t:Ty),(knT X L t).1=0->∀ u∈flatT t,(knT X L u).1=0
 | .mk h ps,hk,u,hu=>by
  rw [flatT] at hu;split at hu
  ·cases hu
  ·rcases List.mem_cons.1 hu with rfl | hu
   ·exact hk
   ·exact B9 ps (kY hk).2 u hu
theorem B9 {X:Lx} {L:List ByteArray}:∀ (ps:Pts),(knP X L ps).1=0->∀ u∈flatP ps,(knT X L u).1=0
 | .nil,_,u,hu=>by cases hu
 | .cons p v r,hk,u,hu=>by
  rw [flatP] at hu;rcases List.mem_append.1 hu with hu | hu
  ·cases hb:p.bare with
   | true=>rw [hb] at hu;cases hu
   | false=>rw [hb] at hu;exact uZ v ((qJ hk).1 hb) u hu
  ·exact B9 r (qJ hk).2 u hu
end
mutual
theorem u0:∀ (t:Ty),∀ u∈flatT t,u.wt<=t.wt
 | .mk h ps,u,hu=>by
  rw [flatT] at hu;split at hu
  ·cases hu
  ·rcases List.mem_cons.1 hu with rfl | hu
   ·exact Nat.le_refl _
   ·have:=Ca ps u hu;simp only [Ty.wt];omega
theorem Ca:∀ (ps:Pts),∀ u∈flatP ps,u.wt<=ps.wt
 | .nil,u,hu=>by cases hu
 | .cons p v r,u,hu=>by
  rw [flatP] at hu;simp only [Pts.wt];rcases List.mem_append.1 hu with hu | hu
  ·split at hu
   ·cases hu
   ·have:=u0 v u hu;omega
  ·have:=Ca r u hu;omega
end
theorem Mu {lev:List Wd->Int} {s:Sch} {t u:Ty} {n k:Nat} (h:(flatT t)[k]? = some u):(ndsT lev s t n)[k]? = some (Pc lev s u (n + k)):=by
 rw [sN,List.getElem?_map,List.getElem?_zipIdx,h];simp
structure u1 (S:Sch):Prop where
 lat:(latF S.ae S.order).1=0
 YU:S.types.length<=64
 kn:∀ t∈fb S,(jH S t).1=0
 ends:∀ i,i < S.types.length->∃ k,endI S (S.types.length + 1) i=some k
 wr:∀ t∈fb S,(wrong t 1 0).1.1=0
theorem Mv:∀ {l:List Ty} {m:Int},(eaA l m).1.1=0->∀ t∈l,(wrong t 1 0).1.1=0
 | [],_,_,t,ht=>by cases ht
 | u :: r,m,h,t,ht=>by
  rw [eaA] at h;split at h
  ·rename_i h1;exact (h1 h).elim
  ·rename_i h1;rcases List.mem_cons.1 ht with rfl | ht
   ·exact (mO (by simpa using h1)).2.2.1
   ·exact Mv h t ht
theorem pw {S:Sch} (h:(jU S).1=0):u1 S:=by
 rw [GS] at h;split at h
 ·rename_i h1;exact (h1 h).elim
 rename_i h1;split at h
 ·rename_i h2;exact (h2 h).elim
 rename_i h2;split at h
 ·rename_i h3;exact (h3 h).elim
 rename_i h3;split at h
 ·rename_i h4;exact (h4 h).elim
 rename_i h4
 exact {
  lat:=by simpa using h1
  YU:=by
   have h2:(dC S).1=0:=by simpa using h2
   unfold dC at h2;split at h2
   ·cases h2
   ·omega
  kn:=EI (by simpa using h4)
  ends:=BU h
  wr:=Mv (by simpa using h3) }
theorem u1.refs {S:Sch} (h:u1 S):∀ x∈S.types,ss S x.2=true:=fun x hx=>zf (h.kn x.2 (List.mem_append_left _ (List.mem_map_of_mem hx)))
abbrev wC (S:Sch) (f:Nat->Nat->Bool) (N:DV) (z:Int):List DV:=[.sl 2 (bn S.ae) none,.sl 1 (ct (cW S.ae.length f)) none,N,.v (.int .i64 z)]
abbrev Mw (S:Sch) (T:List Ty) (f:Nat->Nat->Bool) (L:List Nd) (z:Int) (e q:Nat):St:=
 ⟨[(1,⟨[],.loc 0 0⟩),(2,⟨[],.loc 1 0⟩),(3,⟨[],.loc 2 0⟩),(4,⟨[],.sl 9 (gh T) none⟩),(5,⟨[],.v (.int .i64 e)⟩)],[ey S,[.v (.slice none 0 0),.v (.slice none 0 0),.v (.slice none 0 0),.v (.int .i64 0)],wC S f (.sl 7 (cK L) (some 0)) z],[⟨q,155,7,none⟩]⟩
abbrev Mx (S:Sch) (T:List Ty) (f:Nat->Nat->Bool) (L:List Nd) (z:Int) (e:Nat) (F:List Ty) (k q:Nat):St:=
 ⟨[(1,⟨[],.loc 0 0⟩),(2,⟨[],.loc 1 0⟩),(3,⟨[],.loc 2 0⟩),(4,⟨[],.sl 9 (gh T) none⟩),(5,⟨[],.v (.int .i64 e)⟩),(6,⟨[],.sl 9 (gh F) none⟩),(7,⟨[],.v (.int .i64 k)⟩)],[ey S,[.v (.slice none 0 0),.v (.slice none 0 0),.v (.slice none 0 0),.v (.int .i64 0)],wC S f (.sl 7 (cK L) (some 0)) z],[⟨q,155,7,none⟩]⟩
theorem px (S:Sch) (hS:S.wt<=1099511627776) (hR:(jU S).1=0) :
  EvP Tryz.prog 30 [.agg (ey S)] (.agg (wC S (dY S.ae.length (cL (av S.ae) S.order)) (.sl 7 (cK (aQ S)) none) (bL S))):=by
 have NO:=pw hR;obtain ⟨_,Iy⟩:=kf NO.lat;have Ub:=zo hS;have Sa:=EK S;have hN0:=(nW NO.lat).2.2.1;have hrr:=NO.refs;have gW:=fun t ht hk me hme=>EJ S hS NO.lat NO.YU hrr NO.ends t ht hk me hme;have hwS:=hS;unfold Sch.wt at hS;have Pe:=BX S.ae S.order Iy (by omega) (by omega) hN0;have iM:=B5 S (by have:=NO.YU;omega);have hlen:(fb S).length=S.types.length + 1:=by simp [fb,er]
 have S3:=NO.YU;have Pd:=fun s i k=>uV S S3 (by omega) hrr s i k;have J8:=NO.kn;have u2:=NO.ends;have eM:=jc S
 have je:(fb S)[S.types.length]? = some S.root:=by
  unfold fb;rw [List.getElem?_append_right (by simp [er])];simp [er]
 have IJ:=uY S
 have ia:(fb S).take S.types.length=er S:=by
  unfold fb;rw [List.take_append_of_le_length (by simp [er])];exact List.take_of_length_le (by simp [er])
 rw [iG];unfold bL;generalize gH S=lev at gW ⊢;generalize dY S.ae.length (cL (av S.ae) S.order)=f at gW Pe ⊢;obtain ⟨ae,order,types,⟨rh,rp⟩⟩:=S;simp only at hS Pe hlen S3 u2 eM je ia;generalize hT:fb ⟨ae,order,types,.mk rh rp⟩=T at Ub Sa iM hlen J8 je ia ⊢;refine ev_go (P:=Tryz.prog) tt tt_ok 5000 67 [.cell 2 78] Tryz.func30 rfl Tryz.ntmps30 rfl (nL rfl) (fun E9 w9 hn9 hm9=>?_);apply mD (fun _=>false) 6 8 [0,1,2,3,4,5,6,7,8,9] [0,1,2,3,4,5,8,6,7,9] 2 2 mo (by decide +kernel)
 ·refine aG RW (Pe) ax rfl ?_;refine (?_:@Eq St _ _);exact rfl
 ·refine aG RW (Pe) ax rfl ?_;refine (⟨rfl,rfl,?_⟩:_/\_/\_)
  repeat' (first | exact trivial | refine ⟨rfl,?_⟩)
 ·rfl
 refine call_p Ve (iM) ax rfl ?_
 have hLN:∀ e,(ndsA lev ⟨ae,order,types,.mk rh rp⟩ (T.take e) 0).length<=1099511627776:=fun e=>by
  rw [kh];have:=B8 T e;omega
 refine aq (fun j st=>∃ (e q:Nat) (z:Int),st=Mw ⟨ae,order,types,.mk rh rp⟩ T f (ndsA lev ⟨ae,order,types,.mk rh rp⟩ (T.take e) 0) z e q/\q=(ndsA lev ⟨ae,order,types,.mk rh rp⟩ (T.take e) 0).length/\e<=types.length + 1/\(e=types.length + 1->z=(pu (T.take types.length):Nat))/\j=types.length + 1 - e) (types.length + 1)
  (Mw ⟨ae,order,types,.mk rh rp⟩ T f [] 0 0 0) (dO 3 ⟨0,155,7,none⟩ rfl rfl rfl (by repeat' (first | exact rfl | exact ah rfl | exact bm (Nat.le_refl _) rfl | exact bm (Nat.le_refl _) rfl | refine ⟨_,_,rfl,?_,?_⟩)) rfl rfl Ah) ⟨0,0,0,rfl,rfl,by omega,fun h=>by omega,by omega⟩ ?_
 rintro j st ⟨e,q,z,rfl,hq,he,hz,rfl⟩;refine br (fun hL=>?_) (fun hL=>?_)
 ·have al:e < types.length + 1:=by have:=hL;simp [dn,hlen] at this;omega
  obtain ⟨t,ht⟩:∃ t,T[e]? = some t:=⟨_,gE (by omega)⟩;have Lu:=Ub t (mG ht);have htk':=J8 t (mG ht);have J3:=mQ _ t (Nat.le_refl _) Lu;have hfk:=uZ t htk';have Xg:=u0 t;have Uc:=II (lev:=lev) (s:=⟨ae,order,types,.mk rh rp⟩) ht;have hfln:=iF t;have gj:=jf lev ⟨ae,order,types,.mk rh rp⟩ t (ndsA lev ⟨ae,order,types,.mk rh rp⟩ (T.take e) 0).length;have im:=fun k u (h:(flatT t)[k]? = some u)=>Mu (lev:=lev) (s:=⟨ae,order,types,.mk rh rp⟩) (n:=(ndsA lev ⟨ae,order,types,.mk rh rp⟩ (T.take e) 0).length) h;have hLe:=hLN e;have S4:=hLN (e + 1);have hLs:=kh lev ⟨ae,order,types,.mk rh rp⟩ (T.take e) 0;rw [Uc,List.length_append] at S4;obtain ⟨u,us⟩:=t;generalize ndsA lev ⟨ae,order,types,.mk rh rp⟩ (T.take e) 0=L at hq Uc gj im hLe S4 hLs ⊢;generalize ndsT lev ⟨ae,order,types,.mk rh rp⟩ (.mk u us) L.length=M at Uc gj im S4;generalize flatT (.mk u us)=F at J3 hfk Xg hfln im;have cR:((cK L).length:Int)=(L.length:Int):=by rw [kg]
  refine ⟨_,⟨by omega,jh ht⟩,?_⟩;refine call_p On (J3) ax rfl ?_
  refine aq (fun j st=>∃ (k q:Nat),st=Mx ⟨ae,order,types,.mk rh rp⟩ T f (L ++ M.take k) (L.length:Int) e F k q/\q=(L ++ M.take k).length/\k<=F.length/\j=F.length - k) F.length
   (Mx ⟨ae,order,types,.mk rh rp⟩ T f (L ++ []) (L.length:Int) e F 0 q) (ay 3 rfl (by repeat' (first | exact rfl | exact ah rfl | exact ak cR | exact cI (by rw [List.append_nil]) rfl | refine ⟨_,_,rfl,?_,?_⟩)) rfl rfl rfl (by repeat' (first | exact trivial | exact ah rfl | exact ak cR | exact cI (by rw [List.append_nil]) rfl | refine ⟨⟨_,rfl,?_⟩,?_⟩))) ⟨0,q,rfl,by simp [hq],by omega,by omega⟩ ?_
  rintro j st ⟨k,q',rfl,kA,hk,rfl⟩;refine br (fun jb=>?_) (fun jb=>?_)
  ·have fY:k < F.length:=by have:=jb;simp [dn] at this;exact this
   obtain ⟨v,hv⟩:∃ v,F[k]? = some v:=⟨_,gE fY⟩;have TL:=mG hv;have hvw:=Xg v TL;have dI:(cK (L ++ M.take k)).length=q':=by rw [kg,kA]
   have jZ:q'=L.length + k:=by rw [kA,List.length_append,List.length_take];omega
   have hnd:=gW v (by omega) (hfk v TL) (cK (L ++ M.take k)).length (by omega)
   have gR:cK (L ++ M.take k) ++ [jG (Pc lev ⟨ae,order,types,.mk rh rp⟩ v (cK (L ++ M.take k)).length)]=cK (L ++ M.take (k + 1)):=by
    rw [List.take_add_one,im k v hv,dI,jZ];simp [cK]
   obtain ⟨vh,vp⟩:=v;refine aX mo (by decide +kernel) ?_;refine ⟨_,⟨by omega,jh hv⟩,?_⟩;refine aG Z0 (hnd) ax rfl ?_;refine ⟨dI,⟨by rw [dI];simp [maxLen];omega,by rw [dI];simp;omega⟩,?_⟩;exact ⟨Mx ⟨ae,order,types,.mk rh rp⟩ T f (L ++ M.take (k + 1)) (L.length:Int) e F (k + 1) (q' + 1),(ay 3 rfl (F1 fY gR) rfl rfl rfl (yF fY gR)),F.length - (k + 1),by omega,k + 1,q' + 1,rfl,by rw [jZ];simp;omega,by omega,rfl⟩
  ·have aN:k=F.length:=by have:=jb;simp [dn] at this;omega
   have hM:M.take k=M:=List.take_of_length_le (by omega);rw [hM] at kA;refine ⟨Mw ⟨ae,order,types,.mk rh rp⟩ T f (ndsA lev ⟨ae,order,types,.mk rh rp⟩ (T.take (e + 1)) 0) (L.length:Int) (e + 1) q',(ay 3 rfl (by repeat' (first | exact rfl | exact ah rfl | exact ak (cA al (by omega)) | exact cI (by rw [Uc,hM]) rfl | refine ⟨_,_,rfl,?_,?_⟩)) rfl rfl rfl (by repeat' (first | exact trivial | exact ah rfl | exact ak (cA al (by omega)) | exact cI (by rw [Uc,hM]) rfl | refine ⟨⟨_,rfl,?_⟩,?_⟩))),types.length + 1 - (e + 1),by omega,e + 1,q',_,rfl,by rw [Uc,kA],by omega,fun he1=>?_,rfl⟩;rw [hLs,show e=types.length by omega]
 ·have aN:e=types.length + 1:=by have:=hL;simp [dn,hlen] at this;omega
  have hTa:T.take e=T:=List.take_of_length_le (by omega);rw [hTa];have hz:=hz aN;rw [ia,<- IJ] at hz;have QL:=J8 (.mk rh rp) (mG je);refine br (fun h9=>?_) (fun h9=>?_)
  ·have h9:rh.ag=9:=by simpa using h9
   obtain ⟨i,hi⟩:=Option.ne_none_iff_exists'.1 ((kY QL).1 h9);obtain ⟨k,hk⟩:=u2 i (by have:=(cF hi).1;omega);have mP:mb ⟨ae,order,types,.mk rh rp⟩ (.mk rh rp) (pj ⟨ae,order,types,.mk rh rp⟩).length=(firstA ⟨ae,order,types,.mk rh rp⟩ k:Int):=by simp [mb,Ty.h,h9,SE,hi,namedN,hk]
   refine call_p Vf (Pd rh.name.s i k hi hk) ax rfl ?_;rw [mP];exact ⟨_,ax,rfl⟩
  ·have h9:¬ rh.ag=9:=by simpa using h9
   have mP:mb ⟨ae,order,types,.mk rh rp⟩ (.mk rh rp) (pj ⟨ae,order,types,.mk rh rp⟩).length=z:=by simp [mb,Ty.h,h9,hz]
   rw [mP];exact ⟨_,ax,rfl⟩
def QO (t:Ty):Prop:=∃ d m,(wrong t d m).1.1=0
def GU (ag:Int) (p:Ph) (t:Ty):Prop:=(p.bare=true/\ag=8/\sameTy t bF=true/\bq p eC=true)∨(p.bare=false/\(cY p).1=0/\QO t)
structure TyF (h:Hd) (ps:Pts):Prop where
 k1:1<=h.ag
 k9:h.ag<=9
 own:tU h ps=true
 int:h.ag=2->h.lo<=h.hi
 text:h.ag=3->0<=h.most/\h.most<=4096
 enum:h.ag=4->gA h=(0,0)
 one:h.ag=5∨h.ag=6->∃ p t,ps = .cons p t .nil/\p.name.s=ap/\bq p ei=true/\0<=h.most/\h.most<=1024/\QO t
 many:h.ag=7∨h.ag=8->ps.len<=64/\(h.ag=8->ps.len≠0)/\∀ i p t,ps.toList[i]? = some (p,t)->aA (pNames ps) i p.name=0/\GU h.ag p t
theorem S5 {h:Hd} {ps:Pts} (ho:¬ sj (.mk h ps)=false):tU h ps=true:=by
 rw [Gp];cases hb:sameTy (.mk h ps) (mask (.mk h ps))
 ·exact absurd hb ho
 ·rfl
theorem mh {ag:Int} {all:List Wd}:∀ {ps:Pts} {i:Nat} {d m:Int},(wrongPts ag all i ps d m).1.1=0->(ag=7∨ag=8)->∀ j p t,ps.toList[j]? = some (p,t)->aA all (i + j) p.name=0/\GU ag p t
 | .nil,i,d,m,_,_,j,p,t,hx=>by simp [Pts.toList] at hx
 | .cons q u r,i,d,m,he,hk,j,p,t,hx=>by
  simp only [wrongPts] at he;by_cases c0:aA all i q.name≠0
  ·rw [if_pos c0] at he;exact absurd he c0
  rw [if_neg c0] at he;have c0:aA all i q.name=0:=by simpa using c0
  have step:∀ d' m',(wrongPts ag all (i + 1) r d' m').1.1=0->GU ag q u->aA all (i + j) p.name=0/\GU ag p t:=by
   intro d' m' h hq
   cases j with
   | zero=>
    simp only [Pts.toList,List.getElem?_cons_zero,oI,Prod.mk.injEq] at hx;obtain ⟨rfl,rfl⟩:=hx;exact ⟨c0,hq⟩
   | succ j=>
    simp only [Pts.toList,List.getElem?_cons_succ] at hx;have:=mh h hk j p t hx
    rwa [show i + 1 + j=i + (j + 1) by omega] at this
  by_cases c1:q.bare=true
  ·rw [if_pos c1] at he;by_cases c2:ag=7∨sameTy u bF=false∨bq q eC=false
   ·rw [if_pos c2] at he;simp at he
   rw [if_neg c2] at he;refine step d m he (.inl ⟨c1,?_,?_,?_⟩)
   ·rcases hk with hk | hk
    ·exact absurd (.inl hk) c2
    ·exact hk
   ·cases hb:sameTy u bF
    ·exact absurd (.inr (.inl hb)) c2
    ·rfl
   ·cases hb:bq q eC
    ·exact absurd (.inr (.inr hb)) c2
    ·rfl
  ·rw [if_neg c1] at he;by_cases c2:(cY q).1≠0
   ·rw [if_pos c2] at he;exact absurd he c2
   rw [if_neg c2] at he;by_cases c3:(wrong u (d + 1) m).1.1≠0
   ·rw [if_pos c3] at he;exact absurd he c3
   rw [if_neg c3] at he;exact step d _ he (.inr ⟨by simpa using c1,by simpa using c2,d + 1,m,by simpa using c3⟩)
theorem EL:∀ {t:Ty},QO t->TyF t.h t.ps
 | .mk h ps,⟨d,m,he⟩=>by
  simp only [Ty.h,Ty.ps];simp only [wrong] at he;by_cases c0:24 < d
  ·rw [if_pos c0] at he;simp at he
  rw [if_neg c0] at he;by_cases c1:512 < m + 1
  ·rw [if_pos c1] at he;simp at he
  rw [if_neg c1] at he;by_cases c2:h.ag < 1∨9 < h.ag
  ·rw [if_pos c2] at he;simp at he
  rw [if_neg c2] at he;by_cases c3:sj (.mk h ps)=false
  ·rw [if_pos c3] at he;simp at he
  rw [if_neg c3] at he;by_cases c4:(h.ag=2/\h.hi < h.lo)∨(h.ag=3/\(h.most < 0∨4096 < h.most))
  ·rw [if_pos c4] at he;simp at he
  rw [if_neg c4] at he;by_cases c5:h.ag=9/\aU h.name.s=false
  ·rw [if_pos c5] at he;simp at he
  rw [if_neg c5] at he;refine { k1:=by omega,k9:=by omega,own:=S5 c3,int:=fun h2=>by omega,text:=fun h3=>by omega,enum:=fun h4=>?_,one:=fun h5=>?_,many:=fun h7=>?_ }
  ·rw [if_pos h4] at he;exact xg h he
  ·rw [if_neg (by omega),if_pos h5] at he
   match ps,he with
   | .nil,he=>simp [wrongOne] at he
   | .cons p t (.cons _ _ _),he=>simp [wrongOne] at he
   | .cons p t .nil,he=>
    simp only [wrongOne] at he;by_cases e0:p.name.s≠ap∨bq p ei=false
    ·rw [if_pos e0] at he;simp at he
    rw [if_neg e0] at he;by_cases e1:h.most < 0∨1024 < h.most
    ·rw [if_pos e1] at he;simp at he
    rw [if_neg e1] at he;refine ⟨p,t,rfl,Classical.byContradiction fun hn=>e0 (.inl hn),?_,by omega,by omega,d + 1,_,he⟩;cases hb:bq p ei
    ·exact absurd (.inr hb) e0
    ·rfl
  ·rw [if_neg (by omega),if_neg (by omega),if_pos h7] at he;by_cases e0:h.ag=8/\ps.len=0
   ·rw [if_pos e0] at he;simp at he
   rw [if_neg e0] at he;by_cases e1:64 < ps.len
   ·rw [if_pos e1] at he;simp at he
   rw [if_neg e1] at he;refine ⟨by omega,fun h8=>fun hl=>e0 ⟨h8,hl⟩,fun i p t hx=>?_⟩;have:=mh he h7 i p t hx
   rwa [Nat.zero_add] at this
theorem TyF.sub {h:Hd} {ps:Pts} (hF:TyF h ps) {p:Ph} {u:Ty} (hm:(p,u)∈ps.toList) (hb:p.bare=false):QO u:=by
 obtain ⟨i,hi⟩:=List.mem_iff_getElem?.1 hm
 have hlen:0 < ps.len:=by
  cases ps with
  | nil=>simp [Pts.toList] at hm
  | cons _ _ _=>simp [Pts.len]
 have hk:5<=h.ag/\h.ag<=8:=by
  have h1:=hF.own;unfold tU at h1;simp only [Bool.and_eq_true,Bool.or_eq_true,decide_eq_true_eq] at h1;have:=h1.1.1.2;omega
 by_cases h5:h.ag=5∨h.ag=6
 ·obtain ⟨q,t,rfl,_,_,_,_,hw⟩:=hF.one h5;simp only [Pts.toList,List.mem_singleton,Prod.mk.injEq] at hm;rw [hm.2];exact hw
 ·rcases ((hF.many (by omega)).2.2 i p u hi).2 with h1 | h1
  ·rw [h1.1] at hb;cases hb
  ·exact h1.2.2
mutual
theorem u3:∀ (t:Ty),QO t->∀ u∈flatT t,QO u
 | .mk h ps,hw,u,hu=>by
  rw [flatT] at hu;split at hu
  ·cases hu
  ·rcases List.mem_cons.1 hu with rfl | hu
   ·exact hw
   ·exact Cb ps (fun p v hm hb=>(EL hw).sub hm hb) u hu
theorem Cb:∀ (ps:Pts),(∀ p v,(p,v)∈ps.toList->p.bare=false->QO v)->∀ u∈flatP ps,QO u
 | .nil,_,u,hu=>by cases hu
 | .cons p v r,hw,u,hu=>by
  rw [flatP] at hu;rcases List.mem_append.1 hu with hu | hu
  ·cases hb:p.bare with
   | true=>rw [hb] at hu;cases hu
   | false=>rw [hb] at hu;exact u3 v (hw p v (by simp [Pts.toList]) hb) u hu
  ·exact Cb r (fun q w hm=>hw q w (by simp [Pts.toList,hm])) u hu
end
mutual
theorem Cd:∀ (t:Ty),∀ u∈flatT t,u.h.ag≠9
 | .mk h ps,u,hu=>by
  rw [flatT] at hu;split at hu
  ·cases hu
  ·rename_i h9;rcases List.mem_cons.1 hu with rfl | hu
   ·exact h9
   ·exact Ce ps u hu
theorem Ce:∀ (ps:Pts),∀ u∈flatP ps,u.h.ag≠9
 | .nil,u,hu=>by cases hu
 | .cons p v r,u,hu=>by
  rw [flatP] at hu;rcases List.mem_append.1 hu with hu | hu
  ·split at hu
   ·cases hu
   ·exact Cd v u hu
  ·exact Ce r u hu
end
mutual
theorem xX:∀ (t:Ty) (j:Nat) (u:Ty),(flatT t)[j]? = some u->j + u.nn<=t.nn
 | .mk h ps,j,u,hu=>by
  rw [flatT] at hu;by_cases h9:h.ag=9
  ·rw [if_pos h9] at hu;simp at hu
  rw [if_neg h9] at hu
  cases j with
  | zero=>
   simp only [List.getElem?_cons_zero,oI] at hu;subst hu;omega
  | succ j=>
   simp only [List.getElem?_cons_succ] at hu;have:=qU ps j u hu;rw [Ty.nn,if_neg h9];omega
theorem qU:∀ (ps:Pts) (j:Nat) (u:Ty),(flatP ps)[j]? = some u->j + u.nn<=ps.nn
 | .nil,j,u,hu=>by simp [flatP] at hu
 | .cons p v r,j,u,hu=>by
  rw [flatP] at hu;rw [Pts.nn]
  cases hb:p.bare with
  | true=>
   rw [hb] at hu;have:=qU r j u (by simpa using hu);simp only [if_true];omega
  | false=>
   rw [hb] at hu;simp only [Bool.false_eq_true,if_false] at hu ⊢;by_cases hj:j < (flatT v).length
   ·rw [List.getElem?_append_left hj] at hu;have:=xX v j u hu;omega
   ·rw [List.getElem?_append_right (by omega)] at hu;have:=qU r _ u hu;have h2:=iF v;omega
end
theorem pz {lev:List Wd->Int} {s:Sch}:∀ {ps:Pts} {k:Nat} {e:Ed},e∈edsP lev s ps k->∃ p u k',(p,u)∈ps.toList/\e=uH lev p (sK s p u k')/\(p.bare=false->k' + u.nn<=k + ps.nn)
 | .nil,k,e,he=>by simp [edsP] at he
 | .cons p u r,k,e,he=>by
  rw [edsP] at he;rcases List.mem_cons.1 he with rfl | he
  ·refine ⟨p,u,k,by simp [Pts.toList],rfl,fun hb=>?_⟩;rw [Pts.nn,hb];simp
  ·obtain ⟨q,v,k',h1,h2,h3⟩:=pz he;refine ⟨q,v,k',by simp [Pts.toList,h1],h2,fun hb=>?_⟩;have:=h3 hb;rw [Pts.nn];omega
theorem nY {lev:List Wd->Int} {s:Sch}:∀ {ps:Pts} {k:Nat},(edsP lev s ps k).map Ed.name=av (pNames ps)
 | .nil,k=>rfl
 | .cons p u r,k=>by
  rw [edsP,List.map_cons,nY (ps:=r)];rfl
theorem xY {f:Nat->Nat->Bool} {n:Nat} (hL:dL f n):∀ e,e<=n->∃ b,b < n/\∀ x,x < e->f b x=true
 | 0,_=>⟨0,hL.pos,fun x hx=>by omega⟩
 | e + 1,he=>by
  obtain ⟨b,hb,fv⟩:=xY hL e (by omega);obtain ⟨k,hk⟩:=hL.mt b e hb (by omega);obtain ⟨g1,g2,g3,g4⟩:=nU hk;refine ⟨k,g1,fun x hx=>?_⟩;rcases Nat.lt_succ_iff_lt_or_eq.1 hx with hx | rfl
  ·exact hL.tr k b x g1 hb (by omega) g2 (fv x hx)
  ·exact g3
theorem rK {f:Nat->Nat->Bool} {n:Nat} (hL:dL f n) (l:List Nat) (hl:∀ x∈l,x < n):∃ c,dT f n l=some c:=by
 have key:∀ e,e<=l.length->∃ c,dT f n (l.take e)=some c:=by
  intro e
  induction e with
  | zero=>
   intro _;obtain ⟨b,hb,fv⟩:=xY hL n (Nat.le_refl _);exact ⟨b,nV hL hb fv⟩
  | succ e ih=>
   intro he;obtain ⟨c,hc⟩:=ih (by omega);obtain ⟨x,hx⟩:∃ x,l[e]? = some x:=⟨_,gE (by omega)⟩;have vN:=hl x (mG hx);obtain ⟨k,hk⟩:=hL.jn c x (mN hc) vN;rw [List.take_add_one,hx];exact ⟨k,rG hL (fun y hy=>hl y (List.mem_of_mem_take hy)) vN hc hk⟩
 have:=key l.length (Nat.le_refl _)
 rwa [List.take_length] at this
theorem xZ {L:List ByteArray}:∀ {l:List Wd},(labW L l).1=0->∀ w∈l,∃ i,cx L w.s=some i
 | [],_,w,hw=>by cases hw
 | x :: r,h,w,hw=>by
  rw [labW] at h;split at h
  ·cases h
  ·rename_i h1;rcases List.mem_cons.1 hw with rfl | hw
   ·exact Option.ne_none_iff_exists'.1 h1
   ·exact xZ h w hw
theorem IK {f:Nat->Nat->Bool} {L:List ByteArray} (hL:dL f L.length) {l:List Wd} (h:(labW L l).1=0):∃ c:Nat,zb f L l=c/\c < L.length:=by
 obtain ⟨c,hc⟩:=rK hL (kW L l) (fun x hx=>by
  unfold kW at hx;obtain ⟨w,hw,rfl⟩:=List.mem_map.1 hx;obtain ⟨i,hi⟩:=xZ h w hw;rw [hi]
  exact (cF hi).1)
 refine ⟨c,?_,mN hc⟩;unfold zb;rw [if_pos h,hc];rfl
structure EdOK (L N:Nat) (e:Ed):Prop where
 to0:e.bare=true->e.to = -1
 to1:e.bare=false->∃ k:Nat,e.to=k/\k < N
 lab:∃ k:Nat,e.label=k/\k < L
 seen:∃ k:Nat,e.seen=k/\k < L
 wide:1<=e.wide/\e.wide<=64
 ck:0<=e.ck/\e.ck<=3
 cn:(e.ck=0->e.cn=0)/\(e.ck=1->1<=e.cn)/\(e.ck=2->0<=e.cn/\e.cn<=4096)/\(e.ck=3->e.cn=0)
structure dE (L N:Nat) (n:Nd):Prop where
 k1:1<=n.ag
 k8:n.ag<=8
 lohi:n.ag=2->n.lo<=n.hi
 lo0:n.ag≠2->n.lo=0/\n.hi=0
 QP:n.ag=3->0<=n.most/\n.most<=4096
 QQ:n.ag=5->0<=n.most/\n.most<=1024
 QR:n.ag≠3->n.ag≠5->n.most=0
 af:n.ag=4->n.af ≠ []/\n.af.length<=64/\n.af.Nodup/\∀ s∈n.af,aU s=true
 S6:n.ag≠4->n.af=[]
 leaf:n.ag < 5->n.au=[]
 one:n.ag=5∨n.ag=6->∃ e,n.au=[e]/\e.bare=false/\e.name=ap
 many:n.ag=7∨n.ag=8->n.au.length<=64/\(n.ag=8->n.au ≠ [])/\(n.au.map Ed.name).Nodup/\∀ e∈n.au,aU e.name=true
 bare:∀ e∈n.au,e.bare=true->n.ag=8
 lZ:∀ e∈n.au,EdOK L N e
theorem u4 {l:List Wd} (h:∀ j x,l[j]? = some x->aA l j x=0):(av l).Nodup/\∀ x∈l,aU x.s=true:=by
 have key:∀ e,e<=l.length->(av (l.take e)).Nodup:=by
  intro e
  induction e with
  | zero=>intro _;simp [av]
  | succ e ih=>
   intro he;obtain ⟨x,hx⟩:∃ x,l[e]? = some x:=⟨_,gE (by omega)⟩;exact kV hx (ih (by omega)) (h e x hx)
 refine ⟨by have:=key l.length (Nat.le_refl _);rwa [List.take_length] at this,fun x hx=>?_⟩;obtain ⟨j,hj⟩:=List.mem_iff_getElem?.1 hx;have:=h j x hj;unfold aA at this;cases hb:aU x.s
 ·rw [hb] at this;simp at this
 ·rfl
theorem x0 {all:List Wd}:∀ {l:List Wd} {i:Nat},(enumL all i l).1=0->∀ j x,l[j]? = some x->aA all (i + j) x=0
 | [],i,_,j,x,hx=>by simp at hx
 | y :: r,i,h,j,x,hx=>by
  rw [enumL] at h;split at h
  ·rename_i h1;exact (h1 h).elim
  ·rename_i h1
   cases j with
   | zero=>
    simp only [List.getElem?_cons_zero,oI] at hx;subst hx;simpa using h1
   | succ j=>
    simp only [List.getElem?_cons_succ] at hx;have:=x0 h j x hx
    rwa [show i + 1 + j=i + (j + 1) by omega] at this
theorem zs {h:Hd} (he:gA h=(0,0)):h.af ≠ []/\h.af.length<=64/\(av h.af).Nodup/\∀ x∈h.af,aU x.s=true:=by
 unfold gA at he;split at he
 ·cases he
 ·rename_i h1;split at he
  ·cases he
  ·rename_i h2;refine ⟨h1,by omega,?_⟩
   exact u4 fun j x hx=>by
    have:=x0 (all:=h.af) (i:=0) (by rw [he]) j x hx
    rwa [Nat.zero_add] at this
theorem GV {X:Lx} {L:List ByteArray}:∀ {ps:Pts},(knP X L ps).1=0->∀ {p:Ph} {u:Ty},(p,u)∈ps.toList->(X.bad p.label).1=0/\(X.bad p.cl).1=0
 | .nil,_,p,u,h=>by cases h
 | .cons q v r,hk,p,u,h=>by
  have hr:=(qJ hk).2;rw [knP] at hk;split at hk
  ·rename_i h1;exact (h1 hk).elim
  rename_i h1;split at hk
  ·rename_i h2;exact (h2 hk).elim
  rename_i h2;rcases List.mem_cons.1 h with h | h
  ·cases h;exact ⟨by simpa using h1,by simpa using h2⟩
  ·exact GV hr h
theorem mR {p q:Ph} (h:bq p q=true):p.bare=q.bare/\p.wide=q.wide/\p.ck=q.ck/\p.cn=q.cn:=by
 unfold bq at h;simp only [Bool.and_eq_true,beq_iff_eq,decide_eq_true_eq] at h;exact ⟨h.1.1.1.1.1,h.1.1.1.1.2,h.1.1.2,h.1.2⟩
theorem My {w:Int} (h:0<=w/\w<=64):1<=ke w/\ke w<=64:=by
 unfold ke;split<;>omega
theorem EM {p:Ph} (h:(aP p).1=0):(0<=p.ck/\p.ck<=3)/\(p.ck=0->p.cn=0)/\(p.ck=1->1<=p.cn)/\(p.ck=2->0<=p.cn/\p.cn<=4096)/\(p.ck=3->p.cn=0):=by
 unfold aP at h;by_cases c0:p.ck=0
 ·rw [if_pos c0] at h;by_cases c1:p.cn=0/\p.cl=[]
  ·exact ⟨by omega,fun _=>c1.1,by omega,by omega,by omega⟩
  ·rw [if_neg c1] at h;simp at h
 rw [if_neg c0] at h;by_cases c1:p.ck < 0∨3 < p.ck
 ·rw [if_pos c1] at h;simp at h
 rw [if_neg c1] at h;by_cases c2:(p.ck=1/\p.cn < 1)∨(p.ck=2/\(p.cn < 0∨4096 < p.cn))∨(p.ck=3/\p.cn≠0)
 ·rw [if_pos c2] at h;simp at h
 exact ⟨by omega,by omega,by omega,by omega,by omega⟩
theorem IL {p:Ph} (h:(cY p).1=0):(0<=p.wide/\p.wide<=64)/\(aP p).1=0:=by
 unfold cY at h;by_cases c0:p.wide < 0∨64 < p.wide
 ·rw [if_pos c0] at h;simp at h
 rw [if_neg c0] at h;by_cases c1:(bu p.label).1≠0
 ·rw [if_pos c1] at h;exact absurd h c1
 rw [if_neg c1] at h;exact ⟨by omega,h⟩
theorem zt {t:Ty} (h:t.h.ag≠9):1<=t.nn:=by
 obtain ⟨h',ps⟩:=t;have h:¬ h'.ag=9:=h;rw [Ty.nn,if_neg h];omega
theorem x3 {S:Sch} {k:Nat} {x:Wd × Ty} (hx:S.types[k]? = some x):firstA S k + x.2.nn<=pu (fb S):=by
 have h1:=ma hx;rw [<- h1]
 have h2:firstA S (k + 1)=pu ((er S).take (k + 1)):=by
  unfold firstA pu er;rw [<- List.map_take,List.map_map];rfl
 have h3:=B8 (er S) (k + 1);have h4:pu (fb S)=pu (er S) + pu [S.root]:=sO _ _;omega
theorem u5 {lev:List Wd->Int} {s:Sch} {n:Nd}:∀ {l:List Ty} {k i:Nat},(ndsA lev s l k)[i]? = some n->∃ t∈l,∃ u∈flatT t,n=Pc lev s u (k + i)/\i + u.nn<=pu l
 | [],k,i,h=>by simp [ndsA] at h
 | t :: r,k,i,h=>by
  rw [ndsA] at h;rw [mg];have hl:=jf lev s t k;by_cases hi:i < t.nn
  ·rw [List.getElem?_append_left (by omega),sN,List.getElem?_map,List.getElem?_zipIdx] at h
   cases hu:(flatT t)[i]? with
   | none=>rw [hu] at h;simp at h
   | some u=>
    rw [hu] at h;simp only [Option.map_some,oI] at h;have:=xX t i u hu;exact ⟨t,List.mem_cons_self,u,mG hu,by rw [<- h];simp,by omega⟩
  ·rw [List.getElem?_append_right (by omega),hl] at h;obtain ⟨t',h1,u,h2,h3,h4⟩:=u5 h;refine ⟨t',List.mem_cons_of_mem _ h1,u,h2,?_,by omega⟩;rw [h3];congr 1;omega
theorem la (S:Sch):(aQ S).length=pu (fb S):=by rw [iG,kh]
theorem qV {S:Sch} (hF:u1 S) {i:Nat} {n:Nd} (h:(aQ S)[i]? = some n):dE S.ae.length (aQ S).length n:=by
 rw [la];rw [iG] at h;obtain ⟨t,ht,u,hu,rfl,jM⟩:=u5 h;rw [Nat.zero_add];have JG:=u3 t ⟨_,_,hF.wr t ht⟩ u hu;have hk:=uZ t (hF.kn t ht) u hu;have YL:=Cd t u hu;have hT:=EL JG;obtain ⟨XK,_⟩:=kf hF.lat;have gj:=cS S.ae;have u2:=hF.ends;obtain ⟨uh,us⟩:=u;simp only [Ty.h,Ty.ps] at hT YL;have SG:=(kY hk).2;have cC:=hT.own;unfold tU at cC;simp only [Bool.and_eq_true,Bool.or_eq_true,decide_eq_true_eq] at cC;obtain ⟨⟨⟨⟨o1,o2⟩,o3⟩,o4⟩,o5⟩:=cC;have k1:=hT.k1;have k9:=hT.k9
 have T0:∀ l:List Wd,(labW (av S.ae) l).1=0->∃ k:Nat,gH S l=k/\k < S.ae.length:=by
  intro l hl;have:=IK (f:=dY S.ae.length (cL (av S.ae) S.order)) (L:=av S.ae) (by rw [gj];exact XK) hl
  rwa [gj] at this
 have mP:∀ (p:Ph) (v:Ty) (k':Nat),(p,v)∈us.toList->(p.bare=false->k' + v.nn<=i + 1 + us.nn)->(p.bare=true->sK S p v k' = -1)/\(p.bare=false->∃ k:Nat,sK S p v k'=k/\k < pu (fb S)):=by
  intro p v k' hm fv;refine ⟨fun hb=>by simp [sK,hb],fun hb=>?_⟩;have hkv:=zr SG hm hb;obtain ⟨vh,vs⟩:=v;by_cases h9:vh.ag=9
  ·obtain ⟨j,hj⟩:=Option.ne_none_iff_exists'.1 ((kY hkv).1 h9);have ng:=(cF hj).1;rw [jc] at ng;obtain ⟨k,hk⟩:=u2 j ng;have iP:=pf hk;obtain ⟨x,hx⟩:∃ x,S.types[k]? = some x:=⟨_,gE iP.1⟩;have h1:=x3 hx;have h2:=zt (iP.2 x hx);refine ⟨firstA S k,?_,by omega⟩;simp [sK,hb,mb,Ty.h,h9,SE,hj,namedN,hk]
  ·have h1:=zt (t:=.mk vh vs) h9;have h2:=fv hb;have h3:(Ty.mk uh us).nn=1 + us.nn:=by rw [Ty.nn,if_neg YL]
   refine ⟨k',by simp [sK,hb,mb,Ty.h,h9],by omega⟩
 have BJ:∀ p v,(p,v)∈us.toList->(0<=p.wide/\p.wide<=64)/\(0<=p.ck/\p.ck<=3)/\((p.ck=0->p.cn=0)/\(p.ck=1->1<=p.cn)/\(p.ck=2->0<=p.cn/\p.cn<=4096)/\(p.ck=3->p.cn=0))/\(p.bare=true->uh.ag=8):=by
  intro p v hm;obtain ⟨j,hj⟩:=List.mem_iff_getElem?.1 hm
  have hlen:us.len≠0:=by
   cases us with
   | nil=>simp [Pts.toList] at hm
   | cons _ _ _=>simp [Pts.len]
  by_cases h5:uh.ag=5∨uh.ag=6
  ·obtain ⟨q,t',rfl,_,jt,_,_,_⟩:=hT.one h5;simp only [Pts.toList,List.mem_singleton,Prod.mk.injEq] at hm;obtain ⟨rfl,rfl⟩:=hm;obtain ⟨w1,w2,w3,w4⟩:=mR jt;have z1:ei.wide=0:=rfl;have z2:ei.ck=0:=rfl;have z3:ei.cn=0:=rfl;have z4:ei.bare=false:=rfl;rw [z1] at w2;rw [z2] at w3;rw [z3] at w4;rw [z4] at w1;refine ⟨by omega,by omega,⟨by omega,by omega,by omega,by omega⟩,fun hb=>?_⟩;rw [w1] at hb;cases hb
  ·obtain ⟨_,hP⟩:=(hT.many (by omega)).2.2 j p v hj;rcases hP with ⟨hb,h8,_,jt⟩ | ⟨hb,hp,_⟩
   ·obtain ⟨w1,w2,w3,w4⟩:=mR jt;have z1:eC.wide=0:=rfl;have z2:eC.ck=0:=rfl;have z3:eC.cn=0:=rfl;rw [z1] at w2;rw [z2] at w3;rw [z3] at w4;exact ⟨by omega,by omega,⟨by omega,by omega,by omega,by omega⟩,fun _=>h8⟩
   ·obtain ⟨w1,w2⟩:=IL hp;obtain ⟨w3,w4⟩:=EM w2;exact ⟨w1,w3,w4,fun h=>by rw [hb] at h;cases h⟩
 have XL:us.len=0->us = .nil:=fun h=>by
  cases us with
  | nil=>rfl
  | cons _ _ _=>simp [Pts.len] at h
 refine {
  k1:=k1
  k8:=by show uh.ag<=8;omega
  lohi:=hT.int
  lo0:=fun h2=>?_
  QP:=hT.text
  QQ:=fun h5=>?_
  QR:=fun h3 h5=>?_
  af:=fun h4=>?_
  S6:=fun h4=>?_
  leaf:=fun h5=>?_
  one:=fun h5=>?_
  many:=fun h7=>?_
  bare:=fun e he hb=>?_
  lZ:=fun e he=>?_ }
 ·show uh.lo=0/\uh.hi=0;exact o1.resolve_left h2
 ·obtain ⟨q,t',rfl,_,_,jx,fg,_⟩:=hT.one (.inl h5);exact ⟨jx,fg⟩
 ·show uh.most=0;exact o2.resolve_left (fun h=>h.elim h3 h5)
 ·obtain ⟨e1,e2,e3,e4⟩:=zs (hT.enum h4);show av uh.af ≠ []/\(av uh.af).length<=64/\(av uh.af).Nodup/\∀ s∈av uh.af,aU s=true;refine ⟨fun h=>e1 (by simpa [av] using h),by rw [cS];exact e2,e3,fun s hs=>?_⟩;unfold av at hs;obtain ⟨w,hw,rfl⟩:=List.mem_map.1 hs;exact e4 w hw
 ·show av uh.af=[];have:=o4.resolve_right h4;have:uh.af=[]:=List.eq_nil_of_length_eq_zero this;rw [this];all_goals rfl
 ·show edsP (gH S) S us (i + 1)=[];have hk5:uh.ag < 5:=h5;rw [XL (o3.resolve_right (by omega))];rfl
 ·show ∃ e,edsP (gH S) S us (i + 1)=[e]/\_;obtain ⟨q,t',rfl,hn,jt,_,_,_⟩:=hT.one h5;refine ⟨uH (gH S) q (sK S q t' (i + 1)),rfl,?_,hn⟩;exact (mR jt).1
 ·show (edsP (gH S) S us (i + 1)).length<=64/\(_->edsP (gH S) S us (i + 1) ≠ [])/\((edsP (gH S) S us (i + 1)).map Ed.name).Nodup/\∀ e∈edsP (gH S) S us (i + 1),aU e.name=true;obtain ⟨m1,m2,m3⟩:=hT.many h7
  have iM:∀ j x,(pNames us)[j]? = some x->aA (pNames us) j x=0:=by
   intro j x hx
   have hj:j < us.len:=by
    have:=(gS hx).1
    rwa [fl] at this
   obtain ⟨p,t',hp⟩:=Pts.dP hj;rw [fm hp] at hx;simp only [oI] at hx;rw [<- hx];exact (m3 j p t' hp).1
  obtain ⟨n1,n2⟩:=u4 iM;refine ⟨by rw [pg];exact m1,fun h8 hn=>m2 h8 ?_,by rw [nY];exact n1,fun e he=>?_⟩
  ·have:=pg (gH S) S us (i + 1);rw [hn] at this;simpa using this.symm
  ·have:e.name∈av (pNames us):=by rw [<- nY (lev:=gH S) (s:=S) (k:=i + 1)];exact List.mem_map_of_mem he
   unfold av at this;obtain ⟨w,hw,h⟩:=List.mem_map.1 this;rw [<- h];exact n2 w hw
 ·obtain ⟨p,v,k',h1,rfl,_⟩:=pz he;exact (BJ p v h1).2.2.2 hb
 ·obtain ⟨p,v,k',h1,rfl,h3⟩:=pz he;obtain ⟨h4,h5⟩:=mP p v k' h1 h3;obtain ⟨h6,h7,h8,_⟩:=BJ p v h1;obtain ⟨h9,oB⟩:=GV SG h1;exact { to0:=h4,to1:=h5,lab:=T0 _ h9,seen:=T0 _ oB,wide:=My h6,ck:=h7,cn:=h8 }
theorem EN {S:Sch} (hF:u1 S):∃ k:Nat,bL S=k/\k < (aQ S).length:=by
 rw [la];have QL:=hF.kn S.root (by unfold fb;simp);have u2:=hF.ends;have fH:=uY S;have N3:pu (fb S)=pu (er S) + S.root.nn:=by unfold fb;rw [sO];simp [pu]
 unfold bL;obtain ⟨ae,order,types,⟨rh,rp⟩⟩:=S;simp only at QL u2 N3;by_cases h9:rh.ag=9
 ·obtain ⟨j,hj⟩:=Option.ne_none_iff_exists'.1 ((kY QL).1 h9);have ng:=(cF hj).1;rw [jc] at ng;obtain ⟨k,hk⟩:=u2 j ng;have iP:=pf hk;obtain ⟨x,hx⟩:∃ x,(Sch.mk ae order types (.mk rh rp)).types[k]? = some x:=⟨_,gE iP.1⟩;have h1:=x3 hx;have h2:=zt (iP.2 x hx);exact ⟨firstA ⟨ae,order,types,.mk rh rp⟩ k,by simp [mb,Ty.h,h9,SE,hj,namedN,hk],by omega⟩
 ·have h1:=zt (t:=.mk rh rp) h9;exact ⟨(pj ⟨ae,order,types,.mk rh rp⟩).length,by simp [mb,Ty.h,h9],by omega⟩
theorem u6 {lev:List Wd->Int} {s:Sch} {n:Nd}:∀ {l:List Ty} {k:Nat},n∈ndsA lev s l k->∃ t∈l,∃ u∈flatT t,∃ k',n=Pc lev s u k'
 | [],_,h=>by cases h
 | t :: r,k,h=>by
  rw [ndsA] at h;rcases List.mem_append.1 h with h | h
  ·rw [sN] at h;obtain ⟨x,hx,rfl⟩:=List.mem_map.1 h;have:=(List.mem_zipIdx hx).2.2;refine ⟨t,List.mem_cons_self,x.1,?_,_,rfl⟩;rw [this];exact List.getElem_mem _
  ·obtain ⟨t',ht,h⟩:=u6 h;exact ⟨t',List.mem_cons_of_mem _ ht,h⟩
theorem mS {S:Sch} {n:Nd} (h:n∈aQ S) (hS:S.wt<=1099511627776):n.af.length<=1099511627776/\n.au.length<=1099511627776:=by
 rw [iG] at h;obtain ⟨t,ht,u,hu,k,rfl⟩:=u6 h;have h1:=zo hS t ht;have h2:=u0 t u hu;obtain ⟨uh,us⟩:=u;have h3:=bd uh.af;have h4:=us.eO;simp only [Ty.wt,Hd.wt] at h2;simp only [Pc,Ty.h,Ty.ps,cS,pg];omega
abbrev zNd:List DV:=[.v (.int .i64 0),.v (.int .i64 0),.v (.int .i64 0),.v (.int .i64 0),.v (.int .i64 0),.v (.slice none 0 0),.v (.slice none 0 0)]
structure ln (S:Sch) (ND:List Nd) (PC:List DV):Prop where
 fine:u1 S
 wt:S.wt<=1099511627776
 Al:ND=aQ S
 ok:∀ n∈ND,dE S.ae.length ND.length n
 nl:ND.length<=1099511627776
 len:EvP Tryz.prog 110 [.pt PC 0] (.v (.int .i64 ND.length))
 root:EvP Tryz.prog 19 [.pt PC 0] (.v (.int .i64 (bL S)))
 ai:∀ (i:Nat) n,ND[i]? = some n->EvP Tryz.prog 51 [.pt PC 0,.v (.int .i64 i)] (.tup [.agg (jG n),.v (.bool true)])
 QS:∀ i:Int,(i < 0∨ND.length<=i)->EvP Tryz.prog 51 [.pt PC 0,.v (.int .i64 i)] (.tup [.agg zNd,.v (.bool false)])
 lat:∃ az js,(dD S az js).OK/\EvP Tryz.prog 38 [.pt PC 0] (dD S az js).pd
theorem Mz {S:Sch} {d:DV} (hS:S.wt<=1099511627776) (h0:(jU S).1=0) (hd:LZ S d):∃ PC,d = .pt PC 0/\ln S (aQ S) PC:=by
 obtain ⟨az,jV,js,hX,hT,jN,rfl⟩:=hd;have hF:=pw h0;have bI:=fun n (h:n∈aQ S)=>mS h hS
 refine ⟨_,rfl,{
  fine:=hF
  wt:=hS
  Al:=rfl
  ok:=fun n hn=>?_
  nl:=by rw [la];exact Nat.le_trans (EK S) hS
  len:=qL _ _ _ _ _ _
  root:=Et _ _ _ _ _ _
  ai:=fun i n h=>Eu _ _ _ _ _ _ i n h (bI n (mG h)).1 (bI n (mG h)).2
  QS:=fun i h=>Ew _ _ _ _ _ _ i h
  lat:=⟨az,js,hX,Iz _ _ _ _ _ _⟩ }⟩
 obtain ⟨i,hi⟩:=List.mem_iff_getElem?.1 hn;exact qV hF hi
def EO (S:Sch) (r:DV):Prop:=((jU S).1≠0/\r = .tup [.v (.pointer none),(jU S).d])∨((jU S).1=0/\∃ PC,ln S (aQ S) PC/\r = .tup [.pt PC 0,Ft.d (0,0)])
theorem x4 {S:Sch} (hS:S.wt<=1099511627776) {r:DV} {os:List (List DV)} {tk:List TkE} (h:Ep S r os tk):EO S r:=by
 unfold Ep at h;by_cases h0:(jU S).1=0
 ·rw [if_neg (by rw [h0];simp)] at h;obtain ⟨d,hd,rfl⟩:=h;obtain ⟨PC,rfl,hP⟩:=Mz hS h0 hd;exact .inr ⟨h0,PC,hP,rfl⟩
 ·rw [if_pos h0] at h;exact .inl ⟨h0,h⟩
inductive Val where
 | mk (k n:Int) (s:ByteArray) (ks:List Val)
def Val.k:Val->Int | .mk k _ _ _=>k
def Val.n:Val->Int | .mk _ n _ _=>n
def Val.s:Val->ByteArray | .mk _ _ s _=>s
def Val.ks:Val->List Val | .mk _ _ _ ks=>ks
mutual
def bV:Val->List DV
 | .mk k n s ks=>[.v (.int .i64 k),.v (.int .i64 n),.v (.string s),.sl 4 (dVals ks) none]
def dVals:List Val->List (List DV)
 | []=>[]
 | v :: r=>bV v :: dVals r
end
theorem qW:∀ l:List Val,dVals l=l.map bV
 | []=>rfl
 | v :: r=>by rw [dVals,qW r];all_goals rfl
theorem ch (l:List Val):(dVals l).length=l.length:=by rw [qW,List.length_map]
theorem dh {l:List Val} {e:Nat} {x:Val} (h:l[e]? = some x):(dVals l)[e]? = some (bV x):=by rw [qW,List.getElem?_map,h];all_goals rfl
mutual
def Val.wt:Val->Nat
 | .mk _ _ s ks=>64 + s.size + dZ ks
def dZ:List Val->Nat
 | []=>0
 | v :: r=>v.wt + dZ r
end
theorem Val.dr:∀ v:Val,64<=v.wt
 | .mk _ _ _ _=>by rw [Val.wt];omega
theorem gY:∀ {l:List Val} {x:Val},x∈l->x.wt<=dZ l
 | v :: r,x,h=>by
  rcases List.mem_cons.1 h with rfl | h
  ·rw [dZ];omega
  ·have:=gY h;rw [dZ];omega
theorem eJ:∀ l:List Val,64 * l.length<=dZ l
 | []=>Nat.le_refl _
 | v :: r=>by
  have:=eJ r;have:=v.dr;rw [dZ,List.length_cons];omega
mutual
def Cf:Val->Nat
 | .mk _ _ _ ks=>1 + ji ks
def ji:List Val->Nat
 | []=>0
 | v :: r=>Cf v + ji r
end
mutual
def wg:Val->Nat
 | .mk _ _ _ ks=>fB ks + 1
def fB:List Val->Nat
 | []=>0
 | v :: r=>max (wg v) (fB r)
end
mutual
theorem GW:∀ v:Val,Cf v<=v.wt/\wg v<=v.wt
 | .mk _ _ _ ks=>by
  have:=u7 ks;rw [Cf,wg,Val.wt];omega
theorem u7:∀ l:List Val,ji l<=dZ l/\fB l<=dZ l
 | []=>⟨Nat.le_refl _,Nat.le_refl _⟩
 | v :: r=>by
  have h1:=GW v;have h2:=u7 r;rw [ji,fB,dZ];omega
end
theorem u9:∀ (l:List Val) (x:Val),ji (l ++ [x])=ji l + Cf x
 | [],x=>by simp [ji]
 | v :: r,x=>by rw [List.cons_append,ji,ji,u9 r];omega
theorem va:∀ (l:List Val) (x:Val),fB (l ++ [x])=max (fB l) (wg x)
 | [],x=>by simp [fB]
 | v :: r,x=>by rw [List.cons_append,fB,fB,va r];omega
theorem x5 {α:Type} {l:List α} {e:Nat} {x:α} (h:l[e]? = some x):l.take (e + 1)=l.take e ++ [x]:=by rw [List.take_add_one,h];all_goals rfl
theorem EP (l:List Val):∀ e,ji (l.take e)<=dZ l/\fB (l.take e)<=dZ l:=fun e=>by
 have h1:=u7 (l.take e)
 have h2:∀ (l:List Val) e,dZ (l.take e)<=dZ l:=by
  intro l
  induction l with
  | nil=>intro e;simp [dZ]
  | cons v r ih=>
   intro e
   cases e with
   | zero=>simp [dZ]
   | succ e=>have:=ih e;simp only [List.take_succ_cons,dZ];omega
 have:=h2 l e;omega
abbrev Pf (v:Val) (n d e:Nat):St:=
 ⟨[(1,⟨[],.loc 0 0⟩),(4,⟨[],.v (.int .i64 n)⟩),(5,⟨[],.v (.int .i64 d)⟩),(6,⟨[],.v (.int .i64 e)⟩)],[bV v],[]⟩
theorem rL:∀ (k:Nat) (v:Val),v.wt<=k->v.wt<=1099511627776->EvP Tryz.prog 13 [.agg (bV v)] (.tup [.v (.int .i64 (Cf v:Nat)),.v (.int .i64 (wg v:Nat))])
 | 0,v,h,_=>by have:=v.dr;omega
 | k + 1,.mk q n s ks,h,hb=>by
  have ih:=rL k;have cR:=ch ks;have iP:=eJ ks;have ia:=EP ks;rw [Val.wt] at h hb;rw [Cf,wg];refine ev_go (P:=Tryz.prog) tt tt_ok 5000 35 [.tmp 2,.tmp 3] Tryz.func13 rfl Tryz.ntmps13 rfl (nL rfl) (fun E9 w9 hn9 hm9=>?_);refine aq (fun j st=>∃ e:Nat,st=Pf (.mk q n s ks) (1 + ji (ks.take e)) (fB (ks.take e)) e/\e<=ks.length/\j=ks.length - e) ks.length (Pf (.mk q n s ks) 1 0 0) (weak_mk ⟨_,rfl⟩ wA rfl rfl rfl wB) ⟨0,rfl,by omega,by omega⟩ ?_;rintro j st ⟨e,rfl,he,rfl⟩;refine br (fun hL=>?_) (fun hL=>?_)
  ·have al:e < ks.length:=by have:=hL;simp [cR] at this;exact this
   obtain ⟨x,hx⟩:∃ x,ks[e]? = some x:=⟨_,gE al⟩;have T5:=gY (mG hx);have hc:=u9 (ks.take e) x;have hd:=va (ks.take e) x;rw [<- x5 hx] at hc hd;have h1:=ia (e + 1);have hi:=ih x (by omega) (by omega);have hcx:=GW x;obtain ⟨xk,xn,xs,xl⟩:=x;refine ⟨_,⟨by omega,dh hx⟩,?_⟩;refine call_p U3 (hi) ax rfl ?_;have hw:IntKind.i64.wrap (((1 + ji (ks.take e):Nat):Int) + ((Cf (.mk xk xn xs xl):Nat):Int))=((1 + ji (ks.take (e + 1)):Nat):Int):=by rw [wrap64 (by omega) (by omega)];omega
   refine br (fun g=>?_) (fun g=>?_)
   ·have g:fB (ks.take e) < wg (.mk xk xn xs xl):=by simpa using g
    have Ke:((wg (.mk xk xn xs xl):Nat):Int)=((fB (ks.take (e + 1)):Nat):Int):=by omega
    exact ⟨Pf (.mk q n s ks) (1 + ji (ks.take (e + 1))) (fB (ks.take (e + 1))) (e + 1),(weak_mk ⟨_,rfl⟩ wA rfl rfl rfl (by repeat' (first | exact trivial | exact ah rfl | exact ak hw | exact ak Ke | exact ak (cA al (by omega)) | refine ⟨⟨_,rfl,?_⟩,?_⟩))),ks.length - (e + 1),by omega,e + 1,rfl,by omega,rfl⟩
   ·have g:¬ fB (ks.take e) < wg (.mk xk xn xs xl):=by simpa using g
    have Ke:((fB (ks.take e):Nat):Int)=((fB (ks.take (e + 1)):Nat):Int):=by omega
    exact ⟨Pf (.mk q n s ks) (1 + ji (ks.take (e + 1))) (fB (ks.take (e + 1))) (e + 1),(weak_mk ⟨_,rfl⟩ wA rfl rfl rfl (by repeat' (first | exact trivial | exact ah rfl | exact ak hw | exact ak Ke | exact ak (cA al (by omega)) | refine ⟨⟨_,rfl,?_⟩,?_⟩))),ks.length - (e + 1),by omega,e + 1,rfl,by omega,rfl⟩
  ·have aN:e=ks.length:=by have:=hL;simp [cR] at this;omega
   subst aN;have h1:=ia ks.length;rw [List.take_length] at h1 ⊢;have hw:IntKind.i64.wrap (((fB ks:Nat):Int) + 1)=((fB ks + 1:Nat):Int):=by rw [wrap64 (by omega) (by omega)];omega
   refine ⟨_,(aI hw),rfl⟩
theorem Cg:Tryz.prog.cellsOf 45=4:=by kernel_rfl
end Go.Proofs.YtfifjddnnmfeoaaGreat
namespace Go.Proofs.YtfifjddnnmfeoaaGreat
open Go Go.RowKit Dv
def tyVS:List TypeId:=[45,43,9,3]
theorem tyVS_ok:∀ t∈tyVS,nN Tryz.prog tyVS t=true:=by
 have h:(tyVS.all fun t=>nN Tryz.prog tyVS t)=true:=by kernel_rfl
 exact fun t ht=>List.all_eq_true.1 h t ht
end Go.Proofs.YtfifjddnnmfeoaaGreat
set_option maxRecDepth 100000
namespace Go.Proofs.YtfifjddnnmfeoaaGreat
open Go Go.RowKit Dv Tryz
def bo (n u:Int):Int × Bool:=if u < 1 then (0,false) else if n - n % u < -9223372036854775808 then (0,false) else (n - n % u,true)
def zu (r:Int × Bool):DV:=.tup [.v (.int .i64 r.1),.v (.bool r.2)]
theorem pA {n u:Int} (hu:1<=u):(n.tmod u < 0->n.tmod u + u=n % u)/\(¬ n.tmod u < 0->n.tmod u=n % u):=by
 have h1:=Int.emod_nonneg n (show u≠0 by omega);have h2:=Int.emod_lt_of_pos n (show 0 < u by omega);have h3:=Int.tmod_eq_emod (a:=n) (b:=u);have h4:(u.natAbs:Int)=u:=Int.natAbs_of_nonneg (by omega);rw [h3];split<;>omega
theorem nZ (n u:Int) (hn : -9223372036854775808<=n/\n<=9223372036854775807) (hu : -9223372036854775808<=u/\u<=9223372036854775807):EvP Tryz.prog 279 [.v (.int .i64 n),.v (.int .i64 u)] (zu (bo n u)):=by
 have hF:bo n u=if u < 1 then (0,false) else if n - n % u < -9223372036854775808 then (0,false) else (n - n % u,true):=rfl
 generalize bo n u=F at hF ⊢;refine ev_go (P:=Tryz.prog) tt tt_ok 5000 24 [.tmp 4,.tmp 5] Tryz.func279 rfl Tryz.ntmps279 rfl (nL rfl) (fun E9 w9 hn9 hm9=>?_);refine br (fun c=>?_) (fun c=>?_)
 ·have c:u < 1:=by simpa using c
  rw [if_pos c] at hF;subst hF;exact ⟨_,ax,rfl⟩
 have c:¬ u < 1:=by simpa using c
 rw [if_neg c] at hF;have hm:=pA (n:=n) (u:=u) (by omega);have h1:=Int.emod_nonneg n (show u≠0 by omega);have h2:=Int.emod_lt_of_pos n (show 0 < u by omega)
 have h5 : -u<=n.tmod u/\n.tmod u < u:=by
  rcases Int.lt_or_le (n.tmod u) 0 with h | h
  ·have:=hm.1 h;omega
  ·have:=hm.2 (by omega);omega
 have NE:IntKind.i64.wrap (-9223372036854775808 + n % u) = -9223372036854775808 + n % u:=wrap64 (by omega) (by omega);refine ⟨⟨rfl,by omega⟩,?_⟩;refine br (fun g=>?_) (fun g=>?_)
 ·have g:n.tmod u < 0:=by simpa using g
  have nC:IntKind.i64.wrap (n.tmod u + u)=n % u:=by rw [hm.1 g];exact wrap64 (by omega) (by omega)
  refine br (fun h=>?_) (fun h=>?_)
  ·have h:n < IntKind.i64.wrap (-9223372036854775808 + IntKind.i64.wrap (n.tmod u + u)):=by simpa using h
   rw [nC,NE] at h;rw [if_pos (by omega)] at hF;subst hF;exact ⟨_,ax,rfl⟩
  ·have h:¬ n < IntKind.i64.wrap (-9223372036854775808 + IntKind.i64.wrap (n.tmod u + u)):=by simpa using h
   rw [nC,NE] at h;rw [if_neg (by omega)] at hF;have rA:IntKind.i64.wrap (n - IntKind.i64.wrap (n.tmod u + u))=n - n % u:=by rw [nC];exact wrap64 (by omega) (by omega)
   refine ⟨.tup [.v (.int .i64 (IntKind.i64.wrap (n - IntKind.i64.wrap (n.tmod u + u)))),.v (.bool true)],ax,?_⟩;rw [hF];exact congrArg (fun z=>DV.tup [.v (.int .i64 z),.v (.bool true)]) rA
 ·have g:¬ n.tmod u < 0:=by simpa using g
  have nC:n.tmod u=n % u:=hm.2 g;refine br (fun h=>?_) (fun h=>?_)
  ·have h:n < IntKind.i64.wrap (-9223372036854775808 + n.tmod u):=by simpa using h
   rw [nC,NE] at h;rw [if_pos (by omega)] at hF;subst hF;exact ⟨_,ax,rfl⟩
  ·have h:¬ n < IntKind.i64.wrap (-9223372036854775808 + n.tmod u):=by simpa using h
   rw [nC,NE] at h;rw [if_neg (by omega)] at hF;have rA:IntKind.i64.wrap (n - n.tmod u)=n - n % u:=by rw [nC];exact wrap64 (by omega) (by omega)
   refine ⟨.tup [.v (.int .i64 (IntKind.i64.wrap (n - n.tmod u))),.v (.bool true)],ax,?_⟩;rw [hF];exact congrArg (fun z=>DV.tup [.v (.int .i64 z),.v (.bool true)]) rA
theorem emod_le {a u:Int} (ha:0<=a) (hu:1<=u):a % u<=a:=by
 have h1:=Int.mul_ediv_add_emod a u;have h2:=Int.mul_nonneg (show 0<=u by omega) (Int.ediv_nonneg ha (show 0<=u by omega));omega
theorem tdiv_le {n u:Int} (hu:1<=u):(0<=n.tdiv u->n.tdiv u<=n.tdiv u * u)/\(n.tdiv u<=0->n.tdiv u * u<=n.tdiv u):=by
 constructor
 ·intro h;have:=Int.mul_le_mul_of_nonneg_left hu h
  rwa [Int.mul_one] at this
 ·intro h;have:=Int.mul_le_mul_of_nonneg_left hu (show 0 <= -(n.tdiv u) by omega);rw [Int.mul_one,Int.neg_mul] at this;omega
theorem zw {q u l:Int} (hu:1<=u) (hl:l<=0):q < l.tdiv u↔q * u < l:=by
 have h1:=Int.mul_tdiv_add_tmod l u;rw [Int.mul_comm] at h1;have hm:=pA (n:=l) (u:=u) hu;have h2:=Int.emod_nonneg l (show u≠0 by omega);have h3:=Int.emod_lt_of_pos l (show 0 < u by omega)
 have h4 : -u < l.tmod u/\l.tmod u<=0:=by
  have h5:(-l).tmod u = -(l.tmod u):=Int.neg_tmod ..;have h6:(-l).tmod u=(-l) % u:=Int.tmod_eq_emod_of_nonneg (by omega);have h7:=Int.emod_nonneg (-l) (show u≠0 by omega);have h8:=Int.emod_lt_of_pos (-l) (show 0 < u by omega);omega
 constructor
 ·intro h;have:=Int.mul_le_mul_of_nonneg_right (a:=q + 1) (b:=l.tdiv u) (c:=u) (by omega) (by omega);rw [Int.add_mul,Int.one_mul] at this;omega
 ·intro h;rcases Int.lt_or_le q (l.tdiv u) with h9 | h9
  ·exact h9
  ·have:=Int.mul_le_mul_of_nonneg_right (a:=l.tdiv u) (b:=q) (c:=u) (by omega) (by omega);omega
theorem pB (n u:Int) (hn : -9223372036854775808<=n/\n<=9223372036854775807) (hu : -9223372036854775808<=u/\u<=9223372036854775807):EvP Tryz.prog 204 [.v (.int .i64 n),.v (.int .i64 u)] (zu (bo n u)):=by
 have hF:bo n u=if u < 1 then (0,false) else if n - n % u < -9223372036854775808 then (0,false) else (n - n % u,true):=rfl
 generalize bo n u=F at hF ⊢;refine ev_go (P:=Tryz.prog) tt tt_ok 5000 26 [.tmp 4,.tmp 5] Tryz.func204 rfl Tryz.ntmps204 rfl (nL rfl) (fun E9 w9 hn9 hm9=>?_);refine br (fun c=>?_) (fun c=>?_)
 ·have c:u < 1:=by simpa using c
  rw [if_pos c] at hF;subst hF;exact ⟨_,ax,rfl⟩
 have c:¬ u < 1:=by simpa using c
 rw [if_neg c] at hF;have h1:=Int.emod_nonneg n (show u≠0 by omega);have h2:=Int.emod_lt_of_pos n (show 0 < u by omega);have hT:=Int.mul_tdiv_add_tmod n u;rw [Int.mul_comm] at hT;have hm:=pA (n:=n) (u:=u) (by omega);have hb:=tdiv_le (n:=n) (u:=u) (by omega);have hbl:=tdiv_le (n:=-9223372036854775808) (u:=u) (by omega);have hl:=Int.mul_tdiv_add_tmod (-9223372036854775808) u;rw [Int.mul_comm] at hl;have dI:=pA (n:=-9223372036854775808) (u:=u) (by omega);have hml1:=Int.emod_nonneg (-9223372036854775808) (show u≠0 by omega);have hml2:=Int.emod_lt_of_pos (-9223372036854775808) (show 0 < u by omega)
 have Yt:(0<=n->0<=n.tmod u/\n.tmod u<=n)/\(n<=0->n.tmod u<=0/\n<=n.tmod u):=by
  constructor
  ·intro h;rw [Int.tmod_eq_emod_of_nonneg h];exact ⟨h1,emod_le h (by omega)⟩
  ·intro h;have h5:(-n).tmod u = -(n.tmod u):=Int.neg_tmod ..;rw [Int.tmod_eq_emod_of_nonneg (by omega)] at h5;have h7:=Int.emod_nonneg (-n) (show u≠0 by omega);have h8:=emod_le (show 0 <= -n by omega) (show 1<=u by omega);omega
 have ll:(-9223372036854775808:Int).tmod u<=0 /\ -9223372036854775808<=(-9223372036854775808:Int).tmod u:=by
  have h5:(-(-9223372036854775808):Int).tmod u = -((-9223372036854775808:Int).tmod u):=Int.neg_tmod ..;rw [Int.tmod_eq_emod_of_nonneg (by omega)] at h5;have h7:=Int.emod_nonneg (-(-9223372036854775808)) (show u≠0 by omega);have h8:=emod_le (show (0:Int) <= -(-9223372036854775808) by omega) (show 1<=u by omega);omega
 have hTr : -9223372036854775808<=n.tdiv u/\n.tdiv u<=9223372036854775807:=by
  rcases Int.le_total 0 (n.tdiv u) with h | h
  ·have:=hb.1 h;omega
  ·have:=hb.2 h;omega
 have hLr : -9223372036854775808<=(-9223372036854775808:Int).tdiv u/\(-9223372036854775808:Int).tdiv u<=9223372036854775807:=by
  rcases Int.le_total 0 ((-9223372036854775808:Int).tdiv u) with h | h
  ·have:=hbl.1 h;omega
  ·have:=hbl.2 h;omega
 have YV:IntKind.i64.wrap ((-9223372036854775808:Int).tdiv u)=(-9223372036854775808:Int).tdiv u:=wrap64 (by omega) (by omega);have hw1:IntKind.i64.wrap (n.tdiv u)=n.tdiv u:=wrap64 (by omega) (by omega);have nC:IntKind.i64.wrap (IntKind.i64.wrap (n.tdiv u) * u)=n.tdiv u * u:=by rw [hw1];exact wrap64 (by omega) (by omega)
 refine ⟨⟨rfl,by omega⟩,?_⟩;refine br (fun g=>?_) (fun g=>?_)
 ·have g:n < IntKind.i64.wrap (IntKind.i64.wrap (n.tdiv u) * u):=by simpa using g
  rw [nC] at g;have hR:n.tmod u < 0:=by omega
  have XF:=hm.1 hR
  have hqr : -9223372036854775808<=n.tdiv u - 1:=by
   rcases Int.le_total 0 (n.tdiv u) with h | h
   ·omega
   ·have:=hb.2 h;omega
  have r8:IntKind.i64.wrap (IntKind.i64.wrap (n.tdiv u) - 1)=n.tdiv u - 1:=by rw [hw1];exact wrap64 hqr (by omega)
  have S7:(n.tdiv u - 1) * u=n - n % u:=by rw [Int.sub_mul,Int.one_mul];omega
  refine ⟨⟨rfl,by omega⟩,?_⟩;refine br (fun h=>?_) (fun h=>?_)
  ·have h:IntKind.i64.wrap (IntKind.i64.wrap (n.tdiv u) - 1) < IntKind.i64.wrap ((-9223372036854775808:Int).tdiv u):=by simpa using h
   rw [YV,r8,zw (by omega) (by omega),S7] at h;rw [if_pos (by omega)] at hF;subst hF;exact ⟨_,ax,rfl⟩
  ·have h:¬ IntKind.i64.wrap (IntKind.i64.wrap (n.tdiv u) - 1) < IntKind.i64.wrap ((-9223372036854775808:Int).tdiv u):=by simpa using h
   rw [YV,r8,zw (by omega) (by omega),S7] at h;rw [if_neg (by omega)] at hF;have rA:IntKind.i64.wrap (IntKind.i64.wrap (IntKind.i64.wrap (n.tdiv u) - 1) * u)=n - n % u:=by rw [r8,S7];exact wrap64 (by omega) (by omega)
   refine ⟨.tup [.v (.int .i64 (IntKind.i64.wrap (IntKind.i64.wrap (IntKind.i64.wrap (n.tdiv u) - 1) * u))),.v (.bool true)],ax,?_⟩;rw [hF];exact congrArg (fun z=>DV.tup [.v (.int .i64 z),.v (.bool true)]) rA
 ·have g:¬ n < IntKind.i64.wrap (IntKind.i64.wrap (n.tdiv u) * u):=by simpa using g
  rw [nC] at g;have hR:¬ n.tmod u < 0:=by omega
  have XF:=hm.2 hR;have r8:=hw1;have S7:n.tdiv u * u=n - n % u:=by omega
  refine ⟨⟨rfl,by omega⟩,?_⟩;refine br (fun h=>?_) (fun h=>?_)
  ·have h:IntKind.i64.wrap (n.tdiv u) < IntKind.i64.wrap ((-9223372036854775808:Int).tdiv u):=by simpa using h
   rw [YV,r8,zw (by omega) (by omega),S7] at h;rw [if_pos (by omega)] at hF;subst hF;exact ⟨_,ax,rfl⟩
  ·have h:¬ IntKind.i64.wrap (n.tdiv u) < IntKind.i64.wrap ((-9223372036854775808:Int).tdiv u):=by simpa using h
   rw [YV,r8,zw (by omega) (by omega),S7] at h;rw [if_neg (by omega)] at hF;have rA:IntKind.i64.wrap (IntKind.i64.wrap (n.tdiv u) * u)=n - n % u:=by rw [r8,S7];exact wrap64 (by omega) (by omega)
   refine ⟨.tup [.v (.int .i64 (IntKind.i64.wrap (IntKind.i64.wrap (n.tdiv u) * u))),.v (.bool true)],ax,?_⟩;rw [hF];exact congrArg (fun z=>DV.tup [.v (.int .i64 z),.v (.bool true)]) rA
end Go.Proofs.YtfifjddnnmfeoaaGreat
