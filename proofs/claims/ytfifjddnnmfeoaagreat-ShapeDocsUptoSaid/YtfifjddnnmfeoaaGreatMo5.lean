/- Part 5 of the proof: What resolve.Build says of a schema; lattices in which nothing is wrong; resolve.Build; Reading a plan: Len, Root, Lattice, Node, Find; slices.Clone; of no plan as well; The reference of chapter 17: Great, Same; The program's comparing of schemas; The law's example: a type that leads to itself; The law of no plan: the call returns true; The document's relations: Leads; The document's lattices: Find, pairs, Leq, Loop; The document's lattices: what is wrong; The document's labels: over, Least, Of; The document's schemas: Find, word, all, Flat, End, Start; The document's schemas: Flat, End, Start; The document's schemas: named, unknown; The reference's Wrong returns what is wrong with a type; The document's schemas: what is wrong; The document's nodes: Same, of equal ones; the law's node; The document's nodes: node; The document's plan: Build; What is known of a type with which nothing is wrong; labels have levels; What is known of the nodes of a plan; A plan, as its readers know it; Values, plain; how many are in one, how deep they lie; What is read of a value, as the plain data; What the frames of laws over values share; The greatest multiple of a unit that is at most a number. No condition. -/
import Derived.Test.YtfifjddnnmfeoaaGreatMo3
import Derived.Test.YtfifjddnnmfeoaaGreatMo4
set_option linter.all false
set_option maxRecDepth 100000
namespace Go.Proofs.YtfifjddnnmfeoaaGreat
open Go Go.RowKit Dv Tryz
theorem oQ {l:List Wd} {o:List (Wd × Wd)} (h:(latF l o).1=0):(fu l o).1=0/\(enumL l 0 l).1=0/\(numF (av l) o).1=0/\bL (j7 l.length (ez l.length (cT (av l) o))) l.length=none/\bL (mP (ez l.length (cT (av l) o)) l.length) l.length=none:=by
 unfold latF at h;split at h
 ·rename_i h1;exact (h1 h).elim
 ·rename_i h1;split at h
  ·rename_i h2;exact (h2 h).elim
  ·rename_i h2;split at h
   ·rename_i h3;exact (h3 h).elim
   ·rename_i h3;refine ⟨by simpa using h1,by simpa using h2,by simpa using h3,?_⟩;split at h
    ·cases h
    ·rename_i h4;refine ⟨h4,?_⟩;split at h
     ·cases h
     ·rename_i h5;exact h5
theorem dw {p:Nat->Bool} {n:Nat} (h:bL p n=none):∀ a,a < n->p a=false:=by
 intro a ha;unfold bL at h;rw [List.find?_eq_none] at h;have:=h a (by simpa using ha);simpa using this
theorem kU {l:List Wd} {o:List (Wd × Wd)} (h:(latF l o).1=0):dZ (ez l.length (cT (av l) o)) l.length/\l.length<=32:=by
 obtain ⟨h1,h2,h3,h4,h5⟩:=oQ h;have hP:=nH h3;rw [dg] at hP
 have ES:l ≠ []:=by
  rintro rfl;simp [fu] at h1
 have JP:l.length<=32:=by
  rcases Nat.lt_or_ge 32 l.length with h | h
  ·simp [fu,ES,h] at h1
  ·exact h
 have KR:∀ a b,a < l.length->b < l.length->kR (ez l.length (cT (av l) o)) l.length a b=false:=by
  have key:∀ a b,a<=b->b < l.length->kR (ez l.length (cT (av l) o)) l.length a b=false:=fun a b oE hb=>by
   have:=dw h5 b hb;unfold mP at this;rw [List.any_eq_false] at this;have:=this a (by simp;omega);simpa using this
  intro a b ha hb;rcases Nat.le_total a b with h | h
  ·exact key a b h hb
  ·have:=key b a h ha;unfold kR at this ⊢;rw [vi,vj];exact this
 refine ⟨{
  pos:=List.length_pos_iff.2 ES
  rfl':=fun a ha=>rr hP ha
  tr:=fun a b c ha hb hc=>Fs hP ha hb hc
  FA:=fun a b ha hb h6 h7=>by
   have:=dw h4 a ha;unfold j7 at this;rw [List.any_eq_false] at this;have:=this b (by simpa using hb);simp only [Bool.and_eq_true,decide_eq_true_eq,not_and] at this;rcases Nat.lt_trichotomy a b with h8 | h8 | h8
   ·exact (this (by omega) h6 h7).elim
   ·exact h8
   ·exact (this (by omega) h6 h7).elim
  jn:=fun a b ha hb=>by
   have:=KR a b ha hb;unfold kR at this;simp only [Bool.or_eq_false_iff,Option.isNone_eq_false_iff] at this;exact Option.isSome_iff_exists.1 this.1
  mt:=fun a b ha hb=>by
   have:=KR a b ha hb;unfold kR at this;simp only [Bool.or_eq_false_iff,Option.isNone_eq_false_iff] at this
   exact Option.isSome_iff_exists.1 this.2 },JP⟩
def dR (s:Sch) (aA:List Nat) (js:List Int):Lx:=⟨av s.ae,aA,closeR (eL s.ae.length (cT (av s.ae) s.order)) s.ae.length,js,ez s.ae.length (cT (av s.ae) s.order)⟩
theorem Ql {s:Sch} {d:DV} (h:(latF s.ae s.order).1=0) (hd:Ue s.ae s.order d) (hw:s.ae.length<=1099511627776):∃ aA js,(dR s aA js).OK/\d=(dR s aA js).pd:=by
 obtain ⟨aA,js,hT,ja,lh,KQ,rfl⟩:=hd;obtain ⟨h1,h2⟩:=kU h;refine ⟨aA,js,⟨hT,by show aA.length<=_;omega,?_,?_,?_⟩,rfl⟩
 ·show dZ _ (av s.ae).length;rw [dg];exact h1
 ·show (av s.ae).length<=32;rw [dg];exact h2
 ·show ∀ x y,x < (av s.ae).length->y < (av s.ae).length->JM _ (av s.ae).length js x y;rw [dg];exact KQ
def ie (s:Sch) (l:List Wd):Int:=Ap (ez s.ae.length (cT (av s.ae) s.order)) (av s.ae) l
def j9 (s:Sch) (t:Ty):Ft:=knT ⟨av s.ae,[],[],[],fun _ _=>false⟩ (tL s) t
mutual
theorem yT {X Y:Lx} (h:X.af=Y.af) (L:List ByteArray):∀ t:Ty,knT X L t=knT Y L t
 | .mk h1 ps=>by rw [knT,knT,yU h L ps]
theorem yU {X Y:Lx} (h:X.af=Y.af) (L:List ByteArray):∀ ps:Pts,knP X L ps=knP Y L ps
 | .nil=>by rw [knP,knP]
 | .cons p t r=>by
  rw [knP,knP,yU h L r,yT h L t];unfold Lx.bad;rw [h]
end
theorem Up (s:Sch) (aA:List Nat) (js:List Int) (t:Ty):knT (dR s aA js) (tL s) t=j9 s t:=yT (X:=dR s aA js) (Y:=⟨av s.ae,[],[],[],fun _ _=>false⟩) rfl (tL s) t
def ky (s:Sch):Ft:=
 if (latF s.ae s.order).1≠0 then latF s.ae s.order
 else if (dQ s).1≠0 then dQ s
 else if (eaR s.root s.types 0).1.1≠0 then (eaR s.root s.types 0).1
 else if (eaL (j9 s) (j9 s s.root) s.types).1≠0 then eaL (j9 s) (j9 s s.root) s.types
 else loopF s
def ndsAll (lev:List Wd->Int) (s:Sch):List (Wd × Ty)->Nat->List Nd
 | [],_=>[]
 | x :: r,k=>ndsT lev s x.2 k ++ ndsAll lev s r (k + x.2.nn)
def qf (s:Sch):List Nd:=ndsAll (ie s) s s.types 0
def aR (s:Sch):List Nd:=qf s ++ ndsT (ie s) s s.root (qf s).length
def bN (s:Sch):Int:=mT s s.root (qf s).length
def Sc (s:Sch) (aA kz:List Nat) (js:List Int):List DV:=
 [(dR s aA js).pd,.sl 7 (cR (aR s)) none,.v (.int .i64 (bN s)),.pt (cy (tL s) kz) 0,.sl 1 (dInts (namedL s)) none]
def Nb (s:Sch) (d:DV):Prop:=∃ aA kz js,(dR s aA js).OK/\gL (tL s) kz/\kz.length<=s.types.length/\d = .pt (Sc s aA kz js) 0
def FM (s:Sch) (r:DV) (_:List (List DV)) (_:List TkE):Prop:=
 if (ky s).1≠0 then r = .tup [.v (.pointer none),(ky s).d] else ∃ d,Nb s d/\r = .tup [d,Ft.d (0,0)]
theorem mU {s:Sch} {f:Ft} {os:List (List DV)} {tk:List TkE} (h:ky s=f) (hf:f.1≠0):FM s (.tup [.v (.pointer none),f.d]) os tk:=by
 unfold FM;rw [h,if_pos hf]
theorem Qm {s:Sch} {d:DV} {os:List (List DV)} {tk:List TkE} (h:(ky s).1=0) (hd:Nb s d):FM s (.tup [d,Ft.d (0,0)]) os tk:=by
 unfold FM;rw [if_neg (by rw [h];simp)];exact ⟨d,hd,rfl⟩
theorem Nc {F:Ty->Ft} {z:Ft}:∀ {l:List (Wd × Ty)},(eaL F z l).1=0->z.1=0/\∀ x∈l,(F x.2).1=0
 | [],h=>⟨h,fun x hx=>by cases hx⟩
 | x :: r,h=>by
  rw [eaL] at h;split at h
  ·rename_i h1;exact (h1 h).elim
  ·rename_i h1;obtain ⟨h2,h3⟩:=Nc h;refine ⟨h2,fun y hy=>?_⟩;rcases List.mem_cons.1 hy with rfl | hy
   ·simpa using h1
   ·exact h3 y hy
theorem Nf {z:Ty}:∀ {l:List (Wd × Ty)} {m:Int},0<=m->(eaR z l m).1.1=0->(wrong z 1 0).1.1=0/\(∀ x∈l,(wrong x.2 1 0).1.1=0)/\(eaR z l m).2=m + ((l.map fun x=>x.2.cnt).sum + z.cnt:Nat)/\(eaR z l m).2<=512
 | [],m,_,h=>by
  rw [eaR] at h ⊢;obtain ⟨h1,h2,h3,_⟩:=nJ h;exact ⟨h3,(fun x hx=>by cases hx),(by simp [h1]),h2⟩
 | x :: r,m,hm,h=>by
  rw [eaR] at h ⊢;split at h
  ·rename_i h1;exact (h1 h).elim
  ·rename_i h1;rw [if_neg h1];obtain ⟨g1,g2,g3,_⟩:=nJ (by simpa using h1);obtain ⟨h2,h3,h4,h5⟩:=Nf (by omega) h;refine ⟨h2,fun y hy=>?_,(by rw [h4,g1];simp only [List.map_cons,List.sum_cons];omega),h5⟩;rcases List.mem_cons.1 hy with rfl | hy
   ·exact g3
   ·exact h3 y hy
theorem vC (lev:List Wd->Int) (s:Sch):∀ (l:List (Wd × Ty)) (k:Nat),(ndsAll lev s l k).length=(l.map fun x=>x.2.nn).sum
 | [],_=>rfl
 | x :: r,k=>by simp only [ndsAll,List.length_append,jF,vC lev s r,List.map_cons,List.sum_cons]
theorem vD:∀ l:List (Wd × Ty),(l.map fun x=>x.2.nn).sum<=(l.map fun x=>x.2.cnt).sum
 | []=>Nat.le_refl _
 | x :: r=>by
  have:=x.2.fL;have:=vD r;simp only [List.map_cons,List.sum_cons];omega
theorem yV:∀ l:List Nd,(cR l).flatten.length=l.length * 7
 | []=>rfl
 | a :: r=>by
  have:=yV r;simp only [cR,List.map_cons,List.flatten_cons,List.length_append,List.length_cons] at this ⊢;rw [this];simp only [jR,List.length_cons,List.length_nil];omega
theorem Au {X:Lx} {s:Sch} {t:Ty} (h:(knT X (tL s) t).1=0):tB s t=true:=by
 obtain ⟨hd,ps⟩:=t;have:=(lU h).1;unfold tB;exact decide_eq_true this
theorem C3 {s:Sch} (h:(loopF s).1=0):∀ i,i < s.types.length->∃ k,endI s (s.types.length + 1) i=some k:=by
 intro i hi;unfold loopF at h;split at h
 ·rename_i h1;have:=dw h1 i hi;simp only [Option.isNone_eq_false_iff] at this;exact Option.isSome_iff_exists.1 this
 ·cases h
abbrev Ng (s:Sch) (aA:List Nat) (lc:List DV) (m:Int) (f1 f2:Int) (n:Nat) (base:List DV) (e:Nat):St:=
 ⟨[(1,⟨[],.loc 4 0⟩),(3,⟨[],.loc 3 0⟩),(6,⟨[],.loc 0 0⟩),(59,⟨[],.sl 11 (dNms s.types) none⟩),(60,⟨[],.v (.int .i64 (dNms s.types).length)⟩),(61,⟨[],.v (.int .i64 e)⟩)],
  [bC s (.pt lc 0) (.loc 1 0) m,KT s aA lc n,[.v (.int .i64 f1),.v (.int .i64 f2)],[.v (.int .i64 0),.v (.int .i64 0)],eK s],[FJ n base]⟩
theorem vE (s:Sch) (hs:s.wt<=1099511627776):Ev Tryz.prog 16 [.agg (eK s)] [] [] (FM s):=by
 have hF:=ky.eq_1 s;have hw:=hs;simp only [Sch.wt] at hw;have hwl:=bg s.ae;have hwn:=jc s.types;have PO:=CQ s.ae s.order (by omega) (by omega);have tp:=fun lc=>As s lc (by omega)
 have b9:∀ t,(t=s.root∨∃ x∈s.types,t=x.2)->t.wt<=1099511627776:=fun t ht=>by
  rcases ht with rfl | ⟨x,hx,rfl⟩
  ·omega
  ·have:=fX hx;omega
 have Y3:=fun lc aA=>FG s lc aA 0 (by omega) (by omega) (by omega) b9;have Y4:=fun (X:Lx) (hX:X.OK) (aA:List Nat) (hT:gL (tL s) aA) (ja:aA.length<=1099511627776) (m:Int)=>JI s X.pd (FF s aA (gJ X.af (cy X.af X.aA) X.rows X.js)) m (by omega) 47 Tx (knT X (tL s)) (fun t ht=>vw hX s aA (.pt (gJ X.af (cy X.af X.aA) X.rows X.js) 0) (.v (.slice none 0 0)) (.v (.int .i64 0)) (.v (.slice none 0 0)) m hT ja t.wt t (Nat.le_refl _) (b9 t ht))
 have Uq:(dQ s).1=0->s.types.length<=64:=fun h=>by
  unfold dQ at h;split at h
  ·cases h
  ·omega
 have hLx:=fun d h hd=>@Ql s d h hd (by omega);have Sd:=fun (lat:DV) (aA:List Nat) (a b c e0:DV) (m:Int)=>FD s lat aA a b c e0 m;have Nh:=fun (lc:List DV) (aA:List Nat) (m:Int)=>CZ s lc aA m;have fw:=fun (X:Lx) (hX:X.OK) (aA:List Nat) (m:Int) (hT:gL (tL s) aA) (ja:aA.length<=1099511627776) (t:Ty) (ht:t.wt<=1099511627776)=>yQ hX s aA m hT ja t.wt t (Nat.le_refl _) ht;refine ev_go (P:=Tryz.prog) tt tt_ok 5000 85 [.tmp 2,.cell 3 54] Tryz.func16 rfl Tryz.ntmps16 rfl (nL rfl) (fun E9 w9 hn9 hm9=>?_);generalize hS:s=S at *;obtain ⟨ae,order,types,⟨rh,rp⟩⟩:=s;subst hS;refine bq en43 rfl PO ax (fun r hr=>?_);by_cases hL:(latF ae order).1≠0
 ·have hL':=hL;rw [if_pos (show (latF (Sch.mk ae order types (.mk rh rp)).ae (Sch.mk ae order types (.mk rh rp)).order).1≠0 from hL)] at hF;unfold Fw at hr;rw [if_pos (show (latF (Sch.mk ae order types (.mk rh rp)).ae (Sch.mk ae order types (.mk rh rp)).order).1≠0 from hL)] at hr;subst hr;refine br (fun h=>?_) (fun h=>?_)
  ·refine aP mo (by decide +kernel) ?_;exact ⟨_,ax,mU (os:=[]) (tk:=[]) hF hL⟩
  ·exfalso;simp at h;exact hL h
 unfold Fw at hr;rw [if_neg (show ¬ (latF (Sch.mk ae order types (.mk rh rp)).ae (Sch.mk ae order types (.mk rh rp)).order).1≠0 from hL)] at hF hr;obtain ⟨d,hd,rfl⟩:=hr;have hL0:(latF ae order).1=0:=by simpa using hL
 obtain ⟨aA,js,hX,rfl⟩:=hLx d hL0 hd;generalize Pb:dR ⟨ae,order,types,.mk rh rp⟩ aA js=X at hX;refine br (fun h=>?_) (fun _=>?_)
 ·exfalso;simp at h;exact hL h
 refine dL.YX 0 4 rfl rfl rfl rfl (dL.YX 1 3 rfl rfl rfl rfl ?_);refine iU 2 0 en44 rfl rfl rfl aL aL (tp (gJ X.af (cy X.af X.aA) X.rows X.js)) (fun r gG bW hΦ h1 h2=>?_);obtain ⟨rfl,Jm⟩:=hΦ;have h2:=List.eq_nil_of_length_eq_zero h2;subst h2;by_cases FI:(dQ ⟨ae,order,types,.mk rh rp⟩).1≠0
 ·rw [if_pos FI] at hF
  obtain ⟨a,b,rfl⟩:∃ a b,gG=[a,b]:=by
   match gG,h1 with
   | [a,b],_=>exact ⟨a,b,rfl⟩
  refine br (fun h=>?_) (fun h=>?_)
  ·refine aP mo (by decide +kernel) ?_;exact ⟨_,ax,mU (os:=[]) (tk:=[]) hF FI⟩
  ·exfalso;simp at h;exact FI h
 rw [if_neg FI] at hF;have Y5:(dQ ⟨ae,order,types,.mk rh rp⟩).1=0:=by simpa using FI
 have Ni:=Uq Y5;obtain ⟨kz,hT,ja,rfl⟩:=Jm Y5;refine br (fun h=>?_) (fun _=>?_)
 ·exfalso;simp at h;exact FI h
 refine iU 2 0 WQ rfl rfl rfl aL aL (Y3 (gJ X.af (cy X.af X.aA) X.rows X.js) kz) (fun r gG bW hΦ h1 h2=>?_);obtain ⟨rfl,rfl⟩:=hΦ;have h2:=List.eq_nil_of_length_eq_zero h2;subst h2;by_cases hR:(eaR (.mk rh rp) types 0).1.1≠0
 ·rw [if_pos (show (eaR (Sch.mk ae order types (.mk rh rp)).root (Sch.mk ae order types (.mk rh rp)).types 0).1.1≠0 from hR)] at hF;refine br (fun h=>?_) (fun h=>?_)
  ·refine aP mo (by decide +kernel) ?_;exact ⟨_,ax,mU (os:=[]) (tk:=[]) hF hR⟩
  ·exfalso;simp at h;exact hR h
 rw [if_neg (show ¬ (eaR (Sch.mk ae order types (.mk rh rp)).root (Sch.mk ae order types (.mk rh rp)).types 0).1.1≠0 from hR)] at hF;have hR0:(eaR (.mk rh rp) types 0).1.1=0:=by simpa using hR
 refine br (fun h=>?_) (fun _=>?_)
 ·exfalso;simp at h;exact hR h
 have hea:=Y4 X hX kz hT (by have:types.length<=64:=Ni;have:kz.length<=types.length:=ja;omega) (eaR (.mk rh rp) types 0).2;have Ur:∀ t,knT X (tL ⟨ae,order,types,.mk rh rp⟩) t=j9 ⟨ae,order,types,.mk rh rp⟩ t:=fun t=>by rw [<- Pb];exact Up _ _ _ t
 have Us:eaL (knT X (tL ⟨ae,order,types,.mk rh rp⟩)) (knT X (tL ⟨ae,order,types,.mk rh rp⟩) (.mk rh rp)) types=eaL (j9 ⟨ae,order,types,.mk rh rp⟩) (j9 ⟨ae,order,types,.mk rh rp⟩ (.mk rh rp)) types:=by
  rw [show knT X (tL ⟨ae,order,types,.mk rh rp⟩)=j9 ⟨ae,order,types,.mk rh rp⟩ from funext Ur]
 refine HZ WQ hea ax rfl rfl ?_;by_cases hK:(eaL (j9 ⟨ae,order,types,.mk rh rp⟩) (j9 ⟨ae,order,types,.mk rh rp⟩ (.mk rh rp)) types).1≠0
 ·rw [if_pos (show (eaL (j9 ⟨ae,order,types,.mk rh rp⟩) (j9 ⟨ae,order,types,.mk rh rp⟩ (Sch.mk ae order types (.mk rh rp)).root) (Sch.mk ae order types (.mk rh rp)).types).1≠0 from hK)] at hF;refine br (fun h=>?_) (fun h=>?_)
  ·refine aP mo (by decide +kernel) ?_;refine ⟨.tup [.v (.pointer none),(eaL (knT X (tL ⟨ae,order,types,.mk rh rp⟩)) (knT X (tL ⟨ae,order,types,.mk rh rp⟩) (.mk rh rp)) types).d],ax,?_⟩;rw [Us];exact mU (os:=[]) (tk:=[]) hF hK
  ·exfalso;simp only [Us] at h;simp at h;exact hK h
 rw [if_neg (show ¬ (eaL (j9 ⟨ae,order,types,.mk rh rp⟩) (j9 ⟨ae,order,types,.mk rh rp⟩ (Sch.mk ae order types (.mk rh rp)).root) (Sch.mk ae order types (.mk rh rp)).types).1≠0 from hK)] at hF;have Y6:(eaL (j9 ⟨ae,order,types,.mk rh rp⟩) (j9 ⟨ae,order,types,.mk rh rp⟩ (.mk rh rp)) types).1=0:=by simpa using hK
 refine br (fun h=>?_) (fun _=>?_)
 ·exfalso;have h:(!decide ((eaL (knT X (tL ⟨ae,order,types,.mk rh rp⟩)) (knT X (tL ⟨ae,order,types,.mk rh rp⟩) (.mk rh rp)) types).1=0))=true:=h;rw [Us,Y6] at h;simp at h
 have hw2:wdsWt ae + prsWt order + nmsWt types + (Ty.mk rh rp).wt<=1099511627776:=hw;have hnmw:nmsWt types<=1099511627776:=by omega
 obtain ⟨Se,gF⟩:=Nc Y6;have hkr':(knT X (tL ⟨ae,order,types,.mk rh rp⟩) (.mk rh rp)).1=0:=by rw [Ur];exact Se
 have Y7:∀ x∈types,(knT X (tL ⟨ae,order,types,.mk rh rp⟩) x.2).1=0:=fun x hx=>by rw [Ur];exact gF x hx
 have Y8:∀ x∈types,tB ⟨ae,order,types,.mk rh rp⟩ x.2=true:=fun x hx=>Au (Y7 x hx);have Qn:kz.length<=1099511627776:=by have:types.length<=64:=Ni;have:kz.length<=types.length:=ja;omega
 refine HZ en48 (Sd X.pd kz X.pd (.v (.slice none 0 0)) (.v (.int .i64 0)) (.v (.slice none 0 0)) (eaR (.mk rh rp) types 0).2 hT Qn Ni Y8) ax rfl rfl ?_;by_cases hO:(loopF ⟨ae,order,types,.mk rh rp⟩).1≠0
 ·refine br (fun h=>?_) (fun h=>?_)
  ·refine aP mo (by decide +kernel) ?_;exact ⟨_,ax,mU (os:=[]) (tk:=[]) hF hO⟩
  ·exfalso;simp at h;exact hO h
 have hO0:(loopF ⟨ae,order,types,.mk rh rp⟩).1=0:=by simpa using hO
 have hF0:(ky ⟨ae,order,types,.mk rh rp⟩).1=0:=by rw [hF];exact hO0
 refine br (fun h=>?_) (fun _=>?_)
 ·exfalso;simp at h;exact hO h
 refine iU 2 0 en49 rfl rfl rfl aL aL (Nh (gJ X.af (cy X.af X.aA) X.rows X.js) kz (eaR (.mk rh rp) types 0).2 hT Qn Ni Y8 hnmw (C3 hO0)) (fun r gG bW hΦ h1 h2=>?_);subst hΦ;have h2:=List.eq_nil_of_length_eq_zero h2;subst h2;clear tp Y3 Y4 Sd Nh hea PO;have hN:(dNms types).length=types.length:=dA types;obtain ⟨KU,Cm,hcm,Y9⟩:=Nf (Int.le_refl 0) hR0;generalize (eaR (.mk rh rp) types 0).2=m at hcm Y9 ⊢
 refine aq (fun j st=>∃ (e n:Nat) (base:List DV) (N:List Nd),st=Ng ⟨ae,order,types,.mk rh rp⟩ kz (gJ X.af (cy X.af X.aA) X.rows X.js) m (loopF ⟨ae,order,types,.mk rh rp⟩).1 (loopF ⟨ae,order,types,.mk rh rp⟩).2 n base e/\e<=types.length/\n=N.length/\base=(cR N).flatten/\N ++ ndsAll (ie ⟨ae,order,types,.mk rh rp⟩) ⟨ae,order,types,.mk rh rp⟩ (types.drop e) n=qf ⟨ae,order,types,.mk rh rp⟩/\j=types.length - e) types.length
  (Ng ⟨ae,order,types,.mk rh rp⟩ kz (gJ X.af (cy X.af X.aA) X.rows X.js) m (loopF ⟨ae,order,types,.mk rh rp⟩).1 (loopF ⟨ae,order,types,.mk rh rp⟩).2 0 [] 0) (dj 5 ⟨0,125,7,some []⟩ rfl rfl rfl (by repeat' (first | exact rfl | exact ah rfl | exact aX (Nat.le_refl _) rfl | exact aX (Nat.le_refl _) rfl | refine ⟨_,_,rfl,?_,?_⟩)) rfl rfl zS) ⟨0,0,[],[],rfl,by omega,rfl,rfl,rfl,by omega⟩ ?_
 rintro j st ⟨e,n,base,N,rfl,he,hn,O4,VG,rfl⟩;have hl64':types.length<=64:=Ni;have FN:X.lev=ie ⟨ae,order,types,.mk rh rp⟩:=by rw [<- Pb];all_goals rfl
 have htot:(qf ⟨ae,order,types,.mk rh rp⟩).length + (Ty.mk rh rp).nn<=512:=by
  have h1:=vD types;have h2:=(Ty.mk rh rp).fL;have h3:(qf ⟨ae,order,types,.mk rh rp⟩).length=(types.map fun x=>x.2.nn).sum:=vC _ _ _ _;omega
 have hbl:base.length=n * 7:=by rw [O4,hn,yV]
 have B7:n + (ndsAll (ie ⟨ae,order,types,.mk rh rp⟩) ⟨ae,order,types,.mk rh rp⟩ (types.drop e) n).length=(qf ⟨ae,order,types,.mk rh rp⟩).length:=by rw [<- VG,List.length_append,hn]
 refine br (fun hL=>?_) (fun hL=>?_)
 ·have ap:e < types.length:=by have:=hL;simp [hN] at this;exact this
  obtain ⟨x,hx⟩:∃ x,types[e]? = some x:=⟨_,gE ap⟩;have VH:=mG hx;rw [drop_cons hx,ndsAll] at VG B7;rw [List.length_append] at B7;have gI:=jF (ie ⟨ae,order,types,.mk rh rp⟩) ⟨ae,order,types,.mk rh rp⟩ x.2 n;have JH:=fw X hX kz m hT Qn x.2 (b9 x.2 (.inr ⟨x,VH,rfl⟩)) (Y7 x VH) n base (by omega) hbl;rw [FN] at JH;obtain ⟨xw,⟨xh,xp⟩⟩:=x;refine ⟨_,⟨by omega,dNms_get hx⟩,?_⟩;refine iU 2 1 PJ rfl rfl rfl aL aL JH (fun r gG bW hΦ h1 h2=>?_);obtain ⟨rfl,rfl,rfl⟩:=hΦ;refine ⟨Ng ⟨ae,order,types,.mk rh rp⟩ kz (gJ X.af (cy X.af X.aA) X.rows X.js) m (loopF ⟨ae,order,types,.mk rh rp⟩).1 (loopF ⟨ae,order,types,.mk rh rp⟩).2 (n + (ndsT (ie ⟨ae,order,types,.mk rh rp⟩) ⟨ae,order,types,.mk rh rp⟩ (.mk xh xp) n).length) (base ++ (cR (ndsT (ie ⟨ae,order,types,.mk rh rp⟩) ⟨ae,order,types,.mk rh rp⟩ (.mk xh xp) n)).flatten) (e + 1),(az 5 rfl (Em ap) rfl rfl rfl (wNB ap)),types.length - (e + 1),by omega,e + 1,_,_,N ++ ndsT (ie ⟨ae,order,types,.mk rh rp⟩) ⟨ae,order,types,.mk rh rp⟩ (.mk xh xp) n,rfl,by omega,by rw [List.length_append,hn],by rw [O4];simp [cR],?_,rfl⟩;rw [List.append_assoc,gI];exact VG
 have aO:e=types.length:=by have:=hL;simp [hN] at this;omega
 subst aO;rw [List.drop_length,ndsAll,List.append_nil] at VG;rw [List.drop_length,ndsAll,List.length_nil,Nat.add_zero] at B7;have hnr:=fw X hX kz m hT Qn (.mk rh rp) (by omega) hkr' n base (by omega) hbl;rw [FN] at hnr;intro E a w hr;have gV:=kH hr;obtain ⟨b0,ty0,EF,gk,hw0,Ld⟩:=gV.env.eu 0 _ rfl;obtain ⟨b1,ty1,arr1,iu,hw1,I7⟩:=gV.env.eu 1 _ rfl;obtain ⟨v13,hv13,Za⟩:=RvL.get (i:=13) (d:=.loc 1 0) Ld.1 rfl
 have Zb:v13 = .pointer (some ⟨b1,0,none⟩):=by
  unfold Rv at Za;obtain ⟨b,hb,rfl⟩:=Za;rw [iu] at hb;simp only [oI] at hb;rw [hb]
 subst Zb
 have mB:w.drew.cell? ⟨b0,13,none⟩=some (.pointer (some ⟨b1,0,none⟩)):=by
  rw [ch hw0];simpa using hv13
 have Tj:=Qe gV.env [0,1,2,3];generalize xD:maskL [0,1,2,3] 0 _=bxm at Tj
 have hbmi:∀ (i:Nat) cs,bxm[i]? = some cs->cs ≠ []->2<=i:=fun i cs hi aN=>by
  rw [<- xD] at hi
  match i,hi with
  | 0,hi=>exact (aN (by simpa [maskL] using hi.symm)).elim
  | 1,hi=>exact (aN (by simpa [maskL] using hi.symm)).elim
  | i + 2,_=>omega
 refine km (C:=fun w'=>CC E bxm w.drew w' /\ w'.cell? ⟨b0,13,none⟩=some (.pointer (some ⟨b1,0,none⟩))) (W:=fun i=>Nat.beq i 10) (Q:=fun a w=>kq _ _ .normal a w) mo (by decide +kernel) (fun _ _ h=>h) ⟨⟨fun _ _ _ _ _ _=>rfl,gV.env.sub⟩,mB⟩ ?_;show Go.Proofs.YtfifjddnnmfeoaaGreat.Dv.runT _ _ _ _ _ [0,1,2,3,4,5,6,7,8,9,10] _ _;refine lV gV rfl rfl rfl rfl rfl rfl (fun a0 h0=>?_);refine lV h0 rfl rfl rfl rfl rfl rfl (fun a1 h1=>?_);refine lV h1 rfl rfl rfl rfl rfl rfl (fun a2 h2=>?_);refine Qg h2 rfl iu rfl rfl gk rfl rfl (fun w' h=>h.2) ⟨⟨fun _ _ _ _ _ _=>rfl,gV.env.sub⟩,mB⟩ rfl rfl (fun a3 h3=>?_);refine lV h3 rfl rfl rfl rfl rfl rfl (fun a4 h4=>?_);refine lV h4 rfl rfl rfl rfl rfl rfl (fun a5 h5=>?_);refine Qf h5 rfl (bx:=bxm) (Qd h5 Tj (fun w' h=>h.1)) ⟨⟨fun _ _ _ _ _ _=>rfl,gV.env.sub⟩,mB⟩ rfl rfl (by rw [<- xD];rfl) rfl (fun a6 h6=>?_);refine Qh h6 rfl rfl rfl rfl rfl rfl PJ 2 1 rfl rfl aL aL hnr rfl rfl ?_;intro v r gG bW E' w' hΦ _ _ cf HG hx hβ hh;obtain ⟨rfl,rfl,rfl⟩:=hΦ;refine ⟨fun _ hC=>⟨⟨fun i b cs hb ct aN=>?_,fun x v hxv=>cf.env.sub x v (hx.c x v hxv)⟩,?_⟩,?_⟩
 ·exact hh i b (hbmi i cs ct aN) hb
 ·obtain ⟨b0',ty0',arr0',Ut,hw0',hc0'⟩:=cf.env.eu 0 _ rfl;rw [hβ,gk] at Ut;simp only [oI] at Ut;subst Ut;obtain ⟨u13,hu13,Zc⟩:=RvL.get (i:=13) (d:=.loc 1 0) hc0'.1 rfl;unfold Rv at Zc;obtain ⟨b,hb,rfl⟩:=Zc;rw [hβ,iu] at hb;simp only [oI] at hb;subst hb;rw [ch hw0'];simpa using hu13
 have h7:=aV (dst:=some 77) cf rfl _ v HG;have hrN:(qf ⟨ae,order,types,.mk rh rp⟩).length=n:=by rw [<- VG,hn]
 have qX:base ++ (cR (ndsT (ie ⟨ae,order,types,.mk rh rp⟩) ⟨ae,order,types,.mk rh rp⟩ (.mk rh rp) n)).flatten=(cR (aR ⟨ae,order,types,.mk rh rp⟩)).flatten:=by
  unfold aR;rw [hrN,<- VG,O4];simp [cR]
 have Zd:(cR (aR ⟨ae,order,types,.mk rh rp⟩)).length=n + (ndsT (ie ⟨ae,order,types,.mk rh rp⟩) ⟨ae,order,types,.mk rh rp⟩ (.mk rh rp) n).length:=by
  unfold aR;rw [hrN];simp [cR,hrN]
 obtain ⟨E3,h8⟩:=Qi h7 1 1 0 (ns:=cR (aR ⟨ae,order,types,.mk rh rp⟩)) (congrArg (fun b=>some (FJ (n + (ndsT (ie ⟨ae,order,types,.mk rh rp⟩) ⟨ae,order,types,.mk rh rp⟩ (.mk rh rp) n).length) b)) qX) (fun x hx=>by
  simp only [cR,List.mem_map] at hx;obtain ⟨y,_,rfl⟩:=hx
  rfl) Zd rfl rfl List.length_replicate
 refine lV h8 rfl rfl rfl rfl rfl rfl (fun a8 h9=>?_);refine lV h9 rfl rfl rfl rfl rfl rfl (fun a9 pq=>?_);refine JN pq rfl rfl rfl rfl rfl rfl ?_;refine ⟨.tup [.pt [X.pd,.sl 7 (cR (aR ⟨ae,order,types,.mk rh rp⟩)) none,.v (.int .i64 (mT ⟨ae,order,types,.mk rh rp⟩ (.mk rh rp) n)),.pt (cy (tL ⟨ae,order,types,.mk rh rp⟩) kz) 0,.sl 1 (dInts (namedL ⟨ae,order,types,.mk rh rp⟩)) none] 0,Ft.d (0,0)],ax,Qm (os:=[]) (tk:=[]) hF0 ⟨aA,kz,js,by rw [Pb];exact hX,hT,ja,?_⟩⟩;rw [Sc,Pb,bN,hrN]
theorem Qo (es:List (List DV)) (hl:es.length<=1099511627776):Ev Tryz.prog 111 [.sl 1 es none] [] [] (fun r _ _=>r = .sl 1 es none∨(es=[]/\r = .v (.slice none 0 0))):=by
 refine ev_go (P:=Tryz.prog) tt tt_ok 5000 8 [.tmp 2] Tryz.func111 rfl Tryz.ntmps111 rfl (nL rfl) (fun E9 w9 hn9 hm9=>?_);refine M9 ⟨_,rfl⟩ rfl rfl rfl rfl (fun b hb=>?_);refine br (fun h=>?_) (fun h=>?_)
 ·have h:b=true:=h;have he:es=[]:=Classical.byContradiction fun hn=>by rw [hb hn] at h;cases h
  subst he;exact Or.inr ⟨rfl,rfl⟩
 ·refine C1 rfl rfl rfl rfl (hk:=?_);refine ⟨rfl,⟨by simp [maxLen];omega,by simp;omega⟩,?_⟩;exact ⟨_,ax,Or.inl rfl⟩
theorem Qp (es:List (List DV)) (hl:es.length<=1099511627776):Ev Tryz.prog 112 [.sl 10 es none] [] [] (fun r _ _=>r = .sl 10 es none∨(es=[]/\r = .v (.slice none 0 0))):=by
 refine ev_go (P:=Tryz.prog) tt tt_ok 5000 8 [.tmp 2] Tryz.func112 rfl Tryz.ntmps112 rfl (nL rfl) (fun E9 w9 hn9 hm9=>?_);refine M9 ⟨_,rfl⟩ rfl rfl rfl rfl (fun b hb=>?_);refine br (fun h=>?_) (fun h=>?_)
 ·have h:b=true:=h;have he:es=[]:=Classical.byContradiction fun hn=>by rw [hb hn] at h;cases h
  subst he;exact Or.inr ⟨rfl,rfl⟩
 ·refine C1 rfl rfl rfl rfl (hk:=?_);refine ⟨rfl,⟨by simp [maxLen];omega,by simp;omega⟩,?_⟩;exact ⟨_,ax,Or.inl rfl⟩
def Ze (lc:List DV) (Bv:List Nd) (root:Int) (L:List ByteArray) (aA:List Nat) (named:List Nat):DV:=.pt [.pt lc 0,.sl 7 (cR Bv) none,.v (.int .i64 root),.pt (cy L aA) 0,.sl 1 (dInts named) none] 0
theorem kV (l:List Nd):(cR l).length=l.length:=by simp [cR]
theorem fx {l:List Nd} {i:Nat} {n:Nd} (h:l[i]? = some n):(cR l)[i]? = some (jR n):=by simp [cR,h]
section
variable (lc:List DV) (Bv:List Nd) (root:Int) (L:List ByteArray) (aA:List Nat) (named:List Nat)
theorem rJ:EvP Tryz.prog 110 [Ze lc Bv root L aA named] (.v (.int .i64 Bv.length)):=by
 refine ev_go (P:=Tryz.prog) tt tt_ok 5000 10 [.tmp 2] Tryz.func110 rfl Tryz.ntmps110 rfl (nL rfl) (fun E9 w9 hn9 hm9=>?_);refine (congrArg (fun z=>DV.v (.int .i64 z)) ?_:_=_);rw [kV]
theorem FO:EvP Tryz.prog 19 [Ze lc Bv root L aA named] (.v (.int .i64 root)):=by
 refine ev_go (P:=Tryz.prog) tt tt_ok 5000 9 [.tmp 2] Tryz.func19 rfl Tryz.ntmps19 rfl (nL rfl) (fun E9 w9 hn9 hm9=>?_);exact (rfl:_=_)
theorem JQ:EvP Tryz.prog 38 [Ze lc Bv root L aA named] (.pt lc 0):=by
 refine ev_go (P:=Tryz.prog) tt tt_ok 5000 9 [.tmp 2] Tryz.func38 rfl Tryz.ntmps38 rfl (nL rfl) (fun E9 w9 hn9 hm9=>?_);exact ⟨_,ax,rfl⟩
theorem FP (i:Nat) (n:Nd) (h:Bv[i]? = some n) (hn:n.af.length<=1099511627776) (he:n.au.length<=1099511627776) :
  EvP Tryz.prog 51 [Ze lc Bv root L aA named,.v (.int .i64 i)] (.tup [.agg (jR n),.v (.bool true)]):=by
 have ap:=(gS h).1;have hlen:=rJ lc Bv root L aA named;have I7:=Qo (dF n.af) (by rw [bR];exact hn);have mw:=Qp (fv n.au) (by rw [cE];exact he);refine ev_go (P:=Tryz.prog) tt tt_ok 5000 32 [.cell 4 125,.tmp 5] Tryz.func51 rfl Tryz.ntmps51 rfl (nL rfl) (fun E9 w9 hn9 hm9=>?_);refine call_p Rh (hlen) ax rfl ?_;refine br (fun g=>?_) (fun g=>?_)
 ·exfalso;simp [pickB] at g;omega
 refine ⟨_,⟨by omega,fx h⟩,?_⟩;refine aP mo (by decide +kernel) ?_;refine pF W6 rfl I7 ax (fun r1 hr1=>?_);rcases hr1 with rfl | ⟨h1,rfl⟩
 ·refine pF Ri rfl mw ax (fun r2 hr2=>?_);rcases hr2 with rfl | ⟨h2,rfl⟩
  ·exact ⟨.tup [.agg (jR n),.v (.bool true)],ax,rfl⟩
  ·exact ⟨.tup [.agg (jR n),.v (.bool true)],(by repeat' (first | exact rfl | exact trivial | exact Or.inr (Or.inl ⟨_,rfl⟩) | exact Or.inr ⟨_,rfl⟩ | exact Or.inl ⟨rfl,rfl⟩ | exact Or.inl rfl | refine Or.inr ⟨_,_,rfl,Nat.zero_le _,rfl,?_⟩ | refine ⟨_,_,rfl,?_,?_⟩ | refine ⟨_,rfl,?_⟩ | exact Or.inl ⟨h2,rfl⟩ | refine Or.inr (Or.inr (Or.inr ⟨_,_,rfl,?_⟩)) | exact Or.inl rfl | refine Or.inr ?_)),rfl⟩
 ·refine pF Ri rfl mw ax (fun r2 hr2=>?_);rcases hr2 with rfl | ⟨h2,rfl⟩
  ·exact ⟨.tup [.agg (jR n),.v (.bool true)],(by repeat' (first | exact rfl | exact trivial | exact Or.inr (Or.inl ⟨_,rfl⟩) | exact Or.inr ⟨_,rfl⟩ | exact Or.inl ⟨rfl,rfl⟩ | exact Or.inl rfl | refine Or.inr ⟨_,_,rfl,Nat.zero_le _,rfl,?_⟩ | refine ⟨_,_,rfl,?_,?_⟩ | refine ⟨_,rfl,?_⟩ | exact Or.inl ⟨h1,rfl⟩ | refine Or.inr (Or.inr (Or.inr ⟨_,_,rfl,?_⟩)) | exact Or.inl rfl | refine Or.inr ?_)),rfl⟩
  ·exact ⟨.tup [.agg (jR n),.v (.bool true)],(by repeat' (first | exact rfl | exact trivial | exact Or.inr (Or.inl ⟨_,rfl⟩) | exact Or.inr ⟨_,rfl⟩ | exact Or.inl ⟨rfl,rfl⟩ | exact Or.inl rfl | refine Or.inr ⟨_,_,rfl,Nat.zero_le _,rfl,?_⟩ | refine ⟨_,_,rfl,?_,?_⟩ | refine ⟨_,rfl,?_⟩ | exact Or.inl ⟨h1,rfl⟩ | exact Or.inl ⟨h2,rfl⟩ | refine Or.inr (Or.inr (Or.inr ⟨_,_,rfl,?_⟩)) | exact Or.inl rfl | refine Or.inr ?_)),rfl⟩
theorem FQ (i:Int) (h:i < 0∨Bv.length<=i) :
  EvP Tryz.prog 51 [Ze lc Bv root L aA named,.v (.int .i64 i)] (.tup [.agg [.v (.int .i64 0),.v (.int .i64 0),.v (.int .i64 0),.v (.int .i64 0),.v (.int .i64 0),.v (.slice none 0 0),.v (.slice none 0 0)],.v (.bool false)]):=by
 have hlen:=rJ lc Bv root L aA named;refine ev_go (P:=Tryz.prog) tt tt_ok 5000 32 [.cell 4 125,.tmp 5] Tryz.func51 rfl Tryz.ntmps51 rfl (nL rfl) (fun E9 w9 hn9 hm9=>?_);refine br (fun g=>?_) (fun g=>?_)
 ·refine call_p Rh (hlen) ax rfl ?_;refine br (fun g2=>?_) (fun g2=>?_)
  ·exact ⟨_,ax,rfl⟩
  ·exfalso;simp at g;simp [pickB,g] at g2;omega
 ·exact ⟨_,ax,rfl⟩
end
abbrev tS (s:Sch) (n d k q:Int) (e:Nat):St:=
 ⟨[(1,⟨[],.loc 0 0⟩),(3,⟨[],.v (.int .i64 n)⟩),(4,⟨[],.v (.int .i64 d)⟩),(5,⟨[],.v (.int .i64 e)⟩)],[eK s],[]⟩
theorem Av (s:Sch) (b9:s.wt<=1099511627776):Ev Tryz.prog 14 [.agg (eK s)] [] [] (fun d _ _=>∃ b:Bool,d = .v (.bool b)):=by
 have h1:=bg s.ae;have h2:=hZ s.order;have h3:=jc s.types;simp only [Sch.wt] at b9;have gN:=j5 s.root.wt s.root (Nat.le_refl _) (by omega);obtain ⟨ae,order,types,⟨h,ps⟩⟩:=s;simp only at h1 h2 h3 b9 gN;refine ev_go (P:=Tryz.prog) tt tt_ok 5000 60 [.tmp 2] Tryz.func14 rfl Tryz.ntmps14 rfl (nL rfl) (fun E9 w9 hn9 hm9=>?_);refine br (fun _=>?_) (fun _=>?_)
 ·exact ⟨true,rfl⟩
 refine call_p PI (gN) ax rfl ?_;refine aq (fun j st=>∃ (e:Nat) (n d:Int),st=tS ⟨ae,order,types,.mk h ps⟩ n d 0 0 e/\e<=types.length/\j=types.length - e) types.length (tS ⟨ae,order,types,.mk h ps⟩ (Ty.mk h ps).cnt (Ty.mk h ps).deep 0 0 0) (weak_mk ⟨_,rfl⟩ wA rfl rfl rfl wB) ⟨0,_,_,rfl,by omega,by omega⟩ ?_;rintro j st ⟨e,n,d,rfl,he,rfl⟩;refine br (fun hL=>?_) (fun hL=>?_)
 ·have ap:e < types.length:=by have:=hL;simp [dA] at this;exact this
  obtain ⟨w,hw⟩:∃ w,types[e]? = some w:=⟨_,gE ap⟩;have Cm:=fX (mG hw);have hs:=j5 w.2.wt w.2 (Nat.le_refl _) (by omega);obtain ⟨w,u,us⟩:=w;simp only at hs;refine ⟨_,⟨by omega,dNms_get hw⟩,?_⟩;refine call_p PI (hs) ax rfl ?_;refine br (fun _=>?_) (fun _=>?_)
  ·exact ⟨tS ⟨ae,order,types,.mk h ps⟩ _ _ 0 0 (e + 1),(weak_mk ⟨_,rfl⟩ wA rfl rfl rfl (wNB ap)),types.length - (e + 1),by omega,e + 1,_,_,rfl,by omega,rfl⟩
  ·exact ⟨tS ⟨ae,order,types,.mk h ps⟩ _ _ 0 0 (e + 1),(weak_mk ⟨_,rfl⟩ wA rfl rfl rfl (wNB ap)),types.length - (e + 1),by omega,e + 1,_,_,rfl,by omega,rfl⟩
 exact ⟨_,rfl⟩
def samePrs:List (Wd × Wd)->List (Wd × Wd)->Bool
 | [],[]=>true
 | x :: r,y :: s=>(decide (x.1.s=y.1.s) && decide (x.2.s=y.2.s)) && samePrs r s
 | _,_=>false
def sameNms:List (Wd × Ty)->List (Wd × Ty)->Bool
 | [],[]=>true
 | x :: r,y :: s=>(decide (x.1.s=y.1.s) && sameTy x.2 y.2) && sameNms r s
 | _,_=>false
def Hq (a b:Sch):Bool:=sameWds a.ae b.ae && samePrs a.order b.order && sameTy a.root b.root && sameNms a.types b.types
end Go.Proofs.YtfifjddnnmfeoaaGreat
set_option maxRecDepth 100000
namespace Go.Proofs.YtfifjddnnmfeoaaGreat
open Go Go.RowKit Dv Tryz
end Go.Proofs.YtfifjddnnmfeoaaGreat
set_option maxRecDepth 100000
namespace Go.Proofs.YtfifjddnnmfeoaaGreat
open Go Go.RowKit Dv Tryz
end Go.Proofs.YtfifjddnnmfeoaaGreat
set_option maxRecDepth 100000
namespace Go.Proofs.YtfifjddnnmfeoaaGreat
open Go Go.RowKit Dv Tryz
end Go.Proofs.YtfifjddnnmfeoaaGreat
set_option maxRecDepth 100000
namespace Go.Proofs.YtfifjddnnmfeoaaGreat
open Go Go.RowKit Dv Tryz
def cB (r:List Bool):List DV:=r.map fun b=>DV.v (.bool b)
def vF (r:List Bool):List (List DV):=r.map fun b=>[DV.v (.bool b)]
def cz (m:List (List Bool)):List (List DV):=m.map fun r=>[DV.sl 1 (vF r) none]
theorem rK (r:List Bool):(cB r).length=r.length:=by simp [cB]
theorem tT (r:List Bool):(vF r).length=r.length:=by simp [vF]
theorem vG (m:List (List Bool)):(cz m).length=m.length:=by simp [cz]
theorem Nj {r:List Bool} {i:Nat} {b:Bool} (h:r[i]? = some b):(cB r)[i]? = some (DV.v (.bool b)):=by simp [cB,h]
theorem Aw (r:List Bool) (i:Nat) (b:Bool):(cB r).set i (DV.v (.bool b))=cB (r.set i b):=by simp [cB,List.map_set]
theorem H7 {r:List Bool} {i:Nat} {b:Bool} (h:r[i]? = some b):(vF r)[i]? = some [DV.v (.bool b)]:=by simp [vF,h]
theorem Nk {m:List (List Bool)} {i:Nat} {r:List Bool} (h:m[i]? = some r):(cz m)[i]? = some [DV.sl 1 (vF r) none]:=by simp [cz,h]
theorem qg (r:List Bool):(vF r).flatten=cB r:=by
 induction r with
 | nil=>rfl
 | cons b r ih=>simp only [vF,cB,List.map_cons,List.flatten_cons] at ih ⊢;rw [ih];all_goals rfl
theorem JR (n:Nat):(List.replicate n (vL [Value.bool false])).flatten=cB (List.replicate n false):=by
 induction n with
 | zero=>rfl
 | succ n ih=>simp only [List.replicate_succ,List.flatten_cons,ih];rfl
theorem dt {n m:Nat} {tk:List TkE} {l:List DV} {r:List Bool} (h:l=cB r):WeL n m tk l (cB r):=by
 subst h;refine u5 _ fun x hx=>?_;obtain ⟨z,_,rfl⟩:=List.mem_map.1 hx;exact ⟨_,rfl⟩
theorem Sf {bx:List (List DV)} {N n0 m0 n:Nat} {r:List Bool} (hr:r.length=n) (hN:N<=0) (hb:bx[0]? = some (cB r)):Cc bx N n0 m0 (.sl 1 (vF r) none) (.ms 0 1 0 n n):=by
 simp only [Cc];refine Or.inr (Or.inr (Or.inl ⟨0,0,n,_,by rw [tT,hr],hN,hb,?_,?_,?_⟩))
 ·rw [qg,List.drop_zero,List.take_of_length_le (by rw [rK,tT];omega)]
 ·intro x hx;simp only [vF,List.mem_map] at hx;obtain ⟨_,_,rfl⟩:=hx;rfl
 ·intro x hx;rw [qg] at hx;obtain ⟨_,_,rfl⟩:=List.mem_map.1 hx;exact .inl ⟨_,rfl⟩
def ff (n:Nat) (l:List (Nat × Nat)):List (List Bool):=(List.range n).map (tz n l)
theorem FR (n:Nat) (l:List (Nat × Nat)):(ff n l).length=n:=by simp [ff]
theorem FT {n a:Nat} (l:List (Nat × Nat)) (h:a < n):(ff n l)[a]? = some (tz n l a):=by simp [ff,List.getElem?_range h]
theorem JS {n:Nat} {l:List (Nat × Nat)} (h:rq n l):ff n l=dm n (ez n l):=by
 unfold ff dm;exact List.map_congr_left fun a ha=>PY h (List.mem_range.1 ha)
def fM (l:List (Nat × Nat)) (r:List Bool) (e:Nat):List Bool:=(l.take e).foldl gA r
theorem FU (l:List (Nat × Nat)) (r:List Bool) (e:Nat):(fM l r e).length=r.length:=oK (l.take e) r
theorem C4 {l:List (Nat × Nat)} {r:List Bool} {e:Nat} {p:Nat × Nat} (h:l[e]? = some p):fM l r (e + 1)=gA (fM l r e) p:=by
 unfold fM;rw [List.take_add_one,h];simp
abbrev Uu (n:Nat) (l:List (Nat × Nat)) (q e:Nat):St:=
 ⟨[(0,⟨[],.v (.int .i64 n)⟩),(1,⟨[],.sl 2 (lM l) none⟩),(5,⟨[],.sl 1 (cz ((ff n l).take e)) (some 0)⟩),(6,⟨[],.v (.int .i64 e)⟩)],[],[⟨q,206,1,none⟩]⟩
abbrev Nl (n:Nat) (l:List (Nat × Nat)) (q e:Nat) (r:List Bool) (k:Nat):St:=
 ⟨[(0,⟨[],.v (.int .i64 n)⟩),(1,⟨[],.sl 2 (lM l) none⟩),(5,⟨[],.sl 1 (cz ((ff n l).take e)) (some 0)⟩),(6,⟨[],.v (.int .i64 e)⟩),(7,⟨[],.ms 0 1 0 n n⟩),(8,⟨[],.v (.int .i64 k)⟩)],[cB r],[⟨q,206,1,none⟩]⟩
abbrev H8 (n:Nat) (l:List (Nat × Nat)) (q e:Nat) (r:List Bool) (k i:Nat):St:=
 ⟨[(0,⟨[],.v (.int .i64 n)⟩),(1,⟨[],.sl 2 (lM l) none⟩),(5,⟨[],.sl 1 (cz ((ff n l).take e)) (some 0)⟩),(6,⟨[],.v (.int .i64 e)⟩),(7,⟨[],.ms 0 1 0 n n⟩),(8,⟨[],.v (.int .i64 k)⟩),(9,⟨[],.v (.int .i64 i)⟩)],[cB r],[⟨q,206,1,none⟩]⟩
abbrev Zf (n:Nat) (l:List (Nat × Nat)) (q e:Nat) (r:List Bool):St:=
 ⟨[(0,⟨[],.v (.int .i64 n)⟩),(1,⟨[],.sl 2 (lM l) none⟩),(6,⟨[],.v (.int .i64 e)⟩),(46,⟨[],.sl 1 (cz ((ff n l).take e)) (some 0)⟩),(47,⟨[],.sl 1 (vF r) none⟩)],[],[⟨q,206,1,none⟩]⟩
theorem FV (n:Nat) (hn:n<=64) (l:List (Nat × Nat)) (hP:rq n l) (hb:l.length<=1099511627776) :
  EvP Tryz.prog 131 [.v (.int .i64 n),.sl 2 (lM l) none] (.sl 1 (cz (ff n l)) none):=by
 have B7:=gz l;have Zg:=FR n l;refine ev_go (P:=Tryz.prog) tt tt_ok 5000 51 [.tmp 4] Tryz.func131 rfl Tryz.ntmps131 rfl (nL rfl) (fun E9 w9 hn9 hm9=>?_);refine aq (fun j st=>∃ e:Nat,st=Uu n l e e/\e<=n/\j=n - e) n (Uu n l 0 0) (fk ⟨0,206,1,none⟩ rfl ⟨_,rfl⟩ rfl wA rfl rfl zS) ⟨0,rfl,by omega,by omega⟩ ?_;rintro j st ⟨e,rfl,he,rfl⟩;refine br (fun hL=>?_) (fun hL=>?_)
 ·have ap:e < n:=by have:=hL;simp at this;exact this
  have hr0l:((List.replicate n false).set e true).length=n:=by simp
  refine ⟨⟨rfl,by omega,by omega,by omega⟩,?_⟩;refine ⟨⟨by omega,by omega⟩,?_⟩;refine ⟨by rw [JR,rK,List.length_replicate];omega,?_⟩
  have gk:((List.replicate (n:Int).toNat (vL [Value.bool false])).flatten).set (0 + (e:Int).toNat * 1) (DV.v (.bool true))=cB (cp l ((List.replicate n false).set e true) 0):=by
   rw [JR,show 0 + (e:Int).toNat * 1=e by omega,show (n:Int).toNat=n by omega,Aw];rfl
  refine aq (fun j st=>∃ k:Nat,st=Nl n l e e (cp l ((List.replicate n false).set e true) k) k/\k<=n/\j=n - k) n (Nl n l e e (cp l ((List.replicate n false).set e true) 0) 0) (az 1 rfl (by repeat' (first | exact rfl | exact ah rfl | exact dt gk | refine ⟨_,_,rfl,?_,?_⟩)) rfl rfl rfl (by repeat' (first | exact trivial | exact ah rfl | exact dt gk | refine ⟨⟨_,rfl,?_⟩,?_⟩))) ⟨0,rfl,by omega,by omega⟩ ?_;rintro j st ⟨k,rfl,hk,rfl⟩;have gl:=eV l ((List.replicate n false).set e true) k;have zC:=eo l ((List.replicate n false).set e true) k;refine br (fun jD=>?_) (fun jD=>?_)
  ·have gF:k < n:=by have:=jD;simp at this;exact this
   generalize cp l ((List.replicate n false).set e true) k=r at gl zC ⊢;rw [hr0l] at gl;refine aq (fun j st=>∃ i:Nat,st=H8 n l e e (fM l r i) k i/\i<=l.length/\j=l.length - i) l.length (H8 n l e e (fM l r 0) k 0) (az 1 rfl (by repeat' (first | exact rfl | exact ah rfl | exact dt rfl | refine ⟨_,_,rfl,?_,?_⟩)) rfl rfl rfl (by repeat' (first | exact trivial | exact ah rfl | exact dt rfl | refine ⟨⟨_,rfl,?_⟩,?_⟩))) ⟨0,rfl,by omega,by omega⟩ ?_;rintro j st ⟨i,rfl,hi,rfl⟩;have mb:=FU l r i;refine br (fun hL3=>?_) (fun hL3=>?_)
   ·have Zh:i < l.length:=by have:=hL3;simp [B7] at this;exact this
    obtain ⟨p,hp⟩:∃ p,l[i]? = some p:=⟨_,gE Zh⟩;obtain ⟨q8,B3⟩:=hP p (mG hp);have VI:=C4 (r:=r) hp;obtain ⟨b,iu⟩:∃ b,(fM l r i)[p.1]? = some b:=⟨_,gE (by omega)⟩;have BP:(fM l r i).getD p.1 false=b:=by simp [List.getD_eq_getElem?_getD,iu]
    rw [gA,BP] at VI;refine ⟨_,⟨by omega,u2 hp⟩,?_⟩;refine ⟨⟨by decide,by decide⟩,?_⟩;refine ⟨⟨by omega,by omega⟩,?_⟩;refine ⟨_,(show (cB (fM l r i))[0 + (p.1:Int).toNat * 1]? = some (.v (.bool b)) by rw [show 0 + (p.1:Int).toNat * 1=p.1 by omega];exact Nj iu),?_⟩;refine br (fun g=>?_) (fun g=>?_)
    ·have g:b=true:=g;rw [if_pos g] at VI;refine ⟨_,⟨by omega,u2 hp⟩,?_⟩;refine ⟨⟨by decide,by decide⟩,?_⟩;refine ⟨⟨by omega,by omega⟩,?_⟩;refine ⟨by rw [rK];omega,?_⟩
     have fH:(cB (fM l r i)).set (0 + (p.2:Int).toNat * 1) (DV.v (.bool true))=cB (fM l r (i + 1)):=by
      rw [show 0 + (p.2:Int).toNat * 1=p.2 by omega,Aw,VI]
     exact ⟨H8 n l e e (fM l r (i + 1)) k (i + 1),(az 1 rfl (by repeat' (first | exact rfl | exact ah rfl | exact dt fH | exact ak (cx Zh (by omega)) | refine ⟨_,_,rfl,?_,?_⟩)) rfl rfl rfl (by repeat' (first | exact trivial | exact ah rfl | exact dt fH | exact ak (cx Zh (by omega)) | refine ⟨⟨_,rfl,?_⟩,?_⟩))),l.length - (i + 1),by omega,i + 1,rfl,by omega,rfl⟩
    ·have g:¬ b=true:=by rw [show b=false from g];decide
     rw [if_neg g] at VI;exact ⟨H8 n l e e (fM l r (i + 1)) k (i + 1),(az 1 rfl (by repeat' (first | exact rfl | exact ah rfl | exact dt (by rw [VI]) | exact ak (cx Zh (by omega)) | refine ⟨_,_,rfl,?_,?_⟩)) rfl rfl rfl (by repeat' (first | exact trivial | exact ah rfl | exact dt (by rw [VI]) | exact ak (cx Zh (by omega)) | refine ⟨⟨_,rfl,?_⟩,?_⟩))),l.length - (i + 1),by omega,i + 1,rfl,by omega,rfl⟩
   ·have aO:i=l.length:=by have:=hL3;simp [B7] at this;omega
    subst aO;have rL:fM l r l.length=cp l ((List.replicate n false).set e true) (k + 1):=by rw [zC,fM,List.take_length];all_goals rfl
    exact ⟨Nl n l e e (cp l ((List.replicate n false).set e true) (k + 1)) (k + 1),(az 1 rfl (by repeat' (first | exact rfl | exact ah rfl | exact dt (by rw [rL]) | exact ak (cx gF (by omega)) | refine ⟨_,_,rfl,?_,?_⟩)) rfl rfl rfl (by repeat' (first | exact trivial | exact ah rfl | exact dt (by rw [rL]) | exact ak (cx gF (by omega)) | refine ⟨⟨_,rfl,?_⟩,?_⟩))),n - (k + 1),by omega,k + 1,rfl,by omega,rfl⟩
  ·have aO:k=n:=by have:=jD;simp at this;omega
   subst aO;have qX:cp l ((List.replicate k false).set e true) k=tz k l e:=rfl;rw [qX];have hrw:=pW k l e;refine IQ.wk (.Hr (st':=Zf k l e e (tz k l e)) 0 rfl rfl rfl rfl ?_) rfl rfl ?_
   ·refine ⟨⟨_,rfl,?_⟩,⟨_,rfl,?_⟩,⟨_,rfl,?_⟩,⟨_,rfl,?_⟩,⟨_,rfl,Sf hrw (by omega) rfl⟩,trivial⟩
    ·simp only [Cc]
    ·simp only [Cc];exact Or.inr (Or.inl ⟨none,rfl⟩)
    ·simp only [Cc]
    ·simp only [Cc];exact ⟨Nat.zero_lt_one,trivial⟩
   ·have dW:(cz ((ff k l).take e)).length=e:=by rw [vG,List.length_take,Zg];omega
    have eE:cz ((ff k l).take e) ++ [[DV.sl 1 (vF (tz k l e)) none]]=cz ((ff k l).take (e + 1)):=by rw [List.take_add_one,FT l ap];simp [cz]
    refine ⟨dW,⟨by rw [dW];simp [maxLen];omega,by rw [dW];simp;omega⟩,?_⟩;exact ⟨Uu k l (e + 1) (e + 1),(weak_mk ⟨_,rfl⟩ wA rfl rfl rfl (tg ap eE)),k - (e + 1),by omega,e + 1,rfl,by omega,rfl⟩
 ·have aO:e=n:=by have:=hL;simp at this;omega
  subst aO;have ht:(ff e l).take e=ff e l:=by rw [List.take_of_length_le (by rw [Zg];omega)]
  rw [ht];exact ⟨_,ax,rfl⟩
theorem cr {n m:Nat} {bW:List TkE} {x y:Bool} (h:x=y):We n m bW (.v (.bool x)) (.v (.bool y)):=.inl ⟨by rw [h],rfl⟩
theorem mV {l:List Wd} {j:Nat} {w:Wd} (h:l[j]? = some w):(av l)[j]? = some w.s:=by simp [av,h]
theorem H9 {L:List ByteArray} {s:ByteArray} (h:∀ j,j < L.length->L[j]? ≠ some s):cD L s=none:=ru fun j hj=>by
 exact h j (gS hj).1 hj
abbrev Nn (l:List Wd) (s:ByteArray) (e:Nat):St:=
 ⟨[(0,⟨[],.sl 2 (bu l) none⟩),(1,⟨[],.v (.string s)⟩),(5,⟨[],.v (.int .i64 e)⟩)],[],[]⟩
theorem eW (l:List Wd) (s:ByteArray) (hs:wdsWt l<=1099511627776) :
  EvP Tryz.prog 193 [.sl 2 (bu l) none,.v (.string s)] (.v (.int .i64 (oz (cD (av l) s)))):=by
 have mb:=bg l;have gI:=dg l;refine ev_go (P:=Tryz.prog) tt tt_ok 5000 20 [.tmp 4] Tryz.func193 rfl Tryz.ntmps193 rfl (nL rfl) (fun E9 w9 hn9 hm9=>?_);refine aq (fun j st=>∃ e:Nat,st=Nn l s e/\e<=l.length/\(∀ j,j < e->(av l)[j]? ≠ some s)/\j=l.length - e) l.length (Nn l s 0) (weak_mk ⟨_,rfl⟩ wA rfl rfl rfl wB) ⟨0,rfl,by omega,fun _ h=>by omega,by omega⟩ ?_;rintro j st ⟨e,rfl,he,eI,rfl⟩;refine br (fun hL=>?_) (fun hL=>?_)
 ·have ap:e < l.length:=by simpa [aw] using hL
  obtain ⟨w,hw⟩:∃ w,l[e]? = some w:=⟨_,gE ap⟩;refine ⟨jw w,⟨by omega,aK hw⟩,?_⟩;refine br (fun hq=>?_) (fun hq=>?_)
  ·have hq:w.s=s:=by simpa using hq
   rw [An (p:=e) (by rw [mV hw,hq]) (fun j hj=>Nat.le_of_not_lt fun hl=>eI j hl hj)];exact (rfl:_=_)
  ·have hq:¬ w.s=s:=by simpa using hq
   refine ⟨Nn l s (e + 1),(weak_mk ⟨_,rfl⟩ wA rfl rfl rfl (wNB ap)),l.length - (e + 1),by omega,e + 1,rfl,by omega,fun j hj=>?_,rfl⟩;rcases Nat.lt_succ_iff_lt_or_eq.1 hj with hj | rfl
   ·exact eI j hj
   ·rw [mV hw];simpa using hq
 ·have aO:e=l.length:=by have:=hL;simp [aw] at this;omega
  rw [H9 (fun j hj=>eI j (by omega))];exact (rfl:_=_)
theorem fg {o:Option Nat}:decide (oz o < 0)=true↔o=none:=by
 cases o with
 | none=>simp [oz]
 | some k=>
  refine ⟨fun h=>?_,fun h=>by cases h⟩;have:=of_decide_eq_true h;simp only [oz] at this;omega
theorem C5 {L:List ByteArray}:∀ {o:List (Wd × Wd)},(numF L o).1=0->∀ x∈o,(∃ a,cD L x.1.s=some a)/\∃ b,cD L x.2.s=some b
 | [],_,x,hx=>by cases hx
 | p :: r,h,x,hx=>by
  rw [numF] at h;split at h
  ·exact absurd h (by simp)
  rename_i h1;split at h
  ·exact absurd h (by simp)
  rename_i h2;rcases List.mem_cons.1 hx with rfl | hx
  ·exact ⟨Option.ne_none_iff_exists'.1 h1,Option.ne_none_iff_exists'.1 h2⟩
  ·exact C5 h x hx
abbrev Np (l:List Wd) (o:List (Wd × Wd)) (q e:Nat):St:=
 ⟨[(0,⟨[],.sl 2 (bu l) none⟩),(1,⟨[],.sl 4 (mh o) none⟩),(5,⟨[],.sl 2 (lM (cT (av l) (o.take e))) (some 0)⟩),(6,⟨[],.v (.int .i64 e)⟩)],[],[⟨q,257,2,none⟩]⟩
theorem FW (l:List Wd) (o:List (Wd × Wd)) (hs:wdsWt l<=1099511627776) (EB:prsWt o<=1099511627776) (hF:(numF (av l) o).1=0) :
  EvP Tryz.prog 132 [.sl 2 (bu l) none,.sl 4 (mh o) none] (.sl 2 (lM (cT (av l) o)) none):=by
 have mb:=hZ o;refine ev_go (P:=Tryz.prog) tt tt_ok 5000 34 [.tmp 4] Tryz.func132 rfl Tryz.ntmps132 rfl (nL rfl) (fun E9 w9 hn9 hm9=>?_);refine aq (fun j st=>∃ e:Nat,st=Np l o e e/\e<=o.length/\j=o.length - e) o.length (Np l o 0 0) (fk ⟨0,257,2,none⟩ rfl ⟨_,rfl⟩ rfl wA rfl rfl zS) ⟨0,rfl,by omega,by omega⟩ ?_;rintro j st ⟨e,rfl,he,rfl⟩;refine br (fun hL=>?_) (fun hL=>?_)
 ·have ap:e < o.length:=by simpa [fq] using hL
  obtain ⟨w,hw⟩:∃ w,o[e]? = some w:=⟨_,gE ap⟩;obtain ⟨⟨a,ha⟩,⟨b,hb⟩⟩:=C5 hF w (mG hw);have KM:=eW l w.1.s hs;have zL:=eW l w.2.s hs;rw [ha] at KM;rw [hb] at zL;refine aE (fun _=>false) mo (by decide +kernel) ?_;refine ⟨KN w,⟨by omega,gx hw⟩,?_⟩;refine ay uH (KM) ax rfl ?_;refine ⟨KN w,⟨by omega,gx hw⟩,?_⟩;refine ay uH (zL) ax rfl ?_;refine ⟨by simp [gz,cT];omega,⟨by simp [gz,cT,maxLen];omega,by simp [gz,cT];omega⟩,?_⟩;exact ⟨Np l o (e + 1) (e + 1),(weak_mk ⟨_,rfl⟩ wA rfl rfl rfl (by repeat' (first | exact trivial | exact ah rfl | exact ak (cx ap (by omega)) | exact cP (yG hw ha hb) rfl | refine ⟨⟨_,rfl,?_⟩,?_⟩))),o.length - (e + 1),by omega,e + 1,rfl,by omega,rfl⟩
 ·have aO:e=o.length:=by
   have:=hL;simp [fq] at this;omega
  have ht:o.take e=o:=by rw [aO,List.take_length]
  rw [ht];exact ⟨_,ax,rfl⟩
theorem C6 (l:List Wd) (o:List (Wd × Wd)) (hl:l.length<=32) (hs:wdsWt l<=1099511627776) (EB:prsWt o<=1099511627776) (hF:(numF (av l) o).1=0) :
  EvP Tryz.prog 73 [.sl 2 (bu l) none,.sl 4 (mh o) none] (.sl 1 (cz (dm l.length (ez l.length (cT (av l) o)))) none):=by
 have mb:=hZ o;have hP:rq l.length (cT (av l) o):=by have:=nH hF;rwa [dg] at this
 have hN:=aw l;have Qa:=FV l.length (by omega) (cT (av l) o) hP (by simp [cT];omega);rw [JS hP] at Qa;refine ev_go (P:=Tryz.prog) tt tt_ok 5000 11 [.tmp 4] Tryz.func73 rfl Tryz.ntmps73 rfl (nL rfl) (fun E9 w9 hn9 hm9=>?_);refine call_p Xc (FW l o hs EB hF) ax rfl ?_;rw [hN];refine call_p Xb (Qa) ax rfl ?_;exact ⟨_,ax,rfl⟩
theorem C7 (n:Nat) (f:Nat->Nat->Bool):(dm n f).length=n:=by simp [dm]
theorem fZ (n:Nat) (f:Nat->Nat->Bool):(cz (dm n f)).length=n:=by rw [vG,C7]
theorem dh {n:Nat} {f:Nat->Nat->Bool} {a:Nat} (ha:a < n):(cz (dm n f))[a]? = some [DV.sl 1 (vF ((List.range n).map (f a))) none]:=Nk (CK ha)
theorem cw {n:Nat} {f:Nat->Nat->Bool} {a b:Nat} (hb:b < n):(vF ((List.range n).map (f a)))[b]? = some [DV.v (.bool (f a b))]:=H7 (by simp [List.getElem?_range hb])
abbrev Nq (n:Nat) (f:Nat->Nat->Bool) (e:Nat):St:=
 ⟨[(0,⟨[],.sl 1 (cz (dm n f)) none⟩),(3,⟨[],.v (.int .i64 e)⟩)],[],[]⟩
abbrev vH (n:Nat) (f:Nat->Nat->Bool) (e k:Nat):St:=
 ⟨[(0,⟨[],.sl 1 (cz (dm n f)) none⟩),(3,⟨[],.v (.int .i64 e)⟩),(4,⟨[],.v (.int .i64 k)⟩)],[],[]⟩
theorem C8 (n:Nat) (f:Nat->Nat->Bool) (hn:n<=64) :
  EvP Tryz.prog 270 [.sl 1 (cz (dm n f)) none] (.v (.int .i64 (oz (bL (j7 n f) n)))):=by
 have dW:=fZ n f;refine ev_go (P:=Tryz.prog) tt tt_ok 5000 39 [.tmp 2] Tryz.func270 rfl Tryz.ntmps270 rfl (nL rfl) (fun E9 w9 hn9 hm9=>?_);refine aq (fun j st=>∃ e:Nat,st=Nq n f e/\e<=n/\(∀ a,a < e->j7 n f a=false)/\j=n - e) n (Nq n f 0) (weak_mk ⟨_,rfl⟩ wA rfl rfl rfl wB) ⟨0,rfl,by omega,fun _ h=>by omega,by omega⟩ ?_;rintro j st ⟨e,rfl,he,eI,rfl⟩;refine br (fun hL=>?_) (fun hL=>?_)
 ·have ap:e < n:=by simpa [dW] using hL
  refine aq (fun j st=>∃ k:Nat,st=vH n f e k/\k<=n/\(∀ b,b < k->(decide (e≠b) && (f e b && f b e))=false)/\j=n - k) n (vH n f e 0) (weak_mk ⟨_,rfl⟩ wA rfl rfl rfl wB) ⟨0,rfl,by omega,fun _ h=>by omega,by omega⟩ ?_;rintro j st ⟨k,rfl,hk,C9,rfl⟩;refine br (fun jD=>?_) (fun jD=>?_)
  ·have gF:k < n:=by simpa [dW] using jD
   have Cu:(decide (e≠k) && (f e k && f k e))=false->∀ b,b < k + 1->(decide (e≠b) && (f e b && f b e))=false:=fun h b hb=>by
    rcases Nat.lt_succ_iff_lt_or_eq.1 hb with hb | rfl
    ·exact C9 b hb
    ·exact h
   refine br (fun g1=>?_) (fun g1=>?_)
   ·have g1:e≠k:=by have:=g1;simp at this;omega
    refine ⟨_,⟨by omega,dh ap⟩,?_⟩;refine ⟨_,⟨by omega,cw gF⟩,?_⟩;refine br (fun g2=>?_) (fun g2=>?_)
    ·have g2:f e k=true:=by simpa [pickB] using g2
     refine ⟨_,⟨by omega,dh gF⟩,?_⟩;refine ⟨_,⟨by omega,cw ap⟩,?_⟩;refine br (fun g3=>?_) (fun g3=>?_)
     ·have g3:f k e=true:=by simpa [pickB] using g3
      have hp:j7 n f e=true:=List.any_eq_true.2 ⟨k,List.mem_range.2 gF,by simp [g1,g2,g3]⟩;rw [cC ap hp eI];exact (rfl:_=_)
     ·have g3:f k e=false:=by simpa [pickB] using g3
      exact ⟨vH n f e (k + 1),(weak_mk ⟨_,rfl⟩ wA rfl rfl rfl (wNB gF)),n - (k + 1),by omega,k + 1,rfl,by omega,Cu (by simp [g3]),rfl⟩
    ·have g2:f e k=false:=by simpa [pickB] using g2
     exact ⟨vH n f e (k + 1),(weak_mk ⟨_,rfl⟩ wA rfl rfl rfl (wNB gF)),n - (k + 1),by omega,k + 1,rfl,by omega,Cu (by simp [g2]),rfl⟩
   ·have g1:e=k:=by have:=g1;simp at this;omega
    exact ⟨vH n f e (k + 1),(weak_mk ⟨_,rfl⟩ wA rfl rfl rfl (wNB gF)),n - (k + 1),by omega,k + 1,rfl,by omega,Cu (by simp [g1]),rfl⟩
  ·have aO:k=n:=by have:=jD;simp [dW] at this;omega
   refine ⟨Nq n f (e + 1),(weak_mk ⟨_,rfl⟩ wA rfl rfl rfl (wNB ap)),n - (e + 1),by omega,e + 1,rfl,by omega,fun j hj=>?_,rfl⟩;rcases Nat.lt_succ_iff_lt_or_eq.1 hj with hj | rfl
   ·exact eI j hj
   ·unfold j7;rw [List.any_eq_false];intro b hb;rw [C9 b (by have:=List.mem_range.1 hb;omega)];decide
 ·have aO:e=n:=by have:=hL;simp [dW] at this;omega
  subst aO;rw [cW eI];exact (rfl:_=_)
abbrev Uv (n:Nat) (f:Nat->Nat->Bool) (q e:Nat):St:=
 ⟨[(0,⟨[],.sl 1 (cz (dm n f)) none⟩),(3,⟨[],.sl 1 (cz ((dm n fun a b=>f b a).take e)) (some 0)⟩),(4,⟨[],.v (.int .i64 e)⟩)],[],[⟨q,206,1,none⟩]⟩
abbrev Nr (n:Nat) (f:Nat->Nat->Bool) (q e:Nat) (r:List Bool) (k:Nat):St:=
 ⟨[(0,⟨[],.sl 1 (cz (dm n f)) none⟩),(3,⟨[],.sl 1 (cz ((dm n fun a b=>f b a).take e)) (some 0)⟩),(4,⟨[],.v (.int .i64 e)⟩),(5,⟨[],.ms 0 1 0 n n⟩),(6,⟨[],.v (.int .i64 k)⟩)],[cB r],[⟨q,206,1,none⟩]⟩
abbrev Zi (n:Nat) (f:Nat->Nat->Bool) (q e:Nat) (r:List Bool):St:=
 ⟨[(0,⟨[],.sl 1 (cz (dm n f)) none⟩),(4,⟨[],.v (.int .i64 e)⟩),(32,⟨[],.sl 1 (cz ((dm n fun a b=>f b a).take e)) (some 0)⟩),(33,⟨[],.sl 1 (vF r) none⟩)],[],[⟨q,206,1,none⟩]⟩
def iO (n:Nat) (f:Nat->Nat->Bool) (e k:Nat):List Bool:=(List.range n).map fun b=>if b < k then f b e else false
theorem rM (n:Nat) (f:Nat->Nat->Bool) (e k:Nat):(iO n f e k).length=n:=by simp [iO]
theorem FX (n:Nat) (f:Nat->Nat->Bool) (e:Nat):iO n f e 0=List.replicate n false:=by
 refine List.ext_getElem? fun i=>?_;by_cases h:i < n
 ·simp [iO,List.getElem?_range h,List.getElem?_replicate,h]
 ·rw [List.getElem?_eq_none (by rw [rM];omega),List.getElem?_eq_none (by simp;omega)]
theorem FY (n:Nat) (f:Nat->Nat->Bool) (e k:Nat):(iO n f e k).set k (f k e)=iO n f e (k + 1):=by
 refine List.ext_getElem? fun i=>?_;by_cases h:i < n
 ·rw [List.getElem?_set];simp only [iO,List.getElem?_map,List.getElem?_range h,Option.map_some,List.length_map,List.length_range];by_cases hk:k=i
  ·subst hk;simp [h]
  ·rw [if_neg hk];by_cases hi:i < k
   ·rw [if_pos hi,if_pos (by omega)]
   ·rw [if_neg hi,if_neg (by omega)]
 ·rw [List.getElem?_eq_none (by simp [iO];omega),List.getElem?_eq_none (by rw [rM];omega)]
theorem FZ (n:Nat) (f:Nat->Nat->Bool) (e:Nat):iO n f e n=(List.range n).map (fun b=>f b e):=by
 unfold iO;exact List.map_congr_left fun b hb=>by rw [if_pos (List.mem_range.1 hb)]
theorem JT (n:Nat) (f:Nat->Nat->Bool) (hn:n<=64) :
  EvP Tryz.prog 271 [.sl 1 (cz (dm n f)) none] (.sl 1 (cz (dm n fun a b=>f b a)) none):=by
 have dW:=fZ n f;have Zg:=C7 n fun a b=>f b a;refine ev_go (P:=Tryz.prog) tt tt_ok 5000 37 [.tmp 2] Tryz.func271 rfl Tryz.ntmps271 rfl (nL rfl) (fun E9 w9 hn9 hm9=>?_);refine aq (fun j st=>∃ e:Nat,st=Uv n f e e/\e<=n/\j=n - e) n (Uv n f 0 0) (fk ⟨0,206,1,none⟩ rfl ⟨_,rfl⟩ rfl wA rfl rfl zS) ⟨0,rfl,by omega,by omega⟩ ?_;rintro j st ⟨e,rfl,he,rfl⟩;refine br (fun hL=>?_) (fun hL=>?_)
 ·have ap:e < n:=by simpa [dW] using hL
  refine ⟨⟨rfl,by omega,by rw [dW];omega,by rw [dW];omega⟩,?_⟩;rw [dW]
  have gk:(List.replicate (n:Int).toNat (vL [Value.bool false])).flatten=cB (iO n f e 0):=by
   rw [JR,FX,show (n:Int).toNat=n by omega]
  refine aq (fun j st=>∃ k:Nat,st=Nr n f e e (iO n f e k) k/\k<=n/\j=n - k) n (Nr n f e e (iO n f e 0) 0) (az 1 rfl (by repeat' (first | exact rfl | exact ah rfl | exact dt gk | refine ⟨_,_,rfl,?_,?_⟩)) rfl rfl rfl (by repeat' (first | exact trivial | exact ah rfl | exact dt gk | refine ⟨⟨_,rfl,?_⟩,?_⟩))) ⟨0,rfl,by omega,by omega⟩ ?_;rintro j st ⟨k,rfl,hk,rfl⟩;refine br (fun jD=>?_) (fun jD=>?_)
  ·have gF:k < n:=by simpa [dW] using jD
   refine ⟨_,⟨by omega,dh gF⟩,?_⟩;refine ⟨_,⟨by omega,cw ap⟩,?_⟩;refine ⟨⟨by omega,by omega⟩,?_⟩;refine ⟨by rw [rK,rM];omega,?_⟩
   have fH:(cB (iO n f e k)).set (0 + (k:Int).toNat * 1) (DV.v (.bool (f (k:Int).toNat (e:Int).toNat)))=cB (iO n f e (k + 1)):=by
    rw [show 0 + (k:Int).toNat * 1=k by omega,Aw,Int.toNat_natCast,Int.toNat_natCast,FY]
   exact ⟨Nr n f e e (iO n f e (k + 1)) (k + 1),(az 1 rfl (by repeat' (first | exact rfl | exact ah rfl | exact dt fH | exact ak (cx gF (by omega)) | refine ⟨_,_,rfl,?_,?_⟩)) rfl rfl rfl (by repeat' (first | exact trivial | exact ah rfl | exact dt fH | exact ak (cx gF (by omega)) | refine ⟨⟨_,rfl,?_⟩,?_⟩))),n - (k + 1),by omega,k + 1,rfl,by omega,rfl⟩
  ·have aO:k=n:=by have:=jD;simp [dW] at this;omega
   subst aO;rw [FZ];refine IQ.wk (.Hr (st':=Zi k f e e ((List.range k).map fun b=>f b e)) 0 rfl rfl rfl rfl ?_) rfl rfl ?_
   ·refine ⟨⟨_,rfl,?_⟩,⟨_,rfl,?_⟩,⟨_,rfl,?_⟩,⟨_,rfl,Sf (by simp) (by omega) rfl⟩,trivial⟩
    ·simp only [Cc];exact Or.inr (Or.inl ⟨none,rfl⟩)
    ·simp only [Cc]
    ·simp only [Cc];exact ⟨Nat.zero_lt_one,trivial⟩
   ·have Zj:(cz ((dm k fun a b=>f b a).take e)).length=e:=by rw [vG,List.length_take,Zg];omega
    have eE:cz ((dm k fun a b=>f b a).take e) ++ [[DV.sl 1 (vF ((List.range k).map fun b=>f b e)) none]]=cz ((dm k fun a b=>f b a).take (e + 1)):=by rw [List.take_add_one,CK ap];simp [cz]
    refine ⟨Zj,⟨by rw [Zj];simp [maxLen];omega,by rw [Zj];simp;omega⟩,?_⟩;exact ⟨Uv k f (e + 1) (e + 1),(weak_mk ⟨_,rfl⟩ wA rfl rfl rfl (tg ap eE)),k - (e + 1),by omega,e + 1,rfl,by omega,rfl⟩
 ·have aO:e=n:=by have:=hL;simp [dW] at this;omega
  subst aO;rw [List.take_of_length_le (by rw [Zg];omega)];exact ⟨_,ax,rfl⟩
def Sg (f:Nat->Nat->Bool) (n a b c:Nat):Bool:=(f a c && f b c) && (List.range n).all fun d=>!(f a d && f b d) || f c d
def jG (f:Nat->Nat->Bool) (n a b:Nat):Option Nat:=bL (Sg f n a b) n
def jV (f:Nat->Nat->Bool) (a b c k:Nat):Bool:=(f a c && f b c) && (List.range k).all fun d=>!(f a d && f b d) || f c d
theorem JU (f:Nat->Nat->Bool) (a b c k:Nat):jV f a b c (k + 1)=(jV f a b c k && (!(f a k && f b k) || f c k)):=by
 simp only [jV,List.range_succ,List.all_append,List.all_cons,List.all_nil,Bool.and_true,Bool.and_assoc]
theorem yW (f:Nat->Nat->Bool) (a b c:Nat):jV f a b c 0=(f a c && f b c):=by simp [jV]
abbrev Uw (n:Nat) (f:Nat->Nat->Bool) (a b e:Nat):St:=
 ⟨[(0,⟨[],.sl 1 (cz (dm n f)) none⟩),(1,⟨[],.v (.int .i64 a)⟩),(2,⟨[],.v (.int .i64 b)⟩),(7,⟨[],.v (.int .i64 e)⟩)],[],[]⟩
abbrev sJ (n:Nat) (f:Nat->Nat->Bool) (a b e:Nat) (x:Bool) (k:Nat):St:=
 ⟨[(0,⟨[],.sl 1 (cz (dm n f)) none⟩),(1,⟨[],.v (.int .i64 a)⟩),(2,⟨[],.v (.int .i64 b)⟩),(7,⟨[],.v (.int .i64 e)⟩),(8,⟨[],.v (.bool x)⟩),(9,⟨[],.v (.int .i64 k)⟩)],[],[]⟩
theorem ka (n:Nat) (f:Nat->Nat->Bool) (hn:n<=64) (a b:Nat) (ha:a < n) (hb:b < n) :
  EvP Tryz.prog 203 [.sl 1 (cz (dm n f)) none,.v (.int .i64 a),.v (.int .i64 b)] (.v (.int .i64 (oz (jG f n a b)))):=by
 have dW:=fZ n f;refine ev_go (P:=Tryz.prog) tt tt_ok 5000 66 [.tmp 6] Tryz.func203 rfl Tryz.ntmps203 rfl (nL rfl) (fun E9 w9 hn9 hm9=>?_);refine aq (fun j st=>∃ e:Nat,st=Uw n f a b e/\e<=n/\(∀ c,c < e->Sg f n a b c=false)/\j=n - e) n (Uw n f a b 0) (weak_mk ⟨_,rfl⟩ wA rfl rfl rfl wB) ⟨0,rfl,by omega,fun _ h=>by omega,by omega⟩ ?_;rintro j st ⟨e,rfl,he,eI,rfl⟩;refine br (fun hL=>?_) (fun hL=>?_)
 ·have ap:e < n:=by simpa [dW] using hL
  refine ⟨_,⟨by omega,dh ha⟩,?_⟩;refine ⟨_,⟨by omega,cw ap⟩,?_⟩;have e1:(f a e == true)=true->f b e=jV f a b e 0:=fun g=>by rw [yW,show f a e=true by simpa using g];simp
  have e2:(f a e == true)=false->false=jV f a b e 0:=fun g=>by rw [yW,show f a e=false by simpa using g];simp
  refine have body:=?_;br (fun g1=>⟨_,⟨by omega,dh hb⟩,⟨_,⟨by omega,cw ap⟩,aq (fun j st=>∃ k:Nat,st=sJ n f a b e (jV f a b e k) k/\k<=n/\j=n - k) n (sJ n f a b e (jV f a b e 0) 0) (weak_mk ⟨_,rfl⟩ wA rfl rfl rfl (by repeat' (first | exact trivial | exact ah rfl | exact (show We _ _ _ (DV.v (.bool (f b e))) _ from cr (e1 g1)) | refine ⟨⟨_,rfl,?_⟩,?_⟩))) ⟨0,rfl,by omega,by omega⟩ body⟩⟩) (fun g1=>aq (fun j st=>∃ k:Nat,st=sJ n f a b e (jV f a b e k) k/\k<=n/\j=n - k) n (sJ n f a b e (jV f a b e 0) 0) (weak_mk ⟨_,rfl⟩ wA rfl rfl rfl (by repeat' (first | exact trivial | exact ah rfl | exact (show We _ _ _ (DV.v (.bool false)) _ from cr (e2 g1)) | refine ⟨⟨_,rfl,?_⟩,?_⟩))) ⟨0,rfl,by omega,by omega⟩ body);rintro j st ⟨k,rfl,hk,rfl⟩;refine br (fun jD=>?_) (fun jD=>?_)
  ·have gF:k < n:=by simpa [dW] using jD
   have JV:=JU f a b e k;refine ⟨_,⟨by omega,dh ha⟩,?_⟩;refine ⟨_,⟨by omega,cw gF⟩,?_⟩;refine br (fun g1=>?_) (fun g1=>?_)
   ·refine ⟨_,⟨by omega,dh hb⟩,?_⟩;refine ⟨_,⟨by omega,cw gF⟩,?_⟩;refine br (fun g2=>?_) (fun g2=>?_)
    ·refine ⟨_,⟨by omega,dh ap⟩,?_⟩;refine ⟨_,⟨by omega,cw gF⟩,?_⟩;refine br (fun g3=>?_) (fun g3=>?_)
     ·have hx:false=jV f a b e (k + 1):=by simp [pickB] at g1 g2 g3;rw [JV];simp [g1,g2,g3]
      exact ⟨sJ n f a b e (jV f a b e (k + 1)) (k + 1),(weak_mk ⟨_,rfl⟩ wA rfl rfl rfl (by repeat' (first | exact trivial | exact ah rfl | exact ak (cx gF (by omega)) | exact cr hx | refine ⟨⟨_,rfl,?_⟩,?_⟩))),n - (k + 1),by omega,k + 1,rfl,by omega,rfl⟩
     ·have hx:jV f a b e k=jV f a b e (k + 1):=by simp [pickB] at g1 g2 g3;rw [JV];simp [g1,g2,g3]
      exact ⟨sJ n f a b e (jV f a b e (k + 1)) (k + 1),(weak_mk ⟨_,rfl⟩ wA rfl rfl rfl (by repeat' (first | exact trivial | exact ah rfl | exact ak (cx gF (by omega)) | exact cr hx | refine ⟨⟨_,rfl,?_⟩,?_⟩))),n - (k + 1),by omega,k + 1,rfl,by omega,rfl⟩
    ·have hx:jV f a b e k=jV f a b e (k + 1):=by simp [pickB] at g1 g2;rw [JV];simp [g1,g2]
     exact ⟨sJ n f a b e (jV f a b e (k + 1)) (k + 1),(weak_mk ⟨_,rfl⟩ wA rfl rfl rfl (by repeat' (first | exact trivial | exact ah rfl | exact ak (cx gF (by omega)) | exact cr hx | refine ⟨⟨_,rfl,?_⟩,?_⟩))),n - (k + 1),by omega,k + 1,rfl,by omega,rfl⟩
   ·have hx:jV f a b e k=jV f a b e (k + 1):=by simp [pickB] at g1;rw [JV];simp [g1]
    exact ⟨sJ n f a b e (jV f a b e (k + 1)) (k + 1),(weak_mk ⟨_,rfl⟩ wA rfl rfl rfl (by repeat' (first | exact trivial | exact ah rfl | exact ak (cx gF (by omega)) | exact cr hx | refine ⟨⟨_,rfl,?_⟩,?_⟩))),n - (k + 1),by omega,k + 1,rfl,by omega,rfl⟩
  ·have aO:k=n:=by have:=jD;simp [dW] at this;omega
   subst aO;refine br (fun g=>?_) (fun g=>?_)
   ·have g:Sg f k a b e=true:=g;rw [jG,cC ap g eI];exact (rfl:_=_)
   ·have g:Sg f k a b e=false:=g;refine ⟨Uw k f a b (e + 1),(weak_mk ⟨_,rfl⟩ wA rfl rfl rfl (wNB ap)),k - (e + 1),by omega,e + 1,rfl,by omega,fun j hj=>?_,rfl⟩;rcases Nat.lt_succ_iff_lt_or_eq.1 hj with hj | rfl
    ·exact eI j hj
    ·exact g
 ·have aO:e=n:=by have:=hL;simp [dW] at this;omega
  subst aO;rw [jG,cW eI];exact (rfl:_=_)
theorem Ns {l:List Wd} {i:Nat} {w:Wd} (hw:l[i]? = some w):∃ p,cD (av l) w.s=some p/\(p < i↔bz (l.take i) w.s=true):=by
 cases h:cD (av l) w.s with
 | none=>exact absurd (mG (mV hw)) (xG.1 h)
 | some p=>
  refine ⟨p,rfl,?_⟩;obtain ⟨h1,h2,h3⟩:=cK h;rw [dg] at h1
  have CH:∃ v,l[p]? = some v/\v.s=w.s:=by
   refine ⟨l[p],gE h1,?_⟩;rw [mV (gE h1)] at h2;exact Option.some.inj h2
  obtain ⟨v,hv,xy⟩:=CH;unfold bz;rw [List.any_eq_true];refine ⟨fun ap=>⟨v,mG (i:=p) (by rw [List.getElem?_take,if_pos ap];exact hv),by simp [xy]⟩,fun ⟨x,hx,oA⟩=>?_⟩;obtain ⟨j,hj⟩:=List.getElem?_of_mem hx;rw [List.getElem?_take] at hj;split at hj
  ·rename_i O5;have oA:x.s=w.s:=by simpa using oA
   have:=h3 j (by rw [mV hj,oA]);omega
  ·cases hj
theorem Ax {f:Nat->Nat->Bool} {n a b c:Nat}:Sg f n a b c=true↔f a c=true/\f b c=true/\∀ d,d < n->f a d=true->f b d=true->f c d=true:=by
 unfold Sg;simp only [Bool.and_eq_true,List.all_eq_true,List.mem_range,Bool.or_eq_true,Bool.not_eq_true',Bool.and_eq_false_iff,and_assoc];refine and_congr_right fun _=>and_congr_right fun _=>forall_congr' fun d=>imp_congr_right fun _=>?_;cases f a d<;>cases f b d<;>cases f c d<;>simp
structure Pc (f:Nat->Nat->Bool) (n:Nat):Prop where
 rfl':∀ a,a < n->f a a=true
 FA:∀ a b,a < n->b < n->f a b=true->f b a=true->a=b
theorem Pc.flip {f:Nat->Nat->Bool} {n:Nat} (h:Pc f n):Pc (fun x y=>f y x) n:=⟨h.rfl',fun a b ha hb h1 h2=>h.FA a b ha hb h2 h1⟩
theorem Da {f:Nat->Nat->Bool} {n a b c:Nat} (h:Pc f n) (hc:c < n) (hj:Sg f n a b c=true):eG f n a b=some c:=by
 obtain ⟨h1,h2,h3⟩:=Ax.1 hj
 have key:∀ e,e<=n->c < e->bestA (fun c=>f a c && f b c) f e=some c:=by
  intro e
  induction e with
  | zero=>intro _ h;omega
  | succ e ih=>
   intro he hce;rw [bestA];by_cases hec:e=c
   ·subst hec;rw [if_pos];simp only [h1,h2,Bool.and_true,Bool.true_and]
    cases ho:bestA (fun c=>f a c && f b c) f e with
    | none=>rfl
    | some o=>
     have hp:=rD ho;have hl:=mO ho;simp only [Bool.and_eq_true] at hp;exact h3 o (by omega) hp.1 hp.2
   ·rw [ih (by omega) (by omega),if_neg];simp only [Bool.and_eq_true,CO,not_and];intro hp hec2;exact hec (h.FA e c (by omega) hc hec2 (h3 e (by omega) hp.1 hp.2))
 unfold eG mN;rw [key n (Nat.le_refl _) hc];simp only;rw [if_neg];simp only [List.any_eq_true,List.mem_range,Bool.and_eq_true,Bool.not_eq_true',not_exists,not_and,Bool.not_eq_false];exact fun d hd hp=>h3 d hd hp.1 hp.2
theorem lW {f:Nat->Nat->Bool} {n a b:Nat} (h:Pc f n):(eG f n a b).isNone=(jG f n a b).isNone:=by
 cases hj:jG f n a b with
 | some c=>
  obtain ⟨hc,hi,_⟩:=dY hj;rw [Da h hc hi]
 | none=>
  cases hk:eG f n a b with
  | none=>rfl
  | some k=>
   obtain ⟨h1,h2,h3,h4⟩:=oN hk;have:=dw hj k h1;rw [Ax.2 ⟨h2,h3,h4⟩] at this;cases this
def om (f:Nat->Nat->Bool) (n a b:Nat):Bool:=(jG f n a b).isNone || (jG (fun x y=>f y x) n a b).isNone
theorem Ia {f:Nat->Nat->Bool} {n a b:Nat} (h:Pc f n):kR f n a b=om f n a b:=by
 unfold kR om;rw [lW h,show iA f n a b=eG (fun x y=>f y x) n a b from rfl,lW h.flip]
theorem vI {f:Nat->Nat->Bool} {n b:Nat} (h:Pc f n) (hb:b < n):(jG f n b b).isNone=false:=by
 have hi:Sg f n b b b=true:=Ax.2 ⟨h.rfl' b hb,h.rfl' b hb,fun d _ h1 _=>h1⟩
 cases hj:jG f n b b with
 | some c=>rfl
 | none=>rw [dw hj b hb] at hi;cases hi
theorem Qq {f:Nat->Nat->Bool} {n b:Nat} (h:Pc f n) (hb:b < n):mP f n b=(List.range b).any fun a=>om f n a b:=by
 unfold mP;rw [List.range_succ,List.any_append];simp only [List.any_cons,List.any_nil,Bool.or_false];rw [Ia h,show om f n b b=false by unfold om;rw [vI h hb,vI h.flip hb];rfl,Bool.or_false];exact congrArg (fun g=>List.any (List.range b) g) (funext fun a=>Ia h)
theorem Ux {n:Nat} {l:List (Nat × Nat)} (hP:rq n l) (h4:bL (j7 n (ez n l)) n=none):Pc (ez n l) n where
 rfl':=fun a ha=>rr hP ha
 FA:=fun a b ha hb h6 h7=>by
  have:=dw h4 a ha;unfold j7 at this;rw [List.any_eq_false] at this;have:=this b (by simpa using hb);simp only [Bool.and_eq_true,decide_eq_true_eq,not_and] at this;rcases Nat.lt_trichotomy a b with h8 | h8 | h8
  ·exact (this (by omega) h6 h7).elim
  ·exact h8
  ·exact (this (by omega) h6 h7).elim
abbrev Nt (l:List Wd) (o:List (Wd × Wd)) (e:Nat):St:=
 ⟨[(0,⟨[],.sl 2 (bu l) none⟩),(1,⟨[],.sl 4 (mh o) none⟩),(4,⟨[],.loc 0 0⟩),(5,⟨[],.v (.int .i64 e)⟩)],[[.v (.int .i64 0),.v (.int .i64 0)]],[]⟩
abbrev Nu (l:List Wd) (o:List (Wd × Wd)) (e:Nat):St:=
 ⟨[(0,⟨[],.sl 2 (bu l) none⟩),(1,⟨[],.sl 4 (mh o) none⟩),(4,⟨[],.loc 0 0⟩),(6,⟨[],.v (.int .i64 e)⟩)],[[.v (.int .i64 0),.v (.int .i64 0)]],[]⟩
abbrev Nv (l:List Wd) (n:Nat) (f:Nat->Nat->Bool) (e:Nat):St:=
 ⟨[(0,⟨[],.sl 2 (bu l) none⟩),(4,⟨[],.loc 0 0⟩),(7,⟨[],.sl 1 (cz (dm n f)) none⟩),(9,⟨[],.sl 1 (cz (dm n fun a b=>f b a)) none⟩),(10,⟨[],.v (.int .i64 e)⟩)],[[.v (.int .i64 0),.v (.int .i64 0)]],[]⟩
abbrev Nx (l:List Wd) (n:Nat) (f:Nat->Nat->Bool) (e k:Nat):St:=
 ⟨[(0,⟨[],.sl 2 (bu l) none⟩),(4,⟨[],.loc 0 0⟩),(7,⟨[],.sl 1 (cz (dm n f)) none⟩),(9,⟨[],.sl 1 (cz (dm n fun a b=>f b a)) none⟩),(10,⟨[],.v (.int .i64 e)⟩),(11,⟨[],.v (.int .i64 k)⟩)],[[.v (.int .i64 0),.v (.int .i64 0)]],[]⟩
theorem Ay (l:List Wd) (o:List (Wd × Wd)) (hs:wdsWt l<=1099511627776) (EB:prsWt o<=1099511627776) :
  EvP Tryz.prog 231 [.sl 2 (bu l) none,.sl 4 (mh o) none] (latF l o).d:=by
 have mb:=bg l;have hsl2:=hZ o;have hF:latF l o=latF l o:=rfl
 conv at hF=>rhs;unfold latF
 refine ev_go (P:=Tryz.prog) tt tt_ok 5000 150 [.cell 4 54] Tryz.func231 rfl Tryz.ntmps231 rfl (nL rfl) (fun E9 w9 hn9 hm9=>?_);generalize latF l o=F at hF ⊢;refine br (fun h=>?_) (fun h=>?_)
 ·have h:l=[]:=by simpa [aw] using h
  rw [show fu l o=(15,0) by rw [fu,if_pos h],if_pos (by decide)] at hF;refine ⟨_,?_,rfl⟩;rw [hF];exact ax
 have h:¬ l=[]:=by simpa [aw] using h
 refine br (fun h1=>?_) (fun h1=>?_)
 ·have h1:32 < l.length:=by simp [aw] at h1;omega
  obtain ⟨x,hx⟩:∃ x,l[32]? = some x:=⟨_,gE h1⟩;rw [show fu l o=(8,x.a) by rw [fu,if_neg h,if_pos h1,hx];rfl,if_pos (by simp)] at hF;refine ⟨jw x,⟨by omega,aK hx⟩,?_⟩;refine ⟨_,?_,rfl⟩;rw [hF];exact ax
 have h1:¬ 32 < l.length:=by simp [aw] at h1;omega
 refine br (fun h2=>?_) (fun h2=>?_)
 ·have h2:256 < o.length:=by simp [fq] at h2;omega
  obtain ⟨x,hx⟩:∃ x,o[256]? = some x:=⟨_,gE h2⟩;rw [show fu l o=(8,x.1.a) by rw [fu,if_neg h,if_neg h1,if_pos h2,hx];rfl,if_pos (by simp)] at hF;refine ⟨KN x,⟨by omega,gx hx⟩,?_⟩;refine ⟨_,?_,rfl⟩;rw [hF];exact ax
 have h2:¬ 256 < o.length:=by simp [fq] at h2;omega
 rw [show fu l o=(0,0) by rw [fu,if_neg h,if_neg h1,if_neg h2],if_neg (by decide)] at hF;have h0:enumL l 0 l=enumL l 0 (l.drop 0):=rfl;refine aq (fun j st=>∃ e:Nat,st=Nt l o e/\e<=l.length/\enumL l 0 l=enumL l e (l.drop e)/\j=l.length - e) l.length (Nt l o 0) (weak_mk ⟨_,rfl⟩ wA rfl rfl rfl wB) ⟨0,rfl,by omega,rfl,by omega⟩ ?_;rintro j st ⟨e,rfl,he,aH,rfl⟩;refine br (fun hL=>?_) (fun hL=>?_)
 ·have ap:e < l.length:=by simpa [aw] using hL
  obtain ⟨w,hw⟩:∃ w,l[e]? = some w:=⟨_,gE ap⟩;have RW:=gX (mG hw);have aT:enumL l e (l.drop e)=if aD l e w≠0 then (aD l e w,w.a) else enumL l (e + 1) (l.drop (e + 1)):=by rw [drop_cons hw,enumL]
  obtain ⟨p,hp,Hc⟩:=Ns hw;have hf:=eW l w.s hs;rw [hp] at hf;refine ⟨jw w,⟨by omega,aK hw⟩,?_⟩;refine call_p Hz (j4 w.s (by omega)) ax rfl ?_;refine br (fun hN=>?_) (fun hN=>?_)
  ·have hN:aY w.s=false:=by simpa using hN
   have hf:aD l e w=9:=by simp [aD,hN]
   rw [aH,aT,hf,if_pos (show (9:Int)≠0 by decide),if_pos (by simp)] at hF;refine ⟨jw w,⟨by omega,aK hw⟩,?_⟩;refine ⟨_,?_,rfl⟩;rw [hF];exact ax
  ·have hN:aY w.s=true:=by simpa using hN
   refine ⟨jw w,⟨by omega,aK hw⟩,?_⟩;refine call_p uH (hf) ax rfl ?_;refine br (fun h2=>?_) (fun h2=>?_)
   ·have h2:p < e:=by have:=h2;simp [oz] at this;exact this
    have hf:aD l e w=10:=by simp [aD,hN,Hc.1 h2]
    rw [aH,aT,hf,if_pos (show (10:Int)≠0 by decide),if_pos (by simp)] at hF;refine ⟨jw w,⟨by omega,aK hw⟩,?_⟩;refine ⟨_,?_,rfl⟩;rw [hF];exact ax
   ·have h2:¬ p < e:=by have:=h2;simp [oz] at this;omega
    have hd:bz (l.take e) w.s=false:=by
     cases hd:bz (l.take e) w.s
     ·rfl
     ·exact absurd (Hc.2 hd) h2
    have hf:aD l e w=0:=by simp [aD,hN,hd]
    rw [hf,if_neg (by simp)] at aT;exact ⟨Nt l o (e + 1),(weak_mk ⟨_,rfl⟩ wA rfl rfl rfl (wNB ap)),l.length - (e + 1),by omega,e + 1,rfl,by omega,by rw [aH,aT],rfl⟩
 have aO:e=l.length:=by have:=hL;simp [aw] at this;omega
 rw [aH,aO,List.drop_length,show enumL l l.length []=(0,0) from rfl,if_neg (by decide)] at hF;refine aq (fun j st=>∃ e:Nat,st=Nu l o e/\e<=o.length/\numF (av l) o=numF (av l) (o.drop e)/\j=o.length - e) o.length (Nu l o 0) (weak_mk ⟨_,rfl⟩ wA rfl rfl rfl wB) ⟨0,rfl,by omega,rfl,by omega⟩ ?_;clear aH hL aO he e;rintro j st ⟨e,rfl,he,aH,rfl⟩;refine br (fun hL=>?_) (fun hL=>?_)
 ·have ap:e < o.length:=by simpa [fq] using hL
  obtain ⟨w,hw⟩:∃ w,o[e]? = some w:=⟨_,gE ap⟩;have aT:numF (av l) (o.drop e)=if cD (av l) w.1.s=none then (17,w.1.a) else if cD (av l) w.2.s=none then (17,w.2.a) else numF (av l) (o.drop (e + 1)):=by rw [drop_cons hw,numF]
  refine ⟨KN w,⟨by omega,gx hw⟩,?_⟩;refine call_p uH (eW l w.1.s hs) ax rfl ?_;refine br (fun ha=>?_) (fun ha=>?_)
  ·have ha:=fg.1 ha;rw [aH,aT,if_pos ha,if_pos (by simp)] at hF;refine ⟨KN w,⟨by omega,gx hw⟩,?_⟩;refine ⟨_,?_,rfl⟩;rw [hF];exact ax
  have ha:¬ cD (av l) w.1.s=none:=fun hn=>by have:=fg.2 hn;rw [ha] at this;cases this
  refine ⟨KN w,⟨by omega,gx hw⟩,?_⟩;refine call_p uH (eW l w.2.s hs) ax rfl ?_;refine br (fun hb=>?_) (fun hb=>?_)
  ·have hb:=fg.1 hb;rw [aH,aT,if_neg ha,if_pos hb,if_pos (by simp)] at hF;refine ⟨KN w,⟨by omega,gx hw⟩,?_⟩;refine ⟨_,?_,rfl⟩;rw [hF];exact ax
  have hb:¬ cD (av l) w.2.s=none:=fun hn=>by have:=fg.2 hn;rw [hb] at this;cases this
  rw [if_neg ha,if_neg hb] at aT;exact ⟨Nu l o (e + 1),(weak_mk ⟨_,rfl⟩ wA rfl rfl rfl (wNB ap)),o.length - (e + 1),by omega,e + 1,rfl,by omega,by rw [aH,aT],rfl⟩
 have aO:e=o.length:=by have:=hL;simp [fq] at this;omega
 rw [aO,List.drop_length,show numF (av l) []=(0,0) from rfl] at aH;rw [aH,if_neg (by decide)] at hF;have jS:(numF (av l) o).1=0:=by rw [aH]
 have hP:rq l.length (cT (av l) o):=by have:=nH jS;rwa [dg] at this
 have hpo:=Ux hP;have dW:=fZ l.length (ez l.length (cT (av l) o));refine call_p TA (C6 l o (by omega) hs EB jS) ax rfl ?_;generalize ez l.length (cT (av l) o)=f at hF hpo dW ⊢;refine call_p XX (C8 l.length f (by omega)) ax rfl ?_
 cases hlo:bL (j7 l.length f) l.length with
 | some a=>
  rw [hlo] at hF;have ha:=(dY hlo).1;obtain ⟨x,hx⟩:∃ x,l[a]? = some x:=⟨_,gE ha⟩;simp only [j8 hx] at hF;refine ⟨jw x,⟨by simp only [oz];omega,aK hx⟩,?_⟩;refine ⟨_,?_,rfl⟩;rw [hF];exact ax
 | none=>
 have hpo:=hpo hlo;rw [hlo] at hF;simp only at hF;refine call_p XY (JT l.length f (by omega)) ax rfl ?_;refine aq (fun j st=>∃ e:Nat,st=Nv l l.length f e/\e<=l.length/\(∀ b,b < e->mP f l.length b=false)/\j=l.length - e) l.length (Nv l l.length f 0) (weak_mk ⟨_,rfl⟩ wA rfl rfl rfl wB) ⟨0,rfl,by omega,fun _ h=>by omega,by omega⟩ ?_;clear aH hL aO he e;rintro j st ⟨e,rfl,he,eI,rfl⟩;refine br (fun hL=>?_) (fun hL=>?_)
 ·have ap:e < l.length:=by simpa [dW] using hL
  have BR:=Qq hpo ap;refine aq (fun j st=>∃ k:Nat,st=Nx l l.length f e k/\k<=e/\(∀ a,a < k->om f l.length a e=false)/\j=e - k) e (Nx l l.length f e 0) (weak_mk ⟨_,rfl⟩ wA rfl rfl rfl wB) ⟨0,rfl,by omega,fun _ h=>by omega,by omega⟩ ?_;rintro j st ⟨k,rfl,hk,C9,rfl⟩;refine br (fun jD=>?_) (fun jD=>?_)
  ·have gF:k < e:=by simpa using jD
   obtain ⟨x,hx⟩:∃ x,l[e]? = some x:=⟨_,gE ap⟩
   have Ny:om f l.length k e=true->F=(12,x.a):=fun KR=>by
    rw [cC ap (by rw [BR,List.any_eq_true];exact ⟨k,by simpa using gF,KR⟩) eI] at hF;simp only [j8 hx] at hF;exact hF
   refine call_p Hx (ka l.length f (by omega) k e (by omega) ap) ax rfl ?_;refine br (fun g1=>?_) (fun g1=>?_)
   ·have g1:¬ jG f l.length k e=none:=fun hn=>by rw [fg.2 hn] at g1;cases g1
    refine call_p Hx (ka l.length (fun a b=>f b a) (by omega) k e (by omega) ap) ax rfl ?_;refine br (fun g2=>?_) (fun g2=>?_)
    ·have g2:jG (fun a b=>f b a) l.length k e=none:=by
      rw [<- fg];simpa [pickB] using g2
     have hF:=Ny (by unfold om;rw [g2];simp);refine ⟨jw x,⟨by omega,aK hx⟩,?_⟩;refine ⟨_,?_,rfl⟩;rw [hF];exact ax
    ·have g2:¬ jG (fun a b=>f b a) l.length k e=none:=fun hn=>by
      have h3:=fg.2 hn;simp [pickB] at g2;have h3:=of_decide_eq_true h3;omega
     refine ⟨Nx l l.length f e (k + 1),(weak_mk ⟨_,rfl⟩ wA rfl rfl rfl (wNB gF)),e - (k + 1),by omega,k + 1,rfl,by omega,fun j hj=>?_,rfl⟩;rcases Nat.lt_succ_iff_lt_or_eq.1 hj with hj | rfl
     ·exact C9 j hj
     ·unfold om;rw [Option.isNone_eq_false_iff.2 (Option.isSome_iff_ne_none.2 g1),Option.isNone_eq_false_iff.2 (Option.isSome_iff_ne_none.2 g2)];rfl
   ·have g1:jG f l.length k e=none:=by
     rw [<- fg];simpa using g1
    have hF:=Ny (by unfold om;rw [g1];rfl);refine ⟨jw x,⟨by omega,aK hx⟩,?_⟩;refine ⟨_,?_,rfl⟩;rw [hF];exact ax
  ·have aO:k=e:=by have:=jD;simp at this;omega
   subst aO;refine ⟨Nv l l.length f (k + 1),(weak_mk ⟨_,rfl⟩ wA rfl rfl rfl (wNB ap)),l.length - (k + 1),by omega,k + 1,rfl,by omega,fun j hj=>?_,rfl⟩;rcases Nat.lt_succ_iff_lt_or_eq.1 hj with hj | rfl
   ·exact eI j hj
   ·rw [BR,List.any_eq_false];intro a ha;rw [C9 a (by simpa using ha)];decide
 ·have aO:e=l.length:=by have:=hL;simp [dW] at this;omega
  subst aO;rw [cW eI] at hF;simp only at hF;refine ⟨_,?_,rfl⟩;rw [hF];exact ax
abbrev Uy (n:Nat) (f:Nat->Nat->Bool) (l:List Nat) (c e:Nat):St:=
 ⟨[(0,⟨[],.sl 1 (cz (dm n f)) none⟩),(1,⟨[],.sl 1 (dInts l) none⟩),(2,⟨[],.v (.int .i64 c)⟩),(7,⟨[],.v (.int .i64 e)⟩)],[],[]⟩
theorem yX (n:Nat) (f:Nat->Nat->Bool) (hn:n<=64) (l:List Nat) (hl:∀ i∈l,i < n) (xi:l.length<=1099511627776) (c:Nat) (hc:c < n) :
  EvP Tryz.prog 236 [.sl 1 (cz (dm n f)) none,.sl 1 (dInts l) none,.v (.int .i64 c)] (.v (.bool (fY f l c))):=by
 have dW:=fZ n f;have KL:=bh l;refine ev_go (P:=Tryz.prog) tt tt_ok 5000 25 [.tmp 6] Tryz.func236 rfl Tryz.ntmps236 rfl (nL rfl) (fun E9 w9 hn9 hm9=>?_);refine aq (fun j st=>∃ e:Nat,st=Uy n f l c e/\e<=l.length/\fY f l c=fY f (l.drop e) c/\j=l.length - e) l.length (Uy n f l c 0) (weak_mk ⟨_,rfl⟩ wA rfl rfl rfl wB) ⟨0,rfl,by omega,rfl,by omega⟩ ?_;rintro j st ⟨e,rfl,he,aH,rfl⟩;rw [aH];refine br (fun hL=>?_) (fun hL=>?_)
 ·have ap:e < l.length:=by have:=hL;simp [KL] at this;exact this
  obtain ⟨i,hi⟩:∃ i,l[e]? = some i:=⟨_,gE ap⟩;have rf:=hl i (mG hi);have aT:fY f (l.drop e) c=(f i c && fY f (l.drop (e + 1)) c):=by unfold fY;rw [drop_cons hi,List.all_cons]
  refine ⟨_,⟨by omega,dO hi⟩,?_⟩;refine ⟨_,⟨by omega,dh rf⟩,?_⟩;refine ⟨_,⟨by omega,cw hc⟩,?_⟩;refine br (fun g=>?_) (fun g=>?_)
  ·have g:f i c=false:=by simpa using g
   rw [aT,g,Bool.false_and];exact (rfl:_=_)
  ·have g:f i c=true:=by simpa using g
   rw [g,Bool.true_and] at aT;exact ⟨Uy n f l c (e + 1),(weak_mk ⟨_,rfl⟩ wA rfl rfl rfl (wNB ap)),l.length - (e + 1),by omega,e + 1,rfl,by omega,aT,rfl⟩
 ·have aO:e=l.length:=by have:=hL;simp [KL] at this;omega
  rw [aO,List.drop_length];exact (rfl:_=_)
def oR (f:Nat->Nat->Bool) (l:List Nat) (c k:Nat):Bool:=fY f l c && (List.range k).all fun d=>!fY f l d || f c d
theorem JW (f:Nat->Nat->Bool) (l:List Nat) (c:Nat):oR f l c 0=fY f l c:=by simp [oR]
theorem JX (f:Nat->Nat->Bool) (l:List Nat) (c k:Nat):oR f l c (k + 1)=(oR f l c k && (!fY f l k || f c k)):=by
 simp only [oR,List.range_succ,List.all_append,List.all_cons,List.all_nil,Bool.and_true,Bool.and_assoc]
abbrev Uz (n:Nat) (f:Nat->Nat->Bool) (l:List Nat) (e:Nat):St:=
 ⟨[(0,⟨[],.sl 1 (cz (dm n f)) none⟩),(1,⟨[],.sl 1 (dInts l) none⟩),(5,⟨[],.v (.int .i64 e)⟩)],[],[]⟩
abbrev Db (n:Nat) (f:Nat->Nat->Bool) (l:List Nat) (e:Nat) (x:Bool) (k:Nat):St:=
 ⟨[(0,⟨[],.sl 1 (cz (dm n f)) none⟩),(1,⟨[],.sl 1 (dInts l) none⟩),(5,⟨[],.v (.int .i64 e)⟩),(6,⟨[],.v (.bool x)⟩),(7,⟨[],.v (.int .i64 k)⟩)],[],[]⟩
theorem F0 (n:Nat) (f:Nat->Nat->Bool) (hn:n<=64) (l:List Nat) (hl:∀ i∈l,i < n) (xi:l.length<=1099511627776) :
  EvP Tryz.prog 194 [.sl 1 (cz (dm n f)) none,.sl 1 (dInts l) none] (.v (.int .i64 (oz (ep f n l)))):=by
 have dW:=fZ n f;refine ev_go (P:=Tryz.prog) tt tt_ok 5000 40 [.tmp 4] Tryz.func194 rfl Tryz.ntmps194 rfl (nL rfl) (fun E9 w9 hn9 hm9=>?_);refine aq (fun j st=>∃ e:Nat,st=Uz n f l e/\e<=n/\(∀ c,c < e->rE f n l c=false)/\j=n - e) n (Uz n f l 0) (weak_mk ⟨_,rfl⟩ wA rfl rfl rfl wB) ⟨0,rfl,by omega,fun _ h=>by omega,by omega⟩ ?_;rintro j st ⟨e,rfl,he,eI,rfl⟩;refine br (fun hL=>?_) (fun hL=>?_)
 ·have ap:e < n:=by simpa [dW] using hL
  refine call_p RI (yX n f hn l hl xi e ap) ax rfl ?_;refine aq (fun j st=>∃ k:Nat,st=Db n f l e (oR f l e k) k/\k<=n/\j=n - k) n (Db n f l e (oR f l e 0) 0) (weak_mk ⟨_,rfl⟩ wA rfl rfl rfl (by repeat' (first | exact trivial | exact ah rfl | exact cr (JW f l e).symm | refine ⟨⟨_,rfl,?_⟩,?_⟩))) ⟨0,rfl,by omega,by omega⟩ ?_;rintro j st ⟨k,rfl,hk,rfl⟩;refine br (fun jD=>?_) (fun jD=>?_)
  ·have gF:k < n:=by simpa [dW] using jD
   have JV:=JX f l e k;refine call_p RI (yX n f hn l hl xi k gF) ax rfl ?_;refine br (fun g1=>?_) (fun g1=>?_)
   ·refine ⟨_,⟨by omega,dh ap⟩,?_⟩;refine ⟨_,⟨by omega,cw gF⟩,?_⟩;refine br (fun g2=>?_) (fun g2=>?_)
    ·have hx:false=oR f l e (k + 1):=by simp [pickB] at g1 g2;rw [JV];simp [g1,g2]
     exact ⟨Db n f l e (oR f l e (k + 1)) (k + 1),(weak_mk ⟨_,rfl⟩ wA rfl rfl rfl (by repeat' (first | exact trivial | exact ah rfl | exact ak (cx gF (by omega)) | exact cr hx | refine ⟨⟨_,rfl,?_⟩,?_⟩))),n - (k + 1),by omega,k + 1,rfl,by omega,rfl⟩
    ·have hx:oR f l e k=oR f l e (k + 1):=by simp [pickB] at g1 g2;rw [JV];simp [g1,g2]
     exact ⟨Db n f l e (oR f l e (k + 1)) (k + 1),(weak_mk ⟨_,rfl⟩ wA rfl rfl rfl (by repeat' (first | exact trivial | exact ah rfl | exact ak (cx gF (by omega)) | exact cr hx | refine ⟨⟨_,rfl,?_⟩,?_⟩))),n - (k + 1),by omega,k + 1,rfl,by omega,rfl⟩
   ·have hx:oR f l e k=oR f l e (k + 1):=by simp [pickB] at g1;rw [JV];simp [g1]
    exact ⟨Db n f l e (oR f l e (k + 1)) (k + 1),(weak_mk ⟨_,rfl⟩ wA rfl rfl rfl (by repeat' (first | exact trivial | exact ah rfl | exact ak (cx gF (by omega)) | exact cr hx | refine ⟨⟨_,rfl,?_⟩,?_⟩))),n - (k + 1),by omega,k + 1,rfl,by omega,rfl⟩
  ·have aO:k=n:=by have:=jD;simp [dW] at this;omega
   subst aO;refine br (fun g=>?_) (fun g=>?_)
   ·have g:rE f k l e=true:=g;rw [ep,cC ap g eI];exact (rfl:_=_)
   ·have g:rE f k l e=false:=g;refine ⟨Uz k f l (e + 1),(weak_mk ⟨_,rfl⟩ wA rfl rfl rfl (wNB ap)),k - (e + 1),by omega,e + 1,rfl,by omega,fun j hj=>?_,rfl⟩;rcases Nat.lt_succ_iff_lt_or_eq.1 hj with hj | rfl
    ·exact eI j hj
    ·exact g
 ·have aO:e=n:=by have:=hL;simp [dW] at this;omega
  subst aO;rw [ep,cW eI];exact (rfl:_=_)
abbrev F1 (lv:List Wd) (f:Nat->Nat->Bool) (l:List Wd) (q e:Nat):St:=
 ⟨[(0,⟨[],.sl 2 (bu lv) none⟩),(1,⟨[],.sl 1 (cz (dm lv.length f)) none⟩),(2,⟨[],.sl 2 (bu l) none⟩),(7,⟨[],.loc 0 0⟩),(8,⟨[],.sl 1 (dInts (lS (av lv) (l.take e))) (some 0)⟩),(9,⟨[],.v (.int .i64 e)⟩)],[[.v (.int .i64 0),.v (.int .i64 0)]],[⟨q,3,1,none⟩]⟩
theorem Qr {L:List ByteArray} {l:List Wd} {i:Nat} (h:i∈lS L l) (hL:0 < L.length):i < L.length:=by
 unfold lS at h;obtain ⟨w,_,rfl⟩:=List.mem_map.1 h
 cases hx:cD L w.s with
 | none=>simpa using hL
 | some p=>exact (cK hx).1
theorem F2 {L:List ByteArray} {l:List Wd} {e i:Nat} {w:Wd} (h:l[e]? = some w) (hi:cD L w.s=some i):dInts (lS L (l.take e)) ++ [[DV.v (.int .i64 (oz (some i)))]]=dInts (lS L (l.take (e + 1))):=by
 rw [rG h hi];simp [dInts,oz]
theorem JY (lv:List Wd) (f:Nat->Nat->Bool) (h0:0 < lv.length) (hn:lv.length<=32) (hs:wdsWt lv<=1099511627776) (l:List Wd) (hl:wdsWt l<=1099511627776) :
  EvP Tryz.prog 133 [.sl 2 (bu lv) none,.sl 1 (cz (dm lv.length f)) none,.sl 2 (bu l) none] (JG f (av lv) l):=by
 have mb:=bg l;have gI:=dg lv;unfold JG Ap;refine ev_go (P:=Tryz.prog) tt tt_ok 5000 40 [.tmp 6,.cell 7 54] Tryz.func133 rfl Tryz.ntmps133 rfl (nL rfl) (fun E9 w9 hn9 hm9=>?_);refine aq (fun j st=>∃ e:Nat,st=F1 lv f l e e/\e<=l.length/\labW (av lv) l=labW (av lv) (l.drop e)/\j=l.length - e) l.length (F1 lv f l 0 0) (fk ⟨0,3,1,none⟩ rfl ⟨_,rfl⟩ rfl wA rfl rfl zS) ⟨0,rfl,by omega,rfl,by omega⟩ ?_;rintro j st ⟨e,rfl,he,aH,rfl⟩;rw [aH];refine br (fun hL=>?_) (fun hL=>?_)
 ·have ap:e < l.length:=by simpa [aw] using hL
  obtain ⟨w,hw⟩:∃ w,l[e]? = some w:=⟨_,gE ap⟩;have aT:=rF (L:=av lv) hw;refine ⟨jw w,⟨by omega,aK hw⟩,?_⟩;refine call_p uH (eW lv w.s hs) ax rfl ?_;refine br (fun ha=>?_) (fun ha=>?_)
  ·have ha:=fg.1 ha;rw [aT,if_pos ha];refine aP mo (by decide +kernel) ?_;refine ⟨jw w,⟨by omega,aK hw⟩,?_⟩;exact ⟨_,ax,rfl⟩
  ·cases hi:cD (av lv) w.s with
   | none=>have:=fg.2 hi;rw [ha] at this;cases this
   | some i=>
   rw [if_neg (by rw [hi];simp)] at aT;refine ⟨by simp [bh,lS];omega,⟨by simp [bh,lS,maxLen];omega,by simp [bh,lS];omega⟩,?_⟩;exact ⟨F1 lv f l (e + 1) (e + 1),(weak_mk ⟨_,rfl⟩ wA rfl rfl rfl (by repeat' (first | exact trivial | exact ah rfl | exact ak (cx ap (by omega)) | exact cP (F2 hw hi) rfl | refine ⟨⟨_,rfl,?_⟩,?_⟩))),l.length - (e + 1),by omega,e + 1,rfl,by omega,aT,rfl⟩
 ·have aO:e=l.length:=by have:=hL;simp [aw] at this;omega
  rw [aO,List.drop_length,List.take_length];refine call_p Xw (F0 lv.length f (by omega) (lS (av lv) l) (fun i hi=>by have:=Qr hi (by omega);omega) (by simp [lS];omega)) ax rfl ?_;rw [<- gI];exact ⟨_,ax,rfl⟩
theorem UA {S:Sch} {e:Nat} {x:Wd × Ty} (h:S.types[e]? = some x):(tL S)[e]? = some x.1.s:=by simp [tL,av,tA,h]
abbrev Nz (S:Sch) (s:ByteArray) (e:Nat):St:=
 ⟨[(1,⟨[],.v (.string s)⟩),(2,⟨[],.loc 0 0⟩),(5,⟨[],.v (.int .i64 e)⟩)],[eK S],[]⟩
theorem kb (S:Sch) (s:ByteArray) (hl:S.types.length<=1099511627776) :
  EvP Tryz.prog 135 [.agg (eK S),.v (.string s)] (.v (.int .i64 (oz (cD (tL S) s)))):=by
 have hN:=dA S.types;have eJ:=jE S;have iR:=@UA S;obtain ⟨ae,order,types,⟨rh,rp⟩⟩:=S;simp only at hl hN eJ iR;refine ev_go (P:=Tryz.prog) tt tt_ok 5000 23 [.tmp 4] Tryz.func135 rfl Tryz.ntmps135 rfl (nL rfl) (fun E9 w9 hn9 hm9=>?_);refine aq (fun j st=>∃ e:Nat,st=Nz ⟨ae,order,types,.mk rh rp⟩ s e/\e<=types.length/\(∀ j,j < e->(tL ⟨ae,order,types,.mk rh rp⟩)[j]? ≠ some s)/\j=types.length - e) types.length (Nz ⟨ae,order,types,.mk rh rp⟩ s 0) (weak_mk ⟨_,rfl⟩ wA rfl rfl rfl wB) ⟨0,rfl,by omega,fun _ h=>by omega,by omega⟩ ?_;rintro j st ⟨e,rfl,he,eI,rfl⟩;refine br (fun hL=>?_) (fun hL=>?_)
 ·have ap:e < types.length:=by have:=hL;simp [hN] at this;exact this
  obtain ⟨x,hx⟩:∃ x,types[e]? = some x:=⟨_,gE ap⟩;have hg:=iR hx;obtain ⟨xw,⟨xh,xp⟩⟩:=x;refine ⟨_,⟨by omega,dNms_get hx⟩,?_⟩;refine br (fun hq=>?_) (fun hq=>?_)
  ·have hq:xw.s=s:=by simpa using hq
   rw [An (p:=e) (by rw [hg,hq]) (fun j hj=>Nat.le_of_not_lt fun hl=>eI j hl hj)];exact (rfl:_=_)
  ·have hq:¬ xw.s=s:=by simpa using hq
   refine ⟨Nz ⟨ae,order,types,.mk rh rp⟩ s (e + 1),(weak_mk ⟨_,rfl⟩ wA rfl rfl rfl (wNB ap)),types.length - (e + 1),by omega,e + 1,rfl,by omega,fun j hj=>?_,rfl⟩;rcases Nat.lt_succ_iff_lt_or_eq.1 hj with hj | rfl
   ·exact eI j hj
   ·rw [hg];simpa using hq
 ·have aO:e=types.length:=by have:=hL;simp [hN] at this;omega
  rw [H9 (fun j hj=>eI j (by omega))];exact (rfl:_=_)
abbrev NA (S:Sch) (l:List Wd) (e:Nat):St:=
 ⟨[(1,⟨[],.sl 2 (bu l) none⟩),(2,⟨[],.loc 0 0⟩),(4,⟨[],.loc 1 0⟩),(5,⟨[],.v (.int .i64 e)⟩)],[eK S,[.v (.int .i64 0),.v (.int .i64 0)]],[]⟩
theorem Dc (S:Sch) (hs:wdsWt S.ae<=1099511627776) (l:List Wd) (hl:wdsWt l<=1099511627776) :
  EvP Tryz.prog 278 [.agg (eK S),.sl 2 (bu l) none] (labW (av S.ae) l).d:=by
 have mb:=bg l;obtain ⟨ae,order,types,⟨rh,rp⟩⟩:=S;simp only at hs;refine ev_go (P:=Tryz.prog) tt tt_ok 5000 28 [.cell 4 54] Tryz.func278 rfl Tryz.ntmps278 rfl (nL rfl) (fun E9 w9 hn9 hm9=>?_);refine aq (fun j st=>∃ e:Nat,st=NA ⟨ae,order,types,.mk rh rp⟩ l e/\e<=l.length/\labW (av ae) l=labW (av ae) (l.drop e)/\j=l.length - e) l.length (NA ⟨ae,order,types,.mk rh rp⟩ l 0) (weak_mk ⟨_,rfl⟩ wA rfl rfl rfl wB) ⟨0,rfl,by omega,rfl,by omega⟩ ?_;rintro j st ⟨e,rfl,he,aH,rfl⟩;rw [aH];refine br (fun hL=>?_) (fun hL=>?_)
 ·have ap:e < l.length:=by simpa [aw] using hL
  obtain ⟨w,hw⟩:∃ w,l[e]? = some w:=⟨_,gE ap⟩;have aT:=rF (L:=av ae) hw;refine aE (fun _=>false) mo (by decide +kernel) ?_;refine ⟨jw w,⟨by omega,aK hw⟩,?_⟩;refine ay uH (eW ae w.s hs) ax rfl ?_;refine br (fun ha=>?_) (fun ha=>?_)
  ·have ha:=fg.1 ha;rw [aT,if_pos ha];refine ⟨jw w,⟨by omega,aK hw⟩,?_⟩;exact ⟨_,ax,rfl⟩
  ·rw [if_neg (fun hn=>by have:=fg.2 hn;rw [ha] at this;cases this)] at aT;exact ⟨NA ⟨ae,order,types,.mk rh rp⟩ l (e + 1),(weak_mk ⟨_,rfl⟩ wA rfl rfl rfl (wNB ap)),l.length - (e + 1),by omega,e + 1,rfl,by omega,aT,rfl⟩
 ·have aO:e=l.length:=by have:=hL;simp [aw] at this;omega
  rw [aO,List.drop_length];exact ⟨_,ax,rfl⟩
def gK (l:List Ty):List (List DV):=l.map dK
theorem dB (l:List Ty):(gK l).length=l.length:=by simp [gK]
theorem jH {l:List Ty} {j:Nat} {t:Ty} (h:l[j]? = some t):(gK l)[j]? = some (dK t):=by simp [gK,h]
def eH (S:Sch):List Ty:=S.types.map fun x=>x.2
def fy (S:Sch):List Ty:=eH S ++ [S.root]
abbrev NB (S:Sch) (q e:Nat):St:=
 ⟨[(1,⟨[],.loc 0 0⟩),(3,⟨[],.sl 9 (gK ((eH S).take e)) (some 0)⟩),(4,⟨[],.v (.int .i64 e)⟩)],[eK S],[⟨q,40,9,none⟩]⟩
theorem Dd (S:Sch) (hl:S.types.length<=1099511627776) :
  EvP Tryz.prog 74 [.agg (eK S)] (.sl 9 (gK (fy S)) none):=by
 have hN:=dA S.types;obtain ⟨ae,order,types,⟨rh,rp⟩⟩:=S;simp only at hl hN;refine ev_go (P:=Tryz.prog) tt tt_ok 5000 26 [.tmp 2] Tryz.func74 rfl Tryz.ntmps74 rfl (nL rfl) (fun E9 w9 hn9 hm9=>?_);refine aq (fun j st=>∃ e:Nat,st=NB ⟨ae,order,types,.mk rh rp⟩ e e/\e<=types.length/\j=types.length - e) types.length (NB ⟨ae,order,types,.mk rh rp⟩ 0 0) (dj 1 ⟨0,40,9,none⟩ rfl rfl rfl (by repeat' (first | exact rfl | exact ah rfl | exact aX (Nat.le_refl _) rfl | exact aX (Nat.le_refl _) rfl | refine ⟨_,_,rfl,?_,?_⟩)) rfl rfl zS) ⟨0,rfl,by omega,by omega⟩ ?_;rintro j st ⟨e,rfl,he,rfl⟩;have eJ:(gK ((eH ⟨ae,order,types,.mk rh rp⟩).take e)).length=e:=by simp [gK,eH];omega
 refine br (fun hL=>?_) (fun hL=>?_)
 ·have ap:e < types.length:=by have:=hL;simp [hN] at this;exact this
  obtain ⟨x,hx⟩:∃ x,types[e]? = some x:=⟨_,gE ap⟩
  have eE:gK ((eH ⟨ae,order,types,.mk rh rp⟩).take e) ++ [dK x.2]=gK ((eH ⟨ae,order,types,.mk rh rp⟩).take (e + 1)):=by
   rw [List.take_add_one];simp [eH,hx,gK]
  obtain ⟨xw,⟨xh,xp⟩⟩:=x;refine ⟨_,⟨by omega,dNms_get hx⟩,?_⟩;refine ⟨eJ,⟨by rw [eJ];simp [maxLen];omega,by rw [eJ];simp;omega⟩,?_⟩;exact ⟨NB ⟨ae,order,types,.mk rh rp⟩ (e + 1) (e + 1),(az 1 rfl (yc ap eE) rfl rfl rfl (tg ap eE)),types.length - (e + 1),by omega,e + 1,rfl,by omega,rfl⟩
 ·have aO:e=types.length:=by have:=hL;simp [hN] at this;omega
  have Ps:gK ((eH ⟨ae,order,types,.mk rh rp⟩).take e) ++ [dK (.mk rh rp)]=gK (fy ⟨ae,order,types,.mk rh rp⟩):=by
   rw [List.take_of_length_le (by simp [eH];omega)];simp [fy,gK]
  refine ⟨eJ,⟨by rw [eJ];simp [maxLen];omega,by rw [eJ];simp;omega⟩,?_⟩;rw [<- Ps];exact ⟨_,ax,rfl⟩
mutual
def flatT:Ty->List Ty
 | .mk h ps=>if h.ag=9 then [] else .mk h ps :: flatP ps
def flatP:Pts->List Ty
 | .nil=>[]
 | .cons p t r=>(if p.bare then [] else flatT t) ++ flatP r
end
mutual
theorem jf:∀ t:Ty,(flatT t).length=t.nn
 | .mk h ps=>by
  have:=rN ps;simp only [flatT,Ty.nn];split
  ·rfl
  ·simp only [List.length_cons];omega
theorem rN:∀ ps:Pts,(flatP ps).length=ps.nn
 | .nil=>rfl
 | .cons p t r=>by
  have:=jf t;have:=rN r;simp only [flatP,Pts.nn,List.length_append];split
  ·simp only [List.length_nil];omega
  ·omega
end
theorem Qs {P:Program} {f:FuncId} {args:List DV} {e:Nat} {es:List (List DV)} (h:Ev P f args [] [] (fun r _ _=>r = .sl e es none∨(es=[]/\r = .v (.slice none 0 0)))):EvP P f args (.sl e es none):=by
 intro E w vs hE ht hv;refine (h E w vs hE ht hv).mono ?_;rintro e' w' ⟨v,rfl,hM,hs,d,os,E',h1,h2,h3,h4,h5,h6⟩;rcases h6 with rfl | ⟨rfl,rfl⟩
 ·exact ⟨v,rfl,hM,hs,_,os,E',h1,h2,h3,h4,h5,rfl⟩
 ·refine ⟨v,rfl,hM,hs,.sl e [] none,os,E',h1,h2,h3,h4,?_,rfl⟩;unfold Rv at h5 ⊢;exact ⟨_,0,0,h5.1,⟨rfl,Nat.le_refl _⟩,fun hn=>(hn rfl).elim,fun k hk=>by cases hk⟩
abbrev Qt (t:Ty) (L:List Ty) (q e:Nat):St:=
 ⟨[(1,⟨[],.loc 0 0⟩),(3,⟨[],.sl 9 (gK L) (some 0)⟩),(4,⟨[],.v (.int .i64 e)⟩)],[dK t],[⟨q,40,9,none⟩]⟩
theorem nM:∀ (k:Nat) (t:Ty),t.wt<=k->t.wt<=1099511627776 ->
  EvP Tryz.prog 75 [.agg (dK t)] (.sl 9 (gK (flatT t)) none)
 | 0,t,hn,_=>by have:=t.de;omega
 | k + 1,.mk h ps,hn,b9=>by
  simp only [Ty.wt,Hd.wt] at hn b9;have iE:=ps.fb;have hc:=ps.ej;have mw:=ps.fL;have Le:=rN ps;refine Qs ?_;refine zQ (s:=false) (bt:=[]) (mu:=[9]) (hbt:=fun p hp=>by cases hp) (fr:=false) (P:=Tryz.prog) tt tt_ok 5000 34 [.tmp 2] Tryz.func75 rfl Tryz.ntmps75 rfl (nL rfl) (fun E9 w9 hn9 hm9=>?_);refine br (fun h9=>?_) (fun h9=>?_)
  ·have h9:h.ag=9:=by simpa using h9
   have:flatT (.mk h ps)=[]:=by simp [flatT,h9]
   exact .inr ⟨by rw [this];rfl,rfl⟩
  have h9:¬ h.ag=9:=by simpa using h9
  have KV:flatT (.mk h ps) = .mk h ps :: flatP ps:=by simp [flatT,h9]
  refine Uo rfl rfl rfl rfl rfl rfl rfl rfl ?_
  refine aq (fun j st=>∃ (e q:Nat) (L:List Ty),st=Qt (.mk h ps) L q e/\q=L.length/\e<=ps.len/\flatT (.mk h ps)=L ++ flatP (ps.drop e)/\j=ps.len - e) ps.len
   (Qt (.mk h ps) [.mk h ps] 1 0) (az 1 rfl (by repeat' (first | exact rfl | exact ah rfl | exact ah rfl | refine ⟨_,_,rfl,?_,?_⟩)) rfl rfl rfl (by repeat' (first | exact trivial | exact ah rfl | exact ah rfl | refine ⟨⟨_,rfl,?_⟩,?_⟩))) ⟨0,1,_,rfl,rfl,by omega,KV,by omega⟩ ?_
  rintro j st ⟨e,q,L,rfl,hq,he,aN,rfl⟩
  have Zk:L.length<=1 + ps.nn:=by
   have:=congrArg List.length aN;rw [KV] at this;simp at this;omega
  refine br (fun hL=>?_) (fun hL=>?_)
  ·have ap:e < ps.len:=by simpa [aF] using hL
   obtain ⟨p,t,hx⟩:=Pts.ei ap;have Cm:=Pts.fI (mG hx);rw [Pts.drop_cons hx] at aN;simp only [flatP] at aN;obtain ⟨u,us⟩:=t;refine ⟨_,⟨by omega,bH hx⟩,?_⟩;refine br (fun hB=>?_) (fun hB=>?_)
   ·have hB:p.bare=false:=by simpa using hB
    have aN:flatT (.mk h ps)=(L ++ flatT (.mk u us)) ++ flatP (ps.drop (e + 1)):=by rw [aN,hB,List.append_assoc];all_goals rfl
    have xi:L.length + (flatT (.mk u us)).length<=1 + ps.nn:=by
     have:=congrArg List.length aN;rw [KV] at this;simp at this;omega
    have eE:gK L ++ gK (flatT (.mk u us))=gK (L ++ flatT (.mk u us)):=by simp [gK]
    refine ⟨_,⟨by omega,bH hx⟩,?_⟩;refine call_p PK (nM k (.mk u us) (by omega) (by omega)) ax rfl ?_;refine ⟨by rw [dB,hq],⟨by simp only [dB,maxLen];omega,by simp only [dB];omega⟩,?_⟩;exact ⟨Qt (.mk h ps) (L ++ flatT (.mk u us)) (q + (gK (flatT (.mk u us))).length) (e + 1),(az 1 rfl (yc ap eE) rfl rfl rfl (tg ap eE)),ps.len - (e + 1),by omega,e + 1,_,_,rfl,by rw [dB,List.length_append,hq],by omega,aN,rfl⟩
   ·have hB:p.bare=true:=by simpa using hB
    rw [hB] at aN;exact ⟨Qt (.mk h ps) L q (e + 1),(az 1 rfl (Em ap) rfl rfl rfl (wNB ap)),ps.len - (e + 1),by omega,e + 1,q,L,rfl,hq,by omega,aN,rfl⟩
  ·have aO:e=ps.len:=by simp [aF] at hL;omega
   rw [aO,Pts.cQ] at aN;simp only [flatP,List.append_nil] at aN;rw [aN];exact ⟨_,ax,.inl rfl⟩
theorem vJ (S:Sch) (hl:S.types.length<=1099511627776) (hr:∀ x∈S.types,tB S x.2=true):∀ (k i:Nat),i < S.types.length->k<=99 ->
  EvP Tryz.prog 134 [.agg (eK S),.v (.int .i64 i),.v (.int .i64 k)] (.v (.int .i64 (oz (endI S (k + 1) i))))
 | k,i,hi,hk=>by
  have hN:=dA S.types;have Ao:=fun s=>kb S s hl;have ih:∀ k' j,k=k' + 1->j < S.types.length->EvP Tryz.prog 134 [.agg (eK S),.v (.int .i64 j),.v (.int .i64 k')] (.v (.int .i64 (oz (endI S (k' + 1) j)))):=fun k' j he hj=>vJ S hl hr k' j hj (by omega);obtain ⟨x,hx⟩:∃ x,S.types[i]? = some x:=⟨_,gE hi⟩;have tP:=hr x (mG hx);have eJ:=jE S;obtain ⟨xw,⟨xh,xp⟩⟩:=x;have hE:endI S (k + 1) i=if xh.ag=9 then endI S k ((cD (tL S) xh.name.s).getD 0) else some i:=by rw [endI,hx];all_goals rfl
  obtain ⟨ae,order,types,⟨rh,rp⟩⟩:=S;simp only at hl hN hi hx tP eJ;refine ev_go (P:=Tryz.prog) tt tt_ok 5000 32 [.tmp 6] Tryz.func134 rfl Tryz.ntmps134 rfl (nL rfl) (fun E9 w9 hn9 hm9=>?_);refine ⟨_,⟨by omega,dNms_get hx⟩,?_⟩;refine br (fun h9=>?_) (fun h9=>?_)
  ·have h9:¬ xh.ag=9:=by simpa using h9
   rw [if_neg h9] at hE;rw [hE];exact (rfl:_=_)
  have h9:xh.ag=9:=by simpa using h9
  rw [if_pos h9] at hE;rw [hE];refine br (fun h1=>?_) (fun h1=>?_)
  ·have h1:k=0:=by have:=h1;simp at this;omega
   subst h1;exact (rfl:_=_)
  have h1:1<=k:=by have:=h1;simp at this;omega
  obtain ⟨k',rfl⟩:∃ k',k=k' + 1:=⟨k - 1,by omega⟩;have Bs:=of_decide_eq_true tP h9;obtain ⟨j,hj⟩:∃ j,cD (tL ⟨ae,order,types,.mk rh rp⟩) xh.name.s=some j:=Option.ne_none_iff_exists'.1 Bs;have lh:=(cK hj).1;rw [eJ] at lh;have hf:=Ao xh.name.s;rw [hj] at hf ⊢;have gm:IntKind.i64.wrap (((k' + 1:Nat):Int) - 1)=(k':Int):=by rw [wrap64 (by omega) (by omega)];omega
  refine aE (fun _=>false) mo (by decide +kernel) ?_;refine ⟨_,⟨by omega,dNms_get hx⟩,?_⟩;refine ay Ht (hf) ax rfl ?_;refine ay LD (ih k' j rfl lh) (by repeat' (first | exact rfl | exact trivial | exact Or.inr (Or.inl ⟨_,rfl⟩) | exact Or.inr ⟨_,rfl⟩ | exact Or.inl ⟨rfl,rfl⟩ | exact Or.inl rfl | refine Or.inr ⟨_,_,rfl,Nat.zero_le _,rfl,?_⟩ | refine ⟨_,_,rfl,?_,?_⟩ | refine ⟨_,rfl,?_⟩ | exact congrArg (fun z=>DV.v (.int .i64 z)) gm| refine Or.inr (Or.inr (Or.inr ⟨_,_,rfl,?_⟩)) | exact Or.inl rfl | refine Or.inr ?_)) rfl ?_;exact (rfl:_=_)
theorem rO {S:Sch}:∀ {k i j:Nat},endI S k i=some j->endI S (k + 1) i=some j
 | 0,i,j,h=>by cases h
 | k + 1,i,j,h=>by
  rw [endI] at h ⊢
  cases hx:S.types[i]? with
  | none=>rw [hx] at h;cases h
  | some x=>
   rw [hx] at h;simp only at h ⊢;split at h
   ·rename_i h9;rw [if_pos h9];exact rO h
   ·rename_i h9;rw [if_neg h9];exact h
def xK (S:Sch) (k:Nat):List Bool:=(List.range S.types.length).map fun i=>(endI S k i).isSome
theorem qh (S:Sch) (k:Nat):(xK S k).length=S.types.length:=by simp [xK]
theorem vK {S:Sch} {k i:Nat} (hi:i < S.types.length):(xK S k).getD i false=(endI S k i).isSome:=by
 simp [xK,List.getD_eq_getElem?_getD,List.getElem?_range hi]
theorem Qu (S:Sch) (k:Nat):PX (xK S k) (xK S (k + 1)):=by
 intro i h;by_cases hi:i < S.types.length
 ·rw [vK hi] at h ⊢;obtain ⟨j,hj⟩:=Option.isSome_iff_exists.1 h;rw [rO hj];rfl
 ·rw [List.getD_eq_getElem?_getD,List.getElem?_eq_none (by rw [qh];omega)] at h;cases h
theorem NC {S:Sch} {k:Nat} (h:xK S k=xK S (k + 1)):∀ i,endI S (k + 2) i=endI S (k + 1) i:=by
 intro i
 have key:∀ {j:Nat},j < S.types.length->(endI S k j).isSome=(endI S (k + 1) j).isSome:=fun {j} hj=>by
  rw [<- vK hj,<- vK hj,h]
 have same:∀ j,endI S (k + 1) j=endI S k j:=fun j=>by
  cases h1:endI S k j with
  | some m=>exact rO h1
  | none=>
   cases h2:endI S (k + 1) j with
   | none=>rfl
   | some m=>
    have hj:j < S.types.length:=by
     rw [endI] at h2
     cases hx:S.types[j]? with
     | none=>rw [hx] at h2;cases h2
     | some x=>exact (gS hx).1
    have:=key hj;rw [h1,h2] at this;cases this
 rw [endI,endI]
 cases hx:S.types[i]? with
 | none=>rfl
 | some x=>
  simp only;split
  ·exact same _
  ·rfl
theorem yY (S:Sch):∀ k,(∀ i,endI S (k + 1) i=endI S k i)∨k<=vc (xK S k)
 | 0=>.inr (Nat.zero_le _)
 | k + 1=>by
  rcases yY S k with h | h
  ·refine .inl fun i=>?_;rw [endI,endI]
   cases hx:S.types[i]? with
   | none=>rfl
   | some x=>
    simp only;split
    ·exact h _
    ·rfl
  ·rcases (vd (by rw [qh,qh]) (Qu S k)).1 with h2 | h2
   ·exact .inl (NC h2)
   ·exact .inr (by omega)
theorem De {S:Sch}:∀ {k:Nat},S.types.length + 1<=k->∀ i,endI S k i=endI S (S.types.length + 1) i:=by
 have aT:∀ i,endI S (S.types.length + 2) i=endI S (S.types.length + 1) i:=fun i=>by
  rcases yY S (S.types.length + 1) with h | h
  ·exact h i
  ·have:=HT (xK S (S.types.length + 1));rw [qh] at this;omega
 have key:∀ d i,endI S (S.types.length + 1 + (d + 1)) i=endI S (S.types.length + 1 + d) i:=by
  intro d
  induction d with
  | zero=>exact aT
  | succ d ih=>
   intro i;show endI S (S.types.length + 1 + (d + 1) + 1) i=endI S (S.types.length + 1 + d + 1) i;rw [endI,endI]
   cases hx:S.types[i]? with
   | none=>rfl
   | some x=>
    simp only;split
    ·exact ih _
    ·rfl
 intro k hk i;obtain ⟨d,rfl⟩:∃ d,k=S.types.length + 1 + d:=⟨k - (S.types.length + 1),by omega⟩;clear hk
 induction d with
 | zero=>rfl
 | succ d ih=>rw [key,ih]
theorem vM (S:Sch) (hl:S.types.length<=64) (hr:∀ x∈S.types,tB S x.2=true) (i:Nat) (hi:i < S.types.length) :
  EvP Tryz.prog 134 [.agg (eK S),.v (.int .i64 i),.v (.int .i64 (99:Nat))] (.v (.int .i64 (oz (endI S (S.types.length + 1) i)))):=by
 have:=vJ S (by omega) hr 99 i hi (Nat.le_refl _)
 rwa [De (by omega)] at this
abbrev NE (S:Sch) (k n e:Nat):St:=
 ⟨[(2,⟨[],.loc 0 0⟩),(5,⟨[],.v (.int .i64 k)⟩),(6,⟨[],.v (.int .i64 n)⟩),(7,⟨[],.v (.int .i64 e)⟩)],[eK S],[]⟩
theorem vN (S:Sch) (hl:S.types.length<=64) (hs:nmsWt S.types<=1099511627776) (hr:∀ x∈S.types,tB S x.2=true) (s:ByteArray) (i k:Nat) (hi:cD (tL S) s=some i) (hk:endI S (S.types.length + 1) i=some k) :
  EvP Tryz.prog 77 [.agg (eK S),.v (.string s)] (.v (.int .i64 (firstA S k))):=by
 have hN:=dA S.types;have KL:=(cK hi).1;rw [jE] at KL;have iL:=(qb hk).1;have hf:=kb S s (by omega);have he:=vM S hl hr i KL;rw [hi] at hf;rw [hk] at he;have hfa:=@mS S;have H0:=yO S;obtain ⟨ae,order,types,⟨rh,rp⟩⟩:=S;simp only at hl hs hN KL iL hfa H0;refine ev_go (P:=Tryz.prog) tt tt_ok 5000 29 [.tmp 4] Tryz.func77 rfl Tryz.ntmps77 rfl (nL rfl) (fun E9 w9 hn9 hm9=>?_);refine aE (fun _=>false) mo (by decide +kernel) ?_;refine ay Ht (hf) ax rfl ?_;refine ay LD (he) ax rfl ?_;refine aq (fun j st=>∃ e:Nat,st=NE ⟨ae,order,types,.mk rh rp⟩ k (firstA ⟨ae,order,types,.mk rh rp⟩ e) e/\e<=k/\j=k - e) k (NE ⟨ae,order,types,.mk rh rp⟩ k (firstA ⟨ae,order,types,.mk rh rp⟩ 0) 0) (weak_mk ⟨_,rfl⟩ wA rfl rfl rfl wB) ⟨0,rfl,by omega,by omega⟩ ?_;rintro j st ⟨e,rfl,hek,rfl⟩;refine br (fun hL=>?_) (fun hL=>?_)
 ·have ap:e < k:=by simpa using hL
  obtain ⟨x,hx⟩:∃ x,types[e]? = some x:=⟨_,gE (by omega)⟩;have RW:=fX (mG hx);have h1:=hfa hx;have h2:=H0 e;have h3:=H0 (e + 1);have h4:=jf x.2;obtain ⟨xw,⟨xh,xp⟩⟩:=x;simp only at RW h1 h4;refine ⟨_,⟨by omega,dNms_get hx⟩,?_⟩;refine call_p PK (nM _ (.mk xh xp) (Nat.le_refl _) (by omega)) ax rfl ?_
  have sA:IntKind.i64.wrap ((firstA ⟨ae,order,types,.mk rh rp⟩ e:Int) + (gK (flatT (.mk xh xp))).length)=(firstA ⟨ae,order,types,.mk rh rp⟩ (e + 1):Int):=by
   rw [dB,wrap64 (by omega) (by omega)];omega
  exact ⟨NE ⟨ae,order,types,.mk rh rp⟩ k (firstA ⟨ae,order,types,.mk rh rp⟩ (e + 1)) (e + 1),(weak_mk ⟨_,rfl⟩ wA rfl rfl rfl (by repeat' (first | exact trivial | exact ah rfl | exact ak sA | exact ak (cx ap (by omega)) | refine ⟨⟨_,rfl,?_⟩,?_⟩))),k - (e + 1),by omega,e + 1,rfl,by omega,rfl⟩
 ·have aO:e=k:=by have:=hL;simp at this;omega
  subst aO;exact (rfl:_=_)
theorem Ib {S:Sch} {e:Nat} {x:Wd × Ty} (h:S.types[e]? = some x):(tA S)[e]? = some x.1:=by simp [tA,h]
abbrev NF (S:Sch) (e:Nat):St:=
 ⟨[(1,⟨[],.loc 0 0⟩),(2,⟨[],.loc 1 0⟩),(3,⟨[],.v (.int .i64 e)⟩)],[eK S,[.v (.int .i64 0),.v (.int .i64 0)]],[]⟩
theorem Az (S:Sch) (hs:nmsWt S.types<=1099511627776) :
  EvP Tryz.prog 232 [.agg (eK S)] (dQ S).d:=by
 have hN:=dA S.types;have gI:=jc S.types;have eJ:=H5 S;have hF:=dQ.eq_1 S;have iR:=@Ib S;have Ao:=fun s=>kb S s (by omega);have YR:tL S=av (tA S):=rfl;obtain ⟨ae,order,types,⟨rh,rp⟩⟩:=S;simp only at hs hN gI eJ iR hF;generalize hQ:tA ⟨ae,order,types,.mk rh rp⟩=Q at eJ hF iR YR;refine ev_go (P:=Tryz.prog) tt tt_ok 5000 47 [.cell 2 54] Tryz.func232 rfl Tryz.ntmps232 rfl (nL rfl) (fun E9 w9 hn9 hm9=>?_);generalize dQ ⟨ae,order,types,.mk rh rp⟩=F at hF ⊢;refine br (fun h=>?_) (fun h=>?_)
 ·have h:64 < types.length:=by simp [hN] at h;omega
  obtain ⟨x,hx⟩:∃ x,types[64]? = some x:=⟨_,gE h⟩;have Ug:=iR hx;rw [if_pos h,j8 Ug] at hF;obtain ⟨xw,⟨xh,xp⟩⟩:=x;refine ⟨_,⟨by omega,dNms_get hx⟩,?_⟩;refine ⟨_,?_,rfl⟩;rw [hF];exact ax
 have h:¬ 64 < types.length:=by simp [hN] at h;omega
 rw [if_neg h] at hF;refine aq (fun j st=>∃ e:Nat,st=NF ⟨ae,order,types,.mk rh rp⟩ e/\e<=types.length/\enumL Q 0 Q=enumL Q e (Q.drop e)/\j=types.length - e) types.length (NF ⟨ae,order,types,.mk rh rp⟩ 0) (weak_mk ⟨_,rfl⟩ wA rfl rfl rfl wB) ⟨0,rfl,by omega,rfl,by omega⟩ ?_;rintro j st ⟨e,rfl,he,aH,rfl⟩;rw [aH] at hF;refine br (fun hL=>?_) (fun hL=>?_)
 ·have ap:e < types.length:=by have:=hL;simp [hN] at this;exact this
  obtain ⟨x,hx⟩:∃ x,types[e]? = some x:=⟨_,gE ap⟩;have RW:=fX (mG hx);have hq:=iR hx;have aT:=oL hq;obtain ⟨p,hp,Hc⟩:=Ns hq;obtain ⟨xw,⟨xh,xp⟩⟩:=x;simp only [Wd.wt] at RW hq aT hp Hc;have hf:=Ao xw.s;rw [YR,hp] at hf;have hlab:=lH [xw] (by simp only [wdsWt,Wd.wt];omega);have Bu:bB [xw]=if aY xw.s then (0,0) else (9,xw.a):=by simp [bB,badWd]
  refine ⟨_,⟨by omega,dNms_get hx⟩,?_⟩;refine call_p LQ (hlab) ax rfl ?_;refine br (fun hN=>?_) (fun hN=>?_)
  ·have hN:(bB [xw]).1≠0:=by simpa using hN
   cases bG:aY xw.s with
   | true=>rw [Bu,bG] at hN;exact absurd rfl hN
   | false=>
   rw [bG] at Bu;have Bu:bB [xw]=(9,xw.a):=Bu;have hf9:aD Q e xw=9:=by simp [aD,bG]
   rw [aT,hf9,if_pos (by decide)] at hF;refine ⟨_,?_,rfl⟩;rw [hF,Bu];exact ax
  ·have hN:(bB [xw]).1=0:=by simpa using hN
   cases bG:aY xw.s with
   | false=>rw [Bu,bG] at hN;exact absurd hN (by simp)
   | true=>
   refine call_p Ht (hf) ax rfl ?_;refine br (fun h2=>?_) (fun h2=>?_)
   ·have h2:p < e:=by have:=h2;simp [oz] at this;exact this
    have hf10:aD Q e xw=10:=by simp [aD,bG,Hc.1 h2]
    rw [aT,hf10,if_pos (by decide)] at hF;refine ⟨_,?_,rfl⟩;rw [hF];exact ax
   ·have h2:¬ p < e:=by have:=h2;simp [oz] at this;omega
    have hd:bz (Q.take e) xw.s=false:=by
     cases hd:bz (Q.take e) xw.s
     ·rfl
     ·exact absurd (Hc.2 hd) h2
    have hf0:aD Q e xw=0:=by simp [aD,bG,hd]
    rw [hf0,if_neg (by simp)] at aT;exact ⟨NF ⟨ae,order,types,.mk rh rp⟩ (e + 1),(weak_mk ⟨_,rfl⟩ wA rfl rfl rfl (wNB ap)),types.length - (e + 1),by omega,e + 1,rfl,by omega,by rw [aH,aT],rfl⟩
 ·have aO:e=types.length:=by have:=hL;simp [hN] at this;omega
  rw [aO,<- eJ,List.drop_length] at hF;refine ⟨_,?_,rfl⟩;rw [hF];exact ax
abbrev yZ (S:Sch) (t:Ty) (e:Nat):St:=
 ⟨[(2,⟨[],.loc 0 0⟩),(3,⟨[],.loc 1 0⟩),(4,⟨[],.loc 2 0⟩),(5,⟨[],.v (.int .i64 e)⟩)],[eK S,dK t,[.v (.int .i64 0),.v (.int .i64 0)]],[]⟩
theorem qi (S:Sch) (hl:S.types.length<=1099511627776) (hs:wdsWt S.ae<=1099511627776):∀ (k:Nat) (t:Ty),t.wt<=k->t.wt<=1099511627776 ->
  EvP Tryz.prog 234 [.agg (eK S),.agg (dK t)] (j9 S t).d
 | 0,t,hn,_=>by have:=t.de;omega
 | k + 1,.mk h ps,hn,b9=>by
  have ih:=qi S hl hs k;simp only [Ty.wt,Hd.wt] at hn b9;have iE:=ps.fb;have hf:=kb S h.name.s hl;have hwd:=fun l hl=>Dc S hs l hl;have hS:j9 S (.mk h ps)=if h.ag=9/\cD (tL S) h.name.s=none then (15,h.name.a) else knP ⟨av S.ae,[],[],[],fun _ _=>false⟩ (tL S) ps:=by rw [j9,knT]
  have VB:knP ⟨av S.ae,[],[],[],fun _ _=>false⟩ (tL S) ps=knP ⟨av S.ae,[],[],[],fun _ _=>false⟩ (tL S) (ps.drop 0):=by rw [Pts.drop]
  have hK:∀ e p u,ps.toList[e]? = some (p,u)->knP ⟨av S.ae,[],[],[],fun _ _=>false⟩ (tL S) (ps.drop e)=if (labW (av S.ae) p.label).1≠0 then labW (av S.ae) p.label else if (labW (av S.ae) p.cl).1≠0 then labW (av S.ae) p.cl else if p.bare then knP ⟨av S.ae,[],[],[],fun _ _=>false⟩ (tL S) (ps.drop (e + 1)) else if (j9 S u).1≠0 then j9 S u else knP ⟨av S.ae,[],[],[],fun _ _=>false⟩ (tL S) (ps.drop (e + 1)):=fun e p u hx=>by
   rw [Pts.drop_cons hx,knP];all_goals rfl
  have Y6:knP ⟨av S.ae,[],[],[],fun _ _=>false⟩ (tL S) .nil=(0,0):=by rw [knP]
  generalize knP ⟨av S.ae,[],[],[],fun _ _=>false⟩ (tL S)=KP at hS VB hK Y6;obtain ⟨ae,order,types,⟨rh,rp⟩⟩:=S;refine ev_go (P:=Tryz.prog) tt tt_ok 5000 64 [.cell 4 54] Tryz.func234 rfl Tryz.ntmps234 rfl (nL rfl) (fun E9 w9 hn9 hm9=>?_);generalize j9 ⟨ae,order,types,.mk rh rp⟩ (.mk h ps)=F at hS ⊢;refine have body:=?_;br (fun h9=>call_p Ht hf ax rfl (br (fun hx=>?_) (fun hx=>aq (fun j st=>∃ e:Nat,st=yZ ⟨ae,order,types,.mk rh rp⟩ (.mk h ps) e/\e<=ps.len/\F=KP (ps.drop e)/\j=ps.len - e) ps.len (yZ ⟨ae,order,types,.mk rh rp⟩ (.mk h ps) 0) (weak_mk ⟨_,rfl⟩ wA rfl rfl rfl wB) ⟨0,rfl,by omega,?_,by omega⟩ body))) (fun h9=>aq (fun j st=>∃ e:Nat,st=yZ ⟨ae,order,types,.mk rh rp⟩ (.mk h ps) e/\e<=ps.len/\F=KP (ps.drop e)/\j=ps.len - e) ps.len (yZ ⟨ae,order,types,.mk rh rp⟩ (.mk h ps) 0) (weak_mk ⟨_,rfl⟩ wA rfl rfl rfl wB) ⟨0,rfl,by omega,?_,by omega⟩ body)
  rotate_left
  ·have h9:h.ag=9:=by simpa using h9
   have hx:cD (tL ⟨ae,order,types,.mk rh rp⟩) h.name.s=none:=fg.1 (by simpa [pickB] using hx);rw [if_pos ⟨h9,hx⟩] at hS;refine ⟨_,?_,rfl⟩;rw [hS];exact ax
  ·have hx:¬ cD (tL ⟨ae,order,types,.mk rh rp⟩) h.name.s=none:=fun hn=>by
    have h3:=fg.2 hn;simp [pickB] at hx;have h3:=of_decide_eq_true h3;omega
   rw [if_neg (fun hc=>hx hc.2),VB] at hS;exact hS
  ·have h9:¬ h.ag=9:=by simpa using h9
   rw [if_neg (fun hc=>h9 hc.1),VB] at hS;exact hS
  rintro j st ⟨e,rfl,he,aH,rfl⟩;refine br (fun hL=>?_) (fun hL=>?_)
  ·have ap:e < ps.len:=by simpa [aF] using hL
   obtain ⟨p,t,hx⟩:=Pts.ei ap;have Cm:=Pts.fI (mG hx);have hk:=hK e p t hx;have hw1:wdsWt p.label + wdsWt p.cl<=p.wt:=by simp only [Ph.wt];omega
   obtain ⟨u,us⟩:=t;refine ⟨_,⟨by omega,bH hx⟩,?_⟩;refine call_p RN (hwd p.label (by omega)) ax rfl ?_;refine br (fun b1=>?_) (fun b1=>?_)
   ·have b1:(labW (av ae) p.label).1=0:=by simpa using b1
    rw [if_neg (by simp [b1])] at hk;refine call_p RN (hwd p.cl (by omega)) ax rfl ?_;refine br (fun b2=>?_) (fun b2=>?_)
    ·have b2:(labW (av ae) p.cl).1=0/\p.bare=false:=by
      rw [pickB_and] at b2;simpa using b2
     obtain ⟨b2,b3⟩:=b2;rw [if_neg (by simp [b2]),if_neg (by simp [b3])] at hk;refine call_p LP (ih (.mk u us) (by omega) (by omega)) ax rfl ?_;refine br (fun b4=>?_) (fun b4=>?_)
     ·have b4:(j9 ⟨ae,order,types,.mk rh rp⟩ (.mk u us)).1≠0:=by simpa using b4
      rw [if_pos b4] at hk
      (refine ⟨_,?_,rfl⟩;rw [aH,hk];exact ax)
     ·have b4:(j9 ⟨ae,order,types,.mk rh rp⟩ (.mk u us)).1=0:=by simpa using b4
      rw [if_neg (by simp [b4])] at hk;exact ⟨yZ ⟨ae,order,types,.mk rh rp⟩ (.mk h ps) (e + 1),(weak_mk ⟨_,rfl⟩ wA rfl rfl rfl (wNB ap)),ps.len - (e + 1),by omega,e + 1,rfl,by omega,by rw [aH,hk],rfl⟩
    ·refine br (fun b4=>?_) (fun b4=>?_)
     ·have b4:(labW (av ae) p.cl).1≠0:=by simpa using b4
      rw [if_pos b4] at hk
      (refine ⟨_,?_,rfl⟩;rw [aH,hk];exact ax)
     ·have b4:(labW (av ae) p.cl).1=0:=by simpa using b4
      have b3:p.bare=true:=by
       rw [pickB_and] at b2;simpa [b4] using b2
      rw [if_neg (by simp [b4]),if_pos b3] at hk;exact ⟨yZ ⟨ae,order,types,.mk rh rp⟩ (.mk h ps) (e + 1),(weak_mk ⟨_,rfl⟩ wA rfl rfl rfl (wNB ap)),ps.len - (e + 1),by omega,e + 1,rfl,by omega,by rw [aH,hk],rfl⟩
   ·have b1:¬ (labW (av ae) p.label).1=0:=by simpa using b1
    rw [if_pos b1] at hk;refine br (fun b2=>?_) (fun b2=>?_)
    ·rw [pickB_and] at b2;simp [b1] at b2
    ·refine br (fun b4=>?_) (fun b4=>?_)
     ·(refine ⟨_,?_,rfl⟩;rw [aH,hk];exact ax)
     ·simp [b1] at b4
  ·have aO:e=ps.len:=by simp [aF] at hL;omega
   rw [aO,Pts.cQ] at aH;refine ⟨_,?_,rfl⟩;rw [aH,Y6];exact ax
abbrev AA (h:Hd) (ps:Pts) (e:Nat) (depth m:Int):St:=
 ⟨[(2,⟨[],.v (.int .i64 depth)⟩),(3,⟨[],.loc 0 0⟩),(4,⟨[],.loc 1 0⟩),(6,⟨[],.loc 2 0⟩),(7,⟨[],.v (.int .i64 e)⟩)],[[.v (.int .i64 0),.v (.int .i64 0),.v (.int .i64 m)],dK (.mk h ps),[.v (.int .i64 0),.v (.int .i64 0),.v (.int .i64 0)]],[]⟩
theorem AB (k:Nat) (ih:z8 k) (h:Hd) (ps:Pts) (depth m:Int) (hk:ps.wt<=k) (b9:(Ty.mk h ps).wt<=1099511627776) (yp:0<=depth) (Ep:depth<=25) (jX:0<=m) (fD:m<=512) :
  EvP Tryz.prog 233 [wD (0,0) m,.agg (dK (.mk h ps)),.v (.int .i64 depth)] (wD (wrong (.mk h ps) depth m).1 (wrong (.mk h ps) depth m).2):=by
 have yN:=b9;simp only [Ty.wt,Hd.wt] at yN;have iE:=ps.fb;have TO:=bg h.af;have qO:IntKind.i64.wrap (m + 1)=m + 1:=wrap64 (by omega) (by omega)
 have hW:∀ e a,EvP Tryz.prog 273 [.agg [.v (.int .i64 0),.v (.int .i64 0),.v (.int .i64 (IntKind.i64.wrap (m + 1)))],.v (.int .i64 e),.v (.int .i64 a)] (wD (e,a) (m + 1)):=by
  intro e a;rw [qO];exact dX (0,0) (m + 1) e a
 have hS:=wrong.eq_def (.mk h ps) depth m;simp only at hS;refine ev_go (P:=Tryz.prog) tt tt_ok 5000 201 [.cell 6 320] Tryz.func233 rfl Tryz.ntmps233 rfl (nL rfl) (fun E9 w9 hn9 hm9=>?_);refine br (fun c=>?_) (fun c=>?_)
 ·have c:24 < depth:=of_decide_eq_true c;refine call_p fW (hW 6 h.aC) ax rfl ?_;rw [if_pos c] at hS;refine ⟨_,?_,rfl⟩;rw [hS];exact ax
 have c:¬ 24 < depth:=of_decide_eq_false c;rw [if_neg c] at hS;refine br (fun c=>?_) (fun c=>?_)
 ·have c:512 < IntKind.i64.wrap (m + 1):=of_decide_eq_true c;rw [qO] at c;refine call_p fW (hW 8 h.aC) ax rfl ?_;rw [if_pos c] at hS;refine ⟨_,?_,rfl⟩;rw [hS];exact ax
 have c:¬ 512 < IntKind.i64.wrap (m + 1):=of_decide_eq_false c;rw [qO] at c;rw [if_neg c] at hS;refine br (fun c=>?_) (fun c=>?_)
 ·have c:h.ag < 1∨9 < h.ag:=by simpa [aj] using c
  refine call_p fW (hW 14 h.aC) ax rfl ?_;rw [if_pos c] at hS;refine ⟨_,?_,rfl⟩;rw [hS];exact ax
 have c:¬ (h.ag < 1∨9 < h.ag):=by simp [aj] at c;omega
 rw [if_neg c] at hS;refine call_p XZ (E4 (.mk h ps) (by omega)) ax rfl ?_;refine br (fun c=>?_) (fun c=>?_)
 ·have c:tu (.mk h ps)=false:=by simpa [tu] using c
  refine call_p fW (hW 19 h.aC) ax rfl ?_;rw [if_pos c] at hS;refine ⟨_,?_,rfl⟩;rw [hS];exact ax
 have c:¬ tu (.mk h ps)=false:=by simpa [tu] using c
 rw [if_neg c] at hS;refine br (fun c=>?_) (fun c=>?_)
 ·have c:(h.ag=2/\h.hi < h.lo)∨(h.ag=3/\(h.most < 0∨4096 < h.most)):=by simp [aj,pickB_and] at c;omega
  refine call_p fW (hW 20 h.aC) ax rfl ?_;rw [if_pos c] at hS;refine ⟨_,?_,rfl⟩;rw [hS];exact ax
 have c:¬ ((h.ag=2/\h.hi < h.lo)∨(h.ag=3/\(h.most < 0∨4096 < h.most))):=by simp [aj,pickB_and] at c;omega
 rw [if_neg c] at hS;refine br (fun k9=>?_) (fun k9=>?_)
 ·have k9:h.ag=9:=by simpa using k9
  refine call_p Hz (j4 h.name.s (by simp only [Wd.wt] at yN;omega)) ax rfl ?_;refine br (fun q=>?_) (fun q=>?_)
  ·have q:aY h.name.s=false:=by simpa [pickB_and,k9] using q
   refine call_p fW (hW 9 h.name.a) ax rfl ?_;rw [if_pos ⟨k9,q⟩] at hS;refine ⟨_,?_,rfl⟩;rw [hS];exact ax
  ·have q:aY h.name.s=true:=by simpa [pickB_and,k9] using q
   rw [if_neg (by simp [q]),if_neg (by omega),if_neg (by omega),if_neg (by omega)] at hS;refine br (fun x=>?_) (fun _=>?_)
   ·have:=of_decide_eq_true x;omega
   refine br (fun x=>?_) (fun _=>?_)
   ·simp [aj] at x;omega
   refine br (fun x=>?_) (fun _=>?_)
   ·simp [aj] at x;omega
   refine ⟨_,?_,rfl⟩;rw [hS];exact (aI qO)
 ·have k9:¬ h.ag=9:=by simpa using k9
  rw [if_neg (by simp [k9])] at hS;refine br (fun k4=>?_) (fun k4=>?_)
  ·have k4:h.ag=4:=of_decide_eq_true k4;rw [if_pos k4] at hS;refine br (fun c=>?_) (fun c=>?_)
   ·have c:h.af=[]:=by simp [aw] at c;exact c
    refine call_p fW (hW 15 h.aC) ax rfl ?_;refine ⟨_,?_,rfl⟩;rw [hS];simp only [gZ,if_pos c];exact ax
   have c:¬ h.af=[]:=by simp [aw] at c;exact c
   refine br (fun c2=>?_) (fun c2=>?_)
   ·have ap:64 < h.af.length:=by simp [aw] at c2;omega
    obtain ⟨x,hx⟩:∃ x,h.af[64]? = some x:=⟨_,gE ap⟩;refine aP mo (by decide +kernel) ?_;refine ⟨jw x,⟨by omega,aK hx⟩,?_⟩;refine ay fW (hW 8 x.a) ax rfl ?_;refine ⟨_,?_,rfl⟩;rw [hS];simp only [gZ,if_neg c,if_pos ap,hx,Option.getD_some];exact ax
   have c2:¬ 64 < h.af.length:=by simp [aw] at c2;omega
   have hE:gZ h=enumL h.af 0 h.af:=by simp only [gZ,if_neg c,if_neg c2]
   rw [hE] at hS
   refine aq (fun j st=>∃ (e:Nat),st=AA h ps e depth (m + 1)/\e<=h.af.length/\enumL h.af 0 h.af=enumL h.af e (h.af.drop e)/\j=h.af.length - e) h.af.length
    (AA h ps 0 depth (m + 1)) (az 3 rfl (by repeat' (first | exact rfl | exact ah rfl | exact ak qO | refine ⟨_,_,rfl,?_,?_⟩)) rfl rfl rfl (by repeat' (first | exact trivial | exact ah rfl | exact ak qO | refine ⟨⟨_,rfl,?_⟩,?_⟩))) ⟨0,rfl,by omega,rfl,by omega⟩ ?_
   rintro j st ⟨e,rfl,he,aH,rfl⟩;refine br (fun hL=>?_) (fun hL=>?_)
   ·have ap:e < h.af.length:=by simpa [aw] using hL
    obtain ⟨x,hx⟩:∃ x,h.af[e]? = some x:=⟨_,gE ap⟩;rw [drop_cons hx] at aH;simp only [enumL] at aH;refine call_p RM (od h.af e x (by omega) hx) ax rfl ?_;refine br (fun hl=>?_) (fun hl=>?_)
    ·have hl:aD h.af e x≠0:=by simpa using hl
     rw [if_pos hl] at aH;refine aP mo (by decide +kernel) ?_;refine ⟨jw x,⟨by omega,aK hx⟩,?_⟩;refine ay fW (dX (0,0) (m + 1) _ x.a) ax rfl ?_;refine ⟨_,?_,rfl⟩;rw [hS,aH];exact ax
    ·have hl:aD h.af e x=0:=by simpa using hl
     rw [if_neg (by simp [hl])] at aH;exact ⟨AA h ps (e + 1) depth (m + 1),(weak_mk ⟨_,rfl⟩ wA rfl rfl rfl (wNB ap)),h.af.length - (e + 1),by omega,e + 1,rfl,by omega,aH,rfl⟩
   ·have aO:e=h.af.length:=by simp [aw] at hL;omega
    rw [aO,List.drop_length] at aH;simp only [enumL] at aH;rw [aH] at hS;refine br (fun x=>?_) (fun _=>?_)
    ·simp [aj] at x;omega
    refine br (fun x=>?_) (fun _=>?_)
    ·simp [aj] at x;omega
    refine ⟨_,?_,rfl⟩;rw [hS];exact ax
  ·have k4:¬ h.ag=4:=of_decide_eq_false k4;rw [if_neg k4] at hS;refine br (fun k5=>?_) (fun k5=>?_)
   ·have k5:h.ag=5∨h.ag=6:=by simpa [aj] using k5
    rw [if_pos k5] at hS
    cases ps with
    | nil=>
     refine call_p fW (hW 19 h.aC) ax rfl ?_;refine ⟨_,?_,rfl⟩;rw [hS];simp only [wrongOne];exact ax
    | cons p t r=>
     cases r with
     | cons p2 t2 r2=>
      refine call_p fW (hW 19 h.aC) ax rfl ?_;refine ⟨_,?_,rfl⟩;rw [hS];simp only [wrongOne];exact ax
     | nil=>
      obtain ⟨u,us⟩:=t;simp only [wrongOne] at hS;simp only [Ty.wt,Pts.wt] at yN hk;refine ⟨_,⟨by omega,rfl⟩,?_⟩;refine br (fun c=>?_) (fun c=>?_)
      ·have c:p.name.s=al:=by
        have:=c;simp [aj] at this;exact this
       refine ⟨_,⟨by omega,rfl⟩,?_⟩;refine call_p LR (lG p eC (dK (.mk u us)) (dK bK) (by omega) (yt _ _ _ _ _) (yt _ _ _ _ _)) ax rfl ?_;refine br (fun q=>?_) (fun q=>?_)
       ·have q:bA p eC=false:=by simpa [aj,c] using q
        refine call_p fW (hW 19 h.aC) ax rfl ?_;rw [if_pos (by simp [q])] at hS;refine ⟨_,?_,rfl⟩;rw [hS];exact ax
       ·have q:bA p eC=true:=by simpa [aj,c] using q
        rw [if_neg (by simp [q,c])] at hS;refine br (fun x=>?_) (fun x=>?_)
        ·have x:h.most < 0∨1024 < h.most:=by simpa [aj] using x
         refine call_p fW (hW 20 h.aC) ax rfl ?_;rw [if_pos x] at hS;refine ⟨_,?_,rfl⟩;rw [hS];exact ax
        ·have x:¬ (h.most < 0∨1024 < h.most):=by simp [aj] at x;omega
         rw [if_neg x] at hS;refine aP mo (by decide +kernel) ?_;refine ⟨_,⟨by omega,rfl⟩,?_⟩;refine ay LO (ih (.mk u us) (depth + 1) (m + 1) (by simp only [Ty.wt];omega) (by simp only [Ty.wt];omega) (by omega) (by omega) (by omega) (by omega)) (by repeat' (first | exact rfl | exact trivial | exact Or.inr (Or.inl ⟨_,rfl⟩) | exact Or.inr ⟨_,rfl⟩ | exact Or.inl ⟨rfl,rfl⟩ | exact Or.inl rfl | refine Or.inr ⟨_,_,rfl,Nat.zero_le _,rfl,?_⟩ | refine ⟨_,_,rfl,?_,?_⟩ | refine ⟨_,rfl,?_⟩ | exact congrArg (fun z=>DV.v (.int .i64 z)) qO | exact congrArg (fun z=>DV.v (.int .i64 z)) (wrap64 (by omega) (by omega))| refine Or.inr (Or.inr (Or.inr ⟨_,_,rfl,?_⟩)) | exact Or.inl rfl | refine Or.inr ?_)) rfl ?_;refine ⟨_,?_,rfl⟩;rw [hS];exact ax
      ·have c:p.name.s≠al:=by
        have:=c;simp [aj] at this;exact this
       refine call_p fW (hW 19 h.aC) ax rfl ?_;rw [if_pos (.inl c)] at hS;refine ⟨_,?_,rfl⟩;rw [hS];exact ax
   ·have k5:¬ (h.ag=5∨h.ag=6):=by simp [aj] at k5;omega
    rw [if_neg k5] at hS;refine br (fun k7=>?_) (fun k7=>?_)
    ·have k7:h.ag=7∨h.ag=8:=by simpa [aj] using k7
     rw [if_pos k7] at hS;have hP:wrong (.mk h ps) depth m=eD h ps depth (m + 1):=by rw [hS];all_goals rfl
     refine call_p X0 (Aa k ih h ps depth (m + 1) hk b9 yp (by omega) (by omega) (by omega)) (by repeat' (first | exact rfl | exact trivial | exact Or.inr (Or.inl ⟨_,rfl⟩) | exact Or.inr ⟨_,rfl⟩ | exact Or.inl ⟨rfl,rfl⟩ | exact Or.inl rfl | refine Or.inr ⟨_,_,rfl,Nat.zero_le _,rfl,?_⟩ | refine ⟨_,_,rfl,?_,?_⟩ | refine ⟨_,rfl,?_⟩ | exact congrArg (fun z=>DV.v (.int .i64 z)) qO| refine Or.inr (Or.inr (Or.inr ⟨_,_,rfl,?_⟩)) | exact Or.inl rfl | refine Or.inr ?_)) rfl ?_;refine ⟨_,?_,rfl⟩;rw [hP];exact ax
    ·have k7:¬ (h.ag=7∨h.ag=8):=by simp [aj] at k7;omega
     rw [if_neg k7] at hS;refine ⟨_,?_,rfl⟩;rw [hS];exact (aI qO)
theorem y4:∀ k,z8 k
 | 0=>fun t depth m hk=>by have:=t.de;omega
 | k + 1=>fun t depth m hk b9 yp Ep jX fD=>by
  obtain ⟨h,ps⟩:=t;have gm:=hk;simp only [Ty.wt,Hd.wt] at gm;exact AB k (y4 k) h ps depth m (by omega) b9 yp Ep jX fD
theorem AD (t:Ty) (depth m:Int) (b9:t.wt<=1099511627776) (yp:0<=depth) (Ep:depth<=25) (jX:0<=m) (fD:m<=512) :
  EvP Tryz.prog 233 [wD (0,0) m,.agg (dK t),.v (.int .i64 depth)] (wD (wrong t depth m).1 (wrong t depth m).2):=
 y4 t.wt t depth m (Nat.le_refl _) b9 yp Ep jX fD
def eaA:List Ty->Int->Ft × Int
 | [],m=>((0,0),m)
 | t :: r,m=>if (bM t m).1.1≠0 then bM t m else eaA r (bM t m).2
theorem NG (z:Ty):∀ (l:List (Wd × Ty)) (m:Int),((eaA (l.map (fun x=>x.2) ++ [z]) m).1.1=0↔(eaR z l m).1.1=0)/\((eaR z l m).1.1≠0->eaA (l.map (fun x=>x.2) ++ [z]) m=eaR z l m)
 | [],m=>by
  show ((eaA [z] m).1.1=0↔(bM z m).1.1=0)/\((bM z m).1.1≠0->eaA [z] m=bM z m);simp only [eaA];by_cases h:(bM z m).1.1=0
  ·simp [h]
  ·simp [h]
 | x :: r,m=>by
  have ih:=NG z r (bM x.2 m).2;simp only [List.map_cons,List.cons_append,eaA,eaR];by_cases h:(bM x.2 m).1.1=0
  ·simp only [h,ne_eq,not_true,if_false];exact ih
  ·simp [h]
def eaK (F:Ty->Ft):List Ty->Ft
 | []=>(0,0)
 | t :: r=>if (F t).1≠0 then F t else eaK F r
theorem NH (F:Ty->Ft) (z:Ty):∀ l:List (Wd × Ty),((eaK F (l.map (fun x=>x.2) ++ [z])).1=0↔(eaL F (F z) l).1=0)/\((eaL F (F z) l).1≠0->eaK F (l.map (fun x=>x.2) ++ [z])=eaL F (F z) l)
 | []=>by
  show ((eaK F [z]).1=0↔(F z).1=0)/\((F z).1≠0->eaK F [z]=F z);simp only [eaK];by_cases h:(F z).1=0
  ·simp [h]
  ·simp [h]
 | x :: r=>by
  have ih:=NH F z r;simp only [List.map_cons,List.cons_append,eaK,eaL];by_cases h:(F x.2).1=0
  ·simp only [h,ne_eq,not_true,if_false];exact ih
  ·simp [h]
theorem F3 {F:Ty->Ft}:∀ {l:List Ty},(eaK F l).1=0->∀ t∈l,(F t).1=0
 | [],_,t,ht=>by cases ht
 | u :: r,h,t,ht=>by
  rw [eaK] at h;split at h
  ·rename_i h1;exact (h1 h).elim
  ·rename_i h1;rcases List.mem_cons.1 ht with rfl | ht
   ·simpa using h1
   ·exact F3 h t ht
theorem Ic (S:Sch):ky S=if (latF S.ae S.order).1≠0 then latF S.ae S.order
 else if (dQ S).1≠0 then dQ S
 else if (eaA (fy S) 0).1.1≠0 then (eaA (fy S) 0).1
 else if (eaK (j9 S) (fy S)).1≠0 then eaK (j9 S) (fy S)
 else loopF S:=by
 have h1:=NG S.root S.types 0;have h2:=NH (j9 S) S.root S.types;unfold ky fy eH;by_cases a:(eaR S.root S.types 0).1.1=0
 ·have a':=h1.1.2 a;simp only [a,a',ne_eq,not_true,if_false];by_cases b:(eaL (j9 S) (j9 S S.root) S.types).1=0
  ·have b':=h2.1.2 b;simp only [b,b',ne_eq,not_true,if_false]
  ·rw [h2.2 b]
 ·rw [h1.2 a];by_cases b:(eaL (j9 S) (j9 S S.root) S.types).1=0
  ·have b':=h2.1.2 b;simp only [b,b',a,ne_eq,not_true,not_false_eq_true,if_false,if_true]
  ·rw [h2.2 b]
abbrev UB (S:Sch) (T:List Ty) (m:Int) (e:Nat):St:=
 ⟨[(1,⟨[],.loc 0 0⟩),(2,⟨[],.loc 1 0⟩),(5,⟨[],.sl 9 (gK T) none⟩),(6,⟨[],.v (.int .i64 m)⟩),(7,⟨[],.v (.int .i64 e)⟩)],[eK S,[.v (.int .i64 0),.v (.int .i64 0)]],[]⟩
abbrev UC (S:Sch) (T:List Ty) (e:Nat):St:=
 ⟨[(1,⟨[],.loc 0 0⟩),(2,⟨[],.loc 1 0⟩),(5,⟨[],.sl 9 (gK T) none⟩),(11,⟨[],.v (.int .i64 e)⟩)],[eK S,[.v (.int .i64 0),.v (.int .i64 0)]],[]⟩
abbrev UD (S:Sch) (e:Nat):St:=
 ⟨[(1,⟨[],.loc 0 0⟩),(2,⟨[],.loc 1 0⟩),(13,⟨[],.v (.int .i64 e)⟩)],[eK S,[.v (.int .i64 0),.v (.int .i64 0)]],[]⟩
theorem AE {S:Sch} (hs:S.wt<=1099511627776):∀ t∈fy S,t.wt<=1099511627776:=by
 intro t ht;unfold Sch.wt at hs;rcases List.mem_append.1 ht with h | h
 ·obtain ⟨x,hx,rfl⟩:=List.mem_map.1 h;have:=fX hx;omega
 ·simp only [List.mem_singleton] at h;subst h;omega
theorem AF (S:Sch) (hs:S.wt<=1099511627776):EvP Tryz.prog 190 [.agg (eK S)] (ky S).d:=by
 have VJ:=AE hs;unfold Sch.wt at hs;have hN:=dA S.types;have gI:=jc S.types;have rP:=Ay S.ae S.order (by omega) (by omega);have Zl:=Az S (by omega);have gH:=Dd S (by omega);have Zm:=fun t ht=>qi S (by omega) (by omega) _ t (Nat.le_refl _) (VJ t ht);have hF:=Ic S;have hlen:(fy S).length=S.types.length + 1:=by simp [fy,eH]
 have hnF:(dQ S).1=0->S.types.length<=64:=fun h=>by
  unfold dQ at h;split at h
  ·cases h
  ·omega
 obtain ⟨ae,order,types,⟨rh,rp⟩⟩:=S;simp only at hs hN gI rP Zl hlen hnF hF;generalize hT:fy ⟨ae,order,types,.mk rh rp⟩=T at VJ gH Zm hlen hF;refine ev_go (P:=Tryz.prog) tt tt_ok 5000 104 [.cell 2 54] Tryz.func190 rfl Tryz.ntmps190 rfl (nL rfl) (fun E9 w9 hn9 hm9=>?_);generalize ky ⟨ae,order,types,.mk rh rp⟩=F at hF ⊢;refine call_p XL (rP) ax rfl ?_;refine br (fun h1=>?_) (fun h1=>?_)
 ·have h1:(latF ae order).1≠0:=by simpa using h1
  rw [if_pos h1] at hF;refine ⟨_,?_,rfl⟩;rw [hF];exact ax
 have h1:(latF ae order).1=0:=by simpa using h1
 rw [if_neg (by simp [h1])] at hF;refine call_p XM (Zl) ax rfl ?_;refine br (fun h2=>?_) (fun h2=>?_)
 ·have h2:(dQ ⟨ae,order,types,.mk rh rp⟩).1≠0:=by simpa using h2
  rw [if_pos h2] at hF;refine ⟨_,?_,rfl⟩;rw [hF];exact ax
 have h2:(dQ ⟨ae,order,types,.mk rh rp⟩).1=0:=by simpa using h2
 rw [if_neg (by simp [h2])] at hF;have UE:=hnF h2;refine call_p WU (gH) ax rfl ?_
 refine aq (fun j st=>∃ (e:Nat) (m:Int),st=UB ⟨ae,order,types,.mk rh rp⟩ T m e/\e<=types.length + 1/\0<=m/\m<=512/\eaA T 0=eaA (T.drop e) m/\j=types.length + 1 - e) (types.length + 1)
  (UB ⟨ae,order,types,.mk rh rp⟩ T 0 0) (weak_mk ⟨_,rfl⟩ wA rfl rfl rfl wB) ⟨0,0,rfl,by omega,by omega,by omega,rfl,by omega⟩ ?_
 rintro j st ⟨e,m,rfl,he,jX,fD,aH,rfl⟩;refine br (fun hL=>?_) (fun hL=>?_)
 ·have ap:e < types.length + 1:=by have:=hL;simp [dB,hlen] at this;omega
  obtain ⟨t,ht⟩:∃ t,T[e]? = some t:=⟨_,gE (by omega)⟩;have MH:=VJ t (mG ht);have aT:eaA (T.drop e) m=if (bM t m).1.1≠0 then bM t m else eaA (T.drop (e + 1)) (bM t m).2:=by rw [drop_cons ht,eaA]
  have Qv:bM t m=if (wrong t 1 0).1.1≠0 then ((wrong t 1 0).1,m) else if 512 < m + t.cnt then ((8,t.h.aC),m + t.cnt) else ((0,0),m + t.cnt):=rfl
  have KU:=AD t 1 0 MH (by omega) (by omega) (by omega) (by omega);have bE:=j5 _ t (Nat.le_refl _) MH;have qM:=t.ej;obtain ⟨u,us⟩:=t;refine ⟨_,⟨by omega,jH ht⟩,?_⟩;refine call_p LO (KU) ax rfl ?_;refine br (fun g1=>?_) (fun g1=>?_)
  ·have g1:(wrong (.mk u us) 1 0).1.1≠0:=by simpa using g1
   rw [if_pos g1] at Qv;rw [aH,aT,Qv,if_pos g1,if_pos g1] at hF;refine ⟨_,?_,rfl⟩;rw [hF];exact ax
  have g1:(wrong (.mk u us) 1 0).1.1=0:=by simpa using g1
  rw [if_neg (by simp [g1])] at Qv;refine ⟨_,⟨by omega,jH ht⟩,?_⟩;refine call_p PI (bE) ax rfl ?_;have sA:IntKind.i64.wrap (m + ((Ty.mk u us).cnt:Int))=m + (Ty.mk u us).cnt:=wrap64 (by omega) (by omega);refine br (fun g2=>?_) (fun g2=>?_)
  ·have g2:512 < IntKind.i64.wrap (m + ((Ty.mk u us).cnt:Int)):=of_decide_eq_true g2;rw [sA] at g2;rw [if_pos g2] at Qv;rw [aH,aT,Qv,if_pos (by simp),if_pos (by simp)] at hF;refine ⟨_,⟨by omega,jH ht⟩,?_⟩;refine ⟨_,?_,rfl⟩;rw [hF];exact ax
  ·have g2:¬ 512 < IntKind.i64.wrap (m + ((Ty.mk u us).cnt:Int)):=of_decide_eq_false g2;rw [sA] at g2;rw [if_neg g2] at Qv;rw [Qv,if_neg (by simp)] at aT;exact ⟨UB ⟨ae,order,types,.mk rh rp⟩ T (m + (Ty.mk u us).cnt) (e + 1),(weak_mk ⟨_,rfl⟩ wA rfl rfl rfl (by repeat' (first | exact trivial | exact ah rfl | exact ak sA | exact ak (cx ap (by omega)) | refine ⟨⟨_,rfl,?_⟩,?_⟩))),types.length + 1 - (e + 1),by omega,e + 1,_,rfl,by omega,by omega,by omega,by rw [aH,aT],rfl⟩
 have aO:e=types.length + 1:=by have:=hL;simp [dB,hlen] at this;omega
 rw [aH,List.drop_of_length_le (by omega),show eaA [] m=((0,0),m) from rfl,if_neg (by simp)] at hF
 refine aq (fun j st=>∃ (e:Nat),st=UC ⟨ae,order,types,.mk rh rp⟩ T e/\e<=types.length + 1/\eaK (j9 ⟨ae,order,types,.mk rh rp⟩) T=eaK (j9 ⟨ae,order,types,.mk rh rp⟩) (T.drop e)/\j=types.length + 1 - e) (types.length + 1)
  (UC ⟨ae,order,types,.mk rh rp⟩ T 0) (weak_mk ⟨_,rfl⟩ wA rfl rfl rfl wB) ⟨0,rfl,by omega,rfl,by omega⟩ ?_
 clear aH hL aO he e;rintro j st ⟨e,rfl,he,aH,rfl⟩;refine br (fun hL=>?_) (fun hL=>?_)
 ·have ap:e < types.length + 1:=by have:=hL;simp [dB,hlen] at this;omega
  obtain ⟨t,ht⟩:∃ t,T[e]? = some t:=⟨_,gE (by omega)⟩;have aT:eaK (j9 ⟨ae,order,types,.mk rh rp⟩) (T.drop e)=if (j9 ⟨ae,order,types,.mk rh rp⟩ t).1≠0 then j9 ⟨ae,order,types,.mk rh rp⟩ t else eaK (j9 ⟨ae,order,types,.mk rh rp⟩) (T.drop (e + 1)):=by rw [drop_cons ht,eaK]
  have hu:=Zm t (mG ht);obtain ⟨u,us⟩:=t;apply nz (fun _=>false) 5 6 [0,1,2,3,4,5,6,7] [0,1,2,3,4,6,5,7] 2 2 mo (by decide +kernel)
  ·refine ⟨_,⟨by omega,jH ht⟩,?_⟩;refine ay LP (hu) ax rfl ?_;refine (?_:@Eq St _ _);exact rfl
  ·refine ⟨_,⟨by omega,jH ht⟩,?_⟩;refine ay LP (hu) ax rfl ?_;refine (⟨rfl,rfl,?_⟩:_/\_/\_)
   repeat' (first | exact trivial | refine ⟨rfl,?_⟩)
  ·rfl
  refine br (fun g=>?_) (fun g=>?_)
  ·have g:(j9 ⟨ae,order,types,.mk rh rp⟩ (.mk u us)).1≠0:=by simpa using g
   rw [aH,aT,if_pos g,if_pos g] at hF;refine ⟨_,?_,rfl⟩;rw [hF];exact ax
  ·have g:(j9 ⟨ae,order,types,.mk rh rp⟩ (.mk u us)).1=0:=by simpa using g
   rw [if_neg (by simp [g])] at aT;exact ⟨UC ⟨ae,order,types,.mk rh rp⟩ T (e + 1),(weak_mk ⟨_,rfl⟩ wA rfl rfl rfl (wNB ap)),types.length + 1 - (e + 1),by omega,e + 1,rfl,by omega,by rw [aH,aT],rfl⟩
 have aO:e=types.length + 1:=by have:=hL;simp [dB,hlen] at this;omega
 have Lj:(eaK (j9 ⟨ae,order,types,.mk rh rp⟩) T).1=0:=by rw [aH,List.drop_of_length_le (by omega)];all_goals rfl
 rw [aH,List.drop_of_length_le (by omega),show eaK (j9 ⟨ae,order,types,.mk rh rp⟩) []=(0,0) from rfl,if_neg (by simp)] at hF
 have Se:∀ x∈types,tB ⟨ae,order,types,.mk rh rp⟩ x.2=true:=fun x hx=>Au (F3 Lj x.2 (by
  rw [<- hT]
  exact List.mem_append_left _ (List.mem_map_of_mem hx)))
 have he99:=vM ⟨ae,order,types,.mk rh rp⟩ UE Se
 have hlo:F=match bL (fun i=>(endI ⟨ae,order,types,.mk rh rp⟩ (types.length + 1) i).isNone) types.length with
  | none=>(0,0)
  | some i=>(11,Ud (tA ⟨ae,order,types,.mk rh rp⟩) i):=hF
 refine aq (fun j st=>∃ e:Nat,st=UD ⟨ae,order,types,.mk rh rp⟩ e/\e<=types.length/\(∀ i,i < e->(endI ⟨ae,order,types,.mk rh rp⟩ (types.length + 1) i).isNone=false)/\j=types.length - e) types.length
  (UD ⟨ae,order,types,.mk rh rp⟩ 0) (weak_mk ⟨_,rfl⟩ wA rfl rfl rfl wB) ⟨0,rfl,by omega,fun _ h=>by omega,by omega⟩ ?_
 clear aH hL aO he e;rintro j st ⟨e,rfl,he,eI,rfl⟩;refine br (fun hL=>?_) (fun hL=>?_)
 ·have ap:e < types.length:=by have:=hL;simp [hN] at this;exact this
  obtain ⟨x,hx⟩:∃ x,types[e]? = some x:=⟨_,gE ap⟩;have Ug:(tA ⟨ae,order,types,.mk rh rp⟩)[e]? = some x.1:=Ib hx;have h9:=he99 e ap;obtain ⟨xw,⟨xh,xp⟩⟩:=x;refine call_p LD (h9) ax rfl ?_;refine br (fun g=>?_) (fun g=>?_)
  ·have g:endI ⟨ae,order,types,.mk rh rp⟩ (types.length + 1) e=none:=fg.1 g;have Bq:=cC (p:=fun i=>(endI ⟨ae,order,types,.mk rh rp⟩ (types.length + 1) i).isNone) ap (by simp only [g];rfl) eI;rw [Bq] at hlo;simp only [j8 Ug] at hlo;refine ⟨_,⟨by omega,dNms_get hx⟩,?_⟩;refine ⟨_,?_,rfl⟩;rw [hlo];exact ax
  ·have g:¬ endI ⟨ae,order,types,.mk rh rp⟩ (types.length + 1) e=none:=fun hn=>by have h3:=fg.2 hn;rw [g] at h3;cases h3
   refine ⟨UD ⟨ae,order,types,.mk rh rp⟩ (e + 1),(weak_mk ⟨_,rfl⟩ wA rfl rfl rfl (wNB ap)),types.length - (e + 1),by omega,e + 1,rfl,by omega,fun i hi=>?_,rfl⟩;rcases Nat.lt_succ_iff_lt_or_eq.1 hi with hi | rfl
   ·exact eI i hi
   ·exact Option.isNone_eq_false_iff.2 (Option.isSome_iff_ne_none.2 g)
 ·have aO:e=types.length:=by have:=hL;simp [hN] at this;omega
  rw [aO] at eI;rw [cW eI] at hlo;refine ⟨_,?_,rfl⟩;rw [hlo];exact ax
theorem bI {l:List Ed} {i:Nat} {e:Ed} (h:l[i]? = some e):(fv l)[i]? = some (vx e):=by simp [fv,h]
def Qw (lev:List Wd->Int) (s:Sch) (t:Ty) (k:Nat):Nd:=⟨t.h.ag,t.h.aC,t.h.lo,t.h.hi,t.h.most,av t.h.af,edsP lev s t.ps (k + 1)⟩
mutual
theorem tU (lev:List Wd->Int) (s:Sch):∀ (t:Ty) (k:Nat),ndsT lev s t k=(flatT t).zipIdx.map fun x=>Qw lev s x.1 (k + x.2)
 | .mk h ps,k=>by
  have ih:=AG lev s ps (k + 1);rw [ndsT,flatT];split
  ·rfl
  ·rw [ih,List.zipIdx_cons,List.map_cons];rw [List.zipIdx_succ,List.map_map];refine congr (congrArg List.cons rfl) (List.map_congr_left fun x _=>?_);simp only [Function.comp];congr 1;omega
theorem AG (lev:List Wd->Int) (s:Sch):∀ (ps:Pts) (k:Nat),vz lev s ps k=(flatP ps).zipIdx.map fun x=>Qw lev s x.1 (k + x.2)
 | .nil,k=>rfl
 | .cons p u r,k=>by
  rw [vz,flatP,List.zipIdx_append,List.map_append]
  cases hb:p.bare with
  | true=>
   simp only [if_true,List.zipIdx_nil,List.map_nil,List.nil_append,List.length_nil,Nat.add_zero];exact AG lev s r k
  | false=>
   simp only [Bool.false_eq_true,if_false];rw [tU lev s u k,AG lev s r (k + u.nn),jf];refine congrArg _ ?_;rw [List.zipIdx_eq_map_add (l:=flatP r) (i:=0 + u.nn)];rw [List.map_map];refine List.map_congr_left fun x _=>?_;simp only [Function.comp];congr 1;omega
end
theorem AH {X:Lx} {L:List ByteArray}:∀ {ps:Pts},(knP X L ps).1=0->∀ {p:Ph} {u:Ty},(p,u)∈ps.toList->p.bare=false->(knT X L u).1=0
 | .nil,_,p,u,h,_=>by cases h
 | .cons q v r,hk,p,u,h,hb=>by
  rcases List.mem_cons.1 h with h | h
  ·cases h;exact (rH hk).1 hb
  ·exact AH (rH hk).2 h hb
theorem rQ {w:Int} (h:decide (w=0)=true):kT w=3:=by unfold kT;rw [if_pos (of_decide_eq_true h)]
theorem rR {w:Int} (h:decide (w=0)=false):kT w=w:=by unfold kT;rw [if_neg (of_decide_eq_false h)]
theorem fG {L:List Ed} {lev:List Wd->Int} {p:Ph} {to w z:Int} (hw:kT p.wide=w) (ht:to=z):fv L ++ [[.v (.string p.name.s),.v (.bool p.bare),.v (.int .i64 p.name.a),.v (.int .i64 z),.v (.int .i64 (lev p.label)),.v (.int .i64 w),.v (.int .i64 p.ck),.v (.int .i64 p.cn),.v (.int .i64 (lev p.cl)),.v (.int .i64 p.ca)]]=fv (L ++ [vy lev p to]):=by
 subst hw ht;simp [fv,vx,vy]
abbrev NI (S:Sch) (f:Nat->Nat->Bool) (t:Ty) (me:Nat) (q e:Nat):St:=
 ⟨[(1,⟨[],.sl 1 (cz (dm S.ae.length f)) none⟩),(3,⟨[],.v (.int .i64 me)⟩),(4,⟨[],.loc 0 0⟩),(6,⟨[],.loc 1 0⟩),(8,⟨[],.loc 2 0⟩),(9,⟨[],.loc 3 0⟩),(10,⟨[],.v (.int .i64 e)⟩)],
  [eK S,dK t,[.v (.int .i64 0),.v (.int .i64 0),.v (.int .i64 0),.v (.int .i64 0),.v (.int .i64 0),.v (.slice none 0 0),.v (.slice none 0 0)],
  [.v (.int .i64 t.h.ag),.v (.int .i64 t.h.aC),.v (.int .i64 t.h.lo),.v (.int .i64 t.h.hi),.v (.int .i64 t.h.most),.sl 1 (dF (av (t.h.af.take e))) (some 0),.v (.slice none 0 0)]],[⟨q,9,1,none⟩]⟩
abbrev Df (S:Sch) (f:Nat->Nat->Bool) (t:Ty) (q1 q2:Nat) (L:List Ed) (nx e:Nat):St:=
 ⟨[(1,⟨[],.sl 1 (cz (dm S.ae.length f)) none⟩),(4,⟨[],.loc 0 0⟩),(6,⟨[],.loc 1 0⟩),(8,⟨[],.loc 2 0⟩),(9,⟨[],.loc 3 0⟩),(11,⟨[],.v (.int .i64 nx)⟩),(12,⟨[],.v (.int .i64 e)⟩)],
  [eK S,dK t,[.v (.int .i64 0),.v (.int .i64 0),.v (.int .i64 0),.v (.int .i64 0),.v (.int .i64 0),.v (.slice none 0 0),.v (.slice none 0 0)],
  [.v (.int .i64 t.h.ag),.v (.int .i64 t.h.aC),.v (.int .i64 t.h.lo),.v (.int .i64 t.h.hi),.v (.int .i64 t.h.most),.sl 1 (dF (av t.h.af)) (some 0),.sl 10 (fv L) (some 1)]],[⟨q1,9,1,none⟩,⟨q2,168,10,none⟩]⟩
set_option maxHeartbeats 2000000 in
theorem F4 (S:Sch) (hS:S.wt<=1099511627776) (hl:(latF S.ae S.order).1=0) (UE:S.types.length<=64) (hr:∀ x∈S.types,tB S x.2=true) (hlo:∀ i,i < S.types.length->∃ k,endI S (S.types.length + 1) i=some k)
  (t:Ty) (ht:t.wt<=1099511627776) (hk:(j9 S t).1=0) (me:Nat) (hme:me<=1099511627776) :
  EvP Tryz.prog 76 [.agg (eK S),.sl 1 (cz (dm S.ae.length (ez S.ae.length (cT (av S.ae) S.order)))) none,.agg (dK t),.v (.int .i64 me)] (.agg (jR (Qw (ie S) S t me))):=by
 obtain ⟨hL,JP⟩:=kU hl;have ki:=hL.pos;unfold Sch.wt at hS;have FN:=fun l (h:wdsWt l<=1099511627776)=>JY S.ae (ez S.ae.length (cT (av S.ae) S.order)) ki JP (by omega) l h;have hls:∀ l,ie S l=Ap (ez S.ae.length (cT (av S.ae) S.order)) (av S.ae) l:=fun _=>rfl;have Qx:=fun s i k=>vN S UE (by omega) hr s i k;have eJ:=jE S;generalize ez S.ae.length (cT (av S.ae) S.order)=f at FN hls ⊢;obtain ⟨h,ps⟩:=t;have Ul:=(lU hk).2;simp only [Ty.wt,Hd.wt] at ht;have iE:=ps.fb;have hc:=ps.ej;have mw:=ps.fL;have hwl:=bg h.af;generalize VD:ie S=lev at hls ⊢;obtain ⟨ae,order,types,⟨rh,rp⟩⟩:=S;simp only at hS UE hr hlo FN hls Qx eJ Ul;refine ev_go (P:=Tryz.prog) tt tt_ok 5000 131 [.cell 8 155] Tryz.func76 rfl Tryz.ntmps76 rfl (nL rfl) (fun E9 w9 hn9 hm9=>?_);refine aq (fun j st=>∃ e:Nat,st=NI ⟨ae,order,types,.mk rh rp⟩ f (.mk h ps) me e e/\e<=h.af.length/\j=h.af.length - e) h.af.length (NI ⟨ae,order,types,.mk rh rp⟩ f (.mk h ps) me 0 0) (dj 4 ⟨0,9,1,none⟩ rfl rfl rfl (by repeat' (first | exact rfl | exact ah rfl | exact aX (Nat.le_refl _) rfl | exact aX (Nat.le_refl _) rfl | refine ⟨_,_,rfl,?_,?_⟩)) rfl rfl zS) ⟨0,rfl,by omega,by omega⟩ ?_;rintro j st ⟨e,rfl,he,rfl⟩;refine br (fun hL=>?_) (fun hL=>?_)
 ·have ap:e < h.af.length:=by have:=hL;simp [aw] at this;exact this
  obtain ⟨w,hw⟩:∃ w,h.af[e]? = some w:=⟨_,gE ap⟩;have eE:=jb hw;have dW:(dF (av (h.af.take e))).length=e:=by simp [dF,av];omega
  refine aP mo (by decide +kernel) ?_;refine ⟨_,⟨by omega,aK hw⟩,?_⟩;refine ⟨dW,⟨by simp only [Ty.h];rw [dW];simp [maxLen];omega,by simp only [Ty.h];rw [dW];simp;omega⟩,?_⟩;exact ⟨NI ⟨ae,order,types,.mk rh rp⟩ f (.mk h ps) me (e + 1) (e + 1),(az 4 rfl (yc ap eE) rfl rfl rfl (tg ap eE)),h.af.length - (e + 1),by omega,e + 1,rfl,by omega,rfl⟩
 have aO:e=h.af.length:=by have:=hL;simp [aw] at this;omega
 have Zn:IntKind.i64.wrap ((me:Int) + 1)=((me + 1:Nat):Int):=by rw [wrap64 (by omega) (by omega)];omega
 have I4:dF (av (h.af.take e))=dF (av h.af):=by rw [aO,List.take_length]
 refine aq (fun j st=>∃ (e q nx:Nat) (L:List Ed),st=Df ⟨ae,order,types,.mk rh rp⟩ f (.mk h ps) h.af.length q L nx e/\q=e/\L.length=e/\e<=ps.len/\nx + (ps.drop e).nn=me + 1 + ps.nn/\edsP lev ⟨ae,order,types,.mk rh rp⟩ ps (me + 1)=L ++ edsP lev ⟨ae,order,types,.mk rh rp⟩ (ps.drop e) nx/\j=ps.len - e) ps.len
  (Df ⟨ae,order,types,.mk rh rp⟩ f (.mk h ps) e 0 [] (me + 1) 0) (dj 4 ⟨0,168,10,none⟩ rfl rfl rfl (by repeat' (first | exact rfl | exact ah rfl | exact ak Zn | exact cP I4 rfl | exact aX (Nat.le_refl _) rfl | exact aX (Nat.le_refl _) rfl | refine ⟨_,_,rfl,?_,?_⟩)) rfl rfl (by repeat' (first | exact trivial | exact ah rfl | exact ak Zn | exact cP I4 rfl | exact aX (Nat.le_refl _) rfl | refine ⟨⟨_,rfl,?_⟩,?_⟩))) ⟨0,0,me + 1,[],by rw [aO],rfl,rfl,by omega,rfl,rfl,by omega⟩ ?_
 clear he hL aO I4 e;rintro j st ⟨e,q,nx,L,rfl,hq,Zk,he,JH,aH,rfl⟩;refine br (fun hL=>?_) (fun hL=>?_)
 ·have ap:e < ps.len:=by simpa [aF] using hL
  obtain ⟨p,u,hx⟩:=Pts.ei ap;have Cm:=Pts.fI (mG hx);have hw1:p.name.wt + wdsWt p.label + wdsWt p.cl<=p.wt:=by simp only [Ph.wt];omega
  rw [Pts.drop_cons hx,edsP] at aH;rw [Pts.drop_cons hx,Pts.nn] at JH;have Bp:=FN p.label (by omega);have Pa:=FN p.cl (by omega);unfold JG at Bp Pa;rw [<- hls] at Bp Pa;obtain ⟨uh,us⟩:=u;refine ⟨_,⟨by omega,bH hx⟩,?_⟩;refine br (fun hw=>?_) (fun hw=>?_)
  all_goals
   refine call_p Rk (Bp) ax rfl ?_;refine call_p Rk (Pa) ax rfl ?_;have dW:(fv L).length=q:=by rw [cE,Zk,hq]
   refine br (fun hB=>?_) (fun hB=>?_)
   ·have hB:p.bare=true:=hB;have nK:tR ⟨ae,order,types,.mk rh rp⟩ p (.mk uh us) nx = -1:=by simp [tR,hB]
    rw [hB] at aH JH;refine ⟨dW,⟨by rw [dW];simp [maxLen];omega,by rw [dW];simp;omega⟩,?_⟩;exact ⟨Df ⟨ae,order,types,.mk rh rp⟩ f (.mk h ps) h.af.length (q + 1) (L ++ [vy lev p (tR ⟨ae,order,types,.mk rh rp⟩ p (.mk uh us) nx)]) nx (e + 1),(az 4 rfl (by repeat' (first | exact rfl | exact ah rfl | exact ak (cx ap (by omega)) | exact cP (fG (rQ hw) nK) rfl | exact cP (fG (rR hw) nK) rfl | refine ⟨_,_,rfl,?_,?_⟩)) rfl rfl rfl (by repeat' (first | exact trivial | exact ah rfl | exact ak (cx ap (by omega)) | exact cP (fG (rQ hw) nK) rfl | exact cP (fG (rR hw) nK) rfl | refine ⟨⟨_,rfl,?_⟩,?_⟩))),ps.len - (e + 1),by omega,e + 1,q + 1,nx,_,rfl,by omega,by simp [Zk],by omega,by rw [<- JH];simp,by rw [aH];simp,rfl⟩
   ·have hB:p.bare=false:=hB;have gF:=AH Ul (mG hx) hB;refine br (fun h9=>?_) (fun h9=>?_)
    ·have h9:uh.ag=9:=by simpa using h9
     obtain ⟨i,hi⟩:=Option.ne_none_iff_exists'.1 ((lU gF).1 h9);obtain ⟨k,hk⟩:=hlo i (by have:=(cK hi).1;omega);have nK:tR ⟨ae,order,types,.mk rh rp⟩ p (.mk uh us) nx=(firstA ⟨ae,order,types,.mk rh rp⟩ k:Int):=by simp [tR,hB,mT,Ty.h,h9,Uk,hi,namedN,hk]
     refine call_p WV (Qx uh.name.s i k hi hk) ax rfl ?_;refine ⟨dW,⟨by rw [dW];simp [maxLen];omega,by rw [dW];simp;omega⟩,?_⟩;exact ⟨Df ⟨ae,order,types,.mk rh rp⟩ f (.mk h ps) h.af.length (q + 1) (L ++ [vy lev p (tR ⟨ae,order,types,.mk rh rp⟩ p (.mk uh us) nx)]) nx (e + 1),(az 4 rfl (by repeat' (first | exact rfl | exact ah rfl | exact ak (cx ap (by omega)) | exact cP (fG (rQ hw) nK) rfl | exact cP (fG (rR hw) nK) rfl | refine ⟨_,_,rfl,?_,?_⟩)) rfl rfl rfl (by repeat' (first | exact trivial | exact ah rfl | exact ak (cx ap (by omega)) | exact cP (fG (rQ hw) nK) rfl | exact cP (fG (rR hw) nK) rfl | refine ⟨⟨_,rfl,?_⟩,?_⟩))),ps.len - (e + 1),by omega,e + 1,q + 1,nx,_,rfl,by omega,by simp [Zk],by omega,by rw [<- JH];simp [hB,Ty.nn,h9],by rw [aH];simp [hB,Ty.nn,h9],rfl⟩
    ·have h9:¬ uh.ag=9:=by simpa using h9
     have nK:tR ⟨ae,order,types,.mk rh rp⟩ p (.mk uh us) nx=(nx:Int):=by simp [tR,hB,mT,Ty.h,h9]
     have hnn:=(Ty.mk uh us).fL;have hct:=(Ty.mk uh us).ej
     have sA:IntKind.i64.wrap ((nx:Int) + (gK (flatT (.mk uh us))).length)=((nx + (Ty.mk uh us).nn:Nat):Int):=by
      rw [dB,jf,wrap64 (by omega) (by omega)];omega
     refine call_p PK (nM _ (.mk uh us) (Nat.le_refl _) (by omega)) ax rfl ?_;refine ⟨dW,⟨by rw [dW];simp [maxLen];omega,by rw [dW];simp;omega⟩,?_⟩;exact ⟨Df ⟨ae,order,types,.mk rh rp⟩ f (.mk h ps) h.af.length (q + 1) (L ++ [vy lev p (tR ⟨ae,order,types,.mk rh rp⟩ p (.mk uh us) nx)]) (nx + (Ty.mk uh us).nn) (e + 1),(az 4 rfl (by repeat' (first | exact rfl | exact ah rfl | exact ak (cx ap (by omega)) | exact ak sA | exact cP (fG (rQ hw) nK) rfl | exact cP (fG (rR hw) nK) rfl | refine ⟨_,_,rfl,?_,?_⟩)) rfl rfl rfl (by repeat' (first | exact trivial | exact ah rfl | exact ak (cx ap (by omega)) | exact ak sA | exact cP (fG (rQ hw) nK) rfl | exact cP (fG (rR hw) nK) rfl | refine ⟨⟨_,rfl,?_⟩,?_⟩))),ps.len - (e + 1),by omega,e + 1,q + 1,(nx + (Ty.mk uh us).nn),_,rfl,by omega,by simp [Zk],by omega,by rw [<- JH];simp [hB];omega,by rw [aH];simp [hB],rfl⟩
 have aO:e=ps.len:=by simp [aF] at hL;omega
 rw [aO,Pts.cQ,edsP,List.append_nil] at aH;unfold Qw;simp only [Ty.h,Ty.ps];rw [aH];exact ⟨_,ax,rfl⟩
def ndsA (lev:List Wd->Int) (s:Sch):List Ty->Nat->List Nd
 | [],_=>[]
 | t :: r,k=>ndsT lev s t k ++ ndsA lev s r (k + t.nn)
def qj (l:List Ty):Nat:=(l.map Ty.nn).sum
theorem mW (t:Ty) (l:List Ty):qj (t :: l)=t.nn + qj l:=by simp [qj]
theorem tV (a b:List Ty):qj (a ++ b)=qj a + qj b:=by simp [qj]
theorem kW (lev:List Wd->Int) (s:Sch):∀ (l:List Ty) (k:Nat),(ndsA lev s l k).length=qj l
 | [],_=>rfl
 | t :: r,k=>by simp only [ndsA,List.length_append,jF,kW lev s r,mW]
theorem vO (lev:List Wd->Int) (s:Sch):∀ (a b:List Ty) (k:Nat),ndsA lev s (a ++ b) k=ndsA lev s a k ++ ndsA lev s b (k + qj a)
 | [],b,k=>by simp [ndsA,qj]
 | t :: r,b,k=>by rw [List.cons_append,ndsA,ndsA,vO lev s r b,List.append_assoc,mW,Nat.add_assoc]
theorem vP (lev:List Wd->Int) (s:Sch):∀ (l:List (Wd × Ty)) (k:Nat),ndsAll lev s l k=ndsA lev s (l.map fun x=>x.2) k
 | [],_=>rfl
 | x :: r,k=>by rw [ndsAll,List.map_cons,ndsA,vP lev s r]
theorem vQ (s:Sch):(qf s).length=qj (eH s):=by rw [qf,vP,kW];all_goals rfl
theorem jg (s:Sch):aR s=ndsA (ie s) s (fy s) 0:=by
 unfold aR fy;rw [vO,vQ,qf,vP,ndsA,ndsA,List.append_nil,Nat.zero_add];rfl
theorem JZ {lev:List Wd->Int} {s:Sch} {l:List Ty} {e:Nat} {t:Ty} (h:l[e]? = some t):ndsA lev s (l.take (e + 1)) 0=ndsA lev s (l.take e) 0 ++ ndsT lev s t (ndsA lev s (l.take e) 0).length:=by
 rw [List.take_add_one,h,vO,kW,Nat.zero_add];simp [ndsA]
theorem Dg (l:List Ty):∀ e,qj (l.take e)<=qj l:=by
 intro e;have:=tV (l.take e) (l.drop e);rw [List.take_append_drop] at this;omega
theorem F5 (s:Sch):qj (fy s)<=s.wt:=by
 have key:∀ l:List (Wd × Ty),qj (l.map fun x=>x.2)<=nmsWt l:=by
  intro l
  induction l with
  | nil=>exact Nat.le_refl _
  | cons x r ih=>
   have:=x.2.fL;have:=x.2.ej;simp only [List.map_cons,mW,nmsWt];omega
 have h1:=key s.types;have h2:=s.root.fL;have h3:=s.root.ej;unfold fy;rw [tV,mW];unfold Sch.wt eH;simp only [qj,List.map_nil,List.sum_nil] at h1 ⊢;omega
mutual
theorem vR {X:Lx} {L:List ByteArray}:∀ (t:Ty),(knT X L t).1=0->∀ u∈flatT t,(knT X L u).1=0
 | .mk h ps,hk,u,hu=>by
  rw [flatT] at hu;split at hu
  ·cases hu
  ·rcases List.mem_cons.1 hu with rfl | hu
   ·exact hk
   ·exact Dh ps (lU hk).2 u hu
theorem Dh {X:Lx} {L:List ByteArray}:∀ (ps:Pts),(knP X L ps).1=0->∀ u∈flatP ps,(knT X L u).1=0
 | .nil,_,u,hu=>by cases hu
 | .cons p v r,hk,u,hu=>by
  rw [flatP] at hu;rcases List.mem_append.1 hu with hu | hu
  ·cases hb:p.bare with
   | true=>rw [hb] at hu;cases hu
   | false=>rw [hb] at hu;exact vR v ((rH hk).1 hb) u hu
  ·exact Dh r (rH hk).2 u hu
end
mutual
theorem vS:∀ (t:Ty),∀ u∈flatT t,u.wt<=t.wt
 | .mk h ps,u,hu=>by
  rw [flatT] at hu;split at hu
  ·cases hu
  ·rcases List.mem_cons.1 hu with rfl | hu
   ·exact Nat.le_refl _
   ·have:=Di ps u hu;simp only [Ty.wt];omega
theorem Di:∀ (ps:Pts),∀ u∈flatP ps,u.wt<=ps.wt
 | .nil,u,hu=>by cases hu
 | .cons p v r,u,hu=>by
  rw [flatP] at hu;simp only [Pts.wt];rcases List.mem_append.1 hu with hu | hu
  ·split at hu
   ·cases hu
   ·have:=vS v u hu;omega
  ·have:=Di r u hu;omega
end
theorem NJ {lev:List Wd->Int} {s:Sch} {t u:Ty} {n k:Nat} (h:(flatT t)[k]? = some u):(ndsT lev s t n)[k]? = some (Qw lev s u (n + k)):=by
 rw [tU,List.getElem?_map,List.getElem?_zipIdx,h];simp
structure vT (S:Sch):Prop where
 lat:(latF S.ae S.order).1=0
 l64:S.types.length<=64
 kn:∀ t∈fy S,(j9 S t).1=0
 ends:∀ i,i < S.types.length->∃ k,endI S (S.types.length + 1) i=some k
 wr:∀ t∈fy S,(wrong t 1 0).1.1=0
theorem NK:∀ {l:List Ty} {m:Int},(eaA l m).1.1=0->∀ t∈l,(wrong t 1 0).1.1=0
 | [],_,_,t,ht=>by cases ht
 | u :: r,m,h,t,ht=>by
  rw [eaA] at h;split at h
  ·rename_i h1;exact (h1 h).elim
  ·rename_i h1;rcases List.mem_cons.1 ht with rfl | ht
   ·exact (nJ (by simpa using h1)).2.2.1
   ·exact NK h t ht
theorem qk {S:Sch} (h:(ky S).1=0):vT S:=by
 rw [Ic] at h;split at h
 ·rename_i h1;exact (h1 h).elim
 rename_i h1;split at h
 ·rename_i h2;exact (h2 h).elim
 rename_i h2;split at h
 ·rename_i h3;exact (h3 h).elim
 rename_i h3;split at h
 ·rename_i h4;exact (h4 h).elim
 rename_i h4
 exact {
  lat:=by simpa using h1
  l64:=by
   have h2:(dQ S).1=0:=by simpa using h2
   unfold dQ at h2;split at h2
   ·cases h2
   ·omega
  kn:=F3 (by simpa using h4)
  ends:=C3 h
  wr:=NK (by simpa using h3) }
theorem vT.refs {S:Sch} (h:vT S):∀ x∈S.types,tB S x.2=true:=fun x hx=>Au (h.kn x.2 (List.mem_append_left _ (List.mem_map_of_mem hx)))
abbrev wC (S:Sch) (f:Nat->Nat->Bool) (N:DV) (z:Int):List DV:=[.sl 2 (bu S.ae) none,.sl 1 (cz (dm S.ae.length f)) none,N,.v (.int .i64 z)]
abbrev NL (S:Sch) (T:List Ty) (f:Nat->Nat->Bool) (L:List Nd) (z:Int) (e q:Nat):St:=
 ⟨[(1,⟨[],.loc 0 0⟩),(2,⟨[],.loc 1 0⟩),(3,⟨[],.loc 2 0⟩),(4,⟨[],.sl 9 (gK T) none⟩),(5,⟨[],.v (.int .i64 e)⟩)],[eK S,[.v (.slice none 0 0),.v (.slice none 0 0),.v (.slice none 0 0),.v (.int .i64 0)],wC S f (.sl 7 (cR L) (some 0)) z],[⟨q,155,7,none⟩]⟩
abbrev NN (S:Sch) (T:List Ty) (f:Nat->Nat->Bool) (L:List Nd) (z:Int) (e:Nat) (F:List Ty) (k q:Nat):St:=
 ⟨[(1,⟨[],.loc 0 0⟩),(2,⟨[],.loc 1 0⟩),(3,⟨[],.loc 2 0⟩),(4,⟨[],.sl 9 (gK T) none⟩),(5,⟨[],.v (.int .i64 e)⟩),(6,⟨[],.sl 9 (gK F) none⟩),(7,⟨[],.v (.int .i64 k)⟩)],[eK S,[.v (.slice none 0 0),.v (.slice none 0 0),.v (.slice none 0 0),.v (.int .i64 0)],wC S f (.sl 7 (cR L) (some 0)) z],[⟨q,155,7,none⟩]⟩
theorem ql (S:Sch) (hS:S.wt<=1099511627776) (hR:(ky S).1=0) :
  EvP Tryz.prog 30 [.agg (eK S)] (.agg (wC S (ez S.ae.length (cT (av S.ae) S.order)) (.sl 7 (cR (aR S)) none) (bN S))):=by
 have Pd:=qk hR;obtain ⟨_,JP⟩:=kU Pd.lat;have VJ:=AE hS;have TO:=F5 S;have hN0:=(oQ Pd.lat).2.2.1;have hrr:=Pd.refs;have fw:=fun t ht hk me hme=>F4 S hS Pd.lat Pd.l64 hrr Pd.ends t ht hk me hme;have hwS:=hS;unfold Sch.wt at hS;have Qy:=C6 S.ae S.order JP (by omega) (by omega) hN0;have gH:=Dd S (by have:=Pd.l64;omega);have hlen:(fy S).length=S.types.length + 1:=by simp [fy,eH]
 have UE:=Pd.l64;have Qx:=fun s i k=>vN S UE (by omega) hrr s i k;have Lj:=Pd.kn;have vU:=Pd.ends;have eJ:=jE S
 have gN:(fy S)[S.types.length]? = some S.root:=by
  unfold fy;rw [List.getElem?_append_right (by simp [eH])];simp [eH]
 have J0:=vQ S
 have iH:(fy S).take S.types.length=eH S:=by
  unfold fy;rw [List.take_append_of_le_length (by simp [eH])];exact List.take_of_length_le (by simp [eH])
 rw [jg];unfold bN;generalize ie S=lev at fw ⊢;generalize ez S.ae.length (cT (av S.ae) S.order)=f at fw Qy ⊢;obtain ⟨ae,order,types,⟨rh,rp⟩⟩:=S;simp only at hS Qy hlen UE vU eJ gN iH;generalize hT:fy ⟨ae,order,types,.mk rh rp⟩=T at VJ TO gH hlen Lj gN iH ⊢;refine ev_go (P:=Tryz.prog) tt tt_ok 5000 67 [.cell 2 78] Tryz.func30 rfl Tryz.ntmps30 rfl (nL rfl) (fun E9 w9 hn9 hm9=>?_);apply nz (fun _=>false) 6 8 [0,1,2,3,4,5,6,7,8,9] [0,1,2,3,4,5,8,6,7,9] 2 2 mo (by decide +kernel)
 ·refine ay TA (Qy) ax rfl ?_;refine (?_:@Eq St _ _);exact rfl
 ·refine ay TA (Qy) ax rfl ?_;refine (⟨rfl,rfl,?_⟩:_/\_/\_)
  repeat' (first | exact trivial | refine ⟨rfl,?_⟩)
 ·rfl
 refine call_p WU (gH) ax rfl ?_
 have hLN:∀ e,(ndsA lev ⟨ae,order,types,.mk rh rp⟩ (T.take e) 0).length<=1099511627776:=fun e=>by
  rw [kW];have:=Dg T e;omega
 refine aq (fun j st=>∃ (e q:Nat) (z:Int),st=NL ⟨ae,order,types,.mk rh rp⟩ T f (ndsA lev ⟨ae,order,types,.mk rh rp⟩ (T.take e) 0) z e q/\q=(ndsA lev ⟨ae,order,types,.mk rh rp⟩ (T.take e) 0).length/\e<=types.length + 1/\(e=types.length + 1->z=(qj (T.take types.length):Nat))/\j=types.length + 1 - e) (types.length + 1)
  (NL ⟨ae,order,types,.mk rh rp⟩ T f [] 0 0 0) (dj 3 ⟨0,155,7,none⟩ rfl rfl rfl (by repeat' (first | exact rfl | exact ah rfl | exact aX (Nat.le_refl _) rfl | exact aX (Nat.le_refl _) rfl | refine ⟨_,_,rfl,?_,?_⟩)) rfl rfl zS) ⟨0,0,0,rfl,rfl,by omega,fun h=>by omega,by omega⟩ ?_
 rintro j st ⟨e,q,z,rfl,hq,he,hz,rfl⟩;refine br (fun hL=>?_) (fun hL=>?_)
 ·have ap:e < types.length + 1:=by have:=hL;simp [dB,hlen] at this;omega
  obtain ⟨t,ht⟩:∃ t,T[e]? = some t:=⟨_,gE (by omega)⟩;have MH:=VJ t (mG ht);have htk':=Lj t (mG ht);have Le:=nM _ t (Nat.le_refl _) MH;have hfk:=vR t htk';have YU:=vS t;have VK:=JZ (lev:=lev) (s:=⟨ae,order,types,.mk rh rp⟩) ht;have hfln:=jf t;have gI:=jF lev ⟨ae,order,types,.mk rh rp⟩ t (ndsA lev ⟨ae,order,types,.mk rh rp⟩ (T.take e) 0).length;have iR:=fun k u (h:(flatT t)[k]? = some u)=>NJ (lev:=lev) (s:=⟨ae,order,types,.mk rh rp⟩) (n:=(ndsA lev ⟨ae,order,types,.mk rh rp⟩ (T.take e) 0).length) h;have hLe:=hLN e;have UF:=hLN (e + 1);have hLs:=kW lev ⟨ae,order,types,.mk rh rp⟩ (T.take e) 0;rw [VK,List.length_append] at UF;obtain ⟨u,us⟩:=t;generalize ndsA lev ⟨ae,order,types,.mk rh rp⟩ (T.take e) 0=L at hq VK gI iR hLe UF hLs ⊢;generalize ndsT lev ⟨ae,order,types,.mk rh rp⟩ (.mk u us) L.length=M at VK gI iR UF;generalize flatT (.mk u us)=F at Le hfk YU hfln iR;have cH:((cR L).length:Int)=(L.length:Int):=by rw [kV]
  refine ⟨_,⟨by omega,jH ht⟩,?_⟩;refine call_p PK (Le) ax rfl ?_
  refine aq (fun j st=>∃ (k q:Nat),st=NN ⟨ae,order,types,.mk rh rp⟩ T f (L ++ M.take k) (L.length:Int) e F k q/\q=(L ++ M.take k).length/\k<=F.length/\j=F.length - k) F.length
   (NN ⟨ae,order,types,.mk rh rp⟩ T f (L ++ []) (L.length:Int) e F 0 q) (az 3 rfl (by repeat' (first | exact rfl | exact ah rfl | exact ak cH | exact cP (by rw [List.append_nil]) rfl | refine ⟨_,_,rfl,?_,?_⟩)) rfl rfl rfl (by repeat' (first | exact trivial | exact ah rfl | exact ak cH | exact cP (by rw [List.append_nil]) rfl | refine ⟨⟨_,rfl,?_⟩,?_⟩))) ⟨0,q,rfl,by simp [hq],by omega,by omega⟩ ?_
  rintro j st ⟨k,q',rfl,iG,hk,rfl⟩;refine br (fun jD=>?_) (fun jD=>?_)
  ·have gF:k < F.length:=by have:=jD;simp [dB] at this;exact this
   obtain ⟨v,hv⟩:∃ v,F[k]? = some v:=⟨_,gE gF⟩;have Vo:=mG hv;have Zo:=YU v Vo;have dW:(cR (L ++ M.take k)).length=q':=by rw [kV,iG]
   have kE:q'=L.length + k:=by rw [iG,List.length_append,List.length_take];omega
   have hnd:=fw v (by omega) (hfk v Vo) (cR (L ++ M.take k)).length (by omega)
   have eE:cR (L ++ M.take k) ++ [jR (Qw lev ⟨ae,order,types,.mk rh rp⟩ v (cR (L ++ M.take k)).length)]=cR (L ++ M.take (k + 1)):=by
    rw [List.take_add_one,iR k v hv,dW,kE];simp [cR]
   obtain ⟨vh,vp⟩:=v;refine aP mo (by decide +kernel) ?_;refine ⟨_,⟨by omega,jH hv⟩,?_⟩;refine ay en76 (hnd) ax rfl ?_;refine ⟨dW,⟨by rw [dW];simp [maxLen];omega,by rw [dW];simp;omega⟩,?_⟩;exact ⟨NN ⟨ae,order,types,.mk rh rp⟩ T f (L ++ M.take (k + 1)) (L.length:Int) e F (k + 1) (q' + 1),(az 3 rfl (yc gF eE) rfl rfl rfl (tg gF eE)),F.length - (k + 1),by omega,k + 1,q' + 1,rfl,by rw [kE];simp;omega,by omega,rfl⟩
  ·have aO:k=F.length:=by have:=jD;simp [dB] at this;omega
   have hM:M.take k=M:=List.take_of_length_le (by omega);rw [hM] at iG;refine ⟨NL ⟨ae,order,types,.mk rh rp⟩ T f (ndsA lev ⟨ae,order,types,.mk rh rp⟩ (T.take (e + 1)) 0) (L.length:Int) (e + 1) q',(az 3 rfl (by repeat' (first | exact rfl | exact ah rfl | exact ak (cx ap (by omega)) | exact cP (by rw [VK,hM]) rfl | refine ⟨_,_,rfl,?_,?_⟩)) rfl rfl rfl (by repeat' (first | exact trivial | exact ah rfl | exact ak (cx ap (by omega)) | exact cP (by rw [VK,hM]) rfl | refine ⟨⟨_,rfl,?_⟩,?_⟩))),types.length + 1 - (e + 1),by omega,e + 1,q',_,rfl,by rw [VK,iG],by omega,fun he1=>?_,rfl⟩;rw [hLs,show e=types.length by omega]
 ·have aO:e=types.length + 1:=by have:=hL;simp [dB,hlen] at this;omega
  have hTa:T.take e=T:=List.take_of_length_le (by omega);rw [hTa];have hz:=hz aO;rw [iH,<- J0] at hz;have Se:=Lj (.mk rh rp) (mG gN);refine br (fun h9=>?_) (fun h9=>?_)
  ·have h9:rh.ag=9:=by simpa using h9
   obtain ⟨i,hi⟩:=Option.ne_none_iff_exists'.1 ((lU Se).1 h9);obtain ⟨k,hk⟩:=vU i (by have:=(cK hi).1;omega);have nK:mT ⟨ae,order,types,.mk rh rp⟩ (.mk rh rp) (qf ⟨ae,order,types,.mk rh rp⟩).length=(firstA ⟨ae,order,types,.mk rh rp⟩ k:Int):=by simp [mT,Ty.h,h9,Uk,hi,namedN,hk]
   refine call_p WV (Qx rh.name.s i k hi hk) ax rfl ?_;rw [nK];exact ⟨_,ax,rfl⟩
  ·have h9:¬ rh.ag=9:=by simpa using h9
   have nK:mT ⟨ae,order,types,.mk rh rp⟩ (.mk rh rp) (qf ⟨ae,order,types,.mk rh rp⟩).length=z:=by simp [mT,Ty.h,h9,hz]
   rw [nK];exact ⟨_,ax,rfl⟩
def Sh (t:Ty):Prop:=∃ d m,(wrong t d m).1.1=0
def Ie (ag:Int) (p:Ph) (t:Ty):Prop:=(p.bare=true/\ag=8/\sameTy t bK=true/\bA p eP=true)∨(p.bare=false/\(dr p).1=0/\Sh t)
structure TyF (h:Hd) (ps:Pts):Prop where
 k1:1<=h.ag
 k9:h.ag<=9
 own:uV h ps=true
 int:h.ag=2->h.lo<=h.hi
 text:h.ag=3->0<=h.most/\h.most<=4096
 enum:h.ag=4->gZ h=(0,0)
 one:h.ag=5∨h.ag=6->∃ p t,ps = .cons p t .nil/\p.name.s=al/\bA p eC=true/\0<=h.most/\h.most<=1024/\Sh t
 many:h.ag=7∨h.ag=8->ps.len<=64/\(h.ag=8->ps.len≠0)/\∀ i p t,ps.toList[i]? = some (p,t)->aD (pNames ps) i p.name=0/\Ie h.ag p t
theorem UG {h:Hd} {ps:Pts} (ho:¬ tu (.mk h ps)=false):uV h ps=true:=by
 rw [HI];cases hb:sameTy (.mk h ps) (mask (.mk h ps))
 ·exact absurd hb ho
 ·rfl
theorem mX {ag:Int} {all:List Wd}:∀ {ps:Pts} {i:Nat} {d m:Int},(wrongPts ag all i ps d m).1.1=0->(ag=7∨ag=8)->∀ j p t,ps.toList[j]? = some (p,t)->aD all (i + j) p.name=0/\Ie ag p t
 | .nil,i,d,m,_,_,j,p,t,hx=>by simp [Pts.toList] at hx
 | .cons q u r,i,d,m,he,hk,j,p,t,hx=>by
  simp only [wrongPts] at he;by_cases c0:aD all i q.name≠0
  ·rw [if_pos c0] at he;exact absurd he c0
  rw [if_neg c0] at he;have c0:aD all i q.name=0:=by simpa using c0
  have step:∀ d' m',(wrongPts ag all (i + 1) r d' m').1.1=0->Ie ag q u->aD all (i + j) p.name=0/\Ie ag p t:=by
   intro d' m' h hq
   cases j with
   | zero=>
    simp only [Pts.toList,List.getElem?_cons_zero,oI,Prod.mk.injEq] at hx;obtain ⟨rfl,rfl⟩:=hx;exact ⟨c0,hq⟩
   | succ j=>
    simp only [Pts.toList,List.getElem?_cons_succ] at hx;have:=mX h hk j p t hx
    rwa [show i + 1 + j=i + (j + 1) by omega] at this
  by_cases c1:q.bare=true
  ·rw [if_pos c1] at he;by_cases c2:ag=7∨sameTy u bK=false∨bA q eP=false
   ·rw [if_pos c2] at he;simp at he
   rw [if_neg c2] at he;refine step d m he (.inl ⟨c1,?_,?_,?_⟩)
   ·rcases hk with hk | hk
    ·exact absurd (.inl hk) c2
    ·exact hk
   ·cases hb:sameTy u bK
    ·exact absurd (.inr (.inl hb)) c2
    ·rfl
   ·cases hb:bA q eP
    ·exact absurd (.inr (.inr hb)) c2
    ·rfl
  ·rw [if_neg c1] at he;by_cases c2:(dr q).1≠0
   ·rw [if_pos c2] at he;exact absurd he c2
   rw [if_neg c2] at he;by_cases c3:(wrong u (d + 1) m).1.1≠0
   ·rw [if_pos c3] at he;exact absurd he c3
   rw [if_neg c3] at he;exact step d _ he (.inr ⟨by simpa using c1,by simpa using c2,d + 1,m,by simpa using c3⟩)
theorem F6:∀ {t:Ty},Sh t->TyF t.h t.ps
 | .mk h ps,⟨d,m,he⟩=>by
  simp only [Ty.h,Ty.ps];simp only [wrong] at he;by_cases c0:24 < d
  ·rw [if_pos c0] at he;simp at he
  rw [if_neg c0] at he;by_cases c1:512 < m + 1
  ·rw [if_pos c1] at he;simp at he
  rw [if_neg c1] at he;by_cases c2:h.ag < 1∨9 < h.ag
  ·rw [if_pos c2] at he;simp at he
  rw [if_neg c2] at he;by_cases c3:tu (.mk h ps)=false
  ·rw [if_pos c3] at he;simp at he
  rw [if_neg c3] at he;by_cases c4:(h.ag=2/\h.hi < h.lo)∨(h.ag=3/\(h.most < 0∨4096 < h.most))
  ·rw [if_pos c4] at he;simp at he
  rw [if_neg c4] at he;by_cases c5:h.ag=9/\aY h.name.s=false
  ·rw [if_pos c5] at he;simp at he
  rw [if_neg c5] at he;refine { k1:=by omega,k9:=by omega,own:=UG c3,int:=fun h2=>by omega,text:=fun h3=>by omega,enum:=fun h4=>?_,one:=fun h5=>?_,many:=fun h7=>?_ }
  ·rw [if_pos h4] at he;exact yu h he
  ·rw [if_neg (by omega),if_pos h5] at he
   match ps,he with
   | .nil,he=>simp [wrongOne] at he
   | .cons p t (.cons _ _ _),he=>simp [wrongOne] at he
   | .cons p t .nil,he=>
    simp only [wrongOne] at he;by_cases e0:p.name.s≠al∨bA p eC=false
    ·rw [if_pos e0] at he;simp at he
    rw [if_neg e0] at he;by_cases e1:h.most < 0∨1024 < h.most
    ·rw [if_pos e1] at he;simp at he
    rw [if_neg e1] at he;refine ⟨p,t,rfl,Classical.byContradiction fun hn=>e0 (.inl hn),?_,by omega,by omega,d + 1,_,he⟩;cases hb:bA p eC
    ·exact absurd (.inr hb) e0
    ·rfl
  ·rw [if_neg (by omega),if_neg (by omega),if_pos h7] at he;by_cases e0:h.ag=8/\ps.len=0
   ·rw [if_pos e0] at he;simp at he
   rw [if_neg e0] at he;by_cases e1:64 < ps.len
   ·rw [if_pos e1] at he;simp at he
   rw [if_neg e1] at he;refine ⟨by omega,fun h8=>fun hl=>e0 ⟨h8,hl⟩,fun i p t hx=>?_⟩;have:=mX he h7 i p t hx
   rwa [Nat.zero_add] at this
theorem TyF.sub {h:Hd} {ps:Pts} (hF:TyF h ps) {p:Ph} {u:Ty} (hm:(p,u)∈ps.toList) (hb:p.bare=false):Sh u:=by
 obtain ⟨i,hi⟩:=List.mem_iff_getElem?.1 hm
 have hlen:0 < ps.len:=by
  cases ps with
  | nil=>simp [Pts.toList] at hm
  | cons _ _ _=>simp [Pts.len]
 have hk:5<=h.ag/\h.ag<=8:=by
  have h1:=hF.own;unfold uV at h1;simp only [Bool.and_eq_true,Bool.or_eq_true,decide_eq_true_eq] at h1;have:=h1.1.1.2;omega
 by_cases h5:h.ag=5∨h.ag=6
 ·obtain ⟨q,t,rfl,_,_,_,_,hw⟩:=hF.one h5;simp only [Pts.toList,List.mem_singleton,Prod.mk.injEq] at hm;rw [hm.2];exact hw
 ·rcases ((hF.many (by omega)).2.2 i p u hi).2 with h1 | h1
  ·rw [h1.1] at hb;cases hb
  ·exact h1.2.2
mutual
theorem vV:∀ (t:Ty),Sh t->∀ u∈flatT t,Sh u
 | .mk h ps,hw,u,hu=>by
  rw [flatT] at hu;split at hu
  ·cases hu
  ·rcases List.mem_cons.1 hu with rfl | hu
   ·exact hw
   ·exact Dj ps (fun p v hm hb=>(F6 hw).sub hm hb) u hu
theorem Dj:∀ (ps:Pts),(∀ p v,(p,v)∈ps.toList->p.bare=false->Sh v)->∀ u∈flatP ps,Sh u
 | .nil,_,u,hu=>by cases hu
 | .cons p v r,hw,u,hu=>by
  rw [flatP] at hu;rcases List.mem_append.1 hu with hu | hu
  ·cases hb:p.bare with
   | true=>rw [hb] at hu;cases hu
   | false=>rw [hb] at hu;exact vV v (hw p v (by simp [Pts.toList]) hb) u hu
  ·exact Dj r (fun q w hm=>hw q w (by simp [Pts.toList,hm])) u hu
end
mutual
theorem Dk:∀ (t:Ty),∀ u∈flatT t,u.h.ag≠9
 | .mk h ps,u,hu=>by
  rw [flatT] at hu;split at hu
  ·cases hu
  ·rename_i h9;rcases List.mem_cons.1 hu with rfl | hu
   ·exact h9
   ·exact Dl ps u hu
theorem Dl:∀ (ps:Pts),∀ u∈flatP ps,u.h.ag≠9
 | .nil,u,hu=>by cases hu
 | .cons p v r,u,hu=>by
  rw [flatP] at hu;rcases List.mem_append.1 hu with hu | hu
  ·split at hu
   ·cases hu
   ·exact Dk v u hu
  ·exact Dl r u hu
end
mutual
theorem y5:∀ (t:Ty) (j:Nat) (u:Ty),(flatT t)[j]? = some u->j + u.nn<=t.nn
 | .mk h ps,j,u,hu=>by
  rw [flatT] at hu;by_cases h9:h.ag=9
  ·rw [if_pos h9] at hu;simp at hu
  rw [if_neg h9] at hu
  cases j with
  | zero=>
   simp only [List.getElem?_cons_zero,oI] at hu;subst hu;omega
  | succ j=>
   simp only [List.getElem?_cons_succ] at hu;have:=rS ps j u hu;rw [Ty.nn,if_neg h9];omega
theorem rS:∀ (ps:Pts) (j:Nat) (u:Ty),(flatP ps)[j]? = some u->j + u.nn<=ps.nn
 | .nil,j,u,hu=>by simp [flatP] at hu
 | .cons p v r,j,u,hu=>by
  rw [flatP] at hu;rw [Pts.nn]
  cases hb:p.bare with
  | true=>
   rw [hb] at hu;have:=rS r j u (by simpa using hu);simp only [if_true];omega
  | false=>
   rw [hb] at hu;simp only [Bool.false_eq_true,if_false] at hu ⊢;by_cases hj:j < (flatT v).length
   ·rw [List.getElem?_append_left hj] at hu;have:=y5 v j u hu;omega
   ·rw [List.getElem?_append_right (by omega)] at hu;have:=rS r _ u hu;have h2:=jf v;omega
end
theorem qm {lev:List Wd->Int} {s:Sch}:∀ {ps:Pts} {k:Nat} {e:Ed},e∈edsP lev s ps k->∃ p u k',(p,u)∈ps.toList/\e=vy lev p (tR s p u k')/\(p.bare=false->k' + u.nn<=k + ps.nn)
 | .nil,k,e,he=>by simp [edsP] at he
 | .cons p u r,k,e,he=>by
  rw [edsP] at he;rcases List.mem_cons.1 he with rfl | he
  ·refine ⟨p,u,k,by simp [Pts.toList],rfl,fun hb=>?_⟩;rw [Pts.nn,hb];simp
  ·obtain ⟨q,v,k',h1,h2,h3⟩:=qm he;refine ⟨q,v,k',by simp [Pts.toList,h1],h2,fun hb=>?_⟩;have:=h3 hb;rw [Pts.nn];omega
theorem oS {lev:List Wd->Int} {s:Sch}:∀ {ps:Pts} {k:Nat},(edsP lev s ps k).map Ed.name=av (pNames ps)
 | .nil,k=>rfl
 | .cons p u r,k=>by
  rw [edsP,List.map_cons,oS (ps:=r)];rfl
theorem y6 {f:Nat->Nat->Bool} {n:Nat} (hL:dZ f n):∀ e,e<=n->∃ b,b < n/\∀ x,x < e->f b x=true
 | 0,_=>⟨0,hL.pos,fun x hx=>by omega⟩
 | e + 1,he=>by
  obtain ⟨b,hb,fQ⟩:=y6 hL e (by omega);obtain ⟨k,hk⟩:=hL.mt b e hb (by omega);obtain ⟨g1,g2,g3,g4⟩:=oO hk;refine ⟨k,g1,fun x hx=>?_⟩;rcases Nat.lt_succ_iff_lt_or_eq.1 hx with hx | rfl
  ·exact hL.tr k b x g1 hb (by omega) g2 (fQ x hx)
  ·exact g3
theorem sK {f:Nat->Nat->Bool} {n:Nat} (hL:dZ f n) (l:List Nat) (hl:∀ x∈l,x < n):∃ c,ep f n l=some c:=by
 have key:∀ e,e<=l.length->∃ c,ep f n (l.take e)=some c:=by
  intro e
  induction e with
  | zero=>
   intro _;obtain ⟨b,hb,fQ⟩:=y6 hL n (Nat.le_refl _);exact ⟨b,oP hL hb fQ⟩
  | succ e ih=>
   intro he;obtain ⟨c,hc⟩:=ih (by omega);obtain ⟨x,hx⟩:∃ x,l[e]? = some x:=⟨_,gE (by omega)⟩;have xf:=hl x (mG hx);obtain ⟨k,hk⟩:=hL.jn c x (nI hc) xf;rw [List.take_add_one,hx];exact ⟨k,sG hL (fun y hy=>hl y (List.mem_of_mem_take hy)) xf hc hk⟩
 have:=key l.length (Nat.le_refl _)
 rwa [List.take_length] at this
theorem y7 {L:List ByteArray}:∀ {l:List Wd},(labW L l).1=0->∀ w∈l,∃ i,cD L w.s=some i
 | [],_,w,hw=>by cases hw
 | x :: r,h,w,hw=>by
  rw [labW] at h;split at h
  ·cases h
  ·rename_i h1;rcases List.mem_cons.1 hw with rfl | hw
   ·exact Option.ne_none_iff_exists'.1 h1
   ·exact y7 h w hw
theorem J1 {f:Nat->Nat->Bool} {L:List ByteArray} (hL:dZ f L.length) {l:List Wd} (h:(labW L l).1=0):∃ c:Nat,Ap f L l=c/\c < L.length:=by
 obtain ⟨c,hc⟩:=sK hL (lS L l) (fun x hx=>by
  unfold lS at hx;obtain ⟨w,hw,rfl⟩:=List.mem_map.1 hx;obtain ⟨i,hi⟩:=y7 h w hw;rw [hi]
  exact (cK hi).1)
 refine ⟨c,?_,nI hc⟩;unfold Ap;rw [if_pos h,hc];rfl
structure EdOK (L N:Nat) (e:Ed):Prop where
 to0:e.bare=true->e.to = -1
 to1:e.bare=false->∃ k:Nat,e.to=k/\k < N
 lab:∃ k:Nat,e.label=k/\k < L
 seen:∃ k:Nat,e.seen=k/\k < L
 wide:1<=e.wide/\e.wide<=64
 ck:0<=e.ck/\e.ck<=3
 cn:(e.ck=0->e.cn=0)/\(e.ck=1->1<=e.cn)/\(e.ck=2->0<=e.cn/\e.cn<=4096)/\(e.ck=3->e.cn=0)
structure dI (L N:Nat) (n:Nd):Prop where
 k1:1<=n.ag
 k8:n.ag<=8
 lohi:n.ag=2->n.lo<=n.hi
 lo0:n.ag≠2->n.lo=0/\n.hi=0
 Si:n.ag=3->0<=n.most/\n.most<=4096
 Sj:n.ag=5->0<=n.most/\n.most<=1024
 Sk:n.ag≠3->n.ag≠5->n.most=0
 af:n.ag=4->n.af ≠ []/\n.af.length<=64/\n.af.Nodup/\∀ s∈n.af,aY s=true
 UH:n.ag≠4->n.af=[]
 leaf:n.ag < 5->n.au=[]
 one:n.ag=5∨n.ag=6->∃ e,n.au=[e]/\e.bare=false/\e.name=al
 many:n.ag=7∨n.ag=8->n.au.length<=64/\(n.ag=8->n.au ≠ [])/\(n.au.map Ed.name).Nodup/\∀ e∈n.au,aY e.name=true
 bare:∀ e∈n.au,e.bare=true->n.ag=8
 mL:∀ e∈n.au,EdOK L N e
theorem vW {l:List Wd} (h:∀ j x,l[j]? = some x->aD l j x=0):(av l).Nodup/\∀ x∈l,aY x.s=true:=by
 have key:∀ e,e<=l.length->(av (l.take e)).Nodup:=by
  intro e
  induction e with
  | zero=>intro _;simp [av]
  | succ e ih=>
   intro he;obtain ⟨x,hx⟩:∃ x,l[e]? = some x:=⟨_,gE (by omega)⟩;exact lR hx (ih (by omega)) (h e x hx)
 refine ⟨by have:=key l.length (Nat.le_refl _);rwa [List.take_length] at this,fun x hx=>?_⟩;obtain ⟨j,hj⟩:=List.mem_iff_getElem?.1 hx;have:=h j x hj;unfold aD at this;cases hb:aY x.s
 ·rw [hb] at this;simp at this
 ·rfl
theorem y8 {all:List Wd}:∀ {l:List Wd} {i:Nat},(enumL all i l).1=0->∀ j x,l[j]? = some x->aD all (i + j) x=0
 | [],i,_,j,x,hx=>by simp at hx
 | y :: r,i,h,j,x,hx=>by
  rw [enumL] at h;split at h
  ·rename_i h1;exact (h1 h).elim
  ·rename_i h1
   cases j with
   | zero=>
    simp only [List.getElem?_cons_zero,oI] at hx;subst hx;simpa using h1
   | succ j=>
    simp only [List.getElem?_cons_succ] at hx;have:=y8 h j x hx
    rwa [show i + 1 + j=i + (j + 1) by omega] at this
theorem AJ {h:Hd} (he:gZ h=(0,0)):h.af ≠ []/\h.af.length<=64/\(av h.af).Nodup/\∀ x∈h.af,aY x.s=true:=by
 unfold gZ at he;split at he
 ·cases he
 ·rename_i h1;split at he
  ·cases he
  ·rename_i h2;refine ⟨h1,by omega,?_⟩
   exact vW fun j x hx=>by
    have:=y8 (all:=h.af) (i:=0) (by rw [he]) j x hx
    rwa [Nat.zero_add] at this
theorem Ig {X:Lx} {L:List ByteArray}:∀ {ps:Pts},(knP X L ps).1=0->∀ {p:Ph} {u:Ty},(p,u)∈ps.toList->(X.bad p.label).1=0/\(X.bad p.cl).1=0
 | .nil,_,p,u,h=>by cases h
 | .cons q v r,hk,p,u,h=>by
  have hr:=(rH hk).2;rw [knP] at hk;split at hk
  ·rename_i h1;exact (h1 hk).elim
  rename_i h1;split at hk
  ·rename_i h2;exact (h2 hk).elim
  rename_i h2;rcases List.mem_cons.1 h with h | h
  ·cases h;exact ⟨by simpa using h1,by simpa using h2⟩
  ·exact Ig hr h
theorem nN {p q:Ph} (h:bA p q=true):p.bare=q.bare/\p.wide=q.wide/\p.ck=q.ck/\p.cn=q.cn:=by
 unfold bA at h;simp only [Bool.and_eq_true,beq_iff_eq,decide_eq_true_eq] at h;exact ⟨h.1.1.1.1.1,h.1.1.1.1.2,h.1.1.2,h.1.2⟩
theorem NO {w:Int} (h:0<=w/\w<=64):1<=kT w/\kT w<=64:=by
 unfold kT;split<;>omega
theorem F7 {p:Ph} (h:(aS p).1=0):(0<=p.ck/\p.ck<=3)/\(p.ck=0->p.cn=0)/\(p.ck=1->1<=p.cn)/\(p.ck=2->0<=p.cn/\p.cn<=4096)/\(p.ck=3->p.cn=0):=by
 unfold aS at h;by_cases c0:p.ck=0
 ·rw [if_pos c0] at h;by_cases c1:p.cn=0/\p.cl=[]
  ·exact ⟨by omega,fun _=>c1.1,by omega,by omega,by omega⟩
  ·rw [if_neg c1] at h;simp at h
 rw [if_neg c0] at h;by_cases c1:p.ck < 0∨3 < p.ck
 ·rw [if_pos c1] at h;simp at h
 rw [if_neg c1] at h;by_cases c2:(p.ck=1/\p.cn < 1)∨(p.ck=2/\(p.cn < 0∨4096 < p.cn))∨(p.ck=3/\p.cn≠0)
 ·rw [if_pos c2] at h;simp at h
 exact ⟨by omega,by omega,by omega,by omega,by omega⟩
theorem J2 {p:Ph} (h:(dr p).1=0):(0<=p.wide/\p.wide<=64)/\(aS p).1=0:=by
 unfold dr at h;by_cases c0:p.wide < 0∨64 < p.wide
 ·rw [if_pos c0] at h;simp at h
 rw [if_neg c0] at h;by_cases c1:(bB p.label).1≠0
 ·rw [if_pos c1] at h;exact absurd h c1
 rw [if_neg c1] at h;exact ⟨by omega,h⟩
theorem AK {t:Ty} (h:t.h.ag≠9):1<=t.nn:=by
 obtain ⟨h',ps⟩:=t;have h:¬ h'.ag=9:=h;rw [Ty.nn,if_neg h];omega
theorem y9 {S:Sch} {k:Nat} {x:Wd × Ty} (hx:S.types[k]? = some x):firstA S k + x.2.nn<=qj (fy S):=by
 have h1:=mS hx;rw [<- h1]
 have h2:firstA S (k + 1)=qj ((eH S).take (k + 1)):=by
  unfold firstA qj eH;rw [<- List.map_take,List.map_map];rfl
 have h3:=Dg (eH S) (k + 1);have h4:qj (fy S)=qj (eH S) + qj [S.root]:=tV _ _;omega
theorem vX {lev:List Wd->Int} {s:Sch} {n:Nd}:∀ {l:List Ty} {k i:Nat},(ndsA lev s l k)[i]? = some n->∃ t∈l,∃ u∈flatT t,n=Qw lev s u (k + i)/\i + u.nn<=qj l
 | [],k,i,h=>by simp [ndsA] at h
 | t :: r,k,i,h=>by
  rw [ndsA] at h;rw [mW];have hl:=jF lev s t k;by_cases hi:i < t.nn
  ·rw [List.getElem?_append_left (by omega),tU,List.getElem?_map,List.getElem?_zipIdx] at h
   cases hu:(flatT t)[i]? with
   | none=>rw [hu] at h;simp at h
   | some u=>
    rw [hu] at h;simp only [Option.map_some,oI] at h;have:=y5 t i u hu;exact ⟨t,List.mem_cons_self,u,mG hu,by rw [<- h];simp,by omega⟩
  ·rw [List.getElem?_append_right (by omega),hl] at h;obtain ⟨t',h1,u,h2,h3,h4⟩:=vX h;refine ⟨t',List.mem_cons_of_mem _ h1,u,h2,?_,by omega⟩;rw [h3];congr 1;omega
theorem lX (S:Sch):(aR S).length=qj (fy S):=by rw [jg,kW]
theorem rT {S:Sch} (hF:vT S) {i:Nat} {n:Nd} (h:(aR S)[i]? = some n):dI S.ae.length (aR S).length n:=by
 rw [lX];rw [jg] at h;obtain ⟨t,ht,u,hu,rfl,ki⟩:=vX h;rw [Nat.zero_add];have KU:=vV t ⟨_,_,hF.wr t ht⟩ u hu;have hk:=vR t (hF.kn t ht) u hu;have hk9:=Dk t u hu;have hT:=F6 KU;obtain ⟨Zp,_⟩:=kU hF.lat;have gI:=dg S.ae;have vU:=hF.ends;obtain ⟨uh,us⟩:=u;simp only [Ty.h,Ty.ps] at hT hk9;have Ul:=(lU hk).2;have cG:=hT.own;unfold uV at cG;simp only [Bool.and_eq_true,Bool.or_eq_true,decide_eq_true_eq] at cG;obtain ⟨⟨⟨⟨o1,o2⟩,o3⟩,o4⟩,o5⟩:=cG;have k1:=hT.k1;have k9:=hT.k9
 have VD:∀ l:List Wd,(labW (av S.ae) l).1=0->∃ k:Nat,ie S l=k/\k < S.ae.length:=by
  intro l hl;have:=J1 (f:=ez S.ae.length (cT (av S.ae) S.order)) (L:=av S.ae) (by rw [gI];exact Zp) hl
  rwa [gI] at this
 have nK:∀ (p:Ph) (v:Ty) (k':Nat),(p,v)∈us.toList->(p.bare=false->k' + v.nn<=i + 1 + us.nn)->(p.bare=true->tR S p v k' = -1)/\(p.bare=false->∃ k:Nat,tR S p v k'=k/\k < qj (fy S)):=by
  intro p v k' hm fQ;refine ⟨fun hb=>by simp [tR,hb],fun hb=>?_⟩;have hkv:=AH Ul hm hb;obtain ⟨vh,vs⟩:=v;by_cases h9:vh.ag=9
  ·obtain ⟨j,hj⟩:=Option.ne_none_iff_exists'.1 ((lU hkv).1 h9);have lh:=(cK hj).1;rw [jE] at lh;obtain ⟨k,hk⟩:=vU j lh;have iL:=qb hk;obtain ⟨x,hx⟩:∃ x,S.types[k]? = some x:=⟨_,gE iL.1⟩;have h1:=y9 hx;have h2:=AK (iL.2 x hx);refine ⟨firstA S k,?_,by omega⟩;simp [tR,hb,mT,Ty.h,h9,Uk,hj,namedN,hk]
  ·have h1:=AK (t:=.mk vh vs) h9;have h2:=fQ hb;have h3:(Ty.mk uh us).nn=1 + us.nn:=by rw [Ty.nn,if_neg hk9]
   refine ⟨k',by simp [tR,hb,mT,Ty.h,h9],by omega⟩
 have CS:∀ p v,(p,v)∈us.toList->(0<=p.wide/\p.wide<=64)/\(0<=p.ck/\p.ck<=3)/\((p.ck=0->p.cn=0)/\(p.ck=1->1<=p.cn)/\(p.ck=2->0<=p.cn/\p.cn<=4096)/\(p.ck=3->p.cn=0))/\(p.bare=true->uh.ag=8):=by
  intro p v hm;obtain ⟨j,hj⟩:=List.mem_iff_getElem?.1 hm
  have hlen:us.len≠0:=by
   cases us with
   | nil=>simp [Pts.toList] at hm
   | cons _ _ _=>simp [Pts.len]
  by_cases h5:uh.ag=5∨uh.ag=6
  ·obtain ⟨q,t',rfl,_,iE,_,_,_⟩:=hT.one h5;simp only [Pts.toList,List.mem_singleton,Prod.mk.injEq] at hm;obtain ⟨rfl,rfl⟩:=hm;obtain ⟨w1,w2,w3,w4⟩:=nN iE;have z1:eC.wide=0:=rfl;have z2:eC.ck=0:=rfl;have z3:eC.cn=0:=rfl;have z4:eC.bare=false:=rfl;rw [z1] at w2;rw [z2] at w3;rw [z3] at w4;rw [z4] at w1;refine ⟨by omega,by omega,⟨by omega,by omega,by omega,by omega⟩,fun hb=>?_⟩;rw [w1] at hb;cases hb
  ·obtain ⟨_,hP⟩:=(hT.many (by omega)).2.2 j p v hj;rcases hP with ⟨hb,h8,_,iE⟩ | ⟨hb,hp,_⟩
   ·obtain ⟨w1,w2,w3,w4⟩:=nN iE;have z1:eP.wide=0:=rfl;have z2:eP.ck=0:=rfl;have z3:eP.cn=0:=rfl;rw [z1] at w2;rw [z2] at w3;rw [z3] at w4;exact ⟨by omega,by omega,⟨by omega,by omega,by omega,by omega⟩,fun _=>h8⟩
   ·obtain ⟨w1,w2⟩:=J2 hp;obtain ⟨w3,w4⟩:=F7 w2;exact ⟨w1,w3,w4,fun h=>by rw [hb] at h;cases h⟩
 have Zq:us.len=0->us = .nil:=fun h=>by
  cases us with
  | nil=>rfl
  | cons _ _ _=>simp [Pts.len] at h
 refine {
  k1:=k1
  k8:=by show uh.ag<=8;omega
  lohi:=hT.int
  lo0:=fun h2=>?_
  Si:=hT.text
  Sj:=fun h5=>?_
  Sk:=fun h3 h5=>?_
  af:=fun h4=>?_
  UH:=fun h4=>?_
  leaf:=fun h5=>?_
  one:=fun h5=>?_
  many:=fun h7=>?_
  bare:=fun e he hb=>?_
  mL:=fun e he=>?_ }
 ·show uh.lo=0/\uh.hi=0;exact o1.resolve_left h2
 ·obtain ⟨q,t',rfl,_,_,jX,fD,_⟩:=hT.one (.inl h5);exact ⟨jX,fD⟩
 ·show uh.most=0;exact o2.resolve_left (fun h=>h.elim h3 h5)
 ·obtain ⟨e1,e2,e3,e4⟩:=AJ (hT.enum h4);show av uh.af ≠ []/\(av uh.af).length<=64/\(av uh.af).Nodup/\∀ s∈av uh.af,aY s=true;refine ⟨fun h=>e1 (by simpa [av] using h),by rw [dg];exact e2,e3,fun s hs=>?_⟩;unfold av at hs;obtain ⟨w,hw,rfl⟩:=List.mem_map.1 hs;exact e4 w hw
 ·show av uh.af=[];have:=o4.resolve_right h4;have:uh.af=[]:=List.eq_nil_of_length_eq_zero this;rw [this];all_goals rfl
 ·show edsP (ie S) S us (i + 1)=[];have hk5:uh.ag < 5:=h5;rw [Zq (o3.resolve_right (by omega))];rfl
 ·show ∃ e,edsP (ie S) S us (i + 1)=[e]/\_;obtain ⟨q,t',rfl,hn,iE,_,_,_⟩:=hT.one h5;refine ⟨vy (ie S) q (tR S q t' (i + 1)),rfl,?_,hn⟩;exact (nN iE).1
 ·show (edsP (ie S) S us (i + 1)).length<=64/\(_->edsP (ie S) S us (i + 1) ≠ [])/\((edsP (ie S) S us (i + 1)).map Ed.name).Nodup/\∀ e∈edsP (ie S) S us (i + 1),aY e.name=true;obtain ⟨m1,m2,m3⟩:=hT.many h7
  have gH:∀ j x,(pNames us)[j]? = some x->aD (pNames us) j x=0:=by
   intro j x hx
   have hj:j < us.len:=by
    have:=(gS hx).1
    rwa [fJ] at this
   obtain ⟨p,t',hp⟩:=Pts.ei hj;rw [fK hp] at hx;simp only [oI] at hx;rw [<- hx];exact (m3 j p t' hp).1
  obtain ⟨n1,n2⟩:=vW gH;refine ⟨by rw [qc];exact m1,fun h8 hn=>m2 h8 ?_,by rw [oS];exact n1,fun e he=>?_⟩
  ·have:=qc (ie S) S us (i + 1);rw [hn] at this;simpa using this.symm
  ·have:e.name∈av (pNames us):=by rw [<- oS (lev:=ie S) (s:=S) (k:=i + 1)];exact List.mem_map_of_mem he
   unfold av at this;obtain ⟨w,hw,h⟩:=List.mem_map.1 this;rw [<- h];exact n2 w hw
 ·obtain ⟨p,v,k',h1,rfl,_⟩:=qm he;exact (CS p v h1).2.2.2 hb
 ·obtain ⟨p,v,k',h1,rfl,h3⟩:=qm he;obtain ⟨h4,h5⟩:=nK p v k' h1 h3;obtain ⟨h6,h7,h8,_⟩:=CS p v h1;obtain ⟨h9,pq⟩:=Ig Ul h1;exact { to0:=h4,to1:=h5,lab:=VD _ h9,seen:=VD _ pq,wide:=NO h6,ck:=h7,cn:=h8 }
theorem F8 {S:Sch} (hF:vT S):∃ k:Nat,bN S=k/\k < (aR S).length:=by
 rw [lX];have Se:=hF.kn S.root (by unfold fy;simp);have vU:=hF.ends;have gl:=vQ S;have Ps:qj (fy S)=qj (eH S) + S.root.nn:=by unfold fy;rw [tV];simp [qj]
 unfold bN;obtain ⟨ae,order,types,⟨rh,rp⟩⟩:=S;simp only at Se vU Ps;by_cases h9:rh.ag=9
 ·obtain ⟨j,hj⟩:=Option.ne_none_iff_exists'.1 ((lU Se).1 h9);have lh:=(cK hj).1;rw [jE] at lh;obtain ⟨k,hk⟩:=vU j lh;have iL:=qb hk;obtain ⟨x,hx⟩:∃ x,(Sch.mk ae order types (.mk rh rp)).types[k]? = some x:=⟨_,gE iL.1⟩;have h1:=y9 hx;have h2:=AK (iL.2 x hx);exact ⟨firstA ⟨ae,order,types,.mk rh rp⟩ k,by simp [mT,Ty.h,h9,Uk,hj,namedN,hk],by omega⟩
 ·have h1:=AK (t:=.mk rh rp) h9;exact ⟨(qf ⟨ae,order,types,.mk rh rp⟩).length,by simp [mT,Ty.h,h9],by omega⟩
theorem vY {lev:List Wd->Int} {s:Sch} {n:Nd}:∀ {l:List Ty} {k:Nat},n∈ndsA lev s l k->∃ t∈l,∃ u∈flatT t,∃ k',n=Qw lev s u k'
 | [],_,h=>by cases h
 | t :: r,k,h=>by
  rw [ndsA] at h;rcases List.mem_append.1 h with h | h
  ·rw [tU] at h;obtain ⟨x,hx,rfl⟩:=List.mem_map.1 h;have:=(List.mem_zipIdx hx).2.2;refine ⟨t,List.mem_cons_self,x.1,?_,_,rfl⟩;rw [this];exact List.getElem_mem _
  ·obtain ⟨t',ht,h⟩:=vY h;exact ⟨t',List.mem_cons_of_mem _ ht,h⟩
theorem nO {S:Sch} {n:Nd} (h:n∈aR S) (hS:S.wt<=1099511627776):n.af.length<=1099511627776/\n.au.length<=1099511627776:=by
 rw [jg] at h;obtain ⟨t,ht,u,hu,k,rfl⟩:=vY h;have h1:=AE hS t ht;have h2:=vS t u hu;obtain ⟨uh,us⟩:=u;have h3:=bg uh.af;have h4:=us.fb;simp only [Ty.wt,Hd.wt] at h2;simp only [Qw,Ty.h,Ty.ps,dg,qc];omega
abbrev zNd:List DV:=[.v (.int .i64 0),.v (.int .i64 0),.v (.int .i64 0),.v (.int .i64 0),.v (.int .i64 0),.v (.slice none 0 0),.v (.slice none 0 0)]
structure ke (S:Sch) (ND:List Nd) (PC:List DV):Prop where
 fine:vT S
 wt:S.wt<=1099511627776
 Bv:ND=aR S
 ok:∀ n∈ND,dI S.ae.length ND.length n
 nl:ND.length<=1099511627776
 len:EvP Tryz.prog 110 [.pt PC 0] (.v (.int .i64 ND.length))
 root:EvP Tryz.prog 19 [.pt PC 0] (.v (.int .i64 (bN S)))
 ai:∀ (i:Nat) n,ND[i]? = some n->EvP Tryz.prog 51 [.pt PC 0,.v (.int .i64 i)] (.tup [.agg (jR n),.v (.bool true)])
 Sm:∀ i:Int,(i < 0∨ND.length<=i)->EvP Tryz.prog 51 [.pt PC 0,.v (.int .i64 i)] (.tup [.agg zNd,.v (.bool false)])
 lat:∃ aA js,(dR S aA js).OK/\EvP Tryz.prog 38 [.pt PC 0] (dR S aA js).pd
theorem NP {S:Sch} {d:DV} (hS:S.wt<=1099511627776) (h0:(ky S).1=0) (hd:Nb S d):∃ PC,d = .pt PC 0/\ke S (aR S) PC:=by
 obtain ⟨aA,kz,js,hX,hT,ja,rfl⟩:=hd;have hF:=qk h0;have bE:=fun n (h:n∈aR S)=>nO h hS
 refine ⟨_,rfl,{
  fine:=hF
  wt:=hS
  Bv:=rfl
  ok:=fun n hn=>?_
  nl:=by rw [lX];exact Nat.le_trans (F5 S) hS
  len:=rJ _ _ _ _ _ _
  root:=FO _ _ _ _ _ _
  ai:=fun i n h=>FP _ _ _ _ _ _ i n h (bE n (mG h)).1 (bE n (mG h)).2
  Sm:=fun i h=>FQ _ _ _ _ _ _ i h
  lat:=⟨aA,js,hX,JQ _ _ _ _ _ _⟩ }⟩
 obtain ⟨i,hi⟩:=List.mem_iff_getElem?.1 hn;exact rT hF hi
def F9 (S:Sch) (r:DV):Prop:=((ky S).1≠0/\r = .tup [.v (.pointer none),(ky S).d])∨((ky S).1=0/\∃ PC,ke S (aR S) PC/\r = .tup [.pt PC 0,Ft.d (0,0)])
theorem za {S:Sch} (hS:S.wt<=1099511627776) {r:DV} {os:List (List DV)} {tk:List TkE} (h:FM S r os tk):F9 S r:=by
 unfold FM at h;by_cases h0:(ky S).1=0
 ·rw [if_neg (by rw [h0];simp)] at h;obtain ⟨d,hd,rfl⟩:=h;obtain ⟨PC,rfl,hP⟩:=NP hS h0 hd;exact .inr ⟨h0,PC,hP,rfl⟩
 ·rw [if_pos h0] at h;exact .inl ⟨h0,h⟩
inductive Val where
 | mk (k n:Int) (s:ByteArray) (ks:List Val)
def Val.k:Val->Int | .mk k _ _ _=>k
def Val.n:Val->Int | .mk _ n _ _=>n
def Val.s:Val->ByteArray | .mk _ _ s _=>s
def Val.ks:Val->List Val | .mk _ _ _ ks=>ks
mutual
def aU:Val->List DV
 | .mk k n s ks=>[.v (.int .i64 k),.v (.int .i64 n),.v (.string s),.sl 4 (dVals ks) none]
def dVals:List Val->List (List DV)
 | []=>[]
 | v :: r=>aU v :: dVals r
end
theorem kX:∀ l:List Val,dVals l=l.map aU
 | []=>rfl
 | v :: r=>by rw [dVals,kX r];all_goals rfl
theorem aW (l:List Val):(dVals l).length=l.length:=by rw [kX,List.length_map]
theorem bP {l:List Val} {e:Nat} {x:Val} (h:l[e]? = some x):(dVals l)[e]? = some (aU x):=by rw [kX,List.getElem?_map,h];all_goals rfl
theorem vZ {l:List Val} {e:Nat} {x:Val} (h:l[e]? = some x):dVals (l.take e) ++ [aU x]=dVals (l.take (e + 1)):=by
 rw [kX,kX,List.take_add_one,h];simp
mutual
def Val.wt:Val->Nat
 | .mk _ _ s ks=>64 + s.size + dJ ks
def dJ:List Val->Nat
 | []=>0
 | v :: r=>v.wt + dJ r
end
theorem Val.de:∀ v:Val,64<=v.wt
 | .mk _ _ _ _=>by rw [Val.wt];omega
theorem fA:∀ {l:List Val} {x:Val},x∈l->x.wt<=dJ l
 | v :: r,x,h=>by
  rcases List.mem_cons.1 h with rfl | h
  ·rw [dJ];omega
  ·have:=fA h;rw [dJ];omega
theorem dC:∀ l:List Val,64 * l.length<=dJ l
 | []=>Nat.le_refl _
 | v :: r=>by
  have:=dC r;have:=v.de;rw [dJ,List.length_cons];omega
mutual
def Dm:Val->Nat
 | .mk _ _ _ ks=>1 + jI ks
def jI:List Val->Nat
 | []=>0
 | v :: r=>Dm v + jI r
end
mutual
def xL:Val->Nat
 | .mk _ _ _ ks=>gf ks + 1
def gf:List Val->Nat
 | []=>0
 | v :: r=>max (xL v) (gf r)
end
mutual
theorem Ih:∀ v:Val,Dm v<=v.wt/\xL v<=v.wt
 | .mk _ _ _ ks=>by
  have:=v7 ks;rw [Dm,xL,Val.wt];omega
theorem v7:∀ l:List Val,jI l<=dJ l/\gf l<=dJ l
 | []=>⟨Nat.le_refl _,Nat.le_refl _⟩
 | v :: r=>by
  have h1:=Ih v;have h2:=v7 r;rw [jI,gf,dJ];omega
end
theorem v8:∀ (l:List Val) (x:Val),jI (l ++ [x])=jI l + Dm x
 | [],x=>by simp [jI]
 | v :: r,x=>by rw [List.cons_append,jI,jI,v8 r];omega
theorem wa:∀ (l:List Val) (x:Val),gf (l ++ [x])=max (gf l) (xL x)
 | [],x=>by simp [gf]
 | v :: r,x=>by rw [List.cons_append,gf,gf,wa r];omega
theorem zb {α:Type} {l:List α} {e:Nat} {x:α} (h:l[e]? = some x):l.take (e + 1)=l.take e ++ [x]:=by rw [List.take_add_one,h];all_goals rfl
theorem Ga (l:List Val):∀ e,jI (l.take e)<=dJ l/\gf (l.take e)<=dJ l:=fun e=>by
 have h1:=v7 (l.take e)
 have h2:∀ (l:List Val) e,dJ (l.take e)<=dJ l:=by
  intro l
  induction l with
  | nil=>intro e;simp [dJ]
  | cons v r ih=>
   intro e
   cases e with
   | zero=>simp [dJ]
   | succ e=>have:=ih e;simp only [List.take_succ_cons,dJ];omega
 have:=h2 l e;omega
abbrev Qz (v:Val) (n d e:Nat):St:=
 ⟨[(1,⟨[],.loc 0 0⟩),(4,⟨[],.v (.int .i64 n)⟩),(5,⟨[],.v (.int .i64 d)⟩),(6,⟨[],.v (.int .i64 e)⟩)],[aU v],[]⟩
theorem sL:∀ (k:Nat) (v:Val),v.wt<=k->v.wt<=1099511627776->EvP Tryz.prog 13 [.agg (aU v)] (.tup [.v (.int .i64 (Dm v:Nat)),.v (.int .i64 (xL v:Nat))])
 | 0,v,h,_=>by have:=v.de;omega
 | k + 1,.mk q n s ks,h,hb=>by
  have ih:=sL k;have cH:=aW ks;have iL:=dC ks;have iH:=Ga ks;rw [Val.wt] at h hb;rw [Dm,xL];refine ev_go (P:=Tryz.prog) tt tt_ok 5000 35 [.tmp 2,.tmp 3] Tryz.func13 rfl Tryz.ntmps13 rfl (nL rfl) (fun E9 w9 hn9 hm9=>?_);refine aq (fun j st=>∃ e:Nat,st=Qz (.mk q n s ks) (1 + jI (ks.take e)) (gf (ks.take e)) e/\e<=ks.length/\j=ks.length - e) ks.length (Qz (.mk q n s ks) 1 0 0) (weak_mk ⟨_,rfl⟩ wA rfl rfl rfl wB) ⟨0,rfl,by omega,by omega⟩ ?_;rintro j st ⟨e,rfl,he,rfl⟩;refine br (fun hL=>?_) (fun hL=>?_)
  ·have ap:e < ks.length:=by have:=hL;simp [cH] at this;exact this
   obtain ⟨x,hx⟩:∃ x,ks[e]? = some x:=⟨_,gE ap⟩;have R6:=fA (mG hx);have hc:=v8 (ks.take e) x;have hd:=wa (ks.take e) x;rw [<- zb hx] at hc hd;have h1:=iH (e + 1);have hi:=ih x (by omega) (by omega);have hcx:=Ih x;obtain ⟨xk,xn,xs,xl⟩:=x;refine ⟨_,⟨by omega,bP hx⟩,?_⟩;refine call_p WJ (hi) ax rfl ?_;have hw:IntKind.i64.wrap (((1 + jI (ks.take e):Nat):Int) + ((Dm (.mk xk xn xs xl):Nat):Int))=((1 + jI (ks.take (e + 1)):Nat):Int):=by rw [wrap64 (by omega) (by omega)];omega
   refine br (fun g=>?_) (fun g=>?_)
   ·have g:gf (ks.take e) < xL (.mk xk xn xs xl):=by simpa using g
    have Lq:((xL (.mk xk xn xs xl):Nat):Int)=((gf (ks.take (e + 1)):Nat):Int):=by omega
    exact ⟨Qz (.mk q n s ks) (1 + jI (ks.take (e + 1))) (gf (ks.take (e + 1))) (e + 1),(weak_mk ⟨_,rfl⟩ wA rfl rfl rfl (by repeat' (first | exact trivial | exact ah rfl | exact ak hw | exact ak Lq | exact ak (cx ap (by omega)) | refine ⟨⟨_,rfl,?_⟩,?_⟩))),ks.length - (e + 1),by omega,e + 1,rfl,by omega,rfl⟩
   ·have g:¬ gf (ks.take e) < xL (.mk xk xn xs xl):=by simpa using g
    have Lq:((gf (ks.take e):Nat):Int)=((gf (ks.take (e + 1)):Nat):Int):=by omega
    exact ⟨Qz (.mk q n s ks) (1 + jI (ks.take (e + 1))) (gf (ks.take (e + 1))) (e + 1),(weak_mk ⟨_,rfl⟩ wA rfl rfl rfl (by repeat' (first | exact trivial | exact ah rfl | exact ak hw | exact ak Lq | exact ak (cx ap (by omega)) | refine ⟨⟨_,rfl,?_⟩,?_⟩))),ks.length - (e + 1),by omega,e + 1,rfl,by omega,rfl⟩
  ·have aO:e=ks.length:=by have:=hL;simp [cH] at this;omega
   subst aO;have h1:=iH ks.length;rw [List.take_length] at h1 ⊢;have hw:IntKind.i64.wrap (((gf ks:Nat):Int) + 1)=((gf ks + 1:Nat):Int):=by rw [wrap64 (by omega) (by omega)];omega
   refine ⟨_,(aI hw),rfl⟩
theorem Dp:Tryz.prog.cellsOf 45=4:=by kernel_rfl
end Go.Proofs.YtfifjddnnmfeoaaGreat
namespace Go.Proofs.YtfifjddnnmfeoaaGreat
open Go Go.RowKit Dv
def tyVS:List TypeId:=[45,43,9,3]
theorem tyVS_ok:∀ t∈tyVS,lK Tryz.prog tyVS t=true:=by
 have h:(tyVS.all fun t=>lK Tryz.prog tyVS t)=true:=by kernel_rfl
 exact fun t ht=>List.all_eq_true.1 h t ht
end Go.Proofs.YtfifjddnnmfeoaaGreat
set_option maxRecDepth 100000
namespace Go.Proofs.YtfifjddnnmfeoaaGreat
open Go Go.RowKit Dv Tryz
def bw (n u:Int):Int × Bool:=if u < 1 then (0,false) else if n - n % u < -9223372036854775808 then (0,false) else (n - n % u,true)
def AL (r:Int × Bool):DV:=.tup [.v (.int .i64 r.1),.v (.bool r.2)]
theorem qp {n u:Int} (hu:1<=u):(n.tmod u < 0->n.tmod u + u=n % u)/\(¬ n.tmod u < 0->n.tmod u=n % u):=by
 have h1:=Int.emod_nonneg n (show u≠0 by omega);have h2:=Int.emod_lt_of_pos n (show 0 < u by omega);have h3:=Int.tmod_eq_emod (a:=n) (b:=u);have h4:(u.natAbs:Int)=u:=Int.natAbs_of_nonneg (by omega);rw [h3];split<;>omega
theorem oT (n u:Int) (hn : -9223372036854775808<=n/\n<=9223372036854775807) (hu : -9223372036854775808<=u/\u<=9223372036854775807):EvP Tryz.prog 279 [.v (.int .i64 n),.v (.int .i64 u)] (AL (bw n u)):=by
 have hF:bw n u=if u < 1 then (0,false) else if n - n % u < -9223372036854775808 then (0,false) else (n - n % u,true):=rfl
 generalize bw n u=F at hF ⊢;refine ev_go (P:=Tryz.prog) tt tt_ok 5000 24 [.tmp 4,.tmp 5] Tryz.func279 rfl Tryz.ntmps279 rfl (nL rfl) (fun E9 w9 hn9 hm9=>?_);refine br (fun c=>?_) (fun c=>?_)
 ·have c:u < 1:=by simpa using c
  rw [if_pos c] at hF;subst hF;exact ⟨_,ax,rfl⟩
 have c:¬ u < 1:=by simpa using c
 rw [if_neg c] at hF;have hm:=qp (n:=n) (u:=u) (by omega);have h1:=Int.emod_nonneg n (show u≠0 by omega);have h2:=Int.emod_lt_of_pos n (show 0 < u by omega)
 have h5 : -u<=n.tmod u/\n.tmod u < u:=by
  rcases Int.lt_or_le (n.tmod u) 0 with h | h
  ·have:=hm.1 h;omega
  ·have:=hm.2 (by omega);omega
 have O1:IntKind.i64.wrap (-9223372036854775808 + n % u) = -9223372036854775808 + n % u:=wrap64 (by omega) (by omega);refine ⟨⟨rfl,by omega⟩,?_⟩;refine br (fun g=>?_) (fun g=>?_)
 ·have g:n.tmod u < 0:=by simpa using g
  have hw2:IntKind.i64.wrap (n.tmod u + u)=n % u:=by rw [hm.1 g];exact wrap64 (by omega) (by omega)
  refine br (fun h=>?_) (fun h=>?_)
  ·have h:n < IntKind.i64.wrap (-9223372036854775808 + IntKind.i64.wrap (n.tmod u + u)):=by simpa using h
   rw [hw2,O1] at h;rw [if_pos (by omega)] at hF;subst hF;exact ⟨_,ax,rfl⟩
  ·have h:¬ n < IntKind.i64.wrap (-9223372036854775808 + IntKind.i64.wrap (n.tmod u + u)):=by simpa using h
   rw [hw2,O1] at h;rw [if_neg (by omega)] at hF;have sA:IntKind.i64.wrap (n - IntKind.i64.wrap (n.tmod u + u))=n - n % u:=by rw [hw2];exact wrap64 (by omega) (by omega)
   refine ⟨.tup [.v (.int .i64 (IntKind.i64.wrap (n - IntKind.i64.wrap (n.tmod u + u)))),.v (.bool true)],ax,?_⟩;rw [hF];exact congrArg (fun z=>DV.tup [.v (.int .i64 z),.v (.bool true)]) sA
 ·have g:¬ n.tmod u < 0:=by simpa using g
  have hw2:n.tmod u=n % u:=hm.2 g;refine br (fun h=>?_) (fun h=>?_)
  ·have h:n < IntKind.i64.wrap (-9223372036854775808 + n.tmod u):=by simpa using h
   rw [hw2,O1] at h;rw [if_pos (by omega)] at hF;subst hF;exact ⟨_,ax,rfl⟩
  ·have h:¬ n < IntKind.i64.wrap (-9223372036854775808 + n.tmod u):=by simpa using h
   rw [hw2,O1] at h;rw [if_neg (by omega)] at hF;have sA:IntKind.i64.wrap (n - n.tmod u)=n - n % u:=by rw [hw2];exact wrap64 (by omega) (by omega)
   refine ⟨.tup [.v (.int .i64 (IntKind.i64.wrap (n - n.tmod u))),.v (.bool true)],ax,?_⟩;rw [hF];exact congrArg (fun z=>DV.tup [.v (.int .i64 z),.v (.bool true)]) sA
theorem emod_le {a u:Int} (ha:0<=a) (hu:1<=u):a % u<=a:=by
 have h1:=Int.mul_ediv_add_emod a u;have h2:=Int.mul_nonneg (show 0<=u by omega) (Int.ediv_nonneg ha (show 0<=u by omega));omega
theorem tdiv_le {n u:Int} (hu:1<=u):(0<=n.tdiv u->n.tdiv u<=n.tdiv u * u)/\(n.tdiv u<=0->n.tdiv u * u<=n.tdiv u):=by
 constructor
 ·intro h;have:=Int.mul_le_mul_of_nonneg_left hu h
  rwa [Int.mul_one] at this
 ·intro h;have:=Int.mul_le_mul_of_nonneg_left hu (show 0 <= -(n.tdiv u) by omega);rw [Int.mul_one,Int.neg_mul] at this;omega
theorem AM {q u l:Int} (hu:1<=u) (hl:l<=0):q < l.tdiv u↔q * u < l:=by
 have h1:=Int.mul_tdiv_add_tmod l u;rw [Int.mul_comm] at h1;have hm:=qp (n:=l) (u:=u) hu;have h2:=Int.emod_nonneg l (show u≠0 by omega);have h3:=Int.emod_lt_of_pos l (show 0 < u by omega)
 have h4 : -u < l.tmod u/\l.tmod u<=0:=by
  have h5:(-l).tmod u = -(l.tmod u):=Int.neg_tmod ..;have h6:(-l).tmod u=(-l) % u:=Int.tmod_eq_emod_of_nonneg (by omega);have h7:=Int.emod_nonneg (-l) (show u≠0 by omega);have h8:=Int.emod_lt_of_pos (-l) (show 0 < u by omega);omega
 constructor
 ·intro h;have:=Int.mul_le_mul_of_nonneg_right (a:=q + 1) (b:=l.tdiv u) (c:=u) (by omega) (by omega);rw [Int.add_mul,Int.one_mul] at this;omega
 ·intro h;rcases Int.lt_or_le q (l.tdiv u) with h9 | h9
  ·exact h9
  ·have:=Int.mul_le_mul_of_nonneg_right (a:=l.tdiv u) (b:=q) (c:=u) (by omega) (by omega);omega
theorem qq (n u:Int) (hn : -9223372036854775808<=n/\n<=9223372036854775807) (hu : -9223372036854775808<=u/\u<=9223372036854775807):EvP Tryz.prog 204 [.v (.int .i64 n),.v (.int .i64 u)] (AL (bw n u)):=by
 have hF:bw n u=if u < 1 then (0,false) else if n - n % u < -9223372036854775808 then (0,false) else (n - n % u,true):=rfl
 generalize bw n u=F at hF ⊢;refine ev_go (P:=Tryz.prog) tt tt_ok 5000 26 [.tmp 4,.tmp 5] Tryz.func204 rfl Tryz.ntmps204 rfl (nL rfl) (fun E9 w9 hn9 hm9=>?_);refine br (fun c=>?_) (fun c=>?_)
 ·have c:u < 1:=by simpa using c
  rw [if_pos c] at hF;subst hF;exact ⟨_,ax,rfl⟩
 have c:¬ u < 1:=by simpa using c
 rw [if_neg c] at hF;have h1:=Int.emod_nonneg n (show u≠0 by omega);have h2:=Int.emod_lt_of_pos n (show 0 < u by omega);have hT:=Int.mul_tdiv_add_tmod n u;rw [Int.mul_comm] at hT;have hm:=qp (n:=n) (u:=u) (by omega);have hb:=tdiv_le (n:=n) (u:=u) (by omega);have hbl:=tdiv_le (n:=-9223372036854775808) (u:=u) (by omega);have hl:=Int.mul_tdiv_add_tmod (-9223372036854775808) u;rw [Int.mul_comm] at hl;have dW:=qp (n:=-9223372036854775808) (u:=u) (by omega);have hml1:=Int.emod_nonneg (-9223372036854775808) (show u≠0 by omega);have hml2:=Int.emod_lt_of_pos (-9223372036854775808) (show 0 < u by omega)
 have hsg:(0<=n->0<=n.tmod u/\n.tmod u<=n)/\(n<=0->n.tmod u<=0/\n<=n.tmod u):=by
  constructor
  ·intro h;rw [Int.tmod_eq_emod_of_nonneg h];exact ⟨h1,emod_le h (by omega)⟩
  ·intro h;have h5:(-n).tmod u = -(n.tmod u):=Int.neg_tmod ..;rw [Int.tmod_eq_emod_of_nonneg (by omega)] at h5;have h7:=Int.emod_nonneg (-n) (show u≠0 by omega);have h8:=emod_le (show 0 <= -n by omega) (show 1<=u by omega);omega
 have mb:(-9223372036854775808:Int).tmod u<=0 /\ -9223372036854775808<=(-9223372036854775808:Int).tmod u:=by
  have h5:(-(-9223372036854775808):Int).tmod u = -((-9223372036854775808:Int).tmod u):=Int.neg_tmod ..;rw [Int.tmod_eq_emod_of_nonneg (by omega)] at h5;have h7:=Int.emod_nonneg (-(-9223372036854775808)) (show u≠0 by omega);have h8:=emod_le (show (0:Int) <= -(-9223372036854775808) by omega) (show 1<=u by omega);omega
 have hTr : -9223372036854775808<=n.tdiv u/\n.tdiv u<=9223372036854775807:=by
  rcases Int.le_total 0 (n.tdiv u) with h | h
  ·have:=hb.1 h;omega
  ·have:=hb.2 h;omega
 have hLr : -9223372036854775808<=(-9223372036854775808:Int).tdiv u/\(-9223372036854775808:Int).tdiv u<=9223372036854775807:=by
  rcases Int.le_total 0 ((-9223372036854775808:Int).tdiv u) with h | h
  ·have:=hbl.1 h;omega
  ·have:=hbl.2 h;omega
 have hw5:IntKind.i64.wrap ((-9223372036854775808:Int).tdiv u)=(-9223372036854775808:Int).tdiv u:=wrap64 (by omega) (by omega);have hw1:IntKind.i64.wrap (n.tdiv u)=n.tdiv u:=wrap64 (by omega) (by omega);have hw2:IntKind.i64.wrap (IntKind.i64.wrap (n.tdiv u) * u)=n.tdiv u * u:=by rw [hw1];exact wrap64 (by omega) (by omega)
 refine ⟨⟨rfl,by omega⟩,?_⟩;refine br (fun g=>?_) (fun g=>?_)
 ·have g:n < IntKind.i64.wrap (IntKind.i64.wrap (n.tdiv u) * u):=by simpa using g
  rw [hw2] at g;have hR:n.tmod u < 0:=by omega
  have Zj:=hm.1 hR
  have hqr : -9223372036854775808<=n.tdiv u - 1:=by
   rcases Int.le_total 0 (n.tdiv u) with h | h
   ·omega
   ·have:=hb.2 h;omega
  have s9:IntKind.i64.wrap (IntKind.i64.wrap (n.tdiv u) - 1)=n.tdiv u - 1:=by rw [hw1];exact wrap64 hqr (by omega)
  have UI:(n.tdiv u - 1) * u=n - n % u:=by rw [Int.sub_mul,Int.one_mul];omega
  refine ⟨⟨rfl,by omega⟩,?_⟩;refine br (fun h=>?_) (fun h=>?_)
  ·have h:IntKind.i64.wrap (IntKind.i64.wrap (n.tdiv u) - 1) < IntKind.i64.wrap ((-9223372036854775808:Int).tdiv u):=by simpa using h
   rw [hw5,s9,AM (by omega) (by omega),UI] at h;rw [if_pos (by omega)] at hF;subst hF;exact ⟨_,ax,rfl⟩
  ·have h:¬ IntKind.i64.wrap (IntKind.i64.wrap (n.tdiv u) - 1) < IntKind.i64.wrap ((-9223372036854775808:Int).tdiv u):=by simpa using h
   rw [hw5,s9,AM (by omega) (by omega),UI] at h;rw [if_neg (by omega)] at hF;have sA:IntKind.i64.wrap (IntKind.i64.wrap (IntKind.i64.wrap (n.tdiv u) - 1) * u)=n - n % u:=by rw [s9,UI];exact wrap64 (by omega) (by omega)
   refine ⟨.tup [.v (.int .i64 (IntKind.i64.wrap (IntKind.i64.wrap (IntKind.i64.wrap (n.tdiv u) - 1) * u))),.v (.bool true)],ax,?_⟩;rw [hF];exact congrArg (fun z=>DV.tup [.v (.int .i64 z),.v (.bool true)]) sA
 ·have g:¬ n < IntKind.i64.wrap (IntKind.i64.wrap (n.tdiv u) * u):=by simpa using g
  rw [hw2] at g;have hR:¬ n.tmod u < 0:=by omega
  have Zj:=hm.2 hR;have s9:=hw1;have UI:n.tdiv u * u=n - n % u:=by omega
  refine ⟨⟨rfl,by omega⟩,?_⟩;refine br (fun h=>?_) (fun h=>?_)
  ·have h:IntKind.i64.wrap (n.tdiv u) < IntKind.i64.wrap ((-9223372036854775808:Int).tdiv u):=by simpa using h
   rw [hw5,s9,AM (by omega) (by omega),UI] at h;rw [if_pos (by omega)] at hF;subst hF;exact ⟨_,ax,rfl⟩
  ·have h:¬ IntKind.i64.wrap (n.tdiv u) < IntKind.i64.wrap ((-9223372036854775808:Int).tdiv u):=by simpa using h
   rw [hw5,s9,AM (by omega) (by omega),UI] at h;rw [if_neg (by omega)] at hF;have sA:IntKind.i64.wrap (IntKind.i64.wrap (n.tdiv u) * u)=n - n % u:=by rw [s9,UI];exact wrap64 (by omega) (by omega)
   refine ⟨.tup [.v (.int .i64 (IntKind.i64.wrap (IntKind.i64.wrap (n.tdiv u) * u))),.v (.bool true)],ax,?_⟩;rw [hF];exact congrArg (fun z=>DV.tup [.v (.int .i64 z),.v (.bool true)]) sA
end Go.Proofs.YtfifjddnnmfeoaaGreat
