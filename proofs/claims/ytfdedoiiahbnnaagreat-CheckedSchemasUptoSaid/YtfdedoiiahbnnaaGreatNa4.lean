/- Part 4 of the proof: The plain law of closeR: its bits are what is led to; The program's and the reference's check of names that must differ; The table's Find, whole; lattice.many, called, numbered; lattice.best, and the closures of bounds; lattice.bounds: all joins and meets; lattice.Build; Reading a lattice: Len, has, Name, Find, Join, Meet, Bottom; labels.Of; The checker's part, once check is known for lighter types; The checker's parts, once check is known for lighter types; The checker's one and check, once check is known for lighter types; so check; kinds.Count, resolve.nodes; the builder's level; The builder's end, loops, known; The builder's each, right, called; The builder's each of right; called; places; The builder's places; The builder's edge; The builder's node; What resolve.Build says of a schema; lattices in which nothing is wrong; resolve.Build; Reading a plan: Len, Root, Lattice, Node, Find; slices.Clone; of no plan as well; The reference of chapter 17: Great, Same; The program's comparing of schemas; The law's example: a type that leads to itself; The law of no plan: the call returns true. No condition. -/
import Derived.Test.YtfdedoiiahbnnaaGreatNa3
set_option linter.all false
set_option maxRecDepth 100000
namespace Go.Proofs.YtfdedoiiahbnnaaGreat
open Go Go.RowKit Dv Go.Proofs.Tryz
theorem rG {rows:List Nat} {i x a b:Nat} (hi:i < rows.length):aK (rows.set i x) a b=if a=i then x.testBit b else aK rows a b:=by grind [aK]
theorem la {rows:List Nat} {k a b:Nat} (hk:k < rows.length):aK (ij rows k) a b=(aK rows a b || (decide (a=k) && decide (b=k))):=by
 unfold ij;rw [rG hk];by_cases h:a=k
 ·subst h;rw [zIfP rfl,ie];simp only [decide_true,Bool.true_and];rw [show decide (a=b)=decide (b=a) from by simp only [eq_comm]];rfl
 ·rw [ah h];simp [h]
theorem Dm {rows:List Nat} {k i a b:Nat} (hi:i < rows.length):aK (lC k rows i) a b=(aK rows a b || (decide (a=i) && (aK rows a k && aK rows k b))):=by grind [lC,aK,rG]
theorem tX {rows:List Nat} {k:Nat} (hk:k < rows.length):∀ e,e<=rows.length->∀ a b,aK (e9 rows k e) a b=(aK (ij rows k) a b || (decide (a < e) && (aK (ij rows k) a k && aK (ij rows k) k b)))
 | 0,_,a,b=>by simp [e9]
 | e + 1,he,a,b=>by
  have ih:=tX hk e (by omega)
  grind [jO,Dm,k0,aK,ij,la]
inductive pY (p:Nat->Nat->Prop):Nat->Nat->Prop
 | refl (a:Nat):pY p a a
 | step {a b c:Nat}:pY p a b->p b c->pY p a c
theorem pY.trans {p:Nat->Nat->Prop} {a b c:Nat} (h1:pY p a b) (h2:pY p b c):pY p a c:=by
 induction h2 with
 | refl=>exact h1
 | step _ h ih=>exact .step ih h
theorem pY.mono {p q:Nat->Nat->Prop} (h:∀ a b,p a b->pY q a b) {a b:Nat} (h1:pY p a b):pY q a b:=by
 induction h1 with
 | refl=>exact .refl _
 | step _ h2 ih=>exact ih.trans (h _ _ h2)
def wayQ (p:Nat->Nat->Prop):Nat->Nat->Nat->Prop
 | 0,a,b=>a=b∨p a b
 | k + 1,a,b=>wayQ p k a b∨(wayQ p k a k/\wayQ p k k b)
theorem tY {p:Nat->Nat->Prop} (a:Nat):∀ k,wayQ p k a a
 | 0=>.inl rfl
 | k + 1=>.inl (tY a k)
theorem tZ {p:Nat->Nat->Prop} {a b:Nat} (h:p a b):∀ k,wayQ p k a b
 | 0=>.inr h
 | k + 1=>.inl (tZ h k)
theorem nb {p:Nat->Nat->Prop}:∀ k a b,wayQ p k a b->pY p a b
 | 0,a,b,h=>by
  rcases h with rfl | h
  ·exact .refl _
  ·exact .step (.refl _) h
 | k + 1,a,b,h=>by
  rcases h with h | ⟨h1,h2⟩
  ·exact nb k a b h
  ·exact (nb k a k h1).trans (nb k k b h2)
theorem jP {p:Nat->Nat->Prop}:∀ k a m b,m < k->wayQ p k a m->wayQ p k m b->wayQ p k a b
 | 0,_,_,_,h,_,_=>by omega
 | k + 1,a,m,b,hm,h1,h2=>by
  by_cases Wv:m=k
  ·grind [wayQ]
  ·have jZ:m < k:=by omega
   rcases h1 with h1 | ⟨h1,h3⟩
   ·rcases h2 with h2 | ⟨h2,h4⟩
    ·exact .inl (jP k a m b jZ h1 h2)
    ·exact .inr ⟨jP k a m k jZ h1 h2,h4⟩
   ·rcases h2 with h2 | ⟨h2,h4⟩
    ·exact .inr ⟨h1,jP k k m b jZ h3 h2⟩
    ·exact .inr ⟨h1,h4⟩
theorem rH {rows:List Nat}:∀ k,k<=rows.length->∀ a b,a < rows.length->((aK (closeR rows k) a b=true∨a=b)↔wayQ (fun x y=>aK rows x y=true) k a b)/\(a < k->aK (closeR rows k) a a=true)
 | 0,_,a,b,_=>by grind [closeR,wayQ]
 | k + 1,hk,a,b,ha=>by
  have ih:=rH (rows:=rows) k (by omega);have xd:k < (closeR rows k).length:=by rw [dN];omega
  have hb:∀ a b,a < rows.length->aK (closeR rows (k + 1)) a b=(aK (ij (closeR rows k) k) a b || (aK (ij (closeR rows k) k) a k && aK (ij (closeR rows k) k) k b)):=fun a b ha=>by grind [iD,tX,dN]
  have Ww:∀ a b,(aK (ij (closeR rows k) k) a b=true∨a=b)↔(aK (closeR rows k) a b=true∨a=b):=fun a b=>by grind [la]
  have Ct:aK (ij (closeR rows k) k) k k=true:=by rw [la xd];simp
  have key:∀ a b,a < rows.length->((aK (closeR rows (k + 1)) a b=true∨a=b)↔wayQ (fun x y=>aK rows x y=true) (k + 1) a b):=fun a b ha=>by grind [wayQ]
  refine ⟨key a b ha,fun hak=>?_⟩;rw [hb a a ha];by_cases h:a=k
  ·subst h;rw [Ct];all_goals rfl
  ·have:=(ih a a ha).2 (by omega);rw [la xd,this];all_goals rfl
theorem Ac {rows:List Nat} (hb:∀ a b,a < rows.length->aK rows a b=true->b < rows.length) {a b:Nat} (ha:a < rows.length) (hbl:b < rows.length):aK (closeR rows rows.length) a b=true↔pY (fun x y=>x < rows.length/\aK rows x y=true) a b:=by
 have hw:=rH (rows:=rows) rows.length (zLeR _) a b ha;have h1:aK (closeR rows rows.length) a b=true↔wayQ (fun x y=>aK rows x y=true) rows.length a b:=by grind
 rw [h1];constructor
 ·intro h
  have aq:∀ {x},pY (fun x y=>aK rows x y=true) a x->pY (fun x y=>x < rows.length/\aK rows x y=true) a x/\x < rows.length:=by
   intro x hx
   induction hx with
   | refl=>exact ⟨.refl _,ha⟩
   | step _ h2 ih=>exact ⟨.step ih.1 ⟨ih.2,h2⟩,hb _ _ ih.2 h2⟩
  exact (aq (nb _ _ _ h)).1
 ·intro h
  have:wayQ (fun x y=>aK rows x y=true) rows.length a b/\b < rows.length:=by
   clear h1 hw hbl
   induction h with
   | refl=>exact ⟨tY _ _,ha⟩
   | step _ h2 ih=>exact ⟨jP _ _ _ _ ih.2 ih.1 (tZ h2.2 _),hb _ _ h2.1 h2.2⟩
  exact this.1
theorem Gy {rows:List Nat} {p:Nat × Nat} {a b:Nat} (hp:p.1 < rows.length):aK (rB rows p) a b=(aK rows a b || (decide (a=p.1) && decide (b=p.2))):=by
 unfold rB;rw [rG hp];by_cases h:a=p.1
 ·subst h;rw [zIfP rfl,ie];simp only [decide_true,Bool.true_and];rw [show decide (p.2=b)=decide (b=p.2) from by simp only [eq_comm]];rfl
 ·rw [ah h];simp [h]
theorem ua:∀ (l:List (Nat × Nat)) (rows:List Nat) (a b:Nat),(∀ p∈l,p.1 < rows.length)->(aK (l.foldl rB rows) a b=true↔aK rows a b=true∨(a,b)∈l)
 | [],_,_,_,_=>by simp
 | p :: l,rows,a,b,h=>by
  rw [List.foldl_cons,ua l _ a b (fun q hq=>by rw [mY];exact h q (by simp [hq])),Gy (h p (by simp))]
  grind
theorem rI {n:Nat} {l:List (Nat × Nat)} (h:∀ p∈l,p.1 < n) (a b:Nat):aK (dM n l) a b=true↔(a,b)∈l:=by grind [dM,ua,aK]
def dt (n:Nat) (l:List (Nat × Nat)) (a b:Nat):Bool:=aK (closeR (dM n l) n) a b
def om (n:Nat) (l:List (Nat × Nat)):Prop:=∀ p∈l,p.1 < n/\p.2 < n
theorem kx {n:Nat} {l:List (Nat × Nat)} (h:om n l) {a b:Nat} (ha:a < n) (hb:b < n):dt n l a b=true↔pY (fun x y=>(x,y)∈l) a b:=by
 have hlen:(dM n l).length=n:=ig n l;unfold dt
 have:=Ac (rows:=dM n l) (fun a b _ Gs=>by
  rw [rI (fun p hp=>(h p hp).1)] at Gs
  rw [hlen];exact (h _ Gs).2) (a:=a) (b:=b) (by omega) (by omega)
 rw [hlen] at this;rw [this];constructor
 ·exact pY.mono fun x y Ei=>.step (.refl _) ((rI (fun p hp=>(h p hp).1) x y).1 Ei.2)
 ·exact pY.mono fun x y Ei=>.step (.refl _) ⟨(h _ Ei).1,(rI (fun p hp=>(h p hp).1) x y).2 Ei⟩
theorem oo {n:Nat} {l:List (Nat × Nat)} (h:om n l) {a:Nat} (ha:a < n):dt n l a a=true:=(kx h ha ha).2 (.refl _)
theorem Ad {n:Nat} {l:List (Nat × Nat)} (h:om n l) {a b c:Nat} (ha:a < n) (hb:b < n) (hc:c < n) (h1:dt n l a b=true) (h2:dt n l b c=true):dt n l a c=true:=
 (kx h ha hc).2 (((kx h ha hb).1 h1).trans ((kx h hb hc).1 h2))
def iE (n:Nat) (f:Nat->Nat->Bool) (a:Nat):Bool:=(List.range n).any fun b=>decide (a≠b) && (f a b && f b a)
theorem Gz {n:Nat} {l:List (Nat × Nat)} (hn:n<=64) (h:om n l) {a:Nat} (ha:a < n):mZ (closeR (dM n l) n) a=iE n (dt n l) a:=by
 have hlen:(closeR (dM n l) n).length=n:=by rw [dN,ig]
 unfold mZ iE;rw [Gw,hlen,Bool.eq_iff_iff,decide_eq_true_eq]
 have Uo:(backN (closeR (dM n l) n) a n).testBit a=true:=by
  rw [oh];have:aK (closeR (dM n l) n) a a=true:=oo h ha;simp [ha,this]
 rw [xX _ a Uo 64 (by omega)];simp only [List.any_eq_true,List.mem_range,bA,decide_eq_true_eq,oh];constructor
 ·rintro ⟨b,_,bd,hb,h1,h2⟩;exact ⟨b,hb,fun e=>bd e.symm,h1,h2⟩
 ·rintro ⟨b,hb,bd,h1,h2⟩;exact ⟨b,by omega,fun e=>bd e.symm,hb,h1,h2⟩
theorem vE {p q:Nat->Bool} {n:Nat} (h:∀ a,a < n->p a=q a):bE p n=bE q n:=by
 unfold bE
 have:∀ (l:List Nat),(∀ a∈l,p a=q a)->l.find? p=l.find? q:=by
  intro l
  induction l with
  | nil=>intro _;rfl
  | cons x r ih=>grind
 grind
theorem Jb {n:Nat} {l:List (Nat × Nat)} (hn:n<=64) (h:om n l):bE (mZ (closeR (dM n l) n)) n=bE (iE n (dt n l)) n:=
 vE fun _ ha=>Gz hn h ha
def fb (r:List Bool) (p:Nat × Nat):List Bool:=if r.getD p.1 false then r.set p.2 true else r
def fH (l:List (Nat × Nat)) (r:List Bool):List Bool:=l.foldl fb r
def b9 (l:List (Nat × Nat)) (r:List Bool) (k:Nat):List Bool:=(List.range k).foldl (fun r _=>fH l r) r
def pI (n:Nat) (l:List (Nat × Nat)) (a:Nat):List Bool:=b9 l ((List.replicate n false).set a true) n
theorem du (l:List (Nat × Nat)) (r:List Bool) (k:Nat):b9 l r (k + 1)=fH l (b9 l r k):=by simp [b9,List.range_succ]
theorem jb (r:List Bool) (p:Nat × Nat):(fb r p).length=r.length:=by unfold fb;split<;>simp
theorem lW (l:List (Nat × Nat)):∀ r,(fH l r).length=r.length:=by
 induction l with
 | nil=>intro r;rfl
 | cons p l ih=>intro r;simp only [fH,List.foldl_cons] at ih ⊢;rw [ih,jb]
theorem dP (l:List (Nat × Nat)) (r:List Bool):∀ k,(b9 l r k).length=r.length
 | 0=>by simp [b9]
 | k + 1=>by rw [du,lW,dP]
theorem nc (n:Nat) (l:List (Nat × Nat)) (a:Nat):(pI n l a).length=n:=by simp [pI,dP]
def HY (r s:List Bool):Prop:=∀ i:Nat,r.getD i false=true->s.getD i false=true
theorem ik {r:List Bool} {i j:Nat} (hi:i < r.length):(r.set i true).getD j false=(decide (j=i) || r.getD j false):=by grind
theorem xZ {r:List Bool} {p:Nat × Nat} (hp:p.2 < r.length):HY r (fb r p):=by
 intro i hi
 grind [fb,ik]
theorem ld:∀ {l:List (Nat × Nat)} {r:List Bool},(∀ p∈l,p.2 < r.length)->HY r (fH l r)
 | [],r,_,i,hi=>hi
 | p :: l,r,h,i,hi=>by
  have:HY (fb r p) (fH l (fb r p)):=ld fun q hq=>by rw [jb];exact h q (by simp [hq])
  exact this i (xZ (h p (by simp)) i hi)
def pJ (r:List Bool):Nat:=r.countP (fun x=>x)
theorem cntB_le (r:List Bool):pJ r<=r.length:=List.countP_le_length
theorem leB_eq:∀ {r s:List Bool},r.length=s.length->HY r s->(r=s∨pJ r < pJ s)/\pJ r<=pJ s
 | [],[],_,_=>⟨.inl rfl,zLeR _⟩
 | x :: r,y :: s,hl,h=>by
  have wv:r.length=s.length:=sU hl;have ih:=leB_eq wv (fun i hi=>by simpa using h (i + 1) (sU hi));have h0:x=true->y=true:=fun hx=>by simpa using h 0 (sU hx)
  grind [pJ]
 | [],_ :: _,h,_=>by simp at h
 | _ :: _,[],h,_=>by simp at h
theorem x4 {r s:List Bool} (hl:r.length=s.length) (h1:HY r s) (h2:HY s r):r=s:=by
 rcases (leB_eq hl h1).1 with h | h
 ·exact h
 ·have:=(leB_eq hl.symm h2).2;omega
theorem rJ:∀ {l:List (Nat × Nat)} {r:List Bool},(∀ p∈l,p.2 < r.length)->fH l r=r->∀ p∈l,r.getD p.1 false=true->r.getD p.2 false=true
 | [],_,_,_,p,hp,_=>by cases hp
 | q :: l,r,h,he,p,hp,h1=>by
  have hq:=h q (by simp);have hl:∀ p∈l,p.2 < (fb r q).length:=fun p hp=>by rw [jb];exact h p (by simp [hp])
  have hs:fb r q=r:=by
   have h2:HY (fb r q) r:=by
    have:=ld hl
    grind [fH,fb]
   grind [x4,jb,xZ]
  rcases cY hp with rfl | hp
  ·grind [fb,ik]
  ·have LN:fH l r=r:=by grind [fH,fb]
   exact rJ (fun p hp=>h p (by simp [hp])) LN p hp h1
theorem pe {l:List (Nat × Nat)} {r:List Bool} (h:∀ p∈l,p.2 < r.length):∀ k,fH l (b9 l r k)=b9 l r k∨pJ r + k<=pJ (b9 l r k)
 | 0=>.inr (by simp [b9])
 | k + 1=>by
  have hk:∀ p∈l,p.2 < (b9 l r k).length:=fun p hp=>by rw [dP];exact h p hp
  rcases pe h k with h1 | h1
  ·left;rw [du,h1,h1]
  ·rcases (leB_eq (lW l _).symm (ld hk)).1 with h2 | h2
   ·left;rw [du,<- h2,<- h2]
   ·right;rw [du];omega
theorem Dp {l:List (Nat × Nat)} {a:Nat} {r:List Bool} {p:Nat × Nat} (hp:p∈l) (hl:p.2 < r.length) (h:∀ i,r.getD i false=true->pY (fun x y=>(x,y)∈l) a i):∀ i,(fb r p).getD i false=true->pY (fun x y=>(x,y)∈l) a i:=by
 intro i hi;unfold fb at hi;split at hi
 ·rename_i h1;rw [ik hl] at hi;simp only [Bool.or_eq_true,decide_eq_true_eq] at hi;rcases hi with rfl | hi
  ·exact .step (h _ h1) hp
  ·exact h i hi
 ·exact h i hi
theorem rK {l:List (Nat × Nat)} {a:Nat}:∀ (m:List (Nat × Nat)) {r:List Bool},(∀ p∈m,p∈l/\p.2 < r.length)->(∀ i,r.getD i false=true->pY (fun x y=>(x,y)∈l) a i)->∀ i,(fH m r).getD i false=true->pY (fun x y=>(x,y)∈l) a i
 | [],_,_,h=>h
 | p :: m,r,hm,h=>rK m (r:=fb r p) (fun q hq=>by rw [jb];exact hm q (by simp [hq])) (Dp (hm p (by simp)).1 (hm p (by simp)).2 h)
theorem pf {l:List (Nat × Nat)} {a:Nat} {r:List Bool} (hl:∀ p∈l,p.2 < r.length) (h:∀ i,r.getD i false=true->pY (fun x y=>(x,y)∈l) a i):∀ k i,(b9 l r k).getD i false=true->pY (fun x y=>(x,y)∈l) a i
 | 0=>by simpa [b9] using h
 | k + 1=>by
  rw [du];exact rK l (fun p hp=>⟨hp,by rw [dP];exact hl p hp⟩) (pf hl h k)
theorem rL {l:List (Nat × Nat)} {r:List Bool} (hl:∀ p∈l,p.2 < r.length):∀ k,HY r (b9 l r k)
 | 0=>by intro i hi;simpa [b9] using hi
 | k + 1=>fun i hi=>by
  rw [du];exact ld (fun p hp=>by rw [dP];exact hl p hp) i (rL hl k i hi)
theorem GA {n a:Nat} (ha:a < n):1<=pJ ((List.replicate n false).set a true):=by grind [pJ]
theorem GB {n:Nat} {l:List (Nat × Nat)} (h:om n l) {a b:Nat} (ha:a < n) (hb:b < n):(pI n l a).getD b false=dt n l a b:=by
 have hl:∀ p∈l,p.2 < ((List.replicate n false).set a true).length:=fun p hp=>by simp;exact (h p hp).2
 have wy:a < (List.replicate n false).length:=by simp [ha]
 rw [Bool.eq_iff_iff,kx h ha hb];constructor
 ·refine pf hl (fun i hi=>?_) n b;rw [ik wy] at hi;simp only [Bool.or_eq_true,decide_eq_true_eq] at hi;rcases hi with rfl | hi
  ·exact .refl _
  all_goals grind
 ·have Up:fH l (pI n l a)=pI n l a:=by
   rcases pe hl n with h1 | h1
   ·exact h1
   ·grind [cntB_le,b9,dP,GA]
  have gL:=rJ (fun p hp=>by rw [nc];exact (h p hp).2) Up;intro hr;have Uo:(pI n l a).getD a false=true:=rL hl n a (by rw [ik wy];simp);clear hb
  induction hr with
  | refl=>exact Uo
  | step _ h2 ih=>exact gL _ h2 ih
def cW (n:Nat) (f:Nat->Nat->Bool):List (List Bool):=(List.range n).map fun a=>(List.range n).map (f a)
theorem Jc {n:Nat} {l:List (Nat × Nat)} (h:om n l) {a:Nat} (ha:a < n):pI n l a=(List.range n).map (dt n l a):=by
 refine List.ext_getElem? fun i=>?_;by_cases hi:i < n
 ·have:=GB h ha hi
  grind [nc]
 ·grind [nc]
theorem x5 {n:Nat} {f:Nat->Nat->Bool} {a:Nat} (ha:a < n):(cW n f)[a]? = some ((List.range n).map (f a)):=by
 simp [cW,List.getElem?_range ha]
theorem Dq {l:List Wd} {i:Nat} {x:Wd} (h:l[i]? = some x):ap (l.take (i + 1))=ap (l.take i) ++ [x.s]:=by
 rw [List.take_add_one,h];simp [ap]
theorem Jd (l:List Wd) (s:ByteArray):bR l s=true↔s∈ap l:=by grind [bR,ap]
theorem jQ {l:List Wd} {i:Nat} {x:Wd} (h:l[i]? = some x) (hn:(ap (l.take i)).Nodup):(ap (l.take (i + 1))).Nodup↔bR (l.take i) x.s=false:=by grind [Dq,bR,Jd]
theorem ub {l:List Wd} {i:Nat} {x:Wd} (a:Int) (h:l[i]? = some x) (hn:(ap (l.take i)).Nodup) :
  eW (ap (l.take (i + 1))) x.s a=if az l i x≠0 then (az l i x,a) else (0,0):=by
 have hs:=jQ h hn;unfold eW az;by_cases h1:aY x.s=true
 ·grind
 ·rw [ah h1,ah h1];all_goals rfl
theorem jR {l:List Wd} {i:Nat} {x:Wd} (h:l[i]? = some x) (hn:(ap (l.take i)).Nodup) (hz:az l i x=0):(ap (l.take (i + 1))).Nodup:=by grind [jQ,az,aY,bR]
theorem uc (l:List Wd):∀ (d e:Nat),e + d=l.length->(enumP l e)=(0,0)->(ap (l.take e)).Nodup->enumP l l.length=enumL l e (l.drop e)
 | 0,e,hd,hz,hn=>by
  have:e=l.length:=by omega
  subst this;rw [hz,List.drop_length];all_goals rfl
 | d + 1,e,hd,hz,hn=>by
  obtain ⟨x,hx⟩:∃ x,l[e]? = some x:=⟨_,gE (by omega)⟩;have h1:=rk (by rw [hz]) hx;rw [ub x.a hx hn] at h1;rw [drop_cons hx];simp only [enumL];by_cases hf:az l e x≠0
  ·rw [zIfP hf] at h1 ⊢;have hst:=lS (l:=l) (e:=e + 1) (by rw [h1];exact hf) d
   grind
  ·rw [ah hf] at h1 ⊢;exact uc l d (e + 1) (by omega) h1 (jR hx hn (sU hf))
theorem GC (h:Hd):ku h=fB h:=by
 unfold ku fB;by_cases h0:h.af=[]
 ·rw [zIfP h0,zIfP (by simp [h0])]
 ·rw [ah h0,ah (sU h0)];by_cases h1:64 < h.af.length
  ·rw [zIfP h1,zIfP h1]
  ·rw [ah h1,ah h1];have:=uc h.af h.af.length 0 (by omega) rfl (by simp [ap]);simpa using this
def lX (p:Ph):Ph:=⟨p.name,true,[],0,0,0,0,[]⟩
theorem Je (p:Ph) (t:Ty):cm p t (lX p) bT=(bQ p gv && sameTy t bT):=by grind [bQ,lX,gv,cm]
theorem empty_eq (p:Ph):cm p bT dK bT=(decide (p.name.s=aJ) && bQ p dK):=by
 have e:sameTy bT bT=true:=by simp [bT,FI,sameTy,iK,samePts,sameWds]
 simp only [cm,e,Bool.and_true];rfl
def cf (L:List ByteArray) (s:ByteArray):Option Nat:=bE (fun i=>decide (L[i]? = some s)) L.length
theorem cx {L:List ByteArray} {s:ByteArray} {p:Nat} (h:cf L s=some p):p < L.length/\L[p]? = some s/\∀ j,L[j]? = some s->p<=j:=by
 obtain ⟨h1,h2,h3⟩:=dO h
 grind
theorem vF {L:List ByteArray} {s:ByteArray} {p:Nat} (h1:L[p]? = some s) (h2:∀ j,L[j]? = some s->p<=j):cf L s=some p:=by
 refine cw (gS h1).1 (sU h1) fun a ha=>?_
 grind
theorem oq {L:List ByteArray} {s:ByteArray} (h:∀ j:Nat,L[j]? ≠ some s):cf L s=none:=cL fun a _=>by simpa using h a
theorem sN {L:List ByteArray} {s:ByteArray}:cf L s=none↔s ∉ L:=by
 constructor
 ·intro h hm;obtain ⟨j,hj⟩:=List.mem_iff_getElem?.1 hm
  grind [cf,bE]
 ·grind [oq]
theorem fI (L:List ByteArray) (aA:List Nat) (s:ByteArray) (hT:fl L aA) (hl:aA.length<=1099511627776) :
  aV prog 112 [.pt (cd L aA) 0,.v (.string s)] (Gx (cf L s)):=by
 by_cases hm:s∈L
 ·obtain ⟨j,hj⟩:=List.mem_iff_getElem?.1 hm;obtain ⟨q,p,hq,hp⟩:=hT.all j s hj;rw [vF hp fun j' gM=>hT.fst q p j' s hq hp gM];exact find_spec L aA s q p hT hl hq hp
 rw [oq fun j hj=>hm (mG hj)]
 let pr:Nat->Prop:=fun i=>i=aA.length∨∃ p t,aA[i]? = some p/\L[p]? = some t/\vg t s=false
 obtain ⟨m,iu,zi⟩:=least (p:=pr) ⟨aA.length,.inl rfl⟩;have hmn:m<=aA.length:=zi _ (.inl rfl);refine eG 47 [.tmp 4,.tmp 5] func112 rfl ntmps112 rfl fun _ _ _ _=>?_
 have gL:∀ i:Nat,i < aA.length->aV prog 201 [.v (.int .i64 i),.pt [.pt (cd L aA) 0] 0,.pt [.v (.string s)] 0] (.v (.bool (decide (m<=i)))):=by
  intro i hi;obtain ⟨p',sK⟩:∃ p',aA[i]? = some p':=⟨_,gE hi⟩;obtain ⟨t,ht⟩:∃ t,L[p']? = some t:=⟨_,gE (hT.lt i p' sK)⟩;have:=qZ L aA s i p' t sK ht
  have e:(!vg t s)=decide (m<=i):=by
   by_cases h:m<=i
   ·have:vg t s=false:=by
     rcases iu with iu | ⟨p,u,h1,h2,h3⟩
     ·omega
     ·rcases Nat.lt_or_eq_of_le h with h4 | h4
      ·have h5:=hT.TQ m i p p' u t h4 h1 sK h2 ht;cases h6:vg t s
       ·rfl
       ·grind [eu,vg]
      ·grind
    simp [this,h]
   ·grind
  rw [e] at this;exact this
 have hS:=o0 201 Kk [.pt [.pt (cd L aA) 0] 0,.pt [.v (.string s)] 0] aA.length m hl hmn ax rfl gL;refine ve Kj hS (pV (aZ aA)) rfl ?_;refine dI ?_;refine br ?_ ?_<;>intro h
 ·have aq:m < aA.length:=by grind [dInts,aZ]
  rcases iu with iu | ⟨p,t,h1,h2,h3⟩
  ·omega
  refine iX (bX h1) ?_;refine iX (eU h2) ?_;refine br ?_ ?_<;>intro h4
  ·exact ⟨_,ax,rfl⟩
  ·grind [aj]
 ·exact ⟨_,ax,rfl⟩
def eo (l:List Wd) (o:List (Wd × Wd)):Ft:=
 if l=[] then (15,0)
 else if 32 < l.length then (8,((l[32]?).getD (⟨aJ,0⟩:Wd)).a)
 else if 256 < o.length then (8,((o[256]?).getD ((⟨aJ,0⟩,⟨aJ,0⟩):Wd × Wd)).1.a)
 else (0,0)
theorem Ds (l:List Wd) (o:List (Wd × Wd)):aV prog 123 [.sl 2 (bm l) none,.sl 4 (j3 o) none] (eo l o).d:=by
 refine eG 30 [.cell 4 26] func123 rfl ntmps123 rfl fun _ _ _ _=>?_;refine br ?_ ?_<;>intro h
 ·have h:l=[]:=by simpa [ak] using h
  refine ⟨_,?_,rfl⟩;rw [eo,zIfP h];exact ax
 have h:¬ l=[]:=by simpa [ak] using h
 refine br ?_ ?_<;>intro h1
 ·have h1:32 < l.length:=by simp [ak] at h1;omega
  obtain ⟨x,hx⟩:∃ x,l[32]? = some x:=⟨_,gE h1⟩;refine ⟨gl x,⟨by omega,aH hx⟩,?_⟩;refine ⟨_,?_,rfl⟩;rw [eo,ah h,zIfP h1,hx];exact ax
 have h1:¬ 32 < l.length:=by simp [ak] at h1;omega
 refine br ?_ ?_<;>intro h2
 ·have h2:256 < o.length:=by simp [ek] at h2;omega
  obtain ⟨x,hx⟩:∃ x,o[256]? = some x:=⟨_,gE h2⟩;refine ⟨Eo x,⟨by omega,eY hx⟩,?_⟩;refine ⟨_,?_,rfl⟩;rw [eo,ah h,ah h1,zIfP h2,hx];exact ax
 have h2:¬ 256 < o.length:=by simp [ek] at h2;omega
 refine ⟨_,?_,rfl⟩;rw [eo,ah h,ah h1,ah h2];exact ax
def Qo (f:Ft) (L:List ByteArray):DV:=.bW [if f.1=0 then .sl 1 (dB L) none else .v (.slice none 0 0),f.d]
abbrev KJ (l:List Wd) (n e:Nat):St:=
 ⟨[aE 3 0,(4,⟨[],.sl 1 (dB (ap (l.take e))) (some 0)⟩),aT 7 2 (bm l),al 8 ((bm l).length),al 9 e],[[.v (.int .i64 0),.v (.int .i64 0)]],[⟨n,9,1,none⟩]⟩
theorem lY {all:List Wd} {e:Nat} {w:Wd} (h:all[e]? = some w):enumL all e (all.drop e)=if az all e w≠0 then (az all e w,w.a) else enumL all (e + 1) (all.drop (e + 1)):=by
 rw [drop_cons h,enumL]
theorem x6 (l:List Wd) (hs:wdsWt l<=1099511627776):aV prog 124 [.sl 2 (bm l) none] (Qo (enumL l 0 l) (ap l)):=by
 have nT:=bf l;refine eG 36 [.tmp 2,.cell 3 26] func124 rfl ntmps124 rfl fun _ _ _ _=>?_;refine lI (fun j st=>∃ e:Nat,st=KJ l e e/\e<=l.length/\(ap (l.take e)).Nodup/\enumL l 0 l=enumL l e (l.drop e)/\j=l.length - e) ⟨0,rfl,by omega,by simp [ap],rfl,rfl⟩ (dH ⟨0,9,1,none⟩ rfl ⟨_,rfl⟩ rfl wA rfl rfl pD) ?_;rintro j st ⟨e,rfl,he,hnd,aD,rfl⟩;rw [aD];refine br ?_ ?_<;>intro hL
 ·have aq:e < l.length:=by simpa [ak] using hL
  obtain ⟨w,hw⟩:=gX aq;have KC:=fx (mG hw);have kZ:=gO hw;have hst:=lY hw;have y4:=jQ hw hnd;have GD:=lR (ap (l.take (e + 1))) (by simp [ap];omega);rw [<- kZ] at GD;refine ⟨gl w,⟨by omega,aH hw⟩,?_⟩;refine ⟨by simp [bP,ap];omega,⟨by simp [bP,ap,maxLen];omega,by simp [bP,ap];omega⟩,?_⟩;refine cP CI (fA w.s (by omega)) ?_;refine br ?_ ?_<;>intro hN
  ·have hN:aY w.s=false:=sU hN;have hf:az l e w=9:=by simp [az,hN]
   rw [hst,hf,zIfP (by decide)];refine dS ?_;exact ⟨_,ax,rfl⟩
  ·have hN:aY w.s=true:=sU hN;refine gp Fs rfl GD ax (fun r hr=>?_);obtain ⟨z,rfl,hz⟩:=hr;refine br ?_ ?_<;>intro h2
   ·have h2:0<=z:=sU h2;have hd:bR (l.take e) w.s=true:=by grind
    have hf:az l e w=10:=by simp [az,hN,hd]
    rw [hst,hf,zIfP (by decide)];refine dS ?_;exact ⟨_,ax,rfl⟩
   ·have h2:¬ 0<=z:=sU h2;have sL:(ap (l.take (e + 1))).Nodup:=Classical.byContradiction fun hn=>h2 (hz.2 hn);have hf:az l e w=0:=by simp [az,hN,y4.1 sL]
    rw [hf,ah (by simp)] at hst;refine ⟨KJ l (e + 1) (e + 1),(bl (iv (aS aq (by omega)) kZ)),l.length - (e + 1),by omega,e + 1,rfl,by omega,sL,hst,rfl⟩
 ·have hge:e=l.length:=by
   have:=hL;simp [ak] at this;omega
  have h0:enumL l e (l.drop e)=(0,0):=by rw [hge,List.drop_length];all_goals rfl
  rw [h0];have ht:l.take e=l:=by rw [hge,List.take_length]
  rw [ht];exact ⟨_,ax,rfl⟩
def numF (L:List ByteArray):List (Wd × Wd)->Ft
 | []=>(0,0)
 | p :: r=>if cf L p.1.s=none then (17,p.1.a) else if cf L p.2.s=none then (17,p.2.a) else numF L r
def Mv (L:List ByteArray) (p:Wd × Wd):Nat × Nat:=((cf L p.1.s).getD 0,(cf L p.2.s).getD 0)
def cr (L:List ByteArray) (o:List (Wd × Wd)):List (Nat × Nat):=o.map (Mv L)
def Qp (f:Ft) (l:List (Nat × Nat)):DV:=.bW [if f.1=0 then .sl 2 (jM l) none else .v (.slice none 0 0),f.d]
theorem ue {L:List ByteArray} {o:List (Wd × Wd)} {e a b:Nat} {x:Wd × Wd} (h:o[e]? = some x) (ha:cf L x.1.s=some a) (hb:cf L x.2.s=some b):jM (cr L (o.take e)) ++ [[DV.v (.int .i64 (a:Int)),DV.v (.int .i64 (b:Int))]]=jM (cr L (o.take (e + 1))):=by
 rw [List.take_add_one,h];simp [jM,cr,Mv,ha,hb,Ul]
abbrev KK (L:List ByteArray) (aA:List Nat) (o:List (Wd × Wd)) (n e:Nat):St:=
 ⟨[nZ 0 (cd L aA),aE 5 0,(6,⟨[],.sl 2 (jM (cr L (o.take e))) (some 0)⟩),aT 12 4 (j3 o),al 13 ((j3 o).length),al 14 e],[[.v (.int .i64 0),.v (.int .i64 0)]],[⟨n,285,2,none⟩]⟩
theorem sO (L:List ByteArray) (aA:List Nat) (hT:fl L aA) (hl:aA.length<=1099511627776) (o:List (Wd × Wd)) (hs:prsWt o<=1099511627776) :
  aV prog 126 [.pt (cd L aA) 0,.sl 4 (j3 o) none] (Qp (numF L o) (cr L o)):=by
 have nT:=fD o;refine eG 55 [.tmp 4,.cell 5 26] func126 rfl ntmps126 rfl fun _ _ _ _=>?_;refine lI (fun j st=>∃ e:Nat,st=KK L aA o e e/\e<=o.length/\numF L o=numF L (o.drop e)/\j=o.length - e) ⟨0,rfl,by omega,rfl,rfl⟩ (dH ⟨0,285,2,none⟩ rfl ⟨_,rfl⟩ rfl wA rfl rfl pD) ?_;rintro j st ⟨e,rfl,he,aD,rfl⟩;rw [aD];refine br ?_ ?_<;>intro hL
 ·have aq:e < o.length:=by simpa [ek] using hL
  obtain ⟨w,hw⟩:=gX aq;have hst:numF L (o.drop e)=if cf L w.1.s=none then (17,w.1.a) else if cf L w.2.s=none then (17,w.2.a) else numF L (o.drop (e + 1)):=by rw [drop_cons hw,numF]
  have Em:=fI L aA w.1.s hT hl;have qB:=fI L aA w.2.s hT hl;refine ⟨Eo w,⟨by omega,eY hw⟩,?_⟩
  cases ha:cf L w.1.s with
  | none=>
   rw [ha] at Em;refine cP kk Em ?_;rw [hst,zIfP ha];refine dS ?_;exact ⟨_,ax,rfl⟩
  | some a=>
   rw [ha] at Em;refine cP kk Em ?_
   cases hb:cf L w.2.s with
   | none=>
    rw [hb] at qB;refine cP kk qB ?_;rw [hst,ah (by rw [ha];simp),zIfP hb];refine dS ?_;exact ⟨_,ax,rfl⟩
   | some b=>
    rw [hb] at qB;refine cP kk qB ?_;rw [ah (by rw [ha];simp),ah (by rw [hb];simp)] at hst;refine ⟨by simp [eZ,cr];omega,⟨by simp [eZ,cr,maxLen];omega,by simp [eZ,cr];omega⟩,?_⟩;refine ⟨KK L aA o (e + 1) (e + 1),(bl (iv (aS aq (by omega)) (ue hw ha hb))),o.length - (e + 1),by omega,e + 1,rfl,by omega,hst,rfl⟩
 ·have hge:e=o.length:=by
   have:=hL;simp [ek] at this;omega
  have h0:numF L (o.drop e)=(0,0):=by rw [hge,List.drop_length];all_goals rfl
  rw [h0];have ht:o.take e=o:=by rw [hge,List.take_length]
  rw [ht];exact ⟨_,ax,rfl⟩
def cZ (l:List Int):List DV:=l.map fun z=>DV.v (.int .i64 z)
def Ae (af:List ByteArray) (tb lq:DV) (js:List Int):List DV:=.sl 1 (dB af) none :: tb :: lq :: cZ js
def oz:Option Nat->Int
 | none=>-1
 | some k=>(k:Int)
def x7 (pb:Nat->Nat->Bool) (e:Nat):Option Nat->Bool
 | none=>true
 | some o=>pb e o
def bestA (iM:Nat->Bool) (pb:Nat->Nat->Bool):Nat->Option Nat
 | 0=>none
 | e + 1=>if iM e && x7 pb e (bestA iM pb e) then some e else bestA iM pb e
def ky (iM:Nat->Bool) (pb:Nat->Nat->Bool) (n:Nat):Option Nat:=
 match bestA iM pb n with
 | none=>none
 | some o=>if (List.range n).any (fun c=>iM c && !pb o c) then none else some o
theorem kz {iM:Nat->Bool} {pb:Nat->Nat->Bool}:∀ {e k:Nat},bestA iM pb e=some k->k < e
 | 0,k,h=>by cases h
 | e + 1,k,h=>by
  rw [bestA] at h;split at h
  ·simp only [oI] at h;omega
  ·have:=kz h;omega
theorem ou (af:List ByteArray) (tb:DV) (rows:List Nat) (js:List Int) (hr:dc rows) (a b:Nat) (ha:a < rows.length) (hb:b < rows.length) :
  aV prog 211 [.v (.int .i64 a),.v (.int .i64 b),.pt [.pt (Ae af tb (j5 rows) js) 0] 0] (.v (.bool (aK rows a b))):=by
 have h1:=iY rows hr a b;rw [mW ha hb] at h1;refine eG 13 [.tmp 5] func211 rfl ntmps211 rfl fun _ _ _ _=>?_;refine cP xx h1 ?_;exact (rfl:_=_)
theorem ov (af:List ByteArray) (tb:DV) (rows:List Nat) (js:List Int) (hr:dc rows) (a b:Nat) (ha:a < rows.length) (hb:b < rows.length) :
  aV prog 213 [.v (.int .i64 a),.v (.int .i64 b),.pt [.pt (Ae af tb (j5 rows) js) 0] 0] (.v (.bool (aK rows b a))):=by
 have h1:=iY rows hr b a;rw [mW hb ha] at h1;refine eG 13 [.tmp 5] func213 rfl ntmps213 rfl fun _ _ _ _=>?_;refine cP xx h1 ?_;exact (rfl:_=_)
abbrev KL (L:List DV):DV:=.fn 211 [] [.pt [.pt L 0] 0]
abbrev KM (L:List DV):DV:=.fn 213 [] [.pt [.pt L 0] 0]
theorem Dt (af:List ByteArray) (tb:DV) (rows:List Nat) (js:List Int) (hr:dc rows) (a b c:Nat) (ha:a < rows.length) (hb:b < rows.length) (hc:c < rows.length) :
  aV prog 215 [.v (.int .i64 c),.pt [KL (Ae af tb (j5 rows) js)] 0,.pt [.v (.int .i64 a)] 0,.pt [.v (.int .i64 b)] 0] (.v (.bool (aK rows a c && aK rows b c))):=by
 have h1:=ou af tb rows js hr a c ha hc;have h2:=ou af tb rows js hr b c hb hc;refine eG 16 [.tmp 5] func215 rfl ntmps215 rfl fun _ _ _ _=>?_;refine cP FB h1 ?_;refine br ?_ ?_<;>intro g
 ·have g:aK rows a c=true:=sU g;refine cP FB h2 ?_;refine (cg ?_:);simp [g,pickB]
 ·have g:aK rows a c=false:=sU g;refine (cg ?_:);simp [g,pickB]
theorem Du (af:List ByteArray) (tb:DV) (rows:List Nat) (js:List Int) (hr:dc rows) (a b c:Nat) (ha:a < rows.length) (hb:b < rows.length) (hc:c < rows.length) :
  aV prog 216 [.v (.int .i64 c),.pt [KM (Ae af tb (j5 rows) js)] 0,.pt [.v (.int .i64 a)] 0,.pt [.v (.int .i64 b)] 0] (.v (.bool (aK rows c a && aK rows c b))):=by
 have h1:=ov af tb rows js hr a c ha hc;have h2:=ov af tb rows js hr b c hb hc;refine eG 16 [.tmp 5] func216 rfl ntmps216 rfl fun _ _ _ _=>?_;refine cP FC h1 ?_;refine br ?_ ?_<;>intro g
 ·have g:aK rows c a=true:=sU g;refine cP FC h2 ?_;refine (cg ?_:);simp [g,pickB]
 ·have g:aK rows c a=false:=sU g;refine (cg ?_:);simp [g,pickB]
abbrev Mw (L:List DV) (gi gb:Nat) (ci cb:List DV) (n:Nat) (o:Int) (e:Nat):St:=
 ⟨[nZ 0 L,(1,⟨[],.fn gi [] ci⟩),(2,⟨[],.fn gb [] cb⟩),al 7 o,al 14 n,al 15 e],[],[]⟩
abbrev BZ (L:List DV) (gi gb:Nat) (ci cb:List DV) (n:Nat) (o:Int) (e:Nat):St:=
 ⟨[nZ 0 L,(1,⟨[],.fn gi [] ci⟩),(2,⟨[],.fn gb [] cb⟩),al 7 o,al 37 n,al 38 e],[],[]⟩
theorem uf (af:List ByteArray) (tb lq:DV) (js:List Int) (gi gb:Nat) (Wx:Enters prog gi) (Wy:Enters prog gb) (ci cb:List DV) (iM:Nat->Bool) (pb:Nat->Nat->Bool)
  (Qq:CcL [] 0 0 0 ci ci) (Qr:CcL [] 0 0 0 cb cb) (Uq:clB.clL 0 0 ci=true) (Ur:clB.clL 0 0 cb=true) (hn:af.length<=64)
  (wy:∀ c:Nat,c < af.length->aV prog gi (.v (.int .i64 c) :: ci) (.v (.bool (iM c))))
  (Wz:∀ a b:Nat,a < af.length->b < af.length->aV prog gb (.v (.int .i64 a) :: .v (.int .i64 b) :: cb) (.v (.bool (pb a b)))) :
  aV prog 214 [.pt (Ae af tb lq js) 0,.fn gi [] ci,.fn gb [] cb] (.v (.int .i64 (oz (ky iM pb af.length)))):=by
 have hN:=bP af;have vG:clB 0 0 (.fn gi [] ci)=true:=by simp only [clB,bA];exact ⟨rfl,Uq⟩
 have B0:clB 0 0 (.fn gb [] cb)=true:=by simp only [clB,bA];exact ⟨rfl,Ur⟩
 refine eG 57 [.tmp 6] func214 rfl ntmps214 rfl fun _ _ _ _=>?_;refine lJ (fun e=>Mw (Ae af tb lq js) gi gb ci cb (dB af).length (oz (bestA iM pb e)) e) af.length (bl (iv vG B0)) ?_;intro e he;refine br ?_ ?_<;>intro hL
 ·have aq:e < af.length:=by have:=hL;simp [hN] at this;exact this
  have hs:bestA iM pb (e + 1)=if iM e && x7 pb e (bestA iM pb e) then some e else bestA iM pb e:=rfl
  refine cP Wx (wy e aq) ?_ ⟨_,_,rfl,rfl,Qq⟩
  cases hA:bestA iM pb e with
  | none=>
   rw [hA] at hs;refine br ?_ ?_<;>intro g
   ·have g:iM e=true:=by simpa [lastG] using g
    have hz:(e:Int)=oz (bestA iM pb (e + 1)):=by rw [hs,g];all_goals rfl
    exact rE ⟨_,by omega,e + 1,rfl,by omega,rfl⟩ (bl (Oo vG B0 (aS aq (by omega)) hz))
   ·have g:iM e=false:=by simpa [lastG] using g
    have hz:oz none=oz (bestA iM pb (e + 1)):=by rw [hs,g];all_goals rfl
    exact rE ⟨_,by omega,e + 1,rfl,by omega,rfl⟩ (bl (Oo vG B0 (aS aq (by omega)) hz))
  | some k=>
   rw [hA] at hs;have hk:=kz hA;refine br ?_ ?_<;>intro g
   ·have g:iM e=true:=by simpa [lastG] using g
    refine cP Wy (Wz e k aq (by omega)) ?_ ⟨_,_,rfl,rfl,_,_,rfl,rfl,Qr⟩;refine br ?_ ?_<;>intro g2
    ·have g2:pb e k=true:=by simpa [pickB,g,lastG] using g2
     have hz:(e:Int)=oz (bestA iM pb (e + 1)):=by rw [hs,g,x7,g2];all_goals rfl
     exact rE ⟨_,by omega,e + 1,rfl,by omega,rfl⟩ (bl (Oo vG B0 (aS aq (by omega)) hz))
    ·have g2:pb e k=false:=by simpa [pickB,g,lastG] using g2
     have hz:oz (some k)=oz (bestA iM pb (e + 1)):=by rw [hs,g,x7,g2];all_goals rfl
     exact rE ⟨_,by omega,e + 1,rfl,by omega,rfl⟩ (bl (Oo vG B0 (aS aq (by omega)) hz))
   ·have g:iM e=false:=by simpa [lastG] using g
    have hz:oz (some k)=oz (bestA iM pb (e + 1)):=by rw [hs,g];all_goals rfl
    exact rE ⟨_,by omega,e + 1,rfl,by omega,rfl⟩ (bl (Oo vG B0 (aS aq (by omega)) hz))
 ·have hge:e=af.length:=sW hN hL;subst hge;refine lI (fun j st=>∃ e:Nat,st=BZ (Ae af tb lq js) gi gb ci cb (dB af).length (oz (bestA iM pb af.length)) e/\e<=af.length/\(∀ o,bestA iM pb af.length=some o->∀ c,c < e->(iM c && !pb o c)=false)/\j=af.length - e) ⟨0,rfl,by omega,fun _ _ c hc=>by omega,rfl⟩ (bl (iv vG B0)) ?_;rintro j st ⟨e,rfl,he,hno,rfl⟩;refine br ?_ ?_<;>intro hL
  ·have aq:e < af.length:=by have:=hL;simp [hN] at this;exact this
   cases hA:bestA iM pb af.length with
   | none=>
    exact ⟨BZ (Ae af tb lq js) gi gb ci cb (dB af).length (oz none) (e + 1),(bl (LK vG B0 (aS aq (by omega)))),af.length - (e + 1),by omega,e + 1,rfl,by omega,(fun _ h=>by cases h),rfl⟩
   | some o=>
    have ho:=kz hA;have hno:=hno o hA;refine cP Wx (wy e aq) ?_ ⟨_,_,rfl,rfl,Qq⟩;refine br ?_ ?_<;>intro g
    ·have g:iM e=true:=by simpa [pickB] using g
     refine cP Wy (Wz o e ho aq) ?_ ⟨_,_,rfl,rfl,_,_,rfl,rfl,Qr⟩;refine br ?_ ?_<;>intro g2
     ·have g2:pb o e=false:=by simpa [pickB,g,lastG] using g2
      have:ky iM pb af.length=none:=by
       rw [ky,hA];simp only;rw [zIfP];rw [List.any_eq_true];exact ⟨e,by simpa using aq,by simp [g,g2]⟩
      rw [this];exact (rfl:_=_)
     ·have g2:pb o e=true:=by simpa [pickB,g,lastG] using g2
      exact rE ⟨_,by omega,e + 1,rfl,by omega,fun o' JX c hc=>by
       cases JX;rcases lE hc with hc | rfl
       ·exact hno c hc
       ·simp [g2],rfl⟩ (bl (LK vG B0 (aS aq (by omega))))
    ·have g:iM e=false:=by simpa [pickB] using g
     exact rE ⟨_,by omega,e + 1,rfl,by omega,fun o' JX c hc=>by
       cases JX;rcases lE hc with hc | rfl
       ·exact hno c hc
       ·simp [g],rfl⟩ (bl (LK vG B0 (aS aq (by omega))))
  ·have hge:e=af.length:=sW hN hL;subst hge
   have:ky iM pb af.length=bestA iM pb af.length:=by
    cases hA:bestA iM pb af.length with
    | none=>rw [ky,hA]
    | some o=>
     rw [ky,hA];simp only;rw [ah];rw [List.any_eq_true];rintro ⟨c,hc,h2⟩;rw [hno o hA c (sU hc)] at h2;cases h2
   rw [this];exact (rfl:_=_)
theorem ow (js:List Int) (bx:List (List DV)) (N n m:Nat):CcL bx N n m (cZ js) (cZ js):=by
 induction js with
 | nil=>exact rfl
 | cons z r ih=>exact ⟨_,_,rfl,rfl,ih⟩
theorem nY {n m:Nat} {tk:List TkE} (js:List Int):WeL n m tk (cZ js) (cZ js):=rD _ fun x hx=>by
 obtain ⟨z,_,rfl⟩:=List.mem_map.1 hx;exact ⟨_,rfl⟩
theorem Mx (f:Nat->Nat) (js:List Int):renL f (cZ js)=cZ js:=by
 induction js with
 | nil=>rfl
 | cons z r ih=>simp only [cZ,List.map_cons,renL,renD] at ih ⊢;rw [ih]
theorem My (js:List Int):(cZ js).length=js.length:=by simp [cZ]
theorem GF (js:List Int) (i:Nat) (z:Int):(cZ js).set i (.v (.int .i64 z))=cZ (js.set i z):=by simp [cZ,List.map_set]
abbrev fJ (af:List ByteArray) (tc:List DV) (rows:List Nat) (js:List Int):List DV:=Ae af (.pt tc 0) (j5 rows) js
theorem Jf (af:List ByteArray) (tc:List DV) (rows:List Nat) (js:List Int):(fJ af tc rows js).length=js.length + 3:=by simp [Ae,cZ]
theorem pZ {af:List ByteArray} {tc:List DV} {rows:List Nat} {js:List Int} {i k:Nat} {z:Int} (h:k=i + 3):(fJ af tc rows js).set k (.v (.int .i64 z))=fJ af tc rows (js.set i z):=by grind [Ae,GF]
theorem Jg (f:Nat->Nat) (af:List ByteArray) (tc:List DV) (rows:List Nat) (js:List Int):renL f (fJ af tc rows js)=fJ af tc rows js:=by
 simp only [Ae,renL,Mx];rfl
theorem B2 {n m:Nat} {tk:List TkE} {l:List DV} {af:List ByteArray} {tc:List DV} {rows:List Nat} {js:List Int} (h:l=fJ af tc rows js):WeL n m tk l (fJ af tc rows js):=by
 subst h;exact ⟨_,_,rfl,au rfl,_,_,rfl,au rfl,_,_,rfl,au rfl,nY js⟩
def dF (f:Nat->Nat->Bool) (n a b:Nat):Option Nat:=ky (fun c=>f a c && f b c) f n
def gd (f:Nat->Nat->Bool) (n a b:Nat):Option Nat:=ky (fun c=>f c a && f c b) (fun x y=>f y x) n
theorem rM (f:Nat->Nat->Bool) (n a b:Nat):dF f n a b=dF f n b a:=by grind [dF]
theorem rN (f:Nat->Nat->Bool) (n a b:Nat):gd f n a b=gd f n b a:=by grind [gd]
def jc (f:Nat->Nat->Bool) (n a b:Nat):Bool:=(dF f n a b).isNone || (gd f n a b).isNone
def kA (f:Nat->Nat->Bool) (n b:Nat):Bool:=(List.range (b + 1)).any fun a=>jc f n a b
def JM (f:Nat->Nat->Bool) (n:Nat) (js:List Int) (a b:Nat):Prop:=js[a * 32 + b]? = some (oz (dF f n a b))/\js[1024 + (a * 32 + b)]? = some (oz (gd f n a b))
def sP (js:List Int) (a b:Nat) (j m:Int):List Int:=(((js.set (a * 32 + b) j).set (b * 32 + a) j).set (1024 + (a * 32 + b)) m).set (1024 + (b * 32 + a)) m
theorem GG (js:List Int) (a b:Nat) (j m:Int):(sP js a b j m).length=js.length:=by simp [sP]
theorem lZ {js:List Int} {i k:Nat} {z:Int} (h:k≠i):(js.set k z)[i]? = js[i]?:=List.getElem?_set_ne h
theorem B3 {f:Nat->Nat->Bool} {n:Nat} {js:List Int} (hl:js.length=2048) {a b:Nat} (ha:a < 32) (hb:b < 32) {x y:Nat} (hx:x < 32) (hy:y < 32)
  (h:JM f n js x y∨(x=a/\y=b)∨(x=b/\y=a)):JM f n (sP js a b (oz (dF f n a b)) (oz (gd f n a b))) x y:=by
 have key:(x=a/\y=b)∨(x=b/\y=a)∨(JM f n js x y/\¬ (x=a/\y=b)/\¬ (x=b/\y=a)):=by grind
 rcases key with ⟨rfl,rfl⟩ | ⟨rfl,rfl⟩ | ⟨h,h1,h2⟩
 ·grind [JM,sP,lZ]
 ·grind [JM,sP,rM,rN,lZ]
 ·grind [JM,sP,lZ]
abbrev KN (af:List ByteArray) (tc:List DV) (rows:List Nat) (js:List Int) (e:Nat):St:=
 ⟨[aE 1 1,aE 3 2,aE 4 3,al 15 ((dB af).length),al 16 e],
  [fJ af tc rows js,[.loc 0 0],[.fn 211 [] [.loc 1 0]],[.fn 213 [] [.loc 1 0]]],[]⟩
abbrev Af (af:List ByteArray) (tc:List DV) (rows:List Nat) (js:List Int) (e f:Nat):St:=
 ⟨[aE 1 1,aE 3 2,aE 4 3,al 15 ((dB af).length),al 16 e,aE 5 4,aE 6 5],
  [fJ af tc rows js,[.loc 0 0],[.fn 211 [] [.loc 1 0]],[.fn 213 [] [.loc 1 0]],[.v (.int .i64 e)],[.v (.int .i64 f)]],[]⟩
abbrev GH (af:List ByteArray) (tc:List DV) (rows:List Nat) (js:List Int) (e f:Nat):St:=
 ⟨[aE 1 1,aE 3 2,aE 4 3,al 15 ((dB af).length),al 16 e,aE 5 4,aE 6 6],
  [fJ af tc rows js,[.loc 0 0],[.fn 211 [] [.loc 1 0]],[.fn 213 [] [.loc 1 0]],[.v (.int .i64 e)],[.v (.int .i64 f)],[.v (.int .i64 (f + 1:Nat))]],[]⟩
abbrev GI (af:List ByteArray) (tc:List DV) (rows:List Nat) (js:List Int) (e f:Nat):St:=
 ⟨[aE 1 1,aE 3 2,aE 4 3,al 15 ((dB af).length),al 16 e,aE 5 4,aE 6 5],
  [fJ af tc rows js,[.loc 0 0],[.fn 211 [] [.loc 1 0]],[.fn 213 [] [.loc 1 0]],[.v (.int .i64 e)],[.v (.int .i64 (f + 1:Nat))],[.v (.int .i64 f)]],[]⟩
theorem Jh (af:List ByteArray) (tc:List DV) (rows:List Nat) (js:List Int) (e f:Nat):GH af tc rows js e f=ej 5 6 (GI af tc rows js e f):=by
 simp only [ej,renO,Jg];rfl
def Us (af:List ByteArray) (tc:List DV) (rows:List Nat) (r:DV) (os:List (List DV)) (_:List TkE):Prop:=
 ∃ Mz,os=[fJ af tc rows Mz]/\Mz.length=2048/\r = .v (.int .i64 (oz (bE (kA (aK rows) af.length) af.length))) /\
  (bE (kA (aK rows) af.length) af.length=none->∀ x y,x < af.length->y < af.length->JM (aK rows) af.length Mz x y)
theorem x8 (af:List ByteArray) (tc:List DV) (rows:List Nat) (js:List Int) (hr:dc rows) (hlen:rows.length=af.length) (hn:af.length<=32) (hj:js.length=2048) :
  Ev prog 130 [.loc 0 0] [fJ af tc rows js] [] (Us af tc rows):=by
 have hN:=bP af;refine eG 73 [.tmp 2] func130 rfl ntmps130 rfl fun _ _ _ _=>?_;refine lI (fun j st=>∃ (e:Nat) (js:List Int),st=KN af tc rows js e/\e<=af.length/\js.length=2048/\(∀ b,b < e->kA (aK rows) af.length b=false)/\(∀ x y,x < e->y < e->JM (aK rows) af.length js x y)/\j=af.length - e) ⟨0,js,rfl,by omega,hj,fun _ h=>by omega,fun _ _ h=>by omega,rfl⟩ (ep 4 zo pD) ?_;rintro j st ⟨e,js,rfl,he,hj,hno,HZ,rfl⟩;refine br ?_ ?_<;>intro hL
 ·have aq:e < af.length:=by have:=hL;simp [hN] at this;exact this
  refine zR (fun j st=>∃ (f:Nat) (js:List Int),st=Af af tc rows js e f/\f<=e + 1/\js.length=2048/\(∀ a,a < f->jc (aK rows) af.length a e=false)/\(∀ x y,x < e->y < e->JM (aK rows) af.length js x y)/\(∀ x,x < f->JM (aK rows) af.length js x e/\JM (aK rows) af.length js e x)/\j=e + 1 - f) (e + 1) (Af af tc rows js e 0) (.Mi (ep 6 zo pD)) ⟨0,js,rfl,by omega,hj,fun _ h=>by omega,HZ,fun _ h=>by omega,by omega⟩ ?_;clear HZ hj;rintro j st ⟨f,js,rfl,hf,hj,RW,HZ,hje,rfl⟩;refine br ?_ ?_<;>intro j6
  ·have J0:f<=e:=by have:=j6;simp at this;exact this
   have lm:=uf af (.pt tc 0) (j5 rows) js 215 211 Pn FB
    [.pt [KL (fJ af tc rows js)] 0,.pt [.v (.int .i64 f)] 0,.pt [.v (.int .i64 e)] 0] [.pt [.pt (fJ af tc rows js) 0] 0] (fun c=>aK rows f c && aK rows e c) (aK rows) ax ax rfl rfl (by omega)
    (fun c hc=>Dt af (.pt tc 0) rows js hr f e c (by omega) (by omega) (by omega)) (fun a b ha hb=>ou af (.pt tc 0) rows js hr a b (by omega) (by omega))
   have iT:=uf af (.pt tc 0) (j5 rows) js 216 213 Po FC
    [.pt [KM (fJ af tc rows js)] 0,.pt [.v (.int .i64 f)] 0,.pt [.v (.int .i64 e)] 0] [.pt [.pt (fJ af tc rows js) 0] 0] (fun c=>aK rows c f && aK rows c e) (fun x y=>aK rows y x) ax ax rfl rfl (by omega)
    (fun c hc=>Du af (.pt tc 0) rows js hr f e c (by omega) (by omega) (by omega)) (fun a b ha hb=>ov af (.pt tc 0) rows js hr a b (by omega) (by omega))
   refine ve Kl lm (by repeat' (first | exact rfl | exact trivial | exact Or.inr (Or.inl ⟨_,rfl⟩) | exact Or.inr ⟨_,rfl⟩ | exact Or.inl ⟨rfl,rfl⟩ | exact Or.inl rfl | refine Or.inr ⟨_,_,rfl,Nat.zero_le _,rfl,?_⟩ | refine ⟨_,_,rfl,?_,?_⟩ | refine ⟨_,rfl,?_⟩ | exact ow _ _ _ _ _ | refine Or.inr (Or.inr (Or.inr ⟨_,_,rfl,?_⟩)) | exact Or.inl rfl | refine Or.inr ?_)) rfl ?_;refine ve Kl iT (by repeat' (first | exact rfl | exact trivial | exact Or.inr (Or.inl ⟨_,rfl⟩) | exact Or.inr ⟨_,rfl⟩ | exact Or.inl ⟨rfl,rfl⟩ | exact Or.inl rfl | refine Or.inr ⟨_,_,rfl,Nat.zero_le _,rfl,?_⟩ | refine ⟨_,_,rfl,?_,?_⟩ | refine ⟨_,rfl,?_⟩ | exact ow _ _ _ _ _ | refine Or.inr (Or.inr (Or.inr ⟨_,_,rfl,?_⟩)) | exact Or.inl rfl | refine Or.inr ?_)) rfl ?_
   have MA:pickB (decide (oz (dF (aK rows) af.length f e) = -1)) true (decide (oz (gd (aK rows) af.length f e) = -1))=jc (aK rows) af.length f e:=by
    unfold jc
    cases dF (aK rows) af.length f e with
    | none=>rfl
    | some j=>
     have:decide (oz (some j) = -1)=false:=by simp [oz]
     rw [this]
     cases gd (aK rows) af.length f e with
     | none=>rfl
     | some m=>
      have:decide (oz (some m) = -1)=false:=by simp [oz]
      rw [this];rfl
   refine br ?_ ?_<;>intro g
   ·have g:jc (aK rows) af.length f e=true:=MA.symm.trans g;have hb:kA (aK rows) af.length e=true:=by grind [kA]
    have pB:=cw (p:=kA (aK rows) af.length) aq hb hno;refine ⟨.v (.int .i64 e),[fJ af tc rows js],ax,(by repeat' (first | exact rfl | exact trivial | exact Or.inr (Or.inl ⟨_,rfl⟩) | exact Or.inr ⟨_,rfl⟩ | exact Or.inl ⟨rfl,rfl⟩ | exact Or.inl rfl | refine Or.inr ⟨_,_,rfl,Nat.zero_le _,rfl,?_⟩ | refine ⟨_,_,rfl,?_,?_⟩ | refine ⟨_,rfl,?_⟩ | exact ow _ _ _ _ _ | refine Or.inr (Or.inr (Or.inr ⟨_,_,rfl,?_⟩)) | exact Or.inl rfl | refine Or.inr ?_)),js,rfl,hj,?_,fun h=>by rw [pB] at h;cases h⟩;rw [pB];rfl
   ·have g:jc (aK rows) af.length f e=false:=MA.symm.trans g;refine fM [0] (fun _=>false) mo (by decide +kernel) ?_;have gz:=Jf af tc rows js;refine ⟨⟨by omega,by omega⟩,?_⟩;refine ⟨⟨by omega,by omega⟩,?_⟩;refine ⟨by rw [gz];omega,?_⟩;refine ⟨⟨by omega,by omega⟩,?_⟩;refine ⟨⟨by omega,by omega⟩,?_⟩;refine ⟨by rw [List.length_set,gz];omega,?_⟩;refine fM [0] (fun _=>false) mo (by decide +kernel) ?_;refine ⟨⟨by omega,by omega⟩,?_⟩;refine ⟨⟨by omega,by omega⟩,?_⟩;refine ⟨by rw [List.length_set,List.length_set,gz];omega,?_⟩;refine ⟨⟨by omega,by omega⟩,?_⟩;refine ⟨⟨by omega,by omega⟩,?_⟩;refine ⟨by rw [List.length_set,List.length_set,List.length_set,gz];omega,?_⟩
    have gj:((((fJ af tc rows js).set (0 + 0 + 3 + (f:Int).toNat * 32 + (e:Int).toNat * 1) (DV.v (.int .i64 (oz (dF (aK rows) af.length f e))))).set (0 + 0 + 3 + (e:Int).toNat * 32 + (f:Int).toNat * 1) (DV.v (.int .i64 (oz (dF (aK rows) af.length f e))))).set (0 + 0 + 1027 + (f:Int).toNat * 32 + (e:Int).toNat * 1) (DV.v (.int .i64 (oz (gd (aK rows) af.length f e))))).set (0 + 0 + 1027 + (e:Int).toNat * 32 + (f:Int).toNat * 1) (DV.v (.int .i64 (oz (gd (aK rows) af.length f e))))=fJ af tc rows (sP js f e (oz (dF (aK rows) af.length f e)) (oz (gd (aK rows) af.length f e))):=by
     rw [pZ (i:=f * 32 + e) (by omega),pZ (i:=e * 32 + f) (by omega),pZ (i:=1024 + (f * 32 + e)) (by omega),pZ (i:=1024 + (e * 32 + f)) (by omega)];rfl
    refine ⟨Af af tc rows (sP js f e (oz (dF (aK rows) af.length f e)) (oz (gd (aK rows) af.length f e))) e (f + 1),
     .trans (.Mi (s2:=GH af tc rows (sP js f e (oz (dF (aK rows) af.length f e)) (oz (gd (aK rows) af.length f e))) e f) (ep 7 (by repeat' (first | exact rfl | exact au rfl | exact B2 gj | exact aw (aS (n:=e + 1) (by omega) (by omega)) | refine ⟨_,_,rfl,?_,?_⟩)) (by repeat' (first | exact trivial | exact au rfl | exact B2 gj | exact aw (aS (n:=e + 1) (by omega) (by omega)) | refine ⟨⟨_,rfl,?_⟩,?_⟩))))
      (.trans (.zy 5 6 (GI af tc rows (sP js f e (oz (dF (aK rows) af.length f e)) (oz (gd (aK rows) af.length f e))) e f) _ (Jh _ _ _ _ _ _) rfl rfl rfl rfl) (.Mi (ep 6 zo pD))),
     e + 1 - (f + 1),by omega,f + 1,_,rfl,by omega,by rw [GG];exact hj,fun a ha=>?_,fun x y hx hy=>?_,fun x hx=>?_,rfl⟩
    ·grind
    ·grind [B3]
    ·grind [B3]
  ·have J0:f=e + 1:=by have:=j6;simp at this;omega
   subst J0;have hb:kA (aK rows) af.length e=false:=by grind [kA]
   refine ⟨KN af tc rows js (e + 1),(ep 4 (u7 (aS aq (by omega))) (c8 (aS aq (by omega)))),af.length - (e + 1),by omega,e + 1,js,rfl,by omega,hj,fun b ef=>?_,fun x y hx hy=>?_,rfl⟩
   ·grind
   ·grind
 ·have hge:e=af.length:=sW hN hL;subst hge;refine ⟨.v (.int .i64 (-1)),[fJ af tc rows js],ax,(by repeat' (first | exact rfl | exact trivial | exact Or.inr (Or.inl ⟨_,rfl⟩) | exact Or.inr ⟨_,rfl⟩ | exact Or.inl ⟨rfl,rfl⟩ | exact Or.inl rfl | refine Or.inr ⟨_,_,rfl,Nat.zero_le _,rfl,?_⟩ | refine ⟨_,_,rfl,?_,?_⟩ | refine ⟨_,rfl,?_⟩ | exact ow _ _ _ _ _ | refine Or.inr (Or.inr (Or.inr ⟨_,_,rfl,?_⟩)) | exact Or.inl rfl | refine Or.inr ?_)),js,rfl,hj,?_,fun _=>HZ⟩;rw [cL hno];rfl
def MB (l:List Wd) (k:Nat):Int:=((l[k]?).getD (⟨aJ,0⟩:Wd)).a
def latF (l:List Wd) (o:List (Wd × Wd)):Ft:=
 if (eo l o).1≠0 then eo l o
 else if (enumL l 0 l).1≠0 then enumL l 0 l
 else if (numF (ap l) o).1≠0 then numF (ap l) o
 else match bE (iE l.length (dt l.length (cr (ap l) o))) l.length with
  | some a=>(11,MB l a)
  | none=>
   match bE (kA (dt l.length (cr (ap l) o)) l.length) l.length with
   | some b=>(12,MB l b)
   | none=>(0,0)
def MC (l:List Wd) (o:List (Wd × Wd)) (d:DV):Prop:=
 ∃ aA js,fl (ap l) aA/\aA.length<=l.length/\js.length=2048/\(∀ x y,x < l.length->y < l.length->JM (dt l.length (cr (ap l) o)) l.length js x y) /\
  d = .pt (fJ (ap l) (cd (ap l) aA) (closeR (dM l.length (cr (ap l) o)) l.length) js) 0
def Ag (l:List Wd) (o:List (Wd × Wd)) (r:DV) (_:List (List DV)) (_:List TkE):Prop:=
 if (latF l o).1≠0 then r = .bW [.v (.pointer none),(latF l o).d] else ∃ d,MC l o d/\r = .bW [d,(latF l o).d]
theorem lf {L:List ByteArray}:∀ {o:List (Wd × Wd)},(numF L o).1=0->om L.length (cr L o)
 | [],_=>by intro p hp;simp [cr] at hp
 | q :: r,h=>by
  rw [numF] at h;split at h
  ·cases h
  ·rename_i h1;split at h
   ·cases h
   ·rename_i h2;have ih:=lf (o:=r) h;intro p hp;simp only [cr,List.map_cons,List.mem_cons] at hp;rcases hp with rfl | hp
    ·obtain ⟨a,ha⟩:=Option.ne_none_iff_exists'.1 h1;obtain ⟨b,hb⟩:=Option.ne_none_iff_exists'.1 h2;simp only [Mv,ha,hb,Option.getD_some];exact ⟨(cx ha).1,(cx hb).1⟩
    ·exact ih p hp
theorem cz (l:List Wd):(ap l).length=l.length:=by simp [ap]
theorem rO {all:List Wd}:∀ {l:List Wd} {i:Nat},(enumL all i l).1=0->enumL all i l=(0,0)
 | [],_,_=>rfl
 | x :: r,i,h=>by
  rw [enumL] at h ⊢;split at h
  ·rename_i h1;exact (h1 h).elim
  ·rename_i h1;rw [ah h1];exact rO h
theorem ug {L:List ByteArray}:∀ {o:List (Wd × Wd)},(numF L o).1=0->numF L o=(0,0)
 | [],_=>rfl
 | q :: r,h=>by
  rw [numF] at h ⊢;split at h
  ·cases h
  ·rename_i h1;split at h
   ·cases h
   ·rename_i h2;rw [ah h1,ah h2];exact ug h
theorem iF {l:List Wd} {k:Nat} {w:Wd} (h:l[k]? = some w):MB l k=w.a:=by simp [MB,h]
theorem MD (n:Nat):vL (List.replicate n (.int .i64 0))=cZ (List.replicate n 0):=by
 induction n with
 | zero=>rfl
 | succ n ih=>simp only [List.replicate_succ,vL,cZ,List.map_cons] at ih ⊢;rw [ih]
theorem kB {l:List Wd} {o:List (Wd × Wd)} {f:Ft} {os:List (List DV)} {tk:List TkE} (h:latF l o=f) (hf:f.1≠0):Ag l o (.bW [.v (.pointer none),f.d]) os tk:=by
 unfold Ag;rw [h,zIfP hf]
theorem Ji {l:List Wd} {o:List (Wd × Wd)} {d:DV} {os:List (List DV)} {tk:List TkE} (h:latF l o=(0,0)) (hd:MC l o d):Ag l o (.bW [d,Ft.d (0,0)]) os tk:=by grind [Ag]
theorem Jj (n m:Nat) (af:List ByteArray) (tc:List DV) (rows:List Nat) (js:List Int):clB.clL n m (fJ af tc rows js)=true:=by
 have h:∀ l:List Int,clB.clL n m (cZ l)=true:=by
  intro l
  induction l with
  | nil=>rfl
  | cons z r ih=>simp only [cZ,List.map_cons,clB.clL,clB,Bool.true_and] at ih ⊢;exact ih
 simp only [Ae,clB.clL,clB,h,j5,Bool.and_self]
theorem x9 (l:List Wd) (o:List (Wd × Wd)) (hs:wdsWt l<=1099511627776) (zf:prsWt o<=1099511627776) :
  Ev prog 61 [.sl 2 (bm l) none,.sl 4 (j3 o) none] [] [] (Ag l o):=by
 have nT:=bf l;have LM:=fD o;have fh:=cz l;have hF:=latF.eq_1 l o;refine eG 86 [.tmp 4,.cell 5 26] func61 rfl ntmps61 rfl fun _ _ _ _=>?_;refine cP O2 (Ds l o) ?_;by_cases hm:(eo l o).1≠0
 ·rw [zIfP hm] at hF;refine br ?_ ?_<;>intro h
  ·refine dS ?_;exact ⟨_,ax,kB (os:=[]) (tk:=[]) hF hm⟩
  ·exfalso;simp at h;exact hm h
 rw [ah hm] at hF;refine br (fun h=>?_) (fun _=>?_)
 ·exfalso;simp at h;exact hm h
 have HW:l ≠ []:=by
  rintro rfl;simp [eo] at hm
 have hl32:l.length<=32:=by grind [eo]
 have pF:=x6 l hs;unfold Qo at pF;by_cases hE:(enumL l 0 l).1≠0
 ·rw [ah hE] at pF;rw [zIfP hE] at hF;refine cP J8 pF ?_;refine br ?_ ?_<;>intro h
  ·refine dS ?_;exact ⟨_,ax,kB (os:=[]) (tk:=[]) hF hE⟩
  ·exfalso;simp at h;exact hE h
 rw [ah hE] at hF;have hE:(enumL l 0 l).1=0:=sU hE;rw [zIfP hE] at pF;rw [rO hE] at pF;refine cP J8 pF ?_;refine gp Fq rfl (q8 (ap l) (by omega)) ax (fun r hr=>?_);obtain ⟨aA,hT,jr,rfl⟩:=hr;have Ah:=sO (ap l) aA hT (by omega) o zf;unfold Qp at Ah;by_cases hN:(numF (ap l) o).1≠0
 ·rw [ah hN] at Ah;rw [zIfP hN] at hF;refine cP J9 Ah ?_;refine br ?_ ?_<;>intro h
  ·refine dS ?_;exact ⟨_,ax,kB (os:=[]) (tk:=[]) hF hN⟩
  ·exfalso;simp at h;exact hN h
 rw [ah hN] at hF;have hN:(numF (ap l) o).1=0:=sU hN;rw [zIfP hN] at Ah;rw [ug hN] at Ah;have hP:=lf hN;rw [fh] at hP;have hPl:(cr (ap l) o).length=o.length:=by simp [cr]
 generalize WA:cr (ap l) o=P at Ah hF hP hPl;refine cP J9 Ah ?_;have hLn:(dB (ap l)).length=l.length:=by rw [bP,fh]
 have hPb:P.length<=1099511627776:=by omega
 have Ut:=vA (n:=l.length) (by omega) P hP;have ir:=ig l.length P;have hr0:dM l.length P ≠ []:=fun h=>HW (List.eq_nil_of_length_eq_zero (by rw [<- ir,h];rfl));refine cP O3 (Dg l.length (by omega) P hP hPb) ?_ (pV hLn);have hlo:=Aa _ Ut hr0;rw [ir,Jb (by omega) hP] at hlo
 cases hA:bE (iE l.length (dt l.length P)) l.length with
 | some a=>
  rw [hA] at hlo hF;simp only at hF;have Lv:=(dO hA).1;obtain ⟨w,hw⟩:∃ w,l[a]? = some w:=⟨_,gE Lv⟩;rw [iF hw] at hF;refine cP Ka hlo ?_;refine dS ?_;refine ⟨gl w,⟨by omega,aH hw⟩,?_⟩;exact ⟨_,ax,kB (os:=[]) (tk:=[]) hF (by simp)⟩
 | none=>
 rw [hA] at hlo hF;simp only at hF;refine cP Ka hlo ?_;have gL:=pa _ Ut hr0;rw [ir] at gL;have Uu:=iZ Ut l.length (by omega);have Qs:=dN (dM l.length P) l.length;rw [ir] at Qs;refine cP Kb gL ?_;have Uv:(List.replicate 2048 (0:Int)).length=2048:=List.length_replicate
 have ch:CcL [] 0 0 0 (fJ (ap l) (cd (ap l) aA) (closeR (dM l.length P) l.length) (List.replicate 2048 0)) (.sl 1 (dB (ap l)) none :: .pt (cd (ap l) aA) 0 :: j5 (closeR (dM l.length P) l.length) :: vL (List.replicate 2048 (.int .i64 0))):=by
  refine ⟨_,_,rfl,Or.inr (Or.inl ⟨_,rfl⟩),_,_,rfl,Or.inl rfl,_,_,rfl,Or.inl rfl,?_⟩;rw [MD];exact ow _ _ _ _ _
 have hbn:=x8 (ap l) (cd (ap l) aA) _ (List.replicate 2048 0) Uu (by omega) (by omega) Uv;refine jG O4 rfl rfl ch ax hbn (fun r os tk h=>?_) (fun r n9 h=>?_)
 ·obtain ⟨Mz,rfl,_,rfl,_⟩:=h;refine ⟨rfl,fun n9 h=>?_⟩;rw [List.mem_singleton.1 h];exact Jj _ _ _ _ _ _
 obtain ⟨Mz,h1,hj2,hr,HZ⟩:=h;simp only [List.cons.injEq,and_true] at h1;subst h1
 have hB:bE (kA (aK (closeR (dM l.length P) l.length)) (ap l).length) (ap l).length=bE (kA (dt l.length P) l.length) l.length:=by
  rw [fh];rfl
 rw [hB] at hr HZ
 cases hb:bE (kA (dt l.length P) l.length) l.length with
 | some b=>
  rw [hb] at hr hF;subst hr;simp only at hF;have hbl:=(dO hb).1;obtain ⟨w,hw⟩:∃ w,l[b]? = some w:=⟨_,gE hbl⟩;rw [iF hw] at hF;refine dS ?_;refine ⟨gl w,⟨by simp only [oz];omega,aH hw⟩,?_⟩;exact ⟨_,ax,kB (os:=[]) (tk:=[]) hF (by simp)⟩
 | none=>
  rw [hb] at hr hF;subst hr;simp only at hF;refine ⟨.bW [.pt (fJ (ap l) (cd (ap l) aA) (closeR (dM l.length P) l.length) Mz) 0,Ft.d (0,0)],(by repeat' (first | exact rfl | exact trivial | exact Or.inr (Or.inl ⟨_,rfl⟩) | exact Or.inr ⟨_,rfl⟩ | exact Or.inl ⟨rfl,rfl⟩ | exact Or.inl rfl | refine Or.inr ⟨_,_,rfl,Nat.zero_le _,rfl,?_⟩ | refine ⟨_,_,rfl,?_,?_⟩ | refine ⟨_,rfl,?_⟩ | exact ow _ _ _ _ _ | refine Or.inr (Or.inr (Or.inr ⟨_,_,rfl,?_⟩)) | exact Or.inl rfl | refine Or.inr ?_)),Ji (os:=[]) (tk:=[]) hF ⟨aA,Mz,hT,by omega,hj2,?_,by rw [WA]⟩⟩;rw [WA];rw [fh] at HZ;exact HZ hb
section
variable (af:List ByteArray) (tc:List DV) (rows:List Nat) (js:List Int)
theorem ox:aV prog 110 [.pt (fJ af tc rows js) 0] (.v (.int .i64 af.length)):=by
 refine eG 10 [.tmp 2] func110 rfl ntmps110 rfl fun _ _ _ _=>?_;refine (qM ?_:);rw [bP]
theorem ui (i:Int):aV prog 199 [.pt (fJ af tc rows js) 0,.v (.int .i64 i)] (.v (.bool (decide (0<=i) && decide (i < af.length)))):=by
 refine eG 13 [.tmp 4] func199 rfl ntmps199 rfl fun _ _ _ _=>?_;refine br ?_ ?_<;>intro g
 ·have g:decide (0<=i)=true:=sU g;refine cP Fp (ox af tc rows js) ?_;refine (cg ?_:);simp [g,pickB]
 ·have g:decide (0<=i)=false:=sU g;refine (cg ?_:);simp [g,pickB]
theorem nd {a:Nat} (h:a < af.length):aV prog 199 [.pt (fJ af tc rows js) 0,.v (.int .i64 a)] (.v (.bool true)):=by
 have:=ui af tc rows js a;have e:(decide (0<=(a:Int)) && decide ((a:Int) < af.length))=true:=by simp [h]
 rw [e] at this;exact this
end
theorem Ai (af:List ByteArray) (aA rows:List Nat) (js:List Int) (s:ByteArray) (hT:fl af aA) (hl:aA.length<=1099511627776) :
  aV prog 47 [.pt (fJ af (cd af aA) rows js) 0,.v (.string s)] (Gx (cf af s)):=by
 have h:=fI af aA s hT hl;refine eG 16 [.tmp 4,.tmp 5] func47 rfl ntmps47 rfl fun _ _ _ _=>?_
 cases hx:cf af s with
 | none=>
  rw [hx] at h;refine cP kk h ?_;exact ⟨_,ax,rfl⟩
 | some k=>
  rw [hx] at h;refine cP kk h ?_;exact ⟨_,ax,rfl⟩
theorem ya {l:List DV} {k b:Nat} {x:DV} (hb:b < 32) (h:l[k + b]? = some x):(((l.drop k).take 32).drop b).take 1=[x]:=by
 have h1:((l.drop k).take 32)[b]? = some x:=by grind
 rw [List.drop_eq_getElem_cons (gS h1).1]
 grind
section
variable (af:List ByteArray) (tc:List DV) (rows:List Nat) (js:List Int)
theorem rP (a b:Nat) (z:Int) (ha:a < af.length) (hb:b < af.length) (hn:af.length<=32) (hz:js[a * 32 + b]? = some z) :
  aV prog 217 [.pt (fJ af tc rows js) 0,.v (.int .i64 a),.v (.int .i64 b)] (.v (.int .i64 z)):=by
 refine eG 25 [.tmp 6] func217 rfl ntmps217 rfl fun _ _ _ _=>?_;refine cP tH (nd af tc rows js ha) ?_;refine cP tH (nd af tc rows js hb) ?_;refine ⟨_,⟨⟨by omega,by omega⟩,rfl⟩,?_⟩;refine ⟨_,⟨⟨by omega,by omega⟩,ya (x:=.v (.int .i64 z)) (by omega) ?_⟩,?_⟩
 ·grind [Ae,cZ]
 exact (rfl:_=_)
theorem Aj (a b:Nat) (z:Int) (ha:a < af.length) (hb:b < af.length) (hn:af.length<=32) (hz:js[1024 + (a * 32 + b)]? = some z) :
  aV prog 111 [.pt (fJ af tc rows js) 0,.v (.int .i64 a),.v (.int .i64 b)] (.v (.int .i64 z)):=by
 refine eG 25 [.tmp 6] func111 rfl ntmps111 rfl fun _ _ _ _=>?_;refine cP tH (nd af tc rows js ha) ?_;refine cP tH (nd af tc rows js hb) ?_;refine ⟨_,⟨⟨by omega,by omega⟩,rfl⟩,?_⟩;refine ⟨_,⟨⟨by omega,by omega⟩,ya (x:=.v (.int .i64 z)) (by omega) ?_⟩,?_⟩
 ·grind [Ae,cZ]
 exact (rfl:_=_)
end
theorem oy {iM:Nat->Bool} {pb:Nat->Nat->Bool}:∀ {e k:Nat},bestA iM pb e=some k->iM k=true
 | 0,k,h=>by cases h
 | e + 1,k,h=>by
  rw [bestA] at h;split at h
  ·grind
  ·exact oy h
theorem rQ {iM:Nat->Bool} {pb:Nat->Nat->Bool} {n k:Nat} (h:ky iM pb n=some k):k < n/\iM k=true/\∀ c,c < n->iM c=true->pb k c=true:=by grind [ky,kz,oy]
structure il (f:Nat->Nat->Bool) (n:Nat):Prop where
 pos:0 < n
 rfl':∀ a,a < n->f a a=true
 tr:∀ a b c,a < n->b < n->c < n->f a b=true->f b c=true->f a c=true
 Ak:∀ a b,a < n->b < n->f a b=true->f b a=true->a=b
 jn:∀ a b,a < n->b < n->∃ k,dF f n a b=some k
 mt:∀ a b,a < n->b < n->∃ k,gd f n a b=some k
theorem rR {f:Nat->Nat->Bool} {n a b k:Nat} (h:dF f n a b=some k):k < n/\f a k=true/\f b k=true/\∀ c,c < n->f a c=true->f b c=true->f k c=true:=by
 obtain ⟨h1,h2,h3⟩:=rQ h
 grind
theorem l6 {f:Nat->Nat->Bool} {n a b k:Nat} (h:gd f n a b=some k):k < n/\f k a=true/\f k b=true/\∀ c,c < n->f c a=true->f c b=true->f c k=true:=by
 obtain ⟨h1,h2,h3⟩:=rQ h
 grind
def fo (f:Nat->Nat->Bool) (l:List Nat) (c:Nat):Bool:=l.all fun i=>f i c
def yb (f:Nat->Nat->Bool) (n:Nat) (l:List Nat) (c:Nat):Bool:=fo f l c && (List.range n).all fun d=>!fo f l d || f c d
def dZ (f:Nat->Nat->Bool) (n:Nat) (l:List Nat):Option Nat:=bE (yb f n l) n
theorem kC {f:Nat->Nat->Bool} {n:Nat} {l:List Nat} {c:Nat}:yb f n l c=true↔fo f l c=true/\∀ d,d < n->fo f l d=true->f c d=true:=by grind [yb,fo]
theorem uj {f:Nat->Nat->Bool} {n:Nat} (hL:il f n) {l:List Nat} {c:Nat} (hc:c < n) (h:yb f n l c=true):dZ f n l=some c:=by
 refine cw hc h fun a ha=>?_;cases h2:yb f n l a
 ·rfl
 ·obtain ⟨h3,h4⟩:=kC.1 h;obtain ⟨h5,h6⟩:=kC.1 h2;have:=hL.Ak a c (by omega) hc (h6 c hc h3) (h4 a (by omega) h5);omega
theorem l7 {f:Nat->Nat->Bool} {n c:Nat} (hL:il f n) (hc:c < n) (h:∀ d,d < n->f c d=true):dZ f n []=some c:=
 uj hL hc (kC.2 ⟨rfl,fun d hd _=>h d hd⟩)
theorem pg {f:Nat->Nat->Bool} {n c k i:Nat} {l:List Nat} (hL:il f n) (hl:∀ x∈l,x < n) (hi:i < n) (h:dZ f n l=some c) (hk:dF f n c i=some k):dZ f n (l ++ [i])=some k:=by
 obtain ⟨h1,h2,_⟩:=dO h;obtain ⟨h3,h4⟩:=kC.1 h2;obtain ⟨g1,g2,g3,g4⟩:=rR hk;simp only [fo,List.all_eq_true] at h3;refine uj hL g1 (kC.2 ⟨?_,fun d hd ho=>?_⟩)
 ·simp only [fo,List.all_eq_true,List.mem_append,List.mem_singleton];rintro x (hx | rfl)
  ·exact hL.tr x c k (hl x hx) h1 g1 (h3 x hx) g2
  ·exact g3
 ·grind [fo]
theorem oA {f:Nat->Nat->Bool} {n c:Nat} {l:List Nat} (h:dZ f n l=some c):c < n:=(dO h).1
abbrev KO (L:List DV) (n b e:Nat):St:=
 ⟨[nZ 0 L,al 3 b,al 9 n,al 10 e],[],[]⟩
theorem nf (af:List ByteArray) (tc:List DV) (rows:List Nat) (js:List Int) {f:Nat->Nat->Bool} (hL:il f af.length) (hn:af.length<=32) (hj:∀ x y,x < af.length->y < af.length->JM f af.length js x y) :
  aV prog 46 [.pt (fJ af tc rows js) 0] (.v (.int .i64 (oz (dZ f af.length [])))):=by
 have hlen:=ox af tc rows js;have mF:=hL.pos;refine eG 19 [.tmp 2] func46 rfl ntmps46 rfl fun _ _ _ _=>?_;refine cP Fp hlen ?_;refine br ?_ ?_<;>intro g
 ·exfalso;simp at g;simp [g] at mF
 refine cP Fp hlen ?_;refine lI (fun j st=>∃ e b:Nat,st=KO (fJ af tc rows js) af.length b e/\e<=af.length/\b < af.length/\(∀ x,x < e->f b x=true)/\j=af.length - e) ⟨0,0,rfl,by omega,by omega,fun _ h=>by omega,rfl⟩ (bl wB) ?_;rintro j st ⟨e,b,rfl,he,hb,fL,rfl⟩;refine br ?_ ?_<;>intro Uw
 ·have aq:e < af.length:=by have:=Uw;simp at this;exact this
  obtain ⟨k,hk⟩:=hL.mt b e hb aq;obtain ⟨g1,g2,g3,g4⟩:=l6 hk;have hz:=(hj b e hb aq).2;rw [hk] at hz;refine cP OZ (Aj af tc rows js b e k hb aq hn hz) ?_;refine ⟨KO (fJ af tc rows js) af.length k (e + 1),(bl (c8 (aS aq (by omega)))),af.length - (e + 1),by omega,e + 1,k,rfl,by omega,g1,fun x hx=>?_,rfl⟩;rcases lE hx with hx | rfl
  ·exact hL.tr k b x g1 hb (by omega) g2 (fL x hx)
  ·exact g3
 ·have hge:e=af.length:=by have:=Uw;simp at this;omega
  subst hge;rw [l7 hL hb fL];exact (rfl:_=_)
def labW (L:List ByteArray):List Wd->Ft
 | []=>(0,0)
 | w :: r=>if cf L w.s=none then (17,w.a) else labW L r
def jS (L:List ByteArray) (l:List Wd):List Nat:=l.map fun w=>(cf L w.s).getD 0
def vH (f:Nat->Nat->Bool) (L:List ByteArray) (l:List Wd):Int:=if (labW L l).1=0 then oz (dZ f L.length (jS L l)) else 0
def Dx (f:Nat->Nat->Bool) (L:List ByteArray) (l:List Wd):DV:=.bW [.v (.int .i64 (vH f L l)),(labW L l).d]
theorem oB {L:List ByteArray} {l:List Wd} {e:Nat} {w:Wd} (h:l[e]? = some w):labW L (l.drop e)=if cf L w.s=none then (17,w.a) else labW L (l.drop (e + 1)):=by
 rw [drop_cons h,labW]
theorem oC {L:List ByteArray} {l:List Wd} {e i:Nat} {w:Wd} (h:l[e]? = some w) (hi:cf L w.s=some i):jS L (l.take (e + 1))=jS L (l.take e) ++ [i]:=by
 rw [List.take_add_one,h];simp [jS,hi]
abbrev KQ (L:List DV) (l:List Wd) (b e:Nat):St:=
 ⟨[nZ 0 L,aE 5 0,al 6 b,aT 16 2 (bm l),al 17 ((bm l).length),al 18 e],[[.v (.int .i64 0),.v (.int .i64 0)]],[]⟩
theorem GJ (af:List ByteArray) (aA rows:List Nat) (js:List Int) (hT:fl af aA) (jr:aA.length<=1099511627776) {f:Nat->Nat->Bool} (hL:il f af.length) (hn:af.length<=32) (hj:∀ x y,x < af.length->y < af.length->JM f af.length js x y)
  (l:List Wd) (hs:wdsWt l<=1099511627776) :
  aV prog 133 [.pt (fJ af (cd af aA) rows js) 0,.sl 2 (bm l) none] (Dx f af l):=by
 have nT:=bf l;have Qt:=nf af (cd af aA) rows js hL hn hj
 have kS:∃ b,dZ f af.length []=some b:=by
  have:∀ e,e<=af.length->∃ b,b < af.length/\∀ x,x < e->f b x=true:=by
   intro e
   induction e with
   | zero=>intro _;exact ⟨0,hL.pos,fun _ h=>by omega⟩
   | succ e ih=>
    intro he;obtain ⟨b,hb,fL⟩:=ih (by omega);obtain ⟨k,hk⟩:=hL.mt b e hb (by omega);obtain ⟨g1,g2,g3,_⟩:=l6 hk;refine ⟨k,g1,fun x hx=>?_⟩;rcases lE hx with hx | rfl
    ·exact hL.tr k b x g1 hb (by omega) g2 (fL x hx)
    ·exact g3
  obtain ⟨b,hb,fL⟩:=this af.length (zLeR _);exact ⟨b,l7 hL hb fL⟩
 obtain ⟨b0,gj⟩:=kS;rw [gj] at Qt;refine eG 41 [.tmp 4,.cell 5 26] func133 rfl ntmps133 rfl fun _ _ _ _=>?_;refine cP TA Qt ?_;refine lI (fun j st=>∃ e b:Nat,st=KQ (fJ af (cd af aA) rows js) l b e/\e<=l.length/\labW af l=labW af (l.drop e)/\dZ f af.length (jS af (l.take e))=some b/\(∀ x∈jS af (l.take e),x < af.length)/\j=l.length - e) ⟨0,b0,rfl,by omega,rfl,gj,by simp [jS],rfl⟩ (bl wB) ?_;rintro j st ⟨e,b,rfl,he,aD,II,HV,rfl⟩;have hb:=oA II;refine br ?_ ?_<;>intro WB
 ·have aq:e < l.length:=by simpa [ak] using WB
  obtain ⟨w,hw⟩:=gX aq;have hst:=oB (L:=af) hw;have vG:=Ai af aA rows js w.s hT jr;refine ⟨gl w,⟨by omega,aH hw⟩,?_⟩
  cases hx:cf af w.s with
  | none=>
   rw [hx] at vG;refine cP ON vG ?_;rw [zIfP hx] at hst;have h1:labW af l=(17,w.a):=aD.trans hst;refine dS ?_;refine ⟨_,?_,rfl⟩;rw [Dx,vH,h1,ah (by simp)];exact ax
  | some i=>
   rw [hx] at vG;refine cP ON vG ?_;rw [ah (by rw [hx];simp)] at hst;have hi:=(cx hx).1;obtain ⟨k,hk⟩:=hL.jn b i hb hi;have hz:=(hj b i hb hi).1;rw [hk] at hz;refine cP Pp (rP af (cd af aA) rows js b i k hb hi hn hz) ?_;refine ⟨KQ (fJ af (cd af aA) rows js) l k (e + 1),(bl (c8 (aS aq (by omega)))),l.length - (e + 1),by omega,e + 1,k,rfl,by omega,aD.trans hst,?_,?_,rfl⟩
   ·rw [oC hw hx];exact pg hL HV hi II hk
   ·rw [oC hw hx];intro x hm;rcases List.mem_append.1 hm with hm | hm
    ·exact HV x hm
    ·rw [List.mem_singleton.1 hm];exact hi
 ·have hge:e=l.length:=by
   have:=WB;simp [ak] at this;omega
  subst hge;rw [List.drop_length] at aD;rw [List.take_length] at II;have h1:labW af l=(0,0):=aD;refine ⟨_,?_,rfl⟩;rw [Dx,vH,h1,zIfP rfl,II];exact ax
def Al (x:Ft × Int) (r:DV) (os:List (List DV)) (_:List TkE):Prop:=
 r=x.1.d/\∃ z:Int,os=[[.v (.int .i64 z)]]/\(x.1.1=0->z=x.2)
theorem jT {x:Ft × Int}:∀ r os tk,Al x r os tk->clB 0 0 r=true/\∀ n9∈os,clB.clL 0 0 n9=true:=by
 rintro r os tk ⟨rfl,z,rfl,_⟩;refine ⟨rfl,fun n9 h=>?_⟩;simp only [List.mem_singleton] at h;subst h;rfl
def GK (k:Nat):Prop:=∀ (t:Ty) (depth m:Int),t.wt<=k->t.wt<=1099511627776->0<=depth->depth<=25->0<=m->m<=512 ->
 Ev prog 156 [.loc 0 0,.agg (cX t),.v (.int .i64 depth)] [[.v (.int .i64 m)]] [] (Al (wrong t depth m))
def jd (p:Ph) (t:Ty) (un:Bool) (depth m:Int):Ft × Int:=
 if p.bare=true then (if un=false∨cm p t (lX p) bT=false then ((19,p.name.a),m) else ((0,0),m))
 else if (cT p).1≠0 then (cT p,m)
 else wrong t (depth + 1) m
theorem bc {x:Ft × Int} {f:Ft} {m z:Int} (h:x=(f,m)) (hz:f.1=0->z=m) {tk:List TkE}:Al x f.d [[.v (.int .i64 z)]] tk:=by
 subst h;exact ⟨rfl,z,rfl,hz⟩
theorem Am (k:Nat) (ih:GK k) (p:Ph) (t:Ty) (un:Bool) (depth m:Int) (hk:t.wt<=k) (hp:p.wt<=1099511627776) (bI:t.wt<=1099511627776) (tJ:0<=depth) (y6:depth<=24) (mv:0<=m) (iu:m<=512) :
  Ev prog 287 [.loc 0 0,.agg (zB p (cX t)),.v (.bool un),.v (.int .i64 depth)] [[.v (.int .i64 m)]] [] (Al (jd p t un depth m)):=by
 have sK:=hp;simp only [Ph.wt] at sK;have wS:=kr p (lX p) t bT hp (by simp only [Ph.wt,lX,wdsWt];omega) (ri t bT bI (by decide));have yZ:=ih t (depth + 1) m hk bI (by omega) (by omega) mv iu;obtain ⟨u,us⟩:=t;have Ux:=vt p (cX (.mk u us)) (.mk u us) rfl hp;have hS:=jd.eq_def p (.mk u us) un depth m;generalize jd p (.mk u us) un depth m=F at hS ⊢;obtain ⟨nm,bare,lab,wide,ck,cn,ca,cl⟩:=p;simp only at hS sK wS
 cases bare with
 | true=>
  rw [zIfP rfl] at hS
  cases un with
  | true=>
   refine eG 68 [.cell 8 26] func287 rfl ntmps287 rfl fun _ _ _ _=>?_;refine cP Fx wS ?_;refine br ?_ ?_<;>intro q
   ·have q:cm ⟨nm,true,lab,wide,ck,cn,ca,cl⟩ (.mk u us) (lX ⟨nm,true,lab,wide,ck,cn,ca,cl⟩) bT=false:=by simpa [show (lastG (21,false) [(18,true)]).snd=true from rfl,pickB] using q
    rw [zIfP (.inr q)] at hS;refine cP c9 (bg 19 nm.a) ?_;exact ⟨_,_,ax,ax,bc (tk:=[]) (f:=(19,nm.a)) hS (fun _=>rfl)⟩
   ·have q:cm ⟨nm,true,lab,wide,ck,cn,ca,cl⟩ (.mk u us) (lX ⟨nm,true,lab,wide,ck,cn,ca,cl⟩) bT=true:=by simpa [show (lastG (21,false) [(18,true)]).snd=true from rfl,pickB] using q
    rw [ah (by simp [q])] at hS;exact ⟨_,_,ax,ax,bc (tk:=[]) (f:=(0,0)) hS (fun _=>rfl)⟩
  | false=>
   refine eG 68 [.cell 8 26] func287 rfl ntmps287 rfl fun _ _ _ _=>?_;rw [zIfP (.inl rfl)] at hS;refine cP c9 (bg 19 nm.a) ?_;exact ⟨_,_,ax,ax,bc (tk:=[]) (f:=(19,nm.a)) hS (fun _=>rfl)⟩
 | false=>
  rw [ah (by simp)] at hS;refine eG 68 [.cell 8 26] func287 rfl ntmps287 rfl fun _ _ _ _=>?_;refine br ?_ ?_<;>intro hw
  ·have hw:wide < 0∨64 < wide:=by simpa [aj] using hw
   have hP:cT ⟨nm,false,lab,wide,ck,cn,ca,cl⟩=(20,nm.a):=by simp only [cT,zIfP hw]
   rw [hP,zIfP (by simp)] at hS;refine cP c9 (bg 20 nm.a) ?_;exact ⟨_,_,ax,ax,bc (tk:=[]) (f:=(20,nm.a)) hS (fun _=>rfl)⟩
  have hw:¬ (wide < 0∨64 < wide):=by simp [aj] at hw;omega
  refine cP xy (fV lab (by omega)) ?_;refine br ?_ ?_<;>intro hb
  ·have hb:(bp lab).1≠0:=sU hb;have hP:cT ⟨nm,false,lab,wide,ck,cn,ca,cl⟩=bp lab:=by simp only [cT,ah hw,zIfP hb]
   rw [hP,zIfP hb] at hS;exact ⟨_,_,ax,ax,bc (tk:=[]) (f:=bp lab) hS (fun _=>rfl)⟩
  have hb:(bp lab).1=0:=sU hb;have hP:cT ⟨nm,false,lab,wide,ck,cn,ca,cl⟩=aN ⟨nm,false,lab,wide,ck,cn,ca,cl⟩:=by simp only [cT,ah hw];rw [ah (by simp [hb])]
  rw [hP] at hS;refine cP PE Ux ?_;refine br ?_ ?_<;>intro hc
  ·have hc:(aN ⟨nm,false,lab,wide,ck,cn,ca,cl⟩).1≠0:=sU hc;rw [zIfP hc] at hS;exact ⟨_,_,ax,ax,bc (tk:=[]) (f:=aN ⟨nm,false,lab,wide,ck,cn,ca,cl⟩) hS (fun _=>rfl)⟩
  have hc:(aN ⟨nm,false,lab,wide,ck,cn,ca,cl⟩).1=0:=sU hc;rw [ah (by simp [hc])] at hS;refine jG Fv rfl rfl ax (by repeat' (first | exact rfl | exact trivial | exact Or.inr (Or.inl ⟨_,rfl⟩) | exact Or.inr ⟨_,rfl⟩ | exact Or.inl ⟨rfl,rfl⟩ | exact Or.inl rfl | refine Or.inr ⟨_,_,rfl,Nat.zero_le _,rfl,?_⟩ | refine ⟨_,_,rfl,?_,?_⟩ | refine ⟨_,rfl,?_⟩ | exact congrArg (fun z=>DV.v (.int .i64 z)) (wrap64 (by omega) (by omega)) | refine Or.inr (Or.inr (Or.inr ⟨_,_,rfl,?_⟩)) | exact Or.inl rfl | refine Or.inr ?_)) yZ jT (fun r n9 hr=>?_);obtain ⟨rfl,z,hz,wX⟩:=hr;simp only [List.cons.injEq,and_true] at hz;subst hz;exact ⟨_,_,ax,ax,bc (tk:=[]) (f:=(wrong (.mk u us) (depth + 1) m).1) hS wX⟩
theorem sQ {ai:Int} {all:List Wd} {i:Nat} {p:Ph} {t:Ty} {r:Pts} {depth m:Int} (hk:ai=7∨ai=8) (hl:az all i p.name=0) :
  wrongPts ai all i (.cons p t r) depth m=if (jd p t (decide (ai=8)) depth m).1.1≠0 then jd p t (decide (ai=8)) depth m else wrongPts ai all (i + 1) r depth (jd p t (decide (ai=8)) depth m).2:=by
 simp only [wrongPts];rw [ah (by simp [hl])];unfold jd;by_cases hb:p.bare=true
 ·grind [Je,sameTy,bT,bQ,gv]
 ·grind
theorem GL {p:Ph} {t:Ty} {un:Bool} {depth m:Int} (mv:0<=m) (iu:m<=512) (h:(jd p t un depth m).1.1=0):(jd p t un depth m).1=(0,0)/\0<=(jd p t un depth m).2/\(jd p t un depth m).2<=512:=by grind [mT,jd,cT]
abbrev yc (h:Hd) (ps:Pts) (n e:Nat) (depth m:Int):St:=
 ⟨[aE 0 0,al 2 depth,aE 4 1,aE 6 2,aT 38 18 (dY ps),al 39 ((dY ps).length),al 40 e,(7,⟨[],.sl 1 (dB (ap ((pNames ps).take e))) (some 0)⟩)],
  [[.v (.int .i64 m)],cX (.mk h ps),[.v (.int .i64 0),.v (.int .i64 0)]],[⟨n,9,1,none⟩]⟩
theorem ph (k:Nat) (ih:GK k) (h:Hd) (ps:Pts) (depth m:Int) (Sr:h.ai=7∨h.ai=8) (hk:ps.wt<=k) (bI:(Ty.mk h ps).wt<=1099511627776) (tJ:0<=depth) (y6:depth<=24) (mv:0<=m) (iu:m<=512) :
  Ev prog 241 [.loc 0 0,.agg (cX (.mk h ps)),.v (.int .i64 depth)] [[.v (.int .i64 m)]] [] (Al (dC h ps depth m)):=by
 simp only [Ty.wt,Hd.wt] at bI;have mj:=ps.dX;have fh:=eE ps;have Mc:=ob ps;have hS:=dC.eq_def h ps depth m;generalize dC h ps depth m=F at hS ⊢;refine eG 72 [.cell 6 26] func241 rfl ntmps241 rfl fun _ _ _ _=>?_;refine br ?_ ?_<;>intro c1
 ·have c1:h.ai=8/\ps.len=0:=by grind [av,aC]
  rw [zIfP c1] at hS;refine cP c9 (bg 15 h.cV) ?_;exact ⟨_,_,ax,ax,bc (tk:=[]) (f:=(15,h.cV)) hS (fun _=>rfl)⟩
 have c1:¬ (h.ai=8/\ps.len=0):=by
  simp [av,aC] at c1;omega
 rw [ah c1] at hS;refine br ?_ ?_<;>intro c2
 ·have aq:64 < ps.len:=by simp [aC] at c2;omega
  obtain ⟨p,t,hx⟩:=Pts.dp aq;refine iX (bz hx) ?_;refine cP c9 (bg 8 p.name.a) ?_;rw [zIfP aq,eF hx] at hS;exact ⟨_,_,ax,ax,bc (tk:=[]) (f:=(8,p.name.a)) hS (fun _=>rfl)⟩
 have c2:¬ 64 < ps.len:=by simp [aC] at c2;omega
 rw [ah c2] at hS
 refine aX (fun j st=>∃ (e:Nat) (m':Int),st=yc h ps e e depth m' /\ e<=ps.len/\0<=m' /\ m' <= 512/\(ap ((pNames ps).take e)).Nodup /\
   F=wrongPts h.ai (pNames ps) e (ps.drop e) depth m' /\ j=ps.len - e) ps.len (yc h ps 0 0 depth m) (dH ⟨0,9,1,none⟩ rfl ⟨_,rfl⟩ rfl wA rfl rfl pD) ⟨0,m,rfl,by omega,mv,iu,by simp [ap],hS,by omega⟩ ?_
 rintro j st ⟨e,m',rfl,he,vq,xJ,hnd,aD,rfl⟩;refine br ?_ ?_<;>intro hL
 ·have aq:e < ps.len:=by simpa [aC] using hL
  obtain ⟨p,t,hx⟩:=Pts.dp aq;have CS:=Pts.eD (mG hx);have Eu:=eF hx;have Wl:p.name.s.size + 64<=p.wt:=by simp only [Ph.wt,Wd.wt];omega
  rw [Pts.drop_cons hx] at aD;have F4:(ap ((pNames ps).take (e + 1)))[(ap ((pNames ps).take (e + 1))).length - 1]? = some p.name.s:=by grind [ap,pNames]
  have Lr:=o8 (ap ((pNames ps).take (e + 1))) p.name.s p.name.a F4 (by simp [ap];omega) (by omega);have kZ:=gO Eu;rw [ub p.name.a Eu hnd,<- kZ] at Lr;have yd:=Am k ih p t (decide (h.ai=8)) depth m' (by omega) (by omega) (by omega) tJ y6 vq xJ;obtain ⟨u,us⟩:=t;refine iX (bz hx) ?_;refine ⟨by simp [bP,ap];omega,⟨by simp [bP,ap,maxLen];omega,by simp [bP,ap];omega⟩,?_⟩;refine cP Kw Lr ?_;by_cases hl:az (pNames ps) e p.name≠0
  ·rw [zIfP hl];refine br ?_ ?_<;>intro hf
   ·simp only [wrongPts] at aD;rw [zIfP hl] at aD;exact ⟨_,_,ax,ax,bc (tk:=[]) (f:=(az (pNames ps) e p.name,p.name.a)) aD (fun _=>rfl)⟩
   ·exact absurd (sU hf) hl
  have hl:az (pNames ps) e p.name=0:=sU hl;have Uy:=jR Eu hnd hl;rw [ah (by simp [hl])];rw [sQ Sr hl] at aD;have ei:=GL (p:=p) (t:=.mk u us) (un:=decide (h.ai=8)) (depth:=depth) vq xJ;generalize jd p (.mk u us) (decide (h.ai=8)) depth m'=r at yd aD ei;obtain ⟨⟨fe,fa⟩,many⟩:=r;simp only at aD ei;refine jG PB rfl rfl ax ax yd jT (fun r n9 hr=>?_);obtain ⟨rfl,z,hz,wX⟩:=hr;simp only [List.cons.injEq,and_true] at hz;subst hz;refine br ?_ ?_<;>intro hd
  ·have hd:fe≠0:=sU hd;rw [zIfP hd] at aD;exact ⟨_,_,ax,ax,bc (tk:=[]) (f:=(fe,fa)) aD (fun h0=>absurd h0 hd)⟩
  ·have hd:fe=0:=sU hd;subst hd;obtain ⟨_,h2,h3⟩:=ei rfl;rw [ah (by simp)] at aD;have Uz:z=many:=wX rfl;subst Uz;exact rE ⟨_,by omega,e + 1,z,rfl,by omega,h2,h3,Uy,aD,rfl⟩ (bl (iv (aS aq (by omega)) kZ))
 ·have hge:e=ps.len:=by simp [aC] at hL;omega
  rw [hge,Pts.cq] at aD;simp only [wrongPts] at aD;exact ⟨_,_,ax,ax,bc (tk:=[]) (f:=(0,0)) aD (fun _=>rfl)⟩
theorem uk (k:Nat) (ih:GK k) (h:Hd) (ps:Pts) (depth m:Int) (hk:ps.wt<=k) (bI:(Ty.mk h ps).wt<=1099511627776) (tJ:0<=depth) (y6:depth<=24) (mv:0<=m) (iu:m<=512) :
  Ev prog 240 [.loc 0 0,.agg (cX (.mk h ps)),.v (.int .i64 depth)] [[.v (.int .i64 m)]] [] (Al (wrongOne h ps depth m)):=by
 simp only [Ty.wt,Hd.wt] at bI
 cases ps with
 | nil=>
  have hS:wrongOne h .nil depth m=((19,h.cV),m):=by simp only [wrongOne]
  generalize wrongOne h .nil depth m=F at hS ⊢;refine eG 44 [.cell 6 26] func240 rfl ntmps240 rfl fun _ _ _ _=>?_;refine cP c9 (bg 19 h.cV) ?_;exact ⟨_,_,ax,ax,bc (tk:=[]) (f:=(19,h.cV)) hS (fun _=>rfl)⟩
 | cons p t r=>
  cases r with
  | cons p2 t2 r2=>
   have hS:wrongOne h (.cons p t (.cons p2 t2 r2)) depth m=((19,h.cV),m):=by simp only [wrongOne]
   generalize wrongOne h (.cons p t (.cons p2 t2 r2)) depth m=F at hS ⊢;refine eG 44 [.cell 6 26] func240 rfl ntmps240 rfl fun _ _ _ _=>?_;refine cP c9 (bg 19 h.cV) ?_;exact ⟨_,_,ax,ax,bc (tk:=[]) (f:=(19,h.cV)) hS (fun _=>rfl)⟩
  | nil=>
   simp only [Pts.wt] at bI hk;have hS:wrongOne h (.cons p t .nil) depth m=if p.name.s≠aJ∨bQ p dK=false then ((19,h.cV),m) else if h.most < 0∨1024 < h.most then ((20,h.cV),m) else wrong t (depth + 1) m:=by simp only [wrongOne]
   generalize wrongOne h (.cons p t .nil) depth m=F at hS ⊢;have LU:=xM p t (by omega);rw [empty_eq] at LU;have yZ:=ih t (depth + 1) m (by omega) (by omega) (by omega) (by omega) mv iu;obtain ⟨u,us⟩:=t;refine eG 44 [.cell 6 26] func240 rfl ntmps240 rfl fun _ _ _ _=>?_;refine ⟨_,⟨by omega,rfl⟩,?_⟩;refine cP PA LU ?_;refine br ?_ ?_<;>intro q
   ·have q:p.name.s≠aJ∨bQ p dK=false:=by
     have:=q;simp [pickB] at this;exact this
    rw [zIfP q] at hS;refine cP c9 (bg 19 h.cV) ?_;exact ⟨_,_,ax,ax,bc (tk:=[]) (f:=(19,h.cV)) hS (fun _=>rfl)⟩
   have q:¬ (p.name.s≠aJ∨bQ p dK=false):=by grind [pickB]
   rw [ah q] at hS;refine br ?_ ?_<;>intro x
   ·have x:h.most < 0∨1024 < h.most:=by simpa [aj] using x
    rw [zIfP x] at hS;refine cP c9 (bg 20 h.cV) ?_;exact ⟨_,_,ax,ax,bc (tk:=[]) (f:=(20,h.cV)) hS (fun _=>rfl)⟩
   have x:¬ (h.most < 0∨1024 < h.most):=by simp [aj] at x;omega
   rw [ah x] at hS;refine ⟨_,⟨by omega,rfl⟩,?_⟩;refine jG Fv rfl rfl ax (by repeat' (first | exact rfl | exact trivial | exact Or.inr (Or.inl ⟨_,rfl⟩) | exact Or.inr ⟨_,rfl⟩ | exact Or.inl ⟨rfl,rfl⟩ | exact Or.inl rfl | refine Or.inr ⟨_,_,rfl,Nat.zero_le _,rfl,?_⟩ | refine ⟨_,_,rfl,?_,?_⟩ | refine ⟨_,rfl,?_⟩ | exact congrArg (fun z=>DV.v (.int .i64 z)) (wrap64 (by omega) (by omega)) | refine Or.inr (Or.inr (Or.inr ⟨_,_,rfl,?_⟩)) | exact Or.inl rfl | refine Or.inr ?_)) yZ jT (fun r n9 hr=>?_);obtain ⟨rfl,z,hz,wX⟩:=hr;simp only [List.cons.injEq,and_true] at hz;subst hz;exact ⟨_,_,ax,ax,bc (tk:=[]) (f:=(wrong (.mk u us) (depth + 1) m).1) hS wX⟩
theorem ye (k:Nat) (ih:GK k) (h:Hd) (ps:Pts) (depth m:Int) (hk:ps.wt<=k) (bI:(Ty.mk h ps).wt<=1099511627776) (tJ:0<=depth) (y6:depth<=25) (mv:0<=m) (iu:m<=512) :
  Ev prog 156 [.loc 0 0,.agg (cX (.mk h ps)),.v (.int .i64 depth)] [[.v (.int .i64 m)]] [] (Al (wrong (.mk h ps) depth m)):=by
 have um:=bI;simp only [Ty.wt,Hd.wt] at um;have nH:IntKind.i64.wrap (m + 1)=m + 1:=wrap64 (by omega) (by omega);have hS:=wrong.eq_def (.mk h ps) depth m;simp only at hS;generalize wrong (.mk h ps) depth m=F at hS ⊢;have eA:=CT h ps;rw [BN] at eA;refine eG 103 [.cell 6 26] func156 rfl ntmps156 rfl fun _ _ _ _=>?_;refine br ?_ ?_<;>intro c
 ·have c:24 < depth:=of_decide_eq_true c;rw [zIfP c] at hS;refine cP c9 (bg 6 h.cV) ?_;exact ⟨_,[[.v (.int .i64 (m + 1))]],ax,(pV nH),bc (tk:=[]) (f:=(6,h.cV)) hS (fun _=>rfl)⟩
 have c:¬ 24 < depth:=of_decide_eq_false c;rw [ah c] at hS;refine br ?_ ?_<;>intro c
 ·have c:512 < IntKind.i64.wrap (m + 1):=of_decide_eq_true c;rw [nH] at c;rw [zIfP c] at hS;refine cP c9 (bg 8 h.cV) ?_;exact ⟨_,[[.v (.int .i64 (m + 1))]],ax,(pV nH),bc (tk:=[]) (f:=(8,h.cV)) hS (fun _=>rfl)⟩
 have c:¬ 512 < IntKind.i64.wrap (m + 1):=of_decide_eq_false c;rw [nH] at c;rw [ah c] at hS;refine br ?_ ?_<;>intro c
 ·have c:h.ai < 1∨9 < h.ai:=by simpa [aj] using c
  rw [zIfP c] at hS;refine cP c9 (bg 14 h.cV) ?_;exact ⟨_,[[.v (.int .i64 (m + 1))]],ax,(pV nH),bc (tk:=[]) (f:=(14,h.cV)) hS (fun _=>rfl)⟩
 have ck:¬ (h.ai < 1∨9 < h.ai):=by simp [aj] at c;omega
 rw [ah ck] at hS;refine cP Pr eA ?_;refine br ?_ ?_<;>intro c
 ·have c:rb (.mk h ps)=false:=by simpa [rb] using c
  rw [zIfP c] at hS;refine cP c9 (bg 19 h.cV) ?_;exact ⟨_,[[.v (.int .i64 (m + 1))]],ax,(pV nH),bc (tk:=[]) (f:=(19,h.cV)) hS (fun _=>rfl)⟩
 have c:¬ rb (.mk h ps)=false:=by simpa [rb] using c
 rw [ah c] at hS;refine br ?_ ?_<;>intro k2
 ·have k2:h.ai=2:=of_decide_eq_true k2;refine br ?_ ?_<;>intro x
  ·have x:h.hi < h.lo:=of_decide_eq_true x;rw [zIfP (.inl ⟨k2,x⟩)] at hS;refine cP c9 (bg 20 h.cV) ?_;exact ⟨_,[[.v (.int .i64 (m + 1))]],ax,(pV nH),bc (tk:=[]) (f:=(20,h.cV)) hS (fun _=>rfl)⟩
  have x:¬ h.hi < h.lo:=of_decide_eq_false x;rw [ah (by omega),ah (by omega),ah (by omega),ah (by omega),ah (by omega)] at hS;exact ⟨_,[[.v (.int .i64 (m + 1))]],ax,(pV nH),bc (tk:=[]) (f:=(0,0)) hS (fun _=>rfl)⟩
 have k2:¬ h.ai=2:=of_decide_eq_false k2;refine br ?_ ?_<;>intro k3
 ·have k3:h.ai=3:=of_decide_eq_true k3;refine br ?_ ?_<;>intro x
  ·have x:h.most < 0∨4096 < h.most:=by simpa [aj] using x
   rw [zIfP (.inr ⟨k3,x⟩)] at hS;refine cP c9 (bg 20 h.cV) ?_;exact ⟨_,[[.v (.int .i64 (m + 1))]],ax,(pV nH),bc (tk:=[]) (f:=(20,h.cV)) hS (fun _=>rfl)⟩
  have x:¬ (h.most < 0∨4096 < h.most):=by simp [aj] at x;omega
  rw [ah (by omega),ah (by omega),ah (by omega),ah (by omega),ah (by omega)] at hS;exact ⟨_,[[.v (.int .i64 (m + 1))]],ax,(pV nH),bc (tk:=[]) (f:=(0,0)) hS (fun _=>rfl)⟩
 have k3:¬ h.ai=3:=of_decide_eq_false k3;rw [ah (by omega)] at hS;refine br ?_ ?_<;>intro k4
 ·have k4:h.ai=4:=of_decide_eq_true k4;rw [ah (by omega),zIfP k4,<- GC] at hS;refine cP Ps (zK h ps (by omega)) ?_;exact ⟨_,[[.v (.int .i64 (m + 1))]],ax,(pV nH),bc (tk:=[]) (f:=ku h) hS (fun _=>rfl)⟩
 have k4:¬ h.ai=4:=of_decide_eq_false k4;refine br ?_ ?_<;>intro k5
 ·have UA:h.ai=5∨h.ai=6:=.inl (of_decide_eq_true k5);rw [ah (by omega),ah (by omega),zIfP UA] at hS;refine br (fun _=>?_) (fun hc=>by rw [k5] at hc;cases hc);refine jG Ko rfl rfl (cs':=[.v (.int .i64 (m + 1))]) (pV nH) ax (uk k ih h ps depth (m + 1) hk bI tJ (by omega) (by omega) (by omega)) jT (fun r n9 hr=>?_);obtain ⟨rfl,z,hz,wX⟩:=hr;simp only [List.cons.injEq,and_true] at hz;subst hz;exact ⟨_,_,ax,ax,bc (tk:=[]) (f:=(wrongOne h ps depth (m + 1)).1) hS wX⟩
 have k5:¬ h.ai=5:=of_decide_eq_false k5;refine br ?_ ?_<;>intro k6
 ·have UA:h.ai=5∨h.ai=6:=.inr (of_decide_eq_true k6);rw [ah (by omega),ah (by omega),zIfP UA] at hS;refine jG Ko rfl rfl (cs':=[.v (.int .i64 (m + 1))]) (pV nH) ax (uk k ih h ps depth (m + 1) hk bI tJ (by omega) (by omega) (by omega)) jT (fun r n9 hr=>?_);obtain ⟨rfl,z,hz,wX⟩:=hr;simp only [List.cons.injEq,and_true] at hz;subst hz;exact ⟨_,_,ax,ax,bc (tk:=[]) (f:=(wrongOne h ps depth (m + 1)).1) hS wX⟩
 have k6:¬ h.ai=6:=of_decide_eq_false k6;have hP:dC h ps depth (m + 1)=dC h ps depth (m + 1):=rfl
 conv at hP=>lhs;unfold dC
 refine br ?_ ?_<;>intro k7
 ·have Qu:h.ai=7∨h.ai=8:=.inl (of_decide_eq_true k7);rw [ah (by omega),ah (by omega),ah (by omega),zIfP Qu,hP] at hS;refine br (fun _=>?_) (fun hc=>by rw [k7] at hc;cases hc);refine jG Kp rfl rfl (cs':=[.v (.int .i64 (m + 1))]) (pV nH) ax (ph k ih h ps depth (m + 1) Qu hk bI tJ (by omega) (by omega) (by omega)) jT (fun r n9 hr=>?_);obtain ⟨rfl,z,hz,wX⟩:=hr;simp only [List.cons.injEq,and_true] at hz;subst hz;exact ⟨_,_,ax,ax,bc (tk:=[]) (f:=(dC h ps depth (m + 1)).1) hS wX⟩
 have k7:¬ h.ai=7:=of_decide_eq_false k7;refine br ?_ ?_<;>intro k8
 ·have Qu:h.ai=7∨h.ai=8:=.inr (of_decide_eq_true k8);rw [ah (by omega),ah (by omega),ah (by omega),zIfP Qu,hP] at hS;refine jG Kp rfl rfl (cs':=[.v (.int .i64 (m + 1))]) (pV nH) ax (ph k ih h ps depth (m + 1) Qu hk bI tJ (by omega) (by omega) (by omega)) jT (fun r n9 hr=>?_);obtain ⟨rfl,z,hz,wX⟩:=hr;simp only [List.cons.injEq,and_true] at hz;subst hz;exact ⟨_,_,ax,ax,bc (tk:=[]) (f:=(dC h ps depth (m + 1)).1) hS wX⟩
 have k8:¬ h.ai=8:=of_decide_eq_false k8;refine br ?_ ?_<;>intro k9
 ·have k9:h.ai=9:=of_decide_eq_true k9;refine cP CI (fA h.name.s (by simp only [Wd.wt] at um;omega)) ?_;refine br ?_ ?_<;>intro q
  ·have q:aY h.name.s=false:=sU q;rw [zIfP ⟨k9,q⟩] at hS;refine cP c9 (bg 9 h.name.a) ?_;exact ⟨_,[[.v (.int .i64 (m + 1))]],ax,(pV nH),bc (tk:=[]) (f:=(9,h.name.a)) hS (fun _=>rfl)⟩
  ·have q:aY h.name.s=true:=sU q;rw [ah (by simp [q]),ah (by omega),ah (by omega),ah (by omega)] at hS;exact ⟨_,[[.v (.int .i64 (m + 1))]],ax,(pV nH),bc (tk:=[]) (f:=(0,0)) hS (fun _=>rfl)⟩
 have k9:¬ h.ai=9:=of_decide_eq_false k9;rw [ah (by omega),ah (by omega),ah (by omega),ah (by omega)] at hS;exact ⟨_,[[.v (.int .i64 (m + 1))]],ax,(pV nH),bc (tk:=[]) (f:=(0,0)) hS (fun _=>rfl)⟩
theorem yf:∀ k,GK k
 | 0=>fun t depth m hk=>by have:=t.gq;omega
 | k + 1=>fun t depth m hk bI tJ y6 mv iu=>by
  obtain ⟨h,ps⟩:=t;have fj:=hk;simp only [Ty.wt,Hd.wt] at fj;exact ye k (yf k) h ps depth m (by omega) bI tJ y6 mv iu
theorem yg (t:Ty) (bI:t.wt<=1099511627776):aV prog 84 [.agg (cX t)] (wrong t 1 0).1.d:=
 CU t (yf t.wt t 1 0 (zLeR _) bI (by omega) (by omega) (by omega) (by omega))
abbrev GM (t:Ty) (ps:Pts) (e n:Nat):St:=
 ⟨[aE 1 0,al 3 n,aT 7 18 (dY ps),al 8 ((dY ps).length),al 9 e],[cX t],[]⟩
theorem rS:∀ (k:Nat) (t:Ty),t.wt<=k->t.wt<=1099511627776 ->
  aV prog 132 [.agg (cX t)] (.v (.int .i64 t.cnt))
 | 0,t,hn,_=>by have:=t.gq;omega
 | k + 1,.mk h ps,hn,bI=>by
  simp only [Ty.wt,Hd.wt] at hn bI;have mj:=ps.dX;have hc:=ps.dq;refine eG 23 [.tmp 2] func132 rfl ntmps132 rfl fun _ _ _ _=>?_
  refine aX (fun j st=>∃ (e n:Nat),st=GM (.mk h ps) ps e n/\e<=ps.len/\n + (ps.drop e).cnt=1 + ps.cnt/\j=ps.len - e) ps.len
   (GM (.mk h ps) ps 0 1) (bl wB) ⟨0,1,rfl,by omega,rfl,by omega⟩ ?_
  rintro j st ⟨e,n,rfl,he,bd,rfl⟩;refine br ?_ ?_<;>intro hL
  ·have aq:e < ps.len:=by simpa [aC] using hL
   obtain ⟨p,t,hx⟩:=Pts.dp aq;have CS:=Pts.eD (mG hx);rw [Pts.drop_cons hx] at bd;simp only [Pts.cnt] at bd;have T8:=t.dq;obtain ⟨u,us⟩:=t;refine iX (bz hx) ?_;refine br ?_ ?_<;>intro hB
   ·have hB:p.bare=false:=sU hB;rw [hB] at bd;have bd:n + ((Ty.mk u us).cnt + (ps.drop (e + 1)).cnt)=1 + ps.cnt:=bd;refine cP Kc (rS k (.mk u us) (by omega) (by omega)) ?_;have tO:IntKind.i64.wrap ((n:Int) + (Ty.mk u us).cnt)=((n + (Ty.mk u us).cnt:Nat):Int):=by rw [wrap64 (by omega) (by omega)];omega
    exact ⟨GM (.mk h ps) ps (e + 1) (n + (Ty.mk u us).cnt),(bl (iv tO (aS aq (by omega)))),ps.len - (e + 1),by omega,e + 1,_,rfl,by omega,by omega,rfl⟩
   ·have hB:p.bare=true:=sU hB;rw [hB] at bd;have bd:n + (0 + (ps.drop (e + 1)).cnt)=1 + ps.cnt:=bd;exact rE ⟨_,by omega,e + 1,n,rfl,by omega,by omega,rfl⟩ (bl (c8 (aS aq (by omega))))
  ·have hge:e=ps.len:=by simp [aC] at hL;omega
   rw [hge,Pts.cq] at bd;simp only [Pts.cnt] at bd;have e2:(n:Int)=((Ty.mk h ps).cnt:Int):=by simp only [Ty.cnt];omega
   refine (qM ?_:);exact e2
mutual
def Ty.nn:Ty->Nat
 | .mk h ps=>if h.ai=9 then 0 else 1 + ps.nn
def Pts.nn:Pts->Nat
 | .nil=>0
 | .cons p t r=>(if p.bare then 0 else t.nn) + r.nn
end
mutual
theorem Ty.eJ:∀ t:Ty,t.nn<=t.cnt
 | .mk h ps=>by
  have:=Pts.eJ ps;simp only [Ty.nn,Ty.cnt];split<;>omega
theorem Pts.eJ:∀ ps:Pts,ps.nn<=ps.cnt
 | .nil=>zLeR _
 | .cons p t r=>by
  have:=Ty.eJ t;have:=Pts.eJ r;simp only [Pts.nn,Pts.cnt];split<;>omega
end
abbrev ME (t:Ty) (ps:Pts) (e n:Nat):St:=
 ⟨[aE 1 0,al 3 n,aT 10 18 (dY ps),al 11 ((dY ps).length),al 12 e],[cX t],[]⟩
theorem rT:∀ (k:Nat) (t:Ty),t.wt<=k->t.wt<=1099511627776 ->
  aV prog 135 [.agg (cX t)] (.v (.int .i64 t.nn))
 | 0,t,hn,_=>by have:=t.gq;omega
 | k + 1,.mk h ps,hn,bI=>by
  simp only [Ty.wt,Hd.wt] at hn bI;have mj:=ps.dX;have hc:=ps.dq;have mB:=ps.eJ;refine eG 26 [.tmp 2] func135 rfl ntmps135 rfl fun _ _ _ _=>?_;refine br ?_ ?_<;>intro h9
  ·have h9:h.ai=9:=sU h9;have:(Ty.mk h ps).nn=0:=by simp [Ty.nn,h9]
   rw [this];exact (rfl:_=_)
  have h9:¬ h.ai=9:=sU h9
  refine aX (fun j st=>∃ (e n:Nat),st=ME (.mk h ps) ps e n/\e<=ps.len/\n + (ps.drop e).nn=1 + ps.nn/\j=ps.len - e) ps.len
   (ME (.mk h ps) ps 0 1) (bl wB) ⟨0,1,rfl,by omega,rfl,by omega⟩ ?_
  rintro j st ⟨e,n,rfl,he,bd,rfl⟩;refine br ?_ ?_<;>intro hL
  ·have aq:e < ps.len:=by simpa [aC] using hL
   obtain ⟨p,t,hx⟩:=Pts.dp aq;have CS:=Pts.eD (mG hx);rw [Pts.drop_cons hx] at bd;simp only [Pts.nn] at bd;have T8:=t.dq;have hct2:=t.eJ;obtain ⟨u,us⟩:=t;refine iX (bz hx) ?_;refine br ?_ ?_<;>intro hB
   ·have hB:p.bare=false:=sU hB;rw [hB] at bd;have bd:n + ((Ty.mk u us).nn + (ps.drop (e + 1)).nn)=1 + ps.nn:=bd;refine cP Kd (rT k (.mk u us) (by omega) (by omega)) ?_;have tO:IntKind.i64.wrap ((n:Int) + (Ty.mk u us).nn)=((n + (Ty.mk u us).nn:Nat):Int):=by rw [wrap64 (by omega) (by omega)];omega
    exact ⟨ME (.mk h ps) ps (e + 1) (n + (Ty.mk u us).nn),(bl (iv tO (aS aq (by omega)))),ps.len - (e + 1),by omega,e + 1,_,rfl,by omega,by omega,rfl⟩
   ·have hB:p.bare=true:=sU hB;rw [hB] at bd;have bd:n + (0 + (ps.drop (e + 1)).nn)=1 + ps.nn:=bd;exact rE ⟨_,by omega,e + 1,n,rfl,by omega,by omega,rfl⟩ (bl (c8 (aS aq (by omega))))
  ·have hge:e=ps.len:=by simp [aC] at hL;omega
   rw [hge,Pts.cq] at bd;simp only [Pts.nn] at bd;have e2:(n:Int)=((Ty.mk h ps).nn:Int):=by simp only [Ty.nn,ah h9];omega
   refine (qM ?_:);exact e2
structure Lx where
 af:List ByteArray
 aA:List Nat
 rows:List Nat
 js:List Int
 f:Nat->Nat->Bool
def Lx.pd (X:Lx):DV:=.pt (fJ X.af (cd X.af X.aA) X.rows X.js) 0
def Lx.lev (X:Lx) (l:List Wd):Int:=vH X.f X.af l
def Lx.bad (X:Lx) (l:List Wd):Ft:=labW X.af l
structure Lx.OK (X:Lx):Prop where
 hT:fl X.af X.aA
 jr:X.aA.length<=1099511627776
 hL:il X.f X.af.length
 hn:X.af.length<=32
 hj:∀ x y,x < X.af.length->y < X.af.length->JM X.f X.af.length X.js x y
theorem Lx.ng {X:Lx} (h:X.OK) (l:List Wd) (hs:wdsWt l<=1099511627776):aV prog 133 [X.pd,.sl 2 (bm l) none] (.bW [.v (.int .i64 (X.lev l)),(X.bad l).d]):=
 GJ X.af X.aA X.rows X.js h.hT h.jr h.hL h.hn h.hj l hs
def bC (s:Sch) (lat out:DV) (m:Int):List DV:=.sl 2 (bm s.ae) none :: .sl 4 (j3 s.order) none :: .sl 11 (dNms s.types) none :: (cX s.root ++ [lat,out,.v (.int .i64 m)])
theorem rU {X:Lx} (h:X.OK) (s:Sch) (pc:List DV) (m:Int) (l:List Wd) (hs:wdsWt l<=1099511627776) :
  aV prog 218 [.pt (bC s X.pd (.pt pc 0) m) 0,.sl 2 (bm l) none] (.v (.int .i64 (X.lev l))):=by
 obtain ⟨ae,order,types,⟨rh,rp⟩⟩:=s;refine eG 17 [.tmp 4] func218 rfl ntmps218 rfl fun _ _ _ _=>?_;refine cP xq (Lx.ng h l hs) ?_;exact (rfl:_=_)
def pK (s:Sch):List Wd:=s.types.map fun x=>x.1
def tL (s:Sch):List ByteArray:=ap (pK s)
theorem B4 (s:Sch):(pK s).length=s.types.length:=by simp [pK]
theorem iN (s:Sch):(tL s).length=s.types.length:=by simp [tL,ap,pK]
def pC (s:Sch) (aA:List Nat) (a b c e:DV):List DV:=[a,b,c,.pt (cd (tL s) aA) 0,e]
def pL (s:Sch) (t:Ty):Bool:=decide (t.h.ai=9->cf (tL s) t.h.name.s≠none)
def endI (s:Sch):Nat->Nat->Option Nat
 | 0,_=>none
 | k + 1,i=>
  match s.types[i]? with
  | none=>none
  | some x=>if x.2.h.ai=9 then endI s k ((cf (tL s) x.2.h.name.s).getD 0) else some i
theorem p8 {s:Sch}:∀ {k i j:Nat},endI s k i=some j->j < s.types.length/\∀ x,s.types[j]? = some x->x.2.h.ai≠9
 | 0,i,j,h=>by cases h
 | k + 1,i,j,h=>by
  rw [endI] at h
  cases hx:s.types[i]? with
  | none=>rw [hx] at h;cases h
  | some x=>
   rw [hx] at h;simp only at h;split at h
   ·exact p8 h
   all_goals grind
abbrev KR (B:DV) (n i e:Nat):St:=
 ⟨[(0,⟨[],B⟩),al 1 i,al 12 n,al 13 e],[],[]⟩
theorem yh (s:Sch) (lat:DV) (aA:List Nat) (a b c e0:DV) (m:Int) (hT:fl (tL s) aA) (jr:aA.length<=1099511627776) (hl:s.types.length<=64) (hr:∀ x∈s.types,pL s x.2=true) (i:Nat) (hi:i < s.types.length) :
  aV prog 134 [.pt (bC s lat (.pt (pC s aA a b c e0) 0) m) 0,.v (.int .i64 i)] (.v (.int .i64 (oz (endI s (s.types.length + 1) i)))):=by
 have ln:=iN s;obtain ⟨ae,order,types,⟨rh,rp⟩⟩:=s;simp only at hl hr hi ln;have hN:=cK types;have UB:IntKind.i64.wrap ((((dNms types).length:Nat):Int) + 1)=((types.length + 1:Nat):Int):=by rw [hN,wrap64 (by omega) (by omega)];all_goals rfl
 refine eG 43 [.tmp 4] func134 rfl ntmps134 rfl fun _ _ _ _=>?_
 refine aX (fun j st=>∃ e q:Nat,st=KR (.pt (bC ⟨ae,order,types,.mk rh rp⟩ lat (.pt (pC ⟨ae,order,types,.mk rh rp⟩ aA a b c e0) 0) m) 0) (types.length + 1) q e/\e<=types.length + 1/\q < types.length/\endI ⟨ae,order,types,.mk rh rp⟩ (types.length + 1) i=endI ⟨ae,order,types,.mk rh rp⟩ (types.length + 1 - e) q/\j=types.length + 1 - e) (types.length + 1)
  (KR (.pt (bC ⟨ae,order,types,.mk rh rp⟩ lat (.pt (pC ⟨ae,order,types,.mk rh rp⟩ aA a b c e0) 0) m) 0) (types.length + 1) i 0) (bl (c8 UB)) ⟨0,i,rfl,by omega,hi,rfl,by omega⟩ ?_
 rintro j st ⟨e,q,rfl,he,hq,aD,rfl⟩;refine br ?_ ?_<;>intro hL
 ·have aq:e < types.length + 1:=by have:=hL;simp at this;omega
  obtain ⟨x,hx⟩:∃ x,types[q]? = some x:=⟨_,gE hq⟩;have Ss:=hr x (mG hx);obtain ⟨xw,⟨xh,xp⟩⟩:=x
  have hst:endI ⟨ae,order,types,.mk rh rp⟩ (types.length + 1 - e) q=if xh.ai=9 then endI ⟨ae,order,types,.mk rh rp⟩ (types.length + 1 - (e + 1)) ((cf (tL ⟨ae,order,types,.mk rh rp⟩) xh.name.s).getD 0) else some q:=by
   rw [show types.length + 1 - e=(types.length + 1 - (e + 1)) + 1 by omega,endI];simp only [hx];rfl
  rw [hst] at aD;refine iX (dNms_get hx) ?_;refine br ?_ ?_<;>intro h9
  ·have h9:¬ xh.ai=9:=sU h9;rw [ah h9] at aD;rw [aD];exact (rfl:_=_)
  have h9:xh.ai=9:=sU h9;rw [zIfP h9] at aD
  have bd:cf (tL ⟨ae,order,types,.mk rh rp⟩) xh.name.s≠none:=by
   have:=of_decide_eq_true Ss;exact this h9
  obtain ⟨k,hk⟩:=Option.ne_none_iff_exists'.1 bd;have xd:=(cx hk).1;rw [hk] at aD;have hf:=fI (tL ⟨ae,order,types,.mk rh rp⟩) aA xh.name.s hT jr;rw [hk] at hf;refine dI ?_;refine cD kk hf ?_;exact rE ⟨_,by omega,e + 1,k,rfl,by omega,by omega,aD,rfl⟩ (bl (c8 (aS aq (by omega))))
 ·have hge:e=types.length + 1:=by have:=hL;simp at this;omega
  subst hge;rw [Nat.sub_self] at aD;rw [aD];exact (rfl:_=_)
def loopF (s:Sch):Ft:=
 match bE (fun i=>(endI s (s.types.length + 1) i).isNone) s.types.length with
 | none=>(0,0)
 | some i=>(11,MB (pK s) i)
abbrev vI (B:DV) (s:Sch) (e:Nat):St:=
 ⟨[(0,⟨[],B⟩),aE 2 0,aT 9 11 (dNms s.types),al 10 ((dNms s.types).length),al 11 e],[[.v (.int .i64 0),.v (.int .i64 0)]],[]⟩
theorem An (s:Sch) (lat:DV) (aA:List Nat) (a b c e0:DV) (m:Int) (hT:fl (tL s) aA) (jr:aA.length<=1099511627776) (hl:s.types.length<=64) (hr:∀ x∈s.types,pL s x.2=true) :
  aV prog 66 [.pt (bC s lat (.pt (pC s aA a b c e0) 0) m) 0] (loopF s).d:=by
 have sR:=yh s lat aA a b c e0 m hT jr hl hr;have hN:=cK s.types;have hF:=loopF.eq_1 s;obtain ⟨ae,order,types,⟨rh,rp⟩⟩:=s;simp only at hl hr sR hN;refine eG 26 [.cell 2 26] func66 rfl ntmps66 rfl fun _ _ _ _=>?_
 refine aX (fun j st=>∃ e:Nat,st=vI (.pt (bC ⟨ae,order,types,.mk rh rp⟩ lat (.pt (pC ⟨ae,order,types,.mk rh rp⟩ aA a b c e0) 0) m) 0) ⟨ae,order,types,.mk rh rp⟩ e/\e<=types.length/\(∀ i,i < e->(endI ⟨ae,order,types,.mk rh rp⟩ (types.length + 1) i).isNone=false)/\j=types.length - e) types.length
  (vI (.pt (bC ⟨ae,order,types,.mk rh rp⟩ lat (.pt (pC ⟨ae,order,types,.mk rh rp⟩ aA a b c e0) 0) m) 0) ⟨ae,order,types,.mk rh rp⟩ 0) (bl wB) ⟨0,rfl,by omega,fun _ h=>by omega,by omega⟩ ?_
 rintro j st ⟨e,rfl,he,hno,rfl⟩;refine br ?_ ?_<;>intro hL
 ·have aq:e < types.length:=by have:=hL;simp [hN] at this;exact this
  obtain ⟨x,hx⟩:=gX aq;have MF:(pK ⟨ae,order,types,.mk rh rp⟩)[e]? = some x.1:=by simp [pK,hx]
  have h1:=sR e aq;obtain ⟨xw,⟨xh,xp⟩⟩:=x;refine iX (dNms_get hx) ?_;refine cP en134 h1 ?_
  cases hE:endI ⟨ae,order,types,.mk rh rp⟩ (types.length + 1) e with
  | none=>
   have pB:=cw (p:=fun i=>(endI ⟨ae,order,types,.mk rh rp⟩ (types.length + 1) i).isNone) aq (by simp only [hE];rfl) hno;simp only [pB] at hF;rw [iF MF] at hF;refine ⟨_,?_,rfl⟩;rw [hF];exact ax
  | some k=>
   refine ⟨vI (.pt (bC ⟨ae,order,types,.mk rh rp⟩ lat (.pt (pC ⟨ae,order,types,.mk rh rp⟩ aA a b c e0) 0) m) 0) ⟨ae,order,types,.mk rh rp⟩ (e + 1),(bl (c8 (aS aq (by omega)))),types.length - (e + 1),by omega,e + 1,rfl,by omega,fun i hi=>?_,rfl⟩;rcases lE hi with hi | rfl
   ·exact hno i hi
   ·rw [hE];all_goals rfl
 ·have hge:e=types.length:=sW hN hL;subst hge;simp only [cL hno] at hF;refine ⟨_,?_,rfl⟩;rw [hF];exact ax
mutual
def knT (X:Lx) (L:List ByteArray):Ty->Ft
 | .mk h ps=>if h.ai=9/\cf L h.name.s=none then (15,h.name.a) else knP X L ps
def knP (X:Lx) (L:List ByteArray):Pts->Ft
 | .nil=>(0,0)
 | .cons p t r=>if (X.bad p.label).1≠0 then X.bad p.label else if (X.bad p.cl).1≠0 then X.bad p.cl else if p.bare then knP X L r else if (knT X L t).1≠0 then knT X L t else knP X L r
end
abbrev Qv (B:DV) (t:Ty) (ps:Pts) (e:Nat):St:=
 ⟨[(0,⟨[],B⟩),aE 3 0,aE 4 1,aT 38 18 (dY ps),al 39 ((dY ps).length),al 40 e],[cX t,[.v (.int .i64 0),.v (.int .i64 0)]],[]⟩
abbrev uo (B:DV) (t:Ty) (ps:Pts) (p:Ph) (u:Ty) (e q:Nat):St:=
 ⟨[(0,⟨[],B⟩),aE 3 0,aE 4 1,aT 38 18 (dY ps),al 39 ((dY ps).length),al 40 e,aE 8 2,aT 49 1 [[.sl 2 (bm p.label) none],[.sl 2 (bm p.cl) none]],al 50 (2:Nat),al 51 q],[cX t,[.v (.int .i64 0),.v (.int .i64 0)],zB p (cX u)],[]⟩
theorem rV {X:Lx} (hX:X.OK) (s:Sch) (aA:List Nat) (a b c e0:DV) (m:Int) (hT:fl (tL s) aA) (jr:aA.length<=1099511627776):∀ (k:Nat) (t:Ty),t.wt<=k->t.wt<=1099511627776 ->
  aV prog 65 [.pt (bC s X.pd (.pt (pC s aA a b c e0) 0) m) 0,.agg (cX t)] (knT X (tL s) t).d
 | 0,t,hn,_=>by have:=t.gq;omega
 | k + 1,.mk h ps,hn,bI=>by
  have ih:=rV hX s aA a b c e0 m hT jr k;simp only [Ty.wt,Hd.wt] at hn bI;have mj:=ps.dX;obtain ⟨ae,order,types,⟨rh,rp⟩⟩:=s;have hf:=fI (tL ⟨ae,order,types,.mk rh rp⟩) aA h.name.s hT jr;have hS:knT X (tL ⟨ae,order,types,.mk rh rp⟩) (.mk h ps)=if h.ai=9/\cf (tL ⟨ae,order,types,.mk rh rp⟩) h.name.s=none then (15,h.name.a) else knP X (tL ⟨ae,order,types,.mk rh rp⟩) ps:=by rw [knT]
  refine eG 81 [.cell 4 26] func65 rfl ntmps65 rfl fun _ _ _ _=>?_;generalize knT X (tL ⟨ae,order,types,.mk rh rp⟩) (.mk h ps)=F at hS ⊢;have Qw:knP X (tL ⟨ae,order,types,.mk rh rp⟩) ps=knP X (tL ⟨ae,order,types,.mk rh rp⟩) (ps.drop 0):=by rw [Pts.drop]
  refine br ?_ ?_<;>intro h9
  ·have h9:h.ai=9:=sU h9;refine dI ?_
   cases hx:cf (tL ⟨ae,order,types,.mk rh rp⟩) h.name.s with
   | none=>
    rw [zIfP ⟨h9,hx⟩] at hS;rw [hx] at hf;refine cD kk hf ?_;refine ⟨_,?_,rfl⟩;rw [hS];exact ax
   | some i=>
    rw [ah (by rw [hx];simp),Qw] at hS;rw [hx] at hf;refine cD kk hf ?_;refine lI (fun j st=>∃ e:Nat,st=Qv (.pt (bC ⟨ae,order,types,.mk rh rp⟩ X.pd (.pt (pC ⟨ae,order,types,.mk rh rp⟩ aA a b c e0) 0) m) 0) (.mk h ps) ps e/\e<=ps.len/\F=knP X (tL ⟨ae,order,types,.mk rh rp⟩) (ps.drop e)/\j=ps.len - e) ⟨0,rfl,by omega,hS,rfl⟩ (bl wB) ?_;rintro j st ⟨e,rfl,he,aD,rfl⟩;refine br ?_ ?_<;>intro hL
    ·have aq:e < ps.len:=by simpa [aC] using hL
     obtain ⟨p,t,hx⟩:=Pts.dp aq;have CS:=Pts.eD (mG hx);rw [Pts.drop_cons hx] at aD;simp only [knP] at aD;have zI:wdsWt p.label + wdsWt p.cl<=p.wt:=by simp only [Ph.wt];omega
     obtain ⟨u,us⟩:=t;refine iX (bz hx) ?_;refine lI (fun j st=>∃ q:Nat,st=uo (.pt (bC ⟨ae,order,types,.mk rh rp⟩ X.pd (.pt (pC ⟨ae,order,types,.mk rh rp⟩ aA a b c e0) 0) m) 0) (.mk h ps) ps p (.mk u us) e q/\q<=2/\(1<=q->(X.bad p.label).1=0)/\(2<=q->(X.bad p.cl).1=0)/\j=2 - q) ⟨0,rfl,by omega,fun h=>by omega,fun h=>by omega,rfl⟩ (bl wB) ?_;rintro j st ⟨q,rfl,hq,Mo,iQ,rfl⟩;refine br ?_ ?_<;>intro j6
     ·have Cv:q=0∨q=1:=by have:=j6;simp at this;omega
      rcases Cv with rfl | rfl
      ·refine ⟨_,⟨by omega,rfl⟩,?_⟩;refine cP xq (Lx.ng hX p.label (by omega)) ?_;refine br ?_ ?_<;>intro hb
       ·have hb:(X.bad p.label).1≠0:=sU hb;rw [zIfP hb] at aD;refine ⟨_,?_,rfl⟩;rw [aD];exact ax
       ·have hb:(X.bad p.label).1=0:=sU hb;exact ⟨uo (.pt (bC ⟨ae,order,types,.mk rh rp⟩ X.pd (.pt (pC ⟨ae,order,types,.mk rh rp⟩ aA a b c e0) 0) m) 0) (.mk h ps) ps p (.mk u us) e 1,(bl (c8 (aS (e:=0) (n:=2) (by omega) (by omega)))),1,by omega,1,rfl,by omega,fun _=>hb,fun h=>by omega,rfl⟩
      ·have gj:=Mo (by omega);refine ⟨_,⟨by omega,rfl⟩,?_⟩;refine cP xq (Lx.ng hX p.cl (by omega)) ?_;refine br ?_ ?_<;>intro hb
       ·have hb:(X.bad p.cl).1≠0:=sU hb;rw [ah (by rw [gj];simp),zIfP hb] at aD;refine ⟨_,?_,rfl⟩;rw [aD];exact ax
       ·have hb:(X.bad p.cl).1=0:=sU hb;exact ⟨uo (.pt (bC ⟨ae,order,types,.mk rh rp⟩ X.pd (.pt (pC ⟨ae,order,types,.mk rh rp⟩ aA a b c e0) 0) m) 0) (.mk h ps) ps p (.mk u us) e 2,(bl (c8 (aS (e:=1) (n:=2) (by omega) (by omega)))),0,by omega,2,rfl,by omega,fun _=>gj,fun _=>hb,rfl⟩
     ·have Cv:q=2:=by have:=j6;simp at this;omega
      subst Cv;have gj:=Mo (by omega);have lm:=iQ (by omega);rw [ah (by rw [gj];simp),ah (by rw [lm];simp)] at aD;refine br ?_ ?_<;>intro hB
      ·have hB:p.bare=true:=hB;rw [zIfP hB] at aD;exact rE ⟨_,by omega,e + 1,rfl,by omega,aD,rfl⟩ (bl (c8 (aS aq (by omega))))
      ·have hB:p.bare=false:=hB;rw [ah (by rw [hB];decide)] at aD;refine cP L4 (ih (.mk u us) (by omega) (by omega)) ?_;refine br ?_ ?_<;>intro hb
       ·have hb:(knT X (tL ⟨ae,order,types,.mk rh rp⟩) (.mk u us)).1≠0:=sU hb;rw [zIfP hb] at aD;refine ⟨_,?_,rfl⟩;rw [aD];exact ax
       ·have hb:(knT X (tL ⟨ae,order,types,.mk rh rp⟩) (.mk u us)).1=0:=sU hb;rw [ah (by rw [hb];simp)] at aD;exact rE ⟨_,by omega,e + 1,rfl,by omega,aD,rfl⟩ (bl (c8 (aS aq (by omega))))
    ·have hge:e=ps.len:=by simp [aC] at hL;omega
     rw [hge,Pts.cq] at aD;simp only [knP] at aD;refine ⟨_,?_,rfl⟩;rw [aD];exact ax
  ·have h9:¬ h.ai=9:=sU h9;rw [ah (fun hc=>h9 hc.1),Qw] at hS;refine lI (fun j st=>∃ e:Nat,st=Qv (.pt (bC ⟨ae,order,types,.mk rh rp⟩ X.pd (.pt (pC ⟨ae,order,types,.mk rh rp⟩ aA a b c e0) 0) m) 0) (.mk h ps) ps e/\e<=ps.len/\F=knP X (tL ⟨ae,order,types,.mk rh rp⟩) (ps.drop e)/\j=ps.len - e) ⟨0,rfl,by omega,hS,rfl⟩ (bl wB) ?_;rintro j st ⟨e,rfl,he,aD,rfl⟩;refine br ?_ ?_<;>intro hL
   ·have aq:e < ps.len:=by simpa [aC] using hL
    obtain ⟨p,t,hx⟩:=Pts.dp aq;have CS:=Pts.eD (mG hx);rw [Pts.drop_cons hx] at aD;simp only [knP] at aD;have zI:wdsWt p.label + wdsWt p.cl<=p.wt:=by simp only [Ph.wt];omega
    obtain ⟨u,us⟩:=t;refine iX (bz hx) ?_;refine lI (fun j st=>∃ q:Nat,st=uo (.pt (bC ⟨ae,order,types,.mk rh rp⟩ X.pd (.pt (pC ⟨ae,order,types,.mk rh rp⟩ aA a b c e0) 0) m) 0) (.mk h ps) ps p (.mk u us) e q/\q<=2/\(1<=q->(X.bad p.label).1=0)/\(2<=q->(X.bad p.cl).1=0)/\j=2 - q) ⟨0,rfl,by omega,fun h=>by omega,fun h=>by omega,rfl⟩ (bl wB) ?_;rintro j st ⟨q,rfl,hq,Mo,iQ,rfl⟩;refine br ?_ ?_<;>intro j6
    ·have Cv:q=0∨q=1:=by have:=j6;simp at this;omega
     rcases Cv with rfl | rfl
     ·refine ⟨_,⟨by omega,rfl⟩,?_⟩;refine cP xq (Lx.ng hX p.label (by omega)) ?_;refine br ?_ ?_<;>intro hb
      ·have hb:(X.bad p.label).1≠0:=sU hb;rw [zIfP hb] at aD;refine ⟨_,?_,rfl⟩;rw [aD];exact ax
      ·have hb:(X.bad p.label).1=0:=sU hb;exact ⟨uo (.pt (bC ⟨ae,order,types,.mk rh rp⟩ X.pd (.pt (pC ⟨ae,order,types,.mk rh rp⟩ aA a b c e0) 0) m) 0) (.mk h ps) ps p (.mk u us) e 1,(bl (c8 (aS (e:=0) (n:=2) (by omega) (by omega)))),1,by omega,1,rfl,by omega,fun _=>hb,fun h=>by omega,rfl⟩
     ·have gj:=Mo (by omega);refine ⟨_,⟨by omega,rfl⟩,?_⟩;refine cP xq (Lx.ng hX p.cl (by omega)) ?_;refine br ?_ ?_<;>intro hb
      ·have hb:(X.bad p.cl).1≠0:=sU hb;rw [ah (by rw [gj];simp),zIfP hb] at aD;refine ⟨_,?_,rfl⟩;rw [aD];exact ax
      ·have hb:(X.bad p.cl).1=0:=sU hb;exact ⟨uo (.pt (bC ⟨ae,order,types,.mk rh rp⟩ X.pd (.pt (pC ⟨ae,order,types,.mk rh rp⟩ aA a b c e0) 0) m) 0) (.mk h ps) ps p (.mk u us) e 2,(bl (c8 (aS (e:=1) (n:=2) (by omega) (by omega)))),0,by omega,2,rfl,by omega,fun _=>gj,fun _=>hb,rfl⟩
    ·have Cv:q=2:=by have:=j6;simp at this;omega
     subst Cv;have gj:=Mo (by omega);have lm:=iQ (by omega);rw [ah (by rw [gj];simp),ah (by rw [lm];simp)] at aD;refine br ?_ ?_<;>intro hB
     ·have hB:p.bare=true:=hB;rw [zIfP hB] at aD;exact rE ⟨_,by omega,e + 1,rfl,by omega,aD,rfl⟩ (bl (c8 (aS aq (by omega))))
     ·have hB:p.bare=false:=hB;rw [ah (by rw [hB];decide)] at aD;refine cP L4 (ih (.mk u us) (by omega) (by omega)) ?_;refine br ?_ ?_<;>intro hb
      ·have hb:(knT X (tL ⟨ae,order,types,.mk rh rp⟩) (.mk u us)).1≠0:=sU hb;rw [zIfP hb] at aD;refine ⟨_,?_,rfl⟩;rw [aD];exact ax
      ·have hb:(knT X (tL ⟨ae,order,types,.mk rh rp⟩) (.mk u us)).1=0:=sU hb;rw [ah (by rw [hb];simp)] at aD;exact rE ⟨_,by omega,e + 1,rfl,by omega,aD,rfl⟩ (bl (c8 (aS aq (by omega))))
   ·have hge:e=ps.len:=by simp [aC] at hL;omega
    rw [hge,Pts.cq] at aD;simp only [knP] at aD;refine ⟨_,?_,rfl⟩;rw [aD];exact ax
def eaL (F:Ty->Ft) (z:Ft):List (Wd × Ty)->Ft
 | []=>z
 | x :: r=>if (F x.2).1≠0 then F x.2 else eaL F z r
theorem GN {F:Ty->Ft} {z:Ft} {l:List (Wd × Ty)} {e:Nat} {x:Wd × Ty} (h:l[e]? = some x):eaL F z (l.drop e)=if (F x.2).1≠0 then F x.2 else eaL F z (l.drop (e + 1)):=by
 rw [drop_cons h,eaL]
abbrev GO (B:DV) (fn:DV) (types:List (Wd × Ty)) (e:Nat):St:=
 ⟨[(0,⟨[],B⟩),(1,⟨[],fn⟩),aE 4 0,aT 12 11 (dNms types),al 13 ((dNms types).length),al 14 e],[[.v (.int .i64 0),.v (.int .i64 0)]],[]⟩
theorem Dy (s:Sch) (lat:DV) (pc:List DV) (m:Int) (hl:s.types.length<=1099511627776) (g:Nat) (hg:Enters prog g) (F:Ty->Ft)
  (hF:∀ t,(t=s.root∨∃ x∈s.types,t=x.2)->aV prog g [.pt (bC s lat (.pt pc 0) m) 0,.agg (cX t)] (F t).d) :
  aV prog 63 [.pt (bC s lat (.pt pc 0) m) 0,.fn g [.pt (bC s lat (.pt pc 0) m) 0] []] (eaL F (F s.root) s.types).d:=by
 have hN:=cK s.types;obtain ⟨ae,order,types,⟨rh,rp⟩⟩:=s;simp only at hl hF hN;have pj:=hF (.mk rh rp) (.inl rfl);have MG:∀ x∈types,_:=fun x hx=>hF x.2 (.inr ⟨x,hx,rfl⟩);clear hF;refine eG 34 [.cell 4 26] func63 rfl ntmps63 rfl fun _ _ _ _=>?_;generalize hG:eaL F (F (.mk rh rp)) types=G;have UC:G=eaL F (F (.mk rh rp)) (types.drop 0):=by rw [List.drop_zero,hG]
 refine aX (fun j st=>∃ e:Nat,st=GO (.pt (bC ⟨ae,order,types,.mk rh rp⟩ lat (.pt pc 0) m) 0) (.fn g [.pt (bC ⟨ae,order,types,.mk rh rp⟩ lat (.pt pc 0) m) 0] []) types e/\e<=types.length/\G=eaL F (F (.mk rh rp)) (types.drop e)/\j=types.length - e) types.length
  (GO (.pt (bC ⟨ae,order,types,.mk rh rp⟩ lat (.pt pc 0) m) 0) (.fn g [.pt (bC ⟨ae,order,types,.mk rh rp⟩ lat (.pt pc 0) m) 0] []) types 0) (bl wB) ⟨0,rfl,by omega,UC,by omega⟩ ?_
 rintro j st ⟨e,rfl,he,aD,rfl⟩;refine br ?_ ?_<;>intro hL
 ·have aq:e < types.length:=by have:=hL;simp [hN] at this;exact this
  obtain ⟨x,hx⟩:=gX aq;have hp:=MG x (mG hx);rw [GN hx] at aD;obtain ⟨xw,⟨xh,xp⟩⟩:=x;refine iX (dNms_get hx) ?_;refine cP hg hp ?_;refine br ?_ ?_<;>intro hf
  ·have hf:(F (.mk xh xp)).1≠0:=sU hf;rw [zIfP hf] at aD;refine ⟨_,?_,rfl⟩;rw [aD];exact ax
  ·have hf:(F (.mk xh xp)).1=0:=sU hf;rw [ah (by rw [hf];simp)] at aD;exact rE ⟨_,by omega,e + 1,rfl,by omega,aD,rfl⟩ (bl (c8 (aS aq (by omega))))
 ·have hge:e=types.length:=sW hN hL;subst hge;rw [List.drop_length,eaL] at aD;refine cP hg pj ?_;refine ⟨_,?_,rfl⟩;rw [aD];exact ax
def bF (t:Ty) (m:Int):Ft × Int:=if (wrong t 1 0).1.1≠0 then ((wrong t 1 0).1,m) else if 512 < m + t.cnt then ((8,t.h.cV),m + t.cnt) else ((0,0),m + t.cnt)
def GP (s:Sch) (lat:DV) (pc:List DV) (x:Ft × Int) (r:DV) (os:List (List DV)) (_:List TkE):Prop:=r=x.1.d/\os=[bC s lat (.loc 1 0) x.2,pc]
theorem yi (s:Sch) (lc pc:List DV) (m:Int) (mv:0<=m) (iu:m<=1099511627776) (t:Ty) (bI:t.wt<=1099511627776) (UD:∀ bx N n0 m0,CcL bx N n0 m0 pc pc) :
  Ev prog 64 [.loc 0 0,.agg (cX t)] [bC s (.pt lc 0) (.loc 1 0) m,pc] [] (GP s (.pt lc 0) pc (bF t m)):=by
 have hk:=yg t bI;have hc:=rS t.wt t (zLeR _) bI;have HU:=t.dq;have hF:=bF.eq_1 t m;obtain ⟨ae,order,types,⟨rh,rp⟩⟩:=s;obtain ⟨h,ps⟩:=t;generalize bF (.mk h ps) m=R at hF ⊢;refine eG 30 [.cell 4 26] func64 rfl ntmps64 rfl fun _ _ _ _=>?_;refine cP TH hk ?_;refine br ?_ ?_<;>intro hf
 ·have hf:(wrong (.mk h ps) 1 0).1.1≠0:=sU hf;rw [zIfP hf] at hF;subst hF;exact ⟨Ft.d _,[bC ⟨ae,order,types,.mk rh rp⟩ (.pt lc 0) (.loc 1 0) m,pc],ax,(by repeat' (first | exact rfl | exact trivial | exact Or.inr (Or.inl ⟨_,rfl⟩) | exact Or.inr ⟨_,rfl⟩ | exact Or.inl ⟨rfl,rfl⟩ | exact Or.inl rfl | refine Or.inr ⟨_,_,rfl,Nat.zero_le _,rfl,?_⟩ | refine ⟨_,_,rfl,?_,?_⟩ | refine ⟨_,rfl,?_⟩ | exact UD _ _ _ _ | exact ⟨nL rfl,rfl⟩ | exact congrArg (fun z=>DV.v (.int .i64 z)) hw | refine Or.inr (Or.inr (Or.inr ⟨_,_,rfl,?_⟩)) | exact Or.inl rfl | refine Or.inr ?_)),rfl,rfl⟩
 have hf:(wrong (.mk h ps) 1 0).1.1=0:=sU hf;rw [ah (by rw [hf];simp)] at hF;have hw:IntKind.i64.wrap (m + ((Ty.mk h ps).cnt:Int))=m + ((Ty.mk h ps).cnt:Int):=wrap64 (by omega) (by omega);refine dS ?_;refine cD Kc hc ?_;refine br ?_ ?_<;>intro hg
 ·have hg:512 < m + ((Ty.mk h ps).cnt:Int):=sV hw hg;rw [zIfP hg] at hF;subst hF;exact ⟨Ft.d _,[bC ⟨ae,order,types,.mk rh rp⟩ (.pt lc 0) (.loc 1 0) (m + (Ty.mk h ps).cnt),pc],ax,(VW UD hw),rfl,rfl⟩
 ·have hg:¬ 512 < m + ((Ty.mk h ps).cnt:Int):=sV hw hg;rw [ah hg] at hF;subst hF;exact ⟨Ft.d _,[bC ⟨ae,order,types,.mk rh rp⟩ (.pt lc 0) (.loc 1 0) (m + (Ty.mk h ps).cnt),pc],ax,(VW UD hw),rfl,rfl⟩
def eaR (z:Ty):List (Wd × Ty)->Int->Ft × Int
 | [],m=>bF z m
 | x :: r,m=>if (bF x.2 m).1.1≠0 then bF x.2 m else eaR z r (bF x.2 m).2
theorem GQ {z:Ty} {l:List (Wd × Ty)} {e:Nat} {m:Int} {x:Wd × Ty} (h:l[e]? = some x):eaR z (l.drop e) m=if (bF x.2 m).1.1≠0 then bF x.2 m else eaR z (l.drop (e + 1)) (bF x.2 m).2:=by
 rw [drop_cons h,eaR]
theorem lg {t:Ty} {m:Int} (h:(bF t m).1.1=0):(bF t m).2=m + t.cnt/\(bF t m).2<=512/\(wrong t 1 0).1.1=0/\(bF t m).1=(0,0):=by grind [bF]
abbrev Ao (s:Sch) (aA:List Nat) (lc:List DV):List DV:=pC s aA (.pt lc 0) (.v (.slice none 0 0)) (.v (.int .i64 0)) (.v (.slice none 0 0))
abbrev vJ (s:Sch) (lc pc:List DV) (m:Int) (types:List (Wd × Ty)) (e:Nat):St:=
 ⟨[aE 0 0,(1,⟨[],.fn 64 [.loc 0 0] []⟩),aE 4 2,aT 12 11 (dNms types),al 13 ((dNms types).length),al 14 e],
  [bC s (.pt lc 0) (.loc 1 0) m,pc,[.v (.int .i64 0),.v (.int .i64 0)]],[]⟩
theorem Ap (s:Sch) (lc:List DV) (aA:List Nat) (m:Int) (mv:0<=m) (iu:m<=512) (hl:s.types.length<=1099511627776) (bI:∀ t,(t=s.root∨∃ x∈s.types,t=x.2)->t.wt<=1099511627776) :
  Ev prog 63 [.loc 0 0,.fn 64 [.loc 0 0] []] [bC s (.pt lc 0) (.loc 1 0) m,Ao s aA lc] [] (GP s (.pt lc 0) (Ao s aA lc) (eaR s.root s.types m)):=by
 have hN:=cK s.types;have hR:∀ (m':Int),0<=m' -> m' <= 512->∀ t,(t=s.root∨∃ x∈s.types,t=x.2)->_:=fun m' h0 h1 t ht=>yi s lc (Ao s aA lc) m' h0 (by omega) t (bI t ht) (fun bx N n0 m0=>ax);obtain ⟨ae,order,types,⟨rh,rp⟩⟩:=s;simp only at hl hR hN bI;refine eG 34 [.cell 4 26] func63 rfl ntmps63 rfl fun _ _ _ _=>?_;generalize hG:eaR (.mk rh rp) types m=G;have UC:G=eaR (.mk rh rp) (types.drop 0) m:=by rw [List.drop_zero,hG]
 refine aX (fun j st=>∃ (e:Nat) (m':Int),st=vJ ⟨ae,order,types,.mk rh rp⟩ lc (Ao ⟨ae,order,types,.mk rh rp⟩ aA lc) m' types e/\e<=types.length/\0<=m' /\ m' <= 512/\G=eaR (.mk rh rp) (types.drop e) m' /\ j=types.length - e) types.length
  (vJ ⟨ae,order,types,.mk rh rp⟩ lc (Ao ⟨ae,order,types,.mk rh rp⟩ aA lc) m types 0) (ep 3 (by repeat' (first | exact rfl | exact au rfl | exact rfl | refine ⟨_,_,rfl,?_,?_⟩)) (by repeat' (first | exact trivial | exact au rfl | exact rfl | refine ⟨⟨_,rfl,?_⟩,?_⟩))) ⟨0,m,rfl,by omega,mv,iu,UC,by omega⟩ ?_
 rintro j st ⟨e,m',rfl,he,vq,xJ,aD,rfl⟩;refine br ?_ ?_<;>intro hL
 ·have aq:e < types.length:=by have:=hL;simp [hN] at this;exact this
  obtain ⟨x,hx⟩:=gX aq;have hp:=hR m' vq xJ x.2 (.inr ⟨x,mG hx,rfl⟩);rw [GQ hx] at aD;obtain ⟨xw,⟨xh,xp⟩⟩:=x;refine iX (dNms_get hx) ?_;refine ay 2 0 OR rfl rfl rfl aO aO hp (fun r os' tk' hΦ h1 h2=>?_);obtain ⟨rfl,rfl⟩:=hΦ;have h2:=List.eq_nil_of_length_eq_zero h2;subst h2;refine br ?_ ?_<;>intro hf
  ·have hf:(bF (.mk xh xp) m').1.1≠0:=sU hf;rw [zIfP hf] at aD;subst aD;exact ⟨Ft.d _,[bC ⟨ae,order,types,.mk rh rp⟩ (.pt lc 0) (.loc 1 0) (bF (.mk xh xp) m').2,Ao ⟨ae,order,types,.mk rh rp⟩ aA lc],ax,aO,rfl,rfl⟩
  ·have hf:(bF (.mk xh xp) m').1.1=0:=sU hf;rw [ah (by rw [hf];simp)] at aD;obtain ⟨g1,g2,_,_⟩:=lg hf;exact ⟨vJ ⟨ae,order,types,.mk rh rp⟩ lc (Ao ⟨ae,order,types,.mk rh rp⟩ aA lc) (bF (.mk xh xp) m').2 types (e + 1),(ep 3 (u7 (aS aq (by omega))) (c8 (aS aq (by omega)))),types.length - (e + 1),by omega,e + 1,_,rfl,by omega,by omega,g2,aD,rfl⟩
 ·have hge:e=types.length:=sW hN hL;subst hge;rw [List.drop_length,eaR] at aD;refine ay 2 0 OR rfl rfl rfl aO aO (hR m' vq xJ (.mk rh rp) (.inl rfl)) (fun r os' tk' hΦ h1 h2=>?_);obtain ⟨rfl,rfl⟩:=hΦ;have h2:=List.eq_nil_of_length_eq_zero h2;subst h2;subst aD;exact ⟨Ft.d _,[bC ⟨ae,order,types,.mk rh rp⟩ (.pt lc 0) (.loc 1 0) (bF (.mk rh rp) m').2,Ao ⟨ae,order,types,.mk rh rp⟩ aA lc],ax,aO,rfl,rfl⟩
def dw (s:Sch):Ft:=if 64 < s.types.length then (8,MB (pK s) 64) else enumL (pK s) 0 (pK s)
def Jk (s:Sch) (lc:List DV) (r:DV) (os:List (List DV)) (_:List TkE):Prop:=
 r=(dw s).d/\((dw s).1=0->∃ aA,fl (tL s) aA/\aA.length<=s.types.length/\os=[bC s (.pt lc 0) (.loc 1 0) 0,Ao s aA lc])
abbrev GR (s:Sch) (lc:List DV) (n e:Nat):St:=
 ⟨[aE 0 0,aE 2 2,(3,⟨[],.sl 1 (dB (ap ((pK s).take e))) (some 0)⟩),aT 27 11 (dNms s.types),al 28 ((dNms s.types).length),al 29 e],
  [bC s (.pt lc 0) (.loc 1 0) 0,[.pt lc 0,.v (.slice none 0 0),.v (.int .i64 0),.v (.pointer none),.v (.slice none 0 0)],[.v (.int .i64 0),.v (.int .i64 0)]],[⟨n,9,1,none⟩]⟩
theorem vK (s:Sch) (lc:List DV) (hs:nmsWt s.types<=1099511627776) :
  Ev prog 62 [.loc 0 0] [bC s (.pt lc 0) (.loc 1 0) 0,[.pt lc 0,.v (.slice none 0 0),.v (.int .i64 0),.v (.pointer none),.v (.slice none 0 0)]] [] (Jk s lc):=by
 have hN:=cK s.types;have fh:=gP s.types;have ln:=B4 s;have hF:=dw.eq_1 s;have gF:∀ {e:Nat} {x:Wd × Ty},s.types[e]? = some x->(pK s)[e]? = some x.1:=fun h=>by simp [pK,h]
 have cE:=q8 (tL s) (by rw [iN];omega);have Qx:tL s=ap (pK s):=rfl
 have hw:∀ x∈s.types,x.1.s.size<=1099511627776:=fun x hx=>by
  have:=eO hx;simp only [Wd.wt] at this;omega
 obtain ⟨ae,order,types,⟨rh,rp⟩⟩:=s;simp only at hs hN fh ln gF hw hF;generalize hQ:pK ⟨ae,order,types,.mk rh rp⟩=Q at ln hF gF Qx;refine eG 67 [.cell 2 26] func62 rfl ntmps62 rfl fun _ _ _ _=>?_;refine br ?_ ?_<;>intro h
 ·have h:64 < types.length:=by simp [hN] at h;omega
  obtain ⟨x,hx⟩:∃ x,types[64]? = some x:=⟨_,gE h⟩;have MF:=gF hx;rw [zIfP h,iF MF] at hF;obtain ⟨xw,⟨xh,xp⟩⟩:=x;refine iX (dNms_get hx) ?_;refine ⟨Ft.d (8,xw.a),[bC ⟨ae,order,types,.mk rh rp⟩ (.pt lc 0) (.loc 1 0) 0,[.pt lc 0,.v (.slice none 0 0),.v (.int .i64 0),.v (.pointer none),.v (.slice none 0 0)]],ax,aO,by rw [hF],fun h0=>by rw [hF] at h0;simp at h0⟩
 have h:¬ 64 < types.length:=by simp [hN] at h;omega
 rw [ah h] at hF;refine lI (fun j st=>∃ e:Nat,st=GR ⟨ae,order,types,.mk rh rp⟩ lc e e/\e<=types.length/\(ap (Q.take e)).Nodup/\enumL Q 0 Q=enumL Q e (Q.drop e)/\j=types.length - e) ⟨0,rfl,by omega,by simp [ap],rfl,rfl⟩ (eT 3 ⟨0,9,1,none⟩ rfl rfl rfl zo rfl rfl pD) ?_;rintro j st ⟨e,rfl,he,hnd,aD,rfl⟩;rw [aD] at hF;refine br ?_ ?_<;>intro hL
 ·have aq:e < types.length:=by have:=hL;simp [hN] at this;exact this
  obtain ⟨x,hx⟩:=gX aq;have KC:=hw x (mG hx);have hq:=gF hx;have kZ:=gO hq;have hst:=lY hq;have y4:=jQ hq hnd;have GD:=lR (ap (Q.take (e + 1))) (by simp [ap];omega);rw [<- kZ] at GD;obtain ⟨xw,⟨xh,xp⟩⟩:=x;simp only at KC hq kZ hst y4 GD;refine iX (dNms_get hx) ?_;rw [hQ];refine ⟨by simp [bP,ap];omega,⟨by simp [bP,ap,maxLen];omega,by simp [bP,ap];omega⟩,?_⟩;refine cP CI (fA xw.s (by omega)) ?_;refine br ?_ ?_<;>intro B5
  ·have B5:aY xw.s=false:=sU B5;have hf:az Q e xw=9:=by simp [az,B5]
   rw [hst,hf,zIfP (by decide)] at hF;refine ⟨Ft.d (9,xw.a),[bC ⟨ae,order,types,.mk rh rp⟩ (.pt lc 0) (.loc 1 0) 0,[.pt lc 0,.v (.slice none 0 0),.v (.int .i64 0),.v (.pointer none),.v (.slice none 0 0)]],ax,aO,by rw [hF],fun h0=>by rw [hF] at h0;simp at h0⟩
  ·have B5:aY xw.s=true:=sU B5;refine gp Fs rfl GD ax (fun r hr=>?_);obtain ⟨z,rfl,hz⟩:=hr;refine br ?_ ?_<;>intro h2
   ·have h2:0<=z:=sU h2;have hd:bR (Q.take e) xw.s=true:=by grind
    have hf:az Q e xw=10:=by simp [az,B5,hd]
    rw [hst,hf,zIfP (by decide)] at hF;refine ⟨Ft.d (10,xw.a),[bC ⟨ae,order,types,.mk rh rp⟩ (.pt lc 0) (.loc 1 0) 0,[.pt lc 0,.v (.slice none 0 0),.v (.int .i64 0),.v (.pointer none),.v (.slice none 0 0)]],ax,aO,by rw [hF],fun h0=>by rw [hF] at h0;simp at h0⟩
   ·have h2:¬ 0<=z:=sU h2;have sL:(ap (Q.take (e + 1))).Nodup:=Classical.byContradiction fun hn=>h2 (hz.2 hn);have hf:az Q e xw=0:=by simp [az,B5,y4.1 sL]
    rw [hf,ah (by simp)] at hst;have Qy:dB (ap (Q.take e)) ++ [[DV.v (.string xw.s)]]=dB (ap ((pK ⟨ae,order,types,.mk rh rp⟩).take (e + 1))):=by rw [hQ];exact kZ
    refine ⟨GR ⟨ae,order,types,.mk rh rp⟩ lc (e + 1) (e + 1),(ep 3 (zp (aS aq (by omega)) Qy) (iv (aS aq (by omega)) Qy)),types.length - (e + 1),by omega,e + 1,rfl,by omega,sL,aD.trans hst,rfl⟩
 ·have hge:e=types.length:=sW hN hL;have h0:enumL Q e (Q.drop e)=(0,0):=by rw [hge,<- ln,List.drop_length];all_goals rfl
  rw [h0] at hF;have ht:Q.take e=Q:=by rw [hge,<- ln,List.take_length]
  have UE:ap ((pK ⟨ae,order,types,.mk rh rp⟩).take e)=tL ⟨ae,order,types,.mk rh rp⟩:=by rw [hQ,ht,Qx]
  rw [<- UE] at cE;refine dS ?_;refine mP Fq rfl cE ax (fun zw hr=>?_);obtain ⟨aA,hT,jr,rfl⟩:=hr;rw [UE] at hT jr;have RX:DV.pt (cd (ap ((pK ⟨ae,order,types,.mk rh rp⟩).take e)) aA) 0=DV.pt (cd (tL ⟨ae,order,types,.mk rh rp⟩) aA) 0:=congrArg (fun L=>DV.pt (cd L aA) 0) UE;rw [iN] at jr;exact ⟨Ft.d (0,0),[bC ⟨ae,order,types,.mk rh rp⟩ (.pt lc 0) (.loc 1 0) 0,Ao ⟨ae,order,types,.mk rh rp⟩ aA lc],ax,(by repeat' (first | exact rfl | exact trivial | exact Or.inr (Or.inl ⟨_,rfl⟩) | exact Or.inr ⟨_,rfl⟩ | exact Or.inl ⟨rfl,rfl⟩ | exact Or.inl rfl | refine Or.inr ⟨_,_,rfl,Nat.zero_le _,rfl,?_⟩ | refine ⟨_,_,rfl,?_,?_⟩ | refine ⟨_,rfl,?_⟩ | exact ⟨nL rfl,rfl⟩ | exact Or.inl RX | refine Or.inr (Or.inr (Or.inr ⟨_,_,rfl,?_⟩)) | exact Or.inl rfl | refine Or.inr ?_)),by rw [hF],fun _=>⟨aA,hT,jr,rfl⟩⟩
def firstA (s:Sch) (k:Nat):Nat:=((s.types.take k).map fun x=>x.2.nn).sum
theorem kD {s:Sch} {k:Nat} {x:Wd × Ty} (h:s.types[k]? = some x):firstA s (k + 1)=firstA s k + x.2.nn:=by
 unfold firstA;rw [List.take_add_one,h];simp
theorem uq (s:Sch):∀ k,firstA s k<=nmsWt s.types:=by
 intro k;unfold firstA;generalize s.types=l
 induction l generalizing k with
 | nil=>simp
 | cons x r ih=>
  cases k with
  | zero=>simp
  | succ k=>
   have h1:=ih k;have h2:=x.2.eJ;have h3:=x.2.dq
   grind [nmsWt]
def namedN (s:Sch) (i:Nat):Nat:=firstA s ((endI s (s.types.length + 1) i).getD 0)
def namedL (s:Sch):List Nat:=(List.range s.types.length).map (namedN s)
theorem Qz (n:Nat):(List.replicate n (vL [Value.int .i64 0])).flatten=cZ (List.replicate n 0):=by
 induction n with
 | zero=>rfl
 | succ n ih=>simp only [List.replicate_succ,List.flatten_cons,ih];rfl
theorem p9 {n m:Nat} {tk:List TkE} {l:List DV} {js:List Int} (h:l=cZ js):WeL n m tk l (cZ js):=by rw [h];exact nY js
abbrev MH (s:Sch) (lc pc:List DV) (m:Int) (l:List Int) (cV e:Nat):St:=
 ⟨[aE 0 0,(2,⟨[],.ms 2 1 0 (dNms s.types).length (dNms s.types).length⟩),al 3 cV,aT 18 11 (dNms s.types),al 19 ((dNms s.types).length),al 20 e],
  [bC s (.pt lc 0) (.loc 1 0) m,pc,cZ l],[]⟩
abbrev QA (s:Sch) (aA:List Nat) (lc:List DV) (m:Int) (l:List Int) (n e:Nat):St:=
 ⟨[aE 0 0,(2,⟨[],.ms 2 1 0 (dNms s.types).length (dNms s.types).length⟩),al 40 ((dNms s.types).length),al 41 e],
  [bC s (.pt lc 0) (.loc 1 0) m,pC s aA (.pt lc 0) (.v (.slice none 0 0)) (.v (.int .i64 0)) (.sl 1 (dInts ((namedL s).take e)) (some 0)),cZ l],[⟨n,3,1,none⟩]⟩
def Jl (s:Sch) (aA:List Nat) (lc:List DV) (m:Int) (_:DV) (os:List (List DV)) (_:List TkE):Prop:=
 os=[bC s (.pt lc 0) (.loc 1 0) m,pC s aA (.pt lc 0) (.v (.slice none 0 0)) (.v (.int .i64 0)) (.sl 1 (dInts (namedL s)) none)]
theorem MI {l:List Int} {i:Nat} {z:Int} (h:l[i]? = some z):(cZ l)[i]? = some (DV.v (.int .i64 z)):=by simp [cZ,h]
theorem yj (s:Sch) (lc:List DV) (aA:List Nat) (m:Int) (hT:fl (tL s) aA) (jr:aA.length<=1099511627776) (hl:s.types.length<=64) (hr:∀ x∈s.types,pL s x.2=true) (hs:nmsWt s.types<=1099511627776)
  (hlo:∀ i,i < s.types.length->∃ k,endI s (s.types.length + 1) i=some k) :
  Ev prog 67 [.loc 0 0] [bC s (.pt lc 0) (.loc 1 0) m,Ao s aA lc] [] (Jl s aA lc m):=by
 have hN:=cK s.types
 have Mc:∀ x∈s.types,x.2.wt<=1099511627776:=fun x hx=>by
  have:=eO hx;omega
 have QB:=uq s;have Ns:=fun {k:Nat} {x:Wd × Ty}=>@kD s k x;have fh:(namedL s).length=s.types.length:=by simp [namedL]
 have sR:=fun (e0:DV)=>yh s (.pt lc 0) aA (.pt lc 0) (.v (.slice none 0 0)) (.v (.int .i64 0)) e0 m hT jr hl hr;obtain ⟨ae,order,types,⟨rh,rp⟩⟩:=s;simp only at hl hr hN hs Mc QB Ns fh sR hlo;have hN2:(dNms (⟨ae,order,types,.mk rh rp⟩:Sch).types).length=types.length:=hN;refine eG 66 [] func67 rfl ntmps67 rfl fun _ _ _ _=>?_;refine ⟨⟨rfl,by omega,by omega,by omega⟩,?_⟩
 refine aX (fun j st=>∃ (e:Nat) (l:List Int),st=MH ⟨ae,order,types,.mk rh rp⟩ lc (Ao ⟨ae,order,types,.mk rh rp⟩ aA lc) m l (firstA ⟨ae,order,types,.mk rh rp⟩ e) e/\e<=types.length/\l.length=types.length/\(∀ i:Nat,i < e->l[i]? = some (firstA ⟨ae,order,types,.mk rh rp⟩ i:Int))/\j=types.length - e) types.length
  (MH ⟨ae,order,types,.mk rh rp⟩ lc (Ao ⟨ae,order,types,.mk rh rp⟩ aA lc) m (List.replicate ((dNms types).length:Int).toNat 0) (firstA ⟨ae,order,types,.mk rh rp⟩ 0) 0) (ep 3 (by repeat' (first | exact rfl | exact au rfl | exact p9 (Qz _) | refine ⟨_,_,rfl,?_,?_⟩)) (by repeat' (first | exact trivial | exact au rfl | exact p9 (Qz _) | refine ⟨⟨_,rfl,?_⟩,?_⟩))) ⟨0,_,rfl,by omega,by simp [hN],fun _ h=>by omega,by omega⟩ ?_
 rintro j st ⟨e,l,rfl,he,NI,Ew,rfl⟩;refine br ?_ ?_<;>intro hL
 ·have aq:e < types.length:=by have:=hL;simp [hN] at this;exact this
  obtain ⟨x,hx⟩:=gX aq;have hxw:=Mc x (mG hx);have J0:=Ns hx;have Em:=QB (e + 1);obtain ⟨xw,⟨xh,xp⟩⟩:=x;have hnd:=rT (Ty.mk xh xp).wt (.mk xh xp) (zLeR _) hxw;refine iX (dNms_get hx) ?_;refine ⟨⟨by omega,by omega⟩,?_⟩;refine ⟨by rw [My];omega,?_⟩;refine cP Kd hnd ?_;simp only at J0 Em;have lm:(cZ l).set (0 + (e:Int).toNat * 1) (DV.v (.int .i64 ((firstA ⟨ae,order,types,.mk rh rp⟩ e:Nat):Int)))=cZ (l.set e ((firstA ⟨ae,order,types,.mk rh rp⟩ e:Nat):Int)):=by grind [GF]
  have tO:IntKind.i64.wrap (((firstA ⟨ae,order,types,.mk rh rp⟩ e:Nat):Int) + (Ty.mk xh xp).nn)=((firstA ⟨ae,order,types,.mk rh rp⟩ (e + 1):Nat):Int):=by grind [wrap64]
  refine ⟨MH ⟨ae,order,types,.mk rh rp⟩ lc (Ao ⟨ae,order,types,.mk rh rp⟩ aA lc) m (l.set e ((firstA ⟨ae,order,types,.mk rh rp⟩ e:Nat):Int)) (firstA ⟨ae,order,types,.mk rh rp⟩ (e + 1)) (e + 1),(ep 3 (by repeat' (first | exact rfl | exact au rfl | exact p9 lm | exact aw tO | exact aw (aS aq (by omega)) | refine ⟨_,_,rfl,?_,?_⟩)) (by repeat' (first | exact trivial | exact au rfl | exact p9 lm | exact aw tO | exact aw (aS aq (by omega)) | refine ⟨⟨_,rfl,?_⟩,?_⟩))),types.length - (e + 1),by omega,e + 1,_,rfl,by omega,by rw [List.length_set];exact NI,fun i hi=>?_,rfl⟩;by_cases Ek:i=e
  ·grind
  ·grind
 ·have hge:e=types.length:=sW hN hL;subst hge;refine lJ (fun e=>QA ⟨ae,order,types,.mk rh rp⟩ aA lc m l e e) types.length (eT 3 ⟨0,3,1,none⟩ rfl rfl rfl zo rfl rfl pD) ?_;intro e he;refine br ?_ ?_<;>intro hL
  ·have aq:e < types.length:=by have:=hL;simp [hN] at this;exact this
   obtain ⟨k,hk⟩:=hlo e aq;have xd:=(p8 hk).1;simp only at xd;have hE:=sR (.sl 1 (dInts ((namedL ⟨ae,order,types,.mk rh rp⟩).take e)) none) e aq;rw [hk] at hE;have hnn:namedN ⟨ae,order,types,.mk rh rp⟩ e=firstA ⟨ae,order,types,.mk rh rp⟩ k:=by unfold namedN;rw [hk];all_goals rfl
   have gF:(namedL ⟨ae,order,types,.mk rh rp⟩)[e]? = some (firstA ⟨ae,order,types,.mk rh rp⟩ k):=by grind [namedL]
   have kZ:dInts ((namedL ⟨ae,order,types,.mk rh rp⟩).take e) ++ [[DV.v (.int .i64 ((firstA ⟨ae,order,types,.mk rh rp⟩ k:Nat):Int))]]=dInts ((namedL ⟨ae,order,types,.mk rh rp⟩).take (e + 1)):=by
    rw [List.take_add_one,gF];simp [dInts]
   refine dS ?_;refine mV en134 hE ax rfl rfl ?_;refine ⟨⟨by simp only [oz];omega,by simp only [oz];omega⟩,?_⟩;have Jm:(cZ l)[0 + (oz (some k)).toNat * 1]? = some (DV.v (.int .i64 ((firstA ⟨ae,order,types,.mk rh rp⟩ k:Nat):Int))):=by grind [oz,MI]
   refine ⟨_,Jm,?_⟩;refine ⟨by simp [aZ];omega,⟨by simp [aZ,maxLen];omega,by simp [aZ];omega⟩,?_⟩;exact rE ⟨_,by omega,e + 1,rfl,by omega,rfl⟩ (ep 3 (zp (aS aq (by omega)) kZ) (iv (aS aq (by omega)) kZ))
  ·have hge:e=types.length:=sW hN hL;subst hge;have ht:(namedL ⟨ae,order,types,.mk rh rp⟩).take types.length=namedL ⟨ae,order,types,.mk rh rp⟩:=by rw [<- fh,List.take_length]
   rw [ht];exact ⟨.bW [],[bC ⟨ae,order,types,.mk rh rp⟩ (.pt lc 0) (.loc 1 0) m,pC ⟨ae,order,types,.mk rh rp⟩ aA (.pt lc 0) (.v (.slice none 0 0)) (.v (.int .i64 0)) (.sl 1 (dInts (namedL ⟨ae,order,types,.mk rh rp⟩)) none)],ax,aO,rfl⟩
structure Ed where
 name:ByteArray
 bare:Bool
 cV:Int
 to:Int
 label:Int
 wide:Int
 ck:Int
 cn:Int
 seen:Int
 ca:Int
structure Nd where
 ai:Int
 cV:Int
 lo:Int
 hi:Int
 most:Int
 af:List ByteArray
 aW:List Ed
def Dz (e:Ed):List DV:=[.v (.string e.name),.v (.bool e.bare),.v (.int .i64 e.cV),.v (.int .i64 e.to),.v (.int .i64 e.label),.v (.int .i64 e.wide),.v (.int .i64 e.ck),.v (.int .i64 e.cn),.v (.int .i64 e.seen),.v (.int .i64 e.ca)]
def iw (l:List Ed):List (List DV):=l.map Dz
def wz (n:Nd):List DV:=[.v (.int .i64 n.ai),.v (.int .i64 n.cV),.v (.int .i64 n.lo),.v (.int .i64 n.hi),.v (.int .i64 n.most),.sl 1 (dB n.af) none,.sl 10 (iw n.aW) none]
def bG (l:List Nd):List (List DV):=l.map wz
def je (w:Int):Int:=if w=0 then 3 else w
def rW (lev:List Wd->Int) (p:Ph) (to:Int):Ed:=⟨p.name.s,p.bare,p.name.a,to,lev p.label,je p.wide,p.ck,p.cn,lev p.cl,p.ca⟩
def NJ (s:Sch) (name:ByteArray):Int:=(namedN s ((cf (tL s) name).getD 0):Int)
def l8 (s:Sch) (t:Ty) (k:Nat):Int:=if t.h.ai=9 then NJ s t.h.name.s else (k:Int)
def qa (s:Sch) (p:Ph) (u:Ty) (k:Nat):Int:=if p.bare then -1 else l8 s u k
mutual
def ndsT (lev:List Wd->Int) (s:Sch):Ty->Nat->List Nd
 | .mk h ps,k=>if h.ai=9 then [] else ⟨h.ai,h.cV,h.lo,h.hi,h.most,ap h.af,edsP lev s ps (k + 1)⟩ :: rX lev s ps (k + 1)
def edsP (lev:List Wd->Int) (s:Sch):Pts->Nat->List Ed
 | .nil,_=>[]
 | .cons p u r,k=>rW lev p (qa s p u k) :: edsP lev s r (k + if p.bare then 0 else u.nn)
def rX (lev:List Wd->Int) (s:Sch):Pts->Nat->List Nd
 | .nil,_=>[]
 | .cons p u r,k=>(if p.bare then [] else ndsT lev s u k) ++ rX lev s r (k + if p.bare then 0 else u.nn)
end
mutual
theorem im (lev:List Wd->Int) (s:Sch):∀ (t:Ty) (k:Nat),(ndsT lev s t k).length=t.nn
 | .mk h ps,k=>by
  simp only [ndsT,Ty.nn];split
  ·rfl
  ·rw [List.length_cons,rY lev s ps];omega
theorem rY (lev:List Wd->Int) (s:Sch):∀ (ps:Pts) (k:Nat),(rX lev s ps k).length=ps.nn
 | .nil,k=>rfl
 | .cons p u r,k=>by
  simp only [rX,Pts.nn,List.length_append,rY lev s r];split
  ·rfl
  ·rw [im lev s u]
end
abbrev Ex (s:Sch) (aA:List Nat) (lc:List DV) (n:Nat):List DV:=pC s aA (.pt lc 0) (.sl 0 (List.replicate n []) (some 0)) (.v (.int .i64 0)) (.sl 1 (dInts (namedL s)) none)
abbrev Aq (n:Nat) (base:List DV):TkE:=⟨n,82,7,some base⟩
def KS (s:Sch) (aA:List Nat) (lc:List DV) (m:Int) (n:Nat) (base:List DV) (y:DV) (ur:List Nd) (r:DV) (os:List (List DV)) (tk:List TkE):Prop:=
 r=y/\os=[bC s (.pt lc 0) (.loc 1 0) m,Ex s aA lc (n + ur.length)]/\tk=[Aq (n + ur.length) (base ++ (bG ur).flatten)]
def GS (lev:List Wd->Int) (s:Sch) (aA:List Nat) (lc:List DV) (m:Int) (t:Ty):Prop:=
 ∀ (n:Nat) (base:List DV),n + t.nn<=1099511627776->base.length=n * 7 ->
  Ev prog 68 [.loc 0 0,.agg (cX t)] [bC s (.pt lc 0) (.loc 1 0) m,Ex s aA lc n] [Aq n base] (KS s aA lc m n base (.v (.int .i64 (l8 s t n))) (ndsT lev s t n))
theorem DA {X:Lx} (hX:X.OK) (s:Sch) (aA:List Nat) (m:Int) (p:Ph) (u:Ty) (hp:p.wt<=1099511627776) (jf:p.bare=false->GS X.lev s aA (fJ X.af (cd X.af X.aA) X.rows X.js) m u)
  (n:Nat) (base:List DV) (hb:p.bare=false->n + u.nn<=1099511627776) (hbl:base.length=n * 7) :
  Ev prog 136 [.loc 0 0,.agg (zB p (cX u))] [bC s (.pt (fJ X.af (cd X.af X.aA) X.rows X.js) 0) (.loc 1 0) m,Ex s aA (fJ X.af (cd X.af X.aA) X.rows X.js) n] [Aq n base]
   (KS s aA (fJ X.af (cd X.af X.aA) X.rows X.js) m n base (.agg (Dz (rW X.lev p (qa s p u n)))) (if p.bare then [] else ndsT X.lev s u n)):=by
 have zI:wdsWt p.label + wdsWt p.cl<=p.wt:=by simp only [Ph.wt];omega
 have Eb:X.pd = .pt (fJ X.af (cd X.af X.aA) X.rows X.js) 0:=rfl;have wu:=fun pc=>rU hX s pc m p.label (by omega);have H0:=fun pc=>rU hX s pc m p.cl (by omega);rw [Eb] at wu H0;have hE:=fun to=>rW.eq_1 X.lev p to;have oD:=qa.eq_1 s p u n;generalize fJ X.af (cd X.af X.aA) X.rows X.js=lc at wu H0 jf ⊢;obtain ⟨ae,order,types,⟨rh,rp⟩⟩:=s;obtain ⟨uh,us⟩:=u;refine eG 52 [.cell 4 90] func136 rfl ntmps136 rfl fun _ _ _ _=>?_;have KT:=wu [.pt lc 0,.sl 0 (List.replicate n []) none,.v (.int .i64 0),.pt (cd (tL ⟨ae,order,types,.mk rh rp⟩) aA) 0,.sl 1 (dInts (namedL ⟨ae,order,types,.mk rh rp⟩)) none];have KU:=H0 [.pt lc 0,.sl 0 (List.replicate n []) none,.v (.int .i64 0),.pt (cd (tL ⟨ae,order,types,.mk rh rp⟩) aA) 0,.sl 1 (dInts (namedL ⟨ae,order,types,.mk rh rp⟩)) none];apply kU (fun _=>false) 11 15 [0,1,2,3,4,5,6,7,8,9,10,11,12,13,14,15,16] [0,1,2,3,4,5,6,7,8,9,10,15,11,12,13,14,16] 4 4 mo (by decide +kernel)
 ·refine mV BH KT ax rfl rfl ?_;refine (?_:@Eq St _ _);exact rfl
 ·refine mV BH KT ax rfl rfl ?_;refine (⟨rfl,rfl,?_⟩:_/\_/\_)
  repeat' (first | exact trivial | refine ⟨rfl,?_⟩)
 ·rfl
 refine br ?_ ?_<;>intro hw
 ·have hw:p.wide=0:=sU hw;refine fM [4] (fun _=>false) mo (by decide +kernel) ?_;refine mV BH KU ax rfl rfl ?_;refine br ?_ ?_<;>intro hB
  ·have hB:p.bare=false:=sU hB;refine ay 2 1 IG rfl rfl rfl aO aO (jf hB n base (hb hB) hbl) (fun r os' tk' hΦ h1 h2=>?_);obtain ⟨rfl,rfl,rfl⟩:=hΦ;refine ⟨.agg (Dz ⟨p.name.s,p.bare,p.name.a,l8 ⟨ae,order,types,.mk rh rp⟩ (.mk uh us) n,X.lev p.label,3,p.ck,p.cn,X.lev p.cl,p.ca⟩),[bC ⟨ae,order,types,.mk rh rp⟩ (.pt lc 0) (.loc 1 0) m,Ex ⟨ae,order,types,.mk rh rp⟩ aA lc (n + (ndsT X.lev ⟨ae,order,types,.mk rh rp⟩ (.mk uh us) n).length)],ax,aO,?_,?_,?_⟩
   ·simp [hE,qa,hB,je,hw]
   ·simp [hB]
   ·simp [hB]
  ·have hB:p.bare=true:=sU hB;refine ⟨.agg (Dz ⟨p.name.s,p.bare,p.name.a,-1,X.lev p.label,3,p.ck,p.cn,X.lev p.cl,p.ca⟩),[bC ⟨ae,order,types,.mk rh rp⟩ (.pt lc 0) (.loc 1 0) m,Ex ⟨ae,order,types,.mk rh rp⟩ aA lc n],ax,aO,?_,?_,?_⟩
   ·simp [hE,qa,hB,je,hw]
   ·simp [hB]
   ·simp [hB,bG]
 ·have hw:¬ p.wide=0:=sU hw;refine fM [4] (fun _=>false) mo (by decide +kernel) ?_;refine mV BH KU ax rfl rfl ?_;refine br ?_ ?_<;>intro hB
  ·have hB:p.bare=false:=sU hB;refine ay 2 1 IG rfl rfl rfl aO aO (jf hB n base (hb hB) hbl) (fun r os' tk' hΦ h1 h2=>?_);obtain ⟨rfl,rfl,rfl⟩:=hΦ;refine ⟨.agg (Dz ⟨p.name.s,p.bare,p.name.a,l8 ⟨ae,order,types,.mk rh rp⟩ (.mk uh us) n,X.lev p.label,p.wide,p.ck,p.cn,X.lev p.cl,p.ca⟩),[bC ⟨ae,order,types,.mk rh rp⟩ (.pt lc 0) (.loc 1 0) m,Ex ⟨ae,order,types,.mk rh rp⟩ aA lc (n + (ndsT X.lev ⟨ae,order,types,.mk rh rp⟩ (.mk uh us) n).length)],ax,aO,?_,?_,?_⟩
   ·simp [hE,qa,hB,je,hw]
   ·simp [hB]
   ·simp [hB]
  ·have hB:p.bare=true:=sU hB;refine ⟨.agg (Dz ⟨p.name.s,p.bare,p.name.a,-1,X.lev p.label,p.wide,p.ck,p.cn,X.lev p.cl,p.ca⟩),[bC ⟨ae,order,types,.mk rh rp⟩ (.pt lc 0) (.loc 1 0) m,Ex ⟨ae,order,types,.mk rh rp⟩ aA lc n],ax,aO,?_,?_,?_⟩
   ·simp [hE,qa,hB,je,hw]
   ·simp [hB]
   ·simp [hB,bG]
def Su (h:Hd):List DV:=[.v (.int .i64 h.ai),.v (.int .i64 h.cV),.v (.int .i64 h.lo),.v (.int .i64 h.hi),.v (.int .i64 h.most),.sl 1 (dB (ap h.af)) none,.v (.slice none 0 0)]
theorem Jn {h:Hd} {base R:List DV} {n:Nat} {x:DV} (hb:base.length=n * 7):(base ++ (Su h ++ R)).set (n * 7 + 6) x=base ++ ([.v (.int .i64 h.ai),.v (.int .i64 h.cV),.v (.int .i64 h.lo),.v (.int .i64 h.hi),.v (.int .i64 h.most),.sl 1 (dB (ap h.af)) none,x] ++ R):=by
 rw [List.set_append_right _ _ (by omega),hb,Nat.add_sub_cancel_left];rfl
theorem uu (l:List Ed) (e:Ed):iw l ++ [Dz e]=iw (l ++ [e]):=by simp [iw]
theorem cM (l:List Ed):(iw l).length=l.length:=by simp [iw]
theorem nh (lev:List Wd->Int) (s:Sch):∀ (ps:Pts) (k:Nat),(edsP lev s ps k).length=ps.len
 | .nil,_=>rfl
 | .cons p u r,k=>by simp [edsP,Pts.len,nh lev s r]
abbrev QC (s:Sch) (aA:List Nat) (lc:List DV) (m:Int) (n:Nat) (base:List DV) (h:Hd) (ps:Pts) (q e:Nat):St:=
 ⟨[aE 0 0,aE 3 2,al 7 n,aE 8 3,aT 61 2 (bm h.af),al 62 ((bm h.af).length),al 63 e],
  [bC s (.pt lc 0) (.loc 1 0) m,Ex s aA lc n,cX (.mk h ps),[.v (.int .i64 h.ai),.v (.int .i64 h.cV),.v (.int .i64 h.lo),.v (.int .i64 h.hi),.v (.int .i64 h.most),.sl 1 (dB (ap (h.af.take e))) (some 1),.v (.slice none 0 0)]],
  [Aq n base,⟨q,9,1,none⟩]⟩
abbrev GU (s:Sch) (aA:List Nat) (lc:List DV) (m:Int) (n:Nat) (h:Hd) (ps:Pts) (n':Nat) (ni:List DV) (Es:List Ed) (q1 q2 e:Nat):St:=
 ⟨[aE 0 0,aE 3 2,al 7 n,(11,⟨[],.sl 10 (iw Es) (some 2)⟩),aT 92 18 (dY ps),al 93 ((dY ps).length),al 94 e],
  [bC s (.pt lc 0) (.loc 1 0) m,Ex s aA lc n',cX (.mk h ps)],
  [Aq n' ni,⟨q1,9,1,none⟩,⟨q2,90,10,none⟩]⟩
theorem kE {X:Lx} {L:List ByteArray} {h:Hd} {ps:Pts} (hk:(knT X L (.mk h ps)).1=0):(h.ai=9->cf L h.name.s≠none)/\(knP X L ps).1=0:=by grind [knT]
theorem oE {X:Lx} {L:List ByteArray} {p:Ph} {u:Ty} {r:Pts} (hk:(knP X L (.cons p u r)).1=0):(p.bare=false->(knT X L u).1=0)/\(knP X L r).1=0:=by grind [knP]
theorem uv {X:Lx} (hX:X.OK) (s:Sch) (aA:List Nat) (m:Int) (hT:fl (tL s) aA) (jr:aA.length<=1099511627776):∀ (k:Nat) (t:Ty),t.wt<=k->t.wt<=1099511627776->(knT X (tL s) t).1=0 ->
  GS X.lev s aA (fJ X.af (cd X.af X.aA) X.rows X.js) m t
 | 0,t,hn,_,_=>by have:=t.gq;omega
 | k + 1,.mk h ps,hn,bI,E5=>by
  have ih:=uv hX s aA m hT jr k;intro n base hnb hbl;obtain ⟨UF,MJ⟩:=kE E5;have nj:=fun (p:Ph) (u:Ty)=>DA hX s aA m p u;generalize fJ X.af (cd X.af X.aA) X.rows X.js=lc at ih nj ⊢;simp only [Ty.wt,Hd.wt] at hn bI;have mj:=ps.dX;have fh:=bf h.af;have hf:=fI (tL s) aA h.name.s hT jr;have ln:=iN s;have hnmL:(namedL s).length=s.types.length:=by simp [namedL]
  have Jo:l8 s (.mk h ps) n=if h.ai=9 then NJ s h.name.s else (n:Int):=rfl
  have DB:ndsT X.lev s (.mk h ps) n=if h.ai=9 then [] else ⟨h.ai,h.cV,h.lo,h.hi,h.most,ap h.af,edsP X.lev s ps (n + 1)⟩ :: rX X.lev s ps (n + 1):=by rw [ndsT]
  have hnn:(Ty.mk h ps).nn=if h.ai=9 then 0 else 1 + ps.nn:=by rw [Ty.nn]
  generalize hS:s=S at *;subst hS;obtain ⟨ae,order,types,⟨rh,rp⟩⟩:=s;refine eG 117 [.tmp 4] func68 rfl ntmps68 rfl fun _ _ _ _=>?_;refine br ?_ ?_<;>intro h9
  ·have h9:h.ai=9:=sU h9;obtain ⟨i,hi⟩:=Option.ne_none_iff_exists'.1 (UF h9);have El:=(cx hi).1;rw [hi] at hf;rw [zIfP h9] at Jo DB;have gF:(namedL ⟨ae,order,types,.mk rh rp⟩)[i]? = some (namedN ⟨ae,order,types,.mk rh rp⟩ i):=by grind [namedL]
   refine dI ?_;refine cD kk hf ?_;refine iX (bX gF) ?_;refine ⟨.v (.int .i64 (namedN ⟨ae,order,types,.mk rh rp⟩ i:Nat)),[bC ⟨ae,order,types,.mk rh rp⟩ (.pt lc 0) (.loc 1 0) m,Ex ⟨ae,order,types,.mk rh rp⟩ aA lc n],ax,aO,?_,?_,?_⟩
   ·rw [Jo,NJ,hi];rfl
   ·rw [DB];rfl
   ·rw [DB];simp [bG]
  have h9:¬ h.ai=9:=sU h9;rw [ah h9] at Jo DB hnn;have ir:(List.replicate n ([]:List DV)).length=n:=List.length_replicate;refine lJ (fun e=>QC ⟨ae,order,types,.mk rh rp⟩ aA lc m n base h ps e e) h.af.length (eT 4 ⟨0,9,1,none⟩ rfl rfl rfl (u7 ir) rfl rfl (c8 ir)) ?_;intro e he;refine br ?_ ?_<;>intro hL
  ·have aq:e < h.af.length:=by simpa [ak] using hL
   obtain ⟨w,hw⟩:=gX aq;have kZ:=gO hw;refine ⟨gl w,⟨by omega,aH hw⟩,?_⟩;refine ⟨by simp [bP,ap];omega,⟨by simp [bP,ap,maxLen];omega,by simp [bP,ap];omega⟩,?_⟩;exact rE ⟨_,by omega,e + 1,rfl,by omega,rfl⟩ (ep 4 (zp (aS aq (by omega)) kZ) (iv (aS aq (by omega)) kZ))
  have hge:e=h.af.length:=by have:=hL;simp [ak] at this;omega
  subst hge;rw [List.take_length];refine dS ?_;refine ⟨⟨⟨ir,by simp⟩,by simp [maxLen];omega,by simp;omega⟩,?_⟩
  refine aX (fun j st=>∃ (e n':Nat) (ni:List DV) (Es:List Ed) (K:List Nd),st=GU ⟨ae,order,types,.mk rh rp⟩ aA lc m n h ps n' ni Es h.af.length e e/\e<=ps.len/\n'=n + 1 + K.length/\ni=base ++ (Su h ++ (bG K).flatten)/\Es.length=e /\
    K ++ rX X.lev ⟨ae,order,types,.mk rh rp⟩ (ps.drop e) (n + 1 + K.length)=rX X.lev ⟨ae,order,types,.mk rh rp⟩ ps (n + 1)/\Es ++ edsP X.lev ⟨ae,order,types,.mk rh rp⟩ (ps.drop e) (n + 1 + K.length)=edsP X.lev ⟨ae,order,types,.mk rh rp⟩ ps (n + 1)/\K.length + (ps.drop e).nn=ps.nn/\(knP X (tL ⟨ae,order,types,.mk rh rp⟩) (ps.drop e)).1=0/\j=ps.len - e) ps.len
   (GU ⟨ae,order,types,.mk rh rp⟩ aA lc m n h ps (n + 1) (base ++ (Su h ++ [])) [] h.af.length 0 0) (eT 3 ⟨0,90,10,none⟩ rfl rfl rfl zo rfl rfl pD) ⟨0,n + 1,_,[],[],rfl,by omega,rfl,rfl,rfl,rfl,rfl,by simp [Pts.drop],MJ,by omega⟩ ?_
  rintro j st ⟨e,n',ni,Es,K,rfl,he,JY,ef,Nu,hK,NK,Sv,Sr,rfl⟩
  have UG:ni.length=n' * 7:=by
   have:∀ l:List Nd,(bG l).flatten.length=l.length * 7:=by
    intro l
    induction l with
    | nil=>rfl
    | cons a r ih=>simp only [bG,List.map_cons,List.flatten_cons,List.length_append,List.length_cons] at ih ⊢;rw [ih];simp only [wz,List.length_cons,List.length_nil];omega
   rw [ef,List.length_append,List.length_append,this,hbl,JY];simp only [Su,List.length_cons,List.length_nil];omega
  refine br ?_ ?_<;>intro hL
  ·have aq:e < ps.len:=by simpa [aC] using hL
   obtain ⟨p,u,hx⟩:=Pts.dp aq;have CS:=Pts.eD (mG hx);rw [Pts.drop_cons hx] at hK NK Sv Sr;obtain ⟨ml,Fc⟩:=oE Sr;simp only [rX] at hK;simp only [edsP] at NK;simp only [Pts.nn] at Sv;rw [<- JY] at hK NK;have Tc:=u.eJ;have huc:=u.dq;have cH:=nj p u (by omega) (fun hB=>ih u (by omega) (by omega) (ml hB)) n' ni (fun hB=>by rw [hB] at Sv;simp only [Bool.false_eq_true,if_false] at Sv;omega) UG;have QD:=im X.lev ⟨ae,order,types,.mk rh rp⟩ u n';obtain ⟨uh,us⟩:=u;refine iX (bz hx) ?_;refine ay 2 1 O5 rfl rfl rfl aO aO cH (fun r os' tk' hΦ h1 h2=>?_);obtain ⟨rfl,rfl,rfl⟩:=hΦ;refine ⟨by rw [cM,Nu],⟨by simp [cM,Nu,maxLen];omega,by simp [cM,Nu];omega⟩,?_⟩
   have UH:(if p.bare then [] else ndsT X.lev ⟨ae,order,types,.mk rh rp⟩ (.mk uh us) n').length=if p.bare then 0 else (Ty.mk uh us).nn:=by
    split
    ·rfl
    ·exact QD
   have WC:n + 1 + (K.length + (if p.bare then 0 else (Ty.mk uh us).nn))=n' + if p.bare then 0 else (Ty.mk uh us).nn:=by rw [JY];omega
   refine ⟨GU ⟨ae,order,types,.mk rh rp⟩ aA lc m n h ps (n' + (if p.bare then [] else ndsT X.lev ⟨ae,order,types,.mk rh rp⟩ (.mk uh us) n').length) (ni ++ (bG (if p.bare then [] else ndsT X.lev ⟨ae,order,types,.mk rh rp⟩ (.mk uh us) n')).flatten) (Es ++ [rW X.lev p (qa ⟨ae,order,types,.mk rh rp⟩ p (.mk uh us) n')]) h.af.length (e + 1) (e + 1),(ep 3 (by repeat' (first | exact rfl | exact au rfl | exact aw (aS aq (by omega)) | exact bL (uu _ _) rfl | refine ⟨_,_,rfl,?_,?_⟩)) (by repeat' (first | exact trivial | exact au rfl | exact aw (aS aq (by omega)) | exact bL (uu _ _) rfl | refine ⟨⟨_,rfl,?_⟩,?_⟩))),
    ps.len - (e + 1),by omega,e + 1,_,_,_,K ++ (if p.bare then [] else ndsT X.lev ⟨ae,order,types,.mk rh rp⟩ (.mk uh us) n'),rfl,by omega,?_,?_,?_,?_,?_,?_,Fc,rfl⟩
   ·rw [List.length_append,JY];omega
   ·rw [ef];simp [bG]
   ·simp [Nu]
   ·simp_all
   ·simp_all
   ·rw [List.length_append,UH];omega
  ·have hge:e=ps.len:=by have:=hL;simp [aC] at this;omega
   subst hge;rw [Pts.cq] at hK NK;simp only [rX,List.append_nil] at hK;simp only [edsP,List.append_nil] at NK;have hKl:K.length=ps.nn:=by rw [hK,rY]
   have UI:(List.replicate n' ([]:List DV)).length=n':=List.length_replicate;refine C0 (kt:=0) ⟨rfl,rfl⟩ ⟨rfl,rfl,rfl⟩ ⟨rfl,rfl,rfl⟩ rfl rfl rfl rfl rfl rfl rfl rfl rfl rfl rfl UI ⟨by omega,by omega⟩ (by decide) ?_;have QE:n + (ndsT X.lev ⟨ae,order,types,.mk rh rp⟩ (.mk h ps) n).length=n':=by rw [DB,List.length_cons,<- hK,JY];omega
   have nV:ni.set ((n:Int).toNat * 7 + 6) (.sl 10 (iw Es) none)=base ++ (bG (ndsT X.lev ⟨ae,order,types,.mk rh rp⟩ (.mk h ps) n)).flatten:=by
    rw [ef,show (n:Int).toNat=n by omega,Jn hbl,DB,NK,hK];rfl
   refine ⟨.v (.int .i64 n),[bC ⟨ae,order,types,.mk rh rp⟩ (.pt lc 0) (.loc 1 0) m,Ex ⟨ae,order,types,.mk rh rp⟩ aA lc n'],ax,aO,?_,?_,?_⟩
   ·rw [Jo]
   ·rw [QE]
   ·rw [QE,<- nV];rfl
theorem l9 {l:List Wd} {o:List (Wd × Wd)} (h:(latF l o).1=0):(eo l o).1=0/\(enumL l 0 l).1=0/\(numF (ap l) o).1=0/\bE (iE l.length (dt l.length (cr (ap l) o))) l.length=none/\bE (kA (dt l.length (cr (ap l) o)) l.length) l.length=none:=by grind [latF]
theorem cI {p:Nat->Bool} {n:Nat} (h:bE p n=none):∀ a,a < n->p a=false:=by grind [bE]
theorem jg {l:List Wd} {o:List (Wd × Wd)} (h:(latF l o).1=0):il (dt l.length (cr (ap l) o)) l.length/\l.length<=32:=by
 obtain ⟨h1,h2,h3,h4,h5⟩:=l9 h;have hP:=lf h3;rw [cz] at hP
 have HW:l ≠ []:=by
  rintro rfl;simp [eo] at h1
 have Jp:l.length<=32:=by grind [eo]
 have MA:∀ a b,a < l.length->b < l.length->jc (dt l.length (cr (ap l) o)) l.length a b=false:=by
  have key:∀ a b,a<=b->b < l.length->jc (dt l.length (cr (ap l) o)) l.length a b=false:=fun a b CL hb=>by grind [cI,kA]
  intro a b ha hb;rcases Nat.le_total a b with h | h
  ·exact key a b h hb
  ·grind [jc,rM,rN]
 refine ⟨{
  pos:=List.length_pos_iff.2 HW
  rfl':=fun a ha=>oo hP ha
  tr:=fun a b c ha hb hc=>Ad hP ha hb hc
  Ak:=fun a b ha hb h6 h7=>by grind [cI,iE]
  jn:=fun a b ha hb=>by
   have:=MA a b ha hb;unfold jc at this;simp only [Bool.or_eq_false_iff,Option.isNone_eq_false_iff] at this;exact Option.isSome_iff_exists.1 this.1
  mt:=fun a b ha hb=>by
   have:=MA a b ha hb;unfold jc at this;simp only [Bool.or_eq_false_iff,Option.isNone_eq_false_iff] at this
   exact Option.isSome_iff_exists.1 this.2 },Jp⟩
def de (s:Sch) (aA:List Nat) (js:List Int):Lx:=⟨ap s.ae,aA,closeR (dM s.ae.length (cr (ap s.ae) s.order)) s.ae.length,js,dt s.ae.length (cr (ap s.ae) s.order)⟩
theorem Jq {s:Sch} {d:DV} (h:(latF s.ae s.order).1=0) (hd:MC s.ae s.order d) (hw:s.ae.length<=1099511627776):∃ aA js,(de s aA js).OK/\d=(de s aA js).pd:=by
 obtain ⟨aA,js,hT,jr,pz,HZ,rfl⟩:=hd;obtain ⟨h1,h2⟩:=jg h;refine ⟨aA,js,⟨hT,by show aA.length<=_;omega,?_,?_,?_⟩,rfl⟩
 ·show il _ (ap s.ae).length;rw [cz];exact h1
 ·show (ap s.ae).length<=32;rw [cz];exact h2
 ·show ∀ x y,x < (ap s.ae).length->y < (ap s.ae).length->JM _ (ap s.ae).length js x y;rw [cz];exact HZ
def fK (s:Sch) (l:List Wd):Int:=vH (dt s.ae.length (cr (ap s.ae) s.order)) (ap s.ae) l
def jt (s:Sch) (t:Ty):Ft:=knT ⟨ap s.ae,[],[],[],fun _ _=>false⟩ (tL s) t
mutual
theorem uw {X Y:Lx} (h:X.af=Y.af) (L:List ByteArray):∀ t:Ty,knT X L t=knT Y L t
 | .mk h1 ps=>by rw [knT,knT,ux h L ps]
theorem ux {X Y:Lx} (h:X.af=Y.af) (L:List ByteArray):∀ ps:Pts,knP X L ps=knP Y L ps
 | .nil=>by rw [knP,knP]
 | .cons p t r=>by
  rw [knP,knP,ux h L r,uw h L t];unfold Lx.bad;rw [h]
end
theorem MK (s:Sch) (aA:List Nat) (js:List Int) (t:Ty):knT (de s aA js) (tL s) t=jt s t:=uw (X:=de s aA js) (Y:=⟨ap s.ae,[],[],[],fun _ _=>false⟩) rfl (tL s) t
def fc (s:Sch):Ft:=
 if (latF s.ae s.order).1≠0 then latF s.ae s.order
 else if (dw s).1≠0 then dw s
 else if (eaR s.root s.types 0).1.1≠0 then (eaR s.root s.types 0).1
 else if (eaL (jt s) (jt s s.root) s.types).1≠0 then eaL (jt s) (jt s s.root) s.types
 else loopF s
def ndsAll (lev:List Wd->Int) (s:Sch):List (Wd × Ty)->Nat->List Nd
 | [],_=>[]
 | x :: r,k=>ndsT lev s x.2 k ++ ndsAll lev s r (k + x.2.nn)
def oF (s:Sch):List Nd:=ndsAll (fK s) s s.types 0
def aF (s:Sch):List Nd:=oF s ++ ndsT (fK s) s s.root (oF s).length
def gI (s:Sch):Int:=l8 s s.root (oF s).length
def KV (s:Sch) (aA iO:List Nat) (js:List Int):List DV:=
 [(de s aA js).pd,.sl 7 (bG (aF s)) none,.v (.int .i64 (gI s)),.pt (cd (tL s) iO) 0,.sl 1 (dInts (namedL s)) none]
def GV (s:Sch) (d:DV):Prop:=∃ aA iO js,(de s aA js).OK/\fl (tL s) iO/\iO.length<=s.types.length/\d = .pt (KV s aA iO js) 0
def Ar (s:Sch) (r:DV) (_:List (List DV)) (_:List TkE):Prop:=
 if (fc s).1≠0 then r = .bW [.v (.pointer none),(fc s).d] else ∃ d,GV s d/\r = .bW [d,Ft.d (0,0)]
theorem kF {s:Sch} {f:Ft} {os:List (List DV)} {tk:List TkE} (h:fc s=f) (hf:f.1≠0):Ar s (.bW [.v (.pointer none),f.d]) os tk:=by
 unfold Ar;rw [h,zIfP hf]
theorem Jr {s:Sch} {d:DV} {os:List (List DV)} {tk:List TkE} (h:(fc s).1=0) (hd:GV s d):Ar s (.bW [d,Ft.d (0,0)]) os tk:=by grind [Ar]
theorem GW {F:Ty->Ft} {z:Ft}:∀ {l:List (Wd × Ty)},(eaL F z l).1=0->z.1=0/\∀ x∈l,(F x.2).1=0
 | [],h=>⟨h,fun x hx=>by cases hx⟩
 | x :: r,h=>by
  rw [eaL] at h;split at h
  ·rename_i h1;exact (h1 h).elim
  ·rename_i h1;obtain ⟨h2,h3⟩:=GW h
   grind
theorem GX {z:Ty}:∀ {l:List (Wd × Ty)} {m:Int},0<=m->(eaR z l m).1.1=0->(wrong z 1 0).1.1=0/\(∀ x∈l,(wrong x.2 1 0).1.1=0)/\(eaR z l m).2=m + ((l.map fun x=>x.2.cnt).sum + z.cnt:Nat)/\(eaR z l m).2<=512
 | [],m,_,h=>by grind [eaR,lg]
 | x :: r,m,hm,h=>by
  rw [eaR] at h ⊢;split at h
  ·rename_i h1;exact (h1 h).elim
  ·rename_i h1;rw [ah h1];obtain ⟨g1,g2,g3,_⟩:=lg (sU h1);obtain ⟨h2,h3,h4,h5⟩:=GX (by omega) h
   grind
theorem rZ (lev:List Wd->Int) (s:Sch):∀ (l:List (Wd × Ty)) (k:Nat),(ndsAll lev s l k).length=(l.map fun x=>x.2.nn).sum
 | [],_=>rfl
 | x :: r,k=>by simp only [ndsAll,List.length_append,im,rZ lev s r,List.map_cons,List.sum_cons]
theorem r6:∀ l:List (Wd × Ty),(l.map fun x=>x.2.nn).sum<=(l.map fun x=>x.2.cnt).sum
 | []=>zLeR _
 | x :: r=>by
  have:=x.2.eJ;have:=r6 r
  grind
theorem uy:∀ l:List Nd,(bG l).flatten.length=l.length * 7
 | []=>rfl
 | a :: r=>by
  have:=uy r;simp only [bG,List.map_cons,List.flatten_cons,List.length_append,List.length_cons] at this ⊢;rw [this];simp only [wz,List.length_cons,List.length_nil];omega
theorem vM {X:Lx} {s:Sch} {t:Ty} (h:(knT X (tL s) t).1=0):pL s t=true:=by
 obtain ⟨hd,ps⟩:=t;have:=(kE h).1;unfold pL;exact decide_eq_true this
theorem yk {s:Sch} (h:(loopF s).1=0):∀ i,i < s.types.length->∃ k,endI s (s.types.length + 1) i=some k:=by
 intro i hi;unfold loopF at h;split at h
 ·rename_i h1;have:=cI h1 i hi;simp only [Option.isNone_eq_false_iff] at this;exact Option.isSome_iff_exists.1 this
 ·cases h
abbrev GY (s:Sch) (aA:List Nat) (lc:List DV) (m:Int) (f1 f2:Int) (n:Nat) (base:List DV) (e:Nat):St:=
 ⟨[aE 1 4,aE 3 3,aE 6 0,aT 59 11 (dNms s.types),al 60 ((dNms s.types).length),al 61 e],
  [bC s (.pt lc 0) (.loc 1 0) m,Ex s aA lc n,[.v (.int .i64 f1),.v (.int .i64 f2)],[.v (.int .i64 0),.v (.int .i64 0)],cC s],[Aq n base]⟩
theorem As (s:Sch) (hs:s.wt<=1099511627776):Ev prog 26 [.agg (cC s)] [] [] (Ar s):=by
 have hF:=fc.eq_1 s;have hw:=hs;simp only [Sch.wt] at hw;have hwl:=bf s.ae;have Sm:=gP s.types;have II:=x9 s.ae s.order (by omega) (by omega);have pF:=fun lc=>vK s lc (by omega)
 have bI:∀ t,(t=s.root∨∃ x∈s.types,t=x.2)->t.wt<=1099511627776:=fun t ht=>by
  rcases ht with rfl | ⟨x,hx,rfl⟩
  ·omega
  ·have:=eO hx;omega
 have QF:=fun lc aA=>Ap s lc aA 0 (by omega) (by omega) (by omega) bI;have QG:=fun (X:Lx) (hX:X.OK) (aA:List Nat) (hT:fl (tL s) aA) (jr:aA.length<=1099511627776) (m:Int)=>Dy s X.pd (Ao s aA (fJ X.af (cd X.af X.aA) X.rows X.js)) m (by omega) 65 L4 (knT X (tL s)) (fun t ht=>rV hX s aA (.pt (fJ X.af (cd X.af X.aA) X.rows X.js) 0) (.v (.slice none 0 0)) (.v (.int .i64 0)) (.v (.slice none 0 0)) m hT jr t.wt t (zLeR _) (bI t ht));have ML:(dw s).1=0->s.types.length<=64:=fun h=>by grind [dw]
 have hLx:=fun d h hd=>@Jq s d h hd (by omega);have KW:=fun (lat:DV) (aA:List Nat) (a b c e0:DV) (m:Int)=>An s lat aA a b c e0 m;have GZ:=fun (lc:List DV) (aA:List Nat) (m:Int)=>yj s lc aA m;have jf:=fun (X:Lx) (hX:X.OK) (aA:List Nat) (m:Int) (hT:fl (tL s) aA) (jr:aA.length<=1099511627776) (t:Ty) (ht:t.wt<=1099511627776)=>uv hX s aA m hT jr t.wt t (zLeR _) ht;refine eG 85 [.tmp 2,.cell 3 26] func26 rfl ntmps26 rfl fun _ _ _ _=>?_;generalize hS:s=S at *;obtain ⟨ae,order,types,⟨rh,rp⟩⟩:=s;subst hS;refine gp TC rfl II ax (fun r hr=>?_);by_cases hL:(latF ae order).1≠0
 ·have Uw:=hL;rw [zIfP (show (latF (Sch.mk ae order types (.mk rh rp)).ae (Sch.mk ae order types (.mk rh rp)).order).1≠0 from hL)] at hF;unfold Ag at hr;rw [zIfP (show (latF (Sch.mk ae order types (.mk rh rp)).ae (Sch.mk ae order types (.mk rh rp)).order).1≠0 from hL)] at hr;subst hr;refine br ?_ ?_<;>intro h
  ·refine dS ?_;exact ⟨_,ax,kF (os:=[]) (tk:=[]) hF hL⟩
  ·exfalso;simp at h;exact hL h
 unfold Ag at hr;rw [ah (show ¬ (latF (Sch.mk ae order types (.mk rh rp)).ae (Sch.mk ae order types (.mk rh rp)).order).1≠0 from hL)] at hF hr;obtain ⟨d,hd,rfl⟩:=hr;have hL0:(latF ae order).1=0:=sU hL;obtain ⟨aA,js,hX,rfl⟩:=hLx d hL0 hd;generalize Sw:de ⟨ae,order,types,.mk rh rp⟩ aA js=X at hX;refine br (fun h=>?_) (fun _=>?_)
 ·exfalso;simp at h;exact hL h
 refine CallG.I1 0 4 rfl rfl rfl rfl (CallG.I1 1 3 rfl rfl rfl rfl ?_);refine ay 2 0 TD rfl rfl rfl aO aO (pF (fJ X.af (cd X.af X.aA) X.rows X.js)) (fun r os' tk' hΦ h1 h2=>?_);obtain ⟨rfl,CQ⟩:=hΦ;have h2:=List.eq_nil_of_length_eq_zero h2;subst h2;by_cases B5:(dw ⟨ae,order,types,.mk rh rp⟩).1≠0
 ·rw [zIfP B5] at hF
  obtain ⟨a,b,rfl⟩:∃ a b,os'=[a,b]:=by
   match os',h1 with
   | [a,b],_=>exact ⟨a,b,rfl⟩
  refine br ?_ ?_<;>intro h
  ·refine dS ?_;exact ⟨_,ax,kF (os:=[]) (tk:=[]) hF B5⟩
  ·exfalso;simp at h;exact B5 h
 rw [ah B5] at hF;have QH:(dw ⟨ae,order,types,.mk rh rp⟩).1=0:=sU B5;have G0:=ML QH;obtain ⟨iO,hT,jr,rfl⟩:=CQ QH;refine br (fun h=>?_) (fun _=>?_)
 ·exfalso;simp at h;exact B5 h
 refine ay 2 0 OQ rfl rfl rfl aO aO (QF (fJ X.af (cd X.af X.aA) X.rows X.js) iO) (fun r os' tk' hΦ h1 h2=>?_);obtain ⟨rfl,rfl⟩:=hΦ;have h2:=List.eq_nil_of_length_eq_zero h2;subst h2;by_cases hR:(eaR (.mk rh rp) types 0).1.1≠0
 ·rw [zIfP (show (eaR (Sch.mk ae order types (.mk rh rp)).root (Sch.mk ae order types (.mk rh rp)).types 0).1.1≠0 from hR)] at hF;refine br ?_ ?_<;>intro h
  ·refine dS ?_;exact ⟨_,ax,kF (os:=[]) (tk:=[]) hF hR⟩
  ·exfalso;simp at h;exact hR h
 rw [ah (show ¬ (eaR (Sch.mk ae order types (.mk rh rp)).root (Sch.mk ae order types (.mk rh rp)).types 0).1.1≠0 from hR)] at hF;have hR0:(eaR (.mk rh rp) types 0).1.1=0:=sU hR;refine br (fun h=>?_) (fun _=>?_)
 ·exfalso;simp at h;exact hR h
 have WD:=QG X hX iO hT (by have:types.length<=64:=G0;have:iO.length<=types.length:=jr;omega) (eaR (.mk rh rp) types 0).2;have MM:∀ t,knT X (tL ⟨ae,order,types,.mk rh rp⟩) t=jt ⟨ae,order,types,.mk rh rp⟩ t:=fun t=>by rw [<- Sw];exact MK _ _ _ t
 have UJ:eaL (knT X (tL ⟨ae,order,types,.mk rh rp⟩)) (knT X (tL ⟨ae,order,types,.mk rh rp⟩) (.mk rh rp)) types=eaL (jt ⟨ae,order,types,.mk rh rp⟩) (jt ⟨ae,order,types,.mk rh rp⟩ (.mk rh rp)) types:=by
  rw [show knT X (tL ⟨ae,order,types,.mk rh rp⟩)=jt ⟨ae,order,types,.mk rh rp⟩ from funext MM]
 refine BQ OQ WD ax rfl rfl ?_;by_cases hK:(eaL (jt ⟨ae,order,types,.mk rh rp⟩) (jt ⟨ae,order,types,.mk rh rp⟩ (.mk rh rp)) types).1≠0
 ·rw [zIfP (show (eaL (jt ⟨ae,order,types,.mk rh rp⟩) (jt ⟨ae,order,types,.mk rh rp⟩ (Sch.mk ae order types (.mk rh rp)).root) (Sch.mk ae order types (.mk rh rp)).types).1≠0 from hK)] at hF;refine br ?_ ?_<;>intro h
  ·refine dS ?_;refine ⟨.bW [.v (.pointer none),(eaL (knT X (tL ⟨ae,order,types,.mk rh rp⟩)) (knT X (tL ⟨ae,order,types,.mk rh rp⟩) (.mk rh rp)) types).d],ax,?_⟩;rw [UJ];exact kF (os:=[]) (tk:=[]) hF hK
  ·grind
 rw [ah (show ¬ (eaL (jt ⟨ae,order,types,.mk rh rp⟩) (jt ⟨ae,order,types,.mk rh rp⟩ (Sch.mk ae order types (.mk rh rp)).root) (Sch.mk ae order types (.mk rh rp)).types).1≠0 from hK)] at hF;have Sx:(eaL (jt ⟨ae,order,types,.mk rh rp⟩) (jt ⟨ae,order,types,.mk rh rp⟩ (.mk rh rp)) types).1=0:=sU hK;refine br (fun h=>?_) (fun _=>?_)
 ·grind
 have ze:wdsWt ae + prsWt order + nmsWt types + (Ty.mk rh rp).wt<=1099511627776:=hw;have UK:nmsWt types<=1099511627776:=by omega
 obtain ⟨KX,eB⟩:=GW Sx;have UL:(knT X (tL ⟨ae,order,types,.mk rh rp⟩) (.mk rh rp)).1=0:=by rw [MM];exact KX
 have QI:∀ x∈types,(knT X (tL ⟨ae,order,types,.mk rh rp⟩) x.2).1=0:=fun x hx=>by rw [MM];exact eB x hx
 have QJ:∀ x∈types,pL ⟨ae,order,types,.mk rh rp⟩ x.2=true:=fun x hx=>vM (QI x hx);have Js:iO.length<=1099511627776:=by have:types.length<=64:=G0;have:iO.length<=types.length:=jr;omega
 refine BQ TF (KW X.pd iO X.pd (.v (.slice none 0 0)) (.v (.int .i64 0)) (.v (.slice none 0 0)) (eaR (.mk rh rp) types 0).2 hT Js G0 QJ) ax rfl rfl ?_;by_cases hO:(loopF ⟨ae,order,types,.mk rh rp⟩).1≠0
 ·refine br ?_ ?_<;>intro h
  ·refine dS ?_;exact ⟨_,ax,kF (os:=[]) (tk:=[]) hF hO⟩
  ·exfalso;simp at h;exact hO h
 have WE:(loopF ⟨ae,order,types,.mk rh rp⟩).1=0:=sU hO;have hF0:(fc ⟨ae,order,types,.mk rh rp⟩).1=0:=by rw [hF];exact WE
 refine br (fun h=>?_) (fun _=>?_)
 ·exfalso;simp at h;exact hO h
 refine ay 2 0 TG rfl rfl rfl aO aO (GZ (fJ X.af (cd X.af X.aA) X.rows X.js) iO (eaR (.mk rh rp) types 0).2 hT Js G0 QJ UK (yk WE)) (fun r os' tk' hΦ h1 h2=>?_);subst hΦ;have h2:=List.eq_nil_of_length_eq_zero h2;subst h2;clear pF QF QG KW GZ WD II;have hN:(dNms types).length=types.length:=cK types;obtain ⟨DC,CS,hcm,QK⟩:=GX (Int.le_refl 0) hR0;generalize (eaR (.mk rh rp) types 0).2=m at hcm QK ⊢
 refine aX (fun j st=>∃ (e n:Nat) (base:List DV) (N:List Nd),st=GY ⟨ae,order,types,.mk rh rp⟩ iO (fJ X.af (cd X.af X.aA) X.rows X.js) m (loopF ⟨ae,order,types,.mk rh rp⟩).1 (loopF ⟨ae,order,types,.mk rh rp⟩).2 n base e/\e<=types.length/\n=N.length/\base=(bG N).flatten/\N ++ ndsAll (fK ⟨ae,order,types,.mk rh rp⟩) ⟨ae,order,types,.mk rh rp⟩ (types.drop e) n=oF ⟨ae,order,types,.mk rh rp⟩/\j=types.length - e) types.length
  (GY ⟨ae,order,types,.mk rh rp⟩ iO (fJ X.af (cd X.af X.aA) X.rows X.js) m (loopF ⟨ae,order,types,.mk rh rp⟩).1 (loopF ⟨ae,order,types,.mk rh rp⟩).2 0 [] 0) (eT 5 ⟨0,82,7,some []⟩ rfl rfl rfl zo rfl rfl pD) ⟨0,0,[],[],rfl,by omega,rfl,rfl,rfl,by omega⟩ ?_
 rintro j st ⟨e,n,base,N,rfl,he,hn,Ls,QL,rfl⟩;have WG:types.length<=64:=G0;have Au:X.lev=fK ⟨ae,order,types,.mk rh rp⟩:=by rw [<- Sw];all_goals rfl
 have htot:(oF ⟨ae,order,types,.mk rh rp⟩).length + (Ty.mk rh rp).nn<=512:=by
  have h1:=r6 types;have h2:=(Ty.mk rh rp).eJ;have h3:(oF ⟨ae,order,types,.mk rh rp⟩).length=(types.map fun x=>x.2.nn).sum:=rZ _ _ _ _;omega
 have hbl:base.length=n * 7:=by rw [Ls,hn,uy]
 have zA:n + (ndsAll (fK ⟨ae,order,types,.mk rh rp⟩) ⟨ae,order,types,.mk rh rp⟩ (types.drop e) n).length=(oF ⟨ae,order,types,.mk rh rp⟩).length:=by rw [<- QL,List.length_append,hn]
 refine br ?_ ?_<;>intro hL
 ·have aq:e < types.length:=by have:=hL;simp [hN] at this;exact this
  obtain ⟨x,hx⟩:=gX aq;have WH:=mG hx;rw [drop_cons hx,ndsAll] at QL zA;rw [List.length_append] at zA;have fh:=im (fK ⟨ae,order,types,.mk rh rp⟩) ⟨ae,order,types,.mk rh rp⟩ x.2 n;have Eu:=jf X hX iO m hT Js x.2 (bI x.2 (.inr ⟨x,WH,rfl⟩)) (QI x WH) n base (by omega) hbl;rw [Au] at Eu;obtain ⟨xw,⟨xh,xp⟩⟩:=x;refine iX (dNms_get hx) ?_;refine ay 2 1 IG rfl rfl rfl aO aO Eu (fun r os' tk' hΦ h1 h2=>?_);obtain ⟨rfl,rfl,rfl⟩:=hΦ;refine ⟨GY ⟨ae,order,types,.mk rh rp⟩ iO (fJ X.af (cd X.af X.aA) X.rows X.js) m (loopF ⟨ae,order,types,.mk rh rp⟩).1 (loopF ⟨ae,order,types,.mk rh rp⟩).2 (n + (ndsT (fK ⟨ae,order,types,.mk rh rp⟩) ⟨ae,order,types,.mk rh rp⟩ (.mk xh xp) n).length) (base ++ (bG (ndsT (fK ⟨ae,order,types,.mk rh rp⟩) ⟨ae,order,types,.mk rh rp⟩ (.mk xh xp) n)).flatten) (e + 1),(ep 5 (u7 (aS aq (by omega))) (c8 (aS aq (by omega)))),types.length - (e + 1),by omega,e + 1,_,_,N ++ ndsT (fK ⟨ae,order,types,.mk rh rp⟩) ⟨ae,order,types,.mk rh rp⟩ (.mk xh xp) n,rfl,by omega,by rw [List.length_append,hn],by rw [Ls];simp [bG],?_,rfl⟩;rw [List.append_assoc,fh];exact QL
 have hge:e=types.length:=sW hN hL;subst hge;rw [List.drop_length,ndsAll,List.append_nil] at QL;rw [List.drop_length,ndsAll,List.length_nil,Nat.add_zero] at zA;have RZ:=jf X hX iO m hT Js (.mk rh rp) (by omega) UL n base (by omega) hbl;rw [Au] at RZ;intro E a w hr;have kT:=kf hr;obtain ⟨b0,ty0,EU,gj,hw0,Ih⟩:=kT.env.dm 0 _ rfl;obtain ⟨b1,ty1,arr1,lm,zI,Ny⟩:=kT.env.dm 1 _ rfl;obtain ⟨v13,UM,hp13⟩:=RvL.get (i:=13) (d:=.loc 1 0) Ih.1 rfl;have QM:v13 = .pointer (some ⟨b1,0,none⟩):=by grind [Rv]
 subst QM
 have mH:w.drew.cell? ⟨b0,13,none⟩=some (.pointer (some ⟨b1,0,none⟩)):=by
  rw [bV hw0];simpa using UM
 have LU:=IW kT.env [0,1,2,3];generalize wx:maskL [0,1,2,3] 0 _=UN at LU;have UO:∀ (i:Nat) cs,UN[i]? = some cs->cs ≠ []->2<=i:=fun i cs hi bd=>by grind [maskL]
 refine iH (C:=fun w'=>CC E UN w.drew w' /\ w'.cell? ⟨b0,13,none⟩=some (.pointer (some ⟨b1,0,none⟩))) (W:=fun i=>Nat.beq i 10) (Q:=fun a w=>kq _ _ .normal a w) mo (by decide +kernel) (fun _ _ h=>h) ⟨⟨fun _ _ _ _ _ _=>rfl,kT.env.sub⟩,mH⟩ ?_;show Go.Proofs.YtfdedoiiahbnnaaGreat.Dv.runT _ _ _ _ _ [0,1,2,3,4,5,6,7,8,9,10] _ _;refine jL kT rfl rfl rfl rfl rfl rfl (fun a0 h0=>?_);refine jL h0 rfl rfl rfl rfl rfl rfl (fun a1 h1=>?_);refine jL h1 rfl rfl rfl rfl rfl rfl (fun a2 h2=>?_);refine IY h2 rfl lm rfl rfl gj rfl rfl (fun w' h=>h.2) ⟨⟨fun _ _ _ _ _ _=>rfl,kT.env.sub⟩,mH⟩ rfl rfl (fun a3 h3=>?_);refine jL h3 rfl rfl rfl rfl rfl rfl (fun a4 h4=>?_);refine jL h4 rfl rfl rfl rfl rfl rfl (fun a5 h5=>?_);refine IX h5 rfl (bx:=UN) (IV h5 LU (fun w' h=>h.1)) ⟨⟨fun _ _ _ _ _ _=>rfl,kT.env.sub⟩,mH⟩ rfl rfl (by rw [<- wx];rfl) rfl (fun a6 h6=>?_);refine IZ h6 rfl rfl rfl rfl rfl rfl IG 2 1 rfl rfl aO aO RZ rfl rfl ?_;intro v r os' tk' E' w' hΦ _ _ bD Ky hx hβ hh;obtain ⟨rfl,rfl,rfl⟩:=hΦ;refine ⟨fun _ hC=>⟨⟨fun i b cs hb ch bd=>?_,fun x v Si=>bD.env.sub x v (hx.c x v Si)⟩,?_⟩,?_⟩
 ·exact hh i b (UO i cs ch bd) hb
 ·obtain ⟨b0',ty0',WI,MN,UP,UQ⟩:=bD.env.dm 0 _ rfl;rw [hβ,gj] at MN;simp only [oI] at MN;subst MN;obtain ⟨u13,UR,QN⟩:=RvL.get (i:=13) (d:=.loc 1 0) UQ.1 rfl;unfold Rv at QN;obtain ⟨b,hb,rfl⟩:=QN;rw [hβ,lm] at hb;simp only [oI] at hb;subst hb;rw [bV UP];simpa using UR
 have h7:=bi (dst:=some 77) bD rfl _ v Ky;have US:(oF ⟨ae,order,types,.mk rh rp⟩).length=n:=by rw [<- QL,hn]
 have nV:base ++ (bG (ndsT (fK ⟨ae,order,types,.mk rh rp⟩) ⟨ae,order,types,.mk rh rp⟩ (.mk rh rp) n)).flatten=(bG (aF ⟨ae,order,types,.mk rh rp⟩)).flatten:=by grind [aF,bG]
 have QO:(bG (aF ⟨ae,order,types,.mk rh rp⟩)).length=n + (ndsT (fK ⟨ae,order,types,.mk rh rp⟩) ⟨ae,order,types,.mk rh rp⟩ (.mk rh rp) n).length:=by
  unfold aF;rw [US];simp [bG,US]
 obtain ⟨E3,h8⟩:=I0 h7 1 1 0 (ns:=bG (aF ⟨ae,order,types,.mk rh rp⟩)) (congrArg (fun b=>some (Aq (n + (ndsT (fK ⟨ae,order,types,.mk rh rp⟩) ⟨ae,order,types,.mk rh rp⟩ (.mk rh rp) n).length) b)) nV) (fun x hx=>by
  simp only [bG,List.mem_map] at hx;obtain ⟨y,_,rfl⟩:=hx
  rfl) QO rfl rfl List.length_replicate
 refine jL h8 rfl rfl rfl rfl rfl rfl (fun a8 h9=>?_);refine jL h9 rfl rfl rfl rfl rfl rfl (fun a9 ti=>?_);refine C7 ti rfl rfl rfl rfl rfl rfl ?_;refine ⟨.bW [.pt [X.pd,.sl 7 (bG (aF ⟨ae,order,types,.mk rh rp⟩)) none,.v (.int .i64 (l8 ⟨ae,order,types,.mk rh rp⟩ (.mk rh rp) n)),.pt (cd (tL ⟨ae,order,types,.mk rh rp⟩) iO) 0,.sl 1 (dInts (namedL ⟨ae,order,types,.mk rh rp⟩)) none] 0,Ft.d (0,0)],ax,Jr (os:=[]) (tk:=[]) hF0 ⟨aA,iO,js,by rw [Sw];exact hX,hT,jr,?_⟩⟩;rw [KV,Sw,gI,US]
theorem Jt (es:List (List DV)) (hl:es.length<=1099511627776):Ev prog 98 [.sl 1 es none] [] [] (fun r _ _=>r = .sl 1 es none∨(es=[]/\r = .v (.slice none 0 0))):=by
 refine eG 8 [.tmp 2] func98 rfl ntmps98 rfl fun _ _ _ _=>?_;refine Gg ⟨_,rfl⟩ rfl rfl rfl rfl (fun b hb=>?_);refine br ?_ ?_<;>intro h
 ·have h:b=true:=h;have he:es=[]:=Classical.byContradiction fun hn=>by rw [hb hn] at h;cases h
  subst he;exact Or.inr ⟨rfl,rfl⟩
 ·refine xS rfl rfl rfl rfl (hk:=?_);refine ⟨rfl,⟨by simp [maxLen];omega,by simp;omega⟩,?_⟩;exact ⟨_,ax,Or.inl rfl⟩
theorem Ju (es:List (List DV)) (hl:es.length<=1099511627776):Ev prog 99 [.sl 10 es none] [] [] (fun r _ _=>r = .sl 10 es none∨(es=[]/\r = .v (.slice none 0 0))):=by
 refine eG 8 [.tmp 2] func99 rfl ntmps99 rfl fun _ _ _ _=>?_;refine Gg ⟨_,rfl⟩ rfl rfl rfl rfl (fun b hb=>?_);refine br ?_ ?_<;>intro h
 ·have h:b=true:=h;have he:es=[]:=Classical.byContradiction fun hn=>by rw [hb hn] at h;cases h
  subst he;exact Or.inr ⟨rfl,rfl⟩
 ·refine xS rfl rfl rfl rfl (hk:=?_);refine ⟨rfl,⟨by simp [maxLen];omega,by simp;omega⟩,?_⟩;exact ⟨_,ax,Or.inl rfl⟩
def QP (lc:List DV) (ur:List Nd) (root:Int) (L:List ByteArray) (aA:List Nat) (named:List Nat):DV:=.pt [.pt lc 0,.sl 7 (bG ur) none,.v (.int .i64 root),.pt (cd L aA) 0,.sl 1 (dInts named) none] 0
theorem dz (l:List Nd):(bG l).length=l.length:=by simp [bG]
theorem gf {l:List Nd} {i:Nat} {n:Nd} (h:l[i]? = some n):(bG l)[i]? = some (wz n):=by simp [bG,h]
section
variable (lc:List DV) (ur:List Nd) (root:Int) (L:List ByteArray) (aA:List Nat) (named:List Nat)
theorem oG:aV prog 22 [QP lc ur root L aA named] (.v (.int .i64 ur.length)):=by
 refine eG 10 [.tmp 2] func22 rfl ntmps22 rfl fun _ _ _ _=>?_;refine (qM ?_:);rw [dz]
theorem Av:aV prog 23 [QP lc ur root L aA named] (.v (.int .i64 root)):=by
 refine eG 9 [.tmp 2] func23 rfl ntmps23 rfl fun _ _ _ _=>?_;exact (rfl:_=_)
theorem DD:aV prog 45 [QP lc ur root L aA named] (.pt lc 0):=by
 refine eG 9 [.tmp 2] func45 rfl ntmps45 rfl fun _ _ _ _=>?_;exact ⟨_,ax,rfl⟩
theorem Aw (i:Nat) (n:Nd) (h:ur[i]? = some n) (hn:n.af.length<=1099511627776) (he:n.aW.length<=1099511627776) :
  aV prog 38 [QP lc ur root L aA named,.v (.int .i64 i)] (.bW [.agg (wz n),.v (.bool true)]):=by
 have aq:=(gS h).1;have hlen:=oG lc ur root L aA named;have Ny:=Jt (dB n.af) (by rw [bP];exact hn);have mB:=Ju (iw n.aW) (by rw [cM];exact he);refine eG 32 [.cell 4 82,.tmp 5] func38 rfl ntmps38 rfl fun _ _ _ _=>?_;refine cP Fk hlen ?_;refine br ?_ ?_<;>intro g
 ·exfalso;simp [pickB] at g;omega
 refine iX (gf h) ?_;refine dS ?_;refine mP TO rfl Ny ax (fun r1 hr1=>?_);rcases hr1 with rfl | ⟨h1,rfl⟩
 ·refine mP OS rfl mB ax (fun r2 lp=>?_);rcases lp with rfl | ⟨h2,rfl⟩
  ·exact ⟨.bW [.agg (wz n),.v (.bool true)],ax,rfl⟩
  ·exact ⟨.bW [.agg (wz n),.v (.bool true)],(by repeat' (first | exact rfl | exact trivial | exact Or.inr (Or.inl ⟨_,rfl⟩) | exact Or.inr ⟨_,rfl⟩ | exact Or.inl ⟨rfl,rfl⟩ | exact Or.inl rfl | refine Or.inr ⟨_,_,rfl,Nat.zero_le _,rfl,?_⟩ | refine ⟨_,_,rfl,?_,?_⟩ | refine ⟨_,rfl,?_⟩ | exact Or.inl ⟨h2,rfl⟩ | refine Or.inr (Or.inr (Or.inr ⟨_,_,rfl,?_⟩)) | exact Or.inl rfl | refine Or.inr ?_)),rfl⟩
 ·refine mP OS rfl mB ax (fun r2 lp=>?_);rcases lp with rfl | ⟨h2,rfl⟩
  ·exact ⟨.bW [.agg (wz n),.v (.bool true)],(by repeat' (first | exact rfl | exact trivial | exact Or.inr (Or.inl ⟨_,rfl⟩) | exact Or.inr ⟨_,rfl⟩ | exact Or.inl ⟨rfl,rfl⟩ | exact Or.inl rfl | refine Or.inr ⟨_,_,rfl,Nat.zero_le _,rfl,?_⟩ | refine ⟨_,_,rfl,?_,?_⟩ | refine ⟨_,rfl,?_⟩ | exact Or.inl ⟨h1,rfl⟩ | refine Or.inr (Or.inr (Or.inr ⟨_,_,rfl,?_⟩)) | exact Or.inl rfl | refine Or.inr ?_)),rfl⟩
  ·exact ⟨.bW [.agg (wz n),.v (.bool true)],(by repeat' (first | exact rfl | exact trivial | exact Or.inr (Or.inl ⟨_,rfl⟩) | exact Or.inr ⟨_,rfl⟩ | exact Or.inl ⟨rfl,rfl⟩ | exact Or.inl rfl | refine Or.inr ⟨_,_,rfl,Nat.zero_le _,rfl,?_⟩ | refine ⟨_,_,rfl,?_,?_⟩ | refine ⟨_,rfl,?_⟩ | exact Or.inl ⟨h1,rfl⟩ | exact Or.inl ⟨h2,rfl⟩ | refine Or.inr (Or.inr (Or.inr ⟨_,_,rfl,?_⟩)) | exact Or.inl rfl | refine Or.inr ?_)),rfl⟩
theorem Ax (i:Int) (h:i < 0∨ur.length<=i) :
  aV prog 38 [QP lc ur root L aA named,.v (.int .i64 i)] (.bW [.agg [.v (.int .i64 0),.v (.int .i64 0),.v (.int .i64 0),.v (.int .i64 0),.v (.int .i64 0),.v (.slice none 0 0),.v (.slice none 0 0)],.v (.bool false)]):=by
 have hlen:=oG lc ur root L aA named;refine eG 32 [.cell 4 82,.tmp 5] func38 rfl ntmps38 rfl fun _ _ _ _=>?_;refine br ?_ ?_<;>intro g
 ·refine cP Fk hlen ?_;refine br ?_ ?_<;>intro g2
  ·exact ⟨_,ax,rfl⟩
  ·exfalso;simp at g;simp [pickB,g] at g2;omega
 ·exact ⟨_,ax,rfl⟩
end
abbrev qb (s:Sch) (n d k q:Int) (e:Nat):St:=
 ⟨[aE 1 0,al 3 n,al 4 d,al 5 e],[cC s],[]⟩
theorem vN (s:Sch) (bI:s.wt<=1099511627776):Ev prog 14 [.agg (cC s)] [] [] (fun d _ _=>∃ b:Bool,d = .v (.bool b)):=by
 have h1:=bf s.ae;have h2:=fD s.order;have h3:=gP s.types;simp only [Sch.wt] at bI;have pj:=iC s.root.wt s.root (zLeR _) (by omega);obtain ⟨ae,order,types,⟨h,ps⟩⟩:=s;simp only at h1 h2 h3 bI pj;refine eG 60 [.tmp 2] func14 rfl ntmps14 rfl fun _ _ _ _=>?_;refine br ?_ ?_<;>intro _
 ·exact ⟨true,rfl⟩
 refine cP IE pj ?_;refine aX (fun j st=>∃ (e:Nat) (n d:Int),st=qb ⟨ae,order,types,.mk h ps⟩ n d 0 0 e/\e<=types.length/\j=types.length - e) types.length (qb ⟨ae,order,types,.mk h ps⟩ (Ty.mk h ps).cnt (Ty.mk h ps).deep 0 0 0) (bl wB) ⟨0,_,_,rfl,by omega,by omega⟩ ?_;rintro j st ⟨e,n,d,rfl,he,rfl⟩;refine br ?_ ?_<;>intro hL
 ·have aq:e < types.length:=by have:=hL;simp [cK] at this;exact this
  obtain ⟨w,hw⟩:=gX aq;have CS:=eO (mG hw);have hs:=iC w.2.wt w.2 (zLeR _) (by omega);obtain ⟨w,u,us⟩:=w;simp only at hs;refine iX (dNms_get hw) ?_;refine cP IE hs ?_;refine br ?_ ?_<;>intro _
  ·exact ⟨qb ⟨ae,order,types,.mk h ps⟩ _ _ 0 0 (e + 1),(bl (c8 (aS aq (by omega)))),types.length - (e + 1),by omega,e + 1,_,_,rfl,by omega,rfl⟩
  ·exact ⟨qb ⟨ae,order,types,.mk h ps⟩ _ _ 0 0 (e + 1),(bl (c8 (aS aq (by omega)))),types.length - (e + 1),by omega,e + 1,_,_,rfl,by omega,rfl⟩
 exact ⟨_,rfl⟩
def samePrs:List (Wd × Wd)->List (Wd × Wd)->Bool
 | [],[]=>true
 | x :: r,y :: s=>(decide (x.1.s=y.1.s) && decide (x.2.s=y.2.s)) && samePrs r s
 | _,_=>false
def sameNms:List (Wd × Ty)->List (Wd × Ty)->Bool
 | [],[]=>true
 | x :: r,y :: s=>(decide (x.1.s=y.1.s) && sameTy x.2 y.2) && sameNms r s
 | _,_=>false
def BB (a b:Sch):Bool:=sameWds a.ae b.ae && samePrs a.order b.order && sameTy a.root b.root && sameNms a.types b.types
theorem DE:∃ d,Op.maxDepth=d + 1 + 1 + 1:=⟨Op.maxDepth - 3,by decide⟩
theorem G1 (p q r s:Int) (w:World):(Op.equal 26 (.agg #[.int .i64 p,.int .i64 q]) (.agg #[.int .i64 r,.int .i64 s])).run prog w = .ok (decide (p=r) && decide (q=s)) w:=by
 have hf:prog.underlying 26=some (.struct (prog.fieldsOf 26)):=by simp [Program.fieldsOf,Tryz.underlying26]
 have qB:(prog.fieldsOf 26).toList=[⟨ "E",24,0,false, "", "",0⟩,⟨ "At",3,1,false, "", "",8⟩]:=by simp [Program.fieldsOf,Tryz.underlying26]
 have hs:prog.stoodInHeld 26=false:=by kernel_rfl
 obtain ⟨d,hm⟩:=DE
 have q9:∀ cs:Array Value,∀ off v,cs[off]? = some v->(part 24 cs off).run prog w = .ok v w:=fun cs off v h=>by
  simp [part,Tryz.isAgg24,h]
 have q3:∀ cs:Array Value,∀ off v,cs[off]? = some v->(part 3 cs off).run prog w = .ok v w:=fun cs off v h=>by
  simp [part,Tryz.isAgg3,h]
 unfold Op.equal;rw [hm,run_equalIn_struct w (d + 1 + 1) 26 _ _ hf hs,qB];simp only [Op.eqFields,ne_eq,String.reduceEq,not_false_eq_true,if_true,Sem.run_bind,q9 #[.int .i64 p,.int .i64 q] 0 (.int .i64 p) rfl,q9 #[.int .i64 r,.int .i64 s] 0 (.int .i64 r) rfl,Result.andThen_ok,run_equalIn_int w (d + 1) 24 .i64 .i64 p r Tryz.underlying24];by_cases h:p=r
 ·subst h;have e1:=q3 #[.int .i64 p,.int .i64 q] 1 (.int .i64 q) rfl;have e2:=q3 #[.int .i64 p,.int .i64 s] 1 (.int .i64 s) rfl;have e3:=run_equalIn_int w (d + 1) 3 .i64 .i64 q s Tryz.underlying3;by_cases h2:q=s
  ·subst h2;simp [e1,e3,Sem.run_pure]
  ·simp [e1,e2,e3,h2,Sem.run_pure]
 ·simp [h,Sem.run_pure]
theorem MO (p q r s:Int) (w:World):(binOp .eql 26 (.agg #[.int .i64 p,.int .i64 q]) (.agg #[.int .i64 r,.int .i64 s])).run prog w = .ok (.bool (decide (p=r) && decide (q=s))) w:=by
 show ((do let r <- Op.equal 26 _ _;pure (Value.bool r)):Sem Value).run prog w=_;simp only [Sem.run_bind,G1 p q r s w,Result.andThen_ok,Sem.run_pure]
theorem G2 (op:BinOp) (w:World) (x y:Operand) (vs vs':Array Value):(eqGuard op 26 x y (.agg vs) (.agg vs')).run prog w = .ok () w:=by
 have h:prog.eqGuardType prog.depth 26=false:=by kernel_rfl
 cases op<;>simp [eqGuard,run_program,h]
theorem G3 (x y:Operand) (f g:Ft):uV prog .eql x y 26 [.v (.int .i64 f.1),.v (.int .i64 f.2)] [.v (.int .i64 g.1),.v (.int .i64 g.2)] (decide (f.1=g.1) && decide (f.2=g.2)):=
 ⟨[.int .i64 f.1,.int .i64 f.2],[.int .i64 g.1,.int .i64 g.2],rfl,rfl,fun w=>⟨G2 _ w x y _ _,MO f.1 f.2 g.1 g.2 w⟩⟩
end Go.Proofs.YtfdedoiiahbnnaaGreat
