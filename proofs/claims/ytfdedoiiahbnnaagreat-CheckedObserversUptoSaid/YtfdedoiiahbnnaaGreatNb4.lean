/- Part 4 of the proof: The plain law of closeR: its bits are what is led to; The program's and the reference's check of names that must differ; The table's Find, whole; lattice.many, called, numbered; lattice.best, and the closures of bounds; lattice.bounds: all joins and meets; lattice.Build; Reading a lattice: Len, has, Name, Find, Join, Meet, Bottom; labels.Of; The checker's part, once check is known for lighter types; The checker's parts, once check is known for lighter types; The checker's one and check, once check is known for lighter types; so check; kinds.Count, resolve.nodes; the builder's level; The builder's end, loops, known; The builder's each, right, called; The builder's each of right; called; places; The builder's places; The builder's edge; The builder's node; What resolve.Build says of a schema; lattices in which nothing is wrong; resolve.Build; Reading a plan: Len, Root, Lattice, Node, Find; slices.Clone; of no plan as well; The reference of chapter 17: Great, Same; The program's comparing of schemas; The law's example: a type that leads to itself; The law of no plan: the call returns true. No condition. -/
import Derived.Test.YtfdedoiiahbnnaaGreatNb3
set_option linter.all false
set_option maxRecDepth 100000
namespace Go.Proofs.YtfdedoiiahbnnaaGreat
open Go Go.RowKit Dv Go.Proofs.Tryz
theorem rH {rows:List Nat} {i x a b:Nat} (hi:i < rows.length):aK (rows.set i x) a b=if a=i then x.testBit b else aK rows a b:=by grind [aK]
theorem ld {rows:List Nat} {k a b:Nat} (hk:k < rows.length):aK (ik rows k) a b=(aK rows a b || (decide (a=k) && decide (b=k))):=by
 unfold ik;rw [rH hk];by_cases h:a=k
 ·subst h;rw [zIfP rfl,ig];simp only [decide_true,Bool.true_and];rw [show decide (a=b)=decide (b=a) from by simp only [eq_comm]];rfl
 ·rw [ah h];simp [h]
theorem Dy {rows:List Nat} {k i a b:Nat} (hi:i < rows.length):aK (lE k rows i) a b=(aK rows a b || (decide (a=i) && (aK rows a k && aK rows k b))):=by grind [lE,aK,rH]
theorem uc {rows:List Nat} {k:Nat} (hk:k < rows.length):∀ e,e<=rows.length->∀ a b,aK (eZ rows k e) a b=(aK (ik rows k) a b || (decide (a < e) && (aK (ik rows k) a k && aK (ik rows k) k b)))
 | 0,_,a,b=>by simp [eZ]
 | e + 1,he,a,b=>by
  have ih:=uc hk e (by omega)
  grind [jQ,Dy,la,aK,ik,ld]
inductive pZ (p:Nat->Nat->Prop):Nat->Nat->Prop
 | refl (a:Nat):pZ p a a
 | step {a b c:Nat}:pZ p a b->p b c->pZ p a c
theorem pZ.trans {p:Nat->Nat->Prop} {a b c:Nat} (h1:pZ p a b) (h2:pZ p b c):pZ p a c:=by
 induction h2 with
 | refl=>exact h1
 | step _ h ih=>exact .step ih h
theorem pZ.mono {p q:Nat->Nat->Prop} (h:∀ a b,p a b->pZ q a b) {a b:Nat} (h1:pZ p a b):pZ q a b:=by
 induction h1 with
 | refl=>exact .refl _
 | step _ h2 ih=>exact ih.trans (h _ _ h2)
def wayQ (p:Nat->Nat->Prop):Nat->Nat->Nat->Prop
 | 0,a,b=>a=b∨p a b
 | k + 1,a,b=>wayQ p k a b∨(wayQ p k a k/\wayQ p k k b)
theorem ue {p:Nat->Nat->Prop} (a:Nat):∀ k,wayQ p k a a
 | 0=>.inl rfl
 | k + 1=>.inl (ue a k)
theorem uf {p:Nat->Nat->Prop} {a b:Nat} (h:p a b):∀ k,wayQ p k a b
 | 0=>.inr h
 | k + 1=>.inl (uf h k)
theorem nc {p:Nat->Nat->Prop}:∀ k a b,wayQ p k a b->pZ p a b
 | 0,a,b,h=>by
  rcases h with rfl | h
  ·exact .refl _
  ·exact .step (.refl _) h
 | k + 1,a,b,h=>by
  rcases h with h | ⟨h1,h2⟩
  ·exact nc k a b h
  ·exact (nc k a k h1).trans (nc k k b h2)
theorem jR {p:Nat->Nat->Prop}:∀ k a m b,m < k->wayQ p k a m->wayQ p k m b->wayQ p k a b
 | 0,_,_,_,h,_,_=>by omega
 | k + 1,a,m,b,hm,h1,h2=>by
  by_cases WD:m=k
  ·grind [wayQ]
  ·have j1:m < k:=by omega
   rcases h1 with h1 | ⟨h1,h3⟩
   ·rcases h2 with h2 | ⟨h2,h4⟩
    ·exact .inl (jR k a m b j1 h1 h2)
    ·exact .inr ⟨jR k a m k j1 h1 h2,h4⟩
   ·rcases h2 with h2 | ⟨h2,h4⟩
    ·exact .inr ⟨h1,jR k k m b j1 h3 h2⟩
    ·exact .inr ⟨h1,h4⟩
theorem rI {rows:List Nat}:∀ k,k<=rows.length->∀ a b,a < rows.length->((aK (closeR rows k) a b=true∨a=b)↔wayQ (fun x y=>aK rows x y=true) k a b)/\(a < k->aK (closeR rows k) a a=true)
 | 0,_,a,b,_=>by grind [closeR,wayQ]
 | k + 1,hk,a,b,ha=>by
  have ih:=rI (rows:=rows) k (by omega);have xi:k < (closeR rows k).length:=by rw [dM];omega
  have hb:∀ a b,a < rows.length->aK (closeR rows (k + 1)) a b=(aK (ik (closeR rows k) k) a b || (aK (ik (closeR rows k) k) a k && aK (ik (closeR rows k) k) k b)):=fun a b ha=>by grind [iE,uc,dM]
  have WE:∀ a b,(aK (ik (closeR rows k) k) a b=true∨a=b)↔(aK (closeR rows k) a b=true∨a=b):=fun a b=>by grind [ld]
  have CA:aK (ik (closeR rows k) k) k k=true:=by rw [ld xi];simp
  have key:∀ a b,a < rows.length->((aK (closeR rows (k + 1)) a b=true∨a=b)↔wayQ (fun x y=>aK rows x y=true) (k + 1) a b):=fun a b ha=>by grind [wayQ]
  refine ⟨key a b ha,fun hak=>?_⟩;rw [hb a a ha];by_cases h:a=k
  ·subst h;rw [CA];all_goals rfl
  ·have:=(ih a a ha).2 (by omega);rw [ld xi,this];all_goals rfl
theorem Aj {rows:List Nat} (hb:∀ a b,a < rows.length->aK rows a b=true->b < rows.length) {a b:Nat} (ha:a < rows.length) (hbl:b < rows.length):aK (closeR rows rows.length) a b=true↔pZ (fun x y=>x < rows.length/\aK rows x y=true) a b:=by
 have hw:=rI (rows:=rows) rows.length (zLeR _) a b ha;have h1:aK (closeR rows rows.length) a b=true↔wayQ (fun x y=>aK rows x y=true) rows.length a b:=by grind
 rw [h1];constructor
 ·intro h
  have ap:∀ {x},pZ (fun x y=>aK rows x y=true) a x->pZ (fun x y=>x < rows.length/\aK rows x y=true) a x/\x < rows.length:=by
   intro x hx
   induction hx with
   | refl=>exact ⟨.refl _,ha⟩
   | step _ h2 ih=>exact ⟨.step ih.1 ⟨ih.2,h2⟩,hb _ _ ih.2 h2⟩
  exact (ap (nc _ _ _ h)).1
 ·intro h
  have:wayQ (fun x y=>aK rows x y=true) rows.length a b/\b < rows.length:=by
   clear h1 hw hbl
   induction h with
   | refl=>exact ⟨ue _ _,ha⟩
   | step _ h2 ih=>exact ⟨jR _ _ _ _ ih.2 ih.1 (uf h2.2 _),hb _ _ h2.1 h2.2⟩
  exact this.1
theorem GB {rows:List Nat} {p:Nat × Nat} {a b:Nat} (hp:p.1 < rows.length):aK (rC rows p) a b=(aK rows a b || (decide (a=p.1) && decide (b=p.2))):=by
 unfold rC;rw [rH hp];by_cases h:a=p.1
 ·subst h;rw [zIfP rfl,ig];simp only [decide_true,Bool.true_and];rw [show decide (p.2=b)=decide (b=p.2) from by simp only [eq_comm]];rfl
 ·rw [ah h];simp [h]
theorem ug:∀ (l:List (Nat × Nat)) (rows:List Nat) (a b:Nat),(∀ p∈l,p.1 < rows.length)->(aK (l.foldl rC rows) a b=true↔aK rows a b=true∨(a,b)∈l)
 | [],_,_,_,_=>by simp
 | p :: l,rows,a,b,h=>by
  rw [List.foldl_cons,ug l _ a b (fun q hq=>by rw [mZ];exact h q (by simp [hq])),GB (h p (by simp))]
  grind
theorem rJ {n:Nat} {l:List (Nat × Nat)} (h:∀ p∈l,p.1 < n) (a b:Nat):aK (dL n l) a b=true↔(a,b)∈l:=by grind [dL,ug,aK]
def du (n:Nat) (l:List (Nat × Nat)) (a b:Nat):Bool:=aK (closeR (dL n l) n) a b
def oo (n:Nat) (l:List (Nat × Nat)):Prop:=∀ p∈l,p.1 < n/\p.2 < n
theorem ky {n:Nat} {l:List (Nat × Nat)} (h:oo n l) {a b:Nat} (ha:a < n) (hb:b < n):du n l a b=true↔pZ (fun x y=>(x,y)∈l) a b:=by
 have hlen:(dL n l).length=n:=ij n l;unfold du
 have:=Aj (rows:=dL n l) (fun a b _ Gv=>by
  rw [rJ (fun p hp=>(h p hp).1)] at Gv
  rw [hlen];exact (h _ Gv).2) (a:=a) (b:=b) (by omega) (by omega)
 rw [hlen] at this;rw [this];constructor
 ·exact pZ.mono fun x y Ep=>.step (.refl _) ((rJ (fun p hp=>(h p hp).1) x y).1 Ep.2)
 ·exact pZ.mono fun x y Ep=>.step (.refl _) ⟨(h _ Ep).1,(rJ (fun p hp=>(h p hp).1) x y).2 Ep⟩
theorem oq {n:Nat} {l:List (Nat × Nat)} (h:oo n l) {a:Nat} (ha:a < n):du n l a a=true:=(ky h ha ha).2 (.refl _)
theorem Ak {n:Nat} {l:List (Nat × Nat)} (h:oo n l) {a b c:Nat} (ha:a < n) (hb:b < n) (hc:c < n) (h1:du n l a b=true) (h2:du n l b c=true):du n l a c=true:=
 (ky h ha hc).2 (((ky h ha hb).1 h1).trans ((ky h hb hc).1 h2))
def iF (n:Nat) (f:Nat->Nat->Bool) (a:Nat):Bool:=(List.range n).any fun b=>decide (a≠b) && (f a b && f b a)
theorem GC {n:Nat} {l:List (Nat × Nat)} (hn:n<=64) (h:oo n l) {a:Nat} (ha:a < n):na (closeR (dL n l) n) a=iF n (du n l) a:=by
 have hlen:(closeR (dL n l) n).length=n:=by rw [dM,ij]
 unfold na iF;rw [Gz,hlen,Bool.eq_iff_iff,decide_eq_true_eq]
 have UA:(backN (closeR (dL n l) n) a n).testBit a=true:=by
  rw [oi];have:aK (closeR (dL n l) n) a a=true:=oq h ha;simp [ha,this]
 rw [x6 _ a UA 64 (by omega)];simp only [List.any_eq_true,List.mem_range,bA,decide_eq_true_eq,oi];constructor
 ·rintro ⟨b,_,bi,hb,h1,h2⟩;exact ⟨b,hb,fun e=>bi e.symm,h1,h2⟩
 ·rintro ⟨b,hb,bi,h1,h2⟩;exact ⟨b,by omega,fun e=>bi e.symm,hb,h1,h2⟩
theorem vK {p q:Nat->Bool} {n:Nat} (h:∀ a,a < n->p a=q a):bE p n=bE q n:=by
 unfold bE
 have:∀ (l:List Nat),(∀ a∈l,p a=q a)->l.find? p=l.find? q:=by
  intro l
  induction l with
  | nil=>intro _;rfl
  | cons x r ih=>grind
 grind
theorem Jf {n:Nat} {l:List (Nat × Nat)} (hn:n<=64) (h:oo n l):bE (na (closeR (dL n l) n)) n=bE (iF n (du n l)) n:=
 vK fun _ ha=>GC hn h ha
def e9 (r:List Bool) (p:Nat × Nat):List Bool:=if r.getD p.1 false then r.set p.2 true else r
def fJ (l:List (Nat × Nat)) (r:List Bool):List Bool:=l.foldl e9 r
def cf (l:List (Nat × Nat)) (r:List Bool) (k:Nat):List Bool:=(List.range k).foldl (fun r _=>fJ l r) r
def pJ (n:Nat) (l:List (Nat × Nat)) (a:Nat):List Bool:=cf l ((List.replicate n false).set a true) n
theorem dw (l:List (Nat × Nat)) (r:List Bool) (k:Nat):cf l r (k + 1)=fJ l (cf l r k):=by simp [cf,List.range_succ]
theorem jd (r:List Bool) (p:Nat × Nat):(e9 r p).length=r.length:=by unfold e9;split<;>simp
theorem lX (l:List (Nat × Nat)):∀ r,(fJ l r).length=r.length:=by
 induction l with
 | nil=>intro r;rfl
 | cons p l ih=>intro r;simp only [fJ,List.foldl_cons] at ih ⊢;rw [ih,jd]
theorem dO (l:List (Nat × Nat)) (r:List Bool):∀ k,(cf l r k).length=r.length
 | 0=>by simp [cf]
 | k + 1=>by rw [dw,lX,dO]
theorem nd (n:Nat) (l:List (Nat × Nat)) (a:Nat):(pJ n l a).length=n:=by simp [pJ,dO]
def HZ (r s:List Bool):Prop:=∀ i:Nat,r.getD i false=true->s.getD i false=true
theorem il {r:List Bool} {i j:Nat} (hi:i < r.length):(r.set i true).getD j false=(decide (j=i) || r.getD j false):=by grind
theorem x8 {r:List Bool} {p:Nat × Nat} (hp:p.2 < r.length):HZ r (e9 r p):=by
 intro i hi
 grind [e9,il]
theorem lf:∀ {l:List (Nat × Nat)} {r:List Bool},(∀ p∈l,p.2 < r.length)->HZ r (fJ l r)
 | [],r,_,i,hi=>hi
 | p :: l,r,h,i,hi=>by
  have:HZ (e9 r p) (fJ l (e9 r p)):=lf fun q hq=>by rw [jd];exact h q (by simp [hq])
  exact this i (x8 (h p (by simp)) i hi)
def pK (r:List Bool):Nat:=r.countP (fun x=>x)
theorem cntB_le (r:List Bool):pK r<=r.length:=List.countP_le_length
theorem leB_eq:∀ {r s:List Bool},r.length=s.length->HZ r s->(r=s∨pK r < pK s)/\pK r<=pK s
 | [],[],_,_=>⟨.inl rfl,zLeR _⟩
 | x :: r,y :: s,hl,h=>by
  have wE:r.length=s.length:=sU hl;have ih:=leB_eq wE (fun i hi=>by simpa using h (i + 1) (sU hi));have h0:x=true->y=true:=fun hx=>by simpa using h 0 (sU hx)
  grind [pK]
 | [],_ :: _,h,_=>by simp at h
 | _ :: _,[],h,_=>by simp at h
theorem x9 {r s:List Bool} (hl:r.length=s.length) (h1:HZ r s) (h2:HZ s r):r=s:=by
 rcases (leB_eq hl h1).1 with h | h
 ·exact h
 ·have:=(leB_eq hl.symm h2).2;omega
theorem rK:∀ {l:List (Nat × Nat)} {r:List Bool},(∀ p∈l,p.2 < r.length)->fJ l r=r->∀ p∈l,r.getD p.1 false=true->r.getD p.2 false=true
 | [],_,_,_,p,hp,_=>by cases hp
 | q :: l,r,h,he,p,hp,h1=>by
  have hq:=h q (by simp);have hl:∀ p∈l,p.2 < (e9 r q).length:=fun p hp=>by rw [jd];exact h p (by simp [hp])
  have hs:e9 r q=r:=by
   have h2:HZ (e9 r q) r:=by
    have:=lf hl
    grind [fJ,e9]
   grind [x9,jd,x8]
  rcases cY hp with rfl | hp
  ·grind [e9,il]
  ·have LZ:fJ l r=r:=by grind [fJ,e9]
   exact rK (fun p hp=>h p (by simp [hp])) LZ p hp h1
theorem pf {l:List (Nat × Nat)} {r:List Bool} (h:∀ p∈l,p.2 < r.length):∀ k,fJ l (cf l r k)=cf l r k∨pK r + k<=pK (cf l r k)
 | 0=>.inr (by simp [cf])
 | k + 1=>by
  have hk:∀ p∈l,p.2 < (cf l r k).length:=fun p hp=>by rw [dO];exact h p hp
  rcases pf h k with h1 | h1
  ·left;rw [dw,h1,h1]
  ·rcases (leB_eq (lX l _).symm (lf hk)).1 with h2 | h2
   ·left;rw [dw,<- h2,<- h2]
   ·right;rw [dw];omega
theorem Dz {l:List (Nat × Nat)} {a:Nat} {r:List Bool} {p:Nat × Nat} (hp:p∈l) (hl:p.2 < r.length) (h:∀ i,r.getD i false=true->pZ (fun x y=>(x,y)∈l) a i):∀ i,(e9 r p).getD i false=true->pZ (fun x y=>(x,y)∈l) a i:=by
 intro i hi;unfold e9 at hi;split at hi
 ·rename_i h1;rw [il hl] at hi;simp only [Bool.or_eq_true,decide_eq_true_eq] at hi;rcases hi with rfl | hi
  ·exact .step (h _ h1) hp
  ·exact h i hi
 ·exact h i hi
theorem rL {l:List (Nat × Nat)} {a:Nat}:∀ (m:List (Nat × Nat)) {r:List Bool},(∀ p∈m,p∈l/\p.2 < r.length)->(∀ i,r.getD i false=true->pZ (fun x y=>(x,y)∈l) a i)->∀ i,(fJ m r).getD i false=true->pZ (fun x y=>(x,y)∈l) a i
 | [],_,_,h=>h
 | p :: m,r,hm,h=>rL m (r:=e9 r p) (fun q hq=>by rw [jd];exact hm q (by simp [hq])) (Dz (hm p (by simp)).1 (hm p (by simp)).2 h)
theorem pg {l:List (Nat × Nat)} {a:Nat} {r:List Bool} (hl:∀ p∈l,p.2 < r.length) (h:∀ i,r.getD i false=true->pZ (fun x y=>(x,y)∈l) a i):∀ k i,(cf l r k).getD i false=true->pZ (fun x y=>(x,y)∈l) a i
 | 0=>by simpa [cf] using h
 | k + 1=>by
  rw [dw];exact rL l (fun p hp=>⟨hp,by rw [dO];exact hl p hp⟩) (pg hl h k)
theorem rM {l:List (Nat × Nat)} {r:List Bool} (hl:∀ p∈l,p.2 < r.length):∀ k,HZ r (cf l r k)
 | 0=>by intro i hi;simpa [cf] using hi
 | k + 1=>fun i hi=>by
  rw [dw];exact lf (fun p hp=>by rw [dO];exact hl p hp) i (rM hl k i hi)
theorem GD {n a:Nat} (ha:a < n):1<=pK ((List.replicate n false).set a true):=by grind [pK]
theorem GF {n:Nat} {l:List (Nat × Nat)} (h:oo n l) {a b:Nat} (ha:a < n) (hb:b < n):(pJ n l a).getD b false=du n l a b:=by
 have hl:∀ p∈l,p.2 < ((List.replicate n false).set a true).length:=fun p hp=>by simp;exact (h p hp).2
 have wH:a < (List.replicate n false).length:=by simp [ha]
 rw [Bool.eq_iff_iff,ky h ha hb];constructor
 ·refine pg hl (fun i hi=>?_) n b;rw [il wH] at hi;simp only [Bool.or_eq_true,decide_eq_true_eq] at hi;rcases hi with rfl | hi
  ·exact .refl _
  all_goals grind
 ·have UB:fJ l (pJ n l a)=pJ n l a:=by
   rcases pf hl n with h1 | h1
   ·exact h1
   ·grind [cntB_le,cf,dO,GD]
  have gM:=rK (fun p hp=>by rw [nd];exact (h p hp).2) UB;intro hr;have UA:(pJ n l a).getD a false=true:=rM hl n a (by rw [il wH];simp);clear hb
  induction hr with
  | refl=>exact UA
  | step _ h2 ih=>exact gM _ h2 ih
def cH (n:Nat) (f:Nat->Nat->Bool):List (List Bool):=(List.range n).map fun a=>(List.range n).map (f a)
theorem Jg {n:Nat} {l:List (Nat × Nat)} (h:oo n l) {a:Nat} (ha:a < n):pJ n l a=(List.range n).map (du n l a):=by
 refine List.ext_getElem? fun i=>?_;by_cases hi:i < n
 ·have:=GF h ha hi
  grind [nd]
 ·grind [nd]
theorem ya {n:Nat} {f:Nat->Nat->Bool} {a:Nat} (ha:a < n):(cH n f)[a]? = some ((List.range n).map (f a)):=by
 simp [cH,List.getElem?_range ha]
theorem DA {l:List Wd} {i:Nat} {x:Wd} (h:l[i]? = some x):al (l.take (i + 1))=al (l.take i) ++ [x.s]:=by
 rw [List.take_add_one,h];simp [al]
theorem Jh (l:List Wd) (s:ByteArray):bR l s=true↔s∈al l:=by grind [bR,al]
theorem jS {l:List Wd} {i:Nat} {x:Wd} (h:l[i]? = some x) (hn:(al (l.take i)).Nodup):(al (l.take (i + 1))).Nodup↔bR (l.take i) x.s=false:=by grind [DA,bR,Jh]
theorem ui {l:List Wd} {i:Nat} {x:Wd} (a:Int) (h:l[i]? = some x) (hn:(al (l.take i)).Nodup) :
  eV (al (l.take (i + 1))) x.s a=if aA l i x≠0 then (aA l i x,a) else (0,0):=by
 have hs:=jS h hn;unfold eV aA;by_cases h1:aX x.s=true
 ·grind
 ·rw [ah h1,ah h1];all_goals rfl
theorem jT {l:List Wd} {i:Nat} {x:Wd} (h:l[i]? = some x) (hn:(al (l.take i)).Nodup) (hz:aA l i x=0):(al (l.take (i + 1))).Nodup:=by grind [jS,aA,aX,bR]
theorem uj (l:List Wd):∀ (d e:Nat),e + d=l.length->(enumP l e)=(0,0)->(al (l.take e)).Nodup->enumP l l.length=enumL l e (l.drop e)
 | 0,e,hd,hz,hn=>by
  have:e=l.length:=by omega
  subst this;rw [hz,List.drop_length];all_goals rfl
 | d + 1,e,hd,hz,hn=>by
  obtain ⟨x,hx⟩:∃ x,l[e]? = some x:=⟨_,gE (by omega)⟩;have h1:=rm (by rw [hz]) hx;rw [ui x.a hx hn] at h1;rw [drop_cons hx];simp only [enumL];by_cases hf:aA l e x≠0
  ·rw [zIfP hf] at h1 ⊢;have hst:=lT (l:=l) (e:=e + 1) (by rw [h1];exact hf) d
   grind
  ·rw [ah hf] at h1 ⊢;exact uj l d (e + 1) (by omega) h1 (jT hx hn (sU hf))
theorem GG (h:Hd):kv h=fD h:=by
 unfold kv fD;by_cases h0:h.af=[]
 ·rw [zIfP h0,zIfP (by simp [h0])]
 ·rw [ah h0,ah (sU h0)];by_cases h1:64 < h.af.length
  ·rw [zIfP h1,zIfP h1]
  ·rw [ah h1,ah h1];have:=uj h.af h.af.length 0 (by omega) rfl (by simp [al]);simpa using this
def lY (p:Ph):Ph:=⟨p.name,true,[],0,0,0,0,[]⟩
theorem Ji (p:Ph) (t:Ty):cq p t (lY p) bU=(bQ p gw && sameTy t bU):=by grind [bQ,lY,gw,cq]
theorem empty_eq (p:Ph):cq p bU dJ bU=(decide (p.name.s=aJ) && bQ p dJ):=by
 have e:sameTy bU bU=true:=by simp [bU,FL,sameTy,iL,samePts,sameWds]
 simp only [cq,e,Bool.and_true];rfl
def bV (L:List ByteArray) (s:ByteArray):Option Nat:=bE (fun i=>decide (L[i]? = some s)) L.length
theorem cC {L:List ByteArray} {s:ByteArray} {p:Nat} (h:bV L s=some p):p < L.length/\L[p]? = some s/\∀ j,L[j]? = some s->p<=j:=by
 obtain ⟨h1,h2,h3⟩:=dN h
 grind
theorem p8 {L:List ByteArray} {s:ByteArray} {p:Nat} (h1:L[p]? = some s) (h2:∀ j,L[j]? = some s->p<=j):bV L s=some p:=by
 refine cg (gS h1).1 (sU h1) fun a ha=>?_
 grind
theorem lg {L:List ByteArray} {s:ByteArray} (h:∀ j:Nat,L[j]? ≠ some s):bV L s=none:=cA fun a _=>by simpa using h a
theorem sQ {L:List ByteArray} {s:ByteArray}:bV L s=none↔s ∉ L:=by
 constructor
 ·intro h hm;obtain ⟨j,hj⟩:=List.mem_iff_getElem?.1 hm
  grind [bV,bE]
 ·grind [lg]
theorem fK (L:List ByteArray) (az:List Nat) (s:ByteArray) (hT:fo L az) (hl:az.length<=1099511627776) :
  aV prog 112 [.pt (cd L az) 0,.v (.string s)] (GA (bV L s)):=by
 by_cases hm:s∈L
 ·obtain ⟨j,hj⟩:=List.mem_iff_getElem?.1 hm;obtain ⟨q,p,hq,hp⟩:=hT.all j s hj;rw [p8 hp fun j' gN=>hT.fst q p j' s hq hp gN];exact find_spec L az s q p hT hl hq hp
 rw [lg fun j hj=>hm (mG hj)]
 let pr:Nat->Prop:=fun i=>i=az.length∨∃ p t,az[i]? = some p/\L[p]? = some t/\vn t s=false
 obtain ⟨m,iw,zt⟩:=least (p:=pr) ⟨az.length,.inl rfl⟩;have hmn:m<=az.length:=zt _ (.inl rfl);refine eG 47 [.tmp 4,.tmp 5] func112 rfl ntmps112 rfl fun _ _ _ _=>?_
 have gM:∀ i:Nat,i < az.length->aV prog 201 [.v (.int .i64 i),.pt [.pt (cd L az) 0] 0,.pt [.v (.string s)] 0] (.v (.bool (decide (m<=i)))):=by
  intro i hi;obtain ⟨p',sN⟩:∃ p',az[i]? = some p':=⟨_,gE hi⟩;obtain ⟨t,ht⟩:∃ t,L[p']? = some t:=⟨_,gE (hT.lt i p' sN)⟩;have:=q5 L az s i p' t sN ht
  have e:(!vn t s)=decide (m<=i):=by
   by_cases h:m<=i
   ·have:vn t s=false:=by
     rcases iw with iw | ⟨p,u,h1,h2,h3⟩
     ·omega
     ·rcases Nat.lt_or_eq_of_le h with h4 | h4
      ·have h5:=hT.T4 m i p p' u t h4 h1 sN h2 ht;cases h6:vn t s
       ·rfl
       ·grind [eu,vn]
      ·grind
    simp [this,h]
   ·grind
  rw [e] at this;exact this
 have hS:=o6 201 Ku [.pt [.pt (cd L az) 0] 0,.pt [.v (.string s)] 0] az.length m hl hmn ax rfl gM;refine vl Kt hS (pW (aY az)) rfl ?_;refine dI ?_;refine br ?_ ?_<;>intro h
 ·have ap:m < az.length:=by grind [dInts,aY]
  rcases iw with iw | ⟨p,t,h1,h2,h3⟩
  ·omega
  refine iX (bY h1) ?_;refine iX (eT h2) ?_;refine br ?_ ?_<;>intro h4
  ·exact ⟨_,ax,rfl⟩
  ·grind [aj]
 ·exact ⟨_,ax,rfl⟩
def ek (l:List Wd) (o:List (Wd × Wd)):Ft:=
 if l=[] then (15,0)
 else if 32 < l.length then (8,((l[32]?).getD (⟨aJ,0⟩:Wd)).a)
 else if 256 < o.length then (8,((o[256]?).getD ((⟨aJ,0⟩,⟨aJ,0⟩):Wd × Wd)).1.a)
 else (0,0)
theorem DB (l:List Wd) (o:List (Wd × Wd)):aV prog 123 [.sl 2 (bm l) none,.sl 4 (j4 o) none] (ek l o).d:=by
 refine eG 30 [.cell 4 26] func123 rfl ntmps123 rfl fun _ _ _ _=>?_;refine br ?_ ?_<;>intro h
 ·have h:l=[]:=by simpa [ak] using h
  refine ⟨_,?_,rfl⟩;rw [ek,zIfP h];exact ax
 have h:¬ l=[]:=by simpa [ak] using h
 refine br ?_ ?_<;>intro h1
 ·have h1:32 < l.length:=by simp [ak] at h1;omega
  obtain ⟨x,hx⟩:∃ x,l[32]? = some x:=⟨_,gE h1⟩;refine ⟨gm x,⟨by omega,aH hx⟩,?_⟩;refine ⟨_,?_,rfl⟩;rw [ek,ah h,zIfP h1,hx];exact ax
 have h1:¬ 32 < l.length:=by simp [ak] at h1;omega
 refine br ?_ ?_<;>intro h2
 ·have h2:256 < o.length:=by simp [ej] at h2;omega
  obtain ⟨x,hx⟩:∃ x,o[256]? = some x:=⟨_,gE h2⟩;refine ⟨Ex x,⟨by omega,eX hx⟩,?_⟩;refine ⟨_,?_,rfl⟩;rw [ek,ah h,ah h1,zIfP h2,hx];exact ax
 have h2:¬ 256 < o.length:=by simp [ej] at h2;omega
 refine ⟨_,?_,rfl⟩;rw [ek,ah h,ah h1,ah h2];exact ax
def Qy (f:Ft) (L:List ByteArray):DV:=.bS [if f.1=0 then .sl 1 (dB L) none else .v (.slice none 0 0),f.d]
abbrev KV (l:List Wd) (n e:Nat):St:=
 ⟨[aF 3 0,(4,⟨[],.sl 1 (dB (al (l.take e))) (some 0)⟩),aS 7 2 (bm l),aq 8 ((bm l).length),aq 9 e],[[.v (.int .i64 0),.v (.int .i64 0)]],[⟨n,9,1,none⟩]⟩
theorem lZ {all:List Wd} {e:Nat} {w:Wd} (h:all[e]? = some w):enumL all e (all.drop e)=if aA all e w≠0 then (aA all e w,w.a) else enumL all (e + 1) (all.drop (e + 1)):=by
 rw [drop_cons h,enumL]
theorem yb (l:List Wd) (hs:wdsWt l<=1099511627776):aV prog 124 [.sl 2 (bm l) none] (Qy (enumL l 0 l) (al l)):=by
 have nV:=bd l;refine eG 36 [.tmp 2,.cell 3 26] func124 rfl ntmps124 rfl fun _ _ _ _=>?_;refine lI (fun j st=>∃ e:Nat,st=KV l e e/\e<=l.length/\(al (l.take e)).Nodup/\enumL l 0 l=enumL l e (l.drop e)/\j=l.length - e) ⟨0,rfl,by omega,by simp [al],rfl,rfl⟩ (dG ⟨0,9,1,none⟩ rfl ⟨_,rfl⟩ rfl wA rfl rfl pE) ?_;rintro j st ⟨e,rfl,he,hnd,aD,rfl⟩;rw [aD];refine br ?_ ?_<;>intro hL
 ·have ap:e < l.length:=by simpa [ak] using hL
  obtain ⟨w,hw⟩:=gX ap;have KN:=fA (mG hw);have k0:=gP hw;have hst:=lZ hw;have zc:=jS hw hnd;have GH:=lS (al (l.take (e + 1))) (by simp [al];omega);rw [<- k0] at GH;refine ⟨gm w,⟨by omega,aH hw⟩,?_⟩;refine ⟨by simp [bP,al];omega,⟨by simp [bP,al,maxLen];omega,by simp [bP,al];omega⟩,?_⟩;refine cP CP (fC w.s (by omega)) ?_;refine br ?_ ?_<;>intro hN
  ·have hN:aX w.s=false:=sU hN;have hf:aA l e w=9:=by simp [aA,hN]
   rw [hst,hf,zIfP (by decide)];refine dS ?_;exact ⟨_,ax,rfl⟩
  ·have hN:aX w.s=true:=sU hN;refine gq Fw rfl GH ax (fun r hr=>?_);obtain ⟨z,rfl,hz⟩:=hr;refine br ?_ ?_<;>intro h2
   ·have h2:0<=z:=sU h2;have hd:bR (l.take e) w.s=true:=by grind
    have hf:aA l e w=10:=by simp [aA,hN,hd]
    rw [hst,hf,zIfP (by decide)];refine dS ?_;exact ⟨_,ax,rfl⟩
   ·have h2:¬ 0<=z:=sU h2;have sO:(al (l.take (e + 1))).Nodup:=Classical.byContradiction fun hn=>h2 (hz.2 hn);have hf:aA l e w=0:=by simp [aA,hN,zc.1 sO]
    rw [hf,ah (by simp)] at hst;refine ⟨KV l (e + 1) (e + 1),(bc (hY (aT ap (by omega)) k0)),l.length - (e + 1),by omega,e + 1,rfl,by omega,sO,hst,rfl⟩
 ·have hge:e=l.length:=by
   have:=hL;simp [ak] at this;omega
  have h0:enumL l e (l.drop e)=(0,0):=by rw [hge,List.drop_length];all_goals rfl
  rw [h0];have ht:l.take e=l:=by rw [hge,List.take_length]
  rw [ht];exact ⟨_,ax,rfl⟩
def numF (L:List ByteArray):List (Wd × Wd)->Ft
 | []=>(0,0)
 | p :: r=>if bV L p.1.s=none then (17,p.1.a) else if bV L p.2.s=none then (17,p.2.a) else numF L r
def MI (L:List ByteArray) (p:Wd × Wd):Nat × Nat:=((bV L p.1.s).getD 0,(bV L p.2.s).getD 0)
def cv (L:List ByteArray) (o:List (Wd × Wd)):List (Nat × Nat):=o.map (MI L)
def Qz (f:Ft) (l:List (Nat × Nat)):DV:=.bS [if f.1=0 then .sl 2 (jO l) none else .v (.slice none 0 0),f.d]
theorem uk {L:List ByteArray} {o:List (Wd × Wd)} {e a b:Nat} {x:Wd × Wd} (h:o[e]? = some x) (ha:bV L x.1.s=some a) (hb:bV L x.2.s=some b):jO (cv L (o.take e)) ++ [[DV.v (.int .i64 (a:Int)),DV.v (.int .i64 (b:Int))]]=jO (cv L (o.take (e + 1))):=by
 rw [List.take_add_one,h];simp [jO,cv,MI,ha,hb,Ux]
abbrev KW (L:List ByteArray) (az:List Nat) (o:List (Wd × Wd)) (n e:Nat):St:=
 ⟨[qO 0 (cd L az),aF 5 0,(6,⟨[],.sl 2 (jO (cv L (o.take e))) (some 0)⟩),aS 12 4 (j4 o),aq 13 ((j4 o).length),aq 14 e],[[.v (.int .i64 0),.v (.int .i64 0)]],[⟨n,285,2,none⟩]⟩
theorem sR (L:List ByteArray) (az:List Nat) (hT:fo L az) (hl:az.length<=1099511627776) (o:List (Wd × Wd)) (hs:prsWt o<=1099511627776) :
  aV prog 126 [.pt (cd L az) 0,.sl 4 (j4 o) none] (Qz (numF L o) (cv L o)):=by
 have nV:=fG o;refine eG 55 [.tmp 4,.cell 5 26] func126 rfl ntmps126 rfl fun _ _ _ _=>?_;refine lI (fun j st=>∃ e:Nat,st=KW L az o e e/\e<=o.length/\numF L o=numF L (o.drop e)/\j=o.length - e) ⟨0,rfl,by omega,rfl,rfl⟩ (dG ⟨0,285,2,none⟩ rfl ⟨_,rfl⟩ rfl wA rfl rfl pE) ?_;rintro j st ⟨e,rfl,he,aD,rfl⟩;rw [aD];refine br ?_ ?_<;>intro hL
 ·have ap:e < o.length:=by simpa [ej] using hL
  obtain ⟨w,hw⟩:=gX ap;have hst:numF L (o.drop e)=if bV L w.1.s=none then (17,w.1.a) else if bV L w.2.s=none then (17,w.2.a) else numF L (o.drop (e + 1)):=by rw [drop_cons hw,numF]
  have Ew:=fK L az w.1.s hT hl;have sM:=fK L az w.2.s hT hl;refine ⟨Ex w,⟨by omega,eX hw⟩,?_⟩
  cases ha:bV L w.1.s with
  | none=>
   rw [ha] at Ew;refine cP km Ew ?_;rw [hst,zIfP ha];refine dS ?_;exact ⟨_,ax,rfl⟩
  | some a=>
   rw [ha] at Ew;refine cP km Ew ?_
   cases hb:bV L w.2.s with
   | none=>
    rw [hb] at sM;refine cP km sM ?_;rw [hst,ah (by rw [ha];simp),zIfP hb];refine dS ?_;exact ⟨_,ax,rfl⟩
   | some b=>
    rw [hb] at sM;refine cP km sM ?_;rw [ah (by rw [ha];simp),ah (by rw [hb];simp)] at hst;refine ⟨by simp [eY,cv];omega,⟨by simp [eY,cv,maxLen];omega,by simp [eY,cv];omega⟩,?_⟩;refine ⟨KW L az o (e + 1) (e + 1),(bc (hY (aT ap (by omega)) (uk hw ha hb))),o.length - (e + 1),by omega,e + 1,rfl,by omega,hst,rfl⟩
 ·have hge:e=o.length:=by
   have:=hL;simp [ej] at this;omega
  have h0:numF L (o.drop e)=(0,0):=by rw [hge,List.drop_length];all_goals rfl
  rw [h0];have ht:o.take e=o:=by rw [hge,List.take_length]
  rw [ht];exact ⟨_,ax,rfl⟩
def cZ (l:List Int):List DV:=l.map fun z=>DV.v (.int .i64 z)
def Al (af:List ByteArray) (tb lq:DV) (js:List Int):List DV:=.sl 1 (dB af) none :: tb :: lq :: cZ js
def oz:Option Nat->Int
 | none=>-1
 | some k=>(k:Int)
def yc (pb:Nat->Nat->Bool) (e:Nat):Option Nat->Bool
 | none=>true
 | some o=>pb e o
def bestA (iN:Nat->Bool) (pb:Nat->Nat->Bool):Nat->Option Nat
 | 0=>none
 | e + 1=>if iN e && yc pb e (bestA iN pb e) then some e else bestA iN pb e
def kz (iN:Nat->Bool) (pb:Nat->Nat->Bool) (n:Nat):Option Nat:=
 match bestA iN pb n with
 | none=>none
 | some o=>if (List.range n).any (fun c=>iN c && !pb o c) then none else some o
theorem kA {iN:Nat->Bool} {pb:Nat->Nat->Bool}:∀ {e k:Nat},bestA iN pb e=some k->k < e
 | 0,k,h=>by cases h
 | e + 1,k,h=>by
  rw [bestA] at h;split at h
  ·simp only [oI] at h;omega
  ·have:=kA h;omega
theorem ou (af:List ByteArray) (tb:DV) (rows:List Nat) (js:List Int) (hr:dc rows) (a b:Nat) (ha:a < rows.length) (hb:b < rows.length) :
  aV prog 211 [.v (.int .i64 a),.v (.int .i64 b),.pt [.pt (Al af tb (j6 rows) js) 0] 0] (.v (.bool (aK rows a b))):=by
 have h1:=ja rows hr a b;rw [mX ha hb] at h1;refine eG 13 [.tmp 5] func211 rfl ntmps211 rfl fun _ _ _ _=>?_;refine cP xC h1 ?_;exact (rfl:_=_)
theorem ov (af:List ByteArray) (tb:DV) (rows:List Nat) (js:List Int) (hr:dc rows) (a b:Nat) (ha:a < rows.length) (hb:b < rows.length) :
  aV prog 213 [.v (.int .i64 a),.v (.int .i64 b),.pt [.pt (Al af tb (j6 rows) js) 0] 0] (.v (.bool (aK rows b a))):=by
 have h1:=ja rows hr b a;rw [mX hb ha] at h1;refine eG 13 [.tmp 5] func213 rfl ntmps213 rfl fun _ _ _ _=>?_;refine cP xC h1 ?_;exact (rfl:_=_)
abbrev KX (L:List DV):DV:=.fn 211 [] [.pt [.pt L 0] 0]
abbrev KY (L:List DV):DV:=.fn 213 [] [.pt [.pt L 0] 0]
theorem DC (af:List ByteArray) (tb:DV) (rows:List Nat) (js:List Int) (hr:dc rows) (a b c:Nat) (ha:a < rows.length) (hb:b < rows.length) (hc:c < rows.length) :
  aV prog 215 [.v (.int .i64 c),.pt [KX (Al af tb (j6 rows) js)] 0,.pt [.v (.int .i64 a)] 0,.pt [.v (.int .i64 b)] 0] (.v (.bool (aK rows a c && aK rows b c))):=by
 have h1:=ou af tb rows js hr a c ha hc;have h2:=ou af tb rows js hr b c hb hc;refine eG 16 [.tmp 5] func215 rfl ntmps215 rfl fun _ _ _ _=>?_;refine cP FE h1 ?_;refine br ?_ ?_<;>intro g
 ·have g:aK rows a c=true:=sU g;refine cP FE h2 ?_;refine (cj ?_:);simp [g,pickB]
 ·have g:aK rows a c=false:=sU g;refine (cj ?_:);simp [g,pickB]
theorem DD (af:List ByteArray) (tb:DV) (rows:List Nat) (js:List Int) (hr:dc rows) (a b c:Nat) (ha:a < rows.length) (hb:b < rows.length) (hc:c < rows.length) :
  aV prog 216 [.v (.int .i64 c),.pt [KY (Al af tb (j6 rows) js)] 0,.pt [.v (.int .i64 a)] 0,.pt [.v (.int .i64 b)] 0] (.v (.bool (aK rows c a && aK rows c b))):=by
 have h1:=ov af tb rows js hr a c ha hc;have h2:=ov af tb rows js hr b c hb hc;refine eG 16 [.tmp 5] func216 rfl ntmps216 rfl fun _ _ _ _=>?_;refine cP FG h1 ?_;refine br ?_ ?_<;>intro g
 ·have g:aK rows c a=true:=sU g;refine cP FG h2 ?_;refine (cj ?_:);simp [g,pickB]
 ·have g:aK rows c a=false:=sU g;refine (cj ?_:);simp [g,pickB]
abbrev MJ (L:List DV) (gi gb:Nat) (ci cb:List DV) (n:Nat) (o:Int) (e:Nat):St:=
 ⟨[qO 0 L,(1,⟨[],.fn gi [] ci⟩),(2,⟨[],.fn gb [] cb⟩),aq 7 o,aq 14 n,aq 15 e],[],[]⟩
abbrev B8 (L:List DV) (gi gb:Nat) (ci cb:List DV) (n:Nat) (o:Int) (e:Nat):St:=
 ⟨[qO 0 L,(1,⟨[],.fn gi [] ci⟩),(2,⟨[],.fn gb [] cb⟩),aq 7 o,aq 37 n,aq 38 e],[],[]⟩
theorem um (af:List ByteArray) (tb lq:DV) (js:List Int) (gi gb:Nat) (WG:Enters prog gi) (WH:Enters prog gb) (ci cb:List DV) (iN:Nat->Bool) (pb:Nat->Nat->Bool)
  (QA:CcL [] 0 0 0 ci ci) (QB:CcL [] 0 0 0 cb cb) (UC:clB.clL 0 0 ci=true) (UD:clB.clL 0 0 cb=true) (hn:af.length<=64)
  (wH:∀ c:Nat,c < af.length->aV prog gi (.v (.int .i64 c) :: ci) (.v (.bool (iN c))))
  (WI:∀ a b:Nat,a < af.length->b < af.length->aV prog gb (.v (.int .i64 a) :: .v (.int .i64 b) :: cb) (.v (.bool (pb a b)))) :
  aV prog 214 [.pt (Al af tb lq js) 0,.fn gi [] ci,.fn gb [] cb] (.v (.int .i64 (oz (kz iN pb af.length)))):=by
 have hN:=bP af;have rN:clB 0 0 (.fn gi [] ci)=true:=by simp only [clB,bA];exact ⟨rfl,UC⟩
 have B9:clB 0 0 (.fn gb [] cb)=true:=by simp only [clB,bA];exact ⟨rfl,UD⟩
 refine eG 57 [.tmp 6] func214 rfl ntmps214 rfl fun _ _ _ _=>?_;refine lJ (fun e=>MJ (Al af tb lq js) gi gb ci cb (dB af).length (oz (bestA iN pb e)) e) af.length (bc (hY rN B9)) ?_;intro e he;refine br ?_ ?_<;>intro hL
 ·have ap:e < af.length:=by have:=hL;simp [hN] at this;exact this
  have hs:bestA iN pb (e + 1)=if iN e && yc pb e (bestA iN pb e) then some e else bestA iN pb e:=rfl
  refine cP WG (wH e ap) ?_ ⟨_,_,rfl,rfl,QA⟩
  cases hA:bestA iN pb e with
  | none=>
   rw [hA] at hs;refine br ?_ ?_<;>intro g
   ·have g:iN e=true:=by simpa [lastG] using g
    have hz:(e:Int)=oz (bestA iN pb (e + 1)):=by rw [hs,g];all_goals rfl
    exact rE ⟨_,by omega,e + 1,rfl,by omega,rfl⟩ (bc (OB rN B9 (aT ap (by omega)) hz))
   ·have g:iN e=false:=by simpa [lastG] using g
    have hz:oz none=oz (bestA iN pb (e + 1)):=by rw [hs,g];all_goals rfl
    exact rE ⟨_,by omega,e + 1,rfl,by omega,rfl⟩ (bc (OB rN B9 (aT ap (by omega)) hz))
  | some k=>
   rw [hA] at hs;have hk:=kA hA;refine br ?_ ?_<;>intro g
   ·have g:iN e=true:=by simpa [lastG] using g
    refine cP WH (WI e k ap (by omega)) ?_ ⟨_,_,rfl,rfl,_,_,rfl,rfl,QB⟩;refine br ?_ ?_<;>intro g2
    ·have g2:pb e k=true:=by simpa [pickB,g,lastG] using g2
     have hz:(e:Int)=oz (bestA iN pb (e + 1)):=by rw [hs,g,yc,g2];all_goals rfl
     exact rE ⟨_,by omega,e + 1,rfl,by omega,rfl⟩ (bc (OB rN B9 (aT ap (by omega)) hz))
    ·have g2:pb e k=false:=by simpa [pickB,g,lastG] using g2
     have hz:oz (some k)=oz (bestA iN pb (e + 1)):=by rw [hs,g,yc,g2];all_goals rfl
     exact rE ⟨_,by omega,e + 1,rfl,by omega,rfl⟩ (bc (OB rN B9 (aT ap (by omega)) hz))
   ·have g:iN e=false:=by simpa [lastG] using g
    have hz:oz (some k)=oz (bestA iN pb (e + 1)):=by rw [hs,g];all_goals rfl
    exact rE ⟨_,by omega,e + 1,rfl,by omega,rfl⟩ (bc (OB rN B9 (aT ap (by omega)) hz))
 ·have hge:e=af.length:=sW hN hL;subst hge;refine lI (fun j st=>∃ e:Nat,st=B8 (Al af tb lq js) gi gb ci cb (dB af).length (oz (bestA iN pb af.length)) e/\e<=af.length/\(∀ o,bestA iN pb af.length=some o->∀ c,c < e->(iN c && !pb o c)=false)/\j=af.length - e) ⟨0,rfl,by omega,fun _ _ c hc=>by omega,rfl⟩ (bc (hY rN B9)) ?_;rintro j st ⟨e,rfl,he,hno,rfl⟩;refine br ?_ ?_<;>intro hL
  ·have ap:e < af.length:=by have:=hL;simp [hN] at this;exact this
   cases hA:bestA iN pb af.length with
   | none=>
    exact ⟨B8 (Al af tb lq js) gi gb ci cb (dB af).length (oz none) (e + 1),(bc (LW rN B9 (aT ap (by omega)))),af.length - (e + 1),by omega,e + 1,rfl,by omega,(fun _ h=>by cases h),rfl⟩
   | some o=>
    have ho:=kA hA;have hno:=hno o hA;refine cP WG (wH e ap) ?_ ⟨_,_,rfl,rfl,QA⟩;refine br ?_ ?_<;>intro g
    ·have g:iN e=true:=by simpa [pickB] using g
     refine cP WH (WI o e ho ap) ?_ ⟨_,_,rfl,rfl,_,_,rfl,rfl,QB⟩;refine br ?_ ?_<;>intro g2
     ·have g2:pb o e=false:=by simpa [pickB,g,lastG] using g2
      have:kz iN pb af.length=none:=by
       rw [kz,hA];simp only;rw [zIfP];rw [List.any_eq_true];exact ⟨e,by simpa using ap,by simp [g,g2]⟩
      rw [this];exact (rfl:_=_)
     ·have g2:pb o e=true:=by simpa [pickB,g,lastG] using g2
      exact rE ⟨_,by omega,e + 1,rfl,by omega,fun o' J7 c hc=>by
       cases J7;rcases ka hc with hc | rfl
       ·exact hno c hc
       ·simp [g2],rfl⟩ (bc (LW rN B9 (aT ap (by omega))))
    ·have g:iN e=false:=by simpa [pickB] using g
     exact rE ⟨_,by omega,e + 1,rfl,by omega,fun o' J7 c hc=>by
       cases J7;rcases ka hc with hc | rfl
       ·exact hno c hc
       ·simp [g],rfl⟩ (bc (LW rN B9 (aT ap (by omega))))
  ·have hge:e=af.length:=sW hN hL;subst hge
   have:kz iN pb af.length=bestA iN pb af.length:=by
    cases hA:bestA iN pb af.length with
    | none=>rw [kz,hA]
    | some o=>
     rw [kz,hA];simp only;rw [ah];rw [List.any_eq_true];rintro ⟨c,hc,h2⟩;rw [hno o hA c (sU hc)] at h2;cases h2
   rw [this];exact (rfl:_=_)
theorem ow (js:List Int) (bx:List (List DV)) (N n m:Nat):CcL bx N n m (cZ js) (cZ js):=by
 induction js with
 | nil=>exact rfl
 | cons z r ih=>exact ⟨_,_,rfl,rfl,ih⟩
theorem n4 {n m:Nat} {tk:List TkE} (js:List Int):WeL n m tk (cZ js) (cZ js):=rF _ fun x hx=>by
 obtain ⟨z,_,rfl⟩:=List.mem_map.1 hx;exact ⟨_,rfl⟩
theorem MK (f:Nat->Nat) (js:List Int):renL f (cZ js)=cZ js:=by
 induction js with
 | nil=>rfl
 | cons z r ih=>simp only [cZ,List.map_cons,renL,renD] at ih ⊢;rw [ih]
theorem ML (js:List Int):(cZ js).length=js.length:=by simp [cZ]
theorem GI (js:List Int) (i:Nat) (z:Int):(cZ js).set i (.v (.int .i64 z))=cZ (js.set i z):=by simp [cZ,List.map_set]
abbrev fq (af:List ByteArray) (tc:List DV) (rows:List Nat) (js:List Int):List DV:=Al af (.pt tc 0) (j6 rows) js
theorem Jj (af:List ByteArray) (tc:List DV) (rows:List Nat) (js:List Int):(fq af tc rows js).length=js.length + 3:=by simp [Al,cZ]
theorem p9 {af:List ByteArray} {tc:List DV} {rows:List Nat} {js:List Int} {i k:Nat} {z:Int} (h:k=i + 3):(fq af tc rows js).set k (.v (.int .i64 z))=fq af tc rows (js.set i z):=by grind [Al,GI]
theorem Jk (f:Nat->Nat) (af:List ByteArray) (tc:List DV) (rows:List Nat) (js:List Int):renL f (fq af tc rows js)=fq af tc rows js:=by
 simp only [Al,renL,MK];rfl
theorem Ca {n m:Nat} {tk:List TkE} {l:List DV} {af:List ByteArray} {tc:List DV} {rows:List Nat} {js:List Int} (h:l=fq af tc rows js):WeL n m tk l (fq af tc rows js):=by
 subst h;exact ⟨_,_,rfl,au rfl,_,_,rfl,au rfl,_,_,rfl,au rfl,n4 js⟩
def dE (f:Nat->Nat->Bool) (n a b:Nat):Option Nat:=kz (fun c=>f a c && f b c) f n
def gh (f:Nat->Nat->Bool) (n a b:Nat):Option Nat:=kz (fun c=>f c a && f c b) (fun x y=>f y x) n
theorem rO (f:Nat->Nat->Bool) (n a b:Nat):dE f n a b=dE f n b a:=by grind [dE]
theorem rP (f:Nat->Nat->Bool) (n a b:Nat):gh f n a b=gh f n b a:=by grind [gh]
def je (f:Nat->Nat->Bool) (n a b:Nat):Bool:=(dE f n a b).isNone || (gh f n a b).isNone
def kB (f:Nat->Nat->Bool) (n b:Nat):Bool:=(List.range (b + 1)).any fun a=>je f n a b
def JM (f:Nat->Nat->Bool) (n:Nat) (js:List Int) (a b:Nat):Prop:=js[a * 32 + b]? = some (oz (dE f n a b))/\js[1024 + (a * 32 + b)]? = some (oz (gh f n a b))
def sS (js:List Int) (a b:Nat) (j m:Int):List Int:=(((js.set (a * 32 + b) j).set (b * 32 + a) j).set (1024 + (a * 32 + b)) m).set (1024 + (b * 32 + a)) m
theorem GJ (js:List Int) (a b:Nat) (j m:Int):(sS js a b j m).length=js.length:=by simp [sS]
theorem l6 {js:List Int} {i k:Nat} {z:Int} (h:k≠i):(js.set k z)[i]? = js[i]?:=List.getElem?_set_ne h
theorem Cb {f:Nat->Nat->Bool} {n:Nat} {js:List Int} (hl:js.length=2048) {a b:Nat} (ha:a < 32) (hb:b < 32) {x y:Nat} (hx:x < 32) (hy:y < 32)
  (h:JM f n js x y∨(x=a/\y=b)∨(x=b/\y=a)):JM f n (sS js a b (oz (dE f n a b)) (oz (gh f n a b))) x y:=by
 have key:(x=a/\y=b)∨(x=b/\y=a)∨(JM f n js x y/\¬ (x=a/\y=b)/\¬ (x=b/\y=a)):=by grind
 rcases key with ⟨rfl,rfl⟩ | ⟨rfl,rfl⟩ | ⟨h,h1,h2⟩
 ·grind [JM,sS,l6]
 ·grind [JM,sS,rO,rP,l6]
 ·grind [JM,sS,l6]
abbrev KZ (af:List ByteArray) (tc:List DV) (rows:List Nat) (js:List Int) (e:Nat):St:=
 ⟨[aF 1 1,aF 3 2,aF 4 3,aq 15 ((dB af).length),aq 16 e],
  [fq af tc rows js,[.loc 0 0],[.fn 211 [] [.loc 1 0]],[.fn 213 [] [.loc 1 0]]],[]⟩
abbrev Am (af:List ByteArray) (tc:List DV) (rows:List Nat) (js:List Int) (e f:Nat):St:=
 ⟨[aF 1 1,aF 3 2,aF 4 3,aq 15 ((dB af).length),aq 16 e,aF 5 4,aF 6 5],
  [fq af tc rows js,[.loc 0 0],[.fn 211 [] [.loc 1 0]],[.fn 213 [] [.loc 1 0]],[.v (.int .i64 e)],[.v (.int .i64 f)]],[]⟩
abbrev GK (af:List ByteArray) (tc:List DV) (rows:List Nat) (js:List Int) (e f:Nat):St:=
 ⟨[aF 1 1,aF 3 2,aF 4 3,aq 15 ((dB af).length),aq 16 e,aF 5 4,aF 6 6],
  [fq af tc rows js,[.loc 0 0],[.fn 211 [] [.loc 1 0]],[.fn 213 [] [.loc 1 0]],[.v (.int .i64 e)],[.v (.int .i64 f)],[.v (.int .i64 (f + 1:Nat))]],[]⟩
abbrev GL (af:List ByteArray) (tc:List DV) (rows:List Nat) (js:List Int) (e f:Nat):St:=
 ⟨[aF 1 1,aF 3 2,aF 4 3,aq 15 ((dB af).length),aq 16 e,aF 5 4,aF 6 5],
  [fq af tc rows js,[.loc 0 0],[.fn 211 [] [.loc 1 0]],[.fn 213 [] [.loc 1 0]],[.v (.int .i64 e)],[.v (.int .i64 (f + 1:Nat))],[.v (.int .i64 f)]],[]⟩
theorem Jl (af:List ByteArray) (tc:List DV) (rows:List Nat) (js:List Int) (e f:Nat):GK af tc rows js e f=ei 5 6 (GL af tc rows js e f):=by
 simp only [ei,renO,Jk];rfl
def UE (af:List ByteArray) (tc:List DV) (rows:List Nat) (r:DV) (os:List (List DV)) (_:List TkE):Prop:=
 ∃ MM,os=[fq af tc rows MM]/\MM.length=2048/\r = .v (.int .i64 (oz (bE (kB (aK rows) af.length) af.length))) /\
  (bE (kB (aK rows) af.length) af.length=none->∀ x y,x < af.length->y < af.length->JM (aK rows) af.length MM x y)
theorem yd (af:List ByteArray) (tc:List DV) (rows:List Nat) (js:List Int) (hr:dc rows) (hlen:rows.length=af.length) (hn:af.length<=32) (hj:js.length=2048) :
  Ev prog 130 [.loc 0 0] [fq af tc rows js] [] (UE af tc rows):=by
 have hN:=bP af;refine eG 73 [.tmp 2] func130 rfl ntmps130 rfl fun _ _ _ _=>?_;refine lI (fun j st=>∃ (e:Nat) (js:List Int),st=KZ af tc rows js e/\e<=af.length/\js.length=2048/\(∀ b,b < e->kB (aK rows) af.length b=false)/\(∀ x y,x < e->y < e->JM (aK rows) af.length js x y)/\j=af.length - e) ⟨0,js,rfl,by omega,hj,fun _ h=>by omega,fun _ _ h=>by omega,rfl⟩ (ep 4 zB pE) ?_;rintro j st ⟨e,js,rfl,he,hj,hno,H0,rfl⟩;refine br ?_ ?_<;>intro hL
 ·have ap:e < af.length:=by have:=hL;simp [hN] at this;exact this
  refine z7 (fun j st=>∃ (f:Nat) (js:List Int),st=Am af tc rows js e f/\f<=e + 1/\js.length=2048/\(∀ a,a < f->je (aK rows) af.length a e=false)/\(∀ x y,x < e->y < e->JM (aK rows) af.length js x y)/\(∀ x,x < f->JM (aK rows) af.length js x e/\JM (aK rows) af.length js e x)/\j=e + 1 - f) (e + 1) (Am af tc rows js e 0) (.Mv (ep 6 zB pE)) ⟨0,js,rfl,by omega,hj,fun _ h=>by omega,H0,fun _ h=>by omega,by omega⟩ ?_;clear H0 hj;rintro j st ⟨f,js,rfl,hf,hj,Sb,H0,hje,rfl⟩;refine br ?_ ?_<;>intro j2
  ·have Ka:f<=e:=by have:=j2;simp at this;exact this
   have lp:=um af (.pt tc 0) (j6 rows) js 215 211 Px FE
    [.pt [KX (fq af tc rows js)] 0,.pt [.v (.int .i64 f)] 0,.pt [.v (.int .i64 e)] 0] [.pt [.pt (fq af tc rows js) 0] 0] (fun c=>aK rows f c && aK rows e c) (aK rows) ax ax rfl rfl (by omega)
    (fun c hc=>DC af (.pt tc 0) rows js hr f e c (by omega) (by omega) (by omega)) (fun a b ha hb=>ou af (.pt tc 0) rows js hr a b (by omega) (by omega))
   have iU:=um af (.pt tc 0) (j6 rows) js 216 213 Py FG
    [.pt [KY (fq af tc rows js)] 0,.pt [.v (.int .i64 f)] 0,.pt [.v (.int .i64 e)] 0] [.pt [.pt (fq af tc rows js) 0] 0] (fun c=>aK rows c f && aK rows c e) (fun x y=>aK rows y x) ax ax rfl rfl (by omega)
    (fun c hc=>DD af (.pt tc 0) rows js hr f e c (by omega) (by omega) (by omega)) (fun a b ha hb=>ov af (.pt tc 0) rows js hr a b (by omega) (by omega))
   refine vl Kv lp (by repeat' (first | exact rfl | exact trivial | exact Or.inr (Or.inl ⟨_,rfl⟩) | exact Or.inr ⟨_,rfl⟩ | exact Or.inl ⟨rfl,rfl⟩ | exact Or.inl rfl | refine Or.inr ⟨_,_,rfl,Nat.zero_le _,rfl,?_⟩ | refine ⟨_,_,rfl,?_,?_⟩ | refine ⟨_,rfl,?_⟩ | exact ow _ _ _ _ _ | refine Or.inr (Or.inr (Or.inr ⟨_,_,rfl,?_⟩)) | exact Or.inl rfl | refine Or.inr ?_)) rfl ?_;refine vl Kv iU (by repeat' (first | exact rfl | exact trivial | exact Or.inr (Or.inl ⟨_,rfl⟩) | exact Or.inr ⟨_,rfl⟩ | exact Or.inl ⟨rfl,rfl⟩ | exact Or.inl rfl | refine Or.inr ⟨_,_,rfl,Nat.zero_le _,rfl,?_⟩ | refine ⟨_,_,rfl,?_,?_⟩ | refine ⟨_,rfl,?_⟩ | exact ow _ _ _ _ _ | refine Or.inr (Or.inr (Or.inr ⟨_,_,rfl,?_⟩)) | exact Or.inl rfl | refine Or.inr ?_)) rfl ?_
   have MN:pickB (decide (oz (dE (aK rows) af.length f e) = -1)) true (decide (oz (gh (aK rows) af.length f e) = -1))=je (aK rows) af.length f e:=by
    unfold je
    cases dE (aK rows) af.length f e with
    | none=>rfl
    | some j=>
     have:decide (oz (some j) = -1)=false:=by simp [oz]
     rw [this]
     cases gh (aK rows) af.length f e with
     | none=>rfl
     | some m=>
      have:decide (oz (some m) = -1)=false:=by simp [oz]
      rw [this];rfl
   refine br ?_ ?_<;>intro g
   ·have g:je (aK rows) af.length f e=true:=MN.symm.trans g;have hb:kB (aK rows) af.length e=true:=by grind [kB]
    have pD:=cg (p:=kB (aK rows) af.length) ap hb hno;refine ⟨.v (.int .i64 e),[fq af tc rows js],ax,(by repeat' (first | exact rfl | exact trivial | exact Or.inr (Or.inl ⟨_,rfl⟩) | exact Or.inr ⟨_,rfl⟩ | exact Or.inl ⟨rfl,rfl⟩ | exact Or.inl rfl | refine Or.inr ⟨_,_,rfl,Nat.zero_le _,rfl,?_⟩ | refine ⟨_,_,rfl,?_,?_⟩ | refine ⟨_,rfl,?_⟩ | exact ow _ _ _ _ _ | refine Or.inr (Or.inr (Or.inr ⟨_,_,rfl,?_⟩)) | exact Or.inl rfl | refine Or.inr ?_)),js,rfl,hj,?_,fun h=>by rw [pD] at h;cases h⟩;rw [pD];rfl
   ·have g:je (aK rows) af.length f e=false:=MN.symm.trans g;refine fO [0] (fun _=>false) mo (by decide +kernel) ?_;have gB:=Jj af tc rows js;refine ⟨⟨by omega,by omega⟩,?_⟩;refine ⟨⟨by omega,by omega⟩,?_⟩;refine ⟨by rw [gB];omega,?_⟩;refine ⟨⟨by omega,by omega⟩,?_⟩;refine ⟨⟨by omega,by omega⟩,?_⟩;refine ⟨by rw [List.length_set,gB];omega,?_⟩;refine fO [0] (fun _=>false) mo (by decide +kernel) ?_;refine ⟨⟨by omega,by omega⟩,?_⟩;refine ⟨⟨by omega,by omega⟩,?_⟩;refine ⟨by rw [List.length_set,List.length_set,gB];omega,?_⟩;refine ⟨⟨by omega,by omega⟩,?_⟩;refine ⟨⟨by omega,by omega⟩,?_⟩;refine ⟨by rw [List.length_set,List.length_set,List.length_set,gB];omega,?_⟩
    have gk:((((fq af tc rows js).set (0 + 0 + 3 + (f:Int).toNat * 32 + (e:Int).toNat * 1) (DV.v (.int .i64 (oz (dE (aK rows) af.length f e))))).set (0 + 0 + 3 + (e:Int).toNat * 32 + (f:Int).toNat * 1) (DV.v (.int .i64 (oz (dE (aK rows) af.length f e))))).set (0 + 0 + 1027 + (f:Int).toNat * 32 + (e:Int).toNat * 1) (DV.v (.int .i64 (oz (gh (aK rows) af.length f e))))).set (0 + 0 + 1027 + (e:Int).toNat * 32 + (f:Int).toNat * 1) (DV.v (.int .i64 (oz (gh (aK rows) af.length f e))))=fq af tc rows (sS js f e (oz (dE (aK rows) af.length f e)) (oz (gh (aK rows) af.length f e))):=by
     rw [p9 (i:=f * 32 + e) (by omega),p9 (i:=e * 32 + f) (by omega),p9 (i:=1024 + (f * 32 + e)) (by omega),p9 (i:=1024 + (e * 32 + f)) (by omega)];rfl
    refine ⟨Am af tc rows (sS js f e (oz (dE (aK rows) af.length f e)) (oz (gh (aK rows) af.length f e))) e (f + 1),
     .trans (.Mv (s2:=GK af tc rows (sS js f e (oz (dE (aK rows) af.length f e)) (oz (gh (aK rows) af.length f e))) e f) (ep 7 (by repeat' (first | exact rfl | exact au rfl | exact Ca gk | exact aw (aT (n:=e + 1) (by omega) (by omega)) | refine ⟨_,_,rfl,?_,?_⟩)) (by repeat' (first | exact trivial | exact au rfl | exact Ca gk | exact aw (aT (n:=e + 1) (by omega) (by omega)) | refine ⟨⟨_,rfl,?_⟩,?_⟩))))
      (.trans (.zJ 5 6 (GL af tc rows (sS js f e (oz (dE (aK rows) af.length f e)) (oz (gh (aK rows) af.length f e))) e f) _ (Jl _ _ _ _ _ _) rfl rfl rfl rfl) (.Mv (ep 6 zB pE))),
     e + 1 - (f + 1),by omega,f + 1,_,rfl,by omega,by rw [GJ];exact hj,fun a ha=>?_,fun x y hx hy=>?_,fun x hx=>?_,rfl⟩
    ·grind
    ·grind [Cb]
    ·grind [Cb]
  ·have Ka:f=e + 1:=by have:=j2;simp at this;omega
   subst Ka;have hb:kB (aK rows) af.length e=false:=by grind [kB]
   refine ⟨KZ af tc rows js (e + 1),(ep 4 (ve (aT ap (by omega))) (c8 (aT ap (by omega)))),af.length - (e + 1),by omega,e + 1,js,rfl,by omega,hj,fun b ee=>?_,fun x y hx hy=>?_,rfl⟩
   ·grind
   ·grind
 ·have hge:e=af.length:=sW hN hL;subst hge;refine ⟨.v (.int .i64 (-1)),[fq af tc rows js],ax,(by repeat' (first | exact rfl | exact trivial | exact Or.inr (Or.inl ⟨_,rfl⟩) | exact Or.inr ⟨_,rfl⟩ | exact Or.inl ⟨rfl,rfl⟩ | exact Or.inl rfl | refine Or.inr ⟨_,_,rfl,Nat.zero_le _,rfl,?_⟩ | refine ⟨_,_,rfl,?_,?_⟩ | refine ⟨_,rfl,?_⟩ | exact ow _ _ _ _ _ | refine Or.inr (Or.inr (Or.inr ⟨_,_,rfl,?_⟩)) | exact Or.inl rfl | refine Or.inr ?_)),js,rfl,hj,?_,fun _=>H0⟩;rw [cA hno];rfl
def MO (l:List Wd) (k:Nat):Int:=((l[k]?).getD (⟨aJ,0⟩:Wd)).a
def latF (l:List Wd) (o:List (Wd × Wd)):Ft:=
 if (ek l o).1≠0 then ek l o
 else if (enumL l 0 l).1≠0 then enumL l 0 l
 else if (numF (al l) o).1≠0 then numF (al l) o
 else match bE (iF l.length (du l.length (cv (al l) o))) l.length with
  | some a=>(11,MO l a)
  | none=>
   match bE (kB (du l.length (cv (al l) o)) l.length) l.length with
   | some b=>(12,MO l b)
   | none=>(0,0)
def MP (l:List Wd) (o:List (Wd × Wd)) (d:DV):Prop:=
 ∃ az js,fo (al l) az/\az.length<=l.length/\js.length=2048/\(∀ x y,x < l.length->y < l.length->JM (du l.length (cv (al l) o)) l.length js x y) /\
  d = .pt (fq (al l) (cd (al l) az) (closeR (dL l.length (cv (al l) o)) l.length) js) 0
def An (l:List Wd) (o:List (Wd × Wd)) (r:DV) (_:List (List DV)) (_:List TkE):Prop:=
 if (latF l o).1≠0 then r = .bS [.v (.pointer none),(latF l o).d] else ∃ d,MP l o d/\r = .bS [d,(latF l o).d]
theorem lh {L:List ByteArray}:∀ {o:List (Wd × Wd)},(numF L o).1=0->oo L.length (cv L o)
 | [],_=>by intro p hp;simp [cv] at hp
 | q :: r,h=>by
  rw [numF] at h;split at h
  ·cases h
  ·rename_i h1;split at h
   ·cases h
   ·rename_i h2;have ih:=lh (o:=r) h;intro p hp;simp only [cv,List.map_cons,List.mem_cons] at hp;rcases hp with rfl | hp
    ·obtain ⟨a,ha⟩:=Option.ne_none_iff_exists'.1 h1;obtain ⟨b,hb⟩:=Option.ne_none_iff_exists'.1 h2;simp only [MI,ha,hb,Option.getD_some];exact ⟨(cC ha).1,(cC hb).1⟩
    ·exact ih p hp
theorem cw (l:List Wd):(al l).length=l.length:=by simp [al]
theorem rQ {all:List Wd}:∀ {l:List Wd} {i:Nat},(enumL all i l).1=0->enumL all i l=(0,0)
 | [],_,_=>rfl
 | x :: r,i,h=>by
  rw [enumL] at h ⊢;split at h
  ·rename_i h1;exact (h1 h).elim
  ·rename_i h1;rw [ah h1];exact rQ h
theorem uo {L:List ByteArray}:∀ {o:List (Wd × Wd)},(numF L o).1=0->numF L o=(0,0)
 | [],_=>rfl
 | q :: r,h=>by
  rw [numF] at h ⊢;split at h
  ·cases h
  ·rename_i h1;split at h
   ·cases h
   ·rename_i h2;rw [ah h1,ah h2];exact uo h
theorem iG {l:List Wd} {k:Nat} {w:Wd} (h:l[k]? = some w):MO l k=w.a:=by simp [MO,h]
theorem MQ (n:Nat):vL (List.replicate n (.int .i64 0))=cZ (List.replicate n 0):=by
 induction n with
 | zero=>rfl
 | succ n ih=>simp only [List.replicate_succ,vL,cZ,List.map_cons] at ih ⊢;rw [ih]
theorem kC {l:List Wd} {o:List (Wd × Wd)} {f:Ft} {os:List (List DV)} {tk:List TkE} (h:latF l o=f) (hf:f.1≠0):An l o (.bS [.v (.pointer none),f.d]) os tk:=by
 unfold An;rw [h,zIfP hf]
theorem Jm {l:List Wd} {o:List (Wd × Wd)} {d:DV} {os:List (List DV)} {tk:List TkE} (h:latF l o=(0,0)) (hd:MP l o d):An l o (.bS [d,Ft.d (0,0)]) os tk:=by grind [An]
theorem Jn (n m:Nat) (af:List ByteArray) (tc:List DV) (rows:List Nat) (js:List Int):clB.clL n m (fq af tc rows js)=true:=by
 have h:∀ l:List Int,clB.clL n m (cZ l)=true:=by
  intro l
  induction l with
  | nil=>rfl
  | cons z r ih=>simp only [cZ,List.map_cons,clB.clL,clB,Bool.true_and] at ih ⊢;exact ih
 simp only [Al,clB.clL,clB,h,j6,Bool.and_self]
theorem ye (l:List Wd) (o:List (Wd × Wd)) (hs:wdsWt l<=1099511627776) (zq:prsWt o<=1099511627776) :
  Ev prog 61 [.sl 2 (bm l) none,.sl 4 (j4 o) none] [] [] (An l o):=by
 have nV:=bd l;have LY:=fG o;have fi:=cw l;have hF:=latF.eq_1 l o;refine eG 86 [.tmp 4,.cell 5 26] func61 rfl ntmps61 rfl fun _ _ _ _=>?_;refine cP Pc (DB l o) ?_;by_cases hm:(ek l o).1≠0
 ·rw [zIfP hm] at hF;refine br ?_ ?_<;>intro h
  ·refine dS ?_;exact ⟨_,ax,kC (os:=[]) (tk:=[]) hF hm⟩
  ·exfalso;simp at h;exact hm h
 rw [ah hm] at hF;refine br (fun h=>?_) (fun _=>?_)
 ·exfalso;simp at h;exact hm h
 have HX:l ≠ []:=by
  rintro rfl;simp [ek] at hm
 have hl32:l.length<=32:=by grind [ek]
 have pG:=yb l hs;unfold Qy at pG;by_cases hE:(enumL l 0 l).1≠0
 ·rw [ah hE] at pG;rw [zIfP hE] at hF;refine cP Ki pG ?_;refine br ?_ ?_<;>intro h
  ·refine dS ?_;exact ⟨_,ax,kC (os:=[]) (tk:=[]) hF hE⟩
  ·exfalso;simp at h;exact hE h
 rw [ah hE] at hF;have hE:(enumL l 0 l).1=0:=sU hE;rw [zIfP hE] at pG;rw [rQ hE] at pG;refine cP Ki pG ?_;refine gq Fv rfl (ra (al l) (by omega)) ax (fun r hr=>?_);obtain ⟨az,hT,iY,rfl⟩:=hr;have Ao:=sR (al l) az hT (by omega) o zq;unfold Qz at Ao;by_cases hN:(numF (al l) o).1≠0
 ·rw [ah hN] at Ao;rw [zIfP hN] at hF;refine cP Kj Ao ?_;refine br ?_ ?_<;>intro h
  ·refine dS ?_;exact ⟨_,ax,kC (os:=[]) (tk:=[]) hF hN⟩
  ·exfalso;simp at h;exact hN h
 rw [ah hN] at hF;have hN:(numF (al l) o).1=0:=sU hN;rw [zIfP hN] at Ao;rw [uo hN] at Ao;have hP:=lh hN;rw [fi] at hP;have hPl:(cv (al l) o).length=o.length:=by simp [cv]
 generalize WJ:cv (al l) o=P at Ao hF hP hPl;refine cP Kj Ao ?_;have hLn:(dB (al l)).length=l.length:=by rw [bP,fi]
 have hPb:P.length<=1099511627776:=by omega
 have UF:=vG (n:=l.length) (by omega) P hP;have iv:=ij l.length P;have hr0:dL l.length P ≠ []:=fun h=>HX (List.eq_nil_of_length_eq_zero (by rw [<- iv,h];rfl));refine cP Pd (Dp l.length (by omega) P hP hPb) ?_ (pW hLn);have hlo:=Ah _ UF hr0;rw [iv,Jf (by omega) hP] at hlo
 cases hA:bE (iF l.length (du l.length P)) l.length with
 | some a=>
  rw [hA] at hlo hF;simp only at hF;have LJ:=(dN hA).1;obtain ⟨w,hw⟩:∃ w,l[a]? = some w:=⟨_,gE LJ⟩;rw [iG hw] at hF;refine cP Kk hlo ?_;refine dS ?_;refine ⟨gm w,⟨by omega,aH hw⟩,?_⟩;exact ⟨_,ax,kC (os:=[]) (tk:=[]) hF (by simp)⟩
 | none=>
 rw [hA] at hlo hF;simp only at hF;refine cP Kk hlo ?_;have gM:=pe _ UF hr0;rw [iv] at gM;have UG:=jb UF l.length (by omega);have QC:=dM (dL l.length P) l.length;rw [iv] at QC;refine cP Kl gM ?_;have UH:(List.replicate 2048 (0:Int)).length=2048:=List.length_replicate
 have cm:CcL [] 0 0 0 (fq (al l) (cd (al l) az) (closeR (dL l.length P) l.length) (List.replicate 2048 0)) (.sl 1 (dB (al l)) none :: .pt (cd (al l) az) 0 :: j6 (closeR (dL l.length P) l.length) :: vL (List.replicate 2048 (.int .i64 0))):=by
  refine ⟨_,_,rfl,Or.inr (Or.inl ⟨_,rfl⟩),_,_,rfl,Or.inl rfl,_,_,rfl,Or.inl rfl,?_⟩;rw [MQ];exact ow _ _ _ _ _
 have hbn:=yd (al l) (cd (al l) az) _ (List.replicate 2048 0) UG (by omega) (by omega) UH;refine jI Pe rfl rfl cm ax hbn (fun r os tk h=>?_) (fun r oa h=>?_)
 ·obtain ⟨MM,rfl,_,rfl,_⟩:=h;refine ⟨rfl,fun oa h=>?_⟩;rw [List.mem_singleton.1 h];exact Jn _ _ _ _ _ _
 obtain ⟨MM,h1,hj2,hr,H0⟩:=h;simp only [List.cons.injEq,and_true] at h1;subst h1
 have hB:bE (kB (aK (closeR (dL l.length P) l.length)) (al l).length) (al l).length=bE (kB (du l.length P) l.length) l.length:=by
  rw [fi];rfl
 rw [hB] at hr H0
 cases hb:bE (kB (du l.length P) l.length) l.length with
 | some b=>
  rw [hb] at hr hF;subst hr;simp only at hF;have hbl:=(dN hb).1;obtain ⟨w,hw⟩:∃ w,l[b]? = some w:=⟨_,gE hbl⟩;rw [iG hw] at hF;refine dS ?_;refine ⟨gm w,⟨by simp only [oz];omega,aH hw⟩,?_⟩;exact ⟨_,ax,kC (os:=[]) (tk:=[]) hF (by simp)⟩
 | none=>
  rw [hb] at hr hF;subst hr;simp only at hF;refine ⟨.bS [.pt (fq (al l) (cd (al l) az) (closeR (dL l.length P) l.length) MM) 0,Ft.d (0,0)],(by repeat' (first | exact rfl | exact trivial | exact Or.inr (Or.inl ⟨_,rfl⟩) | exact Or.inr ⟨_,rfl⟩ | exact Or.inl ⟨rfl,rfl⟩ | exact Or.inl rfl | refine Or.inr ⟨_,_,rfl,Nat.zero_le _,rfl,?_⟩ | refine ⟨_,_,rfl,?_,?_⟩ | refine ⟨_,rfl,?_⟩ | exact ow _ _ _ _ _ | refine Or.inr (Or.inr (Or.inr ⟨_,_,rfl,?_⟩)) | exact Or.inl rfl | refine Or.inr ?_)),Jm (os:=[]) (tk:=[]) hF ⟨az,MM,hT,by omega,hj2,?_,by rw [WJ]⟩⟩;rw [WJ];rw [fi] at H0;exact H0 hb
section
variable (af:List ByteArray) (tc:List DV) (rows:List Nat) (js:List Int)
theorem ox:aV prog 110 [.pt (fq af tc rows js) 0] (.v (.int .i64 af.length)):=by
 refine eG 10 [.tmp 2] func110 rfl ntmps110 rfl fun _ _ _ _=>?_;refine (qN ?_:);rw [bP]
theorem uq (i:Int):aV prog 199 [.pt (fq af tc rows js) 0,.v (.int .i64 i)] (.v (.bool (decide (0<=i) && decide (i < af.length)))):=by
 refine eG 13 [.tmp 4] func199 rfl ntmps199 rfl fun _ _ _ _=>?_;refine br ?_ ?_<;>intro g
 ·have g:decide (0<=i)=true:=sU g;refine cP Fu (ox af tc rows js) ?_;refine (cj ?_:);simp [g,pickB]
 ·have g:decide (0<=i)=false:=sU g;refine (cj ?_:);simp [g,pickB]
theorem nf {a:Nat} (h:a < af.length):aV prog 199 [.pt (fq af tc rows js) 0,.v (.int .i64 a)] (.v (.bool true)):=by
 have:=uq af tc rows js a;have e:(decide (0<=(a:Int)) && decide ((a:Int) < af.length))=true:=by simp [h]
 rw [e] at this;exact this
end
theorem rR (af:List ByteArray) (az rows:List Nat) (js:List Int) (s:ByteArray) (hT:fo af az) (hl:az.length<=1099511627776) :
  aV prog 47 [.pt (fq af (cd af az) rows js) 0,.v (.string s)] (GA (bV af s)):=by
 have h:=fK af az s hT hl;refine eG 16 [.tmp 4,.tmp 5] func47 rfl ntmps47 rfl fun _ _ _ _=>?_
 cases hx:bV af s with
 | none=>
  rw [hx] at h;refine cP km h ?_;exact ⟨_,ax,rfl⟩
 | some k=>
  rw [hx] at h;refine cP km h ?_;exact ⟨_,ax,rfl⟩
theorem yf {l:List DV} {k b:Nat} {x:DV} (hb:b < 32) (h:l[k + b]? = some x):(((l.drop k).take 32).drop b).take 1=[x]:=by
 have h1:((l.drop k).take 32)[b]? = some x:=by grind
 rw [List.drop_eq_getElem_cons (gS h1).1]
 grind
section
variable (af:List ByteArray) (tc:List DV) (rows:List Nat) (js:List Int)
theorem rS (a b:Nat) (z:Int) (ha:a < af.length) (hb:b < af.length) (hn:af.length<=32) (hz:js[a * 32 + b]? = some z) :
  aV prog 217 [.pt (fq af tc rows js) 0,.v (.int .i64 a),.v (.int .i64 b)] (.v (.int .i64 z)):=by
 refine eG 25 [.tmp 6] func217 rfl ntmps217 rfl fun _ _ _ _=>?_;refine cP tN (nf af tc rows js ha) ?_;refine cP tN (nf af tc rows js hb) ?_;refine ⟨_,⟨⟨by omega,by omega⟩,rfl⟩,?_⟩;refine ⟨_,⟨⟨by omega,by omega⟩,yf (x:=.v (.int .i64 z)) (by omega) ?_⟩,?_⟩
 ·grind [Al,cZ]
 exact (rfl:_=_)
theorem Ap (a b:Nat) (z:Int) (ha:a < af.length) (hb:b < af.length) (hn:af.length<=32) (hz:js[1024 + (a * 32 + b)]? = some z) :
  aV prog 111 [.pt (fq af tc rows js) 0,.v (.int .i64 a),.v (.int .i64 b)] (.v (.int .i64 z)):=by
 refine eG 25 [.tmp 6] func111 rfl ntmps111 rfl fun _ _ _ _=>?_;refine cP tN (nf af tc rows js ha) ?_;refine cP tN (nf af tc rows js hb) ?_;refine ⟨_,⟨⟨by omega,by omega⟩,rfl⟩,?_⟩;refine ⟨_,⟨⟨by omega,by omega⟩,yf (x:=.v (.int .i64 z)) (by omega) ?_⟩,?_⟩
 ·grind [Al,cZ]
 exact (rfl:_=_)
end
theorem oy {iN:Nat->Bool} {pb:Nat->Nat->Bool}:∀ {e k:Nat},bestA iN pb e=some k->iN k=true
 | 0,k,h=>by cases h
 | e + 1,k,h=>by
  rw [bestA] at h;split at h
  ·grind
  ·exact oy h
theorem rT {iN:Nat->Bool} {pb:Nat->Nat->Bool} {n k:Nat} (h:kz iN pb n=some k):k < n/\iN k=true/\∀ c,c < n->iN c=true->pb k c=true:=by grind [kz,kA,oy]
structure gj (f:Nat->Nat->Bool) (n:Nat):Prop where
 pos:0 < n
 rfl':∀ a,a < n->f a a=true
 tr:∀ a b c,a < n->b < n->c < n->f a b=true->f b c=true->f a c=true
 Aq:∀ a b,a < n->b < n->f a b=true->f b a=true->a=b
 jn:∀ a b,a < n->b < n->∃ k,dE f n a b=some k
 mt:∀ a b,a < n->b < n->∃ k,gh f n a b=some k
theorem rU {f:Nat->Nat->Bool} {n a b k:Nat} (h:dE f n a b=some k):k < n/\f a k=true/\f b k=true/\∀ c,c < n->f a c=true->f b c=true->f k c=true:=by
 obtain ⟨h1,h2,h3⟩:=rT h
 grind
theorem l7 {f:Nat->Nat->Bool} {n a b k:Nat} (h:gh f n a b=some k):k < n/\f k a=true/\f k b=true/\∀ c,c < n->f c a=true->f c b=true->f c k=true:=by
 obtain ⟨h1,h2,h3⟩:=rT h
 grind
def fb (f:Nat->Nat->Bool) (l:List Nat) (c:Nat):Bool:=l.all fun i=>f i c
def oA (f:Nat->Nat->Bool) (n:Nat) (l:List Nat) (c:Nat):Bool:=fb f l c && (List.range n).all fun d=>!fb f l d || f c d
def dx (f:Nat->Nat->Bool) (n:Nat) (l:List Nat):Option Nat:=bE (oA f n l) n
theorem kD {f:Nat->Nat->Bool} {n:Nat} {l:List Nat} {c:Nat}:oA f n l c=true↔fb f l c=true/\∀ d,d < n->fb f l d=true->f c d=true:=by grind [oA,fb]
theorem ur {f:Nat->Nat->Bool} {n:Nat} (hL:gj f n) {l:List Nat} {c:Nat} (hc:c < n) (h:oA f n l c=true):dx f n l=some c:=by
 refine cg hc h fun a ha=>?_;cases h2:oA f n l a
 ·rfl
 ·obtain ⟨h3,h4⟩:=kD.1 h;obtain ⟨h5,h6⟩:=kD.1 h2;have:=hL.Aq a c (by omega) hc (h6 c hc h3) (h4 a (by omega) h5);omega
theorem l8 {f:Nat->Nat->Bool} {n c:Nat} (hL:gj f n) (hc:c < n) (h:∀ d,d < n->f c d=true):dx f n []=some c:=
 ur hL hc (kD.2 ⟨rfl,fun d hd _=>h d hd⟩)
theorem ph {f:Nat->Nat->Bool} {n c k i:Nat} {l:List Nat} (hL:gj f n) (hl:∀ x∈l,x < n) (hi:i < n) (h:dx f n l=some c) (hk:dE f n c i=some k):dx f n (l ++ [i])=some k:=by
 obtain ⟨h1,h2,_⟩:=dN h;obtain ⟨h3,h4⟩:=kD.1 h2;obtain ⟨g1,g2,g3,g4⟩:=rU hk;simp only [fb,List.all_eq_true] at h3;refine ur hL g1 (kD.2 ⟨?_,fun d hd ho=>?_⟩)
 ·simp only [fb,List.all_eq_true,List.mem_append,List.mem_singleton];rintro x (hx | rfl)
  ·exact hL.tr x c k (hl x hx) h1 g1 (h3 x hx) g2
  ·exact g3
 ·grind [fb]
theorem oB {f:Nat->Nat->Bool} {n c:Nat} {l:List Nat} (h:dx f n l=some c):c < n:=(dN h).1
abbrev K0 (L:List DV) (n b e:Nat):St:=
 ⟨[qO 0 L,aq 3 b,aq 9 n,aq 10 e],[],[]⟩
theorem ng (af:List ByteArray) (tc:List DV) (rows:List Nat) (js:List Int) {f:Nat->Nat->Bool} (hL:gj f af.length) (hn:af.length<=32) (hj:∀ x y,x < af.length->y < af.length->JM f af.length js x y) :
  aV prog 46 [.pt (fq af tc rows js) 0] (.v (.int .i64 (oz (dx f af.length [])))):=by
 have hlen:=ox af tc rows js;have mH:=hL.pos;refine eG 19 [.tmp 2] func46 rfl ntmps46 rfl fun _ _ _ _=>?_;refine cP Fu hlen ?_;refine br ?_ ?_<;>intro g
 ·exfalso;simp at g;simp [g] at mH
 refine cP Fu hlen ?_;refine lI (fun j st=>∃ e b:Nat,st=K0 (fq af tc rows js) af.length b e/\e<=af.length/\b < af.length/\(∀ x,x < e->f b x=true)/\j=af.length - e) ⟨0,0,rfl,by omega,by omega,fun _ h=>by omega,rfl⟩ (bc wB) ?_;rintro j st ⟨e,b,rfl,he,hb,fN,rfl⟩;refine br ?_ ?_<;>intro UI
 ·have ap:e < af.length:=by have:=UI;simp at this;exact this
  obtain ⟨k,hk⟩:=hL.mt b e hb ap;obtain ⟨g1,g2,g3,g4⟩:=l7 hk;have hz:=(hj b e hb ap).2;rw [hk] at hz;refine cP O9 (Ap af tc rows js b e k hb ap hn hz) ?_;refine ⟨K0 (fq af tc rows js) af.length k (e + 1),(bc (c8 (aT ap (by omega)))),af.length - (e + 1),by omega,e + 1,k,rfl,by omega,g1,fun x hx=>?_,rfl⟩;rcases ka hx with hx | rfl
  ·exact hL.tr k b x g1 hb (by omega) g2 (fN x hx)
  ·exact g3
 ·have hge:e=af.length:=by have:=UI;simp at this;omega
  subst hge;rw [l8 hL hb fN];exact (rfl:_=_)
def labW (L:List ByteArray):List Wd->Ft
 | []=>(0,0)
 | w :: r=>if bV L w.s=none then (17,w.a) else labW L r
def jU (L:List ByteArray) (l:List Wd):List Nat:=l.map fun w=>(bV L w.s).getD 0
def vM (f:Nat->Nat->Bool) (L:List ByteArray) (l:List Wd):Int:=if (labW L l).1=0 then oz (dx f L.length (jU L l)) else 0
def DE (f:Nat->Nat->Bool) (L:List ByteArray) (l:List Wd):DV:=.bS [.v (.int .i64 (vM f L l)),(labW L l).d]
theorem oC {L:List ByteArray} {l:List Wd} {e:Nat} {w:Wd} (h:l[e]? = some w):labW L (l.drop e)=if bV L w.s=none then (17,w.a) else labW L (l.drop (e + 1)):=by
 rw [drop_cons h,labW]
theorem oD {L:List ByteArray} {l:List Wd} {e i:Nat} {w:Wd} (h:l[e]? = some w) (hi:bV L w.s=some i):jU L (l.take (e + 1))=jU L (l.take e) ++ [i]:=by
 rw [List.take_add_one,h];simp [jU,hi]
abbrev K1 (L:List DV) (l:List Wd) (b e:Nat):St:=
 ⟨[qO 0 L,aF 5 0,aq 6 b,aS 16 2 (bm l),aq 17 ((bm l).length),aq 18 e],[[.v (.int .i64 0),.v (.int .i64 0)]],[]⟩
theorem GM (af:List ByteArray) (az rows:List Nat) (js:List Int) (hT:fo af az) (iY:az.length<=1099511627776) {f:Nat->Nat->Bool} (hL:gj f af.length) (hn:af.length<=32) (hj:∀ x y,x < af.length->y < af.length->JM f af.length js x y)
  (l:List Wd) (hs:wdsWt l<=1099511627776) :
  aV prog 133 [.pt (fq af (cd af az) rows js) 0,.sl 2 (bm l) none] (DE f af l):=by
 have nV:=bd l;have QD:=ng af (cd af az) rows js hL hn hj
 have kT:∃ b,dx f af.length []=some b:=by
  have:∀ e,e<=af.length->∃ b,b < af.length/\∀ x,x < e->f b x=true:=by
   intro e
   induction e with
   | zero=>intro _;exact ⟨0,hL.pos,fun _ h=>by omega⟩
   | succ e ih=>
    intro he;obtain ⟨b,hb,fN⟩:=ih (by omega);obtain ⟨k,hk⟩:=hL.mt b e hb (by omega);obtain ⟨g1,g2,g3,_⟩:=l7 hk;refine ⟨k,g1,fun x hx=>?_⟩;rcases ka hx with hx | rfl
    ·exact hL.tr k b x g1 hb (by omega) g2 (fN x hx)
    ·exact g3
  obtain ⟨b,hb,fN⟩:=this af.length (zLeR _);exact ⟨b,l8 hL hb fN⟩
 obtain ⟨b0,gk⟩:=kT;rw [gk] at QD;refine eG 41 [.tmp 4,.cell 5 26] func133 rfl ntmps133 rfl fun _ _ _ _=>?_;refine cP OX QD ?_;refine lI (fun j st=>∃ e b:Nat,st=K1 (fq af (cd af az) rows js) l b e/\e<=l.length/\labW af l=labW af (l.drop e)/\dx f af.length (jU af (l.take e))=some b/\(∀ x∈jU af (l.take e),x < af.length)/\j=l.length - e) ⟨0,b0,rfl,by omega,rfl,gk,by simp [jU],rfl⟩ (bc wB) ?_;rintro j st ⟨e,b,rfl,he,aD,IM,HW,rfl⟩;have hb:=oB IM;refine br ?_ ?_<;>intro WK
 ·have ap:e < l.length:=by simpa [ak] using WK
  obtain ⟨w,hw⟩:=gX ap;have hst:=oC (L:=af) hw;have rN:=rR af az rows js w.s hT iY;refine ⟨gm w,⟨by omega,aH hw⟩,?_⟩
  cases hx:bV af w.s with
  | none=>
   rw [hx] at rN;refine cP II rN ?_;rw [zIfP hx] at hst;have h1:labW af l=(17,w.a):=aD.trans hst;refine dS ?_;refine ⟨_,?_,rfl⟩;rw [DE,vM,h1,ah (by simp)];exact ax
  | some i=>
   rw [hx] at rN;refine cP II rN ?_;rw [ah (by rw [hx];simp)] at hst;have hi:=(cC hx).1;obtain ⟨k,hk⟩:=hL.jn b i hb hi;have hz:=(hj b i hb hi).1;rw [hk] at hz;refine cP Pz (rS af (cd af az) rows js b i k hb hi hn hz) ?_;refine ⟨K1 (fq af (cd af az) rows js) l k (e + 1),(bc (c8 (aT ap (by omega)))),l.length - (e + 1),by omega,e + 1,k,rfl,by omega,aD.trans hst,?_,?_,rfl⟩
   ·rw [oD hw hx];exact ph hL HW hi IM hk
   ·rw [oD hw hx];intro x hm;rcases List.mem_append.1 hm with hm | hm
    ·exact HW x hm
    ·rw [List.mem_singleton.1 hm];exact hi
 ·have hge:e=l.length:=by
   have:=WK;simp [ak] at this;omega
  subst hge;rw [List.drop_length] at aD;rw [List.take_length] at IM;have h1:labW af l=(0,0):=aD;refine ⟨_,?_,rfl⟩;rw [DE,vM,h1,zIfP rfl,IM];exact ax
def Ar (x:Ft × Int) (r:DV) (os:List (List DV)) (_:List TkE):Prop:=
 r=x.1.d/\∃ z:Int,os=[[.v (.int .i64 z)]]/\(x.1.1=0->z=x.2)
theorem jV {x:Ft × Int}:∀ r os tk,Ar x r os tk->clB 0 0 r=true/\∀ oa∈os,clB.clL 0 0 oa=true:=by
 rintro r os tk ⟨rfl,z,rfl,_⟩;refine ⟨rfl,fun oa h=>?_⟩;simp only [List.mem_singleton] at h;subst h;rfl
def GN (k:Nat):Prop:=∀ (t:Ty) (depth m:Int),t.wt<=k->t.wt<=1099511627776->0<=depth->depth<=25->0<=m->m<=512 ->
 Ev prog 156 [.loc 0 0,.agg (cX t),.v (.int .i64 depth)] [[.v (.int .i64 m)]] [] (Ar (wrong t depth m))
def jf (p:Ph) (t:Ty) (un:Bool) (depth m:Int):Ft × Int:=
 if p.bare=true then (if un=false∨cq p t (lY p) bU=false then ((19,p.name.a),m) else ((0,0),m))
 else if (cV p).1≠0 then (cV p,m)
 else wrong t (depth + 1) m
theorem ba {x:Ft × Int} {f:Ft} {m z:Int} (h:x=(f,m)) (hz:f.1=0->z=m) {tk:List TkE}:Ar x f.d [[.v (.int .i64 z)]] tk:=by
 subst h;exact ⟨rfl,z,rfl,hz⟩
theorem As (k:Nat) (ih:GN k) (p:Ph) (t:Ty) (un:Bool) (depth m:Int) (hk:t.wt<=k) (hp:p.wt<=1099511627776) (bI:t.wt<=1099511627776) (tP:0<=depth) (ze:depth<=24) (mw:0<=m) (iw:m<=512) :
  Ev prog 287 [.loc 0 0,.agg (zL p (cX t)),.v (.bool un),.v (.int .i64 depth)] [[.v (.int .i64 m)]] [] (Ar (jf p t un depth m)):=by
 have sN:=hp;simp only [Ph.wt] at sN;have wV:=ku p (lY p) t bU hp (by simp only [Ph.wt,lY,wdsWt];omega) (rj t bU bI (by decide));have zb:=ih t (depth + 1) m hk bI (by omega) (by omega) mw iw;obtain ⟨u,us⟩:=t;have UJ:=vz p (cX (.mk u us)) (.mk u us) rfl hp;have hS:=jf.eq_def p (.mk u us) un depth m;generalize jf p (.mk u us) un depth m=F at hS ⊢;obtain ⟨nm,bare,lab,wide,ck,cn,ca,cl⟩:=p;simp only at hS sN wV
 cases bare with
 | true=>
  rw [zIfP rfl] at hS
  cases un with
  | true=>
   refine eG 68 [.cell 8 26] func287 rfl ntmps287 rfl fun _ _ _ _=>?_;refine cP FA wV ?_;refine br ?_ ?_<;>intro q
   ·have q:cq ⟨nm,true,lab,wide,ck,cn,ca,cl⟩ (.mk u us) (lY ⟨nm,true,lab,wide,ck,cn,ca,cl⟩) bU=false:=by simpa [show (lastG (21,false) [(18,true)]).snd=true from rfl,pickB] using q
    rw [zIfP (.inr q)] at hS;refine cP c9 (bf 19 nm.a) ?_;exact ⟨_,_,ax,ax,ba (tk:=[]) (f:=(19,nm.a)) hS (fun _=>rfl)⟩
   ·have q:cq ⟨nm,true,lab,wide,ck,cn,ca,cl⟩ (.mk u us) (lY ⟨nm,true,lab,wide,ck,cn,ca,cl⟩) bU=true:=by simpa [show (lastG (21,false) [(18,true)]).snd=true from rfl,pickB] using q
    rw [ah (by simp [q])] at hS;exact ⟨_,_,ax,ax,ba (tk:=[]) (f:=(0,0)) hS (fun _=>rfl)⟩
  | false=>
   refine eG 68 [.cell 8 26] func287 rfl ntmps287 rfl fun _ _ _ _=>?_;rw [zIfP (.inl rfl)] at hS;refine cP c9 (bf 19 nm.a) ?_;exact ⟨_,_,ax,ax,ba (tk:=[]) (f:=(19,nm.a)) hS (fun _=>rfl)⟩
 | false=>
  rw [ah (by simp)] at hS;refine eG 68 [.cell 8 26] func287 rfl ntmps287 rfl fun _ _ _ _=>?_;refine br ?_ ?_<;>intro hw
  ·have hw:wide < 0∨64 < wide:=by simpa [aj] using hw
   have hP:cV ⟨nm,false,lab,wide,ck,cn,ca,cl⟩=(20,nm.a):=by simp only [cV,zIfP hw]
   rw [hP,zIfP (by simp)] at hS;refine cP c9 (bf 20 nm.a) ?_;exact ⟨_,_,ax,ax,ba (tk:=[]) (f:=(20,nm.a)) hS (fun _=>rfl)⟩
  have hw:¬ (wide < 0∨64 < wide):=by simp [aj] at hw;omega
  refine cP xD (fX lab (by omega)) ?_;refine br ?_ ?_<;>intro hb
  ·have hb:(bp lab).1≠0:=sU hb;have hP:cV ⟨nm,false,lab,wide,ck,cn,ca,cl⟩=bp lab:=by simp only [cV,ah hw,zIfP hb]
   rw [hP,zIfP hb] at hS;exact ⟨_,_,ax,ax,ba (tk:=[]) (f:=bp lab) hS (fun _=>rfl)⟩
  have hb:(bp lab).1=0:=sU hb;have hP:cV ⟨nm,false,lab,wide,ck,cn,ca,cl⟩=aN ⟨nm,false,lab,wide,ck,cn,ca,cl⟩:=by simp only [cV,ah hw];rw [ah (by simp [hb])]
  rw [hP] at hS;refine cP PO UJ ?_;refine br ?_ ?_<;>intro hc
  ·have hc:(aN ⟨nm,false,lab,wide,ck,cn,ca,cl⟩).1≠0:=sU hc;rw [zIfP hc] at hS;exact ⟨_,_,ax,ax,ba (tk:=[]) (f:=aN ⟨nm,false,lab,wide,ck,cn,ca,cl⟩) hS (fun _=>rfl)⟩
  have hc:(aN ⟨nm,false,lab,wide,ck,cn,ca,cl⟩).1=0:=sU hc;rw [ah (by simp [hc])] at hS;refine jI Fy rfl rfl ax (by repeat' (first | exact rfl | exact trivial | exact Or.inr (Or.inl ⟨_,rfl⟩) | exact Or.inr ⟨_,rfl⟩ | exact Or.inl ⟨rfl,rfl⟩ | exact Or.inl rfl | refine Or.inr ⟨_,_,rfl,Nat.zero_le _,rfl,?_⟩ | refine ⟨_,_,rfl,?_,?_⟩ | refine ⟨_,rfl,?_⟩ | exact congrArg (fun z=>DV.v (.int .i64 z)) (wrap64 (by omega) (by omega)) | refine Or.inr (Or.inr (Or.inr ⟨_,_,rfl,?_⟩)) | exact Or.inl rfl | refine Or.inr ?_)) zb jV (fun r oa hr=>?_);obtain ⟨rfl,z,hz,w7⟩:=hr;simp only [List.cons.injEq,and_true] at hz;subst hz;exact ⟨_,_,ax,ax,ba (tk:=[]) (f:=(wrong (.mk u us) (depth + 1) m).1) hS w7⟩
theorem sX {ai:Int} {all:List Wd} {i:Nat} {p:Ph} {t:Ty} {r:Pts} {depth m:Int} (hk:ai=7∨ai=8) (hl:aA all i p.name=0) :
  wrongPts ai all i (.cons p t r) depth m=if (jf p t (decide (ai=8)) depth m).1.1≠0 then jf p t (decide (ai=8)) depth m else wrongPts ai all (i + 1) r depth (jf p t (decide (ai=8)) depth m).2:=by
 simp only [wrongPts];rw [ah (by simp [hl])];unfold jf;by_cases hb:p.bare=true
 ·grind [Ji,sameTy,bU,bQ,gw]
 ·grind
theorem GO {p:Ph} {t:Ty} {un:Bool} {depth m:Int} (mw:0<=m) (iw:m<=512) (h:(jf p t un depth m).1.1=0):(jf p t un depth m).1=(0,0)/\0<=(jf p t un depth m).2/\(jf p t un depth m).2<=512:=by grind [mU,jf,cV]
abbrev yg (h:Hd) (ps:Pts) (n e:Nat) (depth m:Int):St:=
 ⟨[aF 0 0,aq 2 depth,aF 4 1,aF 6 2,aS 38 18 (dY ps),aq 39 ((dY ps).length),aq 40 e,(7,⟨[],.sl 1 (dB (al ((pNames ps).take e))) (some 0)⟩)],
  [[.v (.int .i64 m)],cX (.mk h ps),[.v (.int .i64 0),.v (.int .i64 0)]],[⟨n,9,1,none⟩]⟩
theorem pj (k:Nat) (ih:GN k) (h:Hd) (ps:Pts) (depth m:Int) (SF:h.ai=7∨h.ai=8) (hk:ps.wt<=k) (bI:(Ty.mk h ps).wt<=1099511627776) (tP:0<=depth) (ze:depth<=24) (mw:0<=m) (iw:m<=512) :
  Ev prog 241 [.loc 0 0,.agg (cX (.mk h ps)),.v (.int .i64 depth)] [[.v (.int .i64 m)]] [] (Ar (dC h ps depth m)):=by
 simp only [Ty.wt,Hd.wt] at bI;have ml:=ps.dX;have fi:=eD ps;have Mp:=oc ps;have hS:=dC.eq_def h ps depth m;generalize dC h ps depth m=F at hS ⊢;refine eG 72 [.cell 6 26] func241 rfl ntmps241 rfl fun _ _ _ _=>?_;refine br ?_ ?_<;>intro c1
 ·have c1:h.ai=8/\ps.len=0:=by grind [av,aC]
  rw [zIfP c1] at hS;refine cP c9 (bf 15 h.cW) ?_;exact ⟨_,_,ax,ax,ba (tk:=[]) (f:=(15,h.cW)) hS (fun _=>rfl)⟩
 have c1:¬ (h.ai=8/\ps.len=0):=by
  simp [av,aC] at c1;omega
 rw [ah c1] at hS;refine br ?_ ?_<;>intro c2
 ·have ap:64 < ps.len:=by simp [aC] at c2;omega
  obtain ⟨p,t,hx⟩:=Pts.dq ap;refine iX (bz hx) ?_;refine cP c9 (bf 8 p.name.a) ?_;rw [zIfP ap,eE hx] at hS;exact ⟨_,_,ax,ax,ba (tk:=[]) (f:=(8,p.name.a)) hS (fun _=>rfl)⟩
 have c2:¬ 64 < ps.len:=by simp [aC] at c2;omega
 rw [ah c2] at hS
 refine aW (fun j st=>∃ (e:Nat) (m':Int),st=yg h ps e e depth m' /\ e<=ps.len/\0<=m' /\ m' <= 512/\(al ((pNames ps).take e)).Nodup /\
   F=wrongPts h.ai (pNames ps) e (ps.drop e) depth m' /\ j=ps.len - e) ps.len (yg h ps 0 0 depth m) (dG ⟨0,9,1,none⟩ rfl ⟨_,rfl⟩ rfl wA rfl rfl pE) ⟨0,m,rfl,by omega,mw,iw,by simp [al],hS,by omega⟩ ?_
 rintro j st ⟨e,m',rfl,he,vy,xO,hnd,aD,rfl⟩;refine br ?_ ?_<;>intro hL
 ·have ap:e < ps.len:=by simpa [aC] using hL
  obtain ⟨p,t,hx⟩:=Pts.dq ap;have C0:=Pts.eC (mG hx);have zf:=eE hx;have Wu:p.name.s.size + 64<=p.wt:=by simp only [Ph.wt,Wd.wt];omega
  rw [Pts.drop_cons hx] at aD;have F7:(al ((pNames ps).take (e + 1)))[(al ((pNames ps).take (e + 1))).length - 1]? = some p.name.s:=by grind [al,pNames]
  have LF:=o9 (al ((pNames ps).take (e + 1))) p.name.s p.name.a F7 (by simp [al];omega) (by omega);have k0:=gP zf;rw [ui p.name.a zf hnd,<- k0] at LF;have yh:=As k ih p t (decide (h.ai=8)) depth m' (by omega) (by omega) (by omega) tP ze vy xO;obtain ⟨u,us⟩:=t;refine iX (bz hx) ?_;refine ⟨by simp [bP,al];omega,⟨by simp [bP,al,maxLen];omega,by simp [bP,al];omega⟩,?_⟩;refine cP KG LF ?_;by_cases hl:aA (pNames ps) e p.name≠0
  ·rw [zIfP hl];refine br ?_ ?_<;>intro hf
   ·simp only [wrongPts] at aD;rw [zIfP hl] at aD;exact ⟨_,_,ax,ax,ba (tk:=[]) (f:=(aA (pNames ps) e p.name,p.name.a)) aD (fun _=>rfl)⟩
   ·exact absurd (sU hf) hl
  have hl:aA (pNames ps) e p.name=0:=sU hl;have UK:=jT zf hnd hl;rw [ah (by simp [hl])];rw [sX SF hl] at aD;have ef:=GO (p:=p) (t:=.mk u us) (un:=decide (h.ai=8)) (depth:=depth) vy xO;generalize jf p (.mk u us) (decide (h.ai=8)) depth m'=r at yh aD ef;obtain ⟨⟨fe,fa⟩,many⟩:=r;simp only at aD ef;refine jI PM rfl rfl ax ax yh jV (fun r oa hr=>?_);obtain ⟨rfl,z,hz,w7⟩:=hr;simp only [List.cons.injEq,and_true] at hz;subst hz;refine br ?_ ?_<;>intro hd
  ·have hd:fe≠0:=sU hd;rw [zIfP hd] at aD;exact ⟨_,_,ax,ax,ba (tk:=[]) (f:=(fe,fa)) aD (fun h0=>absurd h0 hd)⟩
  ·have hd:fe=0:=sU hd;subst hd;obtain ⟨_,h2,h3⟩:=ef rfl;rw [ah (by simp)] at aD;have WL:z=many:=w7 rfl;subst WL;exact rE ⟨_,by omega,e + 1,z,rfl,by omega,h2,h3,UK,aD,rfl⟩ (bc (hY (aT ap (by omega)) k0))
 ·have hge:e=ps.len:=by simp [aC] at hL;omega
  rw [hge,Pts.cu] at aD;simp only [wrongPts] at aD;exact ⟨_,_,ax,ax,ba (tk:=[]) (f:=(0,0)) aD (fun _=>rfl)⟩
theorem uu (k:Nat) (ih:GN k) (h:Hd) (ps:Pts) (depth m:Int) (hk:ps.wt<=k) (bI:(Ty.mk h ps).wt<=1099511627776) (tP:0<=depth) (ze:depth<=24) (mw:0<=m) (iw:m<=512) :
  Ev prog 240 [.loc 0 0,.agg (cX (.mk h ps)),.v (.int .i64 depth)] [[.v (.int .i64 m)]] [] (Ar (wrongOne h ps depth m)):=by
 simp only [Ty.wt,Hd.wt] at bI
 cases ps with
 | nil=>
  have hS:wrongOne h .nil depth m=((19,h.cW),m):=by simp only [wrongOne]
  generalize wrongOne h .nil depth m=F at hS ⊢;refine eG 44 [.cell 6 26] func240 rfl ntmps240 rfl fun _ _ _ _=>?_;refine cP c9 (bf 19 h.cW) ?_;exact ⟨_,_,ax,ax,ba (tk:=[]) (f:=(19,h.cW)) hS (fun _=>rfl)⟩
 | cons p t r=>
  cases r with
  | cons p2 t2 r2=>
   have hS:wrongOne h (.cons p t (.cons p2 t2 r2)) depth m=((19,h.cW),m):=by simp only [wrongOne]
   generalize wrongOne h (.cons p t (.cons p2 t2 r2)) depth m=F at hS ⊢;refine eG 44 [.cell 6 26] func240 rfl ntmps240 rfl fun _ _ _ _=>?_;refine cP c9 (bf 19 h.cW) ?_;exact ⟨_,_,ax,ax,ba (tk:=[]) (f:=(19,h.cW)) hS (fun _=>rfl)⟩
  | nil=>
   simp only [Pts.wt] at bI hk;have hS:wrongOne h (.cons p t .nil) depth m=if p.name.s≠aJ∨bQ p dJ=false then ((19,h.cW),m) else if h.most < 0∨1024 < h.most then ((20,h.cW),m) else wrong t (depth + 1) m:=by simp only [wrongOne]
   generalize wrongOne h (.cons p t .nil) depth m=F at hS ⊢;have L5:=xR p t (by omega);rw [empty_eq] at L5;have zb:=ih t (depth + 1) m (by omega) (by omega) (by omega) (by omega) mw iw;obtain ⟨u,us⟩:=t;refine eG 44 [.cell 6 26] func240 rfl ntmps240 rfl fun _ _ _ _=>?_;refine ⟨_,⟨by omega,rfl⟩,?_⟩;refine cP PL L5 ?_;refine br ?_ ?_<;>intro q
   ·have q:p.name.s≠aJ∨bQ p dJ=false:=by
     have:=q;simp [pickB] at this;exact this
    rw [zIfP q] at hS;refine cP c9 (bf 19 h.cW) ?_;exact ⟨_,_,ax,ax,ba (tk:=[]) (f:=(19,h.cW)) hS (fun _=>rfl)⟩
   have q:¬ (p.name.s≠aJ∨bQ p dJ=false):=by grind [pickB]
   rw [ah q] at hS;refine br ?_ ?_<;>intro x
   ·have x:h.most < 0∨1024 < h.most:=by simpa [aj] using x
    rw [zIfP x] at hS;refine cP c9 (bf 20 h.cW) ?_;exact ⟨_,_,ax,ax,ba (tk:=[]) (f:=(20,h.cW)) hS (fun _=>rfl)⟩
   have x:¬ (h.most < 0∨1024 < h.most):=by simp [aj] at x;omega
   rw [ah x] at hS;refine ⟨_,⟨by omega,rfl⟩,?_⟩;refine jI Fy rfl rfl ax (by repeat' (first | exact rfl | exact trivial | exact Or.inr (Or.inl ⟨_,rfl⟩) | exact Or.inr ⟨_,rfl⟩ | exact Or.inl ⟨rfl,rfl⟩ | exact Or.inl rfl | refine Or.inr ⟨_,_,rfl,Nat.zero_le _,rfl,?_⟩ | refine ⟨_,_,rfl,?_,?_⟩ | refine ⟨_,rfl,?_⟩ | exact congrArg (fun z=>DV.v (.int .i64 z)) (wrap64 (by omega) (by omega)) | refine Or.inr (Or.inr (Or.inr ⟨_,_,rfl,?_⟩)) | exact Or.inl rfl | refine Or.inr ?_)) zb jV (fun r oa hr=>?_);obtain ⟨rfl,z,hz,w7⟩:=hr;simp only [List.cons.injEq,and_true] at hz;subst hz;exact ⟨_,_,ax,ax,ba (tk:=[]) (f:=(wrong (.mk u us) (depth + 1) m).1) hS w7⟩
theorem yi (k:Nat) (ih:GN k) (h:Hd) (ps:Pts) (depth m:Int) (hk:ps.wt<=k) (bI:(Ty.mk h ps).wt<=1099511627776) (tP:0<=depth) (ze:depth<=25) (mw:0<=m) (iw:m<=512) :
  Ev prog 156 [.loc 0 0,.agg (cX (.mk h ps)),.v (.int .i64 depth)] [[.v (.int .i64 m)]] [] (Ar (wrong (.mk h ps) depth m)):=by
 have uv:=bI;simp only [Ty.wt,Hd.wt] at uv;have nJ:IntKind.i64.wrap (m + 1)=m + 1:=wrap64 (by omega) (by omega);have hS:=wrong.eq_def (.mk h ps) depth m;simp only at hS;generalize wrong (.mk h ps) depth m=F at hS ⊢;have eA:=C3 h ps;rw [BV] at eA;refine eG 103 [.cell 6 26] func156 rfl ntmps156 rfl fun _ _ _ _=>?_;refine br ?_ ?_<;>intro c
 ·have c:24 < depth:=of_decide_eq_true c;rw [zIfP c] at hS;refine cP c9 (bf 6 h.cW) ?_;exact ⟨_,[[.v (.int .i64 (m + 1))]],ax,(pW nJ),ba (tk:=[]) (f:=(6,h.cW)) hS (fun _=>rfl)⟩
 have c:¬ 24 < depth:=of_decide_eq_false c;rw [ah c] at hS;refine br ?_ ?_<;>intro c
 ·have c:512 < IntKind.i64.wrap (m + 1):=of_decide_eq_true c;rw [nJ] at c;rw [zIfP c] at hS;refine cP c9 (bf 8 h.cW) ?_;exact ⟨_,[[.v (.int .i64 (m + 1))]],ax,(pW nJ),ba (tk:=[]) (f:=(8,h.cW)) hS (fun _=>rfl)⟩
 have c:¬ 512 < IntKind.i64.wrap (m + 1):=of_decide_eq_false c;rw [nJ] at c;rw [ah c] at hS;refine br ?_ ?_<;>intro c
 ·have c:h.ai < 1∨9 < h.ai:=by simpa [aj] using c
  rw [zIfP c] at hS;refine cP c9 (bf 14 h.cW) ?_;exact ⟨_,[[.v (.int .i64 (m + 1))]],ax,(pW nJ),ba (tk:=[]) (f:=(14,h.cW)) hS (fun _=>rfl)⟩
 have ck:¬ (h.ai < 1∨9 < h.ai):=by simp [aj] at c;omega
 rw [ah ck] at hS;refine cP PB eA ?_;refine br ?_ ?_<;>intro c
 ·have c:rc (.mk h ps)=false:=by simpa [rc] using c
  rw [zIfP c] at hS;refine cP c9 (bf 19 h.cW) ?_;exact ⟨_,[[.v (.int .i64 (m + 1))]],ax,(pW nJ),ba (tk:=[]) (f:=(19,h.cW)) hS (fun _=>rfl)⟩
 have c:¬ rc (.mk h ps)=false:=by simpa [rc] using c
 rw [ah c] at hS;refine br ?_ ?_<;>intro k2
 ·have k2:h.ai=2:=of_decide_eq_true k2;refine br ?_ ?_<;>intro x
  ·have x:h.hi < h.lo:=of_decide_eq_true x;rw [zIfP (.inl ⟨k2,x⟩)] at hS;refine cP c9 (bf 20 h.cW) ?_;exact ⟨_,[[.v (.int .i64 (m + 1))]],ax,(pW nJ),ba (tk:=[]) (f:=(20,h.cW)) hS (fun _=>rfl)⟩
  have x:¬ h.hi < h.lo:=of_decide_eq_false x;rw [ah (by omega),ah (by omega),ah (by omega),ah (by omega),ah (by omega)] at hS;exact ⟨_,[[.v (.int .i64 (m + 1))]],ax,(pW nJ),ba (tk:=[]) (f:=(0,0)) hS (fun _=>rfl)⟩
 have k2:¬ h.ai=2:=of_decide_eq_false k2;refine br ?_ ?_<;>intro k3
 ·have k3:h.ai=3:=of_decide_eq_true k3;refine br ?_ ?_<;>intro x
  ·have x:h.most < 0∨4096 < h.most:=by simpa [aj] using x
   rw [zIfP (.inr ⟨k3,x⟩)] at hS;refine cP c9 (bf 20 h.cW) ?_;exact ⟨_,[[.v (.int .i64 (m + 1))]],ax,(pW nJ),ba (tk:=[]) (f:=(20,h.cW)) hS (fun _=>rfl)⟩
  have x:¬ (h.most < 0∨4096 < h.most):=by simp [aj] at x;omega
  rw [ah (by omega),ah (by omega),ah (by omega),ah (by omega),ah (by omega)] at hS;exact ⟨_,[[.v (.int .i64 (m + 1))]],ax,(pW nJ),ba (tk:=[]) (f:=(0,0)) hS (fun _=>rfl)⟩
 have k3:¬ h.ai=3:=of_decide_eq_false k3;rw [ah (by omega)] at hS;refine br ?_ ?_<;>intro k4
 ·have k4:h.ai=4:=of_decide_eq_true k4;rw [ah (by omega),zIfP k4,<- GG] at hS;refine cP PD (zU h ps (by omega)) ?_;exact ⟨_,[[.v (.int .i64 (m + 1))]],ax,(pW nJ),ba (tk:=[]) (f:=kv h) hS (fun _=>rfl)⟩
 have k4:¬ h.ai=4:=of_decide_eq_false k4;refine br ?_ ?_<;>intro k5
 ·have UL:h.ai=5∨h.ai=6:=.inl (of_decide_eq_true k5);rw [ah (by omega),ah (by omega),zIfP UL] at hS;refine br (fun _=>?_) (fun hc=>by rw [k5] at hc;cases hc);refine jI Ky rfl rfl (cs':=[.v (.int .i64 (m + 1))]) (pW nJ) ax (uu k ih h ps depth (m + 1) hk bI tP (by omega) (by omega) (by omega)) jV (fun r oa hr=>?_);obtain ⟨rfl,z,hz,w7⟩:=hr;simp only [List.cons.injEq,and_true] at hz;subst hz;exact ⟨_,_,ax,ax,ba (tk:=[]) (f:=(wrongOne h ps depth (m + 1)).1) hS w7⟩
 have k5:¬ h.ai=5:=of_decide_eq_false k5;refine br ?_ ?_<;>intro k6
 ·have UL:h.ai=5∨h.ai=6:=.inr (of_decide_eq_true k6);rw [ah (by omega),ah (by omega),zIfP UL] at hS;refine jI Ky rfl rfl (cs':=[.v (.int .i64 (m + 1))]) (pW nJ) ax (uu k ih h ps depth (m + 1) hk bI tP (by omega) (by omega) (by omega)) jV (fun r oa hr=>?_);obtain ⟨rfl,z,hz,w7⟩:=hr;simp only [List.cons.injEq,and_true] at hz;subst hz;exact ⟨_,_,ax,ax,ba (tk:=[]) (f:=(wrongOne h ps depth (m + 1)).1) hS w7⟩
 have k6:¬ h.ai=6:=of_decide_eq_false k6;have hP:dC h ps depth (m + 1)=dC h ps depth (m + 1):=rfl
 conv at hP=>lhs;unfold dC
 refine br ?_ ?_<;>intro k7
 ·have QE:h.ai=7∨h.ai=8:=.inl (of_decide_eq_true k7);rw [ah (by omega),ah (by omega),ah (by omega),zIfP QE,hP] at hS;refine br (fun _=>?_) (fun hc=>by rw [k7] at hc;cases hc);refine jI Kz rfl rfl (cs':=[.v (.int .i64 (m + 1))]) (pW nJ) ax (pj k ih h ps depth (m + 1) QE hk bI tP (by omega) (by omega) (by omega)) jV (fun r oa hr=>?_);obtain ⟨rfl,z,hz,w7⟩:=hr;simp only [List.cons.injEq,and_true] at hz;subst hz;exact ⟨_,_,ax,ax,ba (tk:=[]) (f:=(dC h ps depth (m + 1)).1) hS w7⟩
 have k7:¬ h.ai=7:=of_decide_eq_false k7;refine br ?_ ?_<;>intro k8
 ·have QE:h.ai=7∨h.ai=8:=.inr (of_decide_eq_true k8);rw [ah (by omega),ah (by omega),ah (by omega),zIfP QE,hP] at hS;refine jI Kz rfl rfl (cs':=[.v (.int .i64 (m + 1))]) (pW nJ) ax (pj k ih h ps depth (m + 1) QE hk bI tP (by omega) (by omega) (by omega)) jV (fun r oa hr=>?_);obtain ⟨rfl,z,hz,w7⟩:=hr;simp only [List.cons.injEq,and_true] at hz;subst hz;exact ⟨_,_,ax,ax,ba (tk:=[]) (f:=(dC h ps depth (m + 1)).1) hS w7⟩
 have k8:¬ h.ai=8:=of_decide_eq_false k8;refine br ?_ ?_<;>intro k9
 ·have k9:h.ai=9:=of_decide_eq_true k9;refine cP CP (fC h.name.s (by simp only [Wd.wt] at uv;omega)) ?_;refine br ?_ ?_<;>intro q
  ·have q:aX h.name.s=false:=sU q;rw [zIfP ⟨k9,q⟩] at hS;refine cP c9 (bf 9 h.name.a) ?_;exact ⟨_,[[.v (.int .i64 (m + 1))]],ax,(pW nJ),ba (tk:=[]) (f:=(9,h.name.a)) hS (fun _=>rfl)⟩
  ·have q:aX h.name.s=true:=sU q;rw [ah (by simp [q]),ah (by omega),ah (by omega),ah (by omega)] at hS;exact ⟨_,[[.v (.int .i64 (m + 1))]],ax,(pW nJ),ba (tk:=[]) (f:=(0,0)) hS (fun _=>rfl)⟩
 have k9:¬ h.ai=9:=of_decide_eq_false k9;rw [ah (by omega),ah (by omega),ah (by omega),ah (by omega)] at hS;exact ⟨_,[[.v (.int .i64 (m + 1))]],ax,(pW nJ),ba (tk:=[]) (f:=(0,0)) hS (fun _=>rfl)⟩
theorem yj:∀ k,GN k
 | 0=>fun t depth m hk=>by have:=t.gv;omega
 | k + 1=>fun t depth m hk bI tP ze mw iw=>by
  obtain ⟨h,ps⟩:=t;have fl:=hk;simp only [Ty.wt,Hd.wt] at fl;exact yi k (yj k) h ps depth m (by omega) bI tP ze mw iw
theorem yk (t:Ty) (bI:t.wt<=1099511627776):aV prog 84 [.agg (cX t)] (wrong t 1 0).1.d:=
 C7 t (yj t.wt t 1 0 (zLeR _) bI (by omega) (by omega) (by omega) (by omega))
abbrev GP (t:Ty) (ps:Pts) (e n:Nat):St:=
 ⟨[aF 1 0,aq 3 n,aS 7 18 (dY ps),aq 8 ((dY ps).length),aq 9 e],[cX t],[]⟩
theorem rV:∀ (k:Nat) (t:Ty),t.wt<=k->t.wt<=1099511627776 ->
  aV prog 132 [.agg (cX t)] (.v (.int .i64 t.cnt))
 | 0,t,hn,_=>by have:=t.gv;omega
 | k + 1,.mk h ps,hn,bI=>by
  simp only [Ty.wt,Hd.wt] at hn bI;have ml:=ps.dX;have hc:=ps.dr;refine eG 23 [.tmp 2] func132 rfl ntmps132 rfl fun _ _ _ _=>?_
  refine aW (fun j st=>∃ (e n:Nat),st=GP (.mk h ps) ps e n/\e<=ps.len/\n + (ps.drop e).cnt=1 + ps.cnt/\j=ps.len - e) ps.len
   (GP (.mk h ps) ps 0 1) (bc wB) ⟨0,1,rfl,by omega,rfl,by omega⟩ ?_
  rintro j st ⟨e,n,rfl,he,bi,rfl⟩;refine br ?_ ?_<;>intro hL
  ·have ap:e < ps.len:=by simpa [aC] using hL
   obtain ⟨p,t,hx⟩:=Pts.dq ap;have C0:=Pts.eC (mG hx);rw [Pts.drop_cons hx] at bi;simp only [Pts.cnt] at bi;have Uk:=t.dr;obtain ⟨u,us⟩:=t;refine iX (bz hx) ?_;refine br ?_ ?_<;>intro hB
   ·have hB:p.bare=false:=sU hB;rw [hB] at bi;have bi:n + ((Ty.mk u us).cnt + (ps.drop (e + 1)).cnt)=1 + ps.cnt:=bi;refine cP Km (rV k (.mk u us) (by omega) (by omega)) ?_;have tT:IntKind.i64.wrap ((n:Int) + (Ty.mk u us).cnt)=((n + (Ty.mk u us).cnt:Nat):Int):=by rw [wrap64 (by omega) (by omega)];omega
    exact ⟨GP (.mk h ps) ps (e + 1) (n + (Ty.mk u us).cnt),(bc (hY tT (aT ap (by omega)))),ps.len - (e + 1),by omega,e + 1,_,rfl,by omega,by omega,rfl⟩
   ·have hB:p.bare=true:=sU hB;rw [hB] at bi;have bi:n + (0 + (ps.drop (e + 1)).cnt)=1 + ps.cnt:=bi;exact rE ⟨_,by omega,e + 1,n,rfl,by omega,by omega,rfl⟩ (bc (c8 (aT ap (by omega))))
  ·have hge:e=ps.len:=by simp [aC] at hL;omega
   rw [hge,Pts.cu] at bi;simp only [Pts.cnt] at bi;have e2:(n:Int)=((Ty.mk h ps).cnt:Int):=by simp only [Ty.cnt];omega
   refine (qN ?_:);exact e2
mutual
def Ty.nn:Ty->Nat
 | .mk h ps=>if h.ai=9 then 0 else 1 + ps.nn
def Pts.nn:Pts->Nat
 | .nil=>0
 | .cons p t r=>(if p.bare then 0 else t.nn) + r.nn
end
mutual
theorem Ty.eI:∀ t:Ty,t.nn<=t.cnt
 | .mk h ps=>by
  have:=Pts.eI ps;simp only [Ty.nn,Ty.cnt];split<;>omega
theorem Pts.eI:∀ ps:Pts,ps.nn<=ps.cnt
 | .nil=>zLeR _
 | .cons p t r=>by
  have:=Ty.eI t;have:=Pts.eI r;simp only [Pts.nn,Pts.cnt];split<;>omega
end
abbrev MR (t:Ty) (ps:Pts) (e n:Nat):St:=
 ⟨[aF 1 0,aq 3 n,aS 10 18 (dY ps),aq 11 ((dY ps).length),aq 12 e],[cX t],[]⟩
theorem rW:∀ (k:Nat) (t:Ty),t.wt<=k->t.wt<=1099511627776 ->
  aV prog 135 [.agg (cX t)] (.v (.int .i64 t.nn))
 | 0,t,hn,_=>by have:=t.gv;omega
 | k + 1,.mk h ps,hn,bI=>by
  simp only [Ty.wt,Hd.wt] at hn bI;have ml:=ps.dX;have hc:=ps.dr;have mC:=ps.eI;refine eG 26 [.tmp 2] func135 rfl ntmps135 rfl fun _ _ _ _=>?_;refine br ?_ ?_<;>intro h9
  ·have h9:h.ai=9:=sU h9;have:(Ty.mk h ps).nn=0:=by simp [Ty.nn,h9]
   rw [this];exact (rfl:_=_)
  have h9:¬ h.ai=9:=sU h9
  refine aW (fun j st=>∃ (e n:Nat),st=MR (.mk h ps) ps e n/\e<=ps.len/\n + (ps.drop e).nn=1 + ps.nn/\j=ps.len - e) ps.len
   (MR (.mk h ps) ps 0 1) (bc wB) ⟨0,1,rfl,by omega,rfl,by omega⟩ ?_
  rintro j st ⟨e,n,rfl,he,bi,rfl⟩;refine br ?_ ?_<;>intro hL
  ·have ap:e < ps.len:=by simpa [aC] using hL
   obtain ⟨p,t,hx⟩:=Pts.dq ap;have C0:=Pts.eC (mG hx);rw [Pts.drop_cons hx] at bi;simp only [Pts.nn] at bi;have Uk:=t.dr;have hct2:=t.eI;obtain ⟨u,us⟩:=t;refine iX (bz hx) ?_;refine br ?_ ?_<;>intro hB
   ·have hB:p.bare=false:=sU hB;rw [hB] at bi;have bi:n + ((Ty.mk u us).nn + (ps.drop (e + 1)).nn)=1 + ps.nn:=bi;refine cP Kn (rW k (.mk u us) (by omega) (by omega)) ?_;have tT:IntKind.i64.wrap ((n:Int) + (Ty.mk u us).nn)=((n + (Ty.mk u us).nn:Nat):Int):=by rw [wrap64 (by omega) (by omega)];omega
    exact ⟨MR (.mk h ps) ps (e + 1) (n + (Ty.mk u us).nn),(bc (hY tT (aT ap (by omega)))),ps.len - (e + 1),by omega,e + 1,_,rfl,by omega,by omega,rfl⟩
   ·have hB:p.bare=true:=sU hB;rw [hB] at bi;have bi:n + (0 + (ps.drop (e + 1)).nn)=1 + ps.nn:=bi;exact rE ⟨_,by omega,e + 1,n,rfl,by omega,by omega,rfl⟩ (bc (c8 (aT ap (by omega))))
  ·have hge:e=ps.len:=by simp [aC] at hL;omega
   rw [hge,Pts.cu] at bi;simp only [Pts.nn] at bi;have e2:(n:Int)=((Ty.mk h ps).nn:Int):=by simp only [Ty.nn,ah h9];omega
   refine (qN ?_:);exact e2
structure Lx where
 af:List ByteArray
 az:List Nat
 rows:List Nat
 js:List Int
 f:Nat->Nat->Bool
def Lx.pd (X:Lx):DV:=.pt (fq X.af (cd X.af X.az) X.rows X.js) 0
def Lx.lev (X:Lx) (l:List Wd):Int:=vM X.f X.af l
def Lx.bad (X:Lx) (l:List Wd):Ft:=labW X.af l
structure Lx.OK (X:Lx):Prop where
 hT:fo X.af X.az
 iY:X.az.length<=1099511627776
 hL:gj X.f X.af.length
 hn:X.af.length<=32
 hj:∀ x y,x < X.af.length->y < X.af.length->JM X.f X.af.length X.js x y
theorem Lx.nh {X:Lx} (h:X.OK) (l:List Wd) (hs:wdsWt l<=1099511627776):aV prog 133 [X.pd,.sl 2 (bm l) none] (.bS [.v (.int .i64 (X.lev l)),(X.bad l).d]):=
 GM X.af X.az X.rows X.js h.hT h.iY h.hL h.hn h.hj l hs
def bC (s:Sch) (lat out:DV) (m:Int):List DV:=.sl 2 (bm s.ae) none :: .sl 4 (j4 s.order) none :: .sl 11 (dNms s.types) none :: (cX s.root ++ [lat,out,.v (.int .i64 m)])
theorem rX {X:Lx} (h:X.OK) (s:Sch) (pc:List DV) (m:Int) (l:List Wd) (hs:wdsWt l<=1099511627776) :
  aV prog 218 [.pt (bC s X.pd (.pt pc 0) m) 0,.sl 2 (bm l) none] (.v (.int .i64 (X.lev l))):=by
 obtain ⟨ae,order,types,⟨rh,rp⟩⟩:=s;refine eG 17 [.tmp 4] func218 rfl ntmps218 rfl fun _ _ _ _=>?_;refine cP xz (Lx.nh h l hs) ?_;exact (rfl:_=_)
def pL (s:Sch):List Wd:=s.types.map fun x=>x.1
def tL (s:Sch):List ByteArray:=al (pL s)
theorem Cd (s:Sch):(pL s).length=s.types.length:=by simp [pL]
theorem iO (s:Sch):(tL s).length=s.types.length:=by simp [tL,al,pL]
def pC (s:Sch) (az:List Nat) (a b c e:DV):List DV:=[a,b,c,.pt (cd (tL s) az) 0,e]
def pM (s:Sch) (t:Ty):Bool:=decide (t.h.ai=9->bV (tL s) t.h.name.s≠none)
def endI (s:Sch):Nat->Nat->Option Nat
 | 0,_=>none
 | k + 1,i=>
  match s.types[i]? with
  | none=>none
  | some x=>if x.2.h.ai=9 then endI s k ((bV (tL s) x.2.h.name.s).getD 0) else some i
theorem qa {s:Sch}:∀ {k i j:Nat},endI s k i=some j->j < s.types.length/\∀ x,s.types[j]? = some x->x.2.h.ai≠9
 | 0,i,j,h=>by cases h
 | k + 1,i,j,h=>by
  rw [endI] at h
  cases hx:s.types[i]? with
  | none=>rw [hx] at h;cases h
  | some x=>
   rw [hx] at h;simp only at h;split at h
   ·exact qa h
   all_goals grind
abbrev K2 (B:DV) (n i e:Nat):St:=
 ⟨[(0,⟨[],B⟩),aq 1 i,aq 12 n,aq 13 e],[],[]⟩
theorem yl (s:Sch) (lat:DV) (az:List Nat) (a b c e0:DV) (m:Int) (hT:fo (tL s) az) (iY:az.length<=1099511627776) (hl:s.types.length<=64) (hr:∀ x∈s.types,pM s x.2=true) (i:Nat) (hi:i < s.types.length) :
  aV prog 134 [.pt (bC s lat (.pt (pC s az a b c e0) 0) m) 0,.v (.int .i64 i)] (.v (.int .i64 (oz (endI s (s.types.length + 1) i)))):=by
 have lr:=iO s;obtain ⟨ae,order,types,⟨rh,rp⟩⟩:=s;simp only at hl hr hi lr;have hN:=cO types;have UM:IntKind.i64.wrap ((((dNms types).length:Nat):Int) + 1)=((types.length + 1:Nat):Int):=by rw [hN,wrap64 (by omega) (by omega)];all_goals rfl
 refine eG 43 [.tmp 4] func134 rfl ntmps134 rfl fun _ _ _ _=>?_
 refine aW (fun j st=>∃ e q:Nat,st=K2 (.pt (bC ⟨ae,order,types,.mk rh rp⟩ lat (.pt (pC ⟨ae,order,types,.mk rh rp⟩ az a b c e0) 0) m) 0) (types.length + 1) q e/\e<=types.length + 1/\q < types.length/\endI ⟨ae,order,types,.mk rh rp⟩ (types.length + 1) i=endI ⟨ae,order,types,.mk rh rp⟩ (types.length + 1 - e) q/\j=types.length + 1 - e) (types.length + 1)
  (K2 (.pt (bC ⟨ae,order,types,.mk rh rp⟩ lat (.pt (pC ⟨ae,order,types,.mk rh rp⟩ az a b c e0) 0) m) 0) (types.length + 1) i 0) (bc (c8 UM)) ⟨0,i,rfl,by omega,hi,rfl,by omega⟩ ?_
 rintro j st ⟨e,q,rfl,he,hq,aD,rfl⟩;refine br ?_ ?_<;>intro hL
 ·have ap:e < types.length + 1:=by have:=hL;simp at this;omega
  obtain ⟨x,hx⟩:∃ x,types[q]? = some x:=⟨_,gE hq⟩;have SG:=hr x (mG hx);obtain ⟨xw,⟨xh,xp⟩⟩:=x
  have hst:endI ⟨ae,order,types,.mk rh rp⟩ (types.length + 1 - e) q=if xh.ai=9 then endI ⟨ae,order,types,.mk rh rp⟩ (types.length + 1 - (e + 1)) ((bV (tL ⟨ae,order,types,.mk rh rp⟩) xh.name.s).getD 0) else some q:=by
   rw [show types.length + 1 - e=(types.length + 1 - (e + 1)) + 1 by omega,endI];simp only [hx];rfl
  rw [hst] at aD;refine iX (dNms_get hx) ?_;refine br ?_ ?_<;>intro h9
  ·have h9:¬ xh.ai=9:=sU h9;rw [ah h9] at aD;rw [aD];exact (rfl:_=_)
  have h9:xh.ai=9:=sU h9;rw [zIfP h9] at aD
  have bi:bV (tL ⟨ae,order,types,.mk rh rp⟩) xh.name.s≠none:=by
   have:=of_decide_eq_true SG;exact this h9
  obtain ⟨k,hk⟩:=Option.ne_none_iff_exists'.1 bi;have xi:=(cC hk).1;rw [hk] at aD;have hf:=fK (tL ⟨ae,order,types,.mk rh rp⟩) az xh.name.s hT iY;rw [hk] at hf;refine dI ?_;refine cD km hf ?_;exact rE ⟨_,by omega,e + 1,k,rfl,by omega,by omega,aD,rfl⟩ (bc (c8 (aT ap (by omega))))
 ·have hge:e=types.length + 1:=by have:=hL;simp at this;omega
  subst hge;rw [Nat.sub_self] at aD;rw [aD];exact (rfl:_=_)
def loopF (s:Sch):Ft:=
 match bE (fun i=>(endI s (s.types.length + 1) i).isNone) s.types.length with
 | none=>(0,0)
 | some i=>(11,MO (pL s) i)
abbrev vN (B:DV) (s:Sch) (e:Nat):St:=
 ⟨[(0,⟨[],B⟩),aF 2 0,aS 9 11 (dNms s.types),aq 10 ((dNms s.types).length),aq 11 e],[[.v (.int .i64 0),.v (.int .i64 0)]],[]⟩
theorem Au (s:Sch) (lat:DV) (az:List Nat) (a b c e0:DV) (m:Int) (hT:fo (tL s) az) (iY:az.length<=1099511627776) (hl:s.types.length<=64) (hr:∀ x∈s.types,pM s x.2=true) :
  aV prog 66 [.pt (bC s lat (.pt (pC s az a b c e0) 0) m) 0] (loopF s).d:=by
 have sY:=yl s lat az a b c e0 m hT iY hl hr;have hN:=cO s.types;have hF:=loopF.eq_1 s;obtain ⟨ae,order,types,⟨rh,rp⟩⟩:=s;simp only at hl hr sY hN;refine eG 26 [.cell 2 26] func66 rfl ntmps66 rfl fun _ _ _ _=>?_
 refine aW (fun j st=>∃ e:Nat,st=vN (.pt (bC ⟨ae,order,types,.mk rh rp⟩ lat (.pt (pC ⟨ae,order,types,.mk rh rp⟩ az a b c e0) 0) m) 0) ⟨ae,order,types,.mk rh rp⟩ e/\e<=types.length/\(∀ i,i < e->(endI ⟨ae,order,types,.mk rh rp⟩ (types.length + 1) i).isNone=false)/\j=types.length - e) types.length
  (vN (.pt (bC ⟨ae,order,types,.mk rh rp⟩ lat (.pt (pC ⟨ae,order,types,.mk rh rp⟩ az a b c e0) 0) m) 0) ⟨ae,order,types,.mk rh rp⟩ 0) (bc wB) ⟨0,rfl,by omega,fun _ h=>by omega,by omega⟩ ?_
 rintro j st ⟨e,rfl,he,hno,rfl⟩;refine br ?_ ?_<;>intro hL
 ·have ap:e < types.length:=by have:=hL;simp [hN] at this;exact this
  obtain ⟨x,hx⟩:=gX ap;have MS:(pL ⟨ae,order,types,.mk rh rp⟩)[e]? = some x.1:=by simp [pL,hx]
  have h1:=sY e ap;obtain ⟨xw,⟨xh,xp⟩⟩:=x;refine iX (dNms_get hx) ?_;refine cP en134 h1 ?_
  cases hE:endI ⟨ae,order,types,.mk rh rp⟩ (types.length + 1) e with
  | none=>
   have pD:=cg (p:=fun i=>(endI ⟨ae,order,types,.mk rh rp⟩ (types.length + 1) i).isNone) ap (by simp only [hE];rfl) hno;simp only [pD] at hF;rw [iG MS] at hF;refine ⟨_,?_,rfl⟩;rw [hF];exact ax
  | some k=>
   refine ⟨vN (.pt (bC ⟨ae,order,types,.mk rh rp⟩ lat (.pt (pC ⟨ae,order,types,.mk rh rp⟩ az a b c e0) 0) m) 0) ⟨ae,order,types,.mk rh rp⟩ (e + 1),(bc (c8 (aT ap (by omega)))),types.length - (e + 1),by omega,e + 1,rfl,by omega,fun i hi=>?_,rfl⟩;rcases ka hi with hi | rfl
   ·exact hno i hi
   ·rw [hE];all_goals rfl
 ·have hge:e=types.length:=sW hN hL;subst hge;simp only [cA hno] at hF;refine ⟨_,?_,rfl⟩;rw [hF];exact ax
mutual
def knT (X:Lx) (L:List ByteArray):Ty->Ft
 | .mk h ps=>if h.ai=9/\bV L h.name.s=none then (15,h.name.a) else knP X L ps
def knP (X:Lx) (L:List ByteArray):Pts->Ft
 | .nil=>(0,0)
 | .cons p t r=>if (X.bad p.label).1≠0 then X.bad p.label else if (X.bad p.cl).1≠0 then X.bad p.cl else if p.bare then knP X L r else if (knT X L t).1≠0 then knT X L t else knP X L r
end
abbrev QF (B:DV) (t:Ty) (ps:Pts) (e:Nat):St:=
 ⟨[(0,⟨[],B⟩),aF 3 0,aF 4 1,aS 38 18 (dY ps),aq 39 ((dY ps).length),aq 40 e],[cX t,[.v (.int .i64 0),.v (.int .i64 0)]],[]⟩
abbrev uw (B:DV) (t:Ty) (ps:Pts) (p:Ph) (u:Ty) (e q:Nat):St:=
 ⟨[(0,⟨[],B⟩),aF 3 0,aF 4 1,aS 38 18 (dY ps),aq 39 ((dY ps).length),aq 40 e,aF 8 2,aS 49 1 [[.sl 2 (bm p.label) none],[.sl 2 (bm p.cl) none]],aq 50 (2:Nat),aq 51 q],[cX t,[.v (.int .i64 0),.v (.int .i64 0)],zL p (cX u)],[]⟩
theorem rY {X:Lx} (hX:X.OK) (s:Sch) (az:List Nat) (a b c e0:DV) (m:Int) (hT:fo (tL s) az) (iY:az.length<=1099511627776):∀ (k:Nat) (t:Ty),t.wt<=k->t.wt<=1099511627776 ->
  aV prog 65 [.pt (bC s X.pd (.pt (pC s az a b c e0) 0) m) 0,.agg (cX t)] (knT X (tL s) t).d
 | 0,t,hn,_=>by have:=t.gv;omega
 | k + 1,.mk h ps,hn,bI=>by
  have ih:=rY hX s az a b c e0 m hT iY k;simp only [Ty.wt,Hd.wt] at hn bI;have ml:=ps.dX;obtain ⟨ae,order,types,⟨rh,rp⟩⟩:=s;have hf:=fK (tL ⟨ae,order,types,.mk rh rp⟩) az h.name.s hT iY;have hS:knT X (tL ⟨ae,order,types,.mk rh rp⟩) (.mk h ps)=if h.ai=9/\bV (tL ⟨ae,order,types,.mk rh rp⟩) h.name.s=none then (15,h.name.a) else knP X (tL ⟨ae,order,types,.mk rh rp⟩) ps:=by rw [knT]
  refine eG 81 [.cell 4 26] func65 rfl ntmps65 rfl fun _ _ _ _=>?_;generalize knT X (tL ⟨ae,order,types,.mk rh rp⟩) (.mk h ps)=F at hS ⊢;have QG:knP X (tL ⟨ae,order,types,.mk rh rp⟩) ps=knP X (tL ⟨ae,order,types,.mk rh rp⟩) (ps.drop 0):=by rw [Pts.drop]
  refine br ?_ ?_<;>intro h9
  ·have h9:h.ai=9:=sU h9;refine dI ?_
   cases hx:bV (tL ⟨ae,order,types,.mk rh rp⟩) h.name.s with
   | none=>
    rw [zIfP ⟨h9,hx⟩] at hS;rw [hx] at hf;refine cD km hf ?_;refine ⟨_,?_,rfl⟩;rw [hS];exact ax
   | some i=>
    rw [ah (by rw [hx];simp),QG] at hS;rw [hx] at hf;refine cD km hf ?_;refine lI (fun j st=>∃ e:Nat,st=QF (.pt (bC ⟨ae,order,types,.mk rh rp⟩ X.pd (.pt (pC ⟨ae,order,types,.mk rh rp⟩ az a b c e0) 0) m) 0) (.mk h ps) ps e/\e<=ps.len/\F=knP X (tL ⟨ae,order,types,.mk rh rp⟩) (ps.drop e)/\j=ps.len - e) ⟨0,rfl,by omega,hS,rfl⟩ (bc wB) ?_;rintro j st ⟨e,rfl,he,aD,rfl⟩;refine br ?_ ?_<;>intro hL
    ·have ap:e < ps.len:=by simpa [aC] using hL
     obtain ⟨p,t,hx⟩:=Pts.dq ap;have C0:=Pts.eC (mG hx);rw [Pts.drop_cons hx] at aD;simp only [knP] at aD;have zS:wdsWt p.label + wdsWt p.cl<=p.wt:=by simp only [Ph.wt];omega
     obtain ⟨u,us⟩:=t;refine iX (bz hx) ?_;refine lI (fun j st=>∃ q:Nat,st=uw (.pt (bC ⟨ae,order,types,.mk rh rp⟩ X.pd (.pt (pC ⟨ae,order,types,.mk rh rp⟩ az a b c e0) 0) m) 0) (.mk h ps) ps p (.mk u us) e q/\q<=2/\(1<=q->(X.bad p.label).1=0)/\(2<=q->(X.bad p.cl).1=0)/\j=2 - q) ⟨0,rfl,by omega,fun h=>by omega,fun h=>by omega,rfl⟩ (bc wB) ?_;rintro j st ⟨q,rfl,hq,MB,iR,rfl⟩;refine br ?_ ?_<;>intro j2
     ·have CD:q=0∨q=1:=by have:=j2;simp at this;omega
      rcases CD with rfl | rfl
      ·refine ⟨_,⟨by omega,rfl⟩,?_⟩;refine cP xz (Lx.nh hX p.label (by omega)) ?_;refine br ?_ ?_<;>intro hb
       ·have hb:(X.bad p.label).1≠0:=sU hb;rw [zIfP hb] at aD;refine ⟨_,?_,rfl⟩;rw [aD];exact ax
       ·have hb:(X.bad p.label).1=0:=sU hb;exact ⟨uw (.pt (bC ⟨ae,order,types,.mk rh rp⟩ X.pd (.pt (pC ⟨ae,order,types,.mk rh rp⟩ az a b c e0) 0) m) 0) (.mk h ps) ps p (.mk u us) e 1,(bc (c8 (aT (e:=0) (n:=2) (by omega) (by omega)))),1,by omega,1,rfl,by omega,fun _=>hb,fun h=>by omega,rfl⟩
      ·have gk:=MB (by omega);refine ⟨_,⟨by omega,rfl⟩,?_⟩;refine cP xz (Lx.nh hX p.cl (by omega)) ?_;refine br ?_ ?_<;>intro hb
       ·have hb:(X.bad p.cl).1≠0:=sU hb;rw [ah (by rw [gk];simp),zIfP hb] at aD;refine ⟨_,?_,rfl⟩;rw [aD];exact ax
       ·have hb:(X.bad p.cl).1=0:=sU hb;exact ⟨uw (.pt (bC ⟨ae,order,types,.mk rh rp⟩ X.pd (.pt (pC ⟨ae,order,types,.mk rh rp⟩ az a b c e0) 0) m) 0) (.mk h ps) ps p (.mk u us) e 2,(bc (c8 (aT (e:=1) (n:=2) (by omega) (by omega)))),0,by omega,2,rfl,by omega,fun _=>gk,fun _=>hb,rfl⟩
     ·have CD:q=2:=by have:=j2;simp at this;omega
      subst CD;have gk:=MB (by omega);have lp:=iR (by omega);rw [ah (by rw [gk];simp),ah (by rw [lp];simp)] at aD;refine br ?_ ?_<;>intro hB
      ·have hB:p.bare=true:=hB;rw [zIfP hB] at aD;exact rE ⟨_,by omega,e + 1,rfl,by omega,aD,rfl⟩ (bc (c8 (aT ap (by omega))))
      ·have hB:p.bare=false:=hB;rw [ah (by rw [hB];decide)] at aD;refine cP Mh (ih (.mk u us) (by omega) (by omega)) ?_;refine br ?_ ?_<;>intro hb
       ·have hb:(knT X (tL ⟨ae,order,types,.mk rh rp⟩) (.mk u us)).1≠0:=sU hb;rw [zIfP hb] at aD;refine ⟨_,?_,rfl⟩;rw [aD];exact ax
       ·have hb:(knT X (tL ⟨ae,order,types,.mk rh rp⟩) (.mk u us)).1=0:=sU hb;rw [ah (by rw [hb];simp)] at aD;exact rE ⟨_,by omega,e + 1,rfl,by omega,aD,rfl⟩ (bc (c8 (aT ap (by omega))))
    ·have hge:e=ps.len:=by simp [aC] at hL;omega
     rw [hge,Pts.cu] at aD;simp only [knP] at aD;refine ⟨_,?_,rfl⟩;rw [aD];exact ax
  ·have h9:¬ h.ai=9:=sU h9;rw [ah (fun hc=>h9 hc.1),QG] at hS;refine lI (fun j st=>∃ e:Nat,st=QF (.pt (bC ⟨ae,order,types,.mk rh rp⟩ X.pd (.pt (pC ⟨ae,order,types,.mk rh rp⟩ az a b c e0) 0) m) 0) (.mk h ps) ps e/\e<=ps.len/\F=knP X (tL ⟨ae,order,types,.mk rh rp⟩) (ps.drop e)/\j=ps.len - e) ⟨0,rfl,by omega,hS,rfl⟩ (bc wB) ?_;rintro j st ⟨e,rfl,he,aD,rfl⟩;refine br ?_ ?_<;>intro hL
   ·have ap:e < ps.len:=by simpa [aC] using hL
    obtain ⟨p,t,hx⟩:=Pts.dq ap;have C0:=Pts.eC (mG hx);rw [Pts.drop_cons hx] at aD;simp only [knP] at aD;have zS:wdsWt p.label + wdsWt p.cl<=p.wt:=by simp only [Ph.wt];omega
    obtain ⟨u,us⟩:=t;refine iX (bz hx) ?_;refine lI (fun j st=>∃ q:Nat,st=uw (.pt (bC ⟨ae,order,types,.mk rh rp⟩ X.pd (.pt (pC ⟨ae,order,types,.mk rh rp⟩ az a b c e0) 0) m) 0) (.mk h ps) ps p (.mk u us) e q/\q<=2/\(1<=q->(X.bad p.label).1=0)/\(2<=q->(X.bad p.cl).1=0)/\j=2 - q) ⟨0,rfl,by omega,fun h=>by omega,fun h=>by omega,rfl⟩ (bc wB) ?_;rintro j st ⟨q,rfl,hq,MB,iR,rfl⟩;refine br ?_ ?_<;>intro j2
    ·have CD:q=0∨q=1:=by have:=j2;simp at this;omega
     rcases CD with rfl | rfl
     ·refine ⟨_,⟨by omega,rfl⟩,?_⟩;refine cP xz (Lx.nh hX p.label (by omega)) ?_;refine br ?_ ?_<;>intro hb
      ·have hb:(X.bad p.label).1≠0:=sU hb;rw [zIfP hb] at aD;refine ⟨_,?_,rfl⟩;rw [aD];exact ax
      ·have hb:(X.bad p.label).1=0:=sU hb;exact ⟨uw (.pt (bC ⟨ae,order,types,.mk rh rp⟩ X.pd (.pt (pC ⟨ae,order,types,.mk rh rp⟩ az a b c e0) 0) m) 0) (.mk h ps) ps p (.mk u us) e 1,(bc (c8 (aT (e:=0) (n:=2) (by omega) (by omega)))),1,by omega,1,rfl,by omega,fun _=>hb,fun h=>by omega,rfl⟩
     ·have gk:=MB (by omega);refine ⟨_,⟨by omega,rfl⟩,?_⟩;refine cP xz (Lx.nh hX p.cl (by omega)) ?_;refine br ?_ ?_<;>intro hb
      ·have hb:(X.bad p.cl).1≠0:=sU hb;rw [ah (by rw [gk];simp),zIfP hb] at aD;refine ⟨_,?_,rfl⟩;rw [aD];exact ax
      ·have hb:(X.bad p.cl).1=0:=sU hb;exact ⟨uw (.pt (bC ⟨ae,order,types,.mk rh rp⟩ X.pd (.pt (pC ⟨ae,order,types,.mk rh rp⟩ az a b c e0) 0) m) 0) (.mk h ps) ps p (.mk u us) e 2,(bc (c8 (aT (e:=1) (n:=2) (by omega) (by omega)))),0,by omega,2,rfl,by omega,fun _=>gk,fun _=>hb,rfl⟩
    ·have CD:q=2:=by have:=j2;simp at this;omega
     subst CD;have gk:=MB (by omega);have lp:=iR (by omega);rw [ah (by rw [gk];simp),ah (by rw [lp];simp)] at aD;refine br ?_ ?_<;>intro hB
     ·have hB:p.bare=true:=hB;rw [zIfP hB] at aD;exact rE ⟨_,by omega,e + 1,rfl,by omega,aD,rfl⟩ (bc (c8 (aT ap (by omega))))
     ·have hB:p.bare=false:=hB;rw [ah (by rw [hB];decide)] at aD;refine cP Mh (ih (.mk u us) (by omega) (by omega)) ?_;refine br ?_ ?_<;>intro hb
      ·have hb:(knT X (tL ⟨ae,order,types,.mk rh rp⟩) (.mk u us)).1≠0:=sU hb;rw [zIfP hb] at aD;refine ⟨_,?_,rfl⟩;rw [aD];exact ax
      ·have hb:(knT X (tL ⟨ae,order,types,.mk rh rp⟩) (.mk u us)).1=0:=sU hb;rw [ah (by rw [hb];simp)] at aD;exact rE ⟨_,by omega,e + 1,rfl,by omega,aD,rfl⟩ (bc (c8 (aT ap (by omega))))
   ·have hge:e=ps.len:=by simp [aC] at hL;omega
    rw [hge,Pts.cu] at aD;simp only [knP] at aD;refine ⟨_,?_,rfl⟩;rw [aD];exact ax
def eaL (F:Ty->Ft) (z:Ft):List (Wd × Ty)->Ft
 | []=>z
 | x :: r=>if (F x.2).1≠0 then F x.2 else eaL F z r
theorem GQ {F:Ty->Ft} {z:Ft} {l:List (Wd × Ty)} {e:Nat} {x:Wd × Ty} (h:l[e]? = some x):eaL F z (l.drop e)=if (F x.2).1≠0 then F x.2 else eaL F z (l.drop (e + 1)):=by
 rw [drop_cons h,eaL]
abbrev GR (B:DV) (fn:DV) (types:List (Wd × Ty)) (e:Nat):St:=
 ⟨[(0,⟨[],B⟩),(1,⟨[],fn⟩),aF 4 0,aS 12 11 (dNms types),aq 13 ((dNms types).length),aq 14 e],[[.v (.int .i64 0),.v (.int .i64 0)]],[]⟩
theorem DF (s:Sch) (lat:DV) (pc:List DV) (m:Int) (hl:s.types.length<=1099511627776) (g:Nat) (hg:Enters prog g) (F:Ty->Ft)
  (hF:∀ t,(t=s.root∨∃ x∈s.types,t=x.2)->aV prog g [.pt (bC s lat (.pt pc 0) m) 0,.agg (cX t)] (F t).d) :
  aV prog 63 [.pt (bC s lat (.pt pc 0) m) 0,.fn g [.pt (bC s lat (.pt pc 0) m) 0] []] (eaL F (F s.root) s.types).d:=by
 have hN:=cO s.types;obtain ⟨ae,order,types,⟨rh,rp⟩⟩:=s;simp only at hl hF hN;have pk:=hF (.mk rh rp) (.inl rfl);have MT:∀ x∈types,_:=fun x hx=>hF x.2 (.inr ⟨x,hx,rfl⟩);clear hF;refine eG 34 [.cell 4 26] func63 rfl ntmps63 rfl fun _ _ _ _=>?_;generalize hG:eaL F (F (.mk rh rp)) types=G;have UN:G=eaL F (F (.mk rh rp)) (types.drop 0):=by rw [List.drop_zero,hG]
 refine aW (fun j st=>∃ e:Nat,st=GR (.pt (bC ⟨ae,order,types,.mk rh rp⟩ lat (.pt pc 0) m) 0) (.fn g [.pt (bC ⟨ae,order,types,.mk rh rp⟩ lat (.pt pc 0) m) 0] []) types e/\e<=types.length/\G=eaL F (F (.mk rh rp)) (types.drop e)/\j=types.length - e) types.length
  (GR (.pt (bC ⟨ae,order,types,.mk rh rp⟩ lat (.pt pc 0) m) 0) (.fn g [.pt (bC ⟨ae,order,types,.mk rh rp⟩ lat (.pt pc 0) m) 0] []) types 0) (bc wB) ⟨0,rfl,by omega,UN,by omega⟩ ?_
 rintro j st ⟨e,rfl,he,aD,rfl⟩;refine br ?_ ?_<;>intro hL
 ·have ap:e < types.length:=by have:=hL;simp [hN] at this;exact this
  obtain ⟨x,hx⟩:=gX ap;have hp:=MT x (mG hx);rw [GQ hx] at aD;obtain ⟨xw,⟨xh,xp⟩⟩:=x;refine iX (dNms_get hx) ?_;refine cP hg hp ?_;refine br ?_ ?_<;>intro hf
  ·have hf:(F (.mk xh xp)).1≠0:=sU hf;rw [zIfP hf] at aD;refine ⟨_,?_,rfl⟩;rw [aD];exact ax
  ·have hf:(F (.mk xh xp)).1=0:=sU hf;rw [ah (by rw [hf];simp)] at aD;exact rE ⟨_,by omega,e + 1,rfl,by omega,aD,rfl⟩ (bc (c8 (aT ap (by omega))))
 ·have hge:e=types.length:=sW hN hL;subst hge;rw [List.drop_length,eaL] at aD;refine cP hg pk ?_;refine ⟨_,?_,rfl⟩;rw [aD];exact ax
def bF (t:Ty) (m:Int):Ft × Int:=if (wrong t 1 0).1.1≠0 then ((wrong t 1 0).1,m) else if 512 < m + t.cnt then ((8,t.h.cW),m + t.cnt) else ((0,0),m + t.cnt)
def GS (s:Sch) (lat:DV) (pc:List DV) (x:Ft × Int) (r:DV) (os:List (List DV)) (_:List TkE):Prop:=r=x.1.d/\os=[bC s lat (.loc 1 0) x.2,pc]
theorem ym (s:Sch) (lc pc:List DV) (m:Int) (mw:0<=m) (iw:m<=1099511627776) (t:Ty) (bI:t.wt<=1099511627776) (UO:∀ bx N n0 m0,CcL bx N n0 m0 pc pc) :
  Ev prog 64 [.loc 0 0,.agg (cX t)] [bC s (.pt lc 0) (.loc 1 0) m,pc] [] (GS s (.pt lc 0) pc (bF t m)):=by
 have hk:=yk t bI;have hc:=rV t.wt t (zLeR _) bI;have HV:=t.dr;have hF:=bF.eq_1 t m;obtain ⟨ae,order,types,⟨rh,rp⟩⟩:=s;obtain ⟨h,ps⟩:=t;generalize bF (.mk h ps) m=R at hF ⊢;refine eG 30 [.cell 4 26] func64 rfl ntmps64 rfl fun _ _ _ _=>?_;refine cP TV hk ?_;refine br ?_ ?_<;>intro hf
 ·have hf:(wrong (.mk h ps) 1 0).1.1≠0:=sU hf;rw [zIfP hf] at hF;subst hF;exact ⟨Ft.d _,[bC ⟨ae,order,types,.mk rh rp⟩ (.pt lc 0) (.loc 1 0) m,pc],ax,(by repeat' (first | exact rfl | exact trivial | exact Or.inr (Or.inl ⟨_,rfl⟩) | exact Or.inr ⟨_,rfl⟩ | exact Or.inl ⟨rfl,rfl⟩ | exact Or.inl rfl | refine Or.inr ⟨_,_,rfl,Nat.zero_le _,rfl,?_⟩ | refine ⟨_,_,rfl,?_,?_⟩ | refine ⟨_,rfl,?_⟩ | exact UO _ _ _ _ | exact ⟨nL rfl,rfl⟩ | exact congrArg (fun z=>DV.v (.int .i64 z)) hw | refine Or.inr (Or.inr (Or.inr ⟨_,_,rfl,?_⟩)) | exact Or.inl rfl | refine Or.inr ?_)),rfl,rfl⟩
 have hf:(wrong (.mk h ps) 1 0).1.1=0:=sU hf;rw [ah (by rw [hf];simp)] at hF;have hw:IntKind.i64.wrap (m + ((Ty.mk h ps).cnt:Int))=m + ((Ty.mk h ps).cnt:Int):=wrap64 (by omega) (by omega);refine dS ?_;refine cD Km hc ?_;refine br ?_ ?_<;>intro hg
 ·have hg:512 < m + ((Ty.mk h ps).cnt:Int):=sV hw hg;rw [zIfP hg] at hF;subst hF;exact ⟨Ft.d _,[bC ⟨ae,order,types,.mk rh rp⟩ (.pt lc 0) (.loc 1 0) (m + (Ty.mk h ps).cnt),pc],ax,(V5 UO hw),rfl,rfl⟩
 ·have hg:¬ 512 < m + ((Ty.mk h ps).cnt:Int):=sV hw hg;rw [ah hg] at hF;subst hF;exact ⟨Ft.d _,[bC ⟨ae,order,types,.mk rh rp⟩ (.pt lc 0) (.loc 1 0) (m + (Ty.mk h ps).cnt),pc],ax,(V5 UO hw),rfl,rfl⟩
def eaR (z:Ty):List (Wd × Ty)->Int->Ft × Int
 | [],m=>bF z m
 | x :: r,m=>if (bF x.2 m).1.1≠0 then bF x.2 m else eaR z r (bF x.2 m).2
theorem GU {z:Ty} {l:List (Wd × Ty)} {e:Nat} {m:Int} {x:Wd × Ty} (h:l[e]? = some x):eaR z (l.drop e) m=if (bF x.2 m).1.1≠0 then bF x.2 m else eaR z (l.drop (e + 1)) (bF x.2 m).2:=by
 rw [drop_cons h,eaR]
theorem lj {t:Ty} {m:Int} (h:(bF t m).1.1=0):(bF t m).2=m + t.cnt/\(bF t m).2<=512/\(wrong t 1 0).1.1=0/\(bF t m).1=(0,0):=by grind [bF]
abbrev Av (s:Sch) (az:List Nat) (lc:List DV):List DV:=pC s az (.pt lc 0) (.v (.slice none 0 0)) (.v (.int .i64 0)) (.v (.slice none 0 0))
abbrev vO (s:Sch) (lc pc:List DV) (m:Int) (types:List (Wd × Ty)) (e:Nat):St:=
 ⟨[aF 0 0,(1,⟨[],.fn 64 [.loc 0 0] []⟩),aF 4 2,aS 12 11 (dNms types),aq 13 ((dNms types).length),aq 14 e],
  [bC s (.pt lc 0) (.loc 1 0) m,pc,[.v (.int .i64 0),.v (.int .i64 0)]],[]⟩
theorem Aw (s:Sch) (lc:List DV) (az:List Nat) (m:Int) (mw:0<=m) (iw:m<=512) (hl:s.types.length<=1099511627776) (bI:∀ t,(t=s.root∨∃ x∈s.types,t=x.2)->t.wt<=1099511627776) :
  Ev prog 63 [.loc 0 0,.fn 64 [.loc 0 0] []] [bC s (.pt lc 0) (.loc 1 0) m,Av s az lc] [] (GS s (.pt lc 0) (Av s az lc) (eaR s.root s.types m)):=by
 have hN:=cO s.types;have hR:∀ (m':Int),0<=m' -> m' <= 512->∀ t,(t=s.root∨∃ x∈s.types,t=x.2)->_:=fun m' h0 h1 t ht=>ym s lc (Av s az lc) m' h0 (by omega) t (bI t ht) (fun bx N n0 m0=>ax);obtain ⟨ae,order,types,⟨rh,rp⟩⟩:=s;simp only at hl hR hN bI;refine eG 34 [.cell 4 26] func63 rfl ntmps63 rfl fun _ _ _ _=>?_;generalize hG:eaR (.mk rh rp) types m=G;have UN:G=eaR (.mk rh rp) (types.drop 0) m:=by rw [List.drop_zero,hG]
 refine aW (fun j st=>∃ (e:Nat) (m':Int),st=vO ⟨ae,order,types,.mk rh rp⟩ lc (Av ⟨ae,order,types,.mk rh rp⟩ az lc) m' types e/\e<=types.length/\0<=m' /\ m' <= 512/\G=eaR (.mk rh rp) (types.drop e) m' /\ j=types.length - e) types.length
  (vO ⟨ae,order,types,.mk rh rp⟩ lc (Av ⟨ae,order,types,.mk rh rp⟩ az lc) m types 0) (ep 3 (by repeat' (first | exact rfl | exact au rfl | exact rfl | refine ⟨_,_,rfl,?_,?_⟩)) (by repeat' (first | exact trivial | exact au rfl | exact rfl | refine ⟨⟨_,rfl,?_⟩,?_⟩))) ⟨0,m,rfl,by omega,mw,iw,UN,by omega⟩ ?_
 rintro j st ⟨e,m',rfl,he,vy,xO,aD,rfl⟩;refine br ?_ ?_<;>intro hL
 ·have ap:e < types.length:=by have:=hL;simp [hN] at this;exact this
  obtain ⟨x,hx⟩:=gX ap;have hp:=hR m' vy xO x.2 (.inr ⟨x,mG hx,rfl⟩);rw [GU hx] at aD;obtain ⟨xw,⟨xh,xp⟩⟩:=x;refine iX (dNms_get hx) ?_;refine ay 2 0 O1 rfl rfl rfl aO aO hp (fun r os' tk' hΦ h1 h2=>?_);obtain ⟨rfl,rfl⟩:=hΦ;have h2:=List.eq_nil_of_length_eq_zero h2;subst h2;refine br ?_ ?_<;>intro hf
  ·have hf:(bF (.mk xh xp) m').1.1≠0:=sU hf;rw [zIfP hf] at aD;subst aD;exact ⟨Ft.d _,[bC ⟨ae,order,types,.mk rh rp⟩ (.pt lc 0) (.loc 1 0) (bF (.mk xh xp) m').2,Av ⟨ae,order,types,.mk rh rp⟩ az lc],ax,aO,rfl,rfl⟩
  ·have hf:(bF (.mk xh xp) m').1.1=0:=sU hf;rw [ah (by rw [hf];simp)] at aD;obtain ⟨g1,g2,_,_⟩:=lj hf;exact ⟨vO ⟨ae,order,types,.mk rh rp⟩ lc (Av ⟨ae,order,types,.mk rh rp⟩ az lc) (bF (.mk xh xp) m').2 types (e + 1),(ep 3 (ve (aT ap (by omega))) (c8 (aT ap (by omega)))),types.length - (e + 1),by omega,e + 1,_,rfl,by omega,by omega,g2,aD,rfl⟩
 ·have hge:e=types.length:=sW hN hL;subst hge;rw [List.drop_length,eaR] at aD;refine ay 2 0 O1 rfl rfl rfl aO aO (hR m' vy xO (.mk rh rp) (.inl rfl)) (fun r os' tk' hΦ h1 h2=>?_);obtain ⟨rfl,rfl⟩:=hΦ;have h2:=List.eq_nil_of_length_eq_zero h2;subst h2;subst aD;exact ⟨Ft.d _,[bC ⟨ae,order,types,.mk rh rp⟩ (.pt lc 0) (.loc 1 0) (bF (.mk rh rp) m').2,Av ⟨ae,order,types,.mk rh rp⟩ az lc],ax,aO,rfl,rfl⟩
def dy (s:Sch):Ft:=if 64 < s.types.length then (8,MO (pL s) 64) else enumL (pL s) 0 (pL s)
def Jo (s:Sch) (lc:List DV) (r:DV) (os:List (List DV)) (_:List TkE):Prop:=
 r=(dy s).d/\((dy s).1=0->∃ az,fo (tL s) az/\az.length<=s.types.length/\os=[bC s (.pt lc 0) (.loc 1 0) 0,Av s az lc])
abbrev GV (s:Sch) (lc:List DV) (n e:Nat):St:=
 ⟨[aF 0 0,aF 2 2,(3,⟨[],.sl 1 (dB (al ((pL s).take e))) (some 0)⟩),aS 27 11 (dNms s.types),aq 28 ((dNms s.types).length),aq 29 e],
  [bC s (.pt lc 0) (.loc 1 0) 0,[.pt lc 0,.v (.slice none 0 0),.v (.int .i64 0),.v (.pointer none),.v (.slice none 0 0)],[.v (.int .i64 0),.v (.int .i64 0)]],[⟨n,9,1,none⟩]⟩
theorem vP (s:Sch) (lc:List DV) (hs:nmsWt s.types<=1099511627776) :
  Ev prog 62 [.loc 0 0] [bC s (.pt lc 0) (.loc 1 0) 0,[.pt lc 0,.v (.slice none 0 0),.v (.int .i64 0),.v (.pointer none),.v (.slice none 0 0)]] [] (Jo s lc):=by
 have hN:=cO s.types;have fi:=gQ s.types;have lr:=Cd s;have hF:=dy.eq_1 s;have gH:∀ {e:Nat} {x:Wd × Ty},s.types[e]? = some x->(pL s)[e]? = some x.1:=fun h=>by simp [pL,h]
 have cG:=ra (tL s) (by rw [iO];omega);have QH:tL s=al (pL s):=rfl
 have hw:∀ x∈s.types,x.1.s.size<=1099511627776:=fun x hx=>by
  have:=eN hx;simp only [Wd.wt] at this;omega
 obtain ⟨ae,order,types,⟨rh,rp⟩⟩:=s;simp only at hs hN fi lr gH hw hF;generalize hQ:pL ⟨ae,order,types,.mk rh rp⟩=Q at lr hF gH QH;refine eG 67 [.cell 2 26] func62 rfl ntmps62 rfl fun _ _ _ _=>?_;refine br ?_ ?_<;>intro h
 ·have h:64 < types.length:=by simp [hN] at h;omega
  obtain ⟨x,hx⟩:∃ x,types[64]? = some x:=⟨_,gE h⟩;have MS:=gH hx;rw [zIfP h,iG MS] at hF;obtain ⟨xw,⟨xh,xp⟩⟩:=x;refine iX (dNms_get hx) ?_;refine ⟨Ft.d (8,xw.a),[bC ⟨ae,order,types,.mk rh rp⟩ (.pt lc 0) (.loc 1 0) 0,[.pt lc 0,.v (.slice none 0 0),.v (.int .i64 0),.v (.pointer none),.v (.slice none 0 0)]],ax,aO,by rw [hF],fun h0=>by rw [hF] at h0;simp at h0⟩
 have h:¬ 64 < types.length:=by simp [hN] at h;omega
 rw [ah h] at hF;refine lI (fun j st=>∃ e:Nat,st=GV ⟨ae,order,types,.mk rh rp⟩ lc e e/\e<=types.length/\(al (Q.take e)).Nodup/\enumL Q 0 Q=enumL Q e (Q.drop e)/\j=types.length - e) ⟨0,rfl,by omega,by simp [al],rfl,rfl⟩ (eS 3 ⟨0,9,1,none⟩ rfl rfl rfl zB rfl rfl pE) ?_;rintro j st ⟨e,rfl,he,hnd,aD,rfl⟩;rw [aD] at hF;refine br ?_ ?_<;>intro hL
 ·have ap:e < types.length:=by have:=hL;simp [hN] at this;exact this
  obtain ⟨x,hx⟩:=gX ap;have KN:=hw x (mG hx);have hq:=gH hx;have k0:=gP hq;have hst:=lZ hq;have zc:=jS hq hnd;have GH:=lS (al (Q.take (e + 1))) (by simp [al];omega);rw [<- k0] at GH;obtain ⟨xw,⟨xh,xp⟩⟩:=x;simp only at KN hq k0 hst zc GH;refine iX (dNms_get hx) ?_;rw [hQ];refine ⟨by simp [bP,al];omega,⟨by simp [bP,al,maxLen];omega,by simp [bP,al];omega⟩,?_⟩;refine cP CP (fC xw.s (by omega)) ?_;refine br ?_ ?_<;>intro Ce
  ·have Ce:aX xw.s=false:=sU Ce;have hf:aA Q e xw=9:=by simp [aA,Ce]
   rw [hst,hf,zIfP (by decide)] at hF;refine ⟨Ft.d (9,xw.a),[bC ⟨ae,order,types,.mk rh rp⟩ (.pt lc 0) (.loc 1 0) 0,[.pt lc 0,.v (.slice none 0 0),.v (.int .i64 0),.v (.pointer none),.v (.slice none 0 0)]],ax,aO,by rw [hF],fun h0=>by rw [hF] at h0;simp at h0⟩
  ·have Ce:aX xw.s=true:=sU Ce;refine gq Fw rfl GH ax (fun r hr=>?_);obtain ⟨z,rfl,hz⟩:=hr;refine br ?_ ?_<;>intro h2
   ·have h2:0<=z:=sU h2;have hd:bR (Q.take e) xw.s=true:=by grind
    have hf:aA Q e xw=10:=by simp [aA,Ce,hd]
    rw [hst,hf,zIfP (by decide)] at hF;refine ⟨Ft.d (10,xw.a),[bC ⟨ae,order,types,.mk rh rp⟩ (.pt lc 0) (.loc 1 0) 0,[.pt lc 0,.v (.slice none 0 0),.v (.int .i64 0),.v (.pointer none),.v (.slice none 0 0)]],ax,aO,by rw [hF],fun h0=>by rw [hF] at h0;simp at h0⟩
   ·have h2:¬ 0<=z:=sU h2;have sO:(al (Q.take (e + 1))).Nodup:=Classical.byContradiction fun hn=>h2 (hz.2 hn);have hf:aA Q e xw=0:=by simp [aA,Ce,zc.1 sO]
    rw [hf,ah (by simp)] at hst;have QI:dB (al (Q.take e)) ++ [[DV.v (.string xw.s)]]=dB (al ((pL ⟨ae,order,types,.mk rh rp⟩).take (e + 1))):=by rw [hQ];exact k0
    refine ⟨GV ⟨ae,order,types,.mk rh rp⟩ lc (e + 1) (e + 1),(ep 3 (zC (aT ap (by omega)) QI) (hY (aT ap (by omega)) QI)),types.length - (e + 1),by omega,e + 1,rfl,by omega,sO,aD.trans hst,rfl⟩
 ·have hge:e=types.length:=sW hN hL;have h0:enumL Q e (Q.drop e)=(0,0):=by rw [hge,<- lr,List.drop_length];all_goals rfl
  rw [h0] at hF;have ht:Q.take e=Q:=by rw [hge,<- lr,List.take_length]
  have UP:al ((pL ⟨ae,order,types,.mk rh rp⟩).take e)=tL ⟨ae,order,types,.mk rh rp⟩:=by rw [hQ,ht,QH]
  rw [<- UP] at cG;refine dS ?_;refine mQ Fv rfl cG ax (fun zH hr=>?_);obtain ⟨az,hT,iY,rfl⟩:=hr;rw [UP] at hT iY;have Sc:DV.pt (cd (al ((pL ⟨ae,order,types,.mk rh rp⟩).take e)) az) 0=DV.pt (cd (tL ⟨ae,order,types,.mk rh rp⟩) az) 0:=congrArg (fun L=>DV.pt (cd L az) 0) UP;rw [iO] at iY;exact ⟨Ft.d (0,0),[bC ⟨ae,order,types,.mk rh rp⟩ (.pt lc 0) (.loc 1 0) 0,Av ⟨ae,order,types,.mk rh rp⟩ az lc],ax,(by repeat' (first | exact rfl | exact trivial | exact Or.inr (Or.inl ⟨_,rfl⟩) | exact Or.inr ⟨_,rfl⟩ | exact Or.inl ⟨rfl,rfl⟩ | exact Or.inl rfl | refine Or.inr ⟨_,_,rfl,Nat.zero_le _,rfl,?_⟩ | refine ⟨_,_,rfl,?_,?_⟩ | refine ⟨_,rfl,?_⟩ | exact ⟨nL rfl,rfl⟩ | exact Or.inl Sc | refine Or.inr (Or.inr (Or.inr ⟨_,_,rfl,?_⟩)) | exact Or.inl rfl | refine Or.inr ?_)),by rw [hF],fun _=>⟨az,hT,iY,rfl⟩⟩
def firstA (s:Sch) (k:Nat):Nat:=((s.types.take k).map fun x=>x.2.nn).sum
theorem kE {s:Sch} {k:Nat} {x:Wd × Ty} (h:s.types[k]? = some x):firstA s (k + 1)=firstA s k + x.2.nn:=by
 unfold firstA;rw [List.take_add_one,h];simp
theorem ux (s:Sch):∀ k,firstA s k<=nmsWt s.types:=by
 intro k;unfold firstA;generalize s.types=l
 induction l generalizing k with
 | nil=>simp
 | cons x r ih=>
  cases k with
  | zero=>simp
  | succ k=>
   have h1:=ih k;have h2:=x.2.eI;have h3:=x.2.dr
   grind [nmsWt]
def namedN (s:Sch) (i:Nat):Nat:=firstA s ((endI s (s.types.length + 1) i).getD 0)
def namedL (s:Sch):List Nat:=(List.range s.types.length).map (namedN s)
theorem QJ (n:Nat):(List.replicate n (vL [Value.int .i64 0])).flatten=cZ (List.replicate n 0):=by
 induction n with
 | zero=>rfl
 | succ n ih=>simp only [List.replicate_succ,List.flatten_cons,ih];rfl
theorem qb {n m:Nat} {tk:List TkE} {l:List DV} {js:List Int} (h:l=cZ js):WeL n m tk l (cZ js):=by rw [h];exact n4 js
abbrev MU (s:Sch) (lc pc:List DV) (m:Int) (l:List Int) (cW e:Nat):St:=
 ⟨[aF 0 0,(2,⟨[],.ms 2 1 0 (dNms s.types).length (dNms s.types).length⟩),aq 3 cW,aS 18 11 (dNms s.types),aq 19 ((dNms s.types).length),aq 20 e],
  [bC s (.pt lc 0) (.loc 1 0) m,pc,cZ l],[]⟩
abbrev QK (s:Sch) (az:List Nat) (lc:List DV) (m:Int) (l:List Int) (n e:Nat):St:=
 ⟨[aF 0 0,(2,⟨[],.ms 2 1 0 (dNms s.types).length (dNms s.types).length⟩),aq 40 ((dNms s.types).length),aq 41 e],
  [bC s (.pt lc 0) (.loc 1 0) m,pC s az (.pt lc 0) (.v (.slice none 0 0)) (.v (.int .i64 0)) (.sl 1 (dInts ((namedL s).take e)) (some 0)),cZ l],[⟨n,3,1,none⟩]⟩
def Jp (s:Sch) (az:List Nat) (lc:List DV) (m:Int) (_:DV) (os:List (List DV)) (_:List TkE):Prop:=
 os=[bC s (.pt lc 0) (.loc 1 0) m,pC s az (.pt lc 0) (.v (.slice none 0 0)) (.v (.int .i64 0)) (.sl 1 (dInts (namedL s)) none)]
theorem MV {l:List Int} {i:Nat} {z:Int} (h:l[i]? = some z):(cZ l)[i]? = some (DV.v (.int .i64 z)):=by simp [cZ,h]
theorem yn (s:Sch) (lc:List DV) (az:List Nat) (m:Int) (hT:fo (tL s) az) (iY:az.length<=1099511627776) (hl:s.types.length<=64) (hr:∀ x∈s.types,pM s x.2=true) (hs:nmsWt s.types<=1099511627776)
  (hlo:∀ i,i < s.types.length->∃ k,endI s (s.types.length + 1) i=some k) :
  Ev prog 67 [.loc 0 0] [bC s (.pt lc 0) (.loc 1 0) m,Av s az lc] [] (Jp s az lc m):=by
 have hN:=cO s.types
 have Mp:∀ x∈s.types,x.2.wt<=1099511627776:=fun x hx=>by
  have:=eN hx;omega
 have QL:=ux s;have NE:=fun {k:Nat} {x:Wd × Ty}=>@kE s k x;have fi:(namedL s).length=s.types.length:=by simp [namedL]
 have sY:=fun (e0:DV)=>yl s (.pt lc 0) az (.pt lc 0) (.v (.slice none 0 0)) (.v (.int .i64 0)) e0 m hT iY hl hr;obtain ⟨ae,order,types,⟨rh,rp⟩⟩:=s;simp only at hl hr hN hs Mp QL NE fi sY hlo;have hN2:(dNms (⟨ae,order,types,.mk rh rp⟩:Sch).types).length=types.length:=hN;refine eG 66 [] func67 rfl ntmps67 rfl fun _ _ _ _=>?_;refine ⟨⟨rfl,by omega,by omega,by omega⟩,?_⟩
 refine aW (fun j st=>∃ (e:Nat) (l:List Int),st=MU ⟨ae,order,types,.mk rh rp⟩ lc (Av ⟨ae,order,types,.mk rh rp⟩ az lc) m l (firstA ⟨ae,order,types,.mk rh rp⟩ e) e/\e<=types.length/\l.length=types.length/\(∀ i:Nat,i < e->l[i]? = some (firstA ⟨ae,order,types,.mk rh rp⟩ i:Int))/\j=types.length - e) types.length
  (MU ⟨ae,order,types,.mk rh rp⟩ lc (Av ⟨ae,order,types,.mk rh rp⟩ az lc) m (List.replicate ((dNms types).length:Int).toNat 0) (firstA ⟨ae,order,types,.mk rh rp⟩ 0) 0) (ep 3 (by repeat' (first | exact rfl | exact au rfl | exact qb (QJ _) | refine ⟨_,_,rfl,?_,?_⟩)) (by repeat' (first | exact trivial | exact au rfl | exact qb (QJ _) | refine ⟨⟨_,rfl,?_⟩,?_⟩))) ⟨0,_,rfl,by omega,by simp [hN],fun _ h=>by omega,by omega⟩ ?_
 rintro j st ⟨e,l,rfl,he,NS,DG,rfl⟩;refine br ?_ ?_<;>intro hL
 ·have ap:e < types.length:=by have:=hL;simp [hN] at this;exact this
  obtain ⟨x,hx⟩:=gX ap;have hxw:=Mp x (mG hx);have Ka:=NE hx;have Ew:=QL (e + 1);obtain ⟨xw,⟨xh,xp⟩⟩:=x;have hnd:=rW (Ty.mk xh xp).wt (.mk xh xp) (zLeR _) hxw;refine iX (dNms_get hx) ?_;refine ⟨⟨by omega,by omega⟩,?_⟩;refine ⟨by rw [ML];omega,?_⟩;refine cP Kn hnd ?_;simp only at Ka Ew;have lp:(cZ l).set (0 + (e:Int).toNat * 1) (DV.v (.int .i64 ((firstA ⟨ae,order,types,.mk rh rp⟩ e:Nat):Int)))=cZ (l.set e ((firstA ⟨ae,order,types,.mk rh rp⟩ e:Nat):Int)):=by grind [GI]
  have tT:IntKind.i64.wrap (((firstA ⟨ae,order,types,.mk rh rp⟩ e:Nat):Int) + (Ty.mk xh xp).nn)=((firstA ⟨ae,order,types,.mk rh rp⟩ (e + 1):Nat):Int):=by grind [wrap64]
  refine ⟨MU ⟨ae,order,types,.mk rh rp⟩ lc (Av ⟨ae,order,types,.mk rh rp⟩ az lc) m (l.set e ((firstA ⟨ae,order,types,.mk rh rp⟩ e:Nat):Int)) (firstA ⟨ae,order,types,.mk rh rp⟩ (e + 1)) (e + 1),(ep 3 (by repeat' (first | exact rfl | exact au rfl | exact qb lp | exact aw tT | exact aw (aT ap (by omega)) | refine ⟨_,_,rfl,?_,?_⟩)) (by repeat' (first | exact trivial | exact au rfl | exact qb lp | exact aw tT | exact aw (aT ap (by omega)) | refine ⟨⟨_,rfl,?_⟩,?_⟩))),types.length - (e + 1),by omega,e + 1,_,rfl,by omega,by rw [List.length_set];exact NS,fun i hi=>?_,rfl⟩;by_cases Et:i=e
  ·grind
  ·grind
 ·have hge:e=types.length:=sW hN hL;subst hge;refine lJ (fun e=>QK ⟨ae,order,types,.mk rh rp⟩ az lc m l e e) types.length (eS 3 ⟨0,3,1,none⟩ rfl rfl rfl zB rfl rfl pE) ?_;intro e he;refine br ?_ ?_<;>intro hL
  ·have ap:e < types.length:=by have:=hL;simp [hN] at this;exact this
   obtain ⟨k,hk⟩:=hlo e ap;have xi:=(qa hk).1;simp only at xi;have hE:=sY (.sl 1 (dInts ((namedL ⟨ae,order,types,.mk rh rp⟩).take e)) none) e ap;rw [hk] at hE;have hnn:namedN ⟨ae,order,types,.mk rh rp⟩ e=firstA ⟨ae,order,types,.mk rh rp⟩ k:=by unfold namedN;rw [hk];all_goals rfl
   have gH:(namedL ⟨ae,order,types,.mk rh rp⟩)[e]? = some (firstA ⟨ae,order,types,.mk rh rp⟩ k):=by grind [namedL]
   have k0:dInts ((namedL ⟨ae,order,types,.mk rh rp⟩).take e) ++ [[DV.v (.int .i64 ((firstA ⟨ae,order,types,.mk rh rp⟩ k:Nat):Int))]]=dInts ((namedL ⟨ae,order,types,.mk rh rp⟩).take (e + 1)):=by
    rw [List.take_add_one,gH];simp [dInts]
   refine dS ?_;refine mW en134 hE ax rfl rfl ?_;refine ⟨⟨by simp only [oz];omega,by simp only [oz];omega⟩,?_⟩;have Jq:(cZ l)[0 + (oz (some k)).toNat * 1]? = some (DV.v (.int .i64 ((firstA ⟨ae,order,types,.mk rh rp⟩ k:Nat):Int))):=by grind [oz,MV]
   refine ⟨_,Jq,?_⟩;refine ⟨by simp [aY];omega,⟨by simp [aY,maxLen];omega,by simp [aY];omega⟩,?_⟩;exact rE ⟨_,by omega,e + 1,rfl,by omega,rfl⟩ (ep 3 (zC (aT ap (by omega)) k0) (hY (aT ap (by omega)) k0))
  ·have hge:e=types.length:=sW hN hL;subst hge;have ht:(namedL ⟨ae,order,types,.mk rh rp⟩).take types.length=namedL ⟨ae,order,types,.mk rh rp⟩:=by rw [<- fi,List.take_length]
   rw [ht];exact ⟨.bS [],[bC ⟨ae,order,types,.mk rh rp⟩ (.pt lc 0) (.loc 1 0) m,pC ⟨ae,order,types,.mk rh rp⟩ az (.pt lc 0) (.v (.slice none 0 0)) (.v (.int .i64 0)) (.sl 1 (dInts (namedL ⟨ae,order,types,.mk rh rp⟩)) none)],ax,aO,rfl⟩
structure Ed where
 name:ByteArray
 bare:Bool
 cW:Int
 to:Int
 label:Int
 wide:Int
 ck:Int
 cn:Int
 seen:Int
 ca:Int
structure Nd where
 ai:Int
 cW:Int
 lo:Int
 hi:Int
 most:Int
 af:List ByteArray
 bh:List Ed
def Jr (e:Ed):List DV:=[.v (.string e.name),.v (.bool e.bare),.v (.int .i64 e.cW),.v (.int .i64 e.to),.v (.int .i64 e.label),.v (.int .i64 e.wide),.v (.int .i64 e.ck),.v (.int .i64 e.cn),.v (.int .i64 e.seen),.v (.int .i64 e.ca)]
def iy (l:List Ed):List (List DV):=l.map Jr
def zg (n:Nd):List DV:=[.v (.int .i64 n.ai),.v (.int .i64 n.cW),.v (.int .i64 n.lo),.v (.int .i64 n.hi),.v (.int .i64 n.most),.sl 1 (dB n.af) none,.sl 10 (iy n.bh) none]
def bG (l:List Nd):List (List DV):=l.map zg
def jg (w:Int):Int:=if w=0 then 3 else w
def rZ (lev:List Wd->Int) (p:Ph) (to:Int):Ed:=⟨p.name.s,p.bare,p.name.a,to,lev p.label,jg p.wide,p.ck,p.cn,lev p.cl,p.ca⟩
def NT (s:Sch) (name:ByteArray):Int:=(namedN s ((bV (tL s) name).getD 0):Int)
def l9 (s:Sch) (t:Ty) (k:Nat):Int:=if t.h.ai=9 then NT s t.h.name.s else (k:Int)
def qc (s:Sch) (p:Ph) (u:Ty) (k:Nat):Int:=if p.bare then -1 else l9 s u k
mutual
def ndsT (lev:List Wd->Int) (s:Sch):Ty->Nat->List Nd
 | .mk h ps,k=>if h.ai=9 then [] else ⟨h.ai,h.cW,h.lo,h.hi,h.most,al h.af,edsP lev s ps (k + 1)⟩ :: r6 lev s ps (k + 1)
def edsP (lev:List Wd->Int) (s:Sch):Pts->Nat->List Ed
 | .nil,_=>[]
 | .cons p u r,k=>rZ lev p (qc s p u k) :: edsP lev s r (k + if p.bare then 0 else u.nn)
def r6 (lev:List Wd->Int) (s:Sch):Pts->Nat->List Nd
 | .nil,_=>[]
 | .cons p u r,k=>(if p.bare then [] else ndsT lev s u k) ++ r6 lev s r (k + if p.bare then 0 else u.nn)
end
mutual
theorem im (lev:List Wd->Int) (s:Sch):∀ (t:Ty) (k:Nat),(ndsT lev s t k).length=t.nn
 | .mk h ps,k=>by
  simp only [ndsT,Ty.nn];split
  ·rfl
  ·rw [List.length_cons,r7 lev s ps];omega
theorem r7 (lev:List Wd->Int) (s:Sch):∀ (ps:Pts) (k:Nat),(r6 lev s ps k).length=ps.nn
 | .nil,k=>rfl
 | .cons p u r,k=>by
  simp only [r6,Pts.nn,List.length_append,r7 lev s r];split
  ·rfl
  ·rw [im lev s u]
end
abbrev EB (s:Sch) (az:List Nat) (lc:List DV) (n:Nat):List DV:=pC s az (.pt lc 0) (.sl 0 (List.replicate n []) (some 0)) (.v (.int .i64 0)) (.sl 1 (dInts (namedL s)) none)
abbrev Ax (n:Nat) (base:List DV):TkE:=⟨n,82,7,some base⟩
def K3 (s:Sch) (az:List Nat) (lc:List DV) (m:Int) (n:Nat) (base:List DV) (y:DV) (uy:List Nd) (r:DV) (os:List (List DV)) (tk:List TkE):Prop:=
 r=y/\os=[bC s (.pt lc 0) (.loc 1 0) m,EB s az lc (n + uy.length)]/\tk=[Ax (n + uy.length) (base ++ (bG uy).flatten)]
def GW (lev:List Wd->Int) (s:Sch) (az:List Nat) (lc:List DV) (m:Int) (t:Ty):Prop:=
 ∀ (n:Nat) (base:List DV),n + t.nn<=1099511627776->base.length=n * 7 ->
  Ev prog 68 [.loc 0 0,.agg (cX t)] [bC s (.pt lc 0) (.loc 1 0) m,EB s az lc n] [Ax n base] (K3 s az lc m n base (.v (.int .i64 (l9 s t n))) (ndsT lev s t n))
theorem DH {X:Lx} (hX:X.OK) (s:Sch) (az:List Nat) (m:Int) (p:Ph) (u:Ty) (hp:p.wt<=1099511627776) (jh:p.bare=false->GW X.lev s az (fq X.af (cd X.af X.az) X.rows X.js) m u)
  (n:Nat) (base:List DV) (hb:p.bare=false->n + u.nn<=1099511627776) (hbl:base.length=n * 7) :
  Ev prog 136 [.loc 0 0,.agg (zL p (cX u))] [bC s (.pt (fq X.af (cd X.af X.az) X.rows X.js) 0) (.loc 1 0) m,EB s az (fq X.af (cd X.af X.az) X.rows X.js) n] [Ax n base]
   (K3 s az (fq X.af (cd X.af X.az) X.rows X.js) m n base (.agg (Jr (rZ X.lev p (qc s p u n)))) (if p.bare then [] else ndsT X.lev s u n)):=by
 have zS:wdsWt p.label + wdsWt p.cl<=p.wt:=by simp only [Ph.wt];omega
 have Ei:X.pd = .pt (fq X.af (cd X.af X.az) X.rows X.js) 0:=rfl;have wz:=fun pc=>rX hX s pc m p.label (by omega);have H2:=fun pc=>rX hX s pc m p.cl (by omega);rw [Ei] at wz H2;have hE:=fun to=>rZ.eq_1 X.lev p to;have oE:=qc.eq_1 s p u n;generalize fq X.af (cd X.af X.az) X.rows X.js=lc at wz H2 jh ⊢;obtain ⟨ae,order,types,⟨rh,rp⟩⟩:=s;obtain ⟨uh,us⟩:=u;refine eG 52 [.cell 4 90] func136 rfl ntmps136 rfl fun _ _ _ _=>?_;have K4:=wz [.pt lc 0,.sl 0 (List.replicate n []) none,.v (.int .i64 0),.pt (cd (tL ⟨ae,order,types,.mk rh rp⟩) az) 0,.sl 1 (dInts (namedL ⟨ae,order,types,.mk rh rp⟩)) none];have K5:=H2 [.pt lc 0,.sl 0 (List.replicate n []) none,.v (.int .i64 0),.pt (cd (tL ⟨ae,order,types,.mk rh rp⟩) az) 0,.sl 1 (dInts (namedL ⟨ae,order,types,.mk rh rp⟩)) none];apply kV (fun _=>false) 11 15 [0,1,2,3,4,5,6,7,8,9,10,11,12,13,14,15,16] [0,1,2,3,4,5,6,7,8,9,10,15,11,12,13,14,16] 4 4 mo (by decide +kernel)
 ·refine mW BP K4 ax rfl rfl ?_;refine (?_:@Eq St _ _);exact rfl
 ·refine mW BP K4 ax rfl rfl ?_;refine (⟨rfl,rfl,?_⟩:_/\_/\_)
  repeat' (first | exact trivial | refine ⟨rfl,?_⟩)
 ·rfl
 refine br ?_ ?_<;>intro hw
 ·have hw:p.wide=0:=sU hw;refine fO [4] (fun _=>false) mo (by decide +kernel) ?_;refine mW BP K5 ax rfl rfl ?_;refine br ?_ ?_<;>intro hB
  ·have hB:p.bare=false:=sU hB;refine ay 2 1 IK rfl rfl rfl aO aO (jh hB n base (hb hB) hbl) (fun r os' tk' hΦ h1 h2=>?_);obtain ⟨rfl,rfl,rfl⟩:=hΦ;refine ⟨.agg (Jr ⟨p.name.s,p.bare,p.name.a,l9 ⟨ae,order,types,.mk rh rp⟩ (.mk uh us) n,X.lev p.label,3,p.ck,p.cn,X.lev p.cl,p.ca⟩),[bC ⟨ae,order,types,.mk rh rp⟩ (.pt lc 0) (.loc 1 0) m,EB ⟨ae,order,types,.mk rh rp⟩ az lc (n + (ndsT X.lev ⟨ae,order,types,.mk rh rp⟩ (.mk uh us) n).length)],ax,aO,?_,?_,?_⟩
   ·simp [hE,qc,hB,jg,hw]
   ·simp [hB]
   ·simp [hB]
  ·have hB:p.bare=true:=sU hB;refine ⟨.agg (Jr ⟨p.name.s,p.bare,p.name.a,-1,X.lev p.label,3,p.ck,p.cn,X.lev p.cl,p.ca⟩),[bC ⟨ae,order,types,.mk rh rp⟩ (.pt lc 0) (.loc 1 0) m,EB ⟨ae,order,types,.mk rh rp⟩ az lc n],ax,aO,?_,?_,?_⟩
   ·simp [hE,qc,hB,jg,hw]
   ·simp [hB]
   ·simp [hB,bG]
 ·have hw:¬ p.wide=0:=sU hw;refine fO [4] (fun _=>false) mo (by decide +kernel) ?_;refine mW BP K5 ax rfl rfl ?_;refine br ?_ ?_<;>intro hB
  ·have hB:p.bare=false:=sU hB;refine ay 2 1 IK rfl rfl rfl aO aO (jh hB n base (hb hB) hbl) (fun r os' tk' hΦ h1 h2=>?_);obtain ⟨rfl,rfl,rfl⟩:=hΦ;refine ⟨.agg (Jr ⟨p.name.s,p.bare,p.name.a,l9 ⟨ae,order,types,.mk rh rp⟩ (.mk uh us) n,X.lev p.label,p.wide,p.ck,p.cn,X.lev p.cl,p.ca⟩),[bC ⟨ae,order,types,.mk rh rp⟩ (.pt lc 0) (.loc 1 0) m,EB ⟨ae,order,types,.mk rh rp⟩ az lc (n + (ndsT X.lev ⟨ae,order,types,.mk rh rp⟩ (.mk uh us) n).length)],ax,aO,?_,?_,?_⟩
   ·simp [hE,qc,hB,jg,hw]
   ·simp [hB]
   ·simp [hB]
  ·have hB:p.bare=true:=sU hB;refine ⟨.agg (Jr ⟨p.name.s,p.bare,p.name.a,-1,X.lev p.label,p.wide,p.ck,p.cn,X.lev p.cl,p.ca⟩),[bC ⟨ae,order,types,.mk rh rp⟩ (.pt lc 0) (.loc 1 0) m,EB ⟨ae,order,types,.mk rh rp⟩ az lc n],ax,aO,?_,?_,?_⟩
   ·simp [hE,qc,hB,jg,hw]
   ·simp [hB]
   ·simp [hB,bG]
def SH (h:Hd):List DV:=[.v (.int .i64 h.ai),.v (.int .i64 h.cW),.v (.int .i64 h.lo),.v (.int .i64 h.hi),.v (.int .i64 h.most),.sl 1 (dB (al h.af)) none,.v (.slice none 0 0)]
theorem Js {h:Hd} {base R:List DV} {n:Nat} {x:DV} (hb:base.length=n * 7):(base ++ (SH h ++ R)).set (n * 7 + 6) x=base ++ ([.v (.int .i64 h.ai),.v (.int .i64 h.cW),.v (.int .i64 h.lo),.v (.int .i64 h.hi),.v (.int .i64 h.most),.sl 1 (dB (al h.af)) none,x] ++ R):=by
 rw [List.set_append_right _ _ (by omega),hb,Nat.add_sub_cancel_left];rfl
theorem uz (l:List Ed) (e:Ed):iy l ++ [Jr e]=iy (l ++ [e]):=by simp [iy]
theorem de (l:List Ed):(iy l).length=l.length:=by simp [iy]
theorem ni (lev:List Wd->Int) (s:Sch):∀ (ps:Pts) (k:Nat),(edsP lev s ps k).length=ps.len
 | .nil,_=>rfl
 | .cons p u r,k=>by simp [edsP,Pts.len,ni lev s r]
abbrev QM (s:Sch) (az:List Nat) (lc:List DV) (m:Int) (n:Nat) (base:List DV) (h:Hd) (ps:Pts) (q e:Nat):St:=
 ⟨[aF 0 0,aF 3 2,aq 7 n,aF 8 3,aS 61 2 (bm h.af),aq 62 ((bm h.af).length),aq 63 e],
  [bC s (.pt lc 0) (.loc 1 0) m,EB s az lc n,cX (.mk h ps),[.v (.int .i64 h.ai),.v (.int .i64 h.cW),.v (.int .i64 h.lo),.v (.int .i64 h.hi),.v (.int .i64 h.most),.sl 1 (dB (al (h.af.take e))) (some 1),.v (.slice none 0 0)]],
  [Ax n base,⟨q,9,1,none⟩]⟩
abbrev GX (s:Sch) (az:List Nat) (lc:List DV) (m:Int) (n:Nat) (h:Hd) (ps:Pts) (n':Nat) (nj:List DV) (Es:List Ed) (q1 q2 e:Nat):St:=
 ⟨[aF 0 0,aF 3 2,aq 7 n,(11,⟨[],.sl 10 (iy Es) (some 2)⟩),aS 92 18 (dY ps),aq 93 ((dY ps).length),aq 94 e],
  [bC s (.pt lc 0) (.loc 1 0) m,EB s az lc n',cX (.mk h ps)],
  [Ax n' nj,⟨q1,9,1,none⟩,⟨q2,90,10,none⟩]⟩
theorem kF {X:Lx} {L:List ByteArray} {h:Hd} {ps:Pts} (hk:(knT X L (.mk h ps)).1=0):(h.ai=9->bV L h.name.s≠none)/\(knP X L ps).1=0:=by grind [knT]
theorem oF {X:Lx} {L:List ByteArray} {p:Ph} {u:Ty} {r:Pts} (hk:(knP X L (.cons p u r)).1=0):(p.bare=false->(knT X L u).1=0)/\(knP X L r).1=0:=by grind [knP]
theorem uA {X:Lx} (hX:X.OK) (s:Sch) (az:List Nat) (m:Int) (hT:fo (tL s) az) (iY:az.length<=1099511627776):∀ (k:Nat) (t:Ty),t.wt<=k->t.wt<=1099511627776->(knT X (tL s) t).1=0 ->
  GW X.lev s az (fq X.af (cd X.af X.az) X.rows X.js) m t
 | 0,t,hn,_,_=>by have:=t.gv;omega
 | k + 1,.mk h ps,hn,bI,E9=>by
  have ih:=uA hX s az m hT iY k;intro n base hnb hbl;obtain ⟨UQ,MW⟩:=kF E9;have nk:=fun (p:Ph) (u:Ty)=>DH hX s az m p u;generalize fq X.af (cd X.af X.az) X.rows X.js=lc at ih nk ⊢;simp only [Ty.wt,Hd.wt] at hn bI;have ml:=ps.dX;have fi:=bd h.af;have hf:=fK (tL s) az h.name.s hT iY;have lr:=iO s;have hnmL:(namedL s).length=s.types.length:=by simp [namedL]
  have Jt:l9 s (.mk h ps) n=if h.ai=9 then NT s h.name.s else (n:Int):=rfl
  have DI:ndsT X.lev s (.mk h ps) n=if h.ai=9 then [] else ⟨h.ai,h.cW,h.lo,h.hi,h.most,al h.af,edsP X.lev s ps (n + 1)⟩ :: r6 X.lev s ps (n + 1):=by rw [ndsT]
  have hnn:(Ty.mk h ps).nn=if h.ai=9 then 0 else 1 + ps.nn:=by rw [Ty.nn]
  generalize hS:s=S at *;subst hS;obtain ⟨ae,order,types,⟨rh,rp⟩⟩:=s;refine eG 117 [.tmp 4] func68 rfl ntmps68 rfl fun _ _ _ _=>?_;refine br ?_ ?_<;>intro h9
  ·have h9:h.ai=9:=sU h9;obtain ⟨i,hi⟩:=Option.ne_none_iff_exists'.1 (UQ h9);have Eu:=(cC hi).1;rw [hi] at hf;rw [zIfP h9] at Jt DI;have gH:(namedL ⟨ae,order,types,.mk rh rp⟩)[i]? = some (namedN ⟨ae,order,types,.mk rh rp⟩ i):=by grind [namedL]
   refine dI ?_;refine cD km hf ?_;refine iX (bY gH) ?_;refine ⟨.v (.int .i64 (namedN ⟨ae,order,types,.mk rh rp⟩ i:Nat)),[bC ⟨ae,order,types,.mk rh rp⟩ (.pt lc 0) (.loc 1 0) m,EB ⟨ae,order,types,.mk rh rp⟩ az lc n],ax,aO,?_,?_,?_⟩
   ·rw [Jt,NT,hi];rfl
   ·rw [DI];rfl
   ·rw [DI];simp [bG]
  have h9:¬ h.ai=9:=sU h9;rw [ah h9] at Jt DI hnn;have iv:(List.replicate n ([]:List DV)).length=n:=List.length_replicate;refine lJ (fun e=>QM ⟨ae,order,types,.mk rh rp⟩ az lc m n base h ps e e) h.af.length (eS 4 ⟨0,9,1,none⟩ rfl rfl rfl (ve iv) rfl rfl (c8 iv)) ?_;intro e he;refine br ?_ ?_<;>intro hL
  ·have ap:e < h.af.length:=by simpa [ak] using hL
   obtain ⟨w,hw⟩:=gX ap;have k0:=gP hw;refine ⟨gm w,⟨by omega,aH hw⟩,?_⟩;refine ⟨by simp [bP,al];omega,⟨by simp [bP,al,maxLen];omega,by simp [bP,al];omega⟩,?_⟩;exact rE ⟨_,by omega,e + 1,rfl,by omega,rfl⟩ (ep 4 (zC (aT ap (by omega)) k0) (hY (aT ap (by omega)) k0))
  have hge:e=h.af.length:=by have:=hL;simp [ak] at this;omega
  subst hge;rw [List.take_length];refine dS ?_;refine ⟨⟨⟨iv,by simp⟩,by simp [maxLen];omega,by simp;omega⟩,?_⟩
  refine aW (fun j st=>∃ (e n':Nat) (nj:List DV) (Es:List Ed) (K:List Nd),st=GX ⟨ae,order,types,.mk rh rp⟩ az lc m n h ps n' nj Es h.af.length e e/\e<=ps.len/\n'=n + 1 + K.length/\nj=base ++ (SH h ++ (bG K).flatten)/\Es.length=e /\
    K ++ r6 X.lev ⟨ae,order,types,.mk rh rp⟩ (ps.drop e) (n + 1 + K.length)=r6 X.lev ⟨ae,order,types,.mk rh rp⟩ ps (n + 1)/\Es ++ edsP X.lev ⟨ae,order,types,.mk rh rp⟩ (ps.drop e) (n + 1 + K.length)=edsP X.lev ⟨ae,order,types,.mk rh rp⟩ ps (n + 1)/\K.length + (ps.drop e).nn=ps.nn/\(knP X (tL ⟨ae,order,types,.mk rh rp⟩) (ps.drop e)).1=0/\j=ps.len - e) ps.len
   (GX ⟨ae,order,types,.mk rh rp⟩ az lc m n h ps (n + 1) (base ++ (SH h ++ [])) [] h.af.length 0 0) (eS 3 ⟨0,90,10,none⟩ rfl rfl rfl zB rfl rfl pE) ⟨0,n + 1,_,[],[],rfl,by omega,rfl,rfl,rfl,rfl,rfl,by simp [Pts.drop],MW,by omega⟩ ?_
  rintro j st ⟨e,n',nj,Es,K,rfl,he,J8,ee,NG,hK,NU,SI,SF,rfl⟩
  have UR:nj.length=n' * 7:=by
   have:∀ l:List Nd,(bG l).flatten.length=l.length * 7:=by
    intro l
    induction l with
    | nil=>rfl
    | cons a r ih=>simp only [bG,List.map_cons,List.flatten_cons,List.length_append,List.length_cons] at ih ⊢;rw [ih];simp only [zg,List.length_cons,List.length_nil];omega
   rw [ee,List.length_append,List.length_append,this,hbl,J8];simp only [SH,List.length_cons,List.length_nil];omega
  refine br ?_ ?_<;>intro hL
  ·have ap:e < ps.len:=by simpa [aC] using hL
   obtain ⟨p,u,hx⟩:=Pts.dq ap;have C0:=Pts.eC (mG hx);rw [Pts.drop_cons hx] at hK NU SI SF;obtain ⟨mn,Fh⟩:=oF SF;simp only [r6] at hK;simp only [edsP] at NU;simp only [Pts.nn] at SI;rw [<- J8] at hK NU;have Tr:=u.eI;have huc:=u.dr;have cK:=nk p u (by omega) (fun hB=>ih u (by omega) (by omega) (mn hB)) n' nj (fun hB=>by rw [hB] at SI;simp only [Bool.false_eq_true,if_false] at SI;omega) UR;have QN:=im X.lev ⟨ae,order,types,.mk rh rp⟩ u n';obtain ⟨uh,us⟩:=u;refine iX (bz hx) ?_;refine ay 2 1 Pf rfl rfl rfl aO aO cK (fun r os' tk' hΦ h1 h2=>?_);obtain ⟨rfl,rfl,rfl⟩:=hΦ;refine ⟨by rw [de,NG],⟨by simp [de,NG,maxLen];omega,by simp [de,NG];omega⟩,?_⟩
   have US:(if p.bare then [] else ndsT X.lev ⟨ae,order,types,.mk rh rp⟩ (.mk uh us) n').length=if p.bare then 0 else (Ty.mk uh us).nn:=by
    split
    ·rfl
    ·exact QN
   have WM:n + 1 + (K.length + (if p.bare then 0 else (Ty.mk uh us).nn))=n' + if p.bare then 0 else (Ty.mk uh us).nn:=by rw [J8];omega
   refine ⟨GX ⟨ae,order,types,.mk rh rp⟩ az lc m n h ps (n' + (if p.bare then [] else ndsT X.lev ⟨ae,order,types,.mk rh rp⟩ (.mk uh us) n').length) (nj ++ (bG (if p.bare then [] else ndsT X.lev ⟨ae,order,types,.mk rh rp⟩ (.mk uh us) n')).flatten) (Es ++ [rZ X.lev p (qc ⟨ae,order,types,.mk rh rp⟩ p (.mk uh us) n')]) h.af.length (e + 1) (e + 1),(ep 3 (by repeat' (first | exact rfl | exact au rfl | exact aw (aT ap (by omega)) | exact bL (uz _ _) rfl | refine ⟨_,_,rfl,?_,?_⟩)) (by repeat' (first | exact trivial | exact au rfl | exact aw (aT ap (by omega)) | exact bL (uz _ _) rfl | refine ⟨⟨_,rfl,?_⟩,?_⟩))),
    ps.len - (e + 1),by omega,e + 1,_,_,_,K ++ (if p.bare then [] else ndsT X.lev ⟨ae,order,types,.mk rh rp⟩ (.mk uh us) n'),rfl,by omega,?_,?_,?_,?_,?_,?_,Fh,rfl⟩
   ·rw [List.length_append,J8];omega
   ·rw [ee];simp [bG]
   ·simp [NG]
   ·simp_all
   ·simp_all
   ·rw [List.length_append,US];omega
  ·have hge:e=ps.len:=by have:=hL;simp [aC] at this;omega
   subst hge;rw [Pts.cu] at hK NU;simp only [r6,List.append_nil] at hK;simp only [edsP,List.append_nil] at NU;have hKl:K.length=ps.nn:=by rw [hK,r7]
   have UT:(List.replicate n' ([]:List DV)).length=n':=List.length_replicate;refine Dc (kt:=0) ⟨rfl,rfl⟩ ⟨rfl,rfl,rfl⟩ ⟨rfl,rfl,rfl⟩ rfl rfl rfl rfl rfl rfl rfl rfl rfl rfl rfl UT ⟨by omega,by omega⟩ (by decide) ?_;have QO:n + (ndsT X.lev ⟨ae,order,types,.mk rh rp⟩ (.mk h ps) n).length=n':=by rw [DI,List.length_cons,<- hK,J8];omega
   have nX:nj.set ((n:Int).toNat * 7 + 6) (.sl 10 (iy Es) none)=base ++ (bG (ndsT X.lev ⟨ae,order,types,.mk rh rp⟩ (.mk h ps) n)).flatten:=by
    rw [ee,show (n:Int).toNat=n by omega,Js hbl,DI,NU,hK];rfl
   refine ⟨.v (.int .i64 n),[bC ⟨ae,order,types,.mk rh rp⟩ (.pt lc 0) (.loc 1 0) m,EB ⟨ae,order,types,.mk rh rp⟩ az lc n'],ax,aO,?_,?_,?_⟩
   ·rw [Jt]
   ·rw [QO]
   ·rw [QO,<- nX];rfl
theorem mb {l:List Wd} {o:List (Wd × Wd)} (h:(latF l o).1=0):(ek l o).1=0/\(enumL l 0 l).1=0/\(numF (al l) o).1=0/\bE (iF l.length (du l.length (cv (al l) o))) l.length=none/\bE (kB (du l.length (cv (al l) o)) l.length) l.length=none:=by grind [latF]
theorem cL {p:Nat->Bool} {n:Nat} (h:bE p n=none):∀ a,a < n->p a=false:=by grind [bE]
theorem iq {l:List Wd} {o:List (Wd × Wd)} (h:(latF l o).1=0):gj (du l.length (cv (al l) o)) l.length/\l.length<=32:=by
 obtain ⟨h1,h2,h3,h4,h5⟩:=mb h;have hP:=lh h3;rw [cw] at hP
 have HX:l ≠ []:=by
  rintro rfl;simp [ek] at h1
 have Ju:l.length<=32:=by grind [ek]
 have MN:∀ a b,a < l.length->b < l.length->je (du l.length (cv (al l) o)) l.length a b=false:=by
  have key:∀ a b,a<=b->b < l.length->je (du l.length (cv (al l) o)) l.length a b=false:=fun a b CS hb=>by grind [cL,kB]
  intro a b ha hb;rcases Nat.le_total a b with h | h
  ·exact key a b h hb
  ·grind [je,rO,rP]
 refine ⟨{
  pos:=List.length_pos_iff.2 HX
  rfl':=fun a ha=>oq hP ha
  tr:=fun a b c ha hb hc=>Ak hP ha hb hc
  Aq:=fun a b ha hb h6 h7=>by grind [cL,iF]
  jn:=fun a b ha hb=>by
   have:=MN a b ha hb;unfold je at this;simp only [Bool.or_eq_false_iff,Option.isNone_eq_false_iff] at this;exact Option.isSome_iff_exists.1 this.1
  mt:=fun a b ha hb=>by
   have:=MN a b ha hb;unfold je at this;simp only [Bool.or_eq_false_iff,Option.isNone_eq_false_iff] at this
   exact Option.isSome_iff_exists.1 this.2 },Ju⟩
def cr (s:Sch) (az:List Nat) (js:List Int):Lx:=⟨al s.ae,az,closeR (dL s.ae.length (cv (al s.ae) s.order)) s.ae.length,js,du s.ae.length (cv (al s.ae) s.order)⟩
theorem Jv {s:Sch} {d:DV} (h:(latF s.ae s.order).1=0) (hd:MP s.ae s.order d) (hw:s.ae.length<=1099511627776):∃ az js,(cr s az js).OK/\d=(cr s az js).pd:=by
 obtain ⟨az,js,hT,iY,pA,H0,rfl⟩:=hd;obtain ⟨h1,h2⟩:=iq h;refine ⟨az,js,⟨hT,by show az.length<=_;omega,?_,?_,?_⟩,rfl⟩
 ·show gj _ (al s.ae).length;rw [cw];exact h1
 ·show (al s.ae).length<=32;rw [cw];exact h2
 ·show ∀ x y,x < (al s.ae).length->y < (al s.ae).length->JM _ (al s.ae).length js x y;rw [cw];exact H0
def fL (s:Sch) (l:List Wd):Int:=vM (du s.ae.length (cv (al s.ae) s.order)) (al s.ae) l
def jv (s:Sch) (t:Ty):Ft:=knT ⟨al s.ae,[],[],[],fun _ _=>false⟩ (tL s) t
mutual
theorem uB {X Y:Lx} (h:X.af=Y.af) (L:List ByteArray):∀ t:Ty,knT X L t=knT Y L t
 | .mk h1 ps=>by rw [knT,knT,uC h L ps]
theorem uC {X Y:Lx} (h:X.af=Y.af) (L:List ByteArray):∀ ps:Pts,knP X L ps=knP Y L ps
 | .nil=>by rw [knP,knP]
 | .cons p t r=>by
  rw [knP,knP,uC h L r,uB h L t];unfold Lx.bad;rw [h]
end
theorem MX (s:Sch) (az:List Nat) (js:List Int) (t:Ty):knT (cr s az js) (tL s) t=jv s t:=uB (X:=cr s az js) (Y:=⟨al s.ae,[],[],[],fun _ _=>false⟩) rfl (tL s) t
def fc (s:Sch):Ft:=
 if (latF s.ae s.order).1≠0 then latF s.ae s.order
 else if (dy s).1≠0 then dy s
 else if (eaR s.root s.types 0).1.1≠0 then (eaR s.root s.types 0).1
 else if (eaL (jv s) (jv s s.root) s.types).1≠0 then eaL (jv s) (jv s s.root) s.types
 else loopF s
def ndsAll (lev:List Wd->Int) (s:Sch):List (Wd × Ty)->Nat->List Nd
 | [],_=>[]
 | x :: r,k=>ndsT lev s x.2 k ++ ndsAll lev s r (k + x.2.nn)
def oG (s:Sch):List Nd:=ndsAll (fL s) s s.types 0
def aE (s:Sch):List Nd:=oG s ++ ndsT (fL s) s s.root (oG s).length
def fQ (s:Sch):Int:=l9 s s.root (oG s).length
def K6 (s:Sch) (az iP:List Nat) (js:List Int):List DV:=
 [(cr s az js).pd,.sl 7 (bG (aE s)) none,.v (.int .i64 (fQ s)),.pt (cd (tL s) iP) 0,.sl 1 (dInts (namedL s)) none]
def GY (s:Sch) (d:DV):Prop:=∃ az iP js,(cr s az js).OK/\fo (tL s) iP/\iP.length<=s.types.length/\d = .pt (K6 s az iP js) 0
def Ay (s:Sch) (r:DV) (_:List (List DV)) (_:List TkE):Prop:=
 if (fc s).1≠0 then r = .bS [.v (.pointer none),(fc s).d] else ∃ d,GY s d/\r = .bS [d,Ft.d (0,0)]
theorem kG {s:Sch} {f:Ft} {os:List (List DV)} {tk:List TkE} (h:fc s=f) (hf:f.1≠0):Ay s (.bS [.v (.pointer none),f.d]) os tk:=by
 unfold Ay;rw [h,zIfP hf]
theorem Jw {s:Sch} {d:DV} {os:List (List DV)} {tk:List TkE} (h:(fc s).1=0) (hd:GY s d):Ay s (.bS [d,Ft.d (0,0)]) os tk:=by grind [Ay]
theorem GZ {F:Ty->Ft} {z:Ft}:∀ {l:List (Wd × Ty)},(eaL F z l).1=0->z.1=0/\∀ x∈l,(F x.2).1=0
 | [],h=>⟨h,fun x hx=>by cases hx⟩
 | x :: r,h=>by
  rw [eaL] at h;split at h
  ·rename_i h1;exact (h1 h).elim
  ·rename_i h1;obtain ⟨h2,h3⟩:=GZ h
   grind
theorem G0 {z:Ty}:∀ {l:List (Wd × Ty)} {m:Int},0<=m->(eaR z l m).1.1=0->(wrong z 1 0).1.1=0/\(∀ x∈l,(wrong x.2 1 0).1.1=0)/\(eaR z l m).2=m + ((l.map fun x=>x.2.cnt).sum + z.cnt:Nat)/\(eaR z l m).2<=512
 | [],m,_,h=>by grind [eaR,lj]
 | x :: r,m,hm,h=>by
  rw [eaR] at h ⊢;split at h
  ·rename_i h1;exact (h1 h).elim
  ·rename_i h1;rw [ah h1];obtain ⟨g1,g2,g3,_⟩:=lj (sU h1);obtain ⟨h2,h3,h4,h5⟩:=G0 (by omega) h
   grind
theorem r8 (lev:List Wd->Int) (s:Sch):∀ (l:List (Wd × Ty)) (k:Nat),(ndsAll lev s l k).length=(l.map fun x=>x.2.nn).sum
 | [],_=>rfl
 | x :: r,k=>by simp only [ndsAll,List.length_append,im,r8 lev s r,List.map_cons,List.sum_cons]
theorem r9:∀ l:List (Wd × Ty),(l.map fun x=>x.2.nn).sum<=(l.map fun x=>x.2.cnt).sum
 | []=>zLeR _
 | x :: r=>by
  have:=x.2.eI;have:=r9 r
  grind
theorem uD:∀ l:List Nd,(bG l).flatten.length=l.length * 7
 | []=>rfl
 | a :: r=>by
  have:=uD r;simp only [bG,List.map_cons,List.flatten_cons,List.length_append,List.length_cons] at this ⊢;rw [this];simp only [zg,List.length_cons,List.length_nil];omega
theorem vQ {X:Lx} {s:Sch} {t:Ty} (h:(knT X (tL s) t).1=0):pM s t=true:=by
 obtain ⟨hd,ps⟩:=t;have:=(kF h).1;unfold pM;exact decide_eq_true this
theorem yo {s:Sch} (h:(loopF s).1=0):∀ i,i < s.types.length->∃ k,endI s (s.types.length + 1) i=some k:=by
 intro i hi;unfold loopF at h;split at h
 ·rename_i h1;have:=cL h1 i hi;simp only [Option.isNone_eq_false_iff] at this;exact Option.isSome_iff_exists.1 this
 ·cases h
abbrev G1 (s:Sch) (az:List Nat) (lc:List DV) (m:Int) (f1 f2:Int) (n:Nat) (base:List DV) (e:Nat):St:=
 ⟨[aF 1 4,aF 3 3,aF 6 0,aS 59 11 (dNms s.types),aq 60 ((dNms s.types).length),aq 61 e],
  [bC s (.pt lc 0) (.loc 1 0) m,EB s az lc n,[.v (.int .i64 f1),.v (.int .i64 f2)],[.v (.int .i64 0),.v (.int .i64 0)],cM s],[Ax n base]⟩
theorem Az (s:Sch) (hs:s.wt<=1099511627776):Ev prog 26 [.agg (cM s)] [] [] (Ay s):=by
 have hF:=fc.eq_1 s;have hw:=hs;simp only [Sch.wt] at hw;have SJ:=bd s.ae;have SB:=gQ s.types;have IM:=ye s.ae s.order (by omega) (by omega);have pG:=fun lc=>vP s lc (by omega)
 have bI:∀ t,(t=s.root∨∃ x∈s.types,t=x.2)->t.wt<=1099511627776:=fun t ht=>by
  rcases ht with rfl | ⟨x,hx,rfl⟩
  ·omega
  ·have:=eN hx;omega
 have QP:=fun lc az=>Aw s lc az 0 (by omega) (by omega) (by omega) bI;have QQ:=fun (X:Lx) (hX:X.OK) (az:List Nat) (hT:fo (tL s) az) (iY:az.length<=1099511627776) (m:Int)=>DF s X.pd (Av s az (fq X.af (cd X.af X.az) X.rows X.js)) m (by omega) 65 Mh (knT X (tL s)) (fun t ht=>rY hX s az (.pt (fq X.af (cd X.af X.az) X.rows X.js) 0) (.v (.slice none 0 0)) (.v (.int .i64 0)) (.v (.slice none 0 0)) m hT iY t.wt t (zLeR _) (bI t ht));have MY:(dy s).1=0->s.types.length<=64:=fun h=>by grind [dy]
 have hLx:=fun d h hd=>@Jv s d h hd (by omega);have K7:=fun (lat:DV) (az:List Nat) (a b c e0:DV) (m:Int)=>Au s lat az a b c e0 m;have G2:=fun (lc:List DV) (az:List Nat) (m:Int)=>yn s lc az m;have jh:=fun (X:Lx) (hX:X.OK) (az:List Nat) (m:Int) (hT:fo (tL s) az) (iY:az.length<=1099511627776) (t:Ty) (ht:t.wt<=1099511627776)=>uA hX s az m hT iY t.wt t (zLeR _) ht;refine eG 85 [.tmp 2,.cell 3 26] func26 rfl ntmps26 rfl fun _ _ _ _=>?_;generalize hS:s=S at *;obtain ⟨ae,order,types,⟨rh,rp⟩⟩:=s;subst hS;refine gq TQ rfl IM ax (fun r hr=>?_);by_cases hL:(latF ae order).1≠0
 ·have UI:=hL;rw [zIfP (show (latF (Sch.mk ae order types (.mk rh rp)).ae (Sch.mk ae order types (.mk rh rp)).order).1≠0 from hL)] at hF;unfold An at hr;rw [zIfP (show (latF (Sch.mk ae order types (.mk rh rp)).ae (Sch.mk ae order types (.mk rh rp)).order).1≠0 from hL)] at hr;subst hr;refine br ?_ ?_<;>intro h
  ·refine dS ?_;exact ⟨_,ax,kG (os:=[]) (tk:=[]) hF hL⟩
  ·exfalso;simp at h;exact hL h
 unfold An at hr;rw [ah (show ¬ (latF (Sch.mk ae order types (.mk rh rp)).ae (Sch.mk ae order types (.mk rh rp)).order).1≠0 from hL)] at hF hr;obtain ⟨d,hd,rfl⟩:=hr;have hL0:(latF ae order).1=0:=sU hL;obtain ⟨az,js,hX,rfl⟩:=hLx d hL0 hd;generalize SK:cr ⟨ae,order,types,.mk rh rp⟩ az js=X at hX;refine br (fun h=>?_) (fun _=>?_)
 ·exfalso;simp at h;exact hL h
 refine CallG.I5 0 4 rfl rfl rfl rfl (CallG.I5 1 3 rfl rfl rfl rfl ?_);refine ay 2 0 TR rfl rfl rfl aO aO (pG (fq X.af (cd X.af X.az) X.rows X.js)) (fun r os' tk' hΦ h1 h2=>?_);obtain ⟨rfl,CY⟩:=hΦ;have h2:=List.eq_nil_of_length_eq_zero h2;subst h2;by_cases Ce:(dy ⟨ae,order,types,.mk rh rp⟩).1≠0
 ·rw [zIfP Ce] at hF
  obtain ⟨a,b,rfl⟩:∃ a b,os'=[a,b]:=by
   match os',h1 with
   | [a,b],_=>exact ⟨a,b,rfl⟩
  refine br ?_ ?_<;>intro h
  ·refine dS ?_;exact ⟨_,ax,kG (os:=[]) (tk:=[]) hF Ce⟩
  ·exfalso;simp at h;exact Ce h
 rw [ah Ce] at hF;have QR:(dy ⟨ae,order,types,.mk rh rp⟩).1=0:=sU Ce;have G3:=MY QR;obtain ⟨iP,hT,iY,rfl⟩:=CY QR;refine br (fun h=>?_) (fun _=>?_)
 ·exfalso;simp at h;exact Ce h
 refine ay 2 0 O0 rfl rfl rfl aO aO (QP (fq X.af (cd X.af X.az) X.rows X.js) iP) (fun r os' tk' hΦ h1 h2=>?_);obtain ⟨rfl,rfl⟩:=hΦ;have h2:=List.eq_nil_of_length_eq_zero h2;subst h2;by_cases hR:(eaR (.mk rh rp) types 0).1.1≠0
 ·rw [zIfP (show (eaR (Sch.mk ae order types (.mk rh rp)).root (Sch.mk ae order types (.mk rh rp)).types 0).1.1≠0 from hR)] at hF;refine br ?_ ?_<;>intro h
  ·refine dS ?_;exact ⟨_,ax,kG (os:=[]) (tk:=[]) hF hR⟩
  ·exfalso;simp at h;exact hR h
 rw [ah (show ¬ (eaR (Sch.mk ae order types (.mk rh rp)).root (Sch.mk ae order types (.mk rh rp)).types 0).1.1≠0 from hR)] at hF;have hR0:(eaR (.mk rh rp) types 0).1.1=0:=sU hR;refine br (fun h=>?_) (fun _=>?_)
 ·exfalso;simp at h;exact hR h
 have WN:=QQ X hX iP hT (by have:types.length<=64:=G3;have:iP.length<=types.length:=iY;omega) (eaR (.mk rh rp) types 0).2;have MZ:∀ t,knT X (tL ⟨ae,order,types,.mk rh rp⟩) t=jv ⟨ae,order,types,.mk rh rp⟩ t:=fun t=>by rw [<- SK];exact MX _ _ _ t
 have UU:eaL (knT X (tL ⟨ae,order,types,.mk rh rp⟩)) (knT X (tL ⟨ae,order,types,.mk rh rp⟩) (.mk rh rp)) types=eaL (jv ⟨ae,order,types,.mk rh rp⟩) (jv ⟨ae,order,types,.mk rh rp⟩ (.mk rh rp)) types:=by
  rw [show knT X (tL ⟨ae,order,types,.mk rh rp⟩)=jv ⟨ae,order,types,.mk rh rp⟩ from funext MZ]
 refine BZ O0 WN ax rfl rfl ?_;by_cases hK:(eaL (jv ⟨ae,order,types,.mk rh rp⟩) (jv ⟨ae,order,types,.mk rh rp⟩ (.mk rh rp)) types).1≠0
 ·rw [zIfP (show (eaL (jv ⟨ae,order,types,.mk rh rp⟩) (jv ⟨ae,order,types,.mk rh rp⟩ (Sch.mk ae order types (.mk rh rp)).root) (Sch.mk ae order types (.mk rh rp)).types).1≠0 from hK)] at hF;refine br ?_ ?_<;>intro h
  ·refine dS ?_;refine ⟨.bS [.v (.pointer none),(eaL (knT X (tL ⟨ae,order,types,.mk rh rp⟩)) (knT X (tL ⟨ae,order,types,.mk rh rp⟩) (.mk rh rp)) types).d],ax,?_⟩;rw [UU];exact kG (os:=[]) (tk:=[]) hF hK
  ·grind
 rw [ah (show ¬ (eaL (jv ⟨ae,order,types,.mk rh rp⟩) (jv ⟨ae,order,types,.mk rh rp⟩ (Sch.mk ae order types (.mk rh rp)).root) (Sch.mk ae order types (.mk rh rp)).types).1≠0 from hK)] at hF;have SL:(eaL (jv ⟨ae,order,types,.mk rh rp⟩) (jv ⟨ae,order,types,.mk rh rp⟩ (.mk rh rp)) types).1=0:=sU hK;refine br (fun h=>?_) (fun _=>?_)
 ·grind
 have zp:wdsWt ae + prsWt order + nmsWt types + (Ty.mk rh rp).wt<=1099511627776:=hw;have UW:nmsWt types<=1099511627776:=by omega
 obtain ⟨K8,eo⟩:=GZ SL;have UX:(knT X (tL ⟨ae,order,types,.mk rh rp⟩) (.mk rh rp)).1=0:=by rw [MZ];exact K8
 have QS:∀ x∈types,(knT X (tL ⟨ae,order,types,.mk rh rp⟩) x.2).1=0:=fun x hx=>by rw [MZ];exact eo x hx
 have QT:∀ x∈types,pM ⟨ae,order,types,.mk rh rp⟩ x.2=true:=fun x hx=>vQ (QS x hx);have Jx:iP.length<=1099511627776:=by have:types.length<=64:=G3;have:iP.length<=types.length:=iY;omega
 refine BZ TS (K7 X.pd iP X.pd (.v (.slice none 0 0)) (.v (.int .i64 0)) (.v (.slice none 0 0)) (eaR (.mk rh rp) types 0).2 hT Jx G3 QT) ax rfl rfl ?_;by_cases hO:(loopF ⟨ae,order,types,.mk rh rp⟩).1≠0
 ·refine br ?_ ?_<;>intro h
  ·refine dS ?_;exact ⟨_,ax,kG (os:=[]) (tk:=[]) hF hO⟩
  ·exfalso;simp at h;exact hO h
 have WO:(loopF ⟨ae,order,types,.mk rh rp⟩).1=0:=sU hO;have hF0:(fc ⟨ae,order,types,.mk rh rp⟩).1=0:=by rw [hF];exact WO
 refine br (fun h=>?_) (fun _=>?_)
 ·exfalso;simp at h;exact hO h
 refine ay 2 0 TU rfl rfl rfl aO aO (G2 (fq X.af (cd X.af X.az) X.rows X.js) iP (eaR (.mk rh rp) types 0).2 hT Jx G3 QT UW (yo WO)) (fun r os' tk' hΦ h1 h2=>?_);subst hΦ;have h2:=List.eq_nil_of_length_eq_zero h2;subst h2;clear pG QP QQ K7 G2 WN IM;have hN:(dNms types).length=types.length:=cO types;obtain ⟨Jy,C0,hcm,QU⟩:=G0 (Int.le_refl 0) hR0;generalize (eaR (.mk rh rp) types 0).2=m at hcm QU ⊢
 refine aW (fun j st=>∃ (e n:Nat) (base:List DV) (N:List Nd),st=G1 ⟨ae,order,types,.mk rh rp⟩ iP (fq X.af (cd X.af X.az) X.rows X.js) m (loopF ⟨ae,order,types,.mk rh rp⟩).1 (loopF ⟨ae,order,types,.mk rh rp⟩).2 n base e/\e<=types.length/\n=N.length/\base=(bG N).flatten/\N ++ ndsAll (fL ⟨ae,order,types,.mk rh rp⟩) ⟨ae,order,types,.mk rh rp⟩ (types.drop e) n=oG ⟨ae,order,types,.mk rh rp⟩/\j=types.length - e) types.length
  (G1 ⟨ae,order,types,.mk rh rp⟩ iP (fq X.af (cd X.af X.az) X.rows X.js) m (loopF ⟨ae,order,types,.mk rh rp⟩).1 (loopF ⟨ae,order,types,.mk rh rp⟩).2 0 [] 0) (eS 5 ⟨0,82,7,some []⟩ rfl rfl rfl zB rfl rfl pE) ⟨0,0,[],[],rfl,by omega,rfl,rfl,rfl,by omega⟩ ?_
 rintro j st ⟨e,n,base,N,rfl,he,hn,LG,QV,rfl⟩;have WQ:types.length<=64:=G3;have AA:X.lev=fL ⟨ae,order,types,.mk rh rp⟩:=by rw [<- SK];all_goals rfl
 have htot:(oG ⟨ae,order,types,.mk rh rp⟩).length + (Ty.mk rh rp).nn<=512:=by
  have h1:=r9 types;have h2:=(Ty.mk rh rp).eI;have h3:(oG ⟨ae,order,types,.mk rh rp⟩).length=(types.map fun x=>x.2.nn).sum:=r8 _ _ _ _;omega
 have hbl:base.length=n * 7:=by rw [LG,hn,uD]
 have zK:n + (ndsAll (fL ⟨ae,order,types,.mk rh rp⟩) ⟨ae,order,types,.mk rh rp⟩ (types.drop e) n).length=(oG ⟨ae,order,types,.mk rh rp⟩).length:=by rw [<- QV,List.length_append,hn]
 refine br ?_ ?_<;>intro hL
 ·have ap:e < types.length:=by have:=hL;simp [hN] at this;exact this
  obtain ⟨x,hx⟩:=gX ap;have WR:=mG hx;rw [drop_cons hx,ndsAll] at QV zK;rw [List.length_append] at zK;have fi:=im (fL ⟨ae,order,types,.mk rh rp⟩) ⟨ae,order,types,.mk rh rp⟩ x.2 n;have zf:=jh X hX iP m hT Jx x.2 (bI x.2 (.inr ⟨x,WR,rfl⟩)) (QS x WR) n base (by omega) hbl;rw [AA] at zf;obtain ⟨xw,⟨xh,xp⟩⟩:=x;refine iX (dNms_get hx) ?_;refine ay 2 1 IK rfl rfl rfl aO aO zf (fun r os' tk' hΦ h1 h2=>?_);obtain ⟨rfl,rfl,rfl⟩:=hΦ;refine ⟨G1 ⟨ae,order,types,.mk rh rp⟩ iP (fq X.af (cd X.af X.az) X.rows X.js) m (loopF ⟨ae,order,types,.mk rh rp⟩).1 (loopF ⟨ae,order,types,.mk rh rp⟩).2 (n + (ndsT (fL ⟨ae,order,types,.mk rh rp⟩) ⟨ae,order,types,.mk rh rp⟩ (.mk xh xp) n).length) (base ++ (bG (ndsT (fL ⟨ae,order,types,.mk rh rp⟩) ⟨ae,order,types,.mk rh rp⟩ (.mk xh xp) n)).flatten) (e + 1),(ep 5 (ve (aT ap (by omega))) (c8 (aT ap (by omega)))),types.length - (e + 1),by omega,e + 1,_,_,N ++ ndsT (fL ⟨ae,order,types,.mk rh rp⟩) ⟨ae,order,types,.mk rh rp⟩ (.mk xh xp) n,rfl,by omega,by rw [List.length_append,hn],by rw [LG];simp [bG],?_,rfl⟩;rw [List.append_assoc,fi];exact QV
 have hge:e=types.length:=sW hN hL;subst hge;rw [List.drop_length,ndsAll,List.append_nil] at QV;rw [List.drop_length,ndsAll,List.length_nil,Nat.add_zero] at zK;have Se:=jh X hX iP m hT Jx (.mk rh rp) (by omega) UX n base (by omega) hbl;rw [AA] at Se;intro E a w hr;have kU:=kg hr;obtain ⟨b0,ty0,EZ,gk,hw0,Ii⟩:=kU.env.dn 0 _ rfl;obtain ⟨b1,ty1,arr1,lp,zS,NJ⟩:=kU.env.dn 1 _ rfl;obtain ⟨v13,UY,hp13⟩:=RvL.get (i:=13) (d:=.loc 1 0) Ii.1 rfl;have QW:v13 = .pointer (some ⟨b1,0,none⟩):=by grind [Rv]
 subst QW
 have mI:w.drew.cell? ⟨b0,13,none⟩=some (.pointer (some ⟨b1,0,none⟩)):=by
  rw [bX hw0];simpa using UY
 have L5:=I0 kU.env [0,1,2,3];generalize wF:maskL [0,1,2,3] 0 _=UZ at L5;have U0:∀ (i:Nat) cs,UZ[i]? = some cs->cs ≠ []->2<=i:=fun i cs hi bi=>by grind [maskL]
 refine iI (C:=fun w'=>CC E UZ w.drew w' /\ w'.cell? ⟨b0,13,none⟩=some (.pointer (some ⟨b1,0,none⟩))) (W:=fun i=>Nat.beq i 10) (Q:=fun a w=>kq _ _ .normal a w) mo (by decide +kernel) (fun _ _ h=>h) ⟨⟨fun _ _ _ _ _ _=>rfl,kU.env.sub⟩,mI⟩ ?_;show Go.Proofs.YtfdedoiiahbnnaaGreat.Dv.runT _ _ _ _ _ [0,1,2,3,4,5,6,7,8,9,10] _ _;refine jN kU rfl rfl rfl rfl rfl rfl (fun a0 h0=>?_);refine jN h0 rfl rfl rfl rfl rfl rfl (fun a1 h1=>?_);refine jN h1 rfl rfl rfl rfl rfl rfl (fun a2 h2=>?_);refine I2 h2 rfl lp rfl rfl gk rfl rfl (fun w' h=>h.2) ⟨⟨fun _ _ _ _ _ _=>rfl,kU.env.sub⟩,mI⟩ rfl rfl (fun a3 h3=>?_);refine jN h3 rfl rfl rfl rfl rfl rfl (fun a4 h4=>?_);refine jN h4 rfl rfl rfl rfl rfl rfl (fun a5 h5=>?_);refine I1 h5 rfl (bx:=UZ) (IZ h5 L5 (fun w' h=>h.1)) ⟨⟨fun _ _ _ _ _ _=>rfl,kU.env.sub⟩,mI⟩ rfl rfl (by rw [<- wF];rfl) rfl (fun a6 h6=>?_);refine I3 h6 rfl rfl rfl rfl rfl rfl IK 2 1 rfl rfl aO aO Se rfl rfl ?_;intro v r os' tk' E' w' hΦ _ _ bD KI hx hβ hh;obtain ⟨rfl,rfl,rfl⟩:=hΦ;refine ⟨fun _ hC=>⟨⟨fun i b cs hb cm bi=>?_,fun x v Sy=>bD.env.sub x v (hx.c x v Sy)⟩,?_⟩,?_⟩
 ·exact hh i b (U0 i cs cm bi) hb
 ·obtain ⟨b0',ty0',WS,M0,U1,U2⟩:=bD.env.dn 0 _ rfl;rw [hβ,gk] at M0;simp only [oI] at M0;subst M0;obtain ⟨u13,U3,QX⟩:=RvL.get (i:=13) (d:=.loc 1 0) U2.1 rfl;unfold Rv at QX;obtain ⟨b,hb,rfl⟩:=QX;rw [hβ,lp] at hb;simp only [oI] at hb;subst hb;rw [bX U1];simpa using U3
 have h7:=bl (dst:=some 77) bD rfl _ v KI;have U4:(oG ⟨ae,order,types,.mk rh rp⟩).length=n:=by rw [<- QV,hn]
 have nX:base ++ (bG (ndsT (fL ⟨ae,order,types,.mk rh rp⟩) ⟨ae,order,types,.mk rh rp⟩ (.mk rh rp) n)).flatten=(bG (aE ⟨ae,order,types,.mk rh rp⟩)).flatten:=by grind [aE,bG]
 have QY:(bG (aE ⟨ae,order,types,.mk rh rp⟩)).length=n + (ndsT (fL ⟨ae,order,types,.mk rh rp⟩) ⟨ae,order,types,.mk rh rp⟩ (.mk rh rp) n).length:=by
  unfold aE;rw [U4];simp [bG,U4]
 obtain ⟨E3,h8⟩:=I4 h7 1 1 0 (ns:=bG (aE ⟨ae,order,types,.mk rh rp⟩)) (congrArg (fun b=>some (Ax (n + (ndsT (fL ⟨ae,order,types,.mk rh rp⟩) ⟨ae,order,types,.mk rh rp⟩ (.mk rh rp) n).length) b)) nX) (fun x hx=>by
  simp only [bG,List.mem_map] at hx;obtain ⟨y,_,rfl⟩:=hx
  rfl) QY rfl rfl List.length_replicate
 refine jN h8 rfl rfl rfl rfl rfl rfl (fun a8 h9=>?_);refine jN h9 rfl rfl rfl rfl rfl rfl (fun a9 tv=>?_);refine De tv rfl rfl rfl rfl rfl rfl ?_;refine ⟨.bS [.pt [X.pd,.sl 7 (bG (aE ⟨ae,order,types,.mk rh rp⟩)) none,.v (.int .i64 (l9 ⟨ae,order,types,.mk rh rp⟩ (.mk rh rp) n)),.pt (cd (tL ⟨ae,order,types,.mk rh rp⟩) iP) 0,.sl 1 (dInts (namedL ⟨ae,order,types,.mk rh rp⟩)) none] 0,Ft.d (0,0)],ax,Jw (os:=[]) (tk:=[]) hF0 ⟨az,iP,js,by rw [SK];exact hX,hT,iY,?_⟩⟩;rw [K6,SK,fQ,U4]
theorem Jz (es:List (List DV)) (hl:es.length<=1099511627776):Ev prog 98 [.sl 1 es none] [] [] (fun r _ _=>r = .sl 1 es none∨(es=[]/\r = .v (.slice none 0 0))):=by
 refine eG 8 [.tmp 2] func98 rfl ntmps98 rfl fun _ _ _ _=>?_;refine Gj ⟨_,rfl⟩ rfl rfl rfl rfl (fun b hb=>?_);refine br ?_ ?_<;>intro h
 ·have h:b=true:=h;have he:es=[]:=Classical.byContradiction fun hn=>by rw [hb hn] at h;cases h
  subst he;exact Or.inr ⟨rfl,rfl⟩
 ·refine xX rfl rfl rfl rfl (hk:=?_);refine ⟨rfl,⟨by simp [maxLen];omega,by simp;omega⟩,?_⟩;exact ⟨_,ax,Or.inl rfl⟩
theorem JA (es:List (List DV)) (hl:es.length<=1099511627776):Ev prog 99 [.sl 10 es none] [] [] (fun r _ _=>r = .sl 10 es none∨(es=[]/\r = .v (.slice none 0 0))):=by
 refine eG 8 [.tmp 2] func99 rfl ntmps99 rfl fun _ _ _ _=>?_;refine Gj ⟨_,rfl⟩ rfl rfl rfl rfl (fun b hb=>?_);refine br ?_ ?_<;>intro h
 ·have h:b=true:=h;have he:es=[]:=Classical.byContradiction fun hn=>by rw [hb hn] at h;cases h
  subst he;exact Or.inr ⟨rfl,rfl⟩
 ·refine xX rfl rfl rfl rfl (hk:=?_);refine ⟨rfl,⟨by simp [maxLen];omega,by simp;omega⟩,?_⟩;exact ⟨_,ax,Or.inl rfl⟩
def QZ (lc:List DV) (uy:List Nd) (root:Int) (L:List ByteArray) (az:List Nat) (named:List Nat):DV:=.pt [.pt lc 0,.sl 7 (bG uy) none,.v (.int .i64 root),.pt (cd L az) 0,.sl 1 (dInts named) none] 0
theorem ff (l:List Nd):(bG l).length=l.length:=by simp [bG]
theorem ir {l:List Nd} {i:Nat} {n:Nd} (h:l[i]? = some n):(bG l)[i]? = some (zg n):=by simp [bG,h]
section
variable (lc:List DV) (uy:List Nd) (root:Int) (L:List ByteArray) (az:List Nat) (named:List Nat)
theorem oH:aV prog 22 [QZ lc uy root L az named] (.v (.int .i64 uy.length)):=by
 refine eG 10 [.tmp 2] func22 rfl ntmps22 rfl fun _ _ _ _=>?_;refine (qN ?_:);rw [ff]
theorem AB:aV prog 23 [QZ lc uy root L az named] (.v (.int .i64 root)):=by
 refine eG 9 [.tmp 2] func23 rfl ntmps23 rfl fun _ _ _ _=>?_;exact (rfl:_=_)
theorem DJ:aV prog 45 [QZ lc uy root L az named] (.pt lc 0):=by
 refine eG 9 [.tmp 2] func45 rfl ntmps45 rfl fun _ _ _ _=>?_;exact ⟨_,ax,rfl⟩
theorem AD (i:Nat) (n:Nd) (h:uy[i]? = some n) (hn:n.af.length<=1099511627776) (he:n.bh.length<=1099511627776) :
  aV prog 38 [QZ lc uy root L az named,.v (.int .i64 i)] (.bS [.agg (zg n),.v (.bool true)]):=by
 have ap:=(gS h).1;have hlen:=oH lc uy root L az named;have NJ:=Jz (dB n.af) (by rw [bP];exact hn);have mC:=JA (iy n.bh) (by rw [de];exact he);refine eG 32 [.cell 4 82,.tmp 5] func38 rfl ntmps38 rfl fun _ _ _ _=>?_;refine cP IF hlen ?_;refine br ?_ ?_<;>intro g
 ·exfalso;simp [pickB] at g;omega
 refine iX (ir h) ?_;refine dS ?_;refine mQ T1 rfl NJ ax (fun r1 hr1=>?_);rcases hr1 with rfl | ⟨h1,rfl⟩
 ·refine mQ O2 rfl mC ax (fun r2 lu=>?_);rcases lu with rfl | ⟨h2,rfl⟩
  ·exact ⟨.bS [.agg (zg n),.v (.bool true)],ax,rfl⟩
  ·exact ⟨.bS [.agg (zg n),.v (.bool true)],(by repeat' (first | exact rfl | exact trivial | exact Or.inr (Or.inl ⟨_,rfl⟩) | exact Or.inr ⟨_,rfl⟩ | exact Or.inl ⟨rfl,rfl⟩ | exact Or.inl rfl | refine Or.inr ⟨_,_,rfl,Nat.zero_le _,rfl,?_⟩ | refine ⟨_,_,rfl,?_,?_⟩ | refine ⟨_,rfl,?_⟩ | exact Or.inl ⟨h2,rfl⟩ | refine Or.inr (Or.inr (Or.inr ⟨_,_,rfl,?_⟩)) | exact Or.inl rfl | refine Or.inr ?_)),rfl⟩
 ·refine mQ O2 rfl mC ax (fun r2 lu=>?_);rcases lu with rfl | ⟨h2,rfl⟩
  ·exact ⟨.bS [.agg (zg n),.v (.bool true)],(by repeat' (first | exact rfl | exact trivial | exact Or.inr (Or.inl ⟨_,rfl⟩) | exact Or.inr ⟨_,rfl⟩ | exact Or.inl ⟨rfl,rfl⟩ | exact Or.inl rfl | refine Or.inr ⟨_,_,rfl,Nat.zero_le _,rfl,?_⟩ | refine ⟨_,_,rfl,?_,?_⟩ | refine ⟨_,rfl,?_⟩ | exact Or.inl ⟨h1,rfl⟩ | refine Or.inr (Or.inr (Or.inr ⟨_,_,rfl,?_⟩)) | exact Or.inl rfl | refine Or.inr ?_)),rfl⟩
  ·exact ⟨.bS [.agg (zg n),.v (.bool true)],(by repeat' (first | exact rfl | exact trivial | exact Or.inr (Or.inl ⟨_,rfl⟩) | exact Or.inr ⟨_,rfl⟩ | exact Or.inl ⟨rfl,rfl⟩ | exact Or.inl rfl | refine Or.inr ⟨_,_,rfl,Nat.zero_le _,rfl,?_⟩ | refine ⟨_,_,rfl,?_,?_⟩ | refine ⟨_,rfl,?_⟩ | exact Or.inl ⟨h1,rfl⟩ | exact Or.inl ⟨h2,rfl⟩ | refine Or.inr (Or.inr (Or.inr ⟨_,_,rfl,?_⟩)) | exact Or.inl rfl | refine Or.inr ?_)),rfl⟩
theorem AE (i:Int) (h:i < 0∨uy.length<=i) :
  aV prog 38 [QZ lc uy root L az named,.v (.int .i64 i)] (.bS [.agg [.v (.int .i64 0),.v (.int .i64 0),.v (.int .i64 0),.v (.int .i64 0),.v (.int .i64 0),.v (.slice none 0 0),.v (.slice none 0 0)],.v (.bool false)]):=by
 have hlen:=oH lc uy root L az named;refine eG 32 [.cell 4 82,.tmp 5] func38 rfl ntmps38 rfl fun _ _ _ _=>?_;refine br ?_ ?_<;>intro g
 ·refine cP IF hlen ?_;refine br ?_ ?_<;>intro g2
  ·exact ⟨_,ax,rfl⟩
  ·exfalso;simp at g;simp [pickB,g] at g2;omega
 ·exact ⟨_,ax,rfl⟩
end
abbrev qd (s:Sch) (n d k q:Int) (e:Nat):St:=
 ⟨[aF 1 0,aq 3 n,aq 4 d,aq 5 e],[cM s],[]⟩
theorem vR (s:Sch) (bI:s.wt<=1099511627776):Ev prog 14 [.agg (cM s)] [] [] (fun d _ _=>∃ b:Bool,d = .v (.bool b)):=by
 have h1:=bd s.ae;have h2:=fG s.order;have h3:=gQ s.types;simp only [Sch.wt] at bI;have pk:=iD s.root.wt s.root (zLeR _) (by omega);obtain ⟨ae,order,types,⟨h,ps⟩⟩:=s;simp only at h1 h2 h3 bI pk;refine eG 60 [.tmp 2] func14 rfl ntmps14 rfl fun _ _ _ _=>?_;refine br ?_ ?_<;>intro _
 ·exact ⟨true,rfl⟩
 refine cP IG pk ?_;refine aW (fun j st=>∃ (e:Nat) (n d:Int),st=qd ⟨ae,order,types,.mk h ps⟩ n d 0 0 e/\e<=types.length/\j=types.length - e) types.length (qd ⟨ae,order,types,.mk h ps⟩ (Ty.mk h ps).cnt (Ty.mk h ps).deep 0 0 0) (bc wB) ⟨0,_,_,rfl,by omega,by omega⟩ ?_;rintro j st ⟨e,n,d,rfl,he,rfl⟩;refine br ?_ ?_<;>intro hL
 ·have ap:e < types.length:=by have:=hL;simp [cO] at this;exact this
  obtain ⟨w,hw⟩:=gX ap;have C0:=eN (mG hw);have hs:=iD w.2.wt w.2 (zLeR _) (by omega);obtain ⟨w,u,us⟩:=w;simp only at hs;refine iX (dNms_get hw) ?_;refine cP IG hs ?_;refine br ?_ ?_<;>intro _
  ·exact ⟨qd ⟨ae,order,types,.mk h ps⟩ _ _ 0 0 (e + 1),(bc (c8 (aT ap (by omega)))),types.length - (e + 1),by omega,e + 1,_,_,rfl,by omega,rfl⟩
  ·exact ⟨qd ⟨ae,order,types,.mk h ps⟩ _ _ 0 0 (e + 1),(bc (c8 (aT ap (by omega)))),types.length - (e + 1),by omega,e + 1,_,_,rfl,by omega,rfl⟩
 exact ⟨_,rfl⟩
def samePrs:List (Wd × Wd)->List (Wd × Wd)->Bool
 | [],[]=>true
 | x :: r,y :: s=>(decide (x.1.s=y.1.s) && decide (x.2.s=y.2.s)) && samePrs r s
 | _,_=>false
def sameNms:List (Wd × Ty)->List (Wd × Ty)->Bool
 | [],[]=>true
 | x :: r,y :: s=>(decide (x.1.s=y.1.s) && sameTy x.2 y.2) && sameNms r s
 | _,_=>false
def BJ (a b:Sch):Bool:=sameWds a.ae b.ae && samePrs a.order b.order && sameTy a.root b.root && sameNms a.types b.types
theorem DK:∃ d,Op.maxDepth=d + 1 + 1 + 1:=⟨Op.maxDepth - 3,by decide⟩
theorem yp (p q r s:Int) (w:World):(Op.equal 26 (.agg #[.int .i64 p,.int .i64 q]) (.agg #[.int .i64 r,.int .i64 s])).run prog w = .ok (decide (p=r) && decide (q=s)) w:=by
 have hf:prog.underlying 26=some (.struct (prog.fieldsOf 26)):=by simp [Program.fieldsOf,Tryz.underlying26]
 have sM:(prog.fieldsOf 26).toList=[⟨ "E",24,0,false, "", "",0⟩,⟨ "At",3,1,false, "", "",8⟩]:=by simp [Program.fieldsOf,Tryz.underlying26]
 have hs:prog.stoodInHeld 26=false:=by kernel_rfl
 obtain ⟨d,hm⟩:=DK
 have q9:∀ cs:Array Value,∀ off v,cs[off]? = some v->(part 24 cs off).run prog w = .ok v w:=fun cs off v h=>by
  simp [part,Tryz.isAgg24,h]
 have q3:∀ cs:Array Value,∀ off v,cs[off]? = some v->(part 3 cs off).run prog w = .ok v w:=fun cs off v h=>by
  simp [part,Tryz.isAgg3,h]
 unfold Op.equal;rw [hm,run_equalIn_struct w (d + 1 + 1) 26 _ _ hf hs,sM];simp only [Op.eqFields,ne_eq,String.reduceEq,not_false_eq_true,if_true,Sem.run_bind,q9 #[.int .i64 p,.int .i64 q] 0 (.int .i64 p) rfl,q9 #[.int .i64 r,.int .i64 s] 0 (.int .i64 r) rfl,Result.andThen_ok,run_equalIn_int w (d + 1) 24 .i64 .i64 p r Tryz.underlying24];by_cases h:p=r
 ·subst h;have e1:=q3 #[.int .i64 p,.int .i64 q] 1 (.int .i64 q) rfl;have e2:=q3 #[.int .i64 p,.int .i64 s] 1 (.int .i64 s) rfl;have e3:=run_equalIn_int w (d + 1) 3 .i64 .i64 q s Tryz.underlying3;by_cases h2:q=s
  ·subst h2;simp [e1,e3,Sem.run_pure]
  ·simp [e1,e2,e3,h2,Sem.run_pure]
 ·simp [h,Sem.run_pure]
theorem M1 (p q r s:Int) (w:World):(binOp .eql 26 (.agg #[.int .i64 p,.int .i64 q]) (.agg #[.int .i64 r,.int .i64 s])).run prog w = .ok (.bool (decide (p=r) && decide (q=s))) w:=by
 show ((do let r <- Op.equal 26 _ _;pure (Value.bool r)):Sem Value).run prog w=_;simp only [Sem.run_bind,yp p q r s w,Result.andThen_ok,Sem.run_pure]
theorem M3 (p q r s:Int) (w:World):(binOp .neq 26 (.agg #[.int .i64 p,.int .i64 q]) (.agg #[.int .i64 r,.int .i64 s])).run prog w = .ok (.bool (!(decide (p=r) && decide (q=s)))) w:=by
 show ((do let r <- Op.equal 26 _ _;pure (Value.bool !r)):Sem Value).run prog w=_;simp only [Sem.run_bind,yp p q r s w,Result.andThen_ok,Sem.run_pure]
theorem yq (op:BinOp) (w:World) (x y:Operand) (vs vs':Array Value):(eqGuard op 26 x y (.agg vs) (.agg vs')).run prog w = .ok () w:=by
 have h:prog.eqGuardType prog.depth 26=false:=by kernel_rfl
 cases op<;>simp [eqGuard,run_program,h]
theorem G4 (x y:Operand) (f g:Ft):u1 prog .eql x y 26 [.v (.int .i64 f.1),.v (.int .i64 f.2)] [.v (.int .i64 g.1),.v (.int .i64 g.2)] (decide (f.1=g.1) && decide (f.2=g.2)):=
 ⟨[.int .i64 f.1,.int .i64 f.2],[.int .i64 g.1,.int .i64 g.2],rfl,rfl,fun w=>⟨yq _ w x y _ _,M1 f.1 f.2 g.1 g.2 w⟩⟩
theorem JB (x y:Operand) (f g:Ft):u1 prog .neq x y 26 [.v (.int .i64 f.1),.v (.int .i64 f.2)] [.v (.int .i64 g.1),.v (.int .i64 g.2)] (!(decide (f.1=g.1) && decide (f.2=g.2))):=
 ⟨[.int .i64 f.1,.int .i64 f.2],[.int .i64 g.1,.int .i64 g.2],rfl,rfl,fun w=>⟨yq _ w x y _ _,M3 f.1 f.2 g.1 g.2 w⟩⟩
end Go.Proofs.YtfdedoiiahbnnaaGreat
