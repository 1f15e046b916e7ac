/- Part 4 of the proof: The plain law of closeR: its bits are what is led to; The program's and the reference's check of names that must differ; The table's Find, whole; lattice.many, called, numbered; Rules for the evaluator: a call that is handed the caller's first objects and rows; rows whose cells nobody else knows; lattice.best, and the closures of bounds; lattice.bounds: all joins and meets; lattice.Build; Reading a lattice: Len, has, Name, Find, Join, Meet, Bottom; labels.Of; The checker's part, once check is known for lighter types; The checker's parts, once check is known for lighter types; The checker's one and check, once check is known for lighter types; so check; kinds.Count, resolve.nodes; the builder's level; The builder's end, loops, known; The builder's each, right, called; The builder's each of right; called; places; The builder's places; The builder's edge; The builder's node. No condition. -/
import Derived.Test.YtfdedoiiahbnnaaGreatNd2
import Derived.Test.YtfdedoiiahbnnaaGreatNd3
set_option linter.all false
set_option maxRecDepth 100000
namespace Go.Proofs.YtfdedoiiahbnnaaGreat
open Go Go.RowKit Dv Go.Proofs.Tryz
theorem Ah {rows:List Nat} {i x a b:Nat} (hi:i < rows.length):bp (rows.set i x) a b=if a=i then x.testBit b else bp rows a b:=by grind [bp]
theorem qR {rows:List Nat} {k a b:Nat} (hk:k < rows.length):bp (lE rows k) a b=(bp rows a b || (decide (a=k) && decide (b=k))):=by
 unfold lE;rw [Ah hk];by_cases h:a=k
 ·subst h;rw [zIfP rfl,lC];simp only [decide_true,Bool.true_and];rw [show decide (a=b)=decide (b=a) from by simp only [eq_comm]];rfl
 ·rw [af h];simp [h]
theorem Pr {rows:List Nat} {k i a b:Nat} (hi:i < rows.length):bp (rI k rows i) a b=(bp rows a b || (decide (a=i) && (bp rows a k && bp rows k b))):=by grind [rI,bp,Ah]
theorem Dd {rows:List Nat} {k:Nat} (hk:k < rows.length):∀ e,e<=rows.length->∀ a b,bp (jd rows k e) a b=(bp (lE rows k) a b || (decide (a < e) && (bp (lE rows k) a k && bp (lE rows k) k b)))
 | 0,_,a,b=>by simp [jd]
 | e + 1,he,a,b=>by
  have ih:=Dd hk e (by omega)
  grind [oA,Pr,qQ,bp,lE,qR]
inductive yD (p:Nat->Nat->Prop):Nat->Nat->Prop
 | refl (a:Nat):yD p a a
 | step {a b c:Nat}:yD p a b->p b c->yD p a c
theorem yD.trans {p:Nat->Nat->Prop} {a b c:Nat} (h1:yD p a b) (h2:yD p b c):yD p a c:=by
 induction h2 with
 | refl=>exact h1
 | step _ h ih=>exact .step ih h
theorem yD.mono {p q:Nat->Nat->Prop} (h:∀ a b,p a b->yD q a b) {a b:Nat} (h1:yD p a b):yD q a b:=by
 induction h1 with
 | refl=>exact .refl _
 | step _ h2 ih=>exact ih.trans (h _ _ h2)
def wayQ (p:Nat->Nat->Prop):Nat->Nat->Nat->Prop
 | 0,a,b=>a=b∨p a b
 | k + 1,a,b=>wayQ p k a b∨(wayQ p k a k/\wayQ p k k b)
theorem De {p:Nat->Nat->Prop} (a:Nat):∀ k,wayQ p k a a
 | 0=>.inl rfl
 | k + 1=>.inl (De a k)
theorem Df {p:Nat->Nat->Prop} {a b:Nat} (h:p a b):∀ k,wayQ p k a b
 | 0=>.inr h
 | k + 1=>.inl (Df h k)
theorem uc {p:Nat->Nat->Prop}:∀ k a b,wayQ p k a b->yD p a b
 | 0,a,b,h=>by
  rcases h with rfl | h
  ·exact .refl _
  ·exact .step (.refl _) h
 | k + 1,a,b,h=>by
  rcases h with h | ⟨h1,h2⟩
  ·exact uc k a b h
  ·exact (uc k a k h1).trans (uc k k b h2)
theorem oB {p:Nat->Nat->Prop}:∀ k a m b,m < k->wayQ p k a m->wayQ p k m b->wayQ p k a b
 | 0,_,_,_,h,_,_=>by omega
 | k + 1,a,m,b,hm,h1,h2=>by
  by_cases hmk:m=k
  ·grind [wayQ]
  ·have nY:m < k:=by omega
   rcases h1 with h1 | ⟨h1,h3⟩
   ·rcases h2 with h2 | ⟨h2,h4⟩
    ·exact .inl (oB k a m b nY h1 h2)
    ·exact .inr ⟨oB k a m k nY h1 h2,h4⟩
   ·rcases h2 with h2 | ⟨h2,h4⟩
    ·exact .inr ⟨h1,oB k k m b nY h3 h2⟩
    ·exact .inr ⟨h1,h4⟩
theorem Ai {rows:List Nat}:∀ k,k<=rows.length->∀ a b,a < rows.length->((bp (closeR rows k) a b=true∨a=b)↔wayQ (fun x y=>bp rows x y=true) k a b)/\(a < k->bp (closeR rows k) a a=true)
 | 0,_,a,b,_=>by grind [closeR,wayQ]
 | k + 1,hk,a,b,ha=>by
  have ih:=Ai (rows:=rows) k (by omega);have BO:k < (closeR rows k).length:=by rw [gB];omega
  have hb:∀ a b,a < rows.length->bp (closeR rows (k + 1)) a b=(bp (lE (closeR rows k) k) a b || (bp (lE (closeR rows k) k) a k && bp (lE (closeR rows k) k) k b)):=fun a b ha=>by grind [mj,Dd,gB]
  have Zk:∀ a b,(bp (lE (closeR rows k) k) a b=true∨a=b)↔(bp (closeR rows k) a b=true∨a=b):=fun a b=>by grind [qR]
  have BN:bp (lE (closeR rows k) k) k k=true:=by rw [qR BO];simp
  have key:∀ a b,a < rows.length->((bp (closeR rows (k + 1)) a b=true∨a=b)↔wayQ (fun x y=>bp rows x y=true) (k + 1) a b):=fun a b ha=>by grind [wayQ]
  refine ⟨key a b ha,fun hak=>?_⟩;rw [hb a a ha];by_cases h:a=k
  ·subst h;rw [BN];all_goals rfl
  ·have:=(ih a a ha).2 (by omega);rw [qR BO,this];all_goals rfl
theorem KF {rows:List Nat} (hb:∀ a b,a < rows.length->bp rows a b=true->b < rows.length) {a b:Nat} (ha:a < rows.length) (hbl:b < rows.length):bp (closeR rows rows.length) a b=true↔yD (fun x y=>x < rows.length/\bp rows x y=true) a b:=by
 have hw:=Ai (rows:=rows) rows.length (zLeR _) a b ha;have h1:bp (closeR rows rows.length) a b=true↔wayQ (fun x y=>bp rows x y=true) rows.length a b:=by grind
 rw [h1];constructor
 ·intro h
  have az:∀ {x},yD (fun x y=>bp rows x y=true) a x->yD (fun x y=>x < rows.length/\bp rows x y=true) a x/\x < rows.length:=by
   intro x hx
   induction hx with
   | refl=>exact ⟨.refl _,ha⟩
   | step _ h2 ih=>exact ⟨.step ih.1 ⟨ih.2,h2⟩,hb _ _ ih.2 h2⟩
  exact (az (uc _ _ _ h)).1
 ·intro h
  have:wayQ (fun x y=>bp rows x y=true) rows.length a b/\b < rows.length:=by
   clear h1 hw hbl
   induction h with
   | refl=>exact ⟨De _ _,ha⟩
   | step _ h2 ih=>exact ⟨oB _ _ _ _ ih.2 ih.1 (Df h2.2 _),hb _ _ h2.1 h2.2⟩
  exact this.1
theorem Tb {rows:List Nat} {p:Nat × Nat} {a b:Nat} (hp:p.1 < rows.length):bp (Ad rows p) a b=(bp rows a b || (decide (a=p.1) && decide (b=p.2))):=by
 unfold Ad;rw [Ah hp];by_cases h:a=p.1
 ·subst h;rw [zIfP rfl,lC];simp only [decide_true,Bool.true_and];rw [show decide (p.2=b)=decide (b=p.2) from by simp only [eq_comm]];rfl
 ·rw [af h];simp [h]
theorem Dg:∀ (l:List (Nat × Nat)) (rows:List Nat) (a b:Nat),(∀ p∈l,p.1 < rows.length)->(bp (l.foldl Ad rows) a b=true↔bp rows a b=true∨(a,b)∈l)
 | [],_,_,_,_=>by simp
 | p :: l,rows,a,b,h=>by
  rw [List.foldl_cons,Dg l _ a b (fun q hq=>by rw [tY];exact h q (by simp [hq])),Tb (h p (by simp))]
  grind
theorem Aj {n:Nat} {l:List (Nat × Nat)} (h:∀ p∈l,p.1 < n) (a b:Nat):bp (gA n l) a b=true↔(a,b)∈l:=by grind [gA,Dg,bp]
def fC (n:Nat) (l:List (Nat × Nat)) (a b:Nat):Bool:=bp (closeR (gA n l) n) a b
def vT (n:Nat) (l:List (Nat × Nat)):Prop:=∀ p∈l,p.1 < n/\p.2 < n
theorem pU {n:Nat} {l:List (Nat × Nat)} (h:vT n l) {a b:Nat} (ha:a < n) (hb:b < n):fC n l a b=true↔yD (fun x y=>(x,y)∈l) a b:=by
 have hlen:(gA n l).length=n:=lD n l;unfold fC
 have:=KF (rows:=gA n l) (fun a b _ S0=>by
  rw [Aj (fun p hp=>(h p hp).1)] at S0
  rw [hlen];exact (h _ S0).2) (a:=a) (b:=b) (by omega) (by omega)
 rw [hlen] at this;rw [this];constructor
 ·exact yD.mono fun x y ML=>.step (.refl _) ((Aj (fun p hp=>(h p hp).1) x y).1 ML.2)
 ·exact yD.mono fun x y ML=>.step (.refl _) ⟨(h _ ML).1,(Aj (fun p hp=>(h p hp).1) x y).2 ML⟩
theorem vU {n:Nat} {l:List (Nat × Nat)} (h:vT n l) {a:Nat} (ha:a < n):fC n l a a=true:=(pU h ha ha).2 (.refl _)
theorem KG {n:Nat} {l:List (Nat × Nat)} (h:vT n l) {a b c:Nat} (ha:a < n) (hb:b < n) (hc:c < n) (h1:fC n l a b=true) (h2:fC n l b c=true):fC n l a c=true:=
 (pU h ha hc).2 (((pU h ha hb).1 h1).trans ((pU h hb hc).1 h2))
def mn (n:Nat) (f:Nat->Nat->Bool) (a:Nat):Bool:=(List.range n).any fun b=>decide (a≠b) && (f a b && f b a)
theorem Tc {n:Nat} {l:List (Nat × Nat)} (hn:n<=64) (h:vT n l) {a:Nat} (ha:a < n):tZ (closeR (gA n l) n) a=mn n (fC n l) a:=by
 have hlen:(closeR (gA n l) n).length=n:=by rw [gB,lD]
 unfold tZ mn;rw [S7,hlen,Bool.eq_iff_iff,decide_eq_true_eq]
 have haa:(backN (closeR (gA n l) n) a n).testBit a=true:=by
  rw [vR];have:bp (closeR (gA n l) n) a a=true:=vU h ha;simp [ha,this]
 rw [HN _ a haa 64 (by omega)];simp only [List.any_eq_true,List.mem_range,bh,decide_eq_true_eq,vR];constructor
 ·rintro ⟨b,_,bF,hb,h1,h2⟩;exact ⟨b,hb,fun e=>bF e.symm,h1,h2⟩
 ·rintro ⟨b,hb,bF,h1,h2⟩;exact ⟨b,by omega,fun e=>bF e.symm,hb,h1,h2⟩
theorem Fw {p q:Nat->Bool} {n:Nat} (h:∀ a,a < n->p a=q a):cA p n=cA q n:=by
 unfold cA
 have:∀ (l:List Nat),(∀ a∈l,p a=q a)->l.find? p=l.find? q:=by
  intro l
  induction l with
  | nil=>intro _;rfl
  | cons x r ih=>grind
 grind
theorem WN {n:Nat} {l:List (Nat × Nat)} (hn:n<=64) (h:vT n l):cA (tZ (closeR (gA n l) n)) n=cA (mn n (fC n l)) n:=
 Fw fun _ ha=>Tc hn h ha
def je (r:List Bool) (p:Nat × Nat):List Bool:=if r.getD p.1 false then r.set p.2 true else r
def jQ (l:List (Nat × Nat)) (r:List Bool):List Bool:=l.foldl je r
def dy (l:List (Nat × Nat)) (r:List Bool) (k:Nat):List Bool:=(List.range k).foldl (fun r _=>jQ l r) r
def yi (n:Nat) (l:List (Nat × Nat)) (a:Nat):List Bool:=dy l ((List.replicate n false).set a true) n
theorem fD (l:List (Nat × Nat)) (r:List Bool) (k:Nat):dy l r (k + 1)=jQ l (dy l r k):=by simp [dy,List.range_succ]
theorem nA (r:List Bool) (p:Nat × Nat):(je r p).length=r.length:=by unfold je;split<;>simp
theorem sv (l:List (Nat × Nat)):∀ r,(jQ l r).length=r.length:=by
 induction l with
 | nil=>intro r;rfl
 | cons p l ih=>intro r;simp only [jQ,List.foldl_cons] at ih ⊢;rw [ih,nA]
theorem gD (l:List (Nat × Nat)) (r:List Bool):∀ k,(dy l r k).length=r.length
 | 0=>by simp [dy]
 | k + 1=>by rw [fD,sv,gD]
theorem ue (n:Nat) (l:List (Nat × Nat)) (a:Nat):(yi n l a).length=n:=by simp [yi,gD]
def VD (r s:List Bool):Prop:=∀ i:Nat,r.getD i false=true->s.getD i false=true
theorem lF {r:List Bool} {i j:Nat} (hi:i < r.length):(r.set i true).getD j false=(decide (j=i) || r.getD j false):=by grind
theorem HP {r:List Bool} {p:Nat × Nat} (hp:p.2 < r.length):VD r (je r p):=by
 intro i hi
 grind [je,lF]
theorem qS:∀ {l:List (Nat × Nat)} {r:List Bool},(∀ p∈l,p.2 < r.length)->VD r (jQ l r)
 | [],r,_,i,hi=>hi
 | p :: l,r,h,i,hi=>by
  have:VD (je r p) (jQ l (je r p)):=qS fun q hq=>by rw [nA];exact h q (by simp [hq])
  exact this i (HP (h p (by simp)) i hi)
def yj (r:List Bool):Nat:=r.countP (fun x=>x)
theorem cntB_le (r:List Bool):yj r<=r.length:=List.countP_le_length
theorem leB_eq:∀ {r s:List Bool},r.length=s.length->VD r s->(r=s∨yj r < yj s)/\yj r<=yj s
 | [],[],_,_=>⟨.inl rfl,zLeR _⟩
 | x :: r,y :: s,hl,h=>by
  have B6:r.length=s.length:=sU hl;have ih:=leB_eq B6 (fun i hi=>by simpa using h (i + 1) (sU hi));have h0:x=true->y=true:=fun hx=>by simpa using h 0 (sU hx)
  grind [yj]
 | [],_ :: _,h,_=>by simp at h
 | _ :: _,[],h,_=>by simp at h
theorem HQ {r s:List Bool} (hl:r.length=s.length) (h1:VD r s) (h2:VD s r):r=s:=by
 rcases (leB_eq hl h1).1 with h | h
 ·exact h
 ·have:=(leB_eq hl.symm h2).2;omega
theorem Ak:∀ {l:List (Nat × Nat)} {r:List Bool},(∀ p∈l,p.2 < r.length)->jQ l r=r->∀ p∈l,r.getD p.1 false=true->r.getD p.2 false=true
 | [],_,_,_,p,hp,_=>by cases hp
 | q :: l,r,h,he,p,hp,h1=>by
  have hq:=h q (by simp);have hl:∀ p∈l,p.2 < (je r q).length:=fun p hp=>by rw [nA];exact h p (by simp [hp])
  have hs:je r q=r:=by
   have h2:VD (je r q) r:=by
    have:=qS hl
    grind [jQ,je]
   grind [HQ,nA,HP]
  rcases eU hp with rfl | hp
  ·grind [je,lF]
  ·have V9:jQ l r=r:=by grind [jQ,je]
   exact Ak (fun p hp=>h p (by simp [hp])) V9 p hp h1
theorem xH {l:List (Nat × Nat)} {r:List Bool} (h:∀ p∈l,p.2 < r.length):∀ k,jQ l (dy l r k)=dy l r k∨yj r + k<=yj (dy l r k)
 | 0=>.inr (by simp [dy])
 | k + 1=>by
  have hk:∀ p∈l,p.2 < (dy l r k).length:=fun p hp=>by rw [gD];exact h p hp
  rcases xH h k with h1 | h1
  ·left;rw [fD,h1,h1]
  ·rcases (leB_eq (sv l _).symm (qS hk)).1 with h2 | h2
   ·left;rw [fD,<- h2,<- h2]
   ·right;rw [fD];omega
theorem Ps {l:List (Nat × Nat)} {a:Nat} {r:List Bool} {p:Nat × Nat} (hp:p∈l) (hl:p.2 < r.length) (h:∀ i,r.getD i false=true->yD (fun x y=>(x,y)∈l) a i):∀ i,(je r p).getD i false=true->yD (fun x y=>(x,y)∈l) a i:=by
 intro i hi;unfold je at hi;split at hi
 ·rename_i h1;rw [lF hl] at hi;simp only [Bool.or_eq_true,decide_eq_true_eq] at hi;rcases hi with rfl | hi
  ·exact .step (h _ h1) hp
  ·exact h i hi
 ·exact h i hi
theorem Al {l:List (Nat × Nat)} {a:Nat}:∀ (m:List (Nat × Nat)) {r:List Bool},(∀ p∈m,p∈l/\p.2 < r.length)->(∀ i,r.getD i false=true->yD (fun x y=>(x,y)∈l) a i)->∀ i,(jQ m r).getD i false=true->yD (fun x y=>(x,y)∈l) a i
 | [],_,_,h=>h
 | p :: m,r,hm,h=>Al m (r:=je r p) (fun q hq=>by rw [nA];exact hm q (by simp [hq])) (Ps (hm p (by simp)).1 (hm p (by simp)).2 h)
theorem xI {l:List (Nat × Nat)} {a:Nat} {r:List Bool} (hl:∀ p∈l,p.2 < r.length) (h:∀ i,r.getD i false=true->yD (fun x y=>(x,y)∈l) a i):∀ k i,(dy l r k).getD i false=true->yD (fun x y=>(x,y)∈l) a i
 | 0=>by simpa [dy] using h
 | k + 1=>by
  rw [fD];exact Al l (fun p hp=>⟨hp,by rw [gD];exact hl p hp⟩) (xI hl h k)
theorem Am {l:List (Nat × Nat)} {r:List Bool} (hl:∀ p∈l,p.2 < r.length):∀ k,VD r (dy l r k)
 | 0=>by intro i hi;simpa [dy] using hi
 | k + 1=>fun i hi=>by
  rw [fD];exact qS (fun p hp=>by rw [gD];exact hl p hp) i (Am hl k i hi)
theorem Td {n a:Nat} (ha:a < n):1<=yj ((List.replicate n false).set a true):=by grind [yj]
theorem Te {n:Nat} {l:List (Nat × Nat)} (h:vT n l) {a b:Nat} (ha:a < n) (hb:b < n):(yi n l a).getD b false=fC n l a b:=by
 have hl:∀ p∈l,p.2 < ((List.replicate n false).set a true).length:=fun p hp=>by simp;exact (h p hp).2
 have B8:a < (List.replicate n false).length:=by simp [ha]
 rw [Bool.eq_iff_iff,pU h ha hb];constructor
 ·refine xI hl (fun i hi=>?_) n b;rw [lF B8] at hi;simp only [Bool.or_eq_true,decide_eq_true_eq] at hi;rcases hi with rfl | hi
  ·exact .refl _
  all_goals grind
 ·have hfix:jQ l (yi n l a)=yi n l a:=by
   rcases xH hl n with h1 | h1
   ·exact h1
   ·grind [cntB_le,dy,gD,Td]
  have fX:=Ak (fun p hp=>by rw [ue];exact (h p hp).2) hfix;intro hr;have haa:(yi n l a).getD a false=true:=Am hl n a (by rw [lF B8];simp);clear hb
  induction hr with
  | refl=>exact haa
  | step _ h2 ih=>exact fX _ h2 ih
def eS (n:Nat) (f:Nat->Nat->Bool):List (List Bool):=(List.range n).map fun a=>(List.range n).map (f a)
theorem WO {n:Nat} {l:List (Nat × Nat)} (h:vT n l) {a:Nat} (ha:a < n):yi n l a=(List.range n).map (fC n l a):=by
 refine List.ext_getElem? fun i=>?_;by_cases hi:i < n
 ·have:=Te h ha hi
  grind [ue]
 ·grind [ue]
theorem HS {n:Nat} {f:Nat->Nat->Bool} {a:Nat} (ha:a < n):(eS n f)[a]? = some ((List.range n).map (f a)):=by
 simp [eS,List.getElem?_range ha]
theorem Pt {l:List Wd} {i:Nat} {x:Wd} (h:l[i]? = some x):aF (l.take (i + 1))=aF (l.take i) ++ [x.s]:=by
 rw [List.take_add_one,h];simp [aF]
theorem WQ (l:List Wd) (s:ByteArray):c8 l s=true↔s∈aF l:=by grind [c8,aF]
theorem oC {l:List Wd} {i:Nat} {x:Wd} (h:l[i]? = some x) (hn:(aF (l.take i)).Nodup):(aF (l.take (i + 1))).Nodup↔c8 (l.take i) x.s=false:=by grind [Pt,c8,WQ]
theorem Dh {l:List Wd} {i:Nat} {x:Wd} (a:Int) (h:l[i]? = some x) (hn:(aF (l.take i)).Nodup) :
  iY (aF (l.take (i + 1))) x.s a=if aK l i x≠0 then (aK l i x,a) else (0,0):=by
 have hs:=oC h hn;unfold iY aK;by_cases h1:bM x.s=true
 ·grind
 ·rw [af h1,af h1];all_goals rfl
theorem oD {l:List Wd} {i:Nat} {x:Wd} (h:l[i]? = some x) (hn:(aF (l.take i)).Nodup) (hz:aK l i x=0):(aF (l.take (i + 1))).Nodup:=by grind [oC,aK,bM,c8]
theorem Di (l:List Wd):∀ (d e:Nat),e + d=l.length->(enumP l e)=(0,0)->(aF (l.take e)).Nodup->enumP l l.length=enumL l e (l.drop e)
 | 0,e,hd,hz,hn=>by
  have:e=l.length:=by omega
  subst this;rw [hz,List.drop_length];all_goals rfl
 | d + 1,e,hd,hz,hn=>by
  obtain ⟨x,hx⟩:∃ x,l[e]? = some x:=⟨_,gE (by omega)⟩;have h1:=zX (by rw [hz]) hx;rw [Dh x.a hx hn] at h1;rw [drop_cons hx];simp only [enumL];by_cases hf:aK l e x≠0
  ·rw [zIfP hf] at h1 ⊢;have hst:=sj (l:=l) (e:=e + 1) (by rw [h1];exact hf) d
   grind
  ·rw [af hf] at h1 ⊢;exact Di l d (e + 1) (by omega) h1 (oD hx hn (sU hf))
theorem Tf (h:Hd):pO h=jM h:=by
 unfold pO jM;by_cases h0:h.ag=[]
 ·rw [zIfP h0,zIfP (by simp [h0])]
 ·rw [af h0,af (sU h0)];by_cases h1:64 < h.ag.length
  ·rw [zIfP h1,zIfP h1]
  ·rw [af h1,af h1];have:=Di h.ag h.ag.length 0 (by omega) rfl (by simp [aF]);simpa using this
def sw (p:Ph):Ph:=⟨p.name,true,[],0,0,0,0,[]⟩
theorem WR (p:Ph) (t:Ty):dG p t (sw p) cp=(cY p km && sameTy t cp):=by grind [cY,sw,km,dG]
theorem empty_eq (p:Ph):dG p cp dP cp=(decide (p.name.s=aM) && cY p dP):=by
 have e:sameTy cp cp=true:=by simp [cp,Sf,sameTy,mD,samePts,sameWds]
 simp only [dG,e,Bool.and_true];rfl
def dC (L:List ByteArray) (s:ByteArray):Option Nat:=cA (fun i=>decide (L[i]? = some s)) L.length
theorem dX {L:List ByteArray} {s:ByteArray} {p:Nat} (h:dC L s=some p):p < L.length/\L[p]? = some s/\∀ j,L[j]? = some s->p<=j:=by
 obtain ⟨h1,h2,h3⟩:=gC h
 grind
theorem Fx {L:List ByteArray} {s:ByteArray} {p:Nat} (h1:L[p]? = some s) (h2:∀ j,L[j]? = some s->p<=j):dC L s=some p:=by
 refine dR (gS h1).1 (sU h1) fun a ha=>?_
 grind
theorem vV {L:List ByteArray} {s:ByteArray} (h:∀ j:Nat,L[j]? ≠ some s):dC L s=none:=eI fun a _=>by simpa using h a
theorem Ca {L:List ByteArray} {s:ByteArray}:dC L s=none↔s ∉ L:=by
 constructor
 ·intro h hm;obtain ⟨j,hj⟩:=List.mem_iff_getElem?.1 hm
  grind [dC,cA]
 ·grind [vV]
theorem jR (L:List ByteArray) (aN:List Nat) (s:ByteArray) (hT:jy L aN) (hl:aN.length<=1099511627776) :
  aR prog 112 [.pt (dB L aN) 0,.v (.string s)] (S8 (dC L s)):=by
 by_cases hm:s∈L
 ·obtain ⟨j,hj⟩:=List.mem_iff_getElem?.1 hm;obtain ⟨q,p,hq,hp⟩:=hT.all j s hj;rw [Fx hp fun j' ku=>hT.fst q p j' s hq hp ku];exact find_spec L aN s q p hT hl hq hp
 rw [vV fun j hj=>hm (mG hj)]
 let pr:Nat->Prop:=fun i=>i=aN.length∨∃ p t,aN[i]? = some p/\L[p]? = some t/\E8 t s=false
 obtain ⟨m,kO,GX⟩:=least (p:=pr) ⟨aN.length,.inl rfl⟩;have hmn:m<=aN.length:=GX _ (.inl rfl);refine eG 47 [.tmp 4,.tmp 5] func112 rfl ntmps112 rfl fun _ _ _ _=>?_
 have fX:∀ i:Nat,i < aN.length->aR prog 201 [.v (.int .i64 i),.pt [.pt (dB L aN) 0] 0,.pt [.v (.string s)] 0] (.v (.bool (decide (m<=i)))):=by
  intro i hi;obtain ⟨p',B0⟩:∃ p',aN[i]? = some p':=⟨_,gE hi⟩;obtain ⟨t,ht⟩:∃ t,L[p']? = some t:=⟨_,gE (hT.lt i p' B0)⟩;have:=zK L aN s i p' t B0 ht
  have e:(!E8 t s)=decide (m<=i):=by
   by_cases h:m<=i
   ·have:E8 t s=false:=by
     rcases kO with kO | ⟨p,u,h1,h2,h3⟩
     ·omega
     ·rcases Nat.lt_or_eq_of_le h with h4 | h4
      ·have h5:=hT.srt m i p p' u t h4 h1 B0 h2 ht;cases h6:E8 t s
       ·rfl
       ·grind [ie,E8]
      ·grind
    simp [this,h]
   ·grind
  rw [e] at this;exact this
 have hS:=xz 201 YL [.pt [.pt (dB L aN) 0] 0,.pt [.v (.string s)] 0] aN.length m hl hmn ax rfl fX;refine E6 YK hS (o9 (bQ aN)) rfl ?_;refine dI ?_;refine br ?_ ?_<;>intro h
 ·have az:m < aN.length:=by grind [dInts,bQ]
  rcases kO with kO | ⟨p,t,h1,h2,h3⟩
  ·omega
  refine iX (dr h1) ?_;refine iX (iV h2) ?_;refine br ?_ ?_<;>intro h4
  ·exact ⟨_,ax,rfl⟩
  ·grind [ak]
 ·exact ⟨_,ax,rfl⟩
def hU (l:List Wd) (o:List (Wd × Wd)):Ft:=
 if l=[] then (15,0)
 else if 32 < l.length then (8,((l[32]?).getD (⟨aM,0⟩:Wd)).a)
 else if 256 < o.length then (8,((o[256]?).getD ((⟨aM,0⟩,⟨aM,0⟩):Wd × Wd)).1.a)
 else (0,0)
theorem Pu (l:List Wd) (o:List (Wd × Wd)):aR prog 123 [.sl 2 (bA l) none,.sl 4 (ez o) none] (hU l o).d:=by
 refine eG 30 [.cell 4 26] func123 rfl ntmps123 rfl fun _ _ _ _=>?_;refine br ?_ ?_<;>intro h
 ·have h:l=[]:=by simpa [aD] using h
  refine ⟨_,?_,rfl⟩;rw [hU,zIfP h];exact ax
 have h:¬ l=[]:=by simpa [aD] using h
 refine br ?_ ?_<;>intro h1
 ·have h1:32 < l.length:=by simp [aD] at h1;omega
  obtain ⟨x,hx⟩:∃ x,l[32]? = some x:=⟨_,gE h1⟩;refine ⟨jK x,⟨by omega,bn hx⟩,?_⟩;refine ⟨_,?_,rfl⟩;rw [hU,af h,zIfP h1,hx];exact ax
 have h1:¬ 32 < l.length:=by simp [aD] at h1;omega
 refine br ?_ ?_<;>intro h2
 ·have h2:256 < o.length:=by simp [dn] at h2;omega
  obtain ⟨x,hx⟩:∃ x,o[256]? = some x:=⟨_,gE h2⟩;refine ⟨Nh x,⟨by omega,ja hx⟩,?_⟩;refine ⟨_,?_,rfl⟩;rw [hU,af h,af h1,zIfP h2,hx];exact ax
 have h2:¬ 256 < o.length:=by simp [dn] at h2;omega
 refine ⟨_,?_,rfl⟩;rw [hU,af h,af h1,af h2];exact ax
def afX (f:Ft) (L:List ByteArray):DV:=.bo [if f.1=0 then .sl 1 (fQ L) none else .v (.slice none 0 0),f.d]
abbrev Zl (l:List Wd) (n e:Nat):St:=
 ⟨[aJ 3 0,(4,⟨[],.sl 1 (fQ (aF (l.take e))) (some 0)⟩),bJ 7 2 (bA l),aC 8 ((bA l).length),aC 9 e],[[.v (.int .i64 0),.v (.int .i64 0)]],[⟨n,9,1,none⟩]⟩
theorem sx {all:List Wd} {e:Nat} {w:Wd} (h:all[e]? = some w):enumL all e (all.drop e)=if aK all e w≠0 then (aK all e w,w.a) else enumL all (e + 1) (all.drop (e + 1)):=by
 rw [drop_cons h,enumL]
theorem HT (l:List Wd) (hs:wdsWt l<=1099511627776):aR prog 124 [.sl 2 (bA l) none] (afX (enumL l 0 l) (aF l)):=by
 have qJ:=bW l;refine eG 36 [.tmp 2,.cell 3 26] func124 rfl ntmps124 rfl fun _ _ _ _=>?_;refine lI (fun j st=>∃ e:Nat,st=Zl l e e/\e<=l.length/\(aF (l.take e)).Nodup/\enumL l 0 l=enumL l e (l.drop e)/\j=l.length - e) ⟨0,rfl,by omega,by simp [aF],rfl,rfl⟩ (gw ⟨0,9,1,none⟩ rfl ⟨_,rfl⟩ rfl wA rfl rfl lW) ?_;rintro j st ⟨e,rfl,he,hnd,aQ,rfl⟩;rw [aQ];refine br ?_ ?_<;>intro hL
 ·have az:e < l.length:=by simpa [aD] using hL
  obtain ⟨w,hw⟩:=gX az;have VB:=jJ (mG hw);have pz:=kP hw;have hst:=sx hw;have GB:=oC hw hnd;have Tg:=si (aF (l.take (e + 1))) (by simp [aF];omega);rw [<- pz] at Tg;refine ⟨jK w,⟨by omega,bn hw⟩,?_⟩;refine ⟨by simp [cX,aF];omega,⟨by simp [cX,aF,maxLen];omega,by simp [cX,aF];omega⟩,?_⟩;refine cP Ki (iv w.s (by omega)) ?_;refine br ?_ ?_<;>intro hN
  ·have hN:bM w.s=false:=sU hN;have hf:aK l e w=9:=by simp [aK,hN]
   rw [hst,hf,zIfP (by decide)];refine dS ?_;exact ⟨_,ax,rfl⟩
  ·have hN:bM w.s=true:=sU hN;refine bZ RR rfl Tg ax (fun r hr=>?_);obtain ⟨z,rfl,hz⟩:=hr;refine br ?_ ?_<;>intro h2
   ·have h2:0<=z:=sU h2;have hd:c8 (l.take e) w.s=true:=by grind
    have hf:aK l e w=10:=by simp [aK,hN,hd]
    rw [hst,hf,zIfP (by decide)];refine dS ?_;exact ⟨_,ax,rfl⟩
   ·have h2:¬ 0<=z:=sU h2;have B7:(aF (l.take (e + 1))).Nodup:=Classical.byContradiction fun hn=>h2 (hz.2 hn);have hf:aK l e w=0:=by simp [aK,hN,GB.1 B7]
    rw [hf,af (by simp)] at hst;refine ⟨Zl l (e + 1) (e + 1),(wkM (wB2 (nxt az (by omega)) pz)),l.length - (e + 1),by omega,e + 1,rfl,by omega,B7,hst,rfl⟩
 ·have hge:e=l.length:=by
   have:=hL;simp [aD] at this;omega
  have h0:enumL l e (l.drop e)=(0,0):=by rw [hge,List.drop_length];all_goals rfl
  rw [h0];have ht:l.take e=l:=by rw [hge,List.take_length]
  rw [ht];exact ⟨_,ax,rfl⟩
def numF (L:List ByteArray):List (Wd × Wd)->Ft
 | []=>(0,0)
 | p :: r=>if dC L p.1.s=none then (17,p.1.a) else if dC L p.2.s=none then (17,p.2.a) else numF L r
def abf (L:List ByteArray) (p:Wd × Wd):Nat × Nat:=((dC L p.1.s).getD 0,(dC L p.2.s).getD 0)
def dL (L:List ByteArray) (o:List (Wd × Wd)):List (Nat × Nat):=o.map (abf L)
def afY (f:Ft) (l:List (Nat × Nat)):DV:=.bo [if f.1=0 then .sl 2 (ox l) none else .v (.slice none 0 0),f.d]
theorem Dj {L:List ByteArray} {o:List (Wd × Wd)} {e a b:Nat} {x:Wd × Wd} (h:o[e]? = some x) (ha:dC L x.1.s=some a) (hb:dC L x.2.s=some b):ox (dL L (o.take e)) ++ [[DV.v (.int .i64 (a:Int)),DV.v (.int .i64 (b:Int))]]=ox (dL L (o.take (e + 1))):=by
 rw [List.take_add_one,h];simp [ox,dL,abf,ha,hb,dNP]
abbrev Zm (L:List ByteArray) (aN:List Nat) (o:List (Wd × Wd)) (n e:Nat):St:=
 ⟨[vC 0 (dB L aN),aJ 5 0,(6,⟨[],.sl 2 (ox (dL L (o.take e))) (some 0)⟩),bJ 12 4 (ez o),aC 13 ((ez o).length),aC 14 e],[[.v (.int .i64 0),.v (.int .i64 0)]],[⟨n,285,2,none⟩]⟩
theorem Cb (L:List ByteArray) (aN:List Nat) (hT:jy L aN) (hl:aN.length<=1099511627776) (o:List (Wd × Wd)) (hs:prsWt o<=1099511627776) :
  aR prog 126 [.pt (dB L aN) 0,.sl 4 (ez o) none] (afY (numF L o) (dL L o)):=by
 have qJ:=kQ o;refine eG 55 [.tmp 4,.cell 5 26] func126 rfl ntmps126 rfl fun _ _ _ _=>?_;refine lI (fun j st=>∃ e:Nat,st=Zm L aN o e e/\e<=o.length/\numF L o=numF L (o.drop e)/\j=o.length - e) ⟨0,rfl,by omega,rfl,rfl⟩ (gw ⟨0,285,2,none⟩ rfl ⟨_,rfl⟩ rfl wA rfl rfl lW) ?_;rintro j st ⟨e,rfl,he,aQ,rfl⟩;rw [aQ];refine br ?_ ?_<;>intro hL
 ·have az:e < o.length:=by simpa [dn] using hL
  obtain ⟨w,hw⟩:=gX az;have hst:numF L (o.drop e)=if dC L w.1.s=none then (17,w.1.a) else if dC L w.2.s=none then (17,w.2.a) else numF L (o.drop (e + 1)):=by rw [drop_cons hw,numF]
  have WS:=jR L aN w.1.s hT hl;have BW:=jR L aN w.2.s hT hl;refine ⟨Nh w,⟨by omega,ja hw⟩,?_⟩
  cases ha:dC L w.1.s with
  | none=>
   rw [ha] at WS;refine cP pH WS ?_;rw [hst,zIfP ha];refine dS ?_;exact ⟨_,ax,rfl⟩
  | some a=>
   rw [ha] at WS;refine cP pH WS ?_
   cases hb:dC L w.2.s with
   | none=>
    rw [hb] at BW;refine cP pH BW ?_;rw [hst,af (by rw [ha];simp),zIfP hb];refine dS ?_;exact ⟨_,ax,rfl⟩
   | some b=>
    rw [hb] at BW;refine cP pH BW ?_;rw [af (by rw [ha];simp),af (by rw [hb];simp)] at hst;refine ⟨by simp [jc,dL];omega,⟨by simp [jc,dL,maxLen];omega,by simp [jc,dL];omega⟩,?_⟩;refine ⟨Zm L aN o (e + 1) (e + 1),(wkM (wB2 (nxt az (by omega)) (Dj hw ha hb))),o.length - (e + 1),by omega,e + 1,rfl,by omega,hst,rfl⟩
 ·have hge:e=o.length:=by
   have:=hL;simp [dn] at this;omega
  have h0:numF L (o.drop e)=(0,0):=by rw [hge,List.drop_length];all_goals rfl
  rw [h0];have ht:o.take e=o:=by rw [hge,List.take_length]
  rw [ht];exact ⟨_,ax,rfl⟩
end Go.Proofs.YtfdedoiiahbnnaaGreat
namespace Go.Proofs.YtfdedoiiahbnnaaGreat
namespace Dv
open Go Go.RowKit
section
variable {X:Ctx} {st:St} {k:List It} {E:En} {a:Act} {w:World}
def Wk (X:Ctx) (st st':St):Prop:=∀ E a w,Rel X E st a w->∃ E',Rel X E' st' a w
theorem Wk.refl (X:Ctx) (st:St):Wk X st st:=fun E _ _ h=>⟨E,h⟩
theorem Wk.trans {X:Ctx} {s1 s2 s3:St} (h1:Wk X s1 s2) (h2:Wk X s2 s3):Wk X s1 s3:=fun _ _ _ h=>by
 obtain ⟨E1,h3⟩:=h1 _ _ _ h;exact h2 _ _ _ h3
theorem Wk.abg {X:Ctx} {s1 s2:St} (h:po X.n0 X.m0 s1 s2):Wk X s1 s2:=fun _ _ _ hr=>pE hr h
theorem Pv {f:FuncId} {args bO:List DV} {os:List (List DV)} (n1 m1:Nat) (BM:Nat.ble n1 st.bx.length=true) (kO:Nat.ble m1 st.tk.length=true)
  (rT:mU [] n1 n1 m1 os (st.bx.take n1)) (ha:CcL [] n1 n1 m1 bO args)
  {Φ:DV->List (List DV)->List TkE->Prop} (hc:EvT false X.P f bO os (st.tk.take m1) X.bt Φ) (hst:X.still=false) {vs:List Value} (h:Rel X E st a w) (hv:RvL E args vs) :
  Calls X.P f vs.toArray w fun e w'=>∃ v r Zj Zi E',e = .returned v/\Φ r Zj Zi /\ Zj.length=n1/\Zi.length=m1/\Rel X E' ⟨st.sl,Zj ++ st.bx.drop n1,Zi ++ st.tk.drop m1⟩ a w' /\ Rv E' r v/\Ext E E' /\ E'.β=E.β /\
   ∀ (i:Nat) b,n1<=i->E.β[i]? = some b->w'.heap[b]? = w.heap[b]?:=by
 have BM:=nL BM;have kO:=nL kO;have hlen:=h.env.len;have gf:=h.env.tl;have jt:=h.tk;have htkl:E.tk.length=st.tk.length:=by rw [jt]
 let E1:En:=⟨E.c,E.β.take n1,E.tk.take m1,E.τ.take m1⟩
 have hfz:QT E E1 [] n1:=⟨fun _ _ h=>h,fun i cs _ hi=>by simp at hi⟩
 have ET:MF E E1 n1 m1:={
  β:=fun i b hi hb=>by show (E.β.take n1)[i]? = _;rw [cJ,zIfP hi];exact hb
  tk:=fun k hk=>⟨by show (E.tk.take m1)[k]? = _;rw [cJ,zIfP hk],by show (E.τ.take m1)[k]? = _;rw [cJ,zIfP hk]⟩ }
 obtain ⟨nZ,hog⟩:=rT.get;have hosl:os.length=n1:=by rw [nZ,zLenT];omega
 have hτg:∀ (j:Nat) y,(E.τ.take m1)[j]? = some y->j < m1/\E.τ[j]? = some y:=fun j y hy=>by
  rw [cJ] at hy;split at hy
  ·rename_i hj;exact ⟨hj,hy⟩
  ·cases hy
 have hkg:∀ (j:Nat) q,(E.tk.take m1)[j]? = some q->j < m1/\E.tk[j]? = some q:=fun j y hy=>by
  rw [cJ] at hy;split at hy
  ·rename_i hj;exact ⟨hj,hy⟩
  ·cases hy
 have hE1:Env E1 os w:={
  len:=by show (E.β.take n1).length=_;rw [zLenT,hosl];omega
  tl:=by show (E.τ.take m1).length=(E.tk.take m1).length;rw [zLenT,zLenT,gf]
  eQ:=fun i cs' hi=>by
   obtain ⟨cs,cx,sY⟩:=hog i cs' hi;rw [cJ] at cx;split at cx
   ·rename_i az;obtain ⟨b,ty,arr,hb,hw,hc⟩:=h.env.eQ i cs cx;exact ⟨b,ty,arr,ET.β i b az hb,hw,CcL.sound hfz ET sY hc.1,hc.2⟩
   ·cases cx
  inj:=h.env.inj.sublist (List.take_sublist _ _)
  sub:=h.env.sub
  pc:=fun x v hx hm=>h.env.pc x v hx (List.mem_of_mem_take hm)
  dh:=fun j q y hq hy=>by
   obtain ⟨_,hq⟩:=hkg j q hq;obtain ⟨_,hy⟩:=hτg j y hy;rcases h.env.dh j q y hq hy with h1 | ⟨g,cap,cur,rfl,h1,h2,h3,h4,h5,h6⟩
   ·exact .inl h1
   ·exact .inr ⟨g,cap,cur,rfl,h1,h2,h3,h4,fun hm=>h5 (List.mem_of_mem_take hm),h6⟩
  jY:=fun j j' y y' g MA hy jw=>h.env.jY j j' y y' g MA (hτg j y hy).2 (hτg j' y' jw).2 }
 refine (hc E1 w _ hE1 (by show E.tk.take m1=_;rw [jt]) (h.bt.sub n1) (CcL.sound hfz ET ha hv)).mono ?_;rintro e w' ⟨v,rfl,⟨hm,_,r,Zj,E2,he,hβ,An,hn,hvd,hΦ⟩,hbt2⟩;have An:E2.tk.length=E1.tk.length:=An;have hE1t:E1.tk.length=m1:=by show (E.tk.take m1).length=_;rw [zLenT];omega
 have hE1τ:E1.τ.length=m1:=by show (E.τ.take m1).length=_;rw [zLenT];omega
 have hE1β:E1.β.length=n1:=by show (E.β.take n1).length=_;rw [zLenT];omega
 rw [hE1t] at An;have hτ2:E2.τ.length=m1:=by rw [he.tl,An]
 have Th:Zj.length=n1:=by rw [<- he.len,hβ,hE1β]
 have hS:∀ j,E1.S j->j∈E.β.take n1∨∃ i y,i < m1/\E.τ[i]? = some y/\y.ownBlock=some j:=fun j hj=>by
  rcases hj with h1 | ⟨y,h1,h2⟩
  ·exact .inl h1
  ·obtain ⟨i,hi,he⟩:=List.getElem_of_mem h1;have o0:E1.τ[i]? = some y:=by rw [gE hi,he]
   obtain ⟨h3,h4⟩:=hτg i y o0;exact .inr ⟨i,y,h3,h4,h2⟩
 have hh:∀ j,j < w.heap.size->¬ E1.S j->w'.heap[j]? = w.heap[j]?:=fun j hj bF=>hm.block j hj bF;have dW:∀ (i:Nat) y g,E.τ[i]? = some y->y.ownBlock=some g->g < w.heap.size/\g ∉ E.β:=fun i y g hy hg=>h.env.own (mG hy) hg
 have dO:∀ x v,E2.c x=some v->E.c x=some v∨w.heap.size<=x.block∨∃ i y,i < m1/\E.τ[i]? = some y/\y.ownBlock=some x.block:=fun x v hx=>by
  rcases hn.cn x v hx with h1 | h1 | ⟨y,h1,h2⟩
  ·exact .inl h1
  ·exact .inr (.inl h1)
  ·obtain ⟨i,hi,he⟩:=List.getElem_of_mem h1;have o0:E1.τ[i]? = some y:=by rw [gE hi,he]
   obtain ⟨h3,h4⟩:=hτg i y o0;exact .inr (.inr ⟨i,y,h3,h4,h2⟩)
 have vw:∀ (j:Nat) q,j < m1->E.tk[j]? = some q->∃ y q' y',E.τ[j]? = some y/\E2.tk[j]? = some q' /\ E2.τ[j]? = some y' /\ q.ty=q'.ty/\q.e=q'.e/\((q'.n=q.n/\y'=y)∨q.n < q'.n)/\(y'.ownBlock=y.ownBlock∨∀ g,y'.ownBlock=some g->w.heap.size<=g):=fun j q hj hq=>by
  have zc:j < E.τ.length:=by rw [gf];omega
  obtain ⟨q',y',h1,h2,h3⟩:=hn.tk j q E.τ[j] (by show (E.tk.take m1)[j]? = _;rw [cJ,zIfP hj];exact hq) (by show (E.τ.take m1)[j]? = _;rw [cJ,zIfP hj,gE zc]);exact ⟨_,q',y',gE zc,h1,h2,h3⟩
 have Nu:∀ (j:Nat) y',j < m1->E2.τ[j]? = some y' -> ∃ y,E.τ[j]? = some y/\(y'.ownBlock=y.ownBlock∨∀ g,y'.ownBlock=some g->w.heap.size<=g):=fun j y' hj hy=>by
  have zc:j < E.tk.length:=by omega
  obtain ⟨y,q1,y1,h1,_,h3,_,_,_,h7⟩:=vw j _ hj (gE zc);rw [hy] at h3;simp only [oI] at h3;subst h3;exact ⟨y,h1,h7⟩
 let E':En:=⟨E2.c,E.β,E2.tk ++ E.tk.drop m1,E2.τ ++ E.τ.drop m1⟩
 have iH:∀ (j:Nat),m1<=j->E'.tk[j]? = E.tk[j]?:=fun j hj=>by
  show (E2.tk ++ E.tk.drop m1)[j]? = _;rw [List.getElem?_append_right (by omega),List.getElem?_drop,An];congr 1;omega
 have hτ':∀ (j:Nat),m1<=j->E'.τ[j]? = E.τ[j]?:=fun j hj=>by
  show (E2.τ ++ E.τ.drop m1)[j]? = _;rw [List.getElem?_append_right (by omega),List.getElem?_drop,hτ2];congr 1;omega
 have vG:∀ (j:Nat),j < m1->E'.tk[j]? = E2.tk[j]?:=fun j hj=>by
  show (E2.tk ++ E.tk.drop m1)[j]? = _;rw [eT (by omega)]
 have QS:∀ (j:Nat),j < m1->E'.τ[j]? = E2.τ[j]?:=fun j hj=>by
  show (E2.τ ++ E.τ.drop m1)[j]? = _;rw [eT (by omega)]
 have hx:Ext E E':=⟨hn.c,fun _ _ h=>h,fun j q hq=>by
  rcases Nat.lt_or_ge j m1 with hj | hj
  ·obtain ⟨y,q',y',h1,h2,h3,_,_,h6,_⟩:=vw j q hj hq;refine ⟨q',by rw [vG j hj];exact h2,?_⟩;rcases h6 with ⟨h6,rfl⟩ | h6
   ·exact .inl ⟨h6,by rw [QS j hj,h3,h1]⟩
   ·exact .inr h6
  ·exact ⟨q,by rw [iH j hj];exact hq,.inl ⟨rfl,hτ' j hj⟩⟩⟩
 have GC:Ext E2 E':={
  c:=fun _ _ h=>h
  β:=fun j b hj=>by
   rw [hβ] at hj;have hj:(E.β.take n1)[j]? = some b:=hj;rw [cJ] at hj;split at hj
   ·exact hj
   ·cases hj
  tk:=fun j q hq=>by
   have hj:j < m1:=by have:=(gS hq).1;omega
   exact ⟨q,by rw [vG j hj];exact hq,.inl ⟨rfl,QS j hj⟩⟩ }
 have Zn:∀ (i:Nat) b,n1<=i->E.β[i]? = some b->w'.heap[b]? = w.heap[b]?:=fun i b hi hb=>by
  refine hh b (h.env.bw (mG hb)) fun hs=>?_;rcases hS b hs with h1 | ⟨i',y,_,h2,h3⟩
  ·obtain ⟨i',o0,V9⟩:=List.getElem_of_mem h1;have h4:(E.β.take n1)[i']? = some b:=by rw [gE o0,V9]
   rw [cJ] at h4;split at h4
   ·rename_i az;have:=(List.getElem?_inj (gS hb).1 h.env.inj).1 (hb.trans h4.symm);omega
   ·cases h4
  ·exact (dW i' y b h2 h3).2 (mG hb)
 have hbt':rj X.bt E.β w':=fun p hp b hb=>by
  rcases Nat.lt_or_ge p.1 n1 with az | hge
  ·exact hbt2 p hp b (by show (E.β.take n1)[p.1]? = _;rw [cJ,zIfP az];exact hb)
  ·obtain ⟨cs,cx⟩:=h.bt p hp b hb;exact ⟨cs,by rw [Zn p.1 b hge hb];exact cx⟩
 have cg:Rel X E' ⟨st.sl,Zj ++ st.bx.drop n1,E2.tk ++ st.tk.drop m1⟩ a w':=by
  refine dF h hx ?_ (by show E2.tk ++ E.tk.drop m1=_;rw [jt]) ?_ (h.fr.cy hm.os hm.tape hm.output hm.size fun j hj=>?_) (pj hst) hbt'
  ·exact {
    len:=by show E.β.length=_;rw [List.length_append,List.length_drop,Th,hlen];omega
    tl:=by show (E2.τ ++ E.τ.drop m1).length=(E2.tk ++ E.tk.drop m1).length;simp only [List.length_append,List.length_drop,hτ2,An,gf]
    eQ:=fun i Yw hi=>by
     rcases Nat.lt_or_ge i n1 with B8 | B8
     ·rw [eT (by omega)] at hi;obtain ⟨b2,ty2,aaN,iI,rk,tw⟩:=he.eQ i Yw hi;exact ⟨b2,ty2,aaN,GC.β i b2 iI,rk,tw.mono GC⟩
     ·rw [List.getElem?_append_right (by omega),List.getElem?_drop,Th] at hi;rw [show n1 + (i - n1)=i by omega] at hi;obtain ⟨bj,tyj,aaO,Yx,hwj,hcj⟩:=h.env.eQ i Yw hi;refine ⟨bj,tyj,aaO,Yx,(hh bj (dE hwj) ?_).trans hwj,hcj.mono hx⟩;intro hs;rcases hS bj hs with h1 | ⟨i',y,_,h2,h3⟩
      ·obtain ⟨i',o0,V9⟩:=List.getElem_of_mem h1;have h4:(E.β.take n1)[i']? = some bj:=by rw [gE o0,V9]
       rw [cJ] at h4;split at h4
       ·rename_i az;have:=(List.getElem?_inj (gS Yx).1 h.env.inj).1 (Yx.trans h4.symm);omega
       ·cases h4
      ·exact (dW i' y bj h2 h3).2 (mG Yx)
    inj:=h.env.inj
    sub:=he.sub
    pc:=fun x v hc nY=>by
     rcases dO x v hc with h1 | h1 | ⟨i,y,_,h2,h3⟩
     ·exact h.env.pc x v h1 nY
     ·have:=h.env.bw nY;omega
     ·exact (dW i y _ h2 h3).2 nY
    dh:=fun j q y hq hy=>by
     rcases Nat.lt_or_ge j m1 with hj | hj
     ·rw [vG j hj] at hq;rw [QS j hj] at hy;rcases he.dh j q y hq hy with h1 | ⟨g,cap,cur,rfl,h1,h2,h3,h4,h5,h6⟩
      ·exact .inl h1
      ·refine .inr ⟨g,cap,cur,rfl,h1,h2,h3,h4,fun nY=>?_,h6⟩;obtain ⟨y0,h7,h8⟩:=Nu j _ hj hy;rcases h8 with h8 | h8
       ·exact (dW j y0 g h7 (by rw [<- h8];rfl)).2 nY
       ·have:=h8 g rfl;have:=h.env.bw nY;omega
     ·rw [iH j hj] at hq;rw [hτ' j hj] at hy;rcases h.env.dh j q y hq hy with h1 | ⟨g,cap,cur,rfl,h1,h2,h3,h4,h5,h6⟩
      ·exact .inl h1
      ·have bF:∀ i y',i < m1->E.τ[i]? = some y' -> y'.ownBlock≠some g:=fun i y' hi jw=>h.env.jY j i _ y' g (by omega) hy jw rfl
       have GB:¬ E1.S g:=fun hs=>by
        rcases hS g hs with h7 | ⟨i,y',h7,h8,h9⟩
        ·exact h5 (List.mem_of_mem_take h7)
        ·exact bF i y' h7 h8 h9
       refine .inr ⟨g,cap,cur,rfl,by rw [hh g (dE h1) GB];exact h1,⟨h2.1,h2.2.mono hn.c⟩,h3,h4,h5,fun x v hc hg=>?_⟩
       ·rcases dO x v hc with h7 | h7 | ⟨i,y',h7,h8,h9⟩
        ·exact h6 x v h7 hg
        ·have:=dE h1;omega
        ·exact (bF i y' h7 h8 (by rw [h9,hg])).elim
    jY:=fun j j' y y' g MA hy jw hg za=>by
     rcases Nat.lt_or_ge j m1 with hj | hj
     ·rw [QS j hj] at hy;obtain ⟨y0,h7,h8⟩:=Nu j _ hj hy;rcases Nat.lt_or_ge j' m1 with ku | ku
      ·rw [QS j' ku] at jw;exact he.jY j j' y y' g MA hy jw hg za
      ·rw [hτ' j' ku] at jw;rcases h8 with h8 | h8
       ·exact h.env.jY j j' y0 y' g MA h7 jw (by rw [<- h8];exact hg) za
       ·have:=h8 g hg;have:=(dW j' y' g jw za).1;omega
     ·rw [hτ' j hj] at hy;rcases Nat.lt_or_ge j' m1 with ku | ku
      ·rw [QS j' ku] at jw;obtain ⟨y0,h7,h8⟩:=Nu j' _ ku jw;rcases h8 with h8 | h8
       ·exact h.env.jY j j' y y0 g MA hy h7 hg (by rw [<- h8];exact za)
       ·have:=h8 g za;have:=(dW j y g hy hg).1;omega
      ·rw [hτ' j' ku] at jw
       exact h.env.jY j j' y y' g MA hy jw hg za }
  ·exact {
    c:=fun x v hc=>hn.c x v (h.nw.c x v hc)
    cn:=fun x v hc=>by
     rcases dO x v hc with h1 | h1 | ⟨i,y,_,h2,h3⟩
     ·exact h.nw.cn x v h1
     ·have:=h.fr.size;exact .inr (.inl (by omega))
     ·rcases h.nw.own h2 h3 with h4 | h4
      ·exact .inr (.inr h4)
      ·exact .inr (.inl h4)
    β:=h.nw.β
    tk:=fun j q0 y0 vq J0=>by
     obtain ⟨q1,y1,h1,h2,h3,h4,h5,h6⟩:=h.nw.tk j q0 y0 vq J0;rcases Nat.lt_or_ge j m1 with hj | hj
     ·obtain ⟨y,q',y',g1,g2,g3,g4,g5,g6,g7⟩:=vw j q1 hj h1;rw [h2] at g1;simp only [oI] at g1;subst g1;refine ⟨q',y',by rw [vG j hj];exact g2,by rw [QS j hj];exact g3,h3.trans g4,h4.trans g5,?_,?_⟩
      ·rcases g6 with ⟨g6,rfl⟩ | g6
       ·rcases h5 with ⟨h5,rfl⟩ | h5
        ·exact .inl ⟨by omega,rfl⟩
        ·exact .inr (by omega)
       ·rcases h5 with ⟨h5,_⟩ | h5
        ·exact .inr (by omega)
        ·exact .inr (by omega)
      ·rcases g7 with g7 | g7
       ·rcases h6 with h6 | h6
        ·exact .inl (g7.trans h6)
        ·exact .inr fun g hg=>h6 g (by rw [<- g7];exact hg)
       ·refine .inr fun g hg=>?_;have:=g7 g hg;have:=h.fr.size;omega
     ·exact ⟨q1,y1,by rw [iH j hj];exact h1,by rw [hτ' j hj];exact h2,h3,h4,h5,h6⟩
    tn:=fun j y g G0 hy hg=>by
     rcases Nat.lt_or_ge j m1 with hj | hj
     ·rw [QS j hj] at hy;obtain ⟨y0,h7,h8⟩:=Nu j _ hj hy;rcases h8 with h8 | h8
      ·exact h.nw.tn j y0 g G0 h7 (by rw [<- h8];exact hg)
      ·have:=h8 g hg;have:=h.fr.size;omega
     ·rw [hτ' j hj] at hy;exact h.nw.tn j y g G0 hy hg
    l0:=h.nw.l0 }
  ·by_cases hjs:E1.S j
   ·left;rcases hS j hjs with h1 | ⟨i,y,_,h2,h3⟩
    ·have CL:=List.mem_of_mem_take h1;obtain ⟨r0,QU,Hk⟩:=h.nw.β;rw [QU] at CL;rcases List.mem_append.1 CL with CL | CL
     ·exact .inl (.inl CL)
     ·exact .inr (Hk j CL)
    ·rcases h.nw.own h2 h3 with h4 | h4
     ·exact .inl (.inr h4)
     ·exact .inr h4
   ·exact .inr (hh j hj hjs)
 exact ⟨v,r,Zj,E2.tk,E',rfl,hΦ,Th,An,cg,Rv.mono GC hvd,hx,rfl,Zn⟩
theorem uf {f:FuncId} {args bO:List DV} {os:List (List DV)} (n1 m1:Nat) (BM:Nat.ble n1 st.bx.length=true) (kO:Nat.ble m1 st.tk.length=true)
  (rT:mU [] n1 n1 m1 os (st.bx.take n1)) (ha:CcL [] n1 n1 m1 bO args)
  {Φ:DV->List (List DV)->List TkE->Prop} (hc:Ev X.P f bO os (st.tk.take m1) Φ) (hst:X.still=false) (hX:X.bt=[]) {vs:List Value} (h:Rel X E st a w) (hv:RvL E args vs) :
  Calls X.P f vs.toArray w fun e w'=>∃ v r Zj Zi E',e = .returned v/\Φ r Zj Zi /\ Zj.length=n1/\Zi.length=m1/\Rel X E' ⟨st.sl,Zj ++ st.bx.drop n1,Zi ++ st.tk.drop m1⟩ a w' /\ Rv E' r v/\Ext E E' /\ E'.β=E.β /\
   ∀ (i:Nat) b,n1<=i->E.β[i]? = some b->w'.heap[b]? = w.heap[b]?:=
 Pv n1 m1 (by exact BM) (by exact kO) rT ha (hc.adO hX) hst h hv
theorem Ao {f:FuncId} {args bO:List DV} {os:List (List DV)} {d:Nat} (n1 m1:Nat) (gY:Enters X.P f) (hd:fU X.nt st.sl (some d)=true) (BM:Nat.ble n1 st.bx.length=true) (kO:Nat.ble m1 st.tk.length=true)
  (rT:mU [] n1 n1 m1 os (st.bx.take n1)) (ha:CcL [] n1 n1 m1 bO args)
  {Φ:DV->List (List DV)->List TkE->Prop} (hc:Ev X.P f bO os (st.tk.take m1) Φ)
  (hk:∀ r Zj Zi,Φ r Zj Zi -> Zj.length=n1->Zi.length=m1->∃ st',Wk X ⟨(d,⟨[],r⟩) :: st.sl,Zj ++ st.bx.drop n1,Zi ++ st.tk.drop m1⟩ st' /\ go X 4000 k st') (hst:X.still=false:=by exact rfl) (hX:X.bt=[]:=by exact rfl):CallG X f args (some d) k st:=by
 refine ⟨gY,hst,fun E a w vs h hv=>(uf n1 m1 BM kO rT ha hc hst hX h hv).mono ?_⟩;rintro e w' ⟨v,r,Zj,Zi,E',rfl,hΦ,Th,An,cg,QW,_,_,_⟩;obtain ⟨st',OP,vv⟩:=hk r Zj Zi hΦ Th An;obtain ⟨E3,hr3⟩:=OP _ _ _ (bu cg hd r v QW);exact go_sound 4000 _ _ vv E3 _ w' hr3
theorem ai {f:FuncId} {args bO:List DV} {os:List (List DV)} {d:Nat} (n1 m1:Nat) (gY:Enters X.P f) (hd:fU X.nt st.sl (some d)=true) (BM:Nat.ble n1 st.bx.length=true) (kO:Nat.ble m1 st.tk.length=true)
  (rT:mU [] n1 n1 m1 os (st.bx.take n1)) (ha:CcL [] n1 n1 m1 bO args)
  {Φ:DV->List (List DV)->List TkE->Prop} (hc:Ev X.P f bO os (st.tk.take m1) Φ)
  (hk:∀ r Zj Zi,Φ r Zj Zi -> Zj.length=n1->Zi.length=m1->go X 4000 k ⟨(d,⟨[],r⟩) :: st.sl,Zj ++ st.bx.drop n1,Zi ++ st.tk.drop m1⟩) (hst:X.still=false:=by exact rfl) (hX:X.bt=[]:=by exact rfl):CallG X f args (some d) k st:=
 Ao n1 m1 gY hd BM kO rT ha hc (fun r Zj Zi h1 h2 h3=>⟨_,Wk.refl _ _,hk r Zj Zi h1 h2 h3⟩) hst hX
theorem Pw {all:Array Oper} {o1 o2 o3:Oper} {r:List Oper} {d1 d2 kt t sT f off ft ty et e kL m Ap nn:Nat} {bb:Bool} {zz:List Value} {z:Int} {kd:IntKind} {es:List (List DV)} {cs:List DV} {s ix x:Operand} {dv dv':DV}
  (h1:o1.op = .indexAddr t s ix/\o1.dst=some d1) (h2:o2.op = .fieldAddr sT (.tmp d1) f/\o2.dst=some d2/\o2.guard=none) (h3:o3.op = .store ty (.tmp d2) x/\o3.dst=none/\o3.guard=none)
  (vb:fU X.nt st.sl (some d1)=true) (hd2:fU X.nt ((d1,⟨[],.pt [] 0⟩) :: st.sl) (some d2)=true)
  (hs:rv st [] s=some (.sl 0 es (some kt))) (hi:rv st [] ix=some (.v (.int kd z))) (hx:rv ⟨(d2,⟨[],.pt [] 0⟩) :: (d1,⟨[],.pt [] 0⟩) :: st.sl,st.bx,st.tk⟩ [] x=some dv) (hdv:eraD dv=some dv') (Pd:dv.cells=[dv])
  (hT:X.T.find t=some ⟨nn,bb,.sl et e kL,zz⟩) (EP:X.T.off sT f=some (off,ft)) (cK:X.T.sz ty=some 1)
  (hq:st.tk[kt]? = some ⟨m,Ap,e,some cs⟩) (tG:es.length=m) (hz:0<=z/\z < m) (adw:off + 1<=e)
  (hk:go X 4000 (.ops all r :: k) ⟨(d2,⟨[],.pt [] 0⟩) :: (d1,⟨[],.pt [] 0⟩) :: st.sl,st.bx,st.tk.set kt ⟨m,Ap,e,some (cs.set (z.toNat * e + off) dv')⟩⟩)
  (hst:X.still=false:=by exact rfl):Rf X o1 (.ops all (o2 :: o3 :: r) :: k) st:=by
 intro E a w h;have gW:=h.rl;have e1:=bm gW hs;have e2:=cH (bm gW hi);unfold Rv at e1;obtain ⟨bs,ns,nb,e1,⟨GB,nc⟩,Yr,zg⟩:=e1;subst GB;obtain ⟨q',mY,_,hτk⟩:=zg kt rfl;have kN:E.tk[kt]? = some ⟨m,Ap,e,some cs⟩:=by rw [h.tk];exact hq
 rw [kN] at mY;simp only [oI] at mY;subst mY;have hy:=hτk tG;rw [e1,tG] at hy;rw [tG] at e1;have hot:=h.env.dh kt _ _ kN hy;rcases hot with ⟨qI,tj,_⟩ | ⟨g,cap,cur,qI,sZ,⟨xm,G3⟩,zh,BX,ib,J4⟩
 ·simp only at tj;omega
 injection qI with i1 i2 i3
 subst i1 i3;obtain ⟨hu,ii,zv,zd,_,abk,_,_⟩:=fV X.hT hT;have pk:jF X.P et=some e:=by rw [gH zd,abk]
 have af2:(execOp a.eval o1).run X.P w = .ok (.value (.pointer (some ⟨g,z.toNat * e,none⟩))) w:=by
  have bV:(Instr.indexAt t (.slice (some ⟨g,0,none⟩) m nb) (.int kd z)).run X.P w = .ok (.pointer (some ⟨g,z.toNat * e,none⟩)) w:=by
   simp [Instr.indexAt,asIntOf,run_underlying hu,hz.1,hz.2,aX pk,Addr.add_lit]
  simp only [execOp,h1.1,e1,e2,Sem.run_bind,bV,Result.andThen_ok,Sem.run_pure]
 refine mZ af2 ?_;rw [h1.2];have hr1:Rel X E ⟨(d1,⟨[],.pt [] 0⟩) :: st.sl,st.bx,st.tk⟩ (a.put (some d1) (.pointer (some ⟨g,z.toNat * e,none⟩))) w:=bu h vb (.pt [] 0) _ (by unfold Rv;exact ⟨g,z.toNat * e,rfl,by simp only [RvAt]⟩);generalize ha1:a.put (some d1) (.pointer (some ⟨g,z.toNat * e,none⟩))=a1 at hr1
 have ht1:a1.eval (.tmp d1) = .pointer (some ⟨g,z.toNat * e,none⟩):=by
  subst ha1;simp only [fU,bh,Nat.blt_eq] at vb;simp [Act.eval,Act.put,h.sz,vb.1]
 show kq X (.ops all (o2 :: o3 :: r) :: k) .normal a1 w;simp only [kq,wpList,Region.wanted,h2.2.2,h3.2.2,if_true];refine .inl (mZ (v:=.pointer (some ⟨g,z.toNat * e + off,none⟩)) (w':=w) ?_ ?_)
 ·simp only [execOp,h2.1,ht1,Sem.run_bind,kz (vl X.hT EP),Result.andThen_ok,Sem.run_pure]
 rw [h2.2.1];have ki:Rel X E ⟨(d2,⟨[],.pt [] 0⟩) :: (d1,⟨[],.pt [] 0⟩) :: st.sl,st.bx,st.tk⟩ (a1.put (some d2) (.pointer (some ⟨g,z.toNat * e + off,none⟩))) w:=bu hr1 hd2 (.pt [] 0) _ (by unfold Rv;exact ⟨g,z.toNat * e + off,rfl,by simp only [RvAt]⟩);generalize VX:a1.put (some d2) (.pointer (some ⟨g,z.toNat * e + off,none⟩))=a2 at ki
 have ht2:a2.eval (.tmp d2) = .pointer (some ⟨g,z.toNat * e + off,none⟩):=by
  subst VX;simp only [fU,bh,Nat.blt_eq] at hd2;simp [Act.eval,Act.put,hr1.sz,hd2.1]
 have e3:=bm ki.rl hx
 have fX:RvC E [dv] (a2.eval x).cells.toList:=by
  have:=e3.cells (iG (n:=1) (by rw [Pd];rfl) (by omega))
  rwa [Pd] at this
 have zf:(a2.eval x).cells.toList.length=1:=by rw [fX.1.length];all_goals rfl
 obtain ⟨xv,hxv⟩:∃ xv,(a2.eval x).cells.toList=[xv]:=by
  match hh:(a2.eval x).cells.toList,zf with
  | [y],_=>exact ⟨y,rfl⟩
 obtain ⟨h5,h6⟩:=G3 cs rfl;simp only at h5 h6 xm sZ zh;have Zo:cur.toList.length=nb * e:=sU xm;have hme:m * e<=nb * e:=Nat.mul_le_mul_right _ zh
 have lk:z.toNat * e + off + 1<=m * e:=by
  have:(z.toNat + 1) * e<=m * e:=Nat.mul_le_mul_right _ (by omega);rw [Nat.add_mul] at this;omega
 have Vv:=iT (P:=X.P) (t:=ty) (off:=z.toNat * e + off) (n:=1) sZ (Ct X.hT cK) zf (by rw [xm];omega) (List.all_eq_true.2 fX.2);refine .inl (VY (w':=World.dc w g (.cells ((cur.toList.take (z.toNat * e + off) ++ (a2.eval x).cells.toList ++ cur.toList.drop (z.toNat * e + off + 1)).toArray) Ap (0,0))) ?_ ?_)
 ·simp only [execOp,h3.1,ht2,Instr.storeAt,Instr.sureAddr,Sem.run_bind,Sem.run_pure,Result.andThen_ok,Vv]
 rw [h3.2.1]
 have aar:cur.toList.take (z.toNat * e + off) ++ (a2.eval x).cells.toList ++ cur.toList.drop (z.toNat * e + off + 1)=cur.toList.set (z.toNat * e + off) xv:=by
  rw [hxv,List.set_eq_take_append_cons_drop,zIfP (by omega)];simp
 rw [aar]
 have hx1:RvC E.cl [dv'] [xv]:=by
  rw [hxv] at fX;have h7:=fX.1;simp only [RvL] at h7;obtain ⟨v,s',h8,h9,u7⟩:=h7;simp only [List.cons.injEq] at h8;obtain ⟨rfl,rfl⟩:=h8;exact ⟨rvL_cons (ze hdv h9) (by simp only [RvL]),fX.2⟩
 have QQ:GQ (World.dc w g (.cells (cur.toList.set (z.toNat * e + off) xv).toArray Ap (0,0))) E.c E.β ⟨m,Ap,e,some (cs.set (z.toNat * e + off) dv')⟩ (.slice (some ⟨g,0,none⟩) m nb):=by
  refine .inr ⟨g,nb,_,rfl,fl sZ,⟨by simpa using Zo,fun cs' Cx=>?_⟩,zh,BX,ib,J4⟩;simp only [oI] at Cx;subst Cx;simp only;refine ⟨by rw [List.length_set];exact h5,?_⟩;rw [List.take_set];have az:z.toNat * e + off < (cur.toList.take (m * e)).length:=by rw [zLenT];omega
  rw [List.set_eq_take_append_cons_drop,zIfP (by omega),List.set_eq_take_append_cons_drop,zIfP az];have h8:=(RvC.take (z.toNat * e + off) h6).append (RvC.append hx1 (RvC.drop (z.toNat * e + off + 1) h6));simpa using h8
 have Rz:some g≠some g->False:=fun h=>h rfl
 obtain ⟨cg,hext⟩:=EQ (q':=⟨m,Ap,e,some (cs.set (z.toNat * e + off) dv')⟩) (w':=World.dc w g (.cells (cur.toList.set (z.toNat * e + off) xv).toArray Ap (0,0))) ki hst kN hy rfl rfl rfl (.inl ⟨rfl,rfl⟩) QQ (.inl rfl) rfl rfl rfl (by rw [gq];exact zLeR _) (fun j _ bF=>cV (by
  rintro rfl
  exact bF rfl))
 exact go_sound 4000 _ _ hk _ _ _ cg
open Classical in
noncomputable def HU (E:En) (w:World) (y:Value) (n:Nat):Addr->Option Value:=
 fun x=>if y.ownBlock=some x.block/\x.spot=none/\x.off < n then w.cell? x else E.c x
theorem lG {y:Value} {n:Nat} {x:Addr} {v:Value} (h:HU E w y n x=some v):(y.ownBlock=some x.block/\x.spot=none/\x.off < n/\w.cell? x=some v)∨E.c x=some v:=by
 unfold HU at h
 grind
theorem WT (h:Rel X E st a w) {k n ty e:Nat} {cs:List DV} {ns:List (List DV)} (hq:st.tk[k]? = some ⟨n,ty,e,some cs⟩) (cx:cs=ns.flatten) (GB:∀ x∈ns,x.length=e) (ir:ns.length=n) :
  ∃ E',Rel X E' ⟨st.sl,st.bx,st.tk.set k ⟨n,ty,e,none⟩⟩ a w/\Ext E E' /\ ∀ es y,es.length=n->Rv E (.sl 0 es (some k)) y->Rv E' (.sl e ns (some k)) y:=by
 subst cx;have kN:E.tk[k]? = some ⟨n,ty,e,some ns.flatten⟩:=by rw [h.tk];exact hq
 have il:=(gS kN).1;have hkτ:k < E.τ.length:=by rw [h.env.tl];exact il
 have hv:E.τ[k]? = some E.τ[k]:=gE hkτ;generalize E.τ[k]=v at hv;have hot:=h.env.dh k _ v kN hv
 have fO:∀ x u,E.c x=some u->HU E w v (n * e) x=some u:=fun x u hx=>by
  unfold HU;split
  ·exact h.env.sub x u hx
  ·exact hx
 have hext:Ext E ⟨HU E w v (n * e),E.β,E.tk.set k ⟨n,ty,e,none⟩,E.τ⟩:=⟨fO,fun _ _ h=>h,fun j q hqj=>by
  by_cases hj:j=k
  ·subst hj;rw [kN] at hqj;simp only [oI] at hqj;subst hqj;exact ⟨_,iR il,.inl ⟨rfl,rfl⟩⟩
  ·exact ⟨q,by rw [List.getElem?_set_ne (Ne.symm hj)];exact hqj,.inl ⟨rfl,rfl⟩⟩⟩
 refine ⟨⟨HU E w v (n * e),E.β,E.tk.set k ⟨n,ty,e,none⟩,E.τ⟩,dF h hext ?_ (by rw [h.tk]) ?_ h.fr h.sh h.bt,hext,?_⟩
 ·exact {
   len:=h.env.len
   tl:=by simp only [List.length_set];exact h.env.tl
   eQ:=fun i cs hi=>by
    obtain ⟨b,t,arr,hb,hw,hc⟩:=h.env.eQ i cs hi;exact ⟨b,t,arr,hb,hw,hc.mono hext⟩
   inj:=h.env.inj
   sub:=fun x u hx=>by
    rcases lG hx with ⟨_,_,_,h1⟩ | h1
    ·exact h1
    ·exact h.env.sub x u h1
   pc:=fun x u hx hm=>by
    rcases lG hx with ⟨h1,_⟩ | h1
    ·exact (jH hot h1).2 hm
    ·exact h.env.pc x u h1 hm
   dh:=fun j q y hj hy=>by
    by_cases hjk:j=k
    ·subst hjk;have ku:(E.tk.set j ⟨n,ty,e,none⟩)[j]? = some q:=hj;rw [iR il] at ku;have jw:E.τ[j]? = some y:=hy;rw [hv] at jw;simp only [oI] at ku jw;subst ku jw;rcases hot with ⟨h1,h2,_⟩ | ⟨g,cap,cur,rfl,h1,h2,h3,h4,h5,h6⟩
     ·exact .inl ⟨h1,h2,fun cs hc=>by cases hc⟩
     ·refine .inr ⟨g,cap,cur,rfl,h1,⟨h2.1,tq.none rfl⟩,h3,h4,h5,fun x u hx JH=>?_⟩;rcases lG hx with ⟨_,_,h7,_⟩ | h7
      ·exact h7
      ·have:=h6 x u h7 JH;simp only [TkE.kn] at this;omega
    ·have ku:E.tk[j]? = some q:=by
      have:(E.tk.set k ⟨n,ty,e,none⟩)[j]? = some q:=hj
      rwa [List.getElem?_set_ne (Ne.symm hjk)] at this
     rcases h.env.dh j q y ku hy with h1 | ⟨g,cap,cur,rfl,h1,h2,h3,h4,h5,h6⟩
     ·exact .inl h1
     ·refine .inr ⟨g,cap,cur,rfl,h1,⟨h2.1,h2.2.mono fO⟩,h3,h4,h5,fun x u hx JH=>?_⟩;rcases lG hx with ⟨h7,_⟩ | h7
      ·exact (h.env.jY j k _ v g hjk hy hv rfl (by rw [h7,JH])).elim
      ·exact h6 x u h7 JH
   jY:=h.env.jY }
 ·exact {
   c:=fun x u hx=>fO x u (h.nw.c x u hx)
   cn:=fun x u hx=>by
    rcases lG hx with ⟨h1,_⟩ | h1
    ·rcases h.nw.own hv h1 with h2 | h2
     ·exact .inr (.inr h2)
     ·exact .inr (.inl h2)
    ·exact h.nw.cn x u h1
   β:=h.nw.β
   tk:=fun j q0 y0 vq J0=>by
    obtain ⟨q1,y1,h1,h2,h3,h4,h5,h6⟩:=h.nw.tk j q0 y0 vq J0;by_cases hj:j=k
    ·subst hj;rw [kN] at h1;simp only [oI] at h1;subst h1;exact ⟨_,y1,iR il,h2,h3,h4,h5,h6⟩
    ·exact ⟨q1,y1,by rw [List.getElem?_set_ne (Ne.symm hj)];exact h1,h2,h3,h4,h5,h6⟩
   tn:=fun j y g hj hy=>h.nw.tn j y g hj hy
   l0:=h.nw.l0 }
 ·intro es y tG hy;unfold Rv at hy ⊢;obtain ⟨b,m,cap,rfl,⟨rfl,hmc⟩,hr,hst⟩:=hy;obtain ⟨q',mY,_,hτ⟩:=hst k rfl;rw [kN] at mY;simp only [oI] at mY;subst mY;have hy:=hτ tG;rw [hv] at hy;simp only [oI] at hy;subst hy;refine ⟨b,es.length,cap,rfl,⟨by omega,hmc⟩,fun bF=>?_,fun k' iH=>?_⟩
  ·rcases hot with ⟨h1,h2,h3⟩ | ⟨g,adC,cur,h0,h1,h2,h3,h4,h5,h6⟩
   ·simp only at h2;exact (bF (List.eq_nil_of_length_eq_zero (by omega))).elim
   ·injection h0 with i1 i2 i3
    subst i1;refine ⟨rfl,?_⟩;obtain ⟨h7,h8⟩:=h2.2 _ rfl;refine rvEs_flat (h8.mono (E:=⟨E.c,[],[],[]⟩) ⟨fO,fun _ _ h=>by simp at h,fun _ _ h=>by simp at h⟩) GB fun j u hj=>?_;rw [cJ] at hj;split at hj
    ·rename_i zc;show HU E w _ (n * e) _=_;unfold HU;rw [zIfP ⟨rfl,rfl,by simpa [ao] using zc⟩];simp only [ab,ao,Nat.zero_add];rw [cO h1];simpa using hj
    ·cases hj
  ·cases iH;exact ⟨_,iR il,by simp only;omega,fun _=>hv⟩
theorem Ti {j o k n ty e:Nat} {ocs:List DV} {es ns:List (List DV)} (hq:st.tk[k]? = some ⟨n,ty,e,some ns.flatten⟩) (GB:∀ x∈ns,x.length=e) (ir:ns.length=n) (hj:st.bx[j]? = some ocs) (ho:ocs[o]? = some (.sl 0 es (some k))) (tG:es.length=n) :
  Wk X st ⟨st.sl,st.bx.set j (ocs.set o (.sl e ns none)),st.tk.set k ⟨n,ty,e,none⟩⟩:=by
 intro E a w h;obtain ⟨E',hr,hx,vw⟩:=WT h hq rfl GB ir;refine ⟨E',{ hr with env:=?_ }⟩
 exact { hr.env with
  len:=by simp only [List.length_set];exact hr.env.len
  eQ:=fun i cs' hi=>by
   by_cases tD:i=j
   ·subst tD;have az:=(gS hj).1;have o0:(st.bx.set i (ocs.set o (.sl e ns none)))[i]? = some cs':=hi;rw [iR az] at o0;simp only [oI] at o0;subst o0;obtain ⟨b,t,arr,hb,hw,hc⟩:=hr.env.eQ i ocs hj;obtain ⟨b0,t0,OM,ib,sZ,J4⟩:=h.env.eQ i ocs hj;have mb:=hx.β i b0 ib;rw [hb] at mb;simp only [oI] at mb;subst mb;rw [hw] at sZ;simp only [oI,Obj.cells.injEq] at sZ
    have Sk:arr=OM:=by
     have:=sZ.1;simpa using this
    subst Sk;refine ⟨b,t,arr,hb,hw,?_,hc.2⟩;obtain ⟨v,yx,JY⟩:=J4.1.get ho;have QW:=vw es v tG JY;have nZ:=(gS ho).1;have Yq:arr.length=ocs.length:=hc.1.length
    have h1:=(RvL.take o hc.1).append (rvL_cons (d:=.sl e ns none) (v:=v) (by
     unfold Rv at QW ⊢;obtain ⟨b,n,cap,g1,g2,g3,_⟩:=QW
     exact ⟨b,n,cap,g1,g2,g3,fun k hk=>by cases hk⟩) (RvL.drop (o + 1) hc.1))
    rw [List.set_eq_take_append_cons_drop,zIfP nZ]
    have h2:arr.take o ++ v :: arr.drop (o + 1)=arr:=by
     have hoa:o < arr.length:=by omega
     have:arr[o]=v:=by grind
     rw [<- this];simp
    rwa [h2] at h1
   ·have o0:(st.bx.set j (ocs.set o (.sl e ns none)))[i]? = some cs':=hi;rw [List.getElem?_set_ne (Ne.symm tD)] at o0
    exact hr.env.eQ i cs' o0 }
theorem Wk.Kh (i j:Nat) (S S':St) (he:S'=gx i j S) (Rm:Nat.ble X.n0 i=true) (G0:Nat.ble X.n0 j=true) (hi:Nat.blt i S.bx.length=true) (hj:Nat.blt j S.bx.length=true) (hX:X.bt=[]:=by exact rfl):Wk X S' S:=fun E a w h=>by
 subst he;simp only [Nat.blt_eq] at hi hj;exact MN hX h (nL Rm) (nL G0) hi hj
theorem KH {c:Code} (I:Nat->St->Prop) (j0:Nat) (mc:St) (hw:Wk X st mc) (h0:I j0 mc)
  (hr:∀ j s,I j s->go X 4000 (.code c :: .Gw (fun s'=>∃ G9,Wk X s' G9 /\ ∃ j',j' < j/\I j' G9) :: k) s):ru X c k st:=by
 intro E a w h;obtain ⟨E0,QU⟩:=hw _ _ _ h
 classical
 let Inv:Act->World->Prop:=fun a w=>∃ j s E,Rel X E s a w/\I j s
 let μ:Act->World->Nat:=fun a w=>if hI:Inv a w then Classical.choose (least hI) else 0
 refine wp_loop Inv μ ⟨j0,mc,E0,QU,h0⟩ ?_;intro a1 w1 hI;have CF:=(Classical.choose_spec (least hI)).1;obtain ⟨s,E1,cg,hIs⟩:=CF;have hs:=go_sound 4000 _ _ (hr _ s hIs) E1 a1 w1 cg;rw [eW] at hs;refine wp_mono hs ?_;intro e a2 w2 hq
 cases e with
 | normal=>
  obtain ⟨s',E2,Ha,G9,OP,j',ku,hI'⟩:=hq;obtain ⟨E3,Hb⟩:=OP _ _ _ Ha;have hI2:Inv a2 w2:=⟨j',G9,E3,Hb,hI'⟩;refine ⟨hI2,?_⟩;simp only [μ,dif_pos hI,dif_pos hI2];exact Nat.lt_of_le_of_lt ((Classical.choose_spec (least hI2)).2 j' ⟨G9,E3,Hb,hI'⟩) ku
 | exit id=>exact hq
 | goto l=>exact hq
 | ret=>exact hq
 | panic c=>exact hq
 | outgrown=>exact hq
mutual
def flatD:DV->Bool
 | .v _=>true
 | .agg l=>flatL l
 | .bo l=>flatL l
 | _=>false
def flatL:List DV->Bool
 | []=>true
 | d :: r=>flatD d && flatL r
end
mutual
theorem Rv.flat {E E':En}:∀ {d:DV} {v:Value},flatD d=true->Rv E d v->Rv E' d v
 | .v x,v,_,h=>by unfold Rv at h ⊢;exact h
 | .agg l,v,hf,h=>by
  simp only [flatD] at hf;simp only [Rv] at h ⊢;obtain ⟨vs,h1,h2,h3⟩:=h;exact ⟨vs,h1,RvL.flat hf h2,h3⟩
 | .bo l,v,hf,h=>by
  simp only [flatD] at hf;simp only [Rv] at h ⊢;obtain ⟨vs,h1,h2⟩:=h;exact ⟨vs,h1,RvL.flat hf h2⟩
 | .ud,_,hf,_=>by simp [flatD] at hf
 | .sl _ _ _,_,hf,_=>by simp [flatD] at hf
 | .pt _ _,_,hf,_=>by simp [flatD] at hf
 | .loc _ _,_,hf,_=>by simp [flatD] at hf
 | .el _ _,_,hf,_=>by simp [flatD] at hf
 | .ms _ _ _ _ _,_,hf,_=>by simp [flatD] at hf
 | .fn _ _ _,_,hf,_=>by simp [flatD] at hf
 | .rR _ _,_,hf,_=>by simp [flatD] at hf
theorem RvL.flat {E E':En}:∀ {l:List DV} {vs:List Value},flatL l=true->RvL E l vs->RvL E' l vs
 | [],vs,_,h=>by simpa only [RvL] using h
 | d :: r,vs,hf,h=>by
  simp only [flatL,bh] at hf;simp only [RvL] at h ⊢;obtain ⟨v,s,h1,h2,h3⟩:=h;exact ⟨v,s,h1,Rv.flat hf.1 h2,RvL.flat hf.2 h3⟩
end
theorem Nv {f:FuncId} {args bO:List DV} {d:Nat} {y:DV} (gY:Enters X.P f) (hc:aR X.P f bO y) (ha:CcL st.bx 0 0 0 bO args) (hy:flatD y=true) (hd:fU X.nt st.sl (some d)=true)
  (hk:go X 4000 k ⟨(d,⟨[],y⟩) :: st.sl,st.bx,st.tk⟩) (hst:X.still=false:=by exact rfl):CallG X f args (some d) k st:=by
 refine ⟨gY,hst,fun E a w vs h hv=>(kD h.env hc ha hv).mono ?_⟩;rintro e w' ⟨v,E2,rfl,hr,hm,_⟩;have hh:∀ i,i < w.heap.size->w'.heap[i]? = w.heap[i]?:=fun i hi=>hm.block i hi (fun h=>h);have cg:Rel X E st a w':=dF h (Ext.refl E) (h.env.iU hh) h.tk h.nw (h.fr.cy hm.os hm.tape hm.output hm.size fun i hi=>.inr (hh i hi)) (pj hst) (h.bt.iU fun b hb=>hh b (h.env.bw hb));exact go_sound 4000 _ _ hk E _ w' (bu cg hd y v (Rv.flat hy hr))
theorem ug {D:Dr} {c:Bool} {i:Nat} {s0:List (Nat × Sl)} {f:FuncId} {args bO:List DV} {d:Nat} {y:DV} {r:List (Nat × Oper)} (gY:Enters X.P f) (hc:aR X.P f bO y) (ha:CcL st.bx 0 0 0 bO args) (hy:flatD y=true) (hd:(fU X.nt st.sl (some d) && fU X.nt s0 (some d))=true)
  (hk:put2 s0 st (some d) true [] y (goD X D 3000 c r)) (hst:X.still=false:=by exact rfl):CI X D c i r f args (some d) s0 st:=by
 refine ⟨gY,fun hl E0 wr hD E a w vs h hv=>(kD h.rel.env hc ha hv).mono ?_⟩;rintro e w' ⟨v,E2,rfl,hr,hm,_⟩;have hh:∀ i,i < w.heap.size->w'.heap[i]? = w.heap[i]?:=fun i hi=>hm.block i hi (fun h=>h);have cg:Rel X E st a w':=dF h.rel (Ext.refl E) (h.rel.env.iU hh) h.rel.tk h.rel.nw (h.rel.fr.cy hm.os hm.tape hm.output hm.size fun i hi=>.inr (hh i hi)) (pj hst) (h.rel.bt.iU fun b hb=>hh b (h.rel.env.bw hb));have hs:J3 none E w E w':=⟨Ext.refl E,⟨[],by simp⟩,fun j b hb _=>hh b (h.rel.env.bw (mG hb))⟩;have hC:=MJ h hs cg (fun j hj=>by cases hj);refine ⟨v,rfl,fun _=>hC,?_⟩;have Hg:iq X ⟨D,E0,wr⟩ c E s0 st (a.put none v) w':=zu h hs cg (fun h1=>hC (h.cc h1)) (fun i x hx=>.inr ⟨hx,fun d hd=>by cases hd⟩) rfl;obtain ⟨s1,u9,lX,fm⟩:=j3 Hg hd true [] y v (fun _ _ p hp=>by cases hp) (fun _=>Rv.flat hy hr) (fun _ _=>Rv.flat hy hr) (fun hn=>(hn (bi _)).elim) hk;exact iJ (D:=⟨D,E0,wr⟩) hD 3000 c r _ _ lX hl E _ w' fm
theorem CallG.Kh {S:St} {f:FuncId} {args bO:List DV} {dst:Option Nat} (i j:Nat) (hS:st=gx i j S) (ha:args=renL (swp i j) bO) (Rm:Nat.ble X.n0 i=true) (G0:Nat.ble X.n0 j=true) (hi:Nat.blt i S.bx.length=true) (hj:Nat.blt j S.bx.length=true)
  (h:CallG X f bO dst k S) (hX:X.bt=[]:=by exact rfl):CallG X f args dst k st:=by
 subst hS ha;simp only [Nat.blt_eq] at hi hj;refine ⟨h.1,h.2.1,fun E a w vs hr hv=>?_⟩
 have hlen:E.β.length=S.bx.length:=by
  rw [hr.env.len];simp only [gx,gy,fo]
 exact h.2.2 _ a w vs (Hj hX hr (nL Rm) (nL G0) hi hj) (RvL.Kh (by rw [hlen];exact hi) (by rw [hlen];exact hj) hv)
end
end Dv
end Go.Proofs.YtfdedoiiahbnnaaGreat
set_option maxRecDepth 100000
namespace Go.Proofs.YtfdedoiiahbnnaaGreat
open Go Go.RowKit Dv Go.Proofs.Tryz
def cZ (l:List Int):List DV:=l.map fun z=>DV.v (.int .i64 z)
def KI (ag:List ByteArray) (tb lq:DV) (js:List Int):List DV:=.sl 1 (fQ ag) none :: tb :: lq :: cZ js
def oz:Option Nat->Int
 | none=>-1
 | some k=>(k:Int)
def HV (pb:Nat->Nat->Bool) (e:Nat):Option Nat->Bool
 | none=>true
 | some o=>pb e o
def bestA (mH:Nat->Bool) (pb:Nat->Nat->Bool):Nat->Option Nat
 | 0=>none
 | e + 1=>if mH e && HV pb e (bestA mH pb e) then some e else bestA mH pb e
def pV (mH:Nat->Bool) (pb:Nat->Nat->Bool) (n:Nat):Option Nat:=
 match bestA mH pb n with
 | none=>none
 | some o=>if (List.range n).any (fun c=>mH c && !pb o c) then none else some o
theorem pW {mH:Nat->Bool} {pb:Nat->Nat->Bool}:∀ {e k:Nat},bestA mH pb e=some k->k < e
 | 0,k,h=>by cases h
 | e + 1,k,h=>by
  rw [bestA] at h;split at h
  ·simp only [oI] at h;omega
  ·have:=pW h;omega
theorem vW (ag:List ByteArray) (tb:DV) (rows:List Nat) (js:List Int) (hr:eY rows) (a b:Nat) (ha:a < rows.length) (hb:b < rows.length) :
  aR prog 211 [.v (.int .i64 a),.v (.int .i64 b),.pt [.pt (KI ag tb (pq rows) js) 0] 0] (.v (.bool (bp rows a b))):=by
 have h1:=nv rows hr a b;rw [tW ha hb] at h1;refine eG 13 [.tmp 5] func211 rfl ntmps211 rfl fun _ _ _ _=>?_;refine cP Hq h1 ?_;exact (rfl:_=_)
theorem vX (ag:List ByteArray) (tb:DV) (rows:List Nat) (js:List Int) (hr:eY rows) (a b:Nat) (ha:a < rows.length) (hb:b < rows.length) :
  aR prog 213 [.v (.int .i64 a),.v (.int .i64 b),.pt [.pt (KI ag tb (pq rows) js) 0] 0] (.v (.bool (bp rows b a))):=by
 have h1:=nv rows hr b a;rw [tW hb ha] at h1;refine eG 13 [.tmp 5] func213 rfl ntmps213 rfl fun _ _ _ _=>?_;refine cP Hq h1 ?_;exact (rfl:_=_)
abbrev Zp (L:List DV):DV:=.fn 211 [] [.pt [.pt L 0] 0]
abbrev Zq (L:List DV):DV:=.fn 213 [] [.pt [.pt L 0] 0]
theorem Px (ag:List ByteArray) (tb:DV) (rows:List Nat) (js:List Int) (hr:eY rows) (a b c:Nat) (ha:a < rows.length) (hb:b < rows.length) (hc:c < rows.length) :
  aR prog 215 [.v (.int .i64 c),.pt [Zp (KI ag tb (pq rows) js)] 0,.pt [.v (.int .i64 a)] 0,.pt [.v (.int .i64 b)] 0] (.v (.bool (bp rows a c && bp rows b c))):=by
 have h1:=vW ag tb rows js hr a c ha hc;have h2:=vW ag tb rows js hr b c hb hc;refine eG 16 [.tmp 5] func215 rfl ntmps215 rfl fun _ _ _ _=>?_;refine cP RZ h1 ?_;refine br ?_ ?_<;>intro g
 ·have g:bp rows a c=true:=sU g;refine cP RZ h2 ?_;refine (dq ?_:);simp [g,pickB]
 ·have g:bp rows a c=false:=sU g;refine (dq ?_:);simp [g,pickB]
theorem Py (ag:List ByteArray) (tb:DV) (rows:List Nat) (js:List Int) (hr:eY rows) (a b c:Nat) (ha:a < rows.length) (hb:b < rows.length) (hc:c < rows.length) :
  aR prog 216 [.v (.int .i64 c),.pt [Zq (KI ag tb (pq rows) js)] 0,.pt [.v (.int .i64 a)] 0,.pt [.v (.int .i64 b)] 0] (.v (.bool (bp rows c a && bp rows c b))):=by
 have h1:=vX ag tb rows js hr a c ha hc;have h2:=vX ag tb rows js hr b c hb hc;refine eG 16 [.tmp 5] func216 rfl ntmps216 rfl fun _ _ _ _=>?_;refine cP R0 h1 ?_;refine br ?_ ?_<;>intro g
 ·have g:bp rows c a=true:=sU g;refine cP R0 h2 ?_;refine (dq ?_:);simp [g,pickB]
 ·have g:bp rows c a=false:=sU g;refine (dq ?_:);simp [g,pickB]
abbrev abm (L:List DV) (gi gb:Nat) (ci cb:List DV) (n:Nat) (o:Int) (e:Nat):St:=
 ⟨[vC 0 L,(1,⟨[],.fn gi [] ci⟩),(2,⟨[],.fn gb [] cb⟩),aC 7 o,aC 14 n,aC 15 e],[],[]⟩
abbrev Nx (L:List DV) (gi gb:Nat) (ci cb:List DV) (n:Nat) (o:Int) (e:Nat):St:=
 ⟨[vC 0 L,(1,⟨[],.fn gi [] ci⟩),(2,⟨[],.fn gb [] cb⟩),aC 7 o,aC 37 n,aC 38 e],[],[]⟩
theorem Dk (ag:List ByteArray) (tb lq:DV) (js:List Int) (gi gb:Nat) (hei:Enters prog gi) (heb:Enters prog gb) (ci cb:List DV) (mH:Nat->Bool) (pb:Nat->Nat->Bool)
  (af3:CcL [] 0 0 0 ci ci) (af4:CcL [] 0 0 0 cb cb) (hcli:clB.clL 0 0 ci=true) (hclb:clB.clL 0 0 cb=true) (hn:ag.length<=64)
  (B8:∀ c:Nat,c < ag.length->aR prog gi (.v (.int .i64 c) :: ci) (.v (.bool (mH c))))
  (hpb:∀ a b:Nat,a < ag.length->b < ag.length->aR prog gb (.v (.int .i64 a) :: .v (.int .i64 b) :: cb) (.v (.bool (pb a b)))) :
  aR prog 214 [.pt (KI ag tb lq js) 0,.fn gi [] ci,.fn gb [] cb] (.v (.int .i64 (oz (pV mH pb ag.length)))):=by
 have hN:=cX ag;have Fy:clB 0 0 (.fn gi [] ci)=true:=by simp only [clB,bh];exact ⟨rfl,hcli⟩
 have Fz:clB 0 0 (.fn gb [] cb)=true:=by simp only [clB,bh];exact ⟨rfl,hclb⟩
 refine eG 57 [.tmp 6] func214 rfl ntmps214 rfl fun _ _ _ _=>?_;refine lJ (fun e=>abm (KI ag tb lq js) gi gb ci cb (fQ ag).length (oz (bestA mH pb e)) e) ag.length (wkM (wB2 Fy Fz)) ?_;intro e he;refine br ?_ ?_<;>intro hL
 ·have az:e < ag.length:=by have:=hL;simp [hN] at this;exact this
  have hs:bestA mH pb (e + 1)=if mH e && HV pb e (bestA mH pb e) then some e else bestA mH pb e:=rfl
  refine cP hei (B8 e az) ?_ ⟨_,_,rfl,rfl,af3⟩
  cases hA:bestA mH pb e with
  | none=>
   rw [hA] at hs;refine br ?_ ?_<;>intro g
   ·have g:mH e=true:=by simpa [lastG] using g
    have hz:(e:Int)=oz (bestA mH pb (e + 1)):=by rw [hs,g];all_goals rfl
    exact rE ⟨_,by omega,e + 1,rfl,by omega,rfl⟩ (wkM (wB4 Fy Fz (nxt az (by omega)) hz))
   ·have g:mH e=false:=by simpa [lastG] using g
    have hz:oz none=oz (bestA mH pb (e + 1)):=by rw [hs,g];all_goals rfl
    exact rE ⟨_,by omega,e + 1,rfl,by omega,rfl⟩ (wkM (wB4 Fy Fz (nxt az (by omega)) hz))
  | some k=>
   rw [hA] at hs;have hk:=pW hA;refine br ?_ ?_<;>intro g
   ·have g:mH e=true:=by simpa [lastG] using g
    refine cP heb (hpb e k az (by omega)) ?_ ⟨_,_,rfl,rfl,_,_,rfl,rfl,af4⟩;refine br ?_ ?_<;>intro g2
    ·have g2:pb e k=true:=by simpa [pickB,g,lastG] using g2
     have hz:(e:Int)=oz (bestA mH pb (e + 1)):=by rw [hs,g,HV,g2];all_goals rfl
     exact rE ⟨_,by omega,e + 1,rfl,by omega,rfl⟩ (wkM (wB4 Fy Fz (nxt az (by omega)) hz))
    ·have g2:pb e k=false:=by simpa [pickB,g,lastG] using g2
     have hz:oz (some k)=oz (bestA mH pb (e + 1)):=by rw [hs,g,HV,g2];all_goals rfl
     exact rE ⟨_,by omega,e + 1,rfl,by omega,rfl⟩ (wkM (wB4 Fy Fz (nxt az (by omega)) hz))
   ·have g:mH e=false:=by simpa [lastG] using g
    have hz:oz (some k)=oz (bestA mH pb (e + 1)):=by rw [hs,g];all_goals rfl
    exact rE ⟨_,by omega,e + 1,rfl,by omega,rfl⟩ (wkM (wB4 Fy Fz (nxt az (by omega)) hz))
 ·have hge:e=ag.length:=sW hN hL;subst hge;refine lI (fun j st=>∃ e:Nat,st=Nx (KI ag tb lq js) gi gb ci cb (fQ ag).length (oz (bestA mH pb ag.length)) e/\e<=ag.length/\(∀ o,bestA mH pb ag.length=some o->∀ c,c < e->(mH c && !pb o c)=false)/\j=ag.length - e) ⟨0,rfl,by omega,fun _ _ c hc=>by omega,rfl⟩ (wkM (wB2 Fy Fz)) ?_;rintro j st ⟨e,rfl,he,hno,rfl⟩;refine br ?_ ?_<;>intro hL
  ·have az:e < ag.length:=by have:=hL;simp [hN] at this;exact this
   cases hA:bestA mH pb ag.length with
   | none=>
    exact ⟨Nx (KI ag tb lq js) gi gb ci cb (fQ ag).length (oz none) (e + 1),(wkM (wB3 Fy Fz (nxt az (by omega)))),ag.length - (e + 1),by omega,e + 1,rfl,by omega,(fun _ h=>by cases h),rfl⟩
   | some o=>
    have ho:=pW hA;have hno:=hno o hA;refine cP hei (B8 e az) ?_ ⟨_,_,rfl,rfl,af3⟩;refine br ?_ ?_<;>intro g
    ·have g:mH e=true:=by simpa [pickB] using g
     refine cP heb (hpb o e ho az) ?_ ⟨_,_,rfl,rfl,_,_,rfl,rfl,af4⟩;refine br ?_ ?_<;>intro g2
     ·have g2:pb o e=false:=by simpa [pickB,g,lastG] using g2
      have:pV mH pb ag.length=none:=by
       rw [pV,hA];simp only;rw [zIfP];rw [List.any_eq_true];exact ⟨e,by simpa using az,by simp [g,g2]⟩
      rw [this];exact (rfl:_=_)
     ·have g2:pb o e=true:=by simpa [pickB,g,lastG] using g2
      exact rE ⟨_,by omega,e + 1,rfl,by omega,fun o' My c hc=>by
       cases My;rcases rP hc with hc | rfl
       ·exact hno c hc
       ·simp [g2],rfl⟩ (wkM (wB3 Fy Fz (nxt az (by omega))))
    ·have g:mH e=false:=by simpa [pickB] using g
     exact rE ⟨_,by omega,e + 1,rfl,by omega,fun o' My c hc=>by
       cases My;rcases rP hc with hc | rfl
       ·exact hno c hc
       ·simp [g],rfl⟩ (wkM (wB3 Fy Fz (nxt az (by omega))))
  ·have hge:e=ag.length:=sW hN hL;subst hge
   have:pV mH pb ag.length=bestA mH pb ag.length:=by
    cases hA:bestA mH pb ag.length with
    | none=>rw [pV,hA]
    | some o=>
     rw [pV,hA];simp only;rw [af];rw [List.any_eq_true];rintro ⟨c,hc,h2⟩;rw [hno o hA c (sU hc)] at h2;cases h2
   rw [this];exact (rfl:_=_)
theorem vY (js:List Int) (bx:List (List DV)) (N n m:Nat):CcL bx N n m (cZ js) (cZ js):=by
 induction js with
 | nil=>exact rfl
 | cons z r ih=>exact ⟨_,_,rfl,rfl,ih⟩
theorem vB {n m:Nat} {tk:List TkE} (js:List Int):WeL n m tk (cZ js) (cZ js):=Af _ fun x hx=>by
 obtain ⟨z,_,rfl⟩:=List.mem_map.1 hx;exact ⟨_,rfl⟩
theorem abn (f:Nat->Nat) (js:List Int):renL f (cZ js)=cZ js:=by
 induction js with
 | nil=>rfl
 | cons z r ih=>simp only [cZ,List.map_cons,renL,renD] at ih ⊢;rw [ih]
theorem abo (js:List Int):(cZ js).length=js.length:=by simp [cZ]
theorem Tj (js:List Int) (i:Nat) (z:Int):(cZ js).set i (.v (.int .i64 z))=cZ (js.set i z):=by simp [cZ,List.map_set]
abbrev jS (ag:List ByteArray) (tc:List DV) (rows:List Nat) (js:List Int):List DV:=KI ag (.pt tc 0) (pq rows) js
theorem WU (ag:List ByteArray) (tc:List DV) (rows:List Nat) (js:List Int):(jS ag tc rows js).length=js.length + 3:=by simp [KI,cZ]
theorem yE {ag:List ByteArray} {tc:List DV} {rows:List Nat} {js:List Int} {i k:Nat} {z:Int} (h:k=i + 3):(jS ag tc rows js).set k (.v (.int .i64 z))=jS ag tc rows (js.set i z):=by grind [KI,Tj]
theorem WV (f:Nat->Nat) (ag:List ByteArray) (tc:List DV) (rows:List Nat) (js:List Int):renL f (jS ag tc rows js)=jS ag tc rows js:=by
 simp only [KI,renL,abn];rfl
theorem Ny {n m:Nat} {tk:List TkE} {l:List DV} {ag:List ByteArray} {tc:List DV} {rows:List Nat} {js:List Int} (h:l=jS ag tc rows js):WeL n m tk l (jS ag tc rows js):=by
 subst h;exact ⟨_,_,rfl,aA rfl,_,_,rfl,aA rfl,_,_,rfl,aA rfl,vB js⟩
def gk (f:Nat->Nat->Bool) (n a b:Nat):Option Nat:=pV (fun c=>f a c && f b c) f n
def j7 (f:Nat->Nat->Bool) (n a b:Nat):Option Nat:=pV (fun c=>f c a && f c b) (fun x y=>f y x) n
theorem Aq (f:Nat->Nat->Bool) (n a b:Nat):gk f n a b=gk f n b a:=by grind [gk]
theorem Ar (f:Nat->Nat->Bool) (n a b:Nat):j7 f n a b=j7 f n b a:=by grind [j7]
def nB (f:Nat->Nat->Bool) (n a b:Nat):Bool:=(gk f n a b).isNone || (j7 f n a b).isNone
def pX (f:Nat->Nat->Bool) (n b:Nat):Bool:=(List.range (b + 1)).any fun a=>nB f n a b
def JM (f:Nat->Nat->Bool) (n:Nat) (js:List Int) (a b:Nat):Prop:=js[a * 32 + b]? = some (oz (gk f n a b))/\js[1024 + (a * 32 + b)]? = some (oz (j7 f n a b))
def Cd (js:List Int) (a b:Nat) (j m:Int):List Int:=(((js.set (a * 32 + b) j).set (b * 32 + a) j).set (1024 + (a * 32 + b)) m).set (1024 + (b * 32 + a)) m
theorem Tk (js:List Int) (a b:Nat) (j m:Int):(Cd js a b j m).length=js.length:=by simp [Cd]
theorem sy {js:List Int} {i k:Nat} {z:Int} (h:k≠i):(js.set k z)[i]? = js[i]?:=List.getElem?_set_ne h
theorem Nz {f:Nat->Nat->Bool} {n:Nat} {js:List Int} (hl:js.length=2048) {a b:Nat} (ha:a < 32) (hb:b < 32) {x y:Nat} (hx:x < 32) (hy:y < 32)
  (h:JM f n js x y∨(x=a/\y=b)∨(x=b/\y=a)):JM f n (Cd js a b (oz (gk f n a b)) (oz (j7 f n a b))) x y:=by
 have key:(x=a/\y=b)∨(x=b/\y=a)∨(JM f n js x y/\¬ (x=a/\y=b)/\¬ (x=b/\y=a)):=by grind
 rcases key with ⟨rfl,rfl⟩ | ⟨rfl,rfl⟩ | ⟨h,h1,h2⟩
 ·grind [JM,Cd,sy]
 ·grind [JM,Cd,Aq,Ar,sy]
 ·grind [JM,Cd,sy]
abbrev Zr (ag:List ByteArray) (tc:List DV) (rows:List Nat) (js:List Int) (e:Nat):St:=
 ⟨[aJ 1 1,aJ 3 2,aJ 4 3,aC 15 ((fQ ag).length),aC 16 e],
  [jS ag tc rows js,[.loc 0 0],[.fn 211 [] [.loc 1 0]],[.fn 213 [] [.loc 1 0]]],[]⟩
abbrev KJ (ag:List ByteArray) (tc:List DV) (rows:List Nat) (js:List Int) (e f:Nat):St:=
 ⟨[aJ 1 1,aJ 3 2,aJ 4 3,aC 15 ((fQ ag).length),aC 16 e,aJ 5 4,aJ 6 5],
  [jS ag tc rows js,[.loc 0 0],[.fn 211 [] [.loc 1 0]],[.fn 213 [] [.loc 1 0]],[.v (.int .i64 e)],[.v (.int .i64 f)]],[]⟩
abbrev Tl (ag:List ByteArray) (tc:List DV) (rows:List Nat) (js:List Int) (e f:Nat):St:=
 ⟨[aJ 1 1,aJ 3 2,aJ 4 3,aC 15 ((fQ ag).length),aC 16 e,aJ 5 4,aJ 6 6],
  [jS ag tc rows js,[.loc 0 0],[.fn 211 [] [.loc 1 0]],[.fn 213 [] [.loc 1 0]],[.v (.int .i64 e)],[.v (.int .i64 f)],[.v (.int .i64 (f + 1:Nat))]],[]⟩
abbrev Tm (ag:List ByteArray) (tc:List DV) (rows:List Nat) (js:List Int) (e f:Nat):St:=
 ⟨[aJ 1 1,aJ 3 2,aJ 4 3,aC 15 ((fQ ag).length),aC 16 e,aJ 5 4,aJ 6 5],
  [jS ag tc rows js,[.loc 0 0],[.fn 211 [] [.loc 1 0]],[.fn 213 [] [.loc 1 0]],[.v (.int .i64 e)],[.v (.int .i64 (f + 1:Nat))],[.v (.int .i64 f)]],[]⟩
theorem WW (ag:List ByteArray) (tc:List DV) (rows:List Nat) (js:List Int) (e f:Nat):Tl ag tc rows js e f=gx 5 6 (Tm ag tc rows js e f):=by
 simp only [gx,renO,WV];rfl
def BndΦ (ag:List ByteArray) (tc:List DV) (rows:List Nat) (r:DV) (os:List (List DV)) (_:List TkE):Prop:=
 ∃ js',os=[jS ag tc rows js']/\js'.length=2048/\r = .v (.int .i64 (oz (cA (pX (bp rows) ag.length) ag.length))) /\
  (cA (pX (bp rows) ag.length) ag.length=none->∀ x y,x < ag.length->y < ag.length->JM (bp rows) ag.length js' x y)
theorem HX (ag:List ByteArray) (tc:List DV) (rows:List Nat) (js:List Int) (hr:eY rows) (hlen:rows.length=ag.length) (hn:ag.length<=32) (hj:js.length=2048) :
  Ev prog 130 [.loc 0 0] [jS ag tc rows js] [] (BndΦ ag tc rows):=by
 have hN:=cX ag;refine eG 73 [.tmp 2] func130 rfl ntmps130 rfl fun _ _ _ _=>?_;refine lI (fun j st=>∃ (e:Nat) (js:List Int),st=Zr ag tc rows js e/\e<=ag.length/\js.length=2048/\(∀ b,b < e->pX (bp rows) ag.length b=false)/\(∀ x y,x < e->y < e->JM (bp rows) ag.length js x y)/\j=ag.length - e) ⟨0,js,rfl,by omega,hj,fun _ h=>by omega,fun _ _ h=>by omega,rfl⟩ (ej 4 tJ lW) ?_;rintro j st ⟨e,js,rfl,he,hj,hno,FA,rfl⟩;refine br ?_ ?_<;>intro hL
 ·have az:e < ag.length:=by have:=hL;simp [hN] at this;exact this
  refine KH (fun j st=>∃ (f:Nat) (js:List Int),st=KJ ag tc rows js e f/\f<=e + 1/\js.length=2048/\(∀ a,a < f->nB (bp rows) ag.length a e=false)/\(∀ x y,x < e->y < e->JM (bp rows) ag.length js x y)/\(∀ x,x < f->JM (bp rows) ag.length js x e/\JM (bp rows) ag.length js e x)/\j=e + 1 - f) (e + 1) (KJ ag tc rows js e 0) (.abg (ej 6 tJ lW)) ⟨0,js,rfl,by omega,hj,fun _ h=>by omega,FA,fun _ h=>by omega,by omega⟩ ?_;clear FA hj;rintro j st ⟨f,js,rfl,hf,hj,hla,FA,hje,rfl⟩;refine br ?_ ?_<;>intro n7
  ·have Yp:f<=e:=by have:=n7;simp at this;exact this
   have mb:=Dk ag (.pt tc 0) (pq rows) js 215 211 aeN RZ
    [.pt [Zp (jS ag tc rows js)] 0,.pt [.v (.int .i64 f)] 0,.pt [.v (.int .i64 e)] 0] [.pt [.pt (jS ag tc rows js) 0] 0] (fun c=>bp rows f c && bp rows e c) (bp rows) ax ax rfl rfl (by omega)
    (fun c hc=>Px ag (.pt tc 0) rows js hr f e c (by omega) (by omega) (by omega)) (fun a b ha hb=>vW ag (.pt tc 0) rows js hr a b (by omega) (by omega))
   have iI:=Dk ag (.pt tc 0) (pq rows) js 216 213 aeO R0
    [.pt [Zq (jS ag tc rows js)] 0,.pt [.v (.int .i64 f)] 0,.pt [.v (.int .i64 e)] 0] [.pt [.pt (jS ag tc rows js) 0] 0] (fun c=>bp rows c f && bp rows c e) (fun x y=>bp rows y x) ax ax rfl rfl (by omega)
    (fun c hc=>Py ag (.pt tc 0) rows js hr f e c (by omega) (by omega) (by omega)) (fun a b ha hb=>vX ag (.pt tc 0) rows js hr a b (by omega) (by omega))
   refine E6 YM mb (by repeat' (first | exact rfl | exact trivial | exact Or.inr (Or.inl ⟨_,rfl⟩) | exact Or.inr ⟨_,rfl⟩ | exact Or.inl ⟨rfl,rfl⟩ | exact Or.inl rfl | refine Or.inr ⟨_,_,rfl,Nat.zero_le _,rfl,?_⟩ | refine ⟨_,_,rfl,?_,?_⟩ | refine ⟨_,rfl,?_⟩ | exact vY _ _ _ _ _ | refine Or.inr (Or.inr (Or.inr ⟨_,_,rfl,?_⟩)) | exact Or.inl rfl | refine Or.inr ?_)) rfl ?_;refine E6 YM iI (by repeat' (first | exact rfl | exact trivial | exact Or.inr (Or.inl ⟨_,rfl⟩) | exact Or.inr ⟨_,rfl⟩ | exact Or.inl ⟨rfl,rfl⟩ | exact Or.inl rfl | refine Or.inr ⟨_,_,rfl,Nat.zero_le _,rfl,?_⟩ | refine ⟨_,_,rfl,?_,?_⟩ | refine ⟨_,rfl,?_⟩ | exact vY _ _ _ _ _ | refine Or.inr (Or.inr (Or.inr ⟨_,_,rfl,?_⟩)) | exact Or.inl rfl | refine Or.inr ?_)) rfl ?_
   have hlk:pickB (decide (oz (gk (bp rows) ag.length f e) = -1)) true (decide (oz (j7 (bp rows) ag.length f e) = -1))=nB (bp rows) ag.length f e:=by
    unfold nB
    cases gk (bp rows) ag.length f e with
    | none=>rfl
    | some j=>
     have:decide (oz (some j) = -1)=false:=by simp [oz]
     rw [this]
     cases j7 (bp rows) ag.length f e with
     | none=>rfl
     | some m=>
      have:decide (oz (some m) = -1)=false:=by simp [oz]
      rw [this];rfl
   refine br ?_ ?_<;>intro g
   ·have g:nB (bp rows) ag.length f e=true:=hlk.symm.trans g;have hb:pX (bp rows) ag.length e=true:=by grind [pX]
    have s6:=dR (p:=pX (bp rows) ag.length) az hb hno;refine ⟨.v (.int .i64 e),[jS ag tc rows js],ax,(by repeat' (first | exact rfl | exact trivial | exact Or.inr (Or.inl ⟨_,rfl⟩) | exact Or.inr ⟨_,rfl⟩ | exact Or.inl ⟨rfl,rfl⟩ | exact Or.inl rfl | refine Or.inr ⟨_,_,rfl,Nat.zero_le _,rfl,?_⟩ | refine ⟨_,_,rfl,?_,?_⟩ | refine ⟨_,rfl,?_⟩ | exact vY _ _ _ _ _ | refine Or.inr (Or.inr (Or.inr ⟨_,_,rfl,?_⟩)) | exact Or.inl rfl | refine Or.inr ?_)),js,rfl,hj,?_,fun h=>by rw [s6] at h;cases h⟩;rw [s6];rfl
   ·have g:nB (bp rows) ag.length f e=false:=hlk.symm.trans g;refine aE [0] (fun _=>false) mo (by decide +kernel) ?_;have iP:=WU ag tc rows js;refine ⟨⟨by omega,by omega⟩,?_⟩;refine ⟨⟨by omega,by omega⟩,?_⟩;refine ⟨by rw [iP];omega,?_⟩;refine ⟨⟨by omega,by omega⟩,?_⟩;refine ⟨⟨by omega,by omega⟩,?_⟩;refine ⟨by rw [List.length_set,iP];omega,?_⟩;refine aE [0] (fun _=>false) mo (by decide +kernel) ?_;refine ⟨⟨by omega,by omega⟩,?_⟩;refine ⟨⟨by omega,by omega⟩,?_⟩;refine ⟨by rw [List.length_set,List.length_set,iP];omega,?_⟩;refine ⟨⟨by omega,by omega⟩,?_⟩;refine ⟨⟨by omega,by omega⟩,?_⟩;refine ⟨by rw [List.length_set,List.length_set,List.length_set,iP];omega,?_⟩
    have ib:((((jS ag tc rows js).set (0 + 0 + 3 + (f:Int).toNat * 32 + (e:Int).toNat * 1) (DV.v (.int .i64 (oz (gk (bp rows) ag.length f e))))).set (0 + 0 + 3 + (e:Int).toNat * 32 + (f:Int).toNat * 1) (DV.v (.int .i64 (oz (gk (bp rows) ag.length f e))))).set (0 + 0 + 1027 + (f:Int).toNat * 32 + (e:Int).toNat * 1) (DV.v (.int .i64 (oz (j7 (bp rows) ag.length f e))))).set (0 + 0 + 1027 + (e:Int).toNat * 32 + (f:Int).toNat * 1) (DV.v (.int .i64 (oz (j7 (bp rows) ag.length f e))))=jS ag tc rows (Cd js f e (oz (gk (bp rows) ag.length f e)) (oz (j7 (bp rows) ag.length f e))):=by
     rw [yE (i:=f * 32 + e) (by omega),yE (i:=e * 32 + f) (by omega),yE (i:=1024 + (f * 32 + e)) (by omega),yE (i:=1024 + (e * 32 + f)) (by omega)];rfl
    refine ⟨KJ ag tc rows (Cd js f e (oz (gk (bp rows) ag.length f e)) (oz (j7 (bp rows) ag.length f e))) e (f + 1),
     .trans (.abg (s2:=Tl ag tc rows (Cd js f e (oz (gk (bp rows) ag.length f e)) (oz (j7 (bp rows) ag.length f e))) e f) (ej 7 (by repeat' (first | exact rfl | exact aA rfl | exact Ny ib | exact aG (nxt (n:=e + 1) (by omega) (by omega)) | refine ⟨_,_,rfl,?_,?_⟩)) (by repeat' (first | exact trivial | exact aA rfl | exact Ny ib | exact aG (nxt (n:=e + 1) (by omega) (by omega)) | refine ⟨⟨_,rfl,?_⟩,?_⟩))))
      (.trans (.Kh 5 6 (Tm ag tc rows (Cd js f e (oz (gk (bp rows) ag.length f e)) (oz (j7 (bp rows) ag.length f e))) e f) _ (WW _ _ _ _ _ _) rfl rfl rfl rfl) (.abg (ej 6 tJ lW))),
     e + 1 - (f + 1),by omega,f + 1,_,rfl,by omega,by rw [Tk];exact hj,fun a ha=>?_,fun x y hx hy=>?_,fun x hx=>?_,rfl⟩
    ·grind
    ·grind [Nz]
    ·grind [Nz]
  ·have Yp:f=e + 1:=by have:=n7;simp at this;omega
   subst Yp;have hb:pX (bp rows) ag.length e=false:=by grind [pX]
   refine ⟨Zr ag tc rows js (e + 1),(ej 4 (ng (nxt az (by omega))) (wB1 (nxt az (by omega)))),ag.length - (e + 1),by omega,e + 1,js,rfl,by omega,hj,fun b fj=>?_,fun x y hx hy=>?_,rfl⟩
   ·grind
   ·grind
 ·have hge:e=ag.length:=sW hN hL;subst hge;refine ⟨.v (.int .i64 (-1)),[jS ag tc rows js],ax,(by repeat' (first | exact rfl | exact trivial | exact Or.inr (Or.inl ⟨_,rfl⟩) | exact Or.inr ⟨_,rfl⟩ | exact Or.inl ⟨rfl,rfl⟩ | exact Or.inl rfl | refine Or.inr ⟨_,_,rfl,Nat.zero_le _,rfl,?_⟩ | refine ⟨_,_,rfl,?_,?_⟩ | refine ⟨_,rfl,?_⟩ | exact vY _ _ _ _ _ | refine Or.inr (Or.inr (Or.inr ⟨_,_,rfl,?_⟩)) | exact Or.inl rfl | refine Or.inr ?_)),js,rfl,hj,?_,fun _=>FA⟩;rw [eI hno];rfl
def atN (l:List Wd) (k:Nat):Int:=((l[k]?).getD (⟨aM,0⟩:Wd)).a
def latF (l:List Wd) (o:List (Wd × Wd)):Ft:=
 if (hU l o).1≠0 then hU l o
 else if (enumL l 0 l).1≠0 then enumL l 0 l
 else if (numF (aF l) o).1≠0 then numF (aF l) o
 else match cA (mn l.length (fC l.length (dL (aF l) o))) l.length with
  | some a=>(11,atN l a)
  | none=>
   match cA (pX (fC l.length (dL (aF l) o)) l.length) l.length with
   | some b=>(12,atN l b)
   | none=>(0,0)
def abt (l:List Wd) (o:List (Wd × Wd)) (d:DV):Prop:=
 ∃ aN js,jy (aF l) aN/\aN.length<=l.length/\js.length=2048/\(∀ x y,x < l.length->y < l.length->JM (fC l.length (dL (aF l) o)) l.length js x y) /\
  d = .pt (jS (aF l) (dB (aF l) aN) (closeR (gA l.length (dL (aF l) o)) l.length) js) 0
def KK (l:List Wd) (o:List (Wd × Wd)) (r:DV) (_:List (List DV)) (_:List TkE):Prop:=
 if (latF l o).1≠0 then r = .bo [.v (.pointer none),(latF l o).d] else ∃ d,abt l o d/\r = .bo [d,(latF l o).d]
theorem qT {L:List ByteArray}:∀ {o:List (Wd × Wd)},(numF L o).1=0->vT L.length (dL L o)
 | [],_=>by intro p hp;simp [dL] at hp
 | q :: r,h=>by
  rw [numF] at h;split at h
  ·cases h
  ·rename_i h1;split at h
   ·cases h
   ·rename_i h2;have ih:=qT (o:=r) h;intro p hp;simp only [dL,List.map_cons,List.mem_cons] at hp;rcases hp with rfl | hp
    ·obtain ⟨a,ha⟩:=Option.ne_none_iff_exists'.1 h1;obtain ⟨b,hb⟩:=Option.ne_none_iff_exists'.1 h2;simp only [abf,ha,hb,Option.getD_some];exact ⟨(dX ha).1,(dX hb).1⟩
    ·exact ih p hp
theorem ee (l:List Wd):(aF l).length=l.length:=by simp [aF]
theorem As {all:List Wd}:∀ {l:List Wd} {i:Nat},(enumL all i l).1=0->enumL all i l=(0,0)
 | [],_,_=>rfl
 | x :: r,i,h=>by
  rw [enumL] at h ⊢;split at h
  ·rename_i h1;exact (h1 h).elim
  ·rename_i h1;rw [af h1];exact As h
theorem Dl {L:List ByteArray}:∀ {o:List (Wd × Wd)},(numF L o).1=0->numF L o=(0,0)
 | [],_=>rfl
 | q :: r,h=>by
  rw [numF] at h ⊢;split at h
  ·cases h
  ·rename_i h1;split at h
   ·cases h
   ·rename_i h2;rw [af h1,af h2];exact Dl h
theorem mq {l:List Wd} {k:Nat} {w:Wd} (h:l[k]? = some w):atN l k=w.a:=by simp [atN,h]
theorem abu (n:Nat):vL (List.replicate n (.int .i64 0))=cZ (List.replicate n 0):=by
 induction n with
 | zero=>rfl
 | succ n ih=>simp only [List.replicate_succ,vL,cZ,List.map_cons] at ih ⊢;rw [ih]
theorem pY {l:List Wd} {o:List (Wd × Wd)} {f:Ft} {os:List (List DV)} {tk:List TkE} (h:latF l o=f) (hf:f.1≠0):KK l o (.bo [.v (.pointer none),f.d]) os tk:=by
 unfold KK;rw [h,zIfP hf]
theorem WX {l:List Wd} {o:List (Wd × Wd)} {d:DV} {os:List (List DV)} {tk:List TkE} (h:latF l o=(0,0)) (hd:abt l o d):KK l o (.bo [d,Ft.d (0,0)]) os tk:=by grind [KK]
theorem WY (n m:Nat) (ag:List ByteArray) (tc:List DV) (rows:List Nat) (js:List Int):clB.clL n m (jS ag tc rows js)=true:=by
 have h:∀ l:List Int,clB.clL n m (cZ l)=true:=by
  intro l
  induction l with
  | nil=>rfl
  | cons z r ih=>simp only [cZ,List.map_cons,clB.clL,clB,Bool.true_and] at ih ⊢;exact ih
 simp only [KI,clB.clL,clB,h,pq,Bool.and_self]
theorem HY (l:List Wd) (o:List (Wd × Wd)) (hs:wdsWt l<=1099511627776) (Cy:prsWt o<=1099511627776) :
  Ev prog 61 [.sl 2 (bA l) none,.sl 4 (ez o) none] [] [] (KK l o):=by
 have qJ:=bW l;have Rz:=kQ o;have ir:=ee l;have hF:=latF.eq_1 l o;refine eG 86 [.tmp 4,.cell 5 26] func61 rfl ntmps61 rfl fun _ _ _ _=>?_;refine cP aet (Pu l o) ?_;by_cases hm:(hU l o).1≠0
 ·rw [zIfP hm] at hF;refine br ?_ ?_<;>intro h
  ·refine dS ?_;exact ⟨_,ax,pY (os:=[]) (tk:=[]) hF hm⟩
  ·exfalso;simp at h;exact hm h
 rw [af hm] at hF;refine br (fun h=>?_) (fun _=>?_)
 ·exfalso;simp at h;exact hm h
 have Hk:l ≠ []:=by
  rintro rfl;simp [hU] at hm
 have hl32:l.length<=32:=by grind [hU]
 have ye:=HT l hs;unfold afX at ye;by_cases hE:(enumL l 0 l).1≠0
 ·rw [af hE] at ye;rw [zIfP hE] at hF;refine cP YA ye ?_;refine br ?_ ?_<;>intro h
  ·refine dS ?_;exact ⟨_,ax,pY (os:=[]) (tk:=[]) hF hE⟩
  ·exfalso;simp at h;exact hE h
 rw [af hE] at hF;have hE:(enumL l 0 l).1=0:=sU hE;rw [zIfP hE] at ye;rw [As hE] at ye;refine cP YA ye ?_;refine bZ RQ rfl (zP (aF l) (by omega)) ax (fun r hr=>?_);obtain ⟨aN,hT,nZ,rfl⟩:=hr;have jT:=Cb (aF l) aN hT (by omega) o Cy;unfold afY at jT;by_cases hN:(numF (aF l) o).1≠0
 ·rw [af hN] at jT;rw [zIfP hN] at hF;refine cP YB jT ?_;refine br ?_ ?_<;>intro h
  ·refine dS ?_;exact ⟨_,ax,pY (os:=[]) (tk:=[]) hF hN⟩
  ·exfalso;simp at h;exact hN h
 rw [af hN] at hF;have hN:(numF (aF l) o).1=0:=sU hN;rw [zIfP hN] at jT;rw [Dl hN] at jT;have hP:=qT hN;rw [ir] at hP;have hPl:(dL (aF l) o).length=o.length:=by simp [dL]
 generalize hPP:dL (aF l) o=P at jT hF hP hPl;refine cP YB jT ?_;have hLn:(fQ (aF l)).length=l.length:=by rw [cX,ir]
 have hPb:P.length<=1099511627776:=by omega
 have hro:=Fq (n:=l.length) (by omega) P hP;have gW:=lD l.length P;have QU:gA l.length P ≠ []:=fun h=>Hk (List.eq_nil_of_length_eq_zero (by rw [<- gW,h];rfl));refine cP aeu (Pm l.length (by omega) P hP hPb) ?_ (o9 hLn);have hlo:=KE _ hro QU;rw [gW,WN (by omega) hP] at hlo
 cases hA:cA (mn l.length (fC l.length P)) l.length with
 | some a=>
  rw [hA] at hlo hF;simp only at hF;have Yq:=(gC hA).1;obtain ⟨w,hw⟩:∃ w,l[a]? = some w:=⟨_,gE Yq⟩;rw [mq hw] at hF;refine cP YC hlo ?_;refine dS ?_;refine ⟨jK w,⟨by omega,bn hw⟩,?_⟩;exact ⟨_,ax,pY (os:=[]) (tk:=[]) hF (by simp)⟩
 | none=>
 rw [hA] at hlo hF;simp only at hF;refine cP YC hlo ?_;have fX:=xG _ hro QU;rw [gW] at fX;have hcok:=ny hro l.length (by omega);have af5:=gB (gA l.length P) l.length;rw [gW] at af5;refine cP YD fX ?_;have hrep:(List.replicate 2048 (0:Int)).length=2048:=List.length_replicate
 have cx:CcL [] 0 0 0 (jS (aF l) (dB (aF l) aN) (closeR (gA l.length P) l.length) (List.replicate 2048 0)) (.sl 1 (fQ (aF l)) none :: .pt (dB (aF l) aN) 0 :: pq (closeR (gA l.length P) l.length) :: vL (List.replicate 2048 (.int .i64 0))):=by
  refine ⟨_,_,rfl,Or.inr (Or.inl ⟨_,rfl⟩),_,_,rfl,Or.inl rfl,_,_,rfl,Or.inl rfl,?_⟩;rw [abu];exact vY _ _ _ _ _
 have hbn:=HX (aF l) (dB (aF l) aN) _ (List.replicate 2048 0) hcok (by omega) (by omega) hrep;refine oq aev rfl rfl cx ax hbn (fun r os tk h=>?_) (fun r va h=>?_)
 ·obtain ⟨js',rfl,_,rfl,_⟩:=h;refine ⟨rfl,fun va h=>?_⟩;rw [List.mem_singleton.1 h];exact WY _ _ _ _ _ _
 obtain ⟨js',h1,hj2,hr,FA⟩:=h;simp only [List.cons.injEq,and_true] at h1;subst h1
 have hB:cA (pX (bp (closeR (gA l.length P) l.length)) (aF l).length) (aF l).length=cA (pX (fC l.length P) l.length) l.length:=by
  rw [ir];rfl
 rw [hB] at hr FA
 cases hb:cA (pX (fC l.length P) l.length) l.length with
 | some b=>
  rw [hb] at hr hF;subst hr;simp only at hF;have hbl:=(gC hb).1;obtain ⟨w,hw⟩:∃ w,l[b]? = some w:=⟨_,gE hbl⟩;rw [mq hw] at hF;refine dS ?_;refine ⟨jK w,⟨by simp only [oz];omega,bn hw⟩,?_⟩;exact ⟨_,ax,pY (os:=[]) (tk:=[]) hF (by simp)⟩
 | none=>
  rw [hb] at hr hF;subst hr;simp only at hF;refine ⟨.bo [.pt (jS (aF l) (dB (aF l) aN) (closeR (gA l.length P) l.length) js') 0,Ft.d (0,0)],(by repeat' (first | exact rfl | exact trivial | exact Or.inr (Or.inl ⟨_,rfl⟩) | exact Or.inr ⟨_,rfl⟩ | exact Or.inl ⟨rfl,rfl⟩ | exact Or.inl rfl | refine Or.inr ⟨_,_,rfl,Nat.zero_le _,rfl,?_⟩ | refine ⟨_,_,rfl,?_,?_⟩ | refine ⟨_,rfl,?_⟩ | exact vY _ _ _ _ _ | refine Or.inr (Or.inr (Or.inr ⟨_,_,rfl,?_⟩)) | exact Or.inl rfl | refine Or.inr ?_)),WX (os:=[]) (tk:=[]) hF ⟨aN,js',hT,by omega,hj2,?_,by rw [hPP]⟩⟩;rw [hPP];rw [ir] at FA;exact FA hb
section
variable (ag:List ByteArray) (tc:List DV) (rows:List Nat) (js:List Int)
theorem vZ:aR prog 110 [.pt (jS ag tc rows js) 0] (.v (.int .i64 ag.length)):=by
 refine eG 10 [.tmp 2] func110 rfl ntmps110 rfl fun _ _ _ _=>?_;refine (rY ?_:);rw [cX]
theorem Dm (i:Int):aR prog 199 [.pt (jS ag tc rows js) 0,.v (.int .i64 i)] (.v (.bool (decide (0<=i) && decide (i < ag.length)))):=by
 refine eG 13 [.tmp 4] func199 rfl ntmps199 rfl fun _ _ _ _=>?_;refine br ?_ ?_<;>intro g
 ·have g:decide (0<=i)=true:=sU g;refine cP RP (vZ ag tc rows js) ?_;refine (dq ?_:);simp [g,pickB]
 ·have g:decide (0<=i)=false:=sU g;refine (dq ?_:);simp [g,pickB]
theorem ui {a:Nat} (h:a < ag.length):aR prog 199 [.pt (jS ag tc rows js) 0,.v (.int .i64 a)] (.v (.bool true)):=by
 have:=Dm ag tc rows js a;have e:(decide (0<=(a:Int)) && decide ((a:Int) < ag.length))=true:=by simp [h]
 rw [e] at this;exact this
end
theorem KL (ag:List ByteArray) (aN rows:List Nat) (js:List Int) (s:ByteArray) (hT:jy ag aN) (hl:aN.length<=1099511627776) :
  aR prog 47 [.pt (jS ag (dB ag aN) rows js) 0,.v (.string s)] (S8 (dC ag s)):=by
 have h:=jR ag aN s hT hl;refine eG 16 [.tmp 4,.tmp 5] func47 rfl ntmps47 rfl fun _ _ _ _=>?_
 cases hx:dC ag s with
 | none=>
  rw [hx] at h;refine cP pH h ?_;exact ⟨_,ax,rfl⟩
 | some k=>
  rw [hx] at h;refine cP pH h ?_;exact ⟨_,ax,rfl⟩
theorem HZ {l:List DV} {k b:Nat} {x:DV} (hb:b < 32) (h:l[k + b]? = some x):(((l.drop k).take 32).drop b).take 1=[x]:=by
 have h1:((l.drop k).take 32)[b]? = some x:=by grind
 rw [List.drop_eq_getElem_cons (gS h1).1]
 grind
section
variable (ag:List ByteArray) (tc:List DV) (rows:List Nat) (js:List Int)
theorem Au (a b:Nat) (z:Int) (ha:a < ag.length) (hb:b < ag.length) (hn:ag.length<=32) (hz:js[a * 32 + b]? = some z) :
  aR prog 217 [.pt (jS ag tc rows js) 0,.v (.int .i64 a),.v (.int .i64 b)] (.v (.int .i64 z)):=by
 refine eG 25 [.tmp 6] func217 rfl ntmps217 rfl fun _ _ _ _=>?_;refine cP CM (ui ag tc rows js ha) ?_;refine cP CM (ui ag tc rows js hb) ?_;refine ⟨_,⟨⟨by omega,by omega⟩,rfl⟩,?_⟩;refine ⟨_,⟨⟨by omega,by omega⟩,HZ (x:=.v (.int .i64 z)) (by omega) ?_⟩,?_⟩
 ·grind [KI,cZ]
 exact (rfl:_=_)
theorem KM (a b:Nat) (z:Int) (ha:a < ag.length) (hb:b < ag.length) (hn:ag.length<=32) (hz:js[1024 + (a * 32 + b)]? = some z) :
  aR prog 111 [.pt (jS ag tc rows js) 0,.v (.int .i64 a),.v (.int .i64 b)] (.v (.int .i64 z)):=by
 refine eG 25 [.tmp 6] func111 rfl ntmps111 rfl fun _ _ _ _=>?_;refine cP CM (ui ag tc rows js ha) ?_;refine cP CM (ui ag tc rows js hb) ?_;refine ⟨_,⟨⟨by omega,by omega⟩,rfl⟩,?_⟩;refine ⟨_,⟨⟨by omega,by omega⟩,HZ (x:=.v (.int .i64 z)) (by omega) ?_⟩,?_⟩
 ·grind [KI,cZ]
 exact (rfl:_=_)
end
theorem v7 {mH:Nat->Bool} {pb:Nat->Nat->Bool}:∀ {e k:Nat},bestA mH pb e=some k->mH k=true
 | 0,k,h=>by cases h
 | e + 1,k,h=>by
  rw [bestA] at h;split at h
  ·grind
  ·exact v7 h
theorem Av {mH:Nat->Bool} {pb:Nat->Nat->Bool} {n k:Nat} (h:pV mH pb n=some k):k < n/\mH k=true/\∀ c,c < n->mH c=true->pb k c=true:=by grind [pV,pW,v7]
structure lH (f:Nat->Nat->Bool) (n:Nat):Prop where
 pos:0 < n
 rfl':∀ a,a < n->f a a=true
 tr:∀ a b c,a < n->b < n->c < n->f a b=true->f b c=true->f a c=true
 KN:∀ a b,a < n->b < n->f a b=true->f b a=true->a=b
 jn:∀ a b,a < n->b < n->∃ k,gk f n a b=some k
 mt:∀ a b,a < n->b < n->∃ k,j7 f n a b=some k
theorem Aw {f:Nat->Nat->Bool} {n a b k:Nat} (h:gk f n a b=some k):k < n/\f a k=true/\f b k=true/\∀ c,c < n->f a c=true->f b c=true->f k c=true:=by
 obtain ⟨h1,h2,h3⟩:=Av h
 grind
theorem sA {f:Nat->Nat->Bool} {n a b k:Nat} (h:j7 f n a b=some k):k < n/\f k a=true/\f k b=true/\∀ c,c < n->f c a=true->f c b=true->f c k=true:=by
 obtain ⟨h1,h2,h3⟩:=Av h
 grind
def jC (f:Nat->Nat->Bool) (l:List Nat) (c:Nat):Bool:=l.all fun i=>f i c
def H0 (f:Nat->Nat->Bool) (n:Nat) (l:List Nat) (c:Nat):Bool:=jC f l c && (List.range n).all fun d=>!jC f l d || f c d
def gQ (f:Nat->Nat->Bool) (n:Nat) (l:List Nat):Option Nat:=cA (H0 f n l) n
theorem pZ {f:Nat->Nat->Bool} {n:Nat} {l:List Nat} {c:Nat}:H0 f n l c=true↔jC f l c=true/\∀ d,d < n->jC f l d=true->f c d=true:=by grind [H0,jC]
theorem Dp {f:Nat->Nat->Bool} {n:Nat} (hL:lH f n) {l:List Nat} {c:Nat} (hc:c < n) (h:H0 f n l c=true):gQ f n l=some c:=by
 refine dR hc h fun a ha=>?_;cases h2:H0 f n l a
 ·rfl
 ·obtain ⟨h3,h4⟩:=pZ.1 h;obtain ⟨h5,h6⟩:=pZ.1 h2;have:=hL.KN a c (by omega) hc (h6 c hc h3) (h4 a (by omega) h5);omega
theorem sC {f:Nat->Nat->Bool} {n c:Nat} (hL:lH f n) (hc:c < n) (h:∀ d,d < n->f c d=true):gQ f n []=some c:=
 Dp hL hc (pZ.2 ⟨rfl,fun d hd _=>h d hd⟩)
theorem xJ {f:Nat->Nat->Bool} {n c k i:Nat} {l:List Nat} (hL:lH f n) (hl:∀ x∈l,x < n) (hi:i < n) (h:gQ f n l=some c) (hk:gk f n c i=some k):gQ f n (l ++ [i])=some k:=by
 obtain ⟨h1,h2,_⟩:=gC h;obtain ⟨h3,h4⟩:=pZ.1 h2;obtain ⟨g1,g2,g3,g4⟩:=Aw hk;simp only [jC,List.all_eq_true] at h3;refine Dp hL g1 (pZ.2 ⟨?_,fun d hd ho=>?_⟩)
 ·simp only [jC,List.all_eq_true,List.mem_append,List.mem_singleton];rintro x (hx | rfl)
  ·exact hL.tr x c k (hl x hx) h1 g1 (h3 x hx) g2
  ·exact g3
 ·grind [jC]
theorem v8 {f:Nat->Nat->Bool} {n c:Nat} {l:List Nat} (h:gQ f n l=some c):c < n:=(gC h).1
abbrev Zs (L:List DV) (n b e:Nat):St:=
 ⟨[vC 0 L,aC 3 b,aC 9 n,aC 10 e],[],[]⟩
theorem uj (ag:List ByteArray) (tc:List DV) (rows:List Nat) (js:List Int) {f:Nat->Nat->Bool} (hL:lH f ag.length) (hn:ag.length<=32) (hj:∀ x y,x < ag.length->y < ag.length->JM f ag.length js x y) :
  aR prog 46 [.pt (jS ag tc rows js) 0] (.v (.int .i64 (oz (gQ f ag.length [])))):=by
 have hlen:=vZ ag tc rows js;have lk:=hL.pos;refine eG 19 [.tmp 2] func46 rfl ntmps46 rfl fun _ _ _ _=>?_;refine cP RP hlen ?_;refine br ?_ ?_<;>intro g
 ·exfalso;simp at g;simp [g] at lk
 refine cP RP hlen ?_;refine lI (fun j st=>∃ e b:Nat,st=Zs (jS ag tc rows js) ag.length b e/\e<=ag.length/\b < ag.length/\(∀ x,x < e->f b x=true)/\j=ag.length - e) ⟨0,0,rfl,by omega,by omega,fun _ h=>by omega,rfl⟩ (wkM wB) ?_;rintro j st ⟨e,b,rfl,he,hb,fO,rfl⟩;refine br ?_ ?_<;>intro hL'
 ·have az:e < ag.length:=by have:=hL';simp at this;exact this
  obtain ⟨k,hk⟩:=hL.mt b e hb az;obtain ⟨g1,g2,g3,g4⟩:=sA hk;have hz:=(hj b e hb az).2;rw [hk] at hz;refine cP aeq (KM ag tc rows js b e k hb az hn hz) ?_;refine ⟨Zs (jS ag tc rows js) ag.length k (e + 1),(wkM (wB1 (nxt az (by omega)))),ag.length - (e + 1),by omega,e + 1,k,rfl,by omega,g1,fun x hx=>?_,rfl⟩;rcases rP hx with hx | rfl
  ·exact hL.tr k b x g1 hb (by omega) g2 (fO x hx)
  ·exact g3
 ·have hge:e=ag.length:=by have:=hL';simp at this;omega
  subst hge;rw [sC hL hb fO];exact (rfl:_=_)
def labW (L:List ByteArray):List Wd->Ft
 | []=>(0,0)
 | w :: r=>if dC L w.s=none then (17,w.a) else labW L r
def oE (L:List ByteArray) (l:List Wd):List Nat:=l.map fun w=>(dC L w.s).getD 0
def FB (f:Nat->Nat->Bool) (L:List ByteArray) (l:List Wd):Int:=if (labW L l).1=0 then oz (gQ f L.length (oE L l)) else 0
def Pz (f:Nat->Nat->Bool) (L:List ByteArray) (l:List Wd):DV:=.bo [.v (.int .i64 (FB f L l)),(labW L l).d]
theorem wb {L:List ByteArray} {l:List Wd} {e:Nat} {w:Wd} (h:l[e]? = some w):labW L (l.drop e)=if dC L w.s=none then (17,w.a) else labW L (l.drop (e + 1)):=by
 rw [drop_cons h,labW]
theorem we {L:List ByteArray} {l:List Wd} {e i:Nat} {w:Wd} (h:l[e]? = some w) (hi:dC L w.s=some i):oE L (l.take (e + 1))=oE L (l.take e) ++ [i]:=by
 rw [List.take_add_one,h];simp [oE,hi]
abbrev Zt (L:List DV) (l:List Wd) (b e:Nat):St:=
 ⟨[vC 0 L,aJ 5 0,aC 6 b,bJ 16 2 (bA l),aC 17 ((bA l).length),aC 18 e],[[.v (.int .i64 0),.v (.int .i64 0)]],[]⟩
theorem Tn (ag:List ByteArray) (aN rows:List Nat) (js:List Int) (hT:jy ag aN) (nZ:aN.length<=1099511627776) {f:Nat->Nat->Bool} (hL:lH f ag.length) (hn:ag.length<=32) (hj:∀ x y,x < ag.length->y < ag.length->JM f ag.length js x y)
  (l:List Wd) (hs:wdsWt l<=1099511627776) :
  aR prog 133 [.pt (jS ag (dB ag aN) rows js) 0,.sl 2 (bA l) none] (Pz f ag l):=by
 have qJ:=bW l;have af6:=uj ag (dB ag aN) rows js hL hn hj
 have lV:∃ b,gQ f ag.length []=some b:=by
  have:∀ e,e<=ag.length->∃ b,b < ag.length/\∀ x,x < e->f b x=true:=by
   intro e
   induction e with
   | zero=>intro _;exact ⟨0,hL.pos,fun _ h=>by omega⟩
   | succ e ih=>
    intro he;obtain ⟨b,hb,fO⟩:=ih (by omega);obtain ⟨k,hk⟩:=hL.mt b e hb (by omega);obtain ⟨g1,g2,g3,_⟩:=sA hk;refine ⟨k,g1,fun x hx=>?_⟩;rcases rP hx with hx | rfl
    ·exact hL.tr k b x g1 hb (by omega) g2 (fO x hx)
    ·exact g3
  obtain ⟨b,hb,fO⟩:=this ag.length (zLeR _);exact ⟨b,sC hL hb fO⟩
 obtain ⟨b0,ib⟩:=lV;rw [ib] at af6;refine eG 41 [.tmp 4,.cell 5 26] func133 rfl ntmps133 rfl fun _ _ _ _=>?_;refine cP en46 af6 ?_;refine lI (fun j st=>∃ e b:Nat,st=Zt (jS ag (dB ag aN) rows js) l b e/\e<=l.length/\labW ag l=labW ag (l.drop e)/\gQ f ag.length (oE ag (l.take e))=some b/\(∀ x∈oE ag (l.take e),x < ag.length)/\j=l.length - e) ⟨0,b0,rfl,by omega,rfl,ib,by simp [oE],rfl⟩ (wkM wB) ?_;rintro j st ⟨e,b,rfl,he,aQ,tQ,Vy,rfl⟩;have hb:=v8 tQ;refine br ?_ ?_<;>intro hLt
 ·have az:e < l.length:=by simpa [aD] using hLt
  obtain ⟨w,hw⟩:=gX az;have hst:=wb (L:=ag) hw;have Fy:=KL ag aN rows js w.s hT nZ;refine ⟨jK w,⟨by omega,bn hw⟩,?_⟩
  cases hx:dC ag w.s with
  | none=>
   rw [hx] at Fy;refine cP aeb Fy ?_;rw [zIfP hx] at hst;have h1:labW ag l=(17,w.a):=aQ.trans hst;refine dS ?_;refine ⟨_,?_,rfl⟩;rw [Pz,FB,h1,af (by simp)];exact ax
  | some i=>
   rw [hx] at Fy;refine cP aeb Fy ?_;rw [af (by rw [hx];simp)] at hst;have hi:=(dX hx).1;obtain ⟨k,hk⟩:=hL.jn b i hb hi;have hz:=(hj b i hb hi).1;rw [hk] at hz;refine cP aeP (Au ag (dB ag aN) rows js b i k hb hi hn hz) ?_;refine ⟨Zt (jS ag (dB ag aN) rows js) l k (e + 1),(wkM (wB1 (nxt az (by omega)))),l.length - (e + 1),by omega,e + 1,k,rfl,by omega,aQ.trans hst,?_,?_,rfl⟩
   ·rw [we hw hx];exact xJ hL Vy hi tQ hk
   ·rw [we hw hx];intro x hm;rcases List.mem_append.1 hm with hm | hm
    ·exact Vy x hm
    ·rw [List.mem_singleton.1 hm];exact hi
 ·have hge:e=l.length:=by
   have:=hLt;simp [aD] at this;omega
  subst hge;rw [List.drop_length] at aQ;rw [List.take_length] at tQ;have h1:labW ag l=(0,0):=aQ;refine ⟨_,?_,rfl⟩;rw [Pz,FB,h1,zIfP rfl,tQ];exact ax
def KO (x:Ft × Int) (r:DV) (os:List (List DV)) (_:List TkE):Prop:=
 r=x.1.d/\∃ z:Int,os=[[.v (.int .i64 z)]]/\(x.1.1=0->z=x.2)
theorem oF {x:Ft × Int}:∀ r os tk,KO x r os tk->clB 0 0 r=true/\∀ va∈os,clB.clL 0 0 va=true:=by
 rintro r os tk ⟨rfl,z,rfl,_⟩;refine ⟨rfl,fun va h=>?_⟩;simp only [List.mem_singleton] at h;subst h;rfl
def Tp (k:Nat):Prop:=∀ (t:Ty) (depth m:Int),t.wt<=k->t.wt<=1099511627776->0<=depth->depth<=25->0<=m->m<=512 ->
 Ev prog 156 [.loc 0 0,.agg (cL t),.v (.int .i64 depth)] [[.v (.int .i64 m)]] [] (KO (wrong t depth m))
def nC (p:Ph) (t:Ty) (un:Bool) (depth m:Int):Ft × Int:=
 if p.bare=true then (if un=false∨dG p t (sw p) cp=false then ((19,p.name.a),m) else ((0,0),m))
 else if (eN p).1≠0 then (eN p,m)
 else wrong t (depth + 1) m
theorem bT {x:Ft × Int} {f:Ft} {m z:Int} (h:x=(f,m)) (hz:f.1=0->z=m) {tk:List TkE}:KO x f.d [[.v (.int .i64 z)]] tk:=by
 subst h;exact ⟨rfl,z,rfl,hz⟩
theorem KQ (k:Nat) (ih:Tp k) (p:Ph) (t:Ty) (un:Bool) (depth m:Int) (hk:t.wt<=k) (hp:p.wt<=1099511627776) (c7:t.wt<=1099511627776) (BP:0<=depth) (vb:depth<=24) (oZ:0<=m) (kO:m<=512) :
  Ev prog 287 [.loc 0 0,.agg (kv p (cL t)),.v (.bool un),.v (.int .i64 depth)] [[.v (.int .i64 m)]] [] (KO (nC p t un depth m)):=by
 have B0:=hp;simp only [Ph.wt] at B0;have GY:=pN p (sw p) t cp hp (by simp only [Ph.wt,sw,wdsWt];omega) (zV t cp c7 (by decide));have JK:=ih t (depth + 1) m hk c7 (by omega) (by omega) oZ kO;obtain ⟨u,us⟩:=t;have hcoa:=Fi p (cL (.mk u us)) (.mk u us) rfl hp;have hS:=nC.eq_def p (.mk u us) un depth m;generalize nC p (.mk u us) un depth m=F at hS ⊢;obtain ⟨nm,bare,lab,wide,ck,cn,ca,cl⟩:=p;simp only at hS B0 GY
 cases bare with
 | true=>
  rw [zIfP rfl] at hS
  cases un with
  | true=>
   refine eG 68 [.cell 8 26] func287 rfl ntmps287 rfl fun _ _ _ _=>?_;refine cP RU GY ?_;refine br ?_ ?_<;>intro q
   ·have q:dG ⟨nm,true,lab,wide,ck,cn,ca,cl⟩ (.mk u us) (sw ⟨nm,true,lab,wide,ck,cn,ca,cl⟩) cp=false:=by simpa [show (lastG (21,false) [(18,true)]).snd=true from rfl,pickB] using q
    rw [zIfP (.inr q)] at hS;refine cP eX (bU 19 nm.a) ?_;exact ⟨_,_,ax,ax,bT (tk:=[]) (f:=(19,nm.a)) hS (fun _=>rfl)⟩
   ·have q:dG ⟨nm,true,lab,wide,ck,cn,ca,cl⟩ (.mk u us) (sw ⟨nm,true,lab,wide,ck,cn,ca,cl⟩) cp=true:=by simpa [show (lastG (21,false) [(18,true)]).snd=true from rfl,pickB] using q
    rw [af (by simp [q])] at hS;exact ⟨_,_,ax,ax,bT (tk:=[]) (f:=(0,0)) hS (fun _=>rfl)⟩
  | false=>
   refine eG 68 [.cell 8 26] func287 rfl ntmps287 rfl fun _ _ _ _=>?_;rw [zIfP (.inl rfl)] at hS;refine cP eX (bU 19 nm.a) ?_;exact ⟨_,_,ax,ax,bT (tk:=[]) (f:=(19,nm.a)) hS (fun _=>rfl)⟩
 | false=>
  rw [af (by simp)] at hS;refine eG 68 [.cell 8 26] func287 rfl ntmps287 rfl fun _ _ _ _=>?_;refine br ?_ ?_<;>intro hw
  ·have hw:wide < 0∨64 < wide:=by simpa [ak] using hw
   have hP:eN ⟨nm,false,lab,wide,ck,cn,ca,cl⟩=(20,nm.a):=by simp only [eN,zIfP hw]
   rw [hP,zIfP (by simp)] at hS;refine cP eX (bU 20 nm.a) ?_;exact ⟨_,_,ax,ax,bT (tk:=[]) (f:=(20,nm.a)) hS (fun _=>rfl)⟩
  have hw:¬ (wide < 0∨64 < wide):=by simp [ak] at hw;omega
  refine cP Ht (j4 lab (by omega)) ?_;refine br ?_ ?_<;>intro hb
  ·have hb:(b9 lab).1≠0:=sU hb;have hP:eN ⟨nm,false,lab,wide,ck,cn,ca,cl⟩=b9 lab:=by simp only [eN,af hw,zIfP hb]
   rw [hP,zIfP hb] at hS;exact ⟨_,_,ax,ax,bT (tk:=[]) (f:=b9 lab) hS (fun _=>rfl)⟩
  have hb:(b9 lab).1=0:=sU hb;have hP:eN ⟨nm,false,lab,wide,ck,cn,ca,cl⟩=bB ⟨nm,false,lab,wide,ck,cn,ca,cl⟩:=by simp only [eN,af hw];rw [af (by simp [hb])]
  rw [hP] at hS;refine cP afe hcoa ?_;refine br ?_ ?_<;>intro hc
  ·have hc:(bB ⟨nm,false,lab,wide,ck,cn,ca,cl⟩).1≠0:=sU hc;rw [zIfP hc] at hS;exact ⟨_,_,ax,ax,bT (tk:=[]) (f:=bB ⟨nm,false,lab,wide,ck,cn,ca,cl⟩) hS (fun _=>rfl)⟩
  have hc:(bB ⟨nm,false,lab,wide,ck,cn,ca,cl⟩).1=0:=sU hc;rw [af (by simp [hc])] at hS;refine oq RT rfl rfl ax (by repeat' (first | exact rfl | exact trivial | exact Or.inr (Or.inl ⟨_,rfl⟩) | exact Or.inr ⟨_,rfl⟩ | exact Or.inl ⟨rfl,rfl⟩ | exact Or.inl rfl | refine Or.inr ⟨_,_,rfl,Nat.zero_le _,rfl,?_⟩ | refine ⟨_,_,rfl,?_,?_⟩ | refine ⟨_,rfl,?_⟩ | exact congrArg (fun z=>DV.v (.int .i64 z)) (wrap64 (by omega) (by omega)) | refine Or.inr (Or.inr (Or.inr ⟨_,_,rfl,?_⟩)) | exact Or.inl rfl | refine Or.inr ?_)) JK oF (fun r va hr=>?_);obtain ⟨rfl,z,hz,sX⟩:=hr;simp only [List.cons.injEq,and_true] at hz;subst hz;exact ⟨_,_,ax,ax,bT (tk:=[]) (f:=(wrong (.mk u us) (depth + 1) m).1) hS sX⟩
theorem Ce {ay:Int} {all:List Wd} {i:Nat} {p:Ph} {t:Ty} {r:Pts} {depth m:Int} (hk:ay=7∨ay=8) (hl:aK all i p.name=0) :
  wrongPts ay all i (.cons p t r) depth m=if (nC p t (decide (ay=8)) depth m).1.1≠0 then nC p t (decide (ay=8)) depth m else wrongPts ay all (i + 1) r depth (nC p t (decide (ay=8)) depth m).2:=by
 simp only [wrongPts];rw [af (by simp [hl])];unfold nC;by_cases hb:p.bare=true
 ·grind [WR,sameTy,cp,cY,km]
 ·grind
theorem Tq {p:Ph} {t:Ty} {un:Bool} {depth m:Int} (oZ:0<=m) (kO:m<=512) (h:(nC p t un depth m).1.1=0):(nC p t un depth m).1=(0,0)/\0<=(nC p t un depth m).2/\(nC p t un depth m).2<=512:=by grind [tS,nC,eN]
abbrev H2 (h:Hd) (ps:Pts) (n e:Nat) (depth m:Int):St:=
 ⟨[aJ 0 0,aC 2 depth,aJ 4 1,aJ 6 2,bJ 38 18 (gm ps),aC 39 ((gm ps).length),aC 40 e,(7,⟨[],.sl 1 (fQ (aF ((pNames ps).take e))) (some 0)⟩)],
  [[.v (.int .i64 m)],cL (.mk h ps),[.v (.int .i64 0),.v (.int .i64 0)]],[⟨n,9,1,none⟩]⟩
theorem xK (k:Nat) (ih:Tp k) (h:Hd) (ps:Pts) (depth m:Int) (hkd:h.ay=7∨h.ay=8) (hk:ps.wt<=k) (c7:(Ty.mk h ps).wt<=1099511627776) (BP:0<=depth) (vb:depth<=24) (oZ:0<=m) (kO:m<=512) :
  Ev prog 241 [.loc 0 0,.agg (cL (.mk h ps)),.v (.int .i64 depth)] [[.v (.int .i64 m)]] [] (KO (fZ h ps depth m)):=by
 simp only [Ty.wt,Hd.wt] at c7;have jZ:=ps.gP;have ir:=iw ps;have hnw:=vM ps;have hS:=fZ.eq_def h ps depth m;generalize fZ h ps depth m=F at hS ⊢;refine eG 72 [.cell 6 26] func241 rfl ntmps241 rfl fun _ _ _ _=>?_;refine br ?_ ?_<;>intro c1
 ·have c1:h.ay=8/\ps.len=0:=by grind [pickB_and,aP]
  rw [zIfP c1] at hS;refine cP eX (bU 15 h.cT) ?_;exact ⟨_,_,ax,ax,bT (tk:=[]) (f:=(15,h.cT)) hS (fun _=>rfl)⟩
 have c1:¬ (h.ay=8/\ps.len=0):=by
  simp [pickB_and,aP] at c1;omega
 rw [af c1] at hS;refine br ?_ ?_<;>intro c2
 ·have az:64 < ps.len:=by simp [aP] at c2;omega
  obtain ⟨p,t,hx⟩:=Pts.fx az;refine iX (ch hx) ?_;refine cP eX (bU 8 p.name.a) ?_;rw [zIfP az,iy hx] at hS;exact ⟨_,_,ax,ax,bT (tk:=[]) (f:=(8,p.name.a)) hS (fun _=>rfl)⟩
 have c2:¬ 64 < ps.len:=by simp [aP] at c2;omega
 rw [af c2] at hS
 refine aY (fun j st=>∃ (e:Nat) (m':Int),st=H2 h ps e e depth m' /\ e<=ps.len/\0<=m' /\ m' <= 512/\(aF ((pNames ps).take e)).Nodup /\
   F=wrongPts h.ay (pNames ps) e (ps.drop e) depth m' /\ j=ps.len - e) ps.len (H2 h ps 0 0 depth m) (gw ⟨0,9,1,none⟩ rfl ⟨_,rfl⟩ rfl wA rfl rfl lW) ⟨0,m,rfl,by omega,oZ,kO,by simp [aF],hS,by omega⟩ ?_
 rintro j st ⟨e,m',rfl,he,Fh,HD,hnd,aQ,rfl⟩;refine br ?_ ?_<;>intro hL
 ·have az:e < ps.len:=by simpa [aP] using hL
  obtain ⟨p,t,hx⟩:=Pts.fx az;have BQ:=Pts.iu (mG hx);have GF:=iy hx;have hpw:p.name.s.size + 64<=p.wt:=by simp only [Ph.wt,Wd.wt];omega
  rw [Pts.drop_cons hx] at aQ;have SC:(aF ((pNames ps).take (e + 1)))[(aF ((pNames ps).take (e + 1))).length - 1]? = some p.name.s:=by grind [aF,pNames]
  have hsp:=xD (aF ((pNames ps).take (e + 1))) p.name.s p.name.a SC (by simp [aF];omega) (by omega);have pz:=kP GF;rw [Dh p.name.a GF hnd,<- pz] at hsp;have H3:=KQ k ih p t (decide (h.ay=8)) depth m' (by omega) (by omega) (by omega) BP vb Fh HD;obtain ⟨u,us⟩:=t;refine iX (ch hx) ?_;refine ⟨by simp [cX,aF];omega,⟨by simp [cX,aF,maxLen];omega,by simp [cX,aF];omega⟩,?_⟩;refine cP YZ hsp ?_;by_cases hl:aK (pNames ps) e p.name≠0
  ·rw [zIfP hl];refine br ?_ ?_<;>intro hf
   ·simp only [wrongPts] at aQ;rw [zIfP hl] at aQ;exact ⟨_,_,ax,ax,bT (tk:=[]) (f:=(aK (pNames ps) e p.name,p.name.a)) aQ (fun _=>rfl)⟩
   ·exact absurd (sU hf) hl
  have hl:aK (pNames ps) e p.name=0:=sU hl;have hndn:=oD GF hnd hl;rw [af (by simp [hl])];rw [Ce hkd hl] at aQ;have fh:=Tq (p:=p) (t:=.mk u us) (un:=decide (h.ay=8)) (depth:=depth) Fh HD;generalize nC p (.mk u us) (decide (h.ay=8)) depth m'=r at H3 aQ fh;obtain ⟨⟨fe,fa⟩,many⟩:=r;simp only at aQ fh;refine oq ae4 rfl rfl ax ax H3 oF (fun r va hr=>?_);obtain ⟨rfl,z,hz,sX⟩:=hr;simp only [List.cons.injEq,and_true] at hz;subst hz;refine br ?_ ?_<;>intro hd
  ·have hd:fe≠0:=sU hd;rw [zIfP hd] at aQ;exact ⟨_,_,ax,ax,bT (tk:=[]) (f:=(fe,fa)) aQ (fun h0=>absurd h0 hd)⟩
  ·have hd:fe=0:=sU hd;subst hd;obtain ⟨_,h2,h3⟩:=fh rfl;rw [af (by simp)] at aQ;have hz2:z=many:=sX rfl;subst hz2;exact rE ⟨_,by omega,e + 1,z,rfl,by omega,h2,h3,hndn,aQ,rfl⟩ (wkM (wB2 (nxt az (by omega)) pz))
 ·have hge:e=ps.len:=by simp [aP] at hL;omega
  rw [hge,Pts.dK] at aQ;simp only [wrongPts] at aQ;exact ⟨_,_,ax,ax,bT (tk:=[]) (f:=(0,0)) aQ (fun _=>rfl)⟩
theorem Dq (k:Nat) (ih:Tp k) (h:Hd) (ps:Pts) (depth m:Int) (hk:ps.wt<=k) (c7:(Ty.mk h ps).wt<=1099511627776) (BP:0<=depth) (vb:depth<=24) (oZ:0<=m) (kO:m<=512) :
  Ev prog 240 [.loc 0 0,.agg (cL (.mk h ps)),.v (.int .i64 depth)] [[.v (.int .i64 m)]] [] (KO (wrongOne h ps depth m)):=by
 simp only [Ty.wt,Hd.wt] at c7
 cases ps with
 | nil=>
  have hS:wrongOne h .nil depth m=((19,h.cT),m):=by simp only [wrongOne]
  generalize wrongOne h .nil depth m=F at hS ⊢;refine eG 44 [.cell 6 26] func240 rfl ntmps240 rfl fun _ _ _ _=>?_;refine cP eX (bU 19 h.cT) ?_;exact ⟨_,_,ax,ax,bT (tk:=[]) (f:=(19,h.cT)) hS (fun _=>rfl)⟩
 | cons p t r=>
  cases r with
  | cons p2 t2 r2=>
   have hS:wrongOne h (.cons p t (.cons p2 t2 r2)) depth m=((19,h.cT),m):=by simp only [wrongOne]
   generalize wrongOne h (.cons p t (.cons p2 t2 r2)) depth m=F at hS ⊢;refine eG 44 [.cell 6 26] func240 rfl ntmps240 rfl fun _ _ _ _=>?_;refine cP eX (bU 19 h.cT) ?_;exact ⟨_,_,ax,ax,bT (tk:=[]) (f:=(19,h.cT)) hS (fun _=>rfl)⟩
  | nil=>
   simp only [Pts.wt] at c7 hk;have hS:wrongOne h (.cons p t .nil) depth m=if p.name.s≠aM∨cY p dP=false then ((19,h.cT),m) else if h.most < 0∨1024 < h.most then ((20,h.cT),m) else wrong t (depth + 1) m:=by simp only [wrongOne]
   generalize wrongOne h (.cons p t .nil) depth m=F at hS ⊢;have Vx:=HG p t (by omega);rw [empty_eq] at Vx;have JK:=ih t (depth + 1) m (by omega) (by omega) (by omega) (by omega) oZ kO;obtain ⟨u,us⟩:=t;refine eG 44 [.cell 6 26] func240 rfl ntmps240 rfl fun _ _ _ _=>?_;refine ⟨_,⟨by omega,rfl⟩,?_⟩;refine cP ae3 Vx ?_;refine br ?_ ?_<;>intro q
   ·have q:p.name.s≠aM∨cY p dP=false:=by
     have:=q;simp [pickB] at this;exact this
    rw [zIfP q] at hS;refine cP eX (bU 19 h.cT) ?_;exact ⟨_,_,ax,ax,bT (tk:=[]) (f:=(19,h.cT)) hS (fun _=>rfl)⟩
   have q:¬ (p.name.s≠aM∨cY p dP=false):=by grind [pickB]
   rw [af q] at hS;refine br ?_ ?_<;>intro x
   ·have x:h.most < 0∨1024 < h.most:=by simpa [ak] using x
    rw [zIfP x] at hS;refine cP eX (bU 20 h.cT) ?_;exact ⟨_,_,ax,ax,bT (tk:=[]) (f:=(20,h.cT)) hS (fun _=>rfl)⟩
   have x:¬ (h.most < 0∨1024 < h.most):=by simp [ak] at x;omega
   rw [af x] at hS;refine ⟨_,⟨by omega,rfl⟩,?_⟩;refine oq RT rfl rfl ax (by repeat' (first | exact rfl | exact trivial | exact Or.inr (Or.inl ⟨_,rfl⟩) | exact Or.inr ⟨_,rfl⟩ | exact Or.inl ⟨rfl,rfl⟩ | exact Or.inl rfl | refine Or.inr ⟨_,_,rfl,Nat.zero_le _,rfl,?_⟩ | refine ⟨_,_,rfl,?_,?_⟩ | refine ⟨_,rfl,?_⟩ | exact congrArg (fun z=>DV.v (.int .i64 z)) (wrap64 (by omega) (by omega)) | refine Or.inr (Or.inr (Or.inr ⟨_,_,rfl,?_⟩)) | exact Or.inl rfl | refine Or.inr ?_)) JK oF (fun r va hr=>?_);obtain ⟨rfl,z,hz,sX⟩:=hr;simp only [List.cons.injEq,and_true] at hz;subst hz;exact ⟨_,_,ax,ax,bT (tk:=[]) (f:=(wrong (.mk u us) (depth + 1) m).1) hS sX⟩
theorem H4 (k:Nat) (ih:Tp k) (h:Hd) (ps:Pts) (depth m:Int) (hk:ps.wt<=k) (c7:(Ty.mk h ps).wt<=1099511627776) (BP:0<=depth) (vb:depth<=25) (oZ:0<=m) (kO:m<=512) :
  Ev prog 156 [.loc 0 0,.agg (cL (.mk h ps)),.v (.int .i64 depth)] [[.v (.int .i64 m)]] [] (KO (wrong (.mk h ps) depth m)):=by
 have Ds:=c7;simp only [Ty.wt,Hd.wt] at Ds;have vc:IntKind.i64.wrap (m + 1)=m + 1:=wrap64 (by omega) (by omega);have hS:=wrong.eq_def (.mk h ps) depth m;simp only at hS;generalize wrong (.mk h ps) depth m=F at hS ⊢;have dW:=O8 h ps;rw [Nf] at dW;refine eG 103 [.cell 6 26] func156 rfl ntmps156 rfl fun _ _ _ _=>?_;refine br ?_ ?_<;>intro c
 ·have c:24 < depth:=of_decide_eq_true c;rw [zIfP c] at hS;refine cP eX (bU 6 h.cT) ?_;exact ⟨_,[[.v (.int .i64 (m + 1))]],ax,(o9 vc),bT (tk:=[]) (f:=(6,h.cT)) hS (fun _=>rfl)⟩
 have c:¬ 24 < depth:=of_decide_eq_false c;rw [af c] at hS;refine br ?_ ?_<;>intro c
 ·have c:512 < IntKind.i64.wrap (m + 1):=of_decide_eq_true c;rw [vc] at c;rw [zIfP c] at hS;refine cP eX (bU 8 h.cT) ?_;exact ⟨_,[[.v (.int .i64 (m + 1))]],ax,(o9 vc),bT (tk:=[]) (f:=(8,h.cT)) hS (fun _=>rfl)⟩
 have c:¬ 512 < IntKind.i64.wrap (m + 1):=of_decide_eq_false c;rw [vc] at c;rw [af c] at hS;refine br ?_ ?_<;>intro c
 ·have c:h.ay < 1∨9 < h.ay:=by simpa [ak] using c
  rw [zIfP c] at hS;refine cP eX (bU 14 h.cT) ?_;exact ⟨_,[[.v (.int .i64 (m + 1))]],ax,(o9 vc),bT (tk:=[]) (f:=(14,h.cT)) hS (fun _=>rfl)⟩
 have ck:¬ (h.ay < 1∨9 < h.ay):=by simp [ak] at c;omega
 rw [af ck] at hS;refine cP aeR dW ?_;refine br ?_ ?_<;>intro c
 ·have c:zR (.mk h ps)=false:=by simpa [zR] using c
  rw [zIfP c] at hS;refine cP eX (bU 19 h.cT) ?_;exact ⟨_,[[.v (.int .i64 (m + 1))]],ax,(o9 vc),bT (tk:=[]) (f:=(19,h.cT)) hS (fun _=>rfl)⟩
 have c:¬ zR (.mk h ps)=false:=by simpa [zR] using c
 rw [af c] at hS;refine br ?_ ?_<;>intro k2
 ·have k2:h.ay=2:=of_decide_eq_true k2;refine br ?_ ?_<;>intro x
  ·have x:h.hi < h.lo:=of_decide_eq_true x;rw [zIfP (.inl ⟨k2,x⟩)] at hS;refine cP eX (bU 20 h.cT) ?_;exact ⟨_,[[.v (.int .i64 (m + 1))]],ax,(o9 vc),bT (tk:=[]) (f:=(20,h.cT)) hS (fun _=>rfl)⟩
  have x:¬ h.hi < h.lo:=of_decide_eq_false x;rw [af (by omega),af (by omega),af (by omega),af (by omega),af (by omega)] at hS;exact ⟨_,[[.v (.int .i64 (m + 1))]],ax,(o9 vc),bT (tk:=[]) (f:=(0,0)) hS (fun _=>rfl)⟩
 have k2:¬ h.ay=2:=of_decide_eq_false k2;refine br ?_ ?_<;>intro k3
 ·have k3:h.ay=3:=of_decide_eq_true k3;refine br ?_ ?_<;>intro x
  ·have x:h.most < 0∨4096 < h.most:=by simpa [ak] using x
   rw [zIfP (.inr ⟨k3,x⟩)] at hS;refine cP eX (bU 20 h.cT) ?_;exact ⟨_,[[.v (.int .i64 (m + 1))]],ax,(o9 vc),bT (tk:=[]) (f:=(20,h.cT)) hS (fun _=>rfl)⟩
  have x:¬ (h.most < 0∨4096 < h.most):=by simp [ak] at x;omega
  rw [af (by omega),af (by omega),af (by omega),af (by omega),af (by omega)] at hS;exact ⟨_,[[.v (.int .i64 (m + 1))]],ax,(o9 vc),bT (tk:=[]) (f:=(0,0)) hS (fun _=>rfl)⟩
 have k3:¬ h.ay=3:=of_decide_eq_false k3;rw [af (by omega)] at hS;refine br ?_ ?_<;>intro k4
 ·have k4:h.ay=4:=of_decide_eq_true k4;rw [af (by omega),zIfP k4,<- Tf] at hS;refine cP aeS (Ks h ps (by omega)) ?_;exact ⟨_,[[.v (.int .i64 (m + 1))]],ax,(o9 vc),bT (tk:=[]) (f:=pO h) hS (fun _=>rfl)⟩
 have k4:¬ h.ay=4:=of_decide_eq_false k4;refine br ?_ ?_<;>intro k5
 ·have k5':h.ay=5∨h.ay=6:=.inl (of_decide_eq_true k5);rw [af (by omega),af (by omega),zIfP k5'] at hS;refine br (fun _=>?_) (fun hc=>by rw [k5] at hc;cases hc);refine oq YO rfl rfl (cs':=[.v (.int .i64 (m + 1))]) (o9 vc) ax (Dq k ih h ps depth (m + 1) hk c7 BP (by omega) (by omega) (by omega)) oF (fun r va hr=>?_);obtain ⟨rfl,z,hz,sX⟩:=hr;simp only [List.cons.injEq,and_true] at hz;subst hz;exact ⟨_,_,ax,ax,bT (tk:=[]) (f:=(wrongOne h ps depth (m + 1)).1) hS sX⟩
 have k5:¬ h.ay=5:=of_decide_eq_false k5;refine br ?_ ?_<;>intro k6
 ·have k5':h.ay=5∨h.ay=6:=.inr (of_decide_eq_true k6);rw [af (by omega),af (by omega),zIfP k5'] at hS;refine oq YO rfl rfl (cs':=[.v (.int .i64 (m + 1))]) (o9 vc) ax (Dq k ih h ps depth (m + 1) hk c7 BP (by omega) (by omega) (by omega)) oF (fun r va hr=>?_);obtain ⟨rfl,z,hz,sX⟩:=hr;simp only [List.cons.injEq,and_true] at hz;subst hz;exact ⟨_,_,ax,ax,bT (tk:=[]) (f:=(wrongOne h ps depth (m + 1)).1) hS sX⟩
 have k6:¬ h.ay=6:=of_decide_eq_false k6;have hP:fZ h ps depth (m + 1)=fZ h ps depth (m + 1):=rfl
 conv at hP=>lhs;unfold fZ
 refine br ?_ ?_<;>intro k7
 ·have k7':h.ay=7∨h.ay=8:=.inl (of_decide_eq_true k7);rw [af (by omega),af (by omega),af (by omega),zIfP k7',hP] at hS;refine br (fun _=>?_) (fun hc=>by rw [k7] at hc;cases hc);refine oq YP rfl rfl (cs':=[.v (.int .i64 (m + 1))]) (o9 vc) ax (xK k ih h ps depth (m + 1) k7' hk c7 BP (by omega) (by omega) (by omega)) oF (fun r va hr=>?_);obtain ⟨rfl,z,hz,sX⟩:=hr;simp only [List.cons.injEq,and_true] at hz;subst hz;exact ⟨_,_,ax,ax,bT (tk:=[]) (f:=(fZ h ps depth (m + 1)).1) hS sX⟩
 have k7:¬ h.ay=7:=of_decide_eq_false k7;refine br ?_ ?_<;>intro k8
 ·have k7':h.ay=7∨h.ay=8:=.inr (of_decide_eq_true k8);rw [af (by omega),af (by omega),af (by omega),zIfP k7',hP] at hS;refine oq YP rfl rfl (cs':=[.v (.int .i64 (m + 1))]) (o9 vc) ax (xK k ih h ps depth (m + 1) k7' hk c7 BP (by omega) (by omega) (by omega)) oF (fun r va hr=>?_);obtain ⟨rfl,z,hz,sX⟩:=hr;simp only [List.cons.injEq,and_true] at hz;subst hz;exact ⟨_,_,ax,ax,bT (tk:=[]) (f:=(fZ h ps depth (m + 1)).1) hS sX⟩
 have k8:¬ h.ay=8:=of_decide_eq_false k8;refine br ?_ ?_<;>intro k9
 ·have k9:h.ay=9:=of_decide_eq_true k9;refine cP Ki (iv h.name.s (by simp only [Wd.wt] at Ds;omega)) ?_;refine br ?_ ?_<;>intro q
  ·have q:bM h.name.s=false:=sU q;rw [zIfP ⟨k9,q⟩] at hS;refine cP eX (bU 9 h.name.a) ?_;exact ⟨_,[[.v (.int .i64 (m + 1))]],ax,(o9 vc),bT (tk:=[]) (f:=(9,h.name.a)) hS (fun _=>rfl)⟩
  ·have q:bM h.name.s=true:=sU q;rw [af (by simp [q]),af (by omega),af (by omega),af (by omega)] at hS;exact ⟨_,[[.v (.int .i64 (m + 1))]],ax,(o9 vc),bT (tk:=[]) (f:=(0,0)) hS (fun _=>rfl)⟩
 have k9:¬ h.ay=9:=of_decide_eq_false k9;rw [af (by omega),af (by omega),af (by omega),af (by omega)] at hS;exact ⟨_,[[.v (.int .i64 (m + 1))]],ax,(o9 vc),bT (tk:=[]) (f:=(0,0)) hS (fun _=>rfl)⟩
theorem H5:∀ k,Tp k
 | 0=>fun t depth m hk=>by have:=t.kj;omega
 | k + 1=>fun t depth m hk c7 BP vb oZ kO=>by
  obtain ⟨h,ps⟩:=t;have iH:=hk;simp only [Ty.wt,Hd.wt] at iH;exact H4 k (H5 k) h ps depth m (by omega) c7 BP vb oZ kO
theorem H6 (t:Ty) (c7:t.wt<=1099511627776):aR prog 84 [.agg (cL t)] (wrong t 1 0).1.d:=
 O9 t (H5 t.wt t 1 0 (zLeR _) c7 (by omega) (by omega) (by omega) (by omega))
abbrev Tr (t:Ty) (ps:Pts) (e n:Nat):St:=
 ⟨[aJ 1 0,aC 3 n,bJ 7 18 (gm ps),aC 8 ((gm ps).length),aC 9 e],[cL t],[]⟩
theorem Ax:∀ (k:Nat) (t:Ty),t.wt<=k->t.wt<=1099511627776 ->
  aR prog 132 [.agg (cL t)] (.v (.int .i64 t.cnt))
 | 0,t,hn,_=>by have:=t.kj;omega
 | k + 1,.mk h ps,hn,c7=>by
  simp only [Ty.wt,Hd.wt] at hn c7;have jZ:=ps.gP;have hc:=ps.fy;refine eG 23 [.tmp 2] func132 rfl ntmps132 rfl fun _ _ _ _=>?_
  refine aY (fun j st=>∃ (e n:Nat),st=Tr (.mk h ps) ps e n/\e<=ps.len/\n + (ps.drop e).cnt=1 + ps.cnt/\j=ps.len - e) ps.len
   (Tr (.mk h ps) ps 0 1) (wkM wB) ⟨0,1,rfl,by omega,rfl,by omega⟩ ?_
  rintro j st ⟨e,n,rfl,he,bF,rfl⟩;refine br ?_ ?_<;>intro hL
  ·have az:e < ps.len:=by simpa [aP] using hL
   obtain ⟨p,t,hx⟩:=Pts.fx az;have BQ:=Pts.iu (mG hx);rw [Pts.drop_cons hx] at bF;simp only [Pts.cnt] at bF;have VA:=t.fy;obtain ⟨u,us⟩:=t;refine iX (ch hx) ?_;refine br ?_ ?_<;>intro hB
   ·have hB:p.bare=false:=sU hB;rw [hB] at bF;have bF:n + ((Ty.mk u us).cnt + (ps.drop (e + 1)).cnt)=1 + ps.cnt:=bF;refine cP YE (Ax k (.mk u us) (by omega) (by omega)) ?_;have CW:IntKind.i64.wrap ((n:Int) + (Ty.mk u us).cnt)=((n + (Ty.mk u us).cnt:Nat):Int):=by rw [wrap64 (by omega) (by omega)];omega
    exact ⟨Tr (.mk h ps) ps (e + 1) (n + (Ty.mk u us).cnt),(wkM (wB2 CW (nxt az (by omega)))),ps.len - (e + 1),by omega,e + 1,_,rfl,by omega,by omega,rfl⟩
   ·have hB:p.bare=true:=sU hB;rw [hB] at bF;have bF:n + (0 + (ps.drop (e + 1)).cnt)=1 + ps.cnt:=bF;exact rE ⟨_,by omega,e + 1,n,rfl,by omega,by omega,rfl⟩ (wkM (wB1 (nxt az (by omega))))
  ·have hge:e=ps.len:=by simp [aP] at hL;omega
   rw [hge,Pts.dK] at bF;simp only [Pts.cnt] at bF;have e2:(n:Int)=((Ty.mk h ps).cnt:Int):=by simp only [Ty.cnt];omega
   refine (rY ?_:);exact e2
mutual
def Ty.nn:Ty->Nat
 | .mk h ps=>if h.ay=9 then 0 else 1 + ps.nn
def Pts.nn:Pts->Nat
 | .nil=>0
 | .cons p t r=>(if p.bare then 0 else t.nn) + r.nn
end
mutual
theorem Ty.iz:∀ t:Ty,t.nn<=t.cnt
 | .mk h ps=>by
  have:=Pts.iz ps;simp only [Ty.nn,Ty.cnt];split<;>omega
theorem Pts.iz:∀ ps:Pts,ps.nn<=ps.cnt
 | .nil=>zLeR _
 | .cons p t r=>by
  have:=Ty.iz t;have:=Pts.iz r;simp only [Pts.nn,Pts.cnt];split<;>omega
end
abbrev abw (t:Ty) (ps:Pts) (e n:Nat):St:=
 ⟨[aJ 1 0,aC 3 n,bJ 10 18 (gm ps),aC 11 ((gm ps).length),aC 12 e],[cL t],[]⟩
theorem Ay:∀ (k:Nat) (t:Ty),t.wt<=k->t.wt<=1099511627776 ->
  aR prog 135 [.agg (cL t)] (.v (.int .i64 t.nn))
 | 0,t,hn,_=>by have:=t.kj;omega
 | k + 1,.mk h ps,hn,c7=>by
  simp only [Ty.wt,Hd.wt] at hn c7;have jZ:=ps.gP;have hc:=ps.fy;have tw:=ps.iz;refine eG 26 [.tmp 2] func135 rfl ntmps135 rfl fun _ _ _ _=>?_;refine br ?_ ?_<;>intro h9
  ·have h9:h.ay=9:=sU h9;have:(Ty.mk h ps).nn=0:=by simp [Ty.nn,h9]
   rw [this];exact (rfl:_=_)
  have h9:¬ h.ay=9:=sU h9
  refine aY (fun j st=>∃ (e n:Nat),st=abw (.mk h ps) ps e n/\e<=ps.len/\n + (ps.drop e).nn=1 + ps.nn/\j=ps.len - e) ps.len
   (abw (.mk h ps) ps 0 1) (wkM wB) ⟨0,1,rfl,by omega,rfl,by omega⟩ ?_
  rintro j st ⟨e,n,rfl,he,bF,rfl⟩;refine br ?_ ?_<;>intro hL
  ·have az:e < ps.len:=by simpa [aP] using hL
   obtain ⟨p,t,hx⟩:=Pts.fx az;have BQ:=Pts.iu (mG hx);rw [Pts.drop_cons hx] at bF;simp only [Pts.nn] at bF;have VA:=t.fy;have hct2:=t.iz;obtain ⟨u,us⟩:=t;refine iX (ch hx) ?_;refine br ?_ ?_<;>intro hB
   ·have hB:p.bare=false:=sU hB;rw [hB] at bF;have bF:n + ((Ty.mk u us).nn + (ps.drop (e + 1)).nn)=1 + ps.nn:=bF;refine cP YF (Ay k (.mk u us) (by omega) (by omega)) ?_;have CW:IntKind.i64.wrap ((n:Int) + (Ty.mk u us).nn)=((n + (Ty.mk u us).nn:Nat):Int):=by rw [wrap64 (by omega) (by omega)];omega
    exact ⟨abw (.mk h ps) ps (e + 1) (n + (Ty.mk u us).nn),(wkM (wB2 CW (nxt az (by omega)))),ps.len - (e + 1),by omega,e + 1,_,rfl,by omega,by omega,rfl⟩
   ·have hB:p.bare=true:=sU hB;rw [hB] at bF;have bF:n + (0 + (ps.drop (e + 1)).nn)=1 + ps.nn:=bF;exact rE ⟨_,by omega,e + 1,n,rfl,by omega,by omega,rfl⟩ (wkM (wB1 (nxt az (by omega))))
  ·have hge:e=ps.len:=by simp [aP] at hL;omega
   rw [hge,Pts.dK] at bF;simp only [Pts.nn] at bF;have e2:(n:Int)=((Ty.mk h ps).nn:Int):=by simp only [Ty.nn,af h9];omega
   refine (rY ?_:);exact e2
structure Lx where
 ag:List ByteArray
 aN:List Nat
 rows:List Nat
 js:List Int
 f:Nat->Nat->Bool
def Lx.pd (X:Lx):DV:=.pt (jS X.ag (dB X.ag X.aN) X.rows X.js) 0
def Lx.lev (X:Lx) (l:List Wd):Int:=FB X.f X.ag l
def Lx.bad (X:Lx) (l:List Wd):Ft:=labW X.ag l
structure Lx.OK (X:Lx):Prop where
 hT:jy X.ag X.aN
 nZ:X.aN.length<=1099511627776
 hL:lH X.f X.ag.length
 hn:X.ag.length<=32
 hj:∀ x y,x < X.ag.length->y < X.ag.length->JM X.f X.ag.length X.js x y
theorem Lx.uk {X:Lx} (h:X.OK) (l:List Wd) (hs:wdsWt l<=1099511627776):aR prog 133 [X.pd,.sl 2 (bA l) none] (.bo [.v (.int .i64 (X.lev l)),(X.bad l).d]):=
 Tn X.ag X.aN X.rows X.js h.hT h.nZ h.hL h.hn h.hj l hs
def bC (s:Sch) (lat out:DV) (m:Int):List DV:=.sl 2 (bA s.ae) none :: .sl 4 (ez s.order) none :: .sl 11 (dNms s.types) none :: (cL s.root ++ [lat,out,.v (.int .i64 m)])
theorem Az {X:Lx} (h:X.OK) (s:Sch) (pc:List DV) (m:Int) (l:List Wd) (hs:wdsWt l<=1099511627776) :
  aR prog 218 [.pt (bC s X.pd (.pt pc 0) m) 0,.sl 2 (bA l) none] (.v (.int .i64 (X.lev l))):=by
 obtain ⟨ae,order,types,⟨rh,rp⟩⟩:=s;refine eG 17 [.tmp 4] func218 rfl ntmps218 rfl fun _ _ _ _=>?_;refine cP Hl (Lx.uk h l hs) ?_;exact (rfl:_=_)
def yk (s:Sch):List Wd:=s.types.map fun x=>x.1
def tL (s:Sch):List ByteArray:=aF (yk s)
theorem NA (s:Sch):(yk s).length=s.types.length:=by simp [yk]
theorem mI (s:Sch):(tL s).length=s.types.length:=by simp [tL,aF,yk]
def pC (s:Sch) (aN:List Nat) (a b c e:DV):List DV:=[a,b,c,.pt (dB (tL s) aN) 0,e]
def ym (s:Sch) (t:Ty):Bool:=decide (t.h.ay=9->dC (tL s) t.h.name.s≠none)
def endI (s:Sch):Nat->Nat->Option Nat
 | 0,_=>none
 | k + 1,i=>
  match s.types[i]? with
  | none=>none
  | some x=>if x.2.h.ay=9 then endI s k ((dC (tL s) x.2.h.name.s).getD 0) else some i
theorem yF {s:Sch}:∀ {k i j:Nat},endI s k i=some j->j < s.types.length/\∀ x,s.types[j]? = some x->x.2.h.ay≠9
 | 0,i,j,h=>by cases h
 | k + 1,i,j,h=>by
  rw [endI] at h
  cases hx:s.types[i]? with
  | none=>rw [hx] at h;cases h
  | some x=>
   rw [hx] at h;simp only at h;split at h
   ·exact yF h
   all_goals grind
abbrev Zu (B:DV) (n i e:Nat):St:=
 ⟨[(0,⟨[],B⟩),aC 1 i,aC 12 n,aC 13 e],[],[]⟩
theorem H7 (s:Sch) (lat:DV) (aN:List Nat) (a b c e0:DV) (m:Int) (hT:jy (tL s) aN) (nZ:aN.length<=1099511627776) (hl:s.types.length<=64) (hr:∀ x∈s.types,ym s x.2=true) (i:Nat) (hi:i < s.types.length) :
  aR prog 134 [.pt (bC s lat (.pt (pC s aN a b c e0) 0) m) 0,.v (.int .i64 i)] (.v (.int .i64 (oz (endI s (s.types.length + 1) i)))):=by
 have gf:=mI s;obtain ⟨ae,order,types,⟨rh,rp⟩⟩:=s;simp only at hl hr hi gf;have hN:=bS types;have hcnt:IntKind.i64.wrap ((((dNms types).length:Nat):Int) + 1)=((types.length + 1:Nat):Int):=by rw [hN,wrap64 (by omega) (by omega)];all_goals rfl
 refine eG 43 [.tmp 4] func134 rfl ntmps134 rfl fun _ _ _ _=>?_
 refine aY (fun j st=>∃ e q:Nat,st=Zu (.pt (bC ⟨ae,order,types,.mk rh rp⟩ lat (.pt (pC ⟨ae,order,types,.mk rh rp⟩ aN a b c e0) 0) m) 0) (types.length + 1) q e/\e<=types.length + 1/\q < types.length/\endI ⟨ae,order,types,.mk rh rp⟩ (types.length + 1) i=endI ⟨ae,order,types,.mk rh rp⟩ (types.length + 1 - e) q/\j=types.length + 1 - e) (types.length + 1)
  (Zu (.pt (bC ⟨ae,order,types,.mk rh rp⟩ lat (.pt (pC ⟨ae,order,types,.mk rh rp⟩ aN a b c e0) 0) m) 0) (types.length + 1) i 0) (wkM (wB1 hcnt)) ⟨0,i,rfl,by omega,hi,rfl,by omega⟩ ?_
 rintro j st ⟨e,q,rfl,he,hq,aQ,rfl⟩;refine br ?_ ?_<;>intro hL
 ·have az:e < types.length + 1:=by have:=hL;simp at this;omega
  obtain ⟨x,hx⟩:∃ x,types[q]? = some x:=⟨_,gE hq⟩;have hrx:=hr x (mG hx);obtain ⟨xw,⟨xh,xp⟩⟩:=x
  have hst:endI ⟨ae,order,types,.mk rh rp⟩ (types.length + 1 - e) q=if xh.ay=9 then endI ⟨ae,order,types,.mk rh rp⟩ (types.length + 1 - (e + 1)) ((dC (tL ⟨ae,order,types,.mk rh rp⟩) xh.name.s).getD 0) else some q:=by
   rw [show types.length + 1 - e=(types.length + 1 - (e + 1)) + 1 by omega,endI];simp only [hx];rfl
  rw [hst] at aQ;refine iX (dNms_get hx) ?_;refine br ?_ ?_<;>intro h9
  ·have h9:¬ xh.ay=9:=sU h9;rw [af h9] at aQ;rw [aQ];exact (rfl:_=_)
  have h9:xh.ay=9:=sU h9;rw [zIfP h9] at aQ
  have bF:dC (tL ⟨ae,order,types,.mk rh rp⟩) xh.name.s≠none:=by
   have:=of_decide_eq_true hrx;exact this h9
  obtain ⟨k,hk⟩:=Option.ne_none_iff_exists'.1 bF;have BO:=(dX hk).1;rw [hk] at aQ;have hf:=jR (tL ⟨ae,order,types,.mk rh rp⟩) aN xh.name.s hT nZ;rw [hk] at hf;refine dI ?_;refine cD pH hf ?_;exact rE ⟨_,by omega,e + 1,k,rfl,by omega,by omega,aQ,rfl⟩ (wkM (wB1 (nxt az (by omega))))
 ·have hge:e=types.length + 1:=by have:=hL;simp at this;omega
  subst hge;rw [Nat.sub_self] at aQ;rw [aQ];exact (rfl:_=_)
def loopF (s:Sch):Ft:=
 match cA (fun i=>(endI s (s.types.length + 1) i).isNone) s.types.length with
 | none=>(0,0)
 | some i=>(11,atN (yk s) i)
abbrev FC (B:DV) (s:Sch) (e:Nat):St:=
 ⟨[(0,⟨[],B⟩),aJ 2 0,bJ 9 11 (dNms s.types),aC 10 ((dNms s.types).length),aC 11 e],[[.v (.int .i64 0),.v (.int .i64 0)]],[]⟩
theorem KR (s:Sch) (lat:DV) (aN:List Nat) (a b c e0:DV) (m:Int) (hT:jy (tL s) aN) (nZ:aN.length<=1099511627776) (hl:s.types.length<=64) (hr:∀ x∈s.types,ym s x.2=true) :
  aR prog 66 [.pt (bC s lat (.pt (pC s aN a b c e0) 0) m) 0] (loopF s).d:=by
 have ly:=H7 s lat aN a b c e0 m hT nZ hl hr;have hN:=bS s.types;have hF:=loopF.eq_1 s;obtain ⟨ae,order,types,⟨rh,rp⟩⟩:=s;simp only at hl hr ly hN;refine eG 26 [.cell 2 26] func66 rfl ntmps66 rfl fun _ _ _ _=>?_
 refine aY (fun j st=>∃ e:Nat,st=FC (.pt (bC ⟨ae,order,types,.mk rh rp⟩ lat (.pt (pC ⟨ae,order,types,.mk rh rp⟩ aN a b c e0) 0) m) 0) ⟨ae,order,types,.mk rh rp⟩ e/\e<=types.length/\(∀ i,i < e->(endI ⟨ae,order,types,.mk rh rp⟩ (types.length + 1) i).isNone=false)/\j=types.length - e) types.length
  (FC (.pt (bC ⟨ae,order,types,.mk rh rp⟩ lat (.pt (pC ⟨ae,order,types,.mk rh rp⟩ aN a b c e0) 0) m) 0) ⟨ae,order,types,.mk rh rp⟩ 0) (wkM wB) ⟨0,rfl,by omega,fun _ h=>by omega,by omega⟩ ?_
 rintro j st ⟨e,rfl,he,hno,rfl⟩;refine br ?_ ?_<;>intro hL
 ·have az:e < types.length:=by have:=hL;simp [hN] at this;exact this
  obtain ⟨x,hx⟩:=gX az;have hxn:(yk ⟨ae,order,types,.mk rh rp⟩)[e]? = some x.1:=by simp [yk,hx]
  have h1:=ly e az;obtain ⟨xw,⟨xh,xp⟩⟩:=x;refine iX (dNms_get hx) ?_;refine cP en134 h1 ?_
  cases hE:endI ⟨ae,order,types,.mk rh rp⟩ (types.length + 1) e with
  | none=>
   have s6:=dR (p:=fun i=>(endI ⟨ae,order,types,.mk rh rp⟩ (types.length + 1) i).isNone) az (by simp only [hE];rfl) hno;simp only [s6] at hF;rw [mq hxn] at hF;refine ⟨_,?_,rfl⟩;rw [hF];exact ax
  | some k=>
   refine ⟨FC (.pt (bC ⟨ae,order,types,.mk rh rp⟩ lat (.pt (pC ⟨ae,order,types,.mk rh rp⟩ aN a b c e0) 0) m) 0) ⟨ae,order,types,.mk rh rp⟩ (e + 1),(wkM (wB1 (nxt az (by omega)))),types.length - (e + 1),by omega,e + 1,rfl,by omega,fun i hi=>?_,rfl⟩;rcases rP hi with hi | rfl
   ·exact hno i hi
   ·rw [hE];all_goals rfl
 ·have hge:e=types.length:=sW hN hL;subst hge;simp only [eI hno] at hF;refine ⟨_,?_,rfl⟩;rw [hF];exact ax
mutual
def knT (X:Lx) (L:List ByteArray):Ty->Ft
 | .mk h ps=>if h.ay=9/\dC L h.name.s=none then (15,h.name.a) else knP X L ps
def knP (X:Lx) (L:List ByteArray):Pts->Ft
 | .nil=>(0,0)
 | .cons p t r=>if (X.bad p.label).1≠0 then X.bad p.label else if (X.bad p.cl).1≠0 then X.bad p.cl else if p.bare then knP X L r else if (knT X L t).1≠0 then knT X L t else knP X L r
end
abbrev af8 (B:DV) (t:Ty) (ps:Pts) (e:Nat):St:=
 ⟨[(0,⟨[],B⟩),aJ 3 0,aJ 4 1,bJ 38 18 (gm ps),aC 39 ((gm ps).length),aC 40 e],[cL t,[.v (.int .i64 0),.v (.int .i64 0)]],[]⟩
abbrev Dt (B:DV) (t:Ty) (ps:Pts) (p:Ph) (u:Ty) (e q:Nat):St:=
 ⟨[(0,⟨[],B⟩),aJ 3 0,aJ 4 1,bJ 38 18 (gm ps),aC 39 ((gm ps).length),aC 40 e,aJ 8 2,bJ 49 1 [[.sl 2 (bA p.label) none],[.sl 2 (bA p.cl) none]],aC 50 (2:Nat),aC 51 q],[cL t,[.v (.int .i64 0),.v (.int .i64 0)],kv p (cL u)],[]⟩
theorem AA {X:Lx} (hX:X.OK) (s:Sch) (aN:List Nat) (a b c e0:DV) (m:Int) (hT:jy (tL s) aN) (nZ:aN.length<=1099511627776):∀ (k:Nat) (t:Ty),t.wt<=k->t.wt<=1099511627776 ->
  aR prog 65 [.pt (bC s X.pd (.pt (pC s aN a b c e0) 0) m) 0,.agg (cL t)] (knT X (tL s) t).d
 | 0,t,hn,_=>by have:=t.kj;omega
 | k + 1,.mk h ps,hn,c7=>by
  have ih:=AA hX s aN a b c e0 m hT nZ k;simp only [Ty.wt,Hd.wt] at hn c7;have jZ:=ps.gP;obtain ⟨ae,order,types,⟨rh,rp⟩⟩:=s;have hf:=jR (tL ⟨ae,order,types,.mk rh rp⟩) aN h.name.s hT nZ;have hS:knT X (tL ⟨ae,order,types,.mk rh rp⟩) (.mk h ps)=if h.ay=9/\dC (tL ⟨ae,order,types,.mk rh rp⟩) h.name.s=none then (15,h.name.a) else knP X (tL ⟨ae,order,types,.mk rh rp⟩) ps:=by rw [knT]
  refine eG 81 [.cell 4 26] func65 rfl ntmps65 rfl fun _ _ _ _=>?_;generalize knT X (tL ⟨ae,order,types,.mk rh rp⟩) (.mk h ps)=F at hS ⊢;have hS0:knP X (tL ⟨ae,order,types,.mk rh rp⟩) ps=knP X (tL ⟨ae,order,types,.mk rh rp⟩) (ps.drop 0):=by rw [Pts.drop]
  refine br ?_ ?_<;>intro h9
  ·have h9:h.ay=9:=sU h9;refine dI ?_
   cases hx:dC (tL ⟨ae,order,types,.mk rh rp⟩) h.name.s with
   | none=>
    rw [zIfP ⟨h9,hx⟩] at hS;rw [hx] at hf;refine cD pH hf ?_;refine ⟨_,?_,rfl⟩;rw [hS];exact ax
   | some i=>
    rw [af (by rw [hx];simp),hS0] at hS;rw [hx] at hf;refine cD pH hf ?_;refine lI (fun j st=>∃ e:Nat,st=af8 (.pt (bC ⟨ae,order,types,.mk rh rp⟩ X.pd (.pt (pC ⟨ae,order,types,.mk rh rp⟩ aN a b c e0) 0) m) 0) (.mk h ps) ps e/\e<=ps.len/\F=knP X (tL ⟨ae,order,types,.mk rh rp⟩) (ps.drop e)/\j=ps.len - e) ⟨0,rfl,by omega,hS,rfl⟩ (wkM wB) ?_;rintro j st ⟨e,rfl,he,aQ,rfl⟩;refine br ?_ ?_<;>intro hL
    ·have az:e < ps.len:=by simpa [aP] using hL
     obtain ⟨p,t,hx⟩:=Pts.fx az;have BQ:=Pts.iu (mG hx);rw [Pts.drop_cons hx] at aQ;simp only [knP] at aQ;have s7:wdsWt p.label + wdsWt p.cl<=p.wt:=by simp only [Ph.wt];omega
     obtain ⟨u,us⟩:=t;refine iX (ch hx) ?_;refine lI (fun j st=>∃ q:Nat,st=Dt (.pt (bC ⟨ae,order,types,.mk rh rp⟩ X.pd (.pt (pC ⟨ae,order,types,.mk rh rp⟩ aN a b c e0) 0) m) 0) (.mk h ps) ps p (.mk u us) e q/\q<=2/\(1<=q->(X.bad p.label).1=0)/\(2<=q->(X.bad p.cl).1=0)/\j=2 - q) ⟨0,rfl,by omega,fun h=>by omega,fun h=>by omega,rfl⟩ (wkM wB) ?_;rintro j st ⟨q,rfl,hq,hq1,kN,rfl⟩;refine br ?_ ?_<;>intro n7
     ·have OI:q=0∨q=1:=by have:=n7;simp at this;omega
      rcases OI with rfl | rfl
      ·refine ⟨_,⟨by omega,rfl⟩,?_⟩;refine cP Hl (Lx.uk hX p.label (by omega)) ?_;refine br ?_ ?_<;>intro hb
       ·have hb:(X.bad p.label).1≠0:=sU hb;rw [zIfP hb] at aQ;refine ⟨_,?_,rfl⟩;rw [aQ];exact ax
       ·have hb:(X.bad p.label).1=0:=sU hb;exact ⟨Dt (.pt (bC ⟨ae,order,types,.mk rh rp⟩ X.pd (.pt (pC ⟨ae,order,types,.mk rh rp⟩ aN a b c e0) 0) m) 0) (.mk h ps) ps p (.mk u us) e 1,(wkM (wB1 (nxt (e:=0) (n:=2) (by omega) (by omega)))),1,by omega,1,rfl,by omega,fun _=>hb,fun h=>by omega,rfl⟩
      ·have ib:=hq1 (by omega);refine ⟨_,⟨by omega,rfl⟩,?_⟩;refine cP Hl (Lx.uk hX p.cl (by omega)) ?_;refine br ?_ ?_<;>intro hb
       ·have hb:(X.bad p.cl).1≠0:=sU hb;rw [af (by rw [ib];simp),zIfP hb] at aQ;refine ⟨_,?_,rfl⟩;rw [aQ];exact ax
       ·have hb:(X.bad p.cl).1=0:=sU hb;exact ⟨Dt (.pt (bC ⟨ae,order,types,.mk rh rp⟩ X.pd (.pt (pC ⟨ae,order,types,.mk rh rp⟩ aN a b c e0) 0) m) 0) (.mk h ps) ps p (.mk u us) e 2,(wkM (wB1 (nxt (e:=1) (n:=2) (by omega) (by omega)))),0,by omega,2,rfl,by omega,fun _=>ib,fun _=>hb,rfl⟩
     ·have OI:q=2:=by have:=n7;simp at this;omega
      subst OI;have ib:=hq1 (by omega);have mb:=kN (by omega);rw [af (by rw [ib];simp),af (by rw [mb];simp)] at aQ;refine br ?_ ?_<;>intro hB
      ·have hB:p.bare=true:=hB;rw [zIfP hB] at aQ;exact rE ⟨_,by omega,e + 1,rfl,by omega,aQ,rfl⟩ (wkM (wB1 (nxt az (by omega))))
      ·have hB:p.bare=false:=hB;rw [af (by rw [hB];decide)] at aQ;refine cP aaS (ih (.mk u us) (by omega) (by omega)) ?_;refine br ?_ ?_<;>intro hb
       ·have hb:(knT X (tL ⟨ae,order,types,.mk rh rp⟩) (.mk u us)).1≠0:=sU hb;rw [zIfP hb] at aQ;refine ⟨_,?_,rfl⟩;rw [aQ];exact ax
       ·have hb:(knT X (tL ⟨ae,order,types,.mk rh rp⟩) (.mk u us)).1=0:=sU hb;rw [af (by rw [hb];simp)] at aQ;exact rE ⟨_,by omega,e + 1,rfl,by omega,aQ,rfl⟩ (wkM (wB1 (nxt az (by omega))))
    ·have hge:e=ps.len:=by simp [aP] at hL;omega
     rw [hge,Pts.dK] at aQ;simp only [knP] at aQ;refine ⟨_,?_,rfl⟩;rw [aQ];exact ax
  ·have h9:¬ h.ay=9:=sU h9;rw [af (fun hc=>h9 hc.1),hS0] at hS;refine lI (fun j st=>∃ e:Nat,st=af8 (.pt (bC ⟨ae,order,types,.mk rh rp⟩ X.pd (.pt (pC ⟨ae,order,types,.mk rh rp⟩ aN a b c e0) 0) m) 0) (.mk h ps) ps e/\e<=ps.len/\F=knP X (tL ⟨ae,order,types,.mk rh rp⟩) (ps.drop e)/\j=ps.len - e) ⟨0,rfl,by omega,hS,rfl⟩ (wkM wB) ?_;rintro j st ⟨e,rfl,he,aQ,rfl⟩;refine br ?_ ?_<;>intro hL
   ·have az:e < ps.len:=by simpa [aP] using hL
    obtain ⟨p,t,hx⟩:=Pts.fx az;have BQ:=Pts.iu (mG hx);rw [Pts.drop_cons hx] at aQ;simp only [knP] at aQ;have s7:wdsWt p.label + wdsWt p.cl<=p.wt:=by simp only [Ph.wt];omega
    obtain ⟨u,us⟩:=t;refine iX (ch hx) ?_;refine lI (fun j st=>∃ q:Nat,st=Dt (.pt (bC ⟨ae,order,types,.mk rh rp⟩ X.pd (.pt (pC ⟨ae,order,types,.mk rh rp⟩ aN a b c e0) 0) m) 0) (.mk h ps) ps p (.mk u us) e q/\q<=2/\(1<=q->(X.bad p.label).1=0)/\(2<=q->(X.bad p.cl).1=0)/\j=2 - q) ⟨0,rfl,by omega,fun h=>by omega,fun h=>by omega,rfl⟩ (wkM wB) ?_;rintro j st ⟨q,rfl,hq,hq1,kN,rfl⟩;refine br ?_ ?_<;>intro n7
    ·have OI:q=0∨q=1:=by have:=n7;simp at this;omega
     rcases OI with rfl | rfl
     ·refine ⟨_,⟨by omega,rfl⟩,?_⟩;refine cP Hl (Lx.uk hX p.label (by omega)) ?_;refine br ?_ ?_<;>intro hb
      ·have hb:(X.bad p.label).1≠0:=sU hb;rw [zIfP hb] at aQ;refine ⟨_,?_,rfl⟩;rw [aQ];exact ax
      ·have hb:(X.bad p.label).1=0:=sU hb;exact ⟨Dt (.pt (bC ⟨ae,order,types,.mk rh rp⟩ X.pd (.pt (pC ⟨ae,order,types,.mk rh rp⟩ aN a b c e0) 0) m) 0) (.mk h ps) ps p (.mk u us) e 1,(wkM (wB1 (nxt (e:=0) (n:=2) (by omega) (by omega)))),1,by omega,1,rfl,by omega,fun _=>hb,fun h=>by omega,rfl⟩
     ·have ib:=hq1 (by omega);refine ⟨_,⟨by omega,rfl⟩,?_⟩;refine cP Hl (Lx.uk hX p.cl (by omega)) ?_;refine br ?_ ?_<;>intro hb
      ·have hb:(X.bad p.cl).1≠0:=sU hb;rw [af (by rw [ib];simp),zIfP hb] at aQ;refine ⟨_,?_,rfl⟩;rw [aQ];exact ax
      ·have hb:(X.bad p.cl).1=0:=sU hb;exact ⟨Dt (.pt (bC ⟨ae,order,types,.mk rh rp⟩ X.pd (.pt (pC ⟨ae,order,types,.mk rh rp⟩ aN a b c e0) 0) m) 0) (.mk h ps) ps p (.mk u us) e 2,(wkM (wB1 (nxt (e:=1) (n:=2) (by omega) (by omega)))),0,by omega,2,rfl,by omega,fun _=>ib,fun _=>hb,rfl⟩
    ·have OI:q=2:=by have:=n7;simp at this;omega
     subst OI;have ib:=hq1 (by omega);have mb:=kN (by omega);rw [af (by rw [ib];simp),af (by rw [mb];simp)] at aQ;refine br ?_ ?_<;>intro hB
     ·have hB:p.bare=true:=hB;rw [zIfP hB] at aQ;exact rE ⟨_,by omega,e + 1,rfl,by omega,aQ,rfl⟩ (wkM (wB1 (nxt az (by omega))))
     ·have hB:p.bare=false:=hB;rw [af (by rw [hB];decide)] at aQ;refine cP aaS (ih (.mk u us) (by omega) (by omega)) ?_;refine br ?_ ?_<;>intro hb
      ·have hb:(knT X (tL ⟨ae,order,types,.mk rh rp⟩) (.mk u us)).1≠0:=sU hb;rw [zIfP hb] at aQ;refine ⟨_,?_,rfl⟩;rw [aQ];exact ax
      ·have hb:(knT X (tL ⟨ae,order,types,.mk rh rp⟩) (.mk u us)).1=0:=sU hb;rw [af (by rw [hb];simp)] at aQ;exact rE ⟨_,by omega,e + 1,rfl,by omega,aQ,rfl⟩ (wkM (wB1 (nxt az (by omega))))
   ·have hge:e=ps.len:=by simp [aP] at hL;omega
    rw [hge,Pts.dK] at aQ;simp only [knP] at aQ;refine ⟨_,?_,rfl⟩;rw [aQ];exact ax
def eaL (F:Ty->Ft) (z:Ft):List (Wd × Ty)->Ft
 | []=>z
 | x :: r=>if (F x.2).1≠0 then F x.2 else eaL F z r
theorem Ts {F:Ty->Ft} {z:Ft} {l:List (Wd × Ty)} {e:Nat} {x:Wd × Ty} (h:l[e]? = some x):eaL F z (l.drop e)=if (F x.2).1≠0 then F x.2 else eaL F z (l.drop (e + 1)):=by
 rw [drop_cons h,eaL]
abbrev Tt (B:DV) (fn:DV) (types:List (Wd × Ty)) (e:Nat):St:=
 ⟨[(0,⟨[],B⟩),(1,⟨[],fn⟩),aJ 4 0,bJ 12 11 (dNms types),aC 13 ((dNms types).length),aC 14 e],[[.v (.int .i64 0),.v (.int .i64 0)]],[]⟩
theorem PA (s:Sch) (lat:DV) (pc:List DV) (m:Int) (hl:s.types.length<=1099511627776) (g:Nat) (hg:Enters prog g) (F:Ty->Ft)
  (hF:∀ t,(t=s.root∨∃ x∈s.types,t=x.2)->aR prog g [.pt (bC s lat (.pt pc 0) m) 0,.agg (cL t)] (F t).d) :
  aR prog 63 [.pt (bC s lat (.pt pc 0) m) 0,.fn g [.pt (bC s lat (.pt pc 0) m) 0] []] (eaL F (F s.root) s.types).d:=by
 have hN:=bS s.types;obtain ⟨ae,order,types,⟨rh,rp⟩⟩:=s;simp only at hl hF hN;have H8:=hF (.mk rh rp) (.inl rfl);have aby:∀ x∈types,_:=fun x hx=>hF x.2 (.inr ⟨x,hx,rfl⟩);clear hF;refine eG 34 [.cell 4 26] func63 rfl ntmps63 rfl fun _ _ _ _=>?_;generalize hG:eaL F (F (.mk rh rp)) types=G;have hG0:G=eaL F (F (.mk rh rp)) (types.drop 0):=by rw [List.drop_zero,hG]
 refine aY (fun j st=>∃ e:Nat,st=Tt (.pt (bC ⟨ae,order,types,.mk rh rp⟩ lat (.pt pc 0) m) 0) (.fn g [.pt (bC ⟨ae,order,types,.mk rh rp⟩ lat (.pt pc 0) m) 0] []) types e/\e<=types.length/\G=eaL F (F (.mk rh rp)) (types.drop e)/\j=types.length - e) types.length
  (Tt (.pt (bC ⟨ae,order,types,.mk rh rp⟩ lat (.pt pc 0) m) 0) (.fn g [.pt (bC ⟨ae,order,types,.mk rh rp⟩ lat (.pt pc 0) m) 0] []) types 0) (wkM wB) ⟨0,rfl,by omega,hG0,by omega⟩ ?_
 rintro j st ⟨e,rfl,he,aQ,rfl⟩;refine br ?_ ?_<;>intro hL
 ·have az:e < types.length:=by have:=hL;simp [hN] at this;exact this
  obtain ⟨x,hx⟩:=gX az;have hp:=aby x (mG hx);rw [Ts hx] at aQ;obtain ⟨xw,⟨xh,xp⟩⟩:=x;refine iX (dNms_get hx) ?_;refine cP hg hp ?_;refine br ?_ ?_<;>intro hf
  ·have hf:(F (.mk xh xp)).1≠0:=sU hf;rw [zIfP hf] at aQ;refine ⟨_,?_,rfl⟩;rw [aQ];exact ax
  ·have hf:(F (.mk xh xp)).1=0:=sU hf;rw [af (by rw [hf];simp)] at aQ;exact rE ⟨_,by omega,e + 1,rfl,by omega,aQ,rfl⟩ (wkM (wB1 (nxt az (by omega))))
 ·have hge:e=types.length:=sW hN hL;subst hge;rw [List.drop_length,eaL] at aQ;refine cP hg H8 ?_;refine ⟨_,?_,rfl⟩;rw [aQ];exact ax
def cC (t:Ty) (m:Int):Ft × Int:=if (wrong t 1 0).1.1≠0 then ((wrong t 1 0).1,m) else if 512 < m + t.cnt then ((8,t.h.cT),m + t.cnt) else ((0,0),m + t.cnt)
def Tu (s:Sch) (lat:DV) (pc:List DV) (x:Ft × Int) (r:DV) (os:List (List DV)) (_:List TkE):Prop:=r=x.1.d/\os=[bC s lat (.loc 1 0) x.2,pc]
theorem H9 (s:Sch) (lc pc:List DV) (m:Int) (oZ:0<=m) (kO:m<=1099511627776) (t:Ty) (c7:t.wt<=1099511627776) (hpc:∀ bx N n0 m0,CcL bx N n0 m0 pc pc) :
  Ev prog 64 [.loc 0 0,.agg (cL t)] [bC s (.pt lc 0) (.loc 1 0) m,pc] [] (Tu s (.pt lc 0) pc (cC t m)):=by
 have hk:=H6 t c7;have hc:=Ax t.wt t (zLeR _) c7;have QV:=t.fy;have hF:=cC.eq_1 t m;obtain ⟨ae,order,types,⟨rh,rp⟩⟩:=s;obtain ⟨h,ps⟩:=t;generalize cC (.mk h ps) m=R at hF ⊢;refine eG 30 [.cell 4 26] func64 rfl ntmps64 rfl fun _ _ _ _=>?_;refine cP en84 hk ?_;refine br ?_ ?_<;>intro hf
 ·have hf:(wrong (.mk h ps) 1 0).1.1≠0:=sU hf;rw [zIfP hf] at hF;subst hF;exact ⟨Ft.d _,[bC ⟨ae,order,types,.mk rh rp⟩ (.pt lc 0) (.loc 1 0) m,pc],ax,(by repeat' (first | exact rfl | exact trivial | exact Or.inr (Or.inl ⟨_,rfl⟩) | exact Or.inr ⟨_,rfl⟩ | exact Or.inl ⟨rfl,rfl⟩ | exact Or.inl rfl | refine Or.inr ⟨_,_,rfl,Nat.zero_le _,rfl,?_⟩ | refine ⟨_,_,rfl,?_,?_⟩ | refine ⟨_,rfl,?_⟩ | exact hpc _ _ _ _ | exact ⟨nL rfl,rfl⟩ | exact congrArg (fun z=>DV.v (.int .i64 z)) hw | refine Or.inr (Or.inr (Or.inr ⟨_,_,rfl,?_⟩)) | exact Or.inl rfl | refine Or.inr ?_)),rfl,rfl⟩
 have hf:(wrong (.mk h ps) 1 0).1.1=0:=sU hf;rw [af (by rw [hf];simp)] at hF;have hw:IntKind.i64.wrap (m + ((Ty.mk h ps).cnt:Int))=m + ((Ty.mk h ps).cnt:Int):=wrap64 (by omega) (by omega);refine dS ?_;refine cD YE hc ?_;refine br ?_ ?_<;>intro hg
 ·have hg:512 < m + ((Ty.mk h ps).cnt:Int):=sV hw hg;rw [zIfP hg] at hF;subst hF;exact ⟨Ft.d _,[bC ⟨ae,order,types,.mk rh rp⟩ (.pt lc 0) (.loc 1 0) (m + (Ty.mk h ps).cnt),pc],ax,(wC2 hpc hw),rfl,rfl⟩
 ·have hg:¬ 512 < m + ((Ty.mk h ps).cnt:Int):=sV hw hg;rw [af hg] at hF;subst hF;exact ⟨Ft.d _,[bC ⟨ae,order,types,.mk rh rp⟩ (.pt lc 0) (.loc 1 0) (m + (Ty.mk h ps).cnt),pc],ax,(wC2 hpc hw),rfl,rfl⟩
def eaR (z:Ty):List (Wd × Ty)->Int->Ft × Int
 | [],m=>cC z m
 | x :: r,m=>if (cC x.2 m).1.1≠0 then cC x.2 m else eaR z r (cC x.2 m).2
theorem Tv {z:Ty} {l:List (Wd × Ty)} {e:Nat} {m:Int} {x:Wd × Ty} (h:l[e]? = some x):eaR z (l.drop e) m=if (cC x.2 m).1.1≠0 then cC x.2 m else eaR z (l.drop (e + 1)) (cC x.2 m).2:=by
 rw [drop_cons h,eaR]
theorem qU {t:Ty} {m:Int} (h:(cC t m).1.1=0):(cC t m).2=m + t.cnt/\(cC t m).2<=512/\(wrong t 1 0).1.1=0/\(cC t m).1=(0,0):=by grind [cC]
abbrev KS (s:Sch) (aN:List Nat) (lc:List DV):List DV:=pC s aN (.pt lc 0) (.v (.slice none 0 0)) (.v (.int .i64 0)) (.v (.slice none 0 0))
abbrev FD (s:Sch) (lc pc:List DV) (m:Int) (types:List (Wd × Ty)) (e:Nat):St:=
 ⟨[aJ 0 0,(1,⟨[],.fn 64 [.loc 0 0] []⟩),aJ 4 2,bJ 12 11 (dNms types),aC 13 ((dNms types).length),aC 14 e],
  [bC s (.pt lc 0) (.loc 1 0) m,pc,[.v (.int .i64 0),.v (.int .i64 0)]],[]⟩
theorem KT (s:Sch) (lc:List DV) (aN:List Nat) (m:Int) (oZ:0<=m) (kO:m<=512) (hl:s.types.length<=1099511627776) (c7:∀ t,(t=s.root∨∃ x∈s.types,t=x.2)->t.wt<=1099511627776) :
  Ev prog 63 [.loc 0 0,.fn 64 [.loc 0 0] []] [bC s (.pt lc 0) (.loc 1 0) m,KS s aN lc] [] (Tu s (.pt lc 0) (KS s aN lc) (eaR s.root s.types m)):=by
 have hN:=bS s.types;have hR:∀ (m':Int),0<=m' -> m' <= 512->∀ t,(t=s.root∨∃ x∈s.types,t=x.2)->_:=fun m' h0 h1 t ht=>H9 s lc (KS s aN lc) m' h0 (by omega) t (c7 t ht) (fun bx N n0 m0=>ax);obtain ⟨ae,order,types,⟨rh,rp⟩⟩:=s;simp only at hl hR hN c7;refine eG 34 [.cell 4 26] func63 rfl ntmps63 rfl fun _ _ _ _=>?_;generalize hG:eaR (.mk rh rp) types m=G;have hG0:G=eaR (.mk rh rp) (types.drop 0) m:=by rw [List.drop_zero,hG]
 refine aY (fun j st=>∃ (e:Nat) (m':Int),st=FD ⟨ae,order,types,.mk rh rp⟩ lc (KS ⟨ae,order,types,.mk rh rp⟩ aN lc) m' types e/\e<=types.length/\0<=m' /\ m' <= 512/\G=eaR (.mk rh rp) (types.drop e) m' /\ j=types.length - e) types.length
  (FD ⟨ae,order,types,.mk rh rp⟩ lc (KS ⟨ae,order,types,.mk rh rp⟩ aN lc) m types 0) (ej 3 (by repeat' (first | exact rfl | exact aA rfl | exact rfl | refine ⟨_,_,rfl,?_,?_⟩)) (by repeat' (first | exact trivial | exact aA rfl | exact rfl | refine ⟨⟨_,rfl,?_⟩,?_⟩))) ⟨0,m,rfl,by omega,oZ,kO,hG0,by omega⟩ ?_
 rintro j st ⟨e,m',rfl,he,Fh,HD,aQ,rfl⟩;refine br ?_ ?_<;>intro hL
 ·have az:e < types.length:=by have:=hL;simp [hN] at this;exact this
  obtain ⟨x,hx⟩:=gX az;have hp:=hR m' Fh HD x.2 (.inr ⟨x,mG hx,rfl⟩);rw [Tv hx] at aQ;obtain ⟨xw,⟨xh,xp⟩⟩:=x;refine iX (dNms_get hx) ?_;refine ai 2 0 aeg rfl rfl rfl av av hp (fun r Zj Zi hΦ h1 h2=>?_);obtain ⟨rfl,rfl⟩:=hΦ;have h2:=List.eq_nil_of_length_eq_zero h2;subst h2;refine br ?_ ?_<;>intro hf
  ·have hf:(cC (.mk xh xp) m').1.1≠0:=sU hf;rw [zIfP hf] at aQ;subst aQ;exact ⟨Ft.d _,[bC ⟨ae,order,types,.mk rh rp⟩ (.pt lc 0) (.loc 1 0) (cC (.mk xh xp) m').2,KS ⟨ae,order,types,.mk rh rp⟩ aN lc],ax,av,rfl,rfl⟩
  ·have hf:(cC (.mk xh xp) m').1.1=0:=sU hf;rw [af (by rw [hf];simp)] at aQ;obtain ⟨g1,g2,_,_⟩:=qU hf;exact ⟨FD ⟨ae,order,types,.mk rh rp⟩ lc (KS ⟨ae,order,types,.mk rh rp⟩ aN lc) (cC (.mk xh xp) m').2 types (e + 1),(ej 3 (ng (nxt az (by omega))) (wB1 (nxt az (by omega)))),types.length - (e + 1),by omega,e + 1,_,rfl,by omega,by omega,g2,aQ,rfl⟩
 ·have hge:e=types.length:=sW hN hL;subst hge;rw [List.drop_length,eaR] at aQ;refine ai 2 0 aeg rfl rfl rfl av av (hR m' Fh HD (.mk rh rp) (.inl rfl)) (fun r Zj Zi hΦ h1 h2=>?_);obtain ⟨rfl,rfl⟩:=hΦ;have h2:=List.eq_nil_of_length_eq_zero h2;subst h2;subst aQ;exact ⟨Ft.d _,[bC ⟨ae,order,types,.mk rh rp⟩ (.pt lc 0) (.loc 1 0) (cC (.mk rh rp) m').2,KS ⟨ae,order,types,.mk rh rp⟩ aN lc],ax,av,rfl,rfl⟩
def fF (s:Sch):Ft:=if 64 < s.types.length then (8,atN (yk s) 64) else enumL (yk s) 0 (yk s)
def WZ (s:Sch) (lc:List DV) (r:DV) (os:List (List DV)) (_:List TkE):Prop:=
 r=(fF s).d/\((fF s).1=0->∃ aN,jy (tL s) aN/\aN.length<=s.types.length/\os=[bC s (.pt lc 0) (.loc 1 0) 0,KS s aN lc])
abbrev Tw (s:Sch) (lc:List DV) (n e:Nat):St:=
 ⟨[aJ 0 0,aJ 2 2,(3,⟨[],.sl 1 (fQ (aF ((yk s).take e))) (some 0)⟩),bJ 27 11 (dNms s.types),aC 28 ((dNms s.types).length),aC 29 e],
  [bC s (.pt lc 0) (.loc 1 0) 0,[.pt lc 0,.v (.slice none 0 0),.v (.int .i64 0),.v (.pointer none),.v (.slice none 0 0)],[.v (.int .i64 0),.v (.int .i64 0)]],[⟨n,9,1,none⟩]⟩
theorem FE (s:Sch) (lc:List DV) (hs:nmsWt s.types<=1099511627776) :
  Ev prog 62 [.loc 0 0] [bC s (.pt lc 0) (.loc 1 0) 0,[.pt lc 0,.v (.slice none 0 0),.v (.int .i64 0),.v (.pointer none),.v (.slice none 0 0)]] [] (WZ s lc):=by
 have hN:=bS s.types;have ir:=nk s.types;have gf:=NA s;have hF:=fF.eq_1 s;have kB:∀ {e:Nat} {x:Wd × Ty},s.types[e]? = some x->(yk s)[e]? = some x.1:=fun h=>by simp [yk,h]
 have dO:=zP (tL s) (by rw [mI];omega);have hTL:tL s=aF (yk s):=rfl
 have hw:∀ x∈s.types,x.1.s.size<=1099511627776:=fun x hx=>by
  have:=jO hx;simp only [Wd.wt] at this;omega
 obtain ⟨ae,order,types,⟨rh,rp⟩⟩:=s;simp only at hs hN ir gf kB hw hF;generalize hQ:yk ⟨ae,order,types,.mk rh rp⟩=Q at gf hF kB hTL;refine eG 67 [.cell 2 26] func62 rfl ntmps62 rfl fun _ _ _ _=>?_;refine br ?_ ?_<;>intro h
 ·have h:64 < types.length:=by simp [hN] at h;omega
  obtain ⟨x,hx⟩:∃ x,types[64]? = some x:=⟨_,gE h⟩;have hxn:=kB hx;rw [zIfP h,mq hxn] at hF;obtain ⟨xw,⟨xh,xp⟩⟩:=x;refine iX (dNms_get hx) ?_;refine ⟨Ft.d (8,xw.a),[bC ⟨ae,order,types,.mk rh rp⟩ (.pt lc 0) (.loc 1 0) 0,[.pt lc 0,.v (.slice none 0 0),.v (.int .i64 0),.v (.pointer none),.v (.slice none 0 0)]],ax,av,by rw [hF],fun h0=>by rw [hF] at h0;simp at h0⟩
 have h:¬ 64 < types.length:=by simp [hN] at h;omega
 rw [af h] at hF;refine lI (fun j st=>∃ e:Nat,st=Tw ⟨ae,order,types,.mk rh rp⟩ lc e e/\e<=types.length/\(aF (Q.take e)).Nodup/\enumL Q 0 Q=enumL Q e (Q.drop e)/\j=types.length - e) ⟨0,rfl,by omega,by simp [aF],rfl,rfl⟩ (di 3 ⟨0,9,1,none⟩ rfl rfl rfl tJ rfl rfl lW) ?_;rintro j st ⟨e,rfl,he,hnd,aQ,rfl⟩;rw [aQ] at hF;refine br ?_ ?_<;>intro hL
 ·have az:e < types.length:=by have:=hL;simp [hN] at this;exact this
  obtain ⟨x,hx⟩:=gX az;have VB:=hw x (mG hx);have hq:=kB hx;have pz:=kP hq;have hst:=sx hq;have GB:=oC hq hnd;have Tg:=si (aF (Q.take (e + 1))) (by simp [aF];omega);rw [<- pz] at Tg;obtain ⟨xw,⟨xh,xp⟩⟩:=x;simp only at VB hq pz hst GB Tg;refine iX (dNms_get hx) ?_;rw [hQ];refine ⟨by simp [cX,aF];omega,⟨by simp [cX,aF,maxLen];omega,by simp [cX,aF];omega⟩,?_⟩;refine cP Ki (iv xw.s (by omega)) ?_;refine br ?_ ?_<;>intro NB
  ·have NB:bM xw.s=false:=sU NB;have hf:aK Q e xw=9:=by simp [aK,NB]
   rw [hst,hf,zIfP (by decide)] at hF;refine ⟨Ft.d (9,xw.a),[bC ⟨ae,order,types,.mk rh rp⟩ (.pt lc 0) (.loc 1 0) 0,[.pt lc 0,.v (.slice none 0 0),.v (.int .i64 0),.v (.pointer none),.v (.slice none 0 0)]],ax,av,by rw [hF],fun h0=>by rw [hF] at h0;simp at h0⟩
  ·have NB:bM xw.s=true:=sU NB;refine bZ RR rfl Tg ax (fun r hr=>?_);obtain ⟨z,rfl,hz⟩:=hr;refine br ?_ ?_<;>intro h2
   ·have h2:0<=z:=sU h2;have hd:c8 (Q.take e) xw.s=true:=by grind
    have hf:aK Q e xw=10:=by simp [aK,NB,hd]
    rw [hst,hf,zIfP (by decide)] at hF;refine ⟨Ft.d (10,xw.a),[bC ⟨ae,order,types,.mk rh rp⟩ (.pt lc 0) (.loc 1 0) 0,[.pt lc 0,.v (.slice none 0 0),.v (.int .i64 0),.v (.pointer none),.v (.slice none 0 0)]],ax,av,by rw [hF],fun h0=>by rw [hF] at h0;simp at h0⟩
   ·have h2:¬ 0<=z:=sU h2;have B7:(aF (Q.take (e + 1))).Nodup:=Classical.byContradiction fun hn=>h2 (hz.2 hn);have hf:aK Q e xw=0:=by simp [aK,NB,GB.1 B7]
    rw [hf,af (by simp)] at hst;have agb:fQ (aF (Q.take e)) ++ [[DV.v (.string xw.s)]]=fQ (aF ((yk ⟨ae,order,types,.mk rh rp⟩).take (e + 1))):=by rw [hQ];exact pz
    refine ⟨Tw ⟨ae,order,types,.mk rh rp⟩ lc (e + 1) (e + 1),(ej 3 (J9 (nxt az (by omega)) agb) (wB2 (nxt az (by omega)) agb)),types.length - (e + 1),by omega,e + 1,rfl,by omega,B7,aQ.trans hst,rfl⟩
 ·have hge:e=types.length:=sW hN hL;have h0:enumL Q e (Q.drop e)=(0,0):=by rw [hge,<- gf,List.drop_length];all_goals rfl
  rw [h0] at hF;have ht:Q.take e=Q:=by rw [hge,<- gf,List.take_length]
  have hEq:aF ((yk ⟨ae,order,types,.mk rh rp⟩).take e)=tL ⟨ae,order,types,.mk rh rp⟩:=by rw [hQ,ht,hTL]
  rw [<- hEq] at dO;refine dS ?_;refine tN RQ rfl dO ax (fun Ke hr=>?_);obtain ⟨aN,hT,nZ,rfl⟩:=hr;rw [hEq] at hT nZ;have hpt:DV.pt (dB (aF ((yk ⟨ae,order,types,.mk rh rp⟩).take e)) aN) 0=DV.pt (dB (tL ⟨ae,order,types,.mk rh rp⟩) aN) 0:=congrArg (fun L=>DV.pt (dB L aN) 0) hEq;rw [mI] at nZ;exact ⟨Ft.d (0,0),[bC ⟨ae,order,types,.mk rh rp⟩ (.pt lc 0) (.loc 1 0) 0,KS ⟨ae,order,types,.mk rh rp⟩ aN lc],ax,(by repeat' (first | exact rfl | exact trivial | exact Or.inr (Or.inl ⟨_,rfl⟩) | exact Or.inr ⟨_,rfl⟩ | exact Or.inl ⟨rfl,rfl⟩ | exact Or.inl rfl | refine Or.inr ⟨_,_,rfl,Nat.zero_le _,rfl,?_⟩ | refine ⟨_,_,rfl,?_,?_⟩ | refine ⟨_,rfl,?_⟩ | exact ⟨nL rfl,rfl⟩ | exact Or.inl hpt | refine Or.inr (Or.inr (Or.inr ⟨_,_,rfl,?_⟩)) | exact Or.inl rfl | refine Or.inr ?_)),by rw [hF],fun _=>⟨aN,hT,nZ,rfl⟩⟩
def firstA (s:Sch) (k:Nat):Nat:=((s.types.take k).map fun x=>x.2.nn).sum
theorem p8 {s:Sch} {k:Nat} {x:Wd × Ty} (h:s.types[k]? = some x):firstA s (k + 1)=firstA s k + x.2.nn:=by
 unfold firstA;rw [List.take_add_one,h];simp
theorem Du (s:Sch):∀ k,firstA s k<=nmsWt s.types:=by
 intro k;unfold firstA;generalize s.types=l
 induction l generalizing k with
 | nil=>simp
 | cons x r ih=>
  cases k with
  | zero=>simp
  | succ k=>
   have h1:=ih k;have h2:=x.2.iz;have h3:=x.2.fy
   grind [nmsWt]
def namedN (s:Sch) (i:Nat):Nat:=firstA s ((endI s (s.types.length + 1) i).getD 0)
def namedL (s:Sch):List Nat:=(List.range s.types.length).map (namedN s)
theorem agc (n:Nat):(List.replicate n (vL [Value.int .i64 0])).flatten=cZ (List.replicate n 0):=by
 induction n with
 | zero=>rfl
 | succ n ih=>simp only [List.replicate_succ,List.flatten_cons,ih];rfl
theorem yG {n m:Nat} {tk:List TkE} {l:List DV} {js:List Int} (h:l=cZ js):WeL n m tk l (cZ js):=by rw [h];exact vB js
abbrev abz (s:Sch) (lc pc:List DV) (m:Int) (l:List Int) (cT e:Nat):St:=
 ⟨[aJ 0 0,(2,⟨[],.ms 2 1 0 (dNms s.types).length (dNms s.types).length⟩),aC 3 cT,bJ 18 11 (dNms s.types),aC 19 ((dNms s.types).length),aC 20 e],
  [bC s (.pt lc 0) (.loc 1 0) m,pc,cZ l],[]⟩
abbrev agd (s:Sch) (aN:List Nat) (lc:List DV) (m:Int) (l:List Int) (n e:Nat):St:=
 ⟨[aJ 0 0,(2,⟨[],.ms 2 1 0 (dNms s.types).length (dNms s.types).length⟩),aC 40 ((dNms s.types).length),aC 41 e],
  [bC s (.pt lc 0) (.loc 1 0) m,pC s aN (.pt lc 0) (.v (.slice none 0 0)) (.v (.int .i64 0)) (.sl 1 (dInts ((namedL s).take e)) (some 0)),cZ l],[⟨n,3,1,none⟩]⟩
def W0 (s:Sch) (aN:List Nat) (lc:List DV) (m:Int) (_:DV) (os:List (List DV)) (_:List TkE):Prop:=
 os=[bC s (.pt lc 0) (.loc 1 0) m,pC s aN (.pt lc 0) (.v (.slice none 0 0)) (.v (.int .i64 0)) (.sl 1 (dInts (namedL s)) none)]
theorem abA {l:List Int} {i:Nat} {z:Int} (h:l[i]? = some z):(cZ l)[i]? = some (DV.v (.int .i64 z)):=by simp [cZ,h]
theorem Ia (s:Sch) (lc:List DV) (aN:List Nat) (m:Int) (hT:jy (tL s) aN) (nZ:aN.length<=1099511627776) (hl:s.types.length<=64) (hr:∀ x∈s.types,ym s x.2=true) (hs:nmsWt s.types<=1099511627776)
  (hlo:∀ i,i < s.types.length->∃ k,endI s (s.types.length + 1) i=some k) :
  Ev prog 67 [.loc 0 0] [bC s (.pt lc 0) (.loc 1 0) m,KS s aN lc] [] (W0 s aN lc m):=by
 have hN:=bS s.types
 have hnw:∀ x∈s.types,x.2.wt<=1099511627776:=fun x hx=>by
  have:=jO hx;omega
 have hfw:=Du s;have hfs:=fun {k:Nat} {x:Wd × Ty}=>@p8 s k x;have ir:(namedL s).length=s.types.length:=by simp [namedL]
 have ly:=fun (e0:DV)=>H7 s (.pt lc 0) aN (.pt lc 0) (.v (.slice none 0 0)) (.v (.int .i64 0)) e0 m hT nZ hl hr;obtain ⟨ae,order,types,⟨rh,rp⟩⟩:=s;simp only at hl hr hN hs hnw hfw hfs ir ly hlo;have hN2:(dNms (⟨ae,order,types,.mk rh rp⟩:Sch).types).length=types.length:=hN;refine eG 66 [] func67 rfl ntmps67 rfl fun _ _ _ _=>?_;refine ⟨⟨rfl,by omega,by omega,by omega⟩,?_⟩
 refine aY (fun j st=>∃ (e:Nat) (l:List Int),st=abz ⟨ae,order,types,.mk rh rp⟩ lc (KS ⟨ae,order,types,.mk rh rp⟩ aN lc) m l (firstA ⟨ae,order,types,.mk rh rp⟩ e) e/\e<=types.length/\l.length=types.length/\(∀ i:Nat,i < e->l[i]? = some (firstA ⟨ae,order,types,.mk rh rp⟩ i:Int))/\j=types.length - e) types.length
  (abz ⟨ae,order,types,.mk rh rp⟩ lc (KS ⟨ae,order,types,.mk rh rp⟩ aN lc) m (List.replicate ((dNms types).length:Int).toNat 0) (firstA ⟨ae,order,types,.mk rh rp⟩ 0) 0) (ej 3 (by repeat' (first | exact rfl | exact aA rfl | exact yG (agc _) | refine ⟨_,_,rfl,?_,?_⟩)) (by repeat' (first | exact trivial | exact aA rfl | exact yG (agc _) | refine ⟨⟨_,rfl,?_⟩,?_⟩))) ⟨0,_,rfl,by omega,by simp [hN],fun _ h=>by omega,by omega⟩ ?_
 rintro j st ⟨e,l,rfl,he,NC,JQ,rfl⟩;refine br ?_ ?_<;>intro hL
 ·have az:e < types.length:=by have:=hL;simp [hN] at this;exact this
  obtain ⟨x,hx⟩:=gX az;have hxw:=hnw x (mG hx);have Yp:=hfs hx;have WS:=hfw (e + 1);obtain ⟨xw,⟨xh,xp⟩⟩:=x;have hnd:=Ay (Ty.mk xh xp).wt (.mk xh xp) (zLeR _) hxw;refine iX (dNms_get hx) ?_;refine ⟨⟨by omega,by omega⟩,?_⟩;refine ⟨by rw [abo];omega,?_⟩;refine cP YF hnd ?_;simp only at Yp WS;have mb:(cZ l).set (0 + (e:Int).toNat * 1) (DV.v (.int .i64 ((firstA ⟨ae,order,types,.mk rh rp⟩ e:Nat):Int)))=cZ (l.set e ((firstA ⟨ae,order,types,.mk rh rp⟩ e:Nat):Int)):=by grind [Tj]
  have CW:IntKind.i64.wrap (((firstA ⟨ae,order,types,.mk rh rp⟩ e:Nat):Int) + (Ty.mk xh xp).nn)=((firstA ⟨ae,order,types,.mk rh rp⟩ (e + 1):Nat):Int):=by grind [wrap64]
  refine ⟨abz ⟨ae,order,types,.mk rh rp⟩ lc (KS ⟨ae,order,types,.mk rh rp⟩ aN lc) m (l.set e ((firstA ⟨ae,order,types,.mk rh rp⟩ e:Nat):Int)) (firstA ⟨ae,order,types,.mk rh rp⟩ (e + 1)) (e + 1),(ej 3 (by repeat' (first | exact rfl | exact aA rfl | exact yG mb | exact aG CW | exact aG (nxt az (by omega)) | refine ⟨_,_,rfl,?_,?_⟩)) (by repeat' (first | exact trivial | exact aA rfl | exact yG mb | exact aG CW | exact aG (nxt az (by omega)) | refine ⟨⟨_,rfl,?_⟩,?_⟩))),types.length - (e + 1),by omega,e + 1,_,rfl,by omega,by rw [List.length_set];exact NC,fun i hi=>?_,rfl⟩;by_cases Kk:i=e
  ·grind
  ·grind
 ·have hge:e=types.length:=sW hN hL;subst hge;refine lJ (fun e=>agd ⟨ae,order,types,.mk rh rp⟩ aN lc m l e e) types.length (di 3 ⟨0,3,1,none⟩ rfl rfl rfl tJ rfl rfl lW) ?_;intro e he;refine br ?_ ?_<;>intro hL
  ·have az:e < types.length:=by have:=hL;simp [hN] at this;exact this
   obtain ⟨k,hk⟩:=hlo e az;have BO:=(yF hk).1;simp only at BO;have hE:=ly (.sl 1 (dInts ((namedL ⟨ae,order,types,.mk rh rp⟩).take e)) none) e az;rw [hk] at hE;have hnn:namedN ⟨ae,order,types,.mk rh rp⟩ e=firstA ⟨ae,order,types,.mk rh rp⟩ k:=by unfold namedN;rw [hk];all_goals rfl
   have kB:(namedL ⟨ae,order,types,.mk rh rp⟩)[e]? = some (firstA ⟨ae,order,types,.mk rh rp⟩ k):=by grind [namedL]
   have pz:dInts ((namedL ⟨ae,order,types,.mk rh rp⟩).take e) ++ [[DV.v (.int .i64 ((firstA ⟨ae,order,types,.mk rh rp⟩ k:Nat):Int))]]=dInts ((namedL ⟨ae,order,types,.mk rh rp⟩).take (e + 1)):=by
    rw [List.take_add_one,kB];simp [dInts]
   refine dS ?_;refine ug en134 hE ax rfl rfl ?_;refine ⟨⟨by simp only [oz];omega,by simp only [oz];omega⟩,?_⟩;have SG:(cZ l)[0 + (oz (some k)).toNat * 1]? = some (DV.v (.int .i64 ((firstA ⟨ae,order,types,.mk rh rp⟩ k:Nat):Int))):=by grind [oz,abA]
   refine ⟨_,SG,?_⟩;refine ⟨by simp [bQ];omega,⟨by simp [bQ,maxLen];omega,by simp [bQ];omega⟩,?_⟩;exact rE ⟨_,by omega,e + 1,rfl,by omega,rfl⟩ (ej 3 (J9 (nxt az (by omega)) pz) (wB2 (nxt az (by omega)) pz))
  ·have hge:e=types.length:=sW hN hL;subst hge;have ht:(namedL ⟨ae,order,types,.mk rh rp⟩).take types.length=namedL ⟨ae,order,types,.mk rh rp⟩:=by rw [<- ir,List.take_length]
   rw [ht];exact ⟨.bo [],[bC ⟨ae,order,types,.mk rh rp⟩ (.pt lc 0) (.loc 1 0) m,pC ⟨ae,order,types,.mk rh rp⟩ aN (.pt lc 0) (.v (.slice none 0 0)) (.v (.int .i64 0)) (.sl 1 (dInts (namedL ⟨ae,order,types,.mk rh rp⟩)) none)],ax,av,rfl⟩
structure Ed where
 name:ByteArray
 bare:Bool
 cT:Int
 to:Int
 label:Int
 wide:Int
 ck:Int
 cn:Int
 seen:Int
 ca:Int
structure Nd where
 ay:Int
 cT:Int
 lo:Int
 hi:Int
 most:Int
 ag:List ByteArray
 bK:List Ed
def PB (e:Ed):List DV:=[.v (.string e.name),.v (.bool e.bare),.v (.int .i64 e.cT),.v (.int .i64 e.to),.v (.int .i64 e.label),.v (.int .i64 e.wide),.v (.int .i64 e.ck),.v (.int .i64 e.cn),.v (.int .i64 e.seen),.v (.int .i64 e.ca)]
def lZ (l:List Ed):List (List DV):=l.map PB
def GG (n:Nd):List DV:=[.v (.int .i64 n.ay),.v (.int .i64 n.cT),.v (.int .i64 n.lo),.v (.int .i64 n.hi),.v (.int .i64 n.most),.sl 1 (fQ n.ag) none,.sl 10 (lZ n.bK) none]
def cE (l:List Nd):List (List DV):=l.map GG
def nD (w:Int):Int:=if w=0 then 3 else w
def AB (lev:List Wd->Int) (p:Ph) (to:Int):Ed:=⟨p.name.s,p.bare,p.name.a,to,lev p.label,nD p.wide,p.ck,p.cn,lev p.cl,p.ca⟩
def nmF (s:Sch) (name:ByteArray):Int:=(namedN s ((dC (tL s) name).getD 0):Int)
def sD (s:Sch) (t:Ty) (k:Nat):Int:=if t.h.ay=9 then nmF s t.h.name.s else (k:Int)
def yH (s:Sch) (p:Ph) (u:Ty) (k:Nat):Int:=if p.bare then -1 else sD s u k
mutual
def ndsT (lev:List Wd->Int) (s:Sch):Ty->Nat->List Nd
 | .mk h ps,k=>if h.ay=9 then [] else ⟨h.ay,h.cT,h.lo,h.hi,h.most,aF h.ag,edsP lev s ps (k + 1)⟩ :: AD lev s ps (k + 1)
def edsP (lev:List Wd->Int) (s:Sch):Pts->Nat->List Ed
 | .nil,_=>[]
 | .cons p u r,k=>AB lev p (yH s p u k) :: edsP lev s r (k + if p.bare then 0 else u.nn)
def AD (lev:List Wd->Int) (s:Sch):Pts->Nat->List Nd
 | .nil,_=>[]
 | .cons p u r,k=>(if p.bare then [] else ndsT lev s u k) ++ AD lev s r (k + if p.bare then 0 else u.nn)
end
mutual
theorem lK (lev:List Wd->Int) (s:Sch):∀ (t:Ty) (k:Nat),(ndsT lev s t k).length=t.nn
 | .mk h ps,k=>by
  simp only [ndsT,Ty.nn];split
  ·rfl
  ·rw [List.length_cons,AE lev s ps];omega
theorem AE (lev:List Wd->Int) (s:Sch):∀ (ps:Pts) (k:Nat),(AD lev s ps k).length=ps.nn
 | .nil,k=>rfl
 | .cons p u r,k=>by
  simp only [AD,Pts.nn,List.length_append,AE lev s r];split
  ·rfl
  ·rw [lK lev s u]
end
abbrev QX (s:Sch) (aN:List Nat) (lc:List DV) (n:Nat):List DV:=pC s aN (.pt lc 0) (.sl 0 (List.replicate n []) (some 0)) (.v (.int .i64 0)) (.sl 1 (dInts (namedL s)) none)
abbrev KU (n:Nat) (base:List DV):TkE:=⟨n,82,7,some base⟩
def Zv (s:Sch) (aN:List Nat) (lc:List DV) (m:Int) (n:Nat) (base:List DV) (y:DV) (Dx:List Nd) (r:DV) (os:List (List DV)) (tk:List TkE):Prop:=
 r=y/\os=[bC s (.pt lc 0) (.loc 1 0) m,QX s aN lc (n + Dx.length)]/\tk=[KU (n + Dx.length) (base ++ (cE Dx).flatten)]
def Tx (lev:List Wd->Int) (s:Sch) (aN:List Nat) (lc:List DV) (m:Int) (t:Ty):Prop:=
 ∀ (n:Nat) (base:List DV),n + t.nn<=1099511627776->base.length=n * 7 ->
  Ev prog 68 [.loc 0 0,.agg (cL t)] [bC s (.pt lc 0) (.loc 1 0) m,QX s aN lc n] [KU n base] (Zv s aN lc m n base (.v (.int .i64 (sD s t n))) (ndsT lev s t n))
theorem PD {X:Lx} (hX:X.OK) (s:Sch) (aN:List Nat) (m:Int) (p:Ph) (u:Ty) (hp:p.wt<=1099511627776) (nE:p.bare=false->Tx X.lev s aN (jS X.ag (dB X.ag X.aN) X.rows X.js) m u)
  (n:Nat) (base:List DV) (hb:p.bare=false->n + u.nn<=1099511627776) (hbl:base.length=n * 7) :
  Ev prog 136 [.loc 0 0,.agg (kv p (cL u))] [bC s (.pt (jS X.ag (dB X.ag X.aN) X.rows X.js) 0) (.loc 1 0) m,QX s aN (jS X.ag (dB X.ag X.aN) X.rows X.js) n] [KU n base]
   (Zv s aN (jS X.ag (dB X.ag X.aN) X.rows X.js) m n base (.agg (PB (AB X.lev p (yH s p u n)))) (if p.bare then [] else ndsT X.lev s u n)):=by
 have s7:wdsWt p.label + wdsWt p.cl<=p.wt:=by simp only [Ph.wt];omega
 have QO:X.pd = .pt (jS X.ag (dB X.ag X.aN) X.rows X.js) 0:=rfl;have jr:=fun pc=>Az hX s pc m p.label (by omega);have wg:=fun pc=>Az hX s pc m p.cl (by omega);rw [QO] at jr wg;have hE:=fun to=>AB.eq_1 X.lev p to;have wh:=yH.eq_1 s p u n;generalize jS X.ag (dB X.ag X.aN) X.rows X.js=lc at jr wg nE ⊢;obtain ⟨ae,order,types,⟨rh,rp⟩⟩:=s;obtain ⟨uh,us⟩:=u;refine eG 52 [.cell 4 90] func136 rfl ntmps136 rfl fun _ _ _ _=>?_;have Zw:=jr [.pt lc 0,.sl 0 (List.replicate n []) none,.v (.int .i64 0),.pt (dB (tL ⟨ae,order,types,.mk rh rp⟩) aN) 0,.sl 1 (dInts (namedL ⟨ae,order,types,.mk rh rp⟩)) none];have Zx:=wg [.pt lc 0,.sl 0 (List.replicate n []) none,.v (.int .i64 0),.pt (dB (tL ⟨ae,order,types,.mk rh rp⟩) aN) 0,.sl 1 (dInts (namedL ⟨ae,order,types,.mk rh rp⟩)) none];apply qL (fun _=>false) 11 15 [0,1,2,3,4,5,6,7,8,9,10,11,12,13,14,15,16] [0,1,2,3,4,5,6,7,8,9,10,15,11,12,13,14,16] 4 4 mo (by decide +kernel)
 ·refine ug MX Zw ax rfl rfl ?_;refine (?_:@Eq St _ _);exact rfl
 ·refine ug MX Zw ax rfl rfl ?_;refine (⟨rfl,rfl,?_⟩:_/\_/\_)
  repeat' (first | exact trivial | refine ⟨rfl,?_⟩)
 ·rfl
 refine br ?_ ?_<;>intro hw
 ·have hw:p.wide=0:=sU hw;refine aE [4] (fun _=>false) mo (by decide +kernel) ?_;refine ug MX Zx ax rfl rfl ?_;refine br ?_ ?_<;>intro hB
  ·have hB:p.bare=false:=sU hB;refine ai 2 1 Wr rfl rfl rfl av av (nE hB n base (hb hB) hbl) (fun r Zj Zi hΦ h1 h2=>?_);obtain ⟨rfl,rfl,rfl⟩:=hΦ;refine ⟨.agg (PB ⟨p.name.s,p.bare,p.name.a,sD ⟨ae,order,types,.mk rh rp⟩ (.mk uh us) n,X.lev p.label,3,p.ck,p.cn,X.lev p.cl,p.ca⟩),[bC ⟨ae,order,types,.mk rh rp⟩ (.pt lc 0) (.loc 1 0) m,QX ⟨ae,order,types,.mk rh rp⟩ aN lc (n + (ndsT X.lev ⟨ae,order,types,.mk rh rp⟩ (.mk uh us) n).length)],ax,av,?_,?_,?_⟩
   ·simp [hE,yH,hB,nD,hw]
   ·simp [hB]
   ·simp [hB]
  ·have hB:p.bare=true:=sU hB;refine ⟨.agg (PB ⟨p.name.s,p.bare,p.name.a,-1,X.lev p.label,3,p.ck,p.cn,X.lev p.cl,p.ca⟩),[bC ⟨ae,order,types,.mk rh rp⟩ (.pt lc 0) (.loc 1 0) m,QX ⟨ae,order,types,.mk rh rp⟩ aN lc n],ax,av,?_,?_,?_⟩
   ·simp [hE,yH,hB,nD,hw]
   ·simp [hB]
   ·simp [hB,cE]
 ·have hw:¬ p.wide=0:=sU hw;refine aE [4] (fun _=>false) mo (by decide +kernel) ?_;refine ug MX Zx ax rfl rfl ?_;refine br ?_ ?_<;>intro hB
  ·have hB:p.bare=false:=sU hB;refine ai 2 1 Wr rfl rfl rfl av av (nE hB n base (hb hB) hbl) (fun r Zj Zi hΦ h1 h2=>?_);obtain ⟨rfl,rfl,rfl⟩:=hΦ;refine ⟨.agg (PB ⟨p.name.s,p.bare,p.name.a,sD ⟨ae,order,types,.mk rh rp⟩ (.mk uh us) n,X.lev p.label,p.wide,p.ck,p.cn,X.lev p.cl,p.ca⟩),[bC ⟨ae,order,types,.mk rh rp⟩ (.pt lc 0) (.loc 1 0) m,QX ⟨ae,order,types,.mk rh rp⟩ aN lc (n + (ndsT X.lev ⟨ae,order,types,.mk rh rp⟩ (.mk uh us) n).length)],ax,av,?_,?_,?_⟩
   ·simp [hE,yH,hB,nD,hw]
   ·simp [hB]
   ·simp [hB]
  ·have hB:p.bare=true:=sU hB;refine ⟨.agg (PB ⟨p.name.s,p.bare,p.name.a,-1,X.lev p.label,p.wide,p.ck,p.cn,X.lev p.cl,p.ca⟩),[bC ⟨ae,order,types,.mk rh rp⟩ (.pt lc 0) (.loc 1 0) m,QX ⟨ae,order,types,.mk rh rp⟩ aN lc n],ax,av,?_,?_,?_⟩
   ·simp [hE,yH,hB,nD,hw]
   ·simp [hB]
   ·simp [hB,cE]
def nd0 (h:Hd):List DV:=[.v (.int .i64 h.ay),.v (.int .i64 h.cT),.v (.int .i64 h.lo),.v (.int .i64 h.hi),.v (.int .i64 h.most),.sl 1 (fQ (aF h.ag)) none,.v (.slice none 0 0)]
theorem W2 {h:Hd} {base R:List DV} {n:Nat} {x:DV} (hb:base.length=n * 7):(base ++ (nd0 h ++ R)).set (n * 7 + 6) x=base ++ ([.v (.int .i64 h.ay),.v (.int .i64 h.cT),.v (.int .i64 h.lo),.v (.int .i64 h.hi),.v (.int .i64 h.most),.sl 1 (fQ (aF h.ag)) none,x] ++ R):=by
 rw [List.set_append_right _ _ (by omega),hb,Nat.add_sub_cancel_left];rfl
theorem Dy (l:List Ed) (e:Ed):lZ l ++ [PB e]=lZ (l ++ [e]):=by simp [lZ]
theorem eJ (l:List Ed):(lZ l).length=l.length:=by simp [lZ]
theorem um (lev:List Wd->Int) (s:Sch):∀ (ps:Pts) (k:Nat),(edsP lev s ps k).length=ps.len
 | .nil,_=>rfl
 | .cons p u r,k=>by simp [edsP,Pts.len,um lev s r]
abbrev agf (s:Sch) (aN:List Nat) (lc:List DV) (m:Int) (n:Nat) (base:List DV) (h:Hd) (ps:Pts) (q e:Nat):St:=
 ⟨[aJ 0 0,aJ 3 2,aC 7 n,aJ 8 3,bJ 61 2 (bA h.ag),aC 62 ((bA h.ag).length),aC 63 e],
  [bC s (.pt lc 0) (.loc 1 0) m,QX s aN lc n,cL (.mk h ps),[.v (.int .i64 h.ay),.v (.int .i64 h.cT),.v (.int .i64 h.lo),.v (.int .i64 h.hi),.v (.int .i64 h.most),.sl 1 (fQ (aF (h.ag.take e))) (some 1),.v (.slice none 0 0)]],
  [KU n base,⟨q,9,1,none⟩]⟩
abbrev Tz (s:Sch) (aN:List Nat) (lc:List DV) (m:Int) (n:Nat) (h:Hd) (ps:Pts) (n':Nat) (uo:List DV) (Es:List Ed) (q1 q2 e:Nat):St:=
 ⟨[aJ 0 0,aJ 3 2,aC 7 n,(11,⟨[],.sl 10 (lZ Es) (some 2)⟩),bJ 92 18 (gm ps),aC 93 ((gm ps).length),aC 94 e],
  [bC s (.pt lc 0) (.loc 1 0) m,QX s aN lc n',cL (.mk h ps)],
  [KU n' uo,⟨q1,9,1,none⟩,⟨q2,90,10,none⟩]⟩
theorem p9 {X:Lx} {L:List ByteArray} {h:Hd} {ps:Pts} (hk:(knT X L (.mk h ps)).1=0):(h.ay=9->dC L h.name.s≠none)/\(knP X L ps).1=0:=by grind [knT]
theorem wi {X:Lx} {L:List ByteArray} {p:Ph} {u:Ty} {r:Pts} (hk:(knP X L (.cons p u r)).1=0):(p.bare=false->(knT X L u).1=0)/\(knP X L r).1=0:=by grind [knP]
theorem Dz {X:Lx} (hX:X.OK) (s:Sch) (aN:List Nat) (m:Int) (hT:jy (tL s) aN) (nZ:aN.length<=1099511627776):∀ (k:Nat) (t:Ty),t.wt<=k->t.wt<=1099511627776->(knT X (tL s) t).1=0 ->
  Tx X.lev s aN (jS X.ag (dB X.ag X.aN) X.rows X.js) m t
 | 0,t,hn,_,_=>by have:=t.kj;omega
 | k + 1,.mk h ps,hn,c7,Rw=>by
  have ih:=Dz hX s aN m hT nZ k;intro n base hnb hbl;obtain ⟨hk9,hkp⟩:=p9 Rw;have uq:=fun (p:Ph) (u:Ty)=>PD hX s aN m p u;generalize jS X.ag (dB X.ag X.aN) X.rows X.js=lc at ih uq ⊢;simp only [Ty.wt,Hd.wt] at hn c7;have jZ:=ps.gP;have ir:=bW h.ag;have hf:=jR (tL s) aN h.name.s hT nZ;have gf:=mI s;have hnmL:(namedL s).length=s.types.length:=by simp [namedL]
  have W4:sD s (.mk h ps) n=if h.ay=9 then nmF s h.name.s else (n:Int):=rfl
  have PF:ndsT X.lev s (.mk h ps) n=if h.ay=9 then [] else ⟨h.ay,h.cT,h.lo,h.hi,h.most,aF h.ag,edsP X.lev s ps (n + 1)⟩ :: AD X.lev s ps (n + 1):=by rw [ndsT]
  have hnn:(Ty.mk h ps).nn=if h.ay=9 then 0 else 1 + ps.nn:=by rw [Ty.nn]
  generalize hS:s=S at *;subst hS;obtain ⟨ae,order,types,⟨rh,rp⟩⟩:=s;refine eG 117 [.tmp 4] func68 rfl ntmps68 rfl fun _ _ _ _=>?_;refine br ?_ ?_<;>intro h9
  ·have h9:h.ay=9:=sU h9;obtain ⟨i,hi⟩:=Option.ne_none_iff_exists'.1 (hk9 h9);have OY:=(dX hi).1;rw [hi] at hf;rw [zIfP h9] at W4 PF;have kB:(namedL ⟨ae,order,types,.mk rh rp⟩)[i]? = some (namedN ⟨ae,order,types,.mk rh rp⟩ i):=by grind [namedL]
   refine dI ?_;refine cD pH hf ?_;refine iX (dr kB) ?_;refine ⟨.v (.int .i64 (namedN ⟨ae,order,types,.mk rh rp⟩ i:Nat)),[bC ⟨ae,order,types,.mk rh rp⟩ (.pt lc 0) (.loc 1 0) m,QX ⟨ae,order,types,.mk rh rp⟩ aN lc n],ax,av,?_,?_,?_⟩
   ·rw [W4,nmF,hi];rfl
   ·rw [PF];rfl
   ·rw [PF];simp [cE]
  have h9:¬ h.ay=9:=sU h9;rw [af h9] at W4 PF hnn;have gW:(List.replicate n ([]:List DV)).length=n:=List.length_replicate;refine lJ (fun e=>agf ⟨ae,order,types,.mk rh rp⟩ aN lc m n base h ps e e) h.ag.length (di 4 ⟨0,9,1,none⟩ rfl rfl rfl (ng gW) rfl rfl (wB1 gW)) ?_;intro e he;refine br ?_ ?_<;>intro hL
  ·have az:e < h.ag.length:=by simpa [aD] using hL
   obtain ⟨w,hw⟩:=gX az;have pz:=kP hw;refine ⟨jK w,⟨by omega,bn hw⟩,?_⟩;refine ⟨by simp [cX,aF];omega,⟨by simp [cX,aF,maxLen];omega,by simp [cX,aF];omega⟩,?_⟩;exact rE ⟨_,by omega,e + 1,rfl,by omega,rfl⟩ (ej 4 (J9 (nxt az (by omega)) pz) (wB2 (nxt az (by omega)) pz))
  have hge:e=h.ag.length:=by have:=hL;simp [aD] at this;omega
  subst hge;rw [List.take_length];refine dS ?_;refine ⟨⟨⟨gW,by simp⟩,by simp [maxLen];omega,by simp;omega⟩,?_⟩
  refine aY (fun j st=>∃ (e n':Nat) (uo:List DV) (Es:List Ed) (K:List Nd),st=Tz ⟨ae,order,types,.mk rh rp⟩ aN lc m n h ps n' uo Es h.ag.length e e/\e<=ps.len/\n'=n + 1 + K.length/\uo=base ++ (nd0 h ++ (cE K).flatten)/\Es.length=e /\
    K ++ AD X.lev ⟨ae,order,types,.mk rh rp⟩ (ps.drop e) (n + 1 + K.length)=AD X.lev ⟨ae,order,types,.mk rh rp⟩ ps (n + 1)/\Es ++ edsP X.lev ⟨ae,order,types,.mk rh rp⟩ (ps.drop e) (n + 1 + K.length)=edsP X.lev ⟨ae,order,types,.mk rh rp⟩ ps (n + 1)/\K.length + (ps.drop e).nn=ps.nn/\(knP X (tL ⟨ae,order,types,.mk rh rp⟩) (ps.drop e)).1=0/\j=ps.len - e) ps.len
   (Tz ⟨ae,order,types,.mk rh rp⟩ aN lc m n h ps (n + 1) (base ++ (nd0 h ++ [])) [] h.ag.length 0 0) (di 3 ⟨0,90,10,none⟩ rfl rfl rfl tJ rfl rfl lW) ⟨0,n + 1,_,[],[],rfl,by omega,rfl,rfl,rfl,rfl,rfl,by simp [Pts.drop],hkp,by omega⟩ ?_
  rintro j st ⟨e,n',uo,Es,K,rfl,he,Yo,fj,hEl,hK,hEs,hKn,hkd,rfl⟩
  have hbl':uo.length=n' * 7:=by
   have:∀ l:List Nd,(cE l).flatten.length=l.length * 7:=by
    intro l
    induction l with
    | nil=>rfl
    | cons a r ih=>simp only [cE,List.map_cons,List.flatten_cons,List.length_append,List.length_cons] at ih ⊢;rw [ih];simp only [GG,List.length_cons,List.length_nil];omega
   rw [fj,List.length_append,List.length_append,this,hbl,Yo];simp only [nd0,List.length_cons,List.length_nil];omega
  refine br ?_ ?_<;>intro hL
  ·have az:e < ps.len:=by simpa [aP] using hL
   obtain ⟨p,u,hx⟩:=Pts.fx az;have BQ:=Pts.iu (mG hx);rw [Pts.drop_cons hx] at hK hEs hKn hkd;obtain ⟨lX,vG⟩:=wi hkd;simp only [AD] at hK;simp only [edsP] at hEs;simp only [Pts.nn] at hKn;rw [<- Yo] at hK hEs;have sc:=u.iz;have huc:=u.fy;have eC:=uq p u (by omega) (fun hB=>ih u (by omega) (by omega) (lX hB)) n' uo (fun hB=>by rw [hB] at hKn;simp only [Bool.false_eq_true,if_false] at hKn;omega) hbl';have DA:=lK X.lev ⟨ae,order,types,.mk rh rp⟩ u n';obtain ⟨uh,us⟩:=u;refine iX (ch hx) ?_;refine ai 2 1 aew rfl rfl rfl av av eC (fun r Zj Zi hΦ h1 h2=>?_);obtain ⟨rfl,rfl,rfl⟩:=hΦ;refine ⟨by rw [eJ,hEl],⟨by simp [eJ,hEl,maxLen];omega,by simp [eJ,hEl];omega⟩,?_⟩
   have hnl2:(if p.bare then [] else ndsT X.lev ⟨ae,order,types,.mk rh rp⟩ (.mk uh us) n').length=if p.bare then 0 else (Ty.mk uh us).nn:=by
    split
    ·rfl
    ·exact DA
   have hidx2:n + 1 + (K.length + (if p.bare then 0 else (Ty.mk uh us).nn))=n' + if p.bare then 0 else (Ty.mk uh us).nn:=by rw [Yo];omega
   refine ⟨Tz ⟨ae,order,types,.mk rh rp⟩ aN lc m n h ps (n' + (if p.bare then [] else ndsT X.lev ⟨ae,order,types,.mk rh rp⟩ (.mk uh us) n').length) (uo ++ (cE (if p.bare then [] else ndsT X.lev ⟨ae,order,types,.mk rh rp⟩ (.mk uh us) n')).flatten) (Es ++ [AB X.lev p (yH ⟨ae,order,types,.mk rh rp⟩ p (.mk uh us) n')]) h.ag.length (e + 1) (e + 1),(ej 3 (by repeat' (first | exact rfl | exact aA rfl | exact aG (nxt az (by omega)) | exact cS (Dy _ _) rfl | refine ⟨_,_,rfl,?_,?_⟩)) (by repeat' (first | exact trivial | exact aA rfl | exact aG (nxt az (by omega)) | exact cS (Dy _ _) rfl | refine ⟨⟨_,rfl,?_⟩,?_⟩))),
    ps.len - (e + 1),by omega,e + 1,_,_,_,K ++ (if p.bare then [] else ndsT X.lev ⟨ae,order,types,.mk rh rp⟩ (.mk uh us) n'),rfl,by omega,?_,?_,?_,?_,?_,?_,vG,rfl⟩
   ·rw [List.length_append,Yo];omega
   ·rw [fj];simp [cE]
   ·simp [hEl]
   ·simp_all
   ·simp_all
   ·rw [List.length_append,hnl2];omega
  ·have hge:e=ps.len:=by have:=hL;simp [aP] at this;omega
   subst hge;rw [Pts.dK] at hK hEs;simp only [AD,List.append_nil] at hK;simp only [edsP,List.append_nil] at hEs;have hKl:K.length=ps.nn:=by rw [hK,AE]
   have hrl2:(List.replicate n' ([]:List DV)).length=n':=List.length_replicate;refine Pw (kt:=0) ⟨rfl,rfl⟩ ⟨rfl,rfl,rfl⟩ ⟨rfl,rfl,rfl⟩ rfl rfl rfl rfl rfl rfl rfl rfl rfl rfl rfl hrl2 ⟨by omega,by omega⟩ (by decide) ?_;have agh:n + (ndsT X.lev ⟨ae,order,types,.mk rh rp⟩ (.mk h ps) n).length=n':=by rw [PF,List.length_cons,<- hK,Yo];omega
   have vw:uo.set ((n:Int).toNat * 7 + 6) (.sl 10 (lZ Es) none)=base ++ (cE (ndsT X.lev ⟨ae,order,types,.mk rh rp⟩ (.mk h ps) n)).flatten:=by
    rw [fj,show (n:Int).toNat=n by omega,W2 hbl,PF,hEs,hK];rfl
   refine ⟨.v (.int .i64 n),[bC ⟨ae,order,types,.mk rh rp⟩ (.pt lc 0) (.loc 1 0) m,QX ⟨ae,order,types,.mk rh rp⟩ aN lc n'],ax,av,?_,?_,?_⟩
   ·rw [W4]
   ·rw [agh]
   ·rw [agh,<- vw];rfl
end Go.Proofs.YtfdedoiiahbnnaaGreat
