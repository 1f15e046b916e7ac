/- Part 3 of the proof: sort.Slice of the table's places, at a call; names.New: the table; names.Twice: does a text stand earlier, too?; Contracts: the reference's words, Plain, Same, Zero, own; Contracts: the reference's Same, Zero, own; Contracts: the reference's Label, listed, names, Size, with, coarse; What is wrong with a type: the plain function; the reference's Wrong and parts return it; The program's checks of types: bad, listed, label, words; The program's checks of types: label, coarse; The program's comparing of names and types; The program's Same; The program's own, empty; The program's empty, enum; kinds.Right, once the checker's check is known; Numbers in tens: the reference's Put; Numbers in tens: the program's Put; The text of a type, plain; the reference's Label and comma; The reference's text of a type: Label, comma, part, Type; The reference's text of a part; The reference's text of a type; The library's strings.Join, laid at this program by the kit's tool (lay-plain; wip/tools/lay.sh); The program's text of a label, of what stands behind a part's type, of lists; The program's text of a type: field, tag, kind; unparse.Type, once the checker's check is known; A type with which nothing is wrong is fine for its text; Readable data as data of the evaluator: what the statement's form reads of an argument is a datum of the evaluator, of the argument's type, no heavier than what was read; What is read of a type, as the plain data; From a contract over data to what a law's statement asks: the arguments are read, the call returns true, all that was there stays; What all laws' frames share: the bulk, the program's closed facts; Types without places: plain, and the program's kinds.Strip; Schemas: plain, as the evaluator has them, without places; What is read of a schema, as the plain data; What the frames of laws over schemas share; The program's closed facts, each by itself (all at once they ask more memory than a Lean process has); Relations as rows of bits: plain, and rel's functions that read; rel.back: who leads to a thing and is led to by it; rel.New: the rows of a list of pairs; rel.Close: the closure, by rows; The number of bits that are set, as the library reckons it; math/bits.OnesCount64; When two bits are set; rel.Loop: the least thing in a loop; The plain law of closeR: its bits are what is led to; The program's and the reference's check of names that must differ; The table's Find, whole; lattice.many, called, numbered. No condition. -/
import Derived.Laws.StructEq
import Derived.Shelf.Strings.OnBuilder
import Derived.Deep.Slices
import Derived.ChangeArms
import Derived.DataReads
import Derived.WalkKit
import Derived.ProofKit
import Derived.OpenShut
import Derived.Carry
import Derived.JoinedCond
import Derived.Test.YtffhgcbfpidfiaaGreatRows
import Derived.Test.YtffhgcbfpidfiaaGreatMr2
set_option linter.all false
set_option maxRecDepth 100000
namespace Go.Proofs.YtffhgcbfpidfiaaGreat
open Go Go.RowKit Dv Go.Proofs.Tryz
abbrev Na (p:Nat):Value:=.int .i64 (p:Int)
theorem CN {E:En}:∀ {ds:List Nat} {arr:List Value},RvL E (dInts ds).flatten arr->arr=ds.map Na
 | [],arr,h=>by simpa [dInts,RvL] using h
 | x :: r,arr,h=>by
  simp only [dInts,List.map_cons,List.flatten_cons,List.cons_append,List.nil_append,RvL] at h;obtain ⟨v,s,rfl,h1,h2⟩:=h;unfold Rv at h1;rw [h1.1,CN (ds:=r) h2];rfl
theorem vf {E:En}:∀ ds:List Nat,RvC E (dInts ds).flatten (ds.map Na)
 | []=>⟨cz E,by simp⟩
 | x :: r=>by
  have ih:=vf (E:=E) r;refine ⟨?_,?_⟩
  ·simp only [dInts,List.map_cons,List.flatten_cons,List.cons_append,List.nil_append];exact rvL_cons (fD rfl) ih.1
  ·intro v hv;simp only [List.map_cons,List.mem_cons] at hv;rcases hv with rfl | hv
   ·rfl
   ·exact ih.2 v hv
theorem aar {m:Nat}:∀ ds:List Nat,(∀ p∈ds,p < m + 1)->∃ D:List (Fin (m + 1)),D.map (·.val)=ds
 | [],_=>⟨[],rfl⟩
 | x :: r,h=>by
  obtain ⟨D,hD⟩:=aar r fun p hp=>h p (List.mem_cons_of_mem _ hp);exact ⟨⟨x,h x (by simp)⟩ :: D,by simp [hD]⟩
theorem vg {α:Type} [Inhabited α] (enc:α->Value) (w:World) (b n:Nat) (dk:Array α) (os:Array Obj) (arr:List Value) (ty:TypeId) (hw:w.heap[b]? = some (.cells arr.toArray ty (0,0))) (hl:arr.length=dk.size) :
  ∀ k,k < w.heap.size->(Sort.grow (Sort.putRow enc (Sort.ahead w n) b 0 dk) os).heap[k]? = (World.cW w b (.cells (dk.toList.map enc).toArray ty (0,0))).heap[k]?:=by
 intro k hk;simp only [Sort.grow,Sort.putRow,Sort.mapBlock,Sort.ahead];rw [Array.getElem?_append_left (sU hk),Array.getElem?_modify];by_cases J5:b=k
 ·subst J5;rw [if_pos rfl,hw,dE hw];simp only [Option.map_some,Sort.onCells,oI,Obj.cells.injEq,and_true];apply Array.ext_getElem?;intro j;simp only [Sort.putCells,Array.getElem?_mapIdx];rcases Nat.lt_or_ge j dk.size with hj | hj
  ·have h1:j < arr.length:=by omega
   simp [h1,hj]
  ·have h1:arr.length<=j:=by omega
   simp [h1,hj]
 ·rw [if_neg J5,cx (Ne.symm J5)]
theorem Nb {α:Type} {l:List α} {i:Nat} {x:α} (h:l[i]? = some x):l.set i x=l:=by
 apply List.ext_getElem?;intro j;by_cases hj:j=i
 ·subst hj;rw [List.getElem?_set_self (gS h).1,h]
 ·rw [List.getElem?_set_ne (Ne.symm hj)]
theorem J6 {X:Ctx} {st:St} {k:List It} (hP:X.P=prog) {i c len:Nat} {ds:List Nat} (hlen:len=ds.length) {lbD:List DV} {d:Nat} (N:Nat) (hN:∀ p∈ds,p < N) (lt:Nat->Nat->Bool) (hO:Sort.SWO lt)
  (jL:st.bx[i]? = some (dInts ds).flatten) (hn:ds.length<=1099511627776) (lbF:List Nat->List DV) (Rq:∀ dk:List Nat,dk.length=ds.length->CcL (st.bx.set i (dInts dk).flatten) 0 0 0 (lbF dk) lbD)
  (M7:∀ dk:List Nat,dk.length=ds.length->(∀ p∈dk,p < N)->∀ i j p q:Nat,dk[i]? = some p->dk[j]? = some q->EvS prog 126 (.v (.int .i64 i) :: .v (.int .i64 j) :: lbF dk) [] [] (fun r _ _=>r = .v (.bool (lt p q))))
  (hd:eL X.nt st.sl (some d)=true)
  (hk:∀ VI:List Nat,VI.Perm ds->(∀ i j p q:Nat,i < j->VI[i]? = some p->VI[j]? = some q->lt q p=false)->go X 4000 k ⟨(d,⟨[],.tup []⟩) :: st.sl,st.bx.set i (dInts VI).flatten,st.tk⟩)
  (aU:X.still=false:=by exact rfl) (hX:X.bt=[]:=by exact rfl):dx X 125 [.pI 86 (.ms i 1 0 len c),.fn 126 [] lbD] (some d) k st:=by
 subst hlen;refine ⟨?_,aU,fun E a w vs h hv=>?_⟩
 ·rw [hP];exact Zl
 rw [hP];simp only [RvL] at hv;obtain ⟨v1,_,rfl,h1,v2,_,rfl,h2,rfl⟩:=hv;unfold Rv at h1;obtain ⟨z,rfl,h1⟩:=h1;unfold Rv at h1;obtain ⟨b,ad,hb,Xx,rfl,hca⟩:=h1;unfold Rv at h2;obtain ⟨l,r,rfl,hl,hr⟩:=h2;simp only [RvL] at hl;subst hl;obtain ⟨b',ty,arr,dO,hw,q7⟩:=h.env.ek i _ jL;rw [hb] at dO;simp only [oI] at dO;subst dO;have Nc:=CN q7.1;have Vm:=cp hw;by_cases h1:ds.length<=1
 ·refine (J2 r.toArray ad ds.length c h1 w).mono ?_;rintro e w' ⟨rfl,os,rfl⟩
  have hh:∀ j,j < w.heap.size->(Sort.grow w os).heap[j]? = w.heap[j]?:=fun j hj=>by
   simp only [Sort.grow];rw [Array.getElem?_append_left hj]
  have bY:Rel X E st a (Sort.grow w os):=dg h (Ext.refl E) (h.env.ku hh) h.tk h.nw (h.fr.cj rfl rfl rfl (by simp [Sort.grow]) fun j hj=>.inr (hh j hj)) (mh aU) (.nil hX);have MD:=hk ds (List.Perm.refl _) (fun i j p q lu _ hj=>by have:=(gS hj).1;omega);rw [Nb jL] at MD;exact go_sound 4000 _ _ MD E _ _ (aZ bY hd (.tup []) (.tuple #[]) (by unfold Rv;exact ⟨[],rfl,cz E⟩))
 ·have h2:2<=ds.length:=by omega
  have Yo:=hca (by omega);subst Yo
  obtain ⟨m,rfl⟩:∃ m,N=m + 1:=by
   cases hds:ds with
   | nil=>rw [hds] at h2;simp at h2
   | cons x r=>have:=hN x (by rw [hds];simp);exact ⟨N - 1,by omega⟩
  obtain ⟨D,hD⟩:=aar ds hN;have AJ:D.length=ds.length:=by rw [<- hD];simp
  let enc:Fin (m + 1)->Value:=fun x=>Na x.val
  have hO':Sort.SWO (fun x y:Fin (m + 1)=>lt x.val y.val):=⟨fun x=>hO.irrefl _,fun x y z=>hO.trans _ _ _,fun x y z=>hO.ntrans _ _ _⟩;have aas:∀ l:List (Fin (m + 1)),l.map enc=(l.map (·.val)).map Na:=fun l=>by simp [enc]
  have hS:=M6 enc (fun _=>rfl) hO' r.toArray b c D.toArray (by simpa [AJ] using h2) (by simp [AJ];omega) w ?_ ?_ Vm
  ·simp only [List.size_toArray,AJ] at hS;refine hS.mono ?_;rintro e w' ⟨rfl,d',n,os,hp,hs,rfl⟩;have bJ:d'.size=ds.length:=by have:=hp.1;simpa [AJ] using this
   have oy:(d'.toList.map (·.val)).Perm ds:=by
    have h3:=hp.2.2;have e1:d'.extract 0 ds.length=d':=Array.extract_eq_self_of_le (by omega);have e2:D.toArray.extract 0 ds.length=D.toArray:=Array.extract_eq_self_of_le (by simp [AJ]);rw [e1,e2] at h3;rw [<- hD];exact h3.map _
   have J7:∀ i j p q:Nat,i < j->(d'.toList.map (·.val))[i]? = some p->(d'.toList.map (·.val))[j]? = some q->lt q p=false:=by
    intro i j p q lu hi hj;have oM:j < d'.size:=by have:=(gS hj).1;simpa using this
    have h3:=hs i j (Nat.zero_le _) lu (by omega);rw [getElem!_pos d' j oM,getElem!_pos d' i (by omega)] at h3;have LW:i < d'.size:=by omega
    simp [LW] at hi;simp [oM] at hj;rw [<- hi,<- hj];exact h3
   have hh:=vg enc w b n d' os arr ty hw (by rw [Nc];simp [bJ]);have er:=jv (ty:=ty) h aU hb (cs':=(dInts (d'.toList.map (·.val))).flatten) (arr':=(d'.toList.map (·.val)).map Na) (vf _) ⟨_,hw⟩;rw [<- aas] at er;have jE:(Sort.grow (Sort.putRow enc (Sort.ahead w n) b 0 d') os).heap.size=w.heap.size + os.size:=by simp [Sort.grow,Sort.putRow,Sort.mapBlock,Sort.ahead]
   have bY:=dg er (Ext.refl E) (w':=Sort.grow (Sort.putRow enc (Sort.ahead w n) b 0 d') os) (er.env.ku fun j hj=>hh j (by rwa [gv] at hj)) er.tk er.nw
    (er.fr.cj rfl rfl rfl (by rw [gv,jE];omega) fun j hj=>.inr (hh j (by rwa [gv] at hj))) (mh aU) (.nil hX)
   exact go_sound 4000 _ _ (hk _ oy J7) E _ _ (aZ bY hd (.tup []) (.tuple #[]) (by unfold Rv;exact ⟨[],rfl,cz E⟩))
  ·intro mm os dk hs i' j' hi hj;have bJ:dk.size=ds.length:=sV AJ hs;have hh:=vg enc w b mm dk os arr ty hw (by rw [Nc];simp [bJ]);have hE:=h.env.set hb Vm (ty:=ty) (vf (E:=E) (dk.toList.map (·.val)));rw [<- aas] at hE;have hE':=hE.ku (w':=Go.Proofs.sortWorld enc w b 0 mm dk os) fun j hj=>hh j (by rwa [gv] at hj);have LW:i' < dk.size:=by rw [bJ,<- AJ];simpa using hi
   have oM:j' < dk.size:=by rw [bJ,<- AJ];simpa using hj
   have hLL:(dk.toList.map (·.val)).length=ds.length:=sU bJ
   have hc:=M7 (dk.toList.map (·.val)) hLL (fun p hp=>by
    obtain ⟨x,_,rfl⟩:=List.mem_map.1 hp
    exact x.isLt) i' j' (dk[i']!).val (dk[j']!).val (by rw [getElem!_pos dk i' LW];simp [LW]) (by rw [getElem!_pos dk j' oM];simp [oM])
   have hv:RvL E (.v (.int .i64 (i':Int)) :: .v (.int .i64 (j':Int)) :: lbD) (.int .i64 (i':Int) :: .int .i64 (j':Int) :: r):=rvL_cons (fD rfl) (rvL_cons (fD rfl) hr);have hb:=jo hE' hc ⟨_,_,rfl,rfl,_,_,rfl,rfl,Rq _ hLL⟩ hv;have hargs:(#[Value.int .i64 (i':Int),Value.int .i64 (j':Int)] ++ r.toArray)=(Value.int .i64 (i':Int) :: Value.int .i64 (j':Int) :: r).toArray:=by simp
   rw [hargs];refine hb.mono ?_;rintro e w' ⟨v,E2,rfl,Iy,_,tD⟩;have:=bq Iy;subst this;exact ⟨rfl,tD rfl⟩
  ·intro j hj;have oM:j < D.length:=sU hj;rw [cy hw,Nat.zero_add,Nc];refine ⟨?_,?_⟩
   ·rw [getElem!_pos D.toArray j hj,<- hD];simp [oM,enc]
   ·simp [World.frozen?,hw]
theorem yX {n m:Nat} {tk:List TkE}:∀ ds:List Nat,WeL n m tk (dInts ds).flatten (dInts ds).flatten
 | []=>rfl
 | b :: r=>⟨_,_,rfl,ah rfl,yX r⟩
theorem qc {n m:Nat} {tk:List TkE} {l:List DV} {ds:List Nat} (h:l=(dInts ds).flatten):WeL n m tk l (dInts ds).flatten:=by rw [h];exact yX ds
def ig (n e:Nat):List Nat:=List.range e ++ List.replicate (n - e) 0
theorem J8 {n e:Nat} (h:e<=n):(ig n e).length=n:=by simp [ig];omega
theorem fillA_0 (n:Nat):(List.replicate n [DV.v (.int .i64 0)]).flatten=(dInts (ig n 0)).flatten:=by simp [ig,dInts]
theorem Rr (n:Nat):ig n n=List.range n:=by simp [ig]
theorem nS (ds:List Nat):(dInts ds).flatten=ds.map fun (i:Nat)=>DV.v (.int .i64 (i:Int)):=by
 induction ds with
 | nil=>rfl
 | cons x r ih=>simp only [dInts,List.map_cons,List.flatten_cons] at ih ⊢;rw [ih];all_goals rfl
theorem FJ {n e:Nat} (h:e < n):(dInts (ig n e)).flatten.take e ++ [DV.v (.int .i64 (e:Int))] ++ (dInts (ig n e)).flatten.drop (e + 1)=(dInts (ig n (e + 1))).flatten:=by
 simp only [nS,<- List.map_take,<- List.map_drop];have e1:(ig n e).take e=List.range e:=by simp [ig]
 have e2:(ig n e).drop (e + 1)=List.replicate (n - (e + 1)) 0:=by
  simp only [ig,List.drop_append,List.length_range];rw [List.drop_eq_nil_of_le (by simp),List.nil_append,List.drop_replicate];congr 1;omega
 rw [e1,e2];simp [ig,List.range_succ]
abbrev FK (L:List ByteArray) (e:Nat):St:=
 ⟨[(3,⟨[],.loc 1 0⟩),(4,⟨[],.loc 3 0⟩),(16,⟨[],.v (.int .i64 (dM L).length)⟩),(17,⟨[],.v (.int .i64 e)⟩)],
  [[.sl 1 (dM L) (some 0),.v (.slice none 0 0)],[.loc 0 0],(dInts (ig (dM L).length e)).flatten,[.ms 2 1 0 (dM L).length (dM L).length]],[⟨(dM L).length,9,1,none⟩]⟩
def fI (L:List ByteArray) (ds:List Nat) (i:Nat):Bool:=decide (i=0) || !decide (L.getD (ds.getD i 0) aq=L.getD (ds.getD (i - 1) 0) aq)
def fj (L:List ByteArray) (ds:List Nat) (e:Nat):List Nat:=((List.range e).filter (fI L ds)).map fun i=>ds.getD i 0
theorem vi (L:List ByteArray) (ds:List Nat) (e:Nat):fj L ds (e + 1)=fj L ds e ++ (if fI L ds e=true then [ds.getD e 0] else []):=by
 unfold fj;rw [List.range_succ,List.filter_append,List.map_append];congr 1;cases h:fI L ds e<;>simp [h]
theorem J9 (L:List ByteArray) (ds:List Nat) (e:Nat):(fj L ds e).length<=e:=by
 unfold fj;rw [List.length_map];exact Nat.le_trans (List.length_filter_le _ _) (by simp)
abbrev VJ (L:List ByteArray) (ds:List Nat):St:=
 ⟨[(3,⟨[],.loc 1 0⟩),(4,⟨[],.pt [.sl 1 (dInts ds) none] 0⟩),(29,⟨[],.sl 1 (dInts ds) none⟩),(30,⟨[],.v (.int .i64 (dM L).length)⟩),(31,⟨[],.v (.int .i64 0)⟩)],
  [[.sl 1 (dM L) (some 0),.v (.slice none 0 0)],[.loc 0 0]],[⟨(dM L).length,9,1,none⟩]⟩
abbrev CO (L:List ByteArray) (ds aE:List Nat) (m e:Nat):St:=
 ⟨[(3,⟨[],.loc 1 0⟩),(4,⟨[],.pt [.sl 1 (dInts ds) none] 0⟩),(29,⟨[],.sl 1 (dInts ds) none⟩),(30,⟨[],.v (.int .i64 (dM L).length)⟩),(31,⟨[],.v (.int .i64 e)⟩)],
  [[.sl 1 (dM L) (some 0),.sl 1 (dInts aE) (some 1)],[.loc 0 0]],[⟨(dM L).length,9,1,none⟩,⟨m,3,1,none⟩]⟩
theorem getD_some {α:Type} {l:List α} {i:Nat} {x d:α} (h:l[i]? = some x):l.getD i d=x:=by simp [List.getD_eq_getElem?_getD,h]
theorem rH {α:Type} {l:List α} {i:Nat} {d:α} (h:i < l.length):l[i]? = some (l.getD i d):=by
 rw [gE h,List.getD_eq_getElem?_getD,gE h];all_goals rfl
theorem VK {L:List ByteArray} {ds:List Nat} (oy:ds.Perm (List.range L.length)) (J7:∀ i j p q:Nat,i < j->ds[i]? = some p->ds[j]? = some q->B4 L q p=false):ie L (fj L ds L.length):=by
 have hlen:ds.length=L.length:=by rw [oy.length_eq,List.length_range]
 let D:Nat->Nat:=fun i=>ds.getD i 0
 let T:Nat->ByteArray:=fun i=>L.getD (D i) aq
 have hD:∀ i,i < L.length->ds[i]? = some (D i):=fun i hi=>rH (by omega)
 have hDn:∀ i,i < L.length->D i < L.length:=fun i hi=>by
  have:=oy.mem_iff.1 (mG (hD i hi));exact List.mem_range.1 this
 have hT:∀ i,i < L.length->L[D i]? = some (T i):=fun i hi=>rH (hDn i hi)
 have eV:∀ i j,i < j->j < L.length->T i=T j∨ye (T i) (T j)=true:=by
  intro i j lu hj;have h:=J7 i j (D i) (D j) lu (hD i (by omega)) (hD j hj);unfold B4 at h;by_cases he:T j=T i
  ·exact .inl he.symm
  ·rw [if_neg he] at h;rcases Iw h with h | h
   ·exact absurd h he
   ·exact .inr h
 have T5:∀ i,i < L.length->fI L ds i=true->∀ j,j < i->ye (T j) (T i)=true:=by
  intro i hi hh j Td
  have aT:T i≠T (i - 1):=by
   intro he;unfold fI at hh;have:decide (i=0)=false:=by simp;omega
   rw [this] at hh;simp only [Bool.false_or,Bool.not_eq_true',decide_eq_false_iff_not] at hh;exact hh he
  have h1:ye (T (i - 1)) (T i)=true:=by
   rcases eV (i - 1) i (by omega) hi with h | h
   ·exact absurd h.symm aT
   ·exact h
  by_cases hj:j=i - 1
  ·rw [hj];exact h1
  ·rcases eV j (i - 1) (by omega) (by omega) with h | h
   ·rw [h];exact h1
   ·exact fX h h1
 have yJ:∀ j,j < L.length->∃ k,k < L.length/\D k=j:=by
  intro j hj;have:=oy.mem_iff.2 (List.mem_range.2 hj);obtain ⟨k,hk⟩:=List.getElem?_of_mem this;have jm:=(gS hk).1;exact ⟨k,by omega,getD_some hk⟩
 let H:=(List.range L.length).filter (fI L ds)
 have hH:∀ (a i:Nat),H[a]? = some i->i < L.length/\fI L ds i=true:=fun a i h=>by
  have:=mG h;simp only [H,List.mem_filter,List.mem_range] at this;exact this
 have Ka:∀ (a p:Nat),(fj L ds L.length)[a]? = some p->∃ i,H[a]? = some i/\D i=p:=by
  intro a p h;unfold fj at h;rw [List.getElem?_map] at h
  cases hh:H[a]? with
  | none=>rw [show (List.filter (fI L ds) (List.range L.length))[a]? = none from hh] at h;cases h
  | some i=>
   rw [show (List.filter (fI L ds) (List.range L.length))[a]? = some i from hh] at h;simp only [Option.map_some,oI] at h;exact ⟨i,rfl,h⟩
 have hinc:∀ (a b i k:Nat),a < b->H[a]? = some i->H[b]? = some k->i < k:=by
  intro a b i k oT hi hk;have hp:List.Pairwise (·< ·) H:=List.Pairwise.filter _ List.pairwise_lt_range;obtain ⟨ha,rfl⟩:=List.getElem?_eq_some_iff.1 hi;obtain ⟨hb,rfl⟩:=List.getElem?_eq_some_iff.1 hk;exact List.pairwise_iff_getElem.1 hp a b ha hb oT
 refine ⟨?_,?_,?_,?_⟩
 ·intro a p h;obtain ⟨i,hi,rfl⟩:=Ka a p h;exact hDn i (hH a i hi).1
 ·intro a b p q s t oT hp hq hs ht;obtain ⟨i,hi,rfl⟩:=Ka a p hp;obtain ⟨k,hk,rfl⟩:=Ka b q hq;rw [hT i (hH a i hi).1] at hs;rw [hT k (hH b k hk).1] at ht;simp only [oI] at hs ht;rw [<- hs,<- ht];exact T5 k (hH b k hk).1 (hH b k hk).2 i (hinc a b i k oT hi hk)
 ·intro a p j s hp hs hj;obtain ⟨i,hi,rfl⟩:=Ka a p hp;obtain ⟨uf,sK⟩:=hH a i hi;obtain ⟨k,hk,rfl⟩:=yJ j (gS hj).1;rw [hT i uf] at hs;rw [hT k hk] at hj;simp only [oI] at hs hj;rcases Nat.lt_trichotomy k i with h | h | h
  ·have:=T5 i uf sK k h;rw [hs,hj,ye,kA] at this;cases this
  ·rw [h];exact Nat.le_refl _
  ·have h2:=J7 i k (D i) (D k) h (hD i uf) (hD k hk);unfold B4 at h2
   have he:L.getD (D k) aq=L.getD (D i) aq:=by
    show T k=T i;rw [hj,hs]
   rw [if_pos he] at h2;simp at h2;omega
 ·intro j s hj;obtain ⟨k,hk,rfl⟩:=yJ j (gS hj).1;rw [hT k hk] at hj;simp only [oI] at hj;obtain ⟨i,⟨uf,his⟩,VL⟩:=least (p:=fun i=>i < L.length/\T i=s) ⟨k,hk,hj⟩
  have sK:fI L ds i=true:=by
   unfold fI;by_cases h0:i=0
   ·simp [h0]
   ·have aT:¬ T i=T (i - 1):=fun he=>by
     have:=VL (i - 1) ⟨by omega,by rw [<- he];exact his⟩;omega
    have e1:decide (L.getD (ds.getD i 0) aq=L.getD (ds.getD (i - 1) 0) aq)=false:=decide_eq_false aT;rw [e1];simp
  have hm:i∈H:=by simp only [H,List.mem_filter,List.mem_range];exact ⟨uf,sK⟩
  obtain ⟨a,ha⟩:=List.getElem?_of_mem hm;refine ⟨a,D i,?_,by rw [hT i uf,his]⟩;unfold fj;rw [List.getElem?_map];rw [show (List.filter (fI L ds) (List.range L.length))[a]? = some i from ha];rfl
theorem vj (L:List ByteArray) (hl:L.length<=1099511627776) :
  Ev prog 68 [.sl 1 (dM L) none] [] [] (fun r _ _=>∃ aE,ie L aE/\aE.length<=L.length/\r = .pt (cJ L aE) 0):=by
 have hN:=cg L;refine eG 71 [.tmp 2] func68 rfl ntmps68 rfl fun _ _ _ _=>?_;refine ⟨⟨by simp [hN,maxLen];omega,by simp [hN];omega⟩,?_⟩;refine ⟨⟨rfl,by omega,by omega,by omega⟩,?_⟩;refine lJ (fun e=>FK L e) L.length (az 4 rfl (by repeat' (first | exact rfl | exact ah rfl | exact qc (fillA_0 _) | refine ⟨_,_,rfl,?_,?_⟩)) rfl rfl rfl (by repeat' (first | exact trivial | exact ah rfl | exact qc (fillA_0 _) | refine ⟨⟨_,rfl,?_⟩,?_⟩))) ?_;intro e he;refine br ?_ ?_<;>intro h
 ·have au:e < (dM L).length:=sU h;refine ⟨⟨by omega,by omega⟩,?_⟩;have e1:(dInts (ig (dM L).length e)).flatten.length=(dM L).length:=by rw [nS,List.length_map,J8 (by omega)]
  refine ⟨by rw [e1];omega,?_⟩
  have cG:(dInts (ig (dM L).length e)).flatten.set (0 + (e:Int).toNat * 1) (DV.v (.int .i64 (e:Int)))=(dInts (ig (dM L).length (e + 1))).flatten:=by
   rw [show 0 + (e:Int).toNat * 1=e by omega,List.set_eq_take_append_cons_drop,if_pos (by rw [e1];omega),<- FJ au];simp
  refine ⟨FK L (e + 1),(az 4 rfl (by repeat' (first | exact rfl | exact ah rfl | exact qc cG | exact ai (nxt au (by omega)) | refine ⟨_,_,rfl,?_,?_⟩)) rfl rfl rfl (by repeat' (first | exact trivial | exact ah rfl | exact qc cG | exact ai (nxt au (by omega)) | refine ⟨⟨_,rfl,?_⟩,?_⟩))),L.length - (e + 1),by omega,e + 1,rfl,by omega,rfl⟩
 ·have aN:e=(dM L).length:=by
   have:¬ e < (dM L).length:=sU h;omega
  subst aN;rw [Rr]
  have hms:∀ dk:List Nat,dk.length=(List.range (dM L).length).length->∀ bx:List (List DV),bx[2]? = some (dInts dk).flatten->∀ N0 n0 m0:Nat,N0<=2->Cc bx N0 n0 m0 (.sl 1 (dInts dk) none) (.ms 2 1 0 (dM L).length (dM L).length):=by
   intro dk hdk bx hb N0 n0 m0 hN0;simp only [Cc];refine Or.inr (Or.inr (Or.inl ⟨2,0,(dM L).length,_,?_,hN0,hb,?_,?_,?_⟩))
   ·rw [bz,hdk,List.length_range]
   ·rw [List.drop_zero,List.take_of_length_le];rw [nS,List.length_map,bz];omega
   ·intro x hx;simp only [dInts,List.mem_map] at hx;obtain ⟨_,_,rfl⟩:=hx;rfl
   ·intro x hx;rw [nS] at hx;obtain ⟨_,_,rfl⟩:=List.mem_map.1 hx;exact .inl ⟨_,rfl⟩
  refine J6 (ds:=List.range (dM L).length) rfl (by simp) (dM L).length (fun p hp=>List.mem_range.1 hp) (B4 L) (Rn L) rfl (by simp [hN];omega)
   (fun dk=>[.pt [.sl 1 (dInts dk) none] 0,.pt [.pt [.sl 1 (dM L) none,.v (.slice none 0 0)] 0] 0])
   (fun dk hdk=>⟨_,_,rfl,Or.inr ⟨3,_,rfl,Nat.zero_le _,rfl,⟨_,_,rfl,hms dk hdk _ rfl 0 0 0 (Nat.zero_le _),rfl⟩⟩,ax⟩)
   (fun dk hdk hp i j p q hi hj=>J3 L dk i j p q hi hj (by have:=hp p (mG hi);omega) (by have:=hp q (mG hj);omega)) rfl (fun ds oy J7=>?_)
  have cu:ds.length=(dM L).length:=by rw [oy.length_eq,List.length_range]
  have aat:=hms ds (by rw [cu,List.length_range])
  refine MH 2 (VJ L ds) rfl rfl rfl ⟨_,_,rfl,⟨_,_,rfl,⟨nL rfl,rfl⟩,_,_,rfl,rfl,rfl⟩,_,_,rfl,⟨_,_,rfl,⟨nL rfl,rfl⟩,rfl⟩,rfl⟩
   ⟨⟨_,rfl,⟨nL rfl,rfl⟩⟩,⟨_,rfl,Or.inr ⟨3,_,rfl,by decide,rfl,⟨_,_,rfl,aat _ rfl 2 0 0 (by decide),rfl⟩⟩⟩,⟨_,rfl,aat _ rfl 2 2 1 (by decide)⟩,⟨_,rfl,rfl⟩,⟨_,rfl,rfl⟩,trivial⟩ ?_
  refine av (fun j st=>∃ e m:Nat,st=CO L ds (fj L ds e) m e/\m=(fj L ds e).length/\e<=(dM L).length/\j=(dM L).length - e) (dM L).length (CO L ds [] 0 0)
   (dG 2 ⟨0,3,1,none⟩ rfl rfl rfl wA0 rfl rfl wB) ⟨0,0,rfl,rfl,by omega,by omega⟩ ?_
  rintro j st ⟨e,m,rfl,hm,he,rfl⟩;have kK:=J9 L ds e;refine br ?_ ?_<;>intro h
  ·have au:e < (dM L).length:=sU h;obtain ⟨p,hp⟩:∃ p,ds[e]? = some p:=⟨_,gE (by omega)⟩
   have hpL:p < L.length:=by
    have:=oy.mem_iff.1 (mG hp);rw [List.mem_range] at this;omega
   obtain ⟨s,hs⟩:∃ s,L[p]? = some s:=⟨_,gE hpL⟩;refine iX (ee hp) ?_;have hgp:ds.getD e 0=p:=by simp [List.getD_eq_getElem?_getD,hp]
   have Fg:L.getD p aq=s:=by simp [List.getD_eq_getElem?_getD,hs]
   have eo:fI L ds e=true->fj L ds (e + 1)=fj L ds e ++ [p]:=fun hh=>by rw [vi,if_pos hh,hgp]
   have hold:fI L ds e=false->fj L ds (e + 1)=fj L ds e:=fun hh=>by rw [vi,if_neg (by rw [hh];decide),List.append_nil]
   have Iz:fI L ds e=true->dInts (fj L ds e) ++ [[DV.v (.int .i64 (p:Int))]]=dInts (fj L ds (e + 1)):=fun hh=>by rw [eo hh];simp [dInts]
   by_cases h0:e=0
   ·subst h0;have hh:fI L ds 0=true:=by simp [fI]
    refine dI ?_;refine dS ?_;refine ⟨by rw [bz,hm],⟨by simp [bz,maxLen];omega,by simp [bz];omega⟩,?_⟩;refine ⟨CO L ds (fj L ds 1) (m + 1) 1,(az 2 rfl (by repeat' (first | exact rfl | exact ah rfl | exact ai (nxt au (by omega)) | exact bi (Iz hh) rfl | refine ⟨_,_,rfl,?_,?_⟩)) rfl rfl rfl (by repeat' (first | exact trivial | exact ah rfl | exact ai (nxt au (by omega)) | exact bi (Iz hh) rfl | refine ⟨⟨_,rfl,?_⟩,?_⟩))),(dM L).length - 1,by omega,1,m + 1,rfl,by rw [eo hh,List.length_append,hm];rfl,by omega,rfl⟩
   ·obtain ⟨p',pZ⟩:∃ p',ds[e - 1]? = some p':=⟨_,gE (by omega)⟩
    have hpL':p' < L.length:=by
     have:=oy.mem_iff.1 (mG pZ);rw [List.mem_range] at this;omega
    obtain ⟨s',hs'⟩:∃ s',L[p']? = some s':=⟨_,gE hpL'⟩;have hgp':ds.getD (e - 1) 0=p':=by simp [List.getD_eq_getElem?_getD,pZ]
    have hgs':L.getD p' aq=s':=by simp [List.getD_eq_getElem?_getD,hs']
    have hhd:fI L ds e = !decide (s=s'):=by
     unfold fI;rw [hgp,hgp',Fg,hgs'];simp [h0]
    have hz:IntKind.i64.wrap ((e:Int) - 1)=((e - 1:Nat):Int):=by rw [wrap64 (by omega) (by omega)];omega
    refine dI ?_;refine br (fun _=>?_) (fun h=>?_)
    ·refine iX (fW hs) ?_;refine ⟨[.v (.int .i64 (p':Int))],⟨by rw [hz];omega,by rw [hz];exact ee pZ⟩,?_⟩;refine iX (fW hs') ?_;refine br ?_ ?_<;>intro h2
     ·have hh:fI L ds e=true:=by
       rw [hhd];simp [ap,h0] at h2;simpa using h2
      refine dS ?_;refine ⟨by rw [bz,hm],⟨by simp [bz,maxLen];omega,by simp [bz];omega⟩,?_⟩;refine ⟨CO L ds (fj L ds (e + 1)) (m + 1) (e + 1),(az 2 rfl (by repeat' (first | exact rfl | exact ah rfl | exact ai (nxt au (by omega)) | exact bi (Iz hh) rfl | refine ⟨_,_,rfl,?_,?_⟩)) rfl rfl rfl (by repeat' (first | exact trivial | exact ah rfl | exact ai (nxt au (by omega)) | exact bi (Iz hh) rfl | refine ⟨⟨_,rfl,?_⟩,?_⟩))),(dM L).length - (e + 1),by omega,e + 1,m + 1,rfl,by rw [eo hh,List.length_append,hm];rfl,by omega,rfl⟩
     ·have hh:fI L ds e=false:=by
       rw [hhd];simp [ap,h0] at h2;simpa using h2
      have aK:dInts (fj L ds e)=dInts (fj L ds (e + 1)):=by rw [hold hh]
      refine ⟨CO L ds (fj L ds (e + 1)) m (e + 1),(az 2 rfl (wA2 (nxt au (by omega)) aK) rfl rfl rfl (dm (nxt au (by omega)) aK)),(dM L).length - (e + 1),by omega,e + 1,m,rfl,by rw [hold hh,hm],by omega,rfl⟩
    ·exfalso;have:decide ((e:Int)=0)=true:=sU h;simp at this;exact h0 this
  ·have aN:e=L.length:=by
    have:¬ e < (dM L).length:=sU h;omega
   subst aN;exact ⟨.pt (cJ L (fj L ds L.length)) 0,Or.inr ⟨0,_,rfl,Nat.zero_le _,rfl,ax⟩,_,VK (by rw [<- hN];exact oy) J7,kK,rfl⟩
abbrev VM (L:List ByteArray) (aE:List Nat) (e:Nat):St:=
 ⟨[(3,⟨[],.pt (cJ L aE) 0⟩),(10,⟨[],.sl 1 (dM L) none⟩),(11,⟨[],.v (.int .i64 (dM L).length)⟩),(12,⟨[],.v (.int .i64 e)⟩)],[],[]⟩
theorem Nf {α:Type}:∀ {l:List α},(∀ (i j:Nat) (x:α),j < i->l[i]? = some x->l[j]? ≠ some x)->l.Nodup
 | l,h=>by
  rw [List.nodup_iff_pairwise_ne,List.pairwise_iff_getElem];intro i j hi hj lu he;exact h j i l[j] lu (gE hj) (by rw [gE hi,he])
theorem oU (L:List ByteArray) (hl:L.length<=1099511627776) :
  Ev prog 75 [.sl 1 (dM L) none] [] [] (fun r _ _=>∃ z:Int,r = .v (.int .i64 z)/\(0<=z↔¬ L.Nodup)):=by
 have hN:=cg L;refine eG 28 [.tmp 2] func75 rfl ntmps75 rfl fun _ _ _ _=>?_;refine bL VA rfl (vj L hl) ax (fun r hr=>?_);obtain ⟨aE,hT,kK,rfl⟩:=hr;refine lI (fun j st=>∃ e:Nat,st=VM L aE e/\e<=L.length/\(∀ (i j:Nat) (x:ByteArray),i < e->j < i->L[i]? = some x->L[j]? ≠ some x)/\j=L.length - e) ⟨0,rfl,by omega,fun i j x hi=>by omega,rfl⟩ (weak_mk ⟨_,rfl⟩ wA rfl rfl rfl wB) ?_;rintro j st ⟨e,rfl,he,hinv,rfl⟩;refine br ?_ ?_<;>intro h
 ·have au:e < L.length:=sV hN h;obtain ⟨s,hs⟩:=gX au;obtain ⟨q,p,hq,hp⟩:=hT.all e s hs;have dy:=hT.fst q p e s hq hp hs;refine iX (fW hs) ?_;refine cP u9 (find_spec L aE s q p hT (by omega) hq hp) ?_;refine br ?_ ?_<;>intro h2
  ·have h2:p < e:=sU h2;refine ⟨(e:Int),rfl,⟨fun _ hnd=>?_,fun _=>by omega⟩⟩;rw [List.nodup_iff_pairwise_ne,List.pairwise_iff_getElem] at hnd;obtain ⟨h3,h4⟩:=List.getElem?_eq_some_iff.1 hp;obtain ⟨h5,h6⟩:=List.getElem?_eq_some_iff.1 hs;exact hnd p e h3 h5 h2 (by rw [h4,h6])
  ·have h2:¬ p < e:=sU h2;refine ⟨VM L aE (e + 1),(weak_mk ⟨_,rfl⟩ wA rfl rfl rfl (wB1 (nxt au (by omega)))),L.length - (e + 1),by omega,e + 1,rfl,by omega,fun i j x hi hj hx hjx=>?_,rfl⟩;by_cases CK:i=e
   ·subst CK;rw [hs] at hx;simp only [oI] at hx;subst hx;have:=hT.fst q p j s hq hp hjx;omega
   ·exact hinv i j x (by omega) hj hx hjx
 ·have aN:e=L.length:=by
   have:¬ e < L.length:=sV hN h;omega
  subst aN;refine ⟨-1,rfl,⟨fun h3=>by omega,fun h3=>?_⟩⟩;exact absurd (Nf fun i j x lu hi hj=>hinv i j x (gS hi).1 lu hi hj) h3
def sameWds:List Wd->List Wd->Bool
 | [],[]=>true
 | x :: r,y :: s=>decide (x.s=y.s) && sameWds r s
 | _,_=>false
theorem sN:∀ {a b:List Wd},a.length≠b.length->sameWds a b=false
 | [],[],h=>(h rfl).elim
 | x :: r,y :: s,h=>by
  have:r.length≠s.length:=sU h;simp [sameWds,sN this]
 | [],y :: s,_=>rfl
 | x :: r,[],_=>rfl
abbrev AK (a b:List Wd) (e:Nat):St:=
 ⟨[(0,⟨[],.sl 2 (bG a) none⟩),(1,⟨[],.sl 2 (bG b) none⟩),(5,⟨[],.v (.int .i64 e)⟩)],[],[]⟩
theorem lN (a b:List Wd) (hs:a.length<=4611686018427387904) :
  EvP prog 240 [.sl 2 (bG a) none,.sl 2 (bG b) none] (.v (.bool (sameWds a b))):=by
 refine eG 28 [.tmp 4] func240 rfl ntmps240 rfl fun _ _ _ _=>?_;refine br ?_ ?_<;>intro h
 ·have aT:a.length≠b.length:=by have:=h;simp [aA] at this;omega
  exact congrArg (fun b=>DV.v (.bool b)) (sN aT).symm
 ·have hl:a.length=b.length:=by have:=h;simp [aA] at this;omega
  refine av (fun j st=>∃ e:Nat,st=AK a b e/\e<=a.length/\sameWds a b=sameWds (a.drop e) (b.drop e)/\j=a.length - e) a.length
   (AK a b 0) (weak_mk ⟨_,rfl⟩ wA rfl rfl rfl wB) ⟨0,rfl,by omega,rfl,by omega⟩ ?_
  rintro j st ⟨e,rfl,he,aK,rfl⟩;refine br ?_ ?_<;>intro h
  ·have au:e < a.length:=by simpa [aA] using h
   obtain ⟨x,hx⟩:=gX au;obtain ⟨y,hy⟩:∃ y,b[e]? = some y:=⟨_,gE (hl ▸ au)⟩;rw [drop_cons hx,drop_cons hy] at aK;refine dI ?_;refine ⟨jN x,⟨by omega,aS hx⟩,jN y,⟨by omega,aS hy⟩,?_⟩;refine br ?_ ?_<;>intro h
   ·have aT:x.s≠y.s:=sU h;refine (congrArg (fun b=>DV.v (.bool b)) ?_:_=_);rw [aK];simp [sameWds,aT]
   ·have aT:x.s=y.s:=sU h;refine ⟨AK a b (e + 1),(weak_mk ⟨_,rfl⟩ wA rfl rfl rfl (wB1 (nxt au (by omega)))),a.length - (e + 1),by omega,e + 1,rfl,by omega,?_,rfl⟩;rw [aK];simp [sameWds,aT]
  ·have aN:e=a.length:=by have:=h;simp [aA] at this;omega
   refine (congrArg (fun b=>DV.v (.bool b)) ?_:_=_);rw [aK,aN,hl];simp [sameWds];rw [<- hl];simp [sameWds]
def bM (p q:Ph):Bool:=(p.bare == q.bare) && decide (p.wide=q.wide) && sameWds p.label q.label && decide (p.ck=q.ck) && decide (p.cn=q.cn) && sameWds p.cl q.cl
theorem lO (p q:Ph) (tl tl':List DV) (hs:p.wt<=4611686018427387904) (ht:CcL [] 0 0 0 tl tl) (tC:CcL [] 0 0 0 tl' tl') :
  EvP prog 208 [.agg (FF p tl),.agg (FF q tl')] (.v (.bool (bM p q))):=by
 refine eG 51 [.tmp 4] func208 rfl ntmps208 rfl fun _ _ _ _=>?_;have h1:=bw p.label;have h2:=bw p.cl;simp only [Ph.wt] at hs;refine br ?_ ?_<;>intro h
 ·refine cP MX (lN p.label q.label (by omega)) ?_;refine br ?_ ?_<;>intro h2
  ·refine cP MX (lN p.cl q.cl (by omega)) ?_;refine (congrArg (fun b=>DV.v (.bool b)) ?_:_=_);simp [pickB_and] at h h2;simp [bM,pickB_and,h,h2]
  ·refine (congrArg (fun b=>DV.v (.bool b)) ?_:_=_);simp [pickB_and] at h h2;simp [bM,pickB_and,h]
   grind
 ·refine (congrArg (fun b=>DV.v (.bool b)) ?_:_=_);simp [pickB_and] at h;simp [bM]
  grind
def kB (h k:Hd):Bool:=decide (h.ag=k.ag) && decide (h.lo=k.lo) && decide (h.hi=k.hi) && decide (h.most=k.most) && decide (h.name.s=k.name.s) && sameWds h.af k.af
mutual
def sameTy:Ty->Ty->Bool
 | .mk h ps,.mk k qs=>kB h k && samePts ps qs
def samePts:Pts->Pts->Bool
 | .nil,.nil=>true
 | .cons p t r,.cons q u s=>decide (p.name.s=q.name.s) && bM p q && sameTy t u && samePts r s
 | _,_=>false
end
theorem sO:∀ {a b:Pts},a.len≠b.len->samePts a b=false
 | .nil,.nil,h=>(h rfl).elim
 | .cons p t r,.cons q u s,h=>by
  have:r.len≠s.len:=by simpa [Pts.len] using h
  simp [samePts,sO this]
 | .nil,.cons _ _ _,_=>by simp [samePts]
 | .cons _ _ _,.nil,_=>by simp [samePts]
def ja (h:Hd):Hd:=
 ⟨h.ag,0,if h.ag=2 then h.lo else 0,if h.ag=2 then h.hi else 0,if h.ag=3∨h.ag=5 then h.most else 0,if h.ag=4 then h.af else [],if h.ag=9 then h.name else ⟨aq,0⟩⟩
def mask:Ty->Ty
 | .mk h ps=>.mk (ja h) (if 4 < h.ag/\h.ag < 9 then ps else .nil)
theorem yY (bx:List (List DV)) (N n m:Nat) (t:Ty):CcL bx N n m (dV t) (dV t):=by
 obtain ⟨h,ps⟩:=t;simp only [dV,CcL,Cc]
 repeat' (first | exact rfl | exact trivial | exact Or.inr (Or.inl ⟨_,rfl⟩) | refine ⟨_,_,rfl,?_,?_⟩)
abbrev FL (a b:Ty) (e:Nat):St:=
 ⟨[(2,⟨[],.loc 0 0⟩),(3,⟨[],.loc 1 0⟩),(5,⟨[],.v (.int .i64 e)⟩)],[dV a,dV b],[]⟩
theorem mN:∀ (n:Nat) (a b:Ty),a.wt<=n->a.wt<=4611686018427387904 ->
  EvP prog 239 [.agg (dV a),.agg (dV b)] (.v (.bool (sameTy a b)))
 | 0,a,b,hn,_=>by have:=a.dh;omega
 | n + 1,.mk h ps,.mk k qs,hn,cr=>by
  simp only [Ty.wt,Hd.wt] at hn cr;have hl:=bw h.af;have hpl:=ps.fy;refine eG 98 [.tmp 4] func239 rfl ntmps239 rfl fun _ _ _ _=>?_;refine br ?_ ?_<;>intro hA
  ·simp [ap] at hA;obtain ⟨⟨⟨⟨e1,e2⟩,e3⟩,e4⟩,e5⟩:=hA;refine cP MX (lN h.af k.af (by omega)) ?_;refine br ?_ ?_<;>intro hB
   ·refine (congrArg (fun b=>DV.v (.bool b)) ?_:_=_);simp [ap,e1,e2,e3,e4,e5,aH] at hB;simp only [sameTy,kB];rcases hB with hB | hB
    ·simp [hB]
    ·have:ps.len≠qs.len:=by omega
     simp [sO this]
   ·simp [ap,e1,e2,e3,e4,e5,aH] at hB;obtain ⟨e6,e7⟩:=hB;have e8:ps.len=qs.len:=by omega
    have eh:sameTy (.mk h ps) (.mk k qs)=samePts ps qs:=by simp [sameTy,kB,e1,e2,e3,e4,e5,e6]
    refine av (fun j st=>∃ e:Nat,st=FL (.mk h ps) (.mk k qs) e/\e<=ps.len/\samePts ps qs=samePts (ps.drop e) (qs.drop e)/\j=ps.len - e) ps.len
     (FL (.mk h ps) (.mk k qs) 0) (weak_mk ⟨_,rfl⟩ wA rfl rfl rfl wB) ⟨0,rfl,by omega,rfl,by omega⟩ ?_
    rintro j st ⟨e,rfl,he,aK,rfl⟩;refine br ?_ ?_<;>intro hL
    ·have au:e < ps.len:=by simpa [aH] using hL
     obtain ⟨p,t,hx⟩:=Pts.eE au;obtain ⟨q,u,hy⟩:=Pts.eE (e8 ▸ au);rw [Pts.drop_cons hx,Pts.drop_cons hy] at aK;have CP:=Pts.gj (mG hx);obtain ⟨t,ts⟩:=t;obtain ⟨u,us⟩:=u;apply nP (fun _=>false) 10 11 [0,1,2,3,4,5,6,7,8,9,10,11,12,13] [0,1,2,3,4,5,6,7,8,9,11,10,12,13] 2 3 mo (by decide +kernel)
     ·refine ⟨_,⟨by omega,bQ hx⟩,_,⟨by omega,bQ hy⟩,?_⟩;refine (?_:@Eq St _ _);exact rfl
     ·refine ⟨_,⟨by omega,bQ hx⟩,_,⟨by omega,bQ hy⟩,?_⟩;refine (⟨rfl,rfl,?_⟩:_/\_/\_)
      repeat' (first | exact trivial | refine ⟨rfl,?_⟩)
     ·rfl
     refine br ?_ ?_<;>intro hC
     ·have hC:p.name.s=q.name.s:=sU hC;refine cP MV (lO p q (dV (.mk t ts)) (dV (.mk u us)) (by omega) (yY _ _ _ _ _) (yY _ _ _ _ _)) ?_;refine br ?_ ?_<;>intro hD
      ·have hD:bM p q=true:=by simpa [ap,hC] using hD
       refine cP mM (mN n (.mk t ts) (.mk u us) (by omega) (by omega)) ?_;refine br ?_ ?_<;>intro hE
       ·refine (congrArg (fun b=>DV.v (.bool b)) ?_:_=_);rw [eh,aK];simp [ap,hC,hD] at hE;simp [samePts,hE]
       ·simp [ap,hC,hD] at hE;refine ⟨FL (.mk h ps) (.mk k qs) (e + 1),(weak_mk ⟨_,rfl⟩ wA rfl rfl rfl (wB1 (nxt au (by omega)))),ps.len - (e + 1),by omega,e + 1,rfl,by omega,?_,rfl⟩;rw [aK];simp [samePts,hC,hD,hE]
      ·have hD:bM p q=false:=by simpa [ap,hC] using hD
       refine (congrArg (fun b=>DV.v (.bool b)) ?_:_=_);rw [eh,aK];simp [samePts,hD]
     ·have hC:p.name.s≠q.name.s:=sU hC;refine (congrArg (fun b=>DV.v (.bool b)) ?_:_=_);rw [eh,aK];simp [samePts,hC]
    ·have aN:e=ps.len:=by have:=hL;simp [aH] at this;omega
     refine (congrArg (fun b=>DV.v (.bool b)) ?_:_=_);rw [eh,aK,aN,Pts.cX,e8,Pts.cX];simp [samePts]
  ·refine (congrArg (fun b=>DV.v (.bool b)) ?_:_=_);simp [ap] at hA;simp only [sameTy,kB]
   grind
theorem CQ (t:Ty) (cr:t.wt<=4611686018427387904) :
  EvP prog 242 [.agg (dV t)] (.v (.bool (sameTy t bW))):=by
 obtain ⟨h,ps⟩:=t;refine eG 6 [.tmp 2] func242 rfl ntmps242 rfl fun _ _ _ _=>?_;refine cP mM (mN _ (.mk h ps) bW (Nat.le_refl _) cr) ?_;exact (rfl:_=_)
theorem FM (t:Ty) (cr:t.wt<=4611686018427387904) :
  EvP prog 206 [.agg (dV t)] (.v (.bool (sameTy t (mask t)))):=by
 obtain ⟨h,ps⟩:=t
 have key:∀ (h':Hd) (ps':Pts),ja h=h' -> (if 4 < h.ag/\h.ag < 9 then ps else .nil)=ps' ->
   EvP prog 239 [.agg (dV (.mk h ps)),.agg (dV (.mk h' ps'))] (.v (.bool (sameTy (.mk h ps) (mask (.mk h ps))))):=by
  rintro h' ps' rfl rfl;exact mN _ (.mk h ps) _ (Nat.le_refl _) cr
 obtain ⟨ag,aD,lo,hi,most,af,name⟩:=h;by_cases hr:2<=ag/\ag<=9
 ·obtain hk | hk | hk | hk | hk | hk | hk | hk:ag=2∨ag=3∨ag=4∨ag=5∨ag=6∨ag=7∨ag=8∨ag=9:=by omega
  ·subst hk;refine eG 53 [.tmp 2] func206 rfl ntmps206 rfl fun _ _ _ _=>?_;refine cP mM (key ⟨2,0,lo,hi,0,[],⟨aq,0⟩⟩ .nil (by simp [ja]) (by simp)) ?_;exact (rfl:_=_)
  ·subst hk;refine eG 53 [.tmp 2] func206 rfl ntmps206 rfl fun _ _ _ _=>?_;refine cP mM (key ⟨3,0,0,0,most,[],⟨aq,0⟩⟩ .nil (by simp [ja]) (by simp)) ?_;exact (rfl:_=_)
  ·subst hk;refine eG 53 [.tmp 2] func206 rfl ntmps206 rfl fun _ _ _ _=>?_;refine cP mM (key ⟨4,0,0,0,0,af,⟨aq,0⟩⟩ .nil (by simp [ja]) (by simp)) ?_;exact (rfl:_=_)
  ·subst hk;refine eG 53 [.tmp 2] func206 rfl ntmps206 rfl fun _ _ _ _=>?_;refine cP mM (key ⟨5,0,0,0,most,[],⟨aq,0⟩⟩ ps (by simp [ja]) (by simp)) ?_;exact (rfl:_=_)
  ·subst hk;refine eG 53 [.tmp 2] func206 rfl ntmps206 rfl fun _ _ _ _=>?_;refine cP mM (key ⟨6,0,0,0,0,[],⟨aq,0⟩⟩ ps (by simp [ja]) (by simp)) ?_;exact (rfl:_=_)
  ·subst hk;refine eG 53 [.tmp 2] func206 rfl ntmps206 rfl fun _ _ _ _=>?_;refine cP mM (key ⟨7,0,0,0,0,[],⟨aq,0⟩⟩ ps (by simp [ja]) (by simp)) ?_;exact (rfl:_=_)
  ·subst hk;refine eG 53 [.tmp 2] func206 rfl ntmps206 rfl fun _ _ _ _=>?_;refine cP mM (key ⟨8,0,0,0,0,[],⟨aq,0⟩⟩ ps (by simp [ja]) (by simp)) ?_;exact (rfl:_=_)
  ·subst hk;refine eG 53 [.tmp 2] func206 rfl ntmps206 rfl fun _ _ _ _=>?_;refine cP mM (key ⟨9,0,0,0,0,[],name⟩ .nil (by simp [ja]) (by simp)) ?_;exact (rfl:_=_)
 ·refine eG 53 [.tmp 2] func206 rfl ntmps206 rfl fun _ _ _ _=>?_;refine br (fun c=>?_) (fun c1=>?_)
  ·have:ag=2:=of_decide_eq_true c;omega
  refine br (fun c=>?_) (fun c2=>?_)
  ·simp [ap] at c;omega
  refine br (fun c=>?_) (fun c3=>?_)
  ·have:ag=4:=of_decide_eq_true c;omega
  refine br (fun c=>?_) (fun c4=>?_)
  ·simp [pickB_and] at c;omega
  refine br (fun c=>?_) (fun c5=>?_)
  ·have:ag=9:=of_decide_eq_true c;omega
  have e1:¬ ag=2:=of_decide_eq_false c1;have e3:¬ ag=4:=of_decide_eq_false c3;have e5:¬ ag=9:=of_decide_eq_false c5;simp [ap,pickB_and] at c2 c4;refine cP mM (key ⟨ag,0,0,0,0,[],⟨aq,0⟩⟩ .nil (by simp [ja,e1,c2,e3,e5]) (by simp;omega)) ?_;exact (rfl:_=_)
abbrev Ft:Type:=Int × Int
def Ft.d (f:Ft):DV:=.agg [.v (.int .i64 f.1),.v (.int .i64 f.2)]
def badWd:List Wd->Ft
 | []=>(0,0)
 | w :: r=>if bd w.s then badWd r else (9,w.a)
def bN (l:List Wd):Ft:=
 if l.length<=32 then badWd l else (8,((l[32]?).getD (⟨aq,0⟩:Wd)).a)
abbrev AL (l:List Wd) (e:Nat):St:=
 ⟨[(0,⟨[],.sl 2 (bG l) none⟩),(2,⟨[],.loc 0 0⟩),(3,⟨[],.v (.int .i64 e)⟩)],[[.v (.int .i64 0),.v (.int .i64 0)]],[]⟩
theorem lP (l:List Wd) (hs:wdsWt l<=4611686018427387904) :
  EvP prog 204 [.sl 2 (bG l) none] (bN l).d:=by
 have mF:=bw l;refine eG 32 [.cell 2 41] func204 rfl ntmps204 rfl fun _ _ _ _=>?_;refine br ?_ ?_<;>intro h
 ·have au:32 < l.length:=by simp [aA] at h;omega
  obtain ⟨x,hx⟩:=gX au;have:bN l=(8,x.a):=by simp [bN,Nat.not_le.2 au,hx]
  refine ⟨jN x,⟨by omega,aS hx⟩,_,?_,rfl⟩;rw [this];exact ax
 ·have eV:l.length<=32:=by simp [aA] at h;omega
  refine av (fun j st=>∃ e:Nat,st=AL l e/\e<=l.length/\badWd l=badWd (l.drop e)/\j=l.length - e) l.length
   (AL l 0) (weak_mk ⟨_,rfl⟩ wA rfl rfl rfl wB) ⟨0,rfl,by omega,rfl,by omega⟩ ?_
  rintro j st ⟨e,rfl,he,aK,rfl⟩;refine br ?_ ?_<;>intro hL
  ·have au:e < l.length:=by simpa [aA] using hL
   obtain ⟨x,hx⟩:=gX au;rw [drop_cons hx] at aK;have ya:=iu (mG hx);refine ⟨jN x,⟨by omega,aS hx⟩,?_⟩;refine cP Io (ka x.s (by omega)) ?_;refine br ?_ ?_<;>intro hN
   ·have hN:bd x.s=false:=sU hN;have:bN l=(9,x.a):=by simp [bN,eV,aK,badWd,hN]
    refine ⟨jN x,⟨by omega,aS hx⟩,_,?_,rfl⟩;rw [this];exact ax
   ·have hN:bd x.s=true:=sU hN;refine ⟨AL l (e + 1),(weak_mk ⟨_,rfl⟩ wA rfl rfl rfl (wB1 (nxt au (by omega)))),l.length - (e + 1),by omega,e + 1,rfl,by omega,?_,rfl⟩;rw [aK];simp [badWd,hN]
  ·have aN:e=l.length:=by simp [aA] at hL;omega
   have:bN l=(0,0):=by simp [bN,eV,aK,aN,badWd]
   refine ⟨_,?_,rfl⟩;rw [this];exact ax
def bI (l:List Wd) (s:ByteArray):Bool:=l.any fun w=>decide (w.s=s)
def aF (l:List Wd) (i:Nat) (x:Wd):Int:=
 if bd x.s then (if bI (l.take i) x.s then 10 else 0) else 9
abbrev vm (l:List Wd) (i e:Nat):St:=
 ⟨[(0,⟨[],.sl 2 (bG l) none⟩),(1,⟨[],.v (.int .i64 i)⟩),(5,⟨[],.v (.int .i64 e)⟩)],[],[]⟩
theorem oA (l:List Wd) (i:Nat) (x:Wd) (hs:wdsWt l<=4611686018427387904) (hx:l[i]? = some x) :
  EvP prog 207 [.sl 2 (bG l) none,.v (.int .i64 i)] (.v (.int .i64 (aF l i x))):=by
 have mF:=bw l;have hi:=(gS hx).1;have ya:=iu (mG hx);refine eG 29 [.tmp 4] func207 rfl ntmps207 rfl fun _ _ _ _=>?_;refine ⟨jN x,⟨by omega,aS hx⟩,?_⟩;refine cP Io (ka x.s (by omega)) ?_;refine br ?_ ?_<;>intro hN
 ·have hN:bd x.s=false:=sU hN;refine (congrArg (fun z=>DV.v (.int .i64 z)) ?_:_=_);simp [aF,hN]
 ·have hN:bd x.s=true:=sU hN
  refine av (fun j st=>∃ e:Nat,st=vm l i e/\e<=i/\bI (l.take e) x.s=false/\j=i - e) i
   (vm l i 0) (weak_mk ⟨_,rfl⟩ wA rfl rfl rfl wB) ⟨0,rfl,by omega,rfl,by omega⟩ ?_
  rintro j st ⟨e,rfl,he,aK,rfl⟩;refine br ?_ ?_<;>intro hL
  ·have au:e < i:=sU hL;obtain ⟨y,hy⟩:∃ y,l[e]? = some y:=⟨_,gE (by omega)⟩;refine dI ?_;refine ⟨jN y,⟨by omega,aS hy⟩,jN x,⟨by omega,aS hx⟩,?_⟩;refine br ?_ ?_<;>intro hE
   ·have hE:y.s=x.s:=sU hE;refine (congrArg (fun z=>DV.v (.int .i64 z)) ?_:_=_)
    have:bI (l.take i) x.s=true:=by
     simp only [bI,List.any_eq_true];exact ⟨y,List.mem_take_iff_getElem.2 ⟨e,by omega,(gS hy).2⟩,by simpa using hE⟩
    simp [aF,hN,this]
   ·have hE:¬ y.s=x.s:=sU hE;refine ⟨vm l i (e + 1),(weak_mk ⟨_,rfl⟩ wA rfl rfl rfl (wB1 (nxt au (by omega)))),i - (e + 1),by omega,e + 1,rfl,by omega,?_,rfl⟩;rw [List.take_add_one,hy];simp only [bI,List.any_append] at aK ⊢;simp [aK,hE]
  ·have aN:e=i:=by have:=of_decide_eq_false hL;omega
   refine (congrArg (fun z=>DV.v (.int .i64 z)) ?_:_=_);subst aN;simp [aF,hN,aK]
def pNames:Pts->List Wd
 | .nil=>[]
 | .cons p _ r=>p.name :: pNames r
theorem gk:∀ ps:Pts,(pNames ps).length=ps.len
 | .nil=>rfl
 | .cons p t r=>by simp [pNames,Pts.len,gk r]
theorem gl:∀ {ps:Pts} {j:Nat} {p:Ph} {t:Ty},ps.toList[j]? = some (p,t)->(pNames ps)[j]? = some p.name
 | .nil,j,p,t,h=>by simp [Pts.toList] at h
 | .cons q u r,0,p,t,h=>by
  simp only [Pts.toList,List.getElem?_cons_zero,oI,Prod.mk.injEq] at h;obtain ⟨rfl,rfl⟩:=h;simp [pNames]
 | .cons q u r,j + 1,p,t,h=>by
  simp only [Pts.toList,List.getElem?_cons_succ] at h;simp only [pNames,List.getElem?_cons_succ];exact gl h
theorem rI:∀ ps:Pts,wdsWt (pNames ps)<=ps.wt
 | .nil=>Nat.le_refl _
 | .cons p t r=>by
  have:=rI r;simp only [pNames,wdsWt,Pts.wt,Ph.wt] at this ⊢;omega
abbrev AM (ps:Pts) (l:List Wd) (n e:Nat):St:=
 ⟨[(0,⟨[],.sl 18 (fA ps) none⟩),(3,⟨[],.sl 2 (bG l) (some 0)⟩),(4,⟨[],.v (.int .i64 e)⟩)],[],[⟨n,27,2,none⟩]⟩
theorem AN (ps:Pts) (hs:ps.wt<=1099511627776):EvP prog 241 [.sl 18 (fA ps) none] (.sl 2 (bG (pNames ps)) none):=by
 have hpl:=ps.fy;refine eG 20 [.tmp 2] func241 rfl ntmps241 rfl fun _ _ _ _=>?_
 refine av (fun j st=>∃ (e:Nat),st=AM ps ((pNames ps).take e) e e/\e<=ps.len/\j=ps.len - e) ps.len
  (AM ps [] 0 0) (dX ⟨0,27,2,none⟩ rfl ⟨_,rfl⟩ rfl wA rfl rfl wB0) ⟨0,by simp,by omega,by omega⟩ ?_
 rintro j st ⟨e,rfl,he,rfl⟩;refine br ?_ ?_<;>intro hL
 ·have au:e < ps.len:=by simpa [aH] using hL
  obtain ⟨p,t,hx⟩:=Pts.eE au;refine iX (bQ hx) ?_;refine ⟨by simp [aA,gk];omega,⟨by simp [aA,gk,maxLen];omega,by simp [aA,gk];omega⟩,?_⟩;refine ⟨AM ps ((pNames ps).take (e + 1)) (e + 1) (e + 1),(weak_mk ⟨_,rfl⟩ wA rfl rfl rfl (dm (nxt au (by omega)) (yU (gl hx)))),ps.len - (e + 1),by omega,e + 1,rfl,by omega,rfl⟩
 ·have aN:e=ps.len:=by simp [aH] at hL;omega
  rw [aN,List.take_of_length_le (by rw [gk];omega)];exact ⟨_,ax,rfl⟩
mutual
def Ty.cnt:Ty->Nat
 | .mk _ ps=>1 + ps.cnt
def Pts.cnt:Pts->Nat
 | .nil=>0
 | .cons p t r=>(if p.bare then 0 else t.cnt) + r.cnt
end
mutual
def Ty.deep:Ty->Nat
 | .mk _ ps=>ps.deep + 1
def Pts.deep:Pts->Nat
 | .nil=>0
 | .cons p t r=>max (if p.bare then 0 else t.deep) r.deep
end
mutual
theorem Ty.eF:∀ t:Ty,t.cnt<=t.wt
 | .mk h ps=>by have:=Pts.eF ps;simp only [Ty.cnt,Ty.wt,Hd.wt];omega
theorem Pts.eF:∀ ps:Pts,ps.cnt<=ps.wt
 | .nil=>Nat.le_refl _
 | .cons p t r=>by
  have:=Ty.eF t;have:=Pts.eF r;simp only [Pts.cnt,Pts.wt];split<;>omega
end
mutual
theorem Ty.nT:∀ t:Ty,t.deep<=t.wt
 | .mk h ps=>by have:=Pts.nT ps;simp only [Ty.deep,Ty.wt,Hd.wt];omega
theorem Pts.nT:∀ ps:Pts,ps.deep<=ps.wt
 | .nil=>Nat.le_refl _
 | .cons p t r=>by
  have:=Ty.nT t;have:=Pts.nT r;simp only [Pts.deep,Pts.wt];split<;>omega
end
abbrev vo (t:Ty) (e n d:Nat):St:=
 ⟨[(1,⟨[],.loc 0 0⟩),(4,⟨[],.v (.int .i64 n)⟩),(5,⟨[],.v (.int .i64 d)⟩),(6,⟨[],.v (.int .i64 e)⟩)],[dV t],[]⟩
theorem kb:∀ (k:Nat) (t:Ty),t.wt<=k->t.wt<=1099511627776 ->
  EvP prog 64 [.agg (dV t)] (.tup [.v (.int .i64 t.cnt),.v (.int .i64 t.deep)])
 | 0,t,hn,_=>by have:=t.dh;omega
 | k + 1,.mk h ps,hn,cr=>by
  simp only [Ty.wt,Hd.wt] at hn cr;have hpl:=ps.fy;have hc:=ps.eF;have hdp:=ps.nT;refine eG 42 [.tmp 2,.tmp 3] func64 rfl ntmps64 rfl fun _ _ _ _=>?_
  refine av (fun j st=>∃ (e n d:Nat),st=vo (.mk h ps) e n d/\e<=ps.len/\n + (ps.drop e).cnt=1 + ps.cnt/\max d (ps.drop e).deep=ps.deep/\j=ps.len - e) ps.len
   (vo (.mk h ps) 0 1 0) (weak_mk ⟨_,rfl⟩ wA rfl rfl rfl wB) ⟨0,1,0,rfl,by omega,rfl,by simp [Pts.drop],by omega⟩ ?_
  rintro j st ⟨e,n,d,rfl,he,aT,XJ,rfl⟩;refine br ?_ ?_<;>intro hL
  ·have au:e < ps.len:=by simpa [aH] using hL
   obtain ⟨p,t,hx⟩:=Pts.eE au;have CP:=Pts.gj (mG hx);rw [Pts.drop_cons hx] at aT XJ;simp only [Pts.cnt,Pts.deep] at aT XJ;have QH:=t.eF;have hdt:=t.nT;refine iX (bQ hx) ?_;refine br ?_ ?_<;>intro hB
   ·rw [if_pos hB] at aT XJ;exact rE ⟨_,by omega,e + 1,n,d,rfl,by omega,by omega,by omega,rfl⟩ (weak_mk ⟨_,rfl⟩ wA rfl rfl rfl (wB1 (nxt au (by omega))))
   ·rw [if_neg (by simp [hB])] at aT XJ;obtain ⟨u,us⟩:=t;refine iX (bQ hx) ?_;refine cP Rk (kb k (.mk u us) (by omega) (by omega)) ?_;have sP:IntKind.i64.wrap ((n:Int) + (Ty.mk u us).cnt)=((n + (Ty.mk u us).cnt:Nat):Int):=by rw [wrap64 (by omega) (by omega)];omega
    refine br ?_ ?_<;>intro hD
    ·have hD:d < (Ty.mk u us).deep:=sU hD;exact ⟨vo (.mk h ps) (e + 1) (n + (Ty.mk u us).cnt) (Ty.mk u us).deep,(weak_mk ⟨_,rfl⟩ wA rfl rfl rfl (dm sP (nxt au (by omega)))),ps.len - (e + 1),by omega,e + 1,_,_,rfl,by omega,by omega,by omega,rfl⟩
    ·have hD:¬ d < (Ty.mk u us).deep:=sU hD;exact ⟨vo (.mk h ps) (e + 1) (n + (Ty.mk u us).cnt) d,(weak_mk ⟨_,rfl⟩ wA rfl rfl rfl (dm sP (nxt au (by omega)))),ps.len - (e + 1),by omega,e + 1,_,_,rfl,by omega,by omega,by omega,rfl⟩
  ·have aN:e=ps.len:=by simp [aH] at hL;omega
   rw [aN,Pts.cX] at aT XJ;simp only [Pts.cnt,Pts.deep] at aT XJ;have e1:IntKind.i64.wrap ((d:Int) + 1)=((Ty.mk h ps).deep:Int):=by rw [wrap64 (by omega) (by omega)];simp only [Ty.deep];omega
   have e2:(n:Int)=((Ty.mk h ps).cnt:Int):=by simp only [Ty.cnt];omega
   refine ⟨_,?_,rfl⟩;rw [<- e1,<- e2];exact ax
def wD (f:Ft) (n:Int):DV:=.agg [.v (.int .i64 f.1),.v (.int .i64 f.2),.v (.int .i64 n)]
theorem eu (f:Ft) (n e a:Int):EvP prog 205 [wD f n,.v (.int .i64 e),.v (.int .i64 a)] (wD (e,a) n):=by
 refine eG 13 [.cell 6 263] func205 rfl ntmps205 rfl fun _ _ _ _=>?_;exact ⟨_,ax,rfl⟩
def aX (p:Ph):Ft:=
 if p.ck=0 then (if p.cn=0/\p.cl=[] then (0,0) else (19,p.name.a))
 else if p.ck < 0∨3 < p.ck then (14,p.ca)
 else if (p.ck=1/\p.cn < 1)∨(p.ck=2/\(p.cn < 0∨4096 < p.cn))∨(p.ck=3/\p.cn≠0) then (20,p.ca)
 else bN p.cl
theorem yf (p:Ph) (tl:List DV) (hs:p.wt<=4611686018427387904) :
  EvP prog 243 [.agg (FF p tl)] (aX p).d:=by
 simp only [Ph.wt] at hs;refine eG 73 [.cell 2 41] func243 rfl ntmps243 rfl fun _ _ _ _=>?_;refine br ?_ ?_<;>intro h0
 ·have h0:p.ck=0:=sU h0;refine br ?_ ?_<;>intro h1
  ·have:aX p=(19,p.name.a):=by
    simp [ap,aA] at h1;simp only [aX,h0,if_true];rw [if_neg];rintro ⟨h2,h3⟩;rcases h1 with h1 | h1
    ·exact h1 h2
    ·simp [h3] at h1
   refine ⟨_,?_,rfl⟩;rw [this];exact ax
  ·have:aX p=(0,0):=by
    simp [ap,aA] at h1;simp [aX,h0,h1.1,h1.2]
   refine ⟨_,?_,rfl⟩;rw [this];exact ax
 ·have h0:¬ p.ck=0:=sU h0;refine br ?_ ?_<;>intro h1
  ·have:aX p=(14,p.ca):=by
    simp [ap] at h1;simp [aX,h0,h1]
   refine ⟨_,?_,rfl⟩;rw [this];exact ax
  ·simp [ap] at h1;refine br ?_ ?_<;>intro h2
   ·have:aX p=(20,p.ca):=by
     simp [ap,pickB_and] at h2;simp only [aX,h0,if_false];rw [if_neg (by omega),if_pos (by omega)]
    refine ⟨_,?_,rfl⟩;rw [this];exact ax
   ·have hc:aX p=bN p.cl:=by
     simp [ap,pickB_and] at h2;simp only [aX,h0,if_false];rw [if_neg (by omega),if_neg (by omega)]
    refine cP MU (lP p.cl (by omega)) ?_;refine ⟨_,?_,rfl⟩;rw [hc];exact ax
def enumL (all:List Wd):Nat->List Wd->Ft
 | _,[]=>(0,0)
 | i,x :: r=>if aF all i x≠0 then (aF all i x,x.a) else enumL all (i + 1) r
def iy (h:Hd):Ft:=
 if h.af=[] then (15,h.aD)
 else if 64 < h.af.length then (8,((h.af[64]?).getD (⟨aq,0⟩:Wd)).a)
 else enumL h.af 0 h.af
def dz (p:Ph):Ft:=
 if p.wide < 0∨64 < p.wide then (20,p.name.a)
 else if (bN p.label).1≠0 then bN p.label
 else aX p
def tJ (t:Ty):Bool:=sameTy t (mask t)
mutual
def wrong:Ty->Int->Int->Ft × Int
 | .mk h ps,depth,m=>
  if 24 < depth then ((6,h.aD),m + 1)
  else if 512 < m + 1 then ((8,h.aD),m + 1)
  else if h.ag < 1∨9 < h.ag then ((14,h.aD),m + 1)
  else if tJ (.mk h ps)=false then ((19,h.aD),m + 1)
  else if (h.ag=2/\h.hi < h.lo)∨(h.ag=3/\(h.most < 0∨4096 < h.most)) then ((20,h.aD),m + 1)
  else if h.ag=9/\bd h.name.s=false then ((9,h.name.a),m + 1)
  else if h.ag=4 then (iy h,m + 1)
  else if h.ag=5∨h.ag=6 then wrongOne h ps depth (m + 1)
  else if h.ag=7∨h.ag=8 then
   if h.ag=8/\ps.len=0 then ((15,h.aD),m + 1)
   else if 64 < ps.len then ((8,(((pNames ps)[64]?).getD (⟨aq,0⟩:Wd)).a),m + 1)
   else wrongPts h.ag (pNames ps) 0 ps depth (m + 1)
  else ((0,0),m + 1)
def wrongOne:Hd->Pts->Int->Int->Ft × Int
 | h,.cons p t .nil,depth,m=>
  if p.name.s≠aq∨bM p eT=false then ((19,h.aD),m)
  else if h.most < 0∨1024 < h.most then ((20,h.aD),m)
  else wrong t (depth + 1) m
 | h,_,_,m=>((19,h.aD),m)
def wrongPts (ag:Int) (all:List Wd):Nat->Pts->Int->Int->Ft × Int
 | _,.nil,_,m=>((0,0),m)
 | i,.cons p t r,depth,m=>
  if aF all i p.name≠0 then ((aF all i p.name,p.name.a),m)
  else if p.bare=true then
   if ag=7∨sameTy t bW=false∨bM p fi=false then ((19,p.name.a),m) else wrongPts ag all (i + 1) r depth m
  else if (dz p).1≠0 then (dz p,m)
  else if (wrong t (depth + 1) m).1.1≠0 then wrong t (depth + 1) m
  else wrongPts ag all (i + 1) r depth (wrong t (depth + 1) m).2
end
def AO (k:Nat):Prop:=∀ (t:Ty) (depth m:Int),t.wt<=k->t.wt<=1099511627776->0<=depth->depth<=25->0<=m->m<=512 ->
 EvP prog 174 [wD (0,0) m,.agg (dV t),.v (.int .i64 depth)] (wD (wrong t depth m).1 (wrong t depth m).2)
abbrev ug (t:Ty) (e:Nat) (depth m:Int):St:=
 ⟨[(2,⟨[],.v (.int .i64 depth)⟩),(3,⟨[],.loc 0 0⟩),(4,⟨[],.loc 1 0⟩),(6,⟨[],.loc 2 0⟩),(7,⟨[],.v (.int .i64 e)⟩)],[[.v (.int .i64 0),.v (.int .i64 0),.v (.int .i64 m)],dV t,[.v (.int .i64 0),.v (.int .i64 0),.v (.int .i64 0)]],[]⟩
def eU (h:Hd) (ps:Pts) (depth m:Int):Ft × Int:=
 if h.ag=8/\ps.len=0 then ((15,h.aD),m)
 else if 64 < ps.len then ((8,(((pNames ps)[64]?).getD (⟨aq,0⟩:Wd)).a),m)
 else wrongPts h.ag (pNames ps) 0 ps depth m
theorem CR (all:List Wd):∀ (l:List Wd) (i:Nat),(enumL all i l).1=0->enumL all i l=(0,0)
 | [],_,_=>rfl
 | x :: r,i,h=>by
  have ih:=CR all r (i + 1);simp only [enumL] at h ⊢;split at h
  ·rename_i hc;exact (hc h).elim
  ·rename_i hc;rw [if_neg hc];exact ih h
theorem yZ (h:Hd) (he:(iy h).1=0):iy h=(0,0):=by
 unfold iy at he ⊢;split at he
 ·simp at he
 ·split at he
  ·simp at he
  ·rename_i h1 h2;rw [if_neg h1,if_neg h2];exact CR _ _ _ he
mutual
theorem qd:∀ (t:Ty) (depth m:Int),0<=m->(wrong t depth m).1.1=0->(wrong t depth m).1=(0,0)/\0<=(wrong t depth m).2/\(wrong t depth m).2<=512
 | .mk h ps,depth,m,hm,he=>by
  have i1:=CS h ps depth (m + 1) (by omega);have i2:=mO h.ag (pNames ps) ps 0 depth (m + 1) (by omega);have i3:=yZ h;simp only [wrong] at he ⊢;by_cases c0:24 < depth
  ·rw [if_pos c0] at he;simp at he
  rw [if_neg c0] at he ⊢;by_cases c1:512 < m + 1
  ·rw [if_pos c1] at he;simp at he
  rw [if_neg c1] at he ⊢;by_cases c2:h.ag < 1∨9 < h.ag
  ·rw [if_pos c2] at he;simp at he
  rw [if_neg c2] at he ⊢;by_cases c3:tJ (.mk h ps)=false
  ·rw [if_pos c3] at he;simp at he
  rw [if_neg c3] at he ⊢;by_cases c4:(h.ag=2/\h.hi < h.lo)∨(h.ag=3/\(h.most < 0∨4096 < h.most))
  ·rw [if_pos c4] at he;simp at he
  rw [if_neg c4] at he ⊢;by_cases c5:h.ag=9/\bd h.name.s=false
  ·rw [if_pos c5] at he;simp at he
  rw [if_neg c5] at he ⊢;by_cases k4:h.ag=4
  ·rw [if_pos k4] at he ⊢;exact ⟨i3 he,by simp only;omega,by simp only;omega⟩
  rw [if_neg k4] at he ⊢;by_cases k5:h.ag=5∨h.ag=6
  ·rw [if_pos k5] at he ⊢;exact i1 (by omega) he
  rw [if_neg k5] at he ⊢;by_cases k7:h.ag=7∨h.ag=8
  ·rw [if_pos k7] at he ⊢;by_cases k8:h.ag=8/\ps.len=0
   ·rw [if_pos k8] at he;simp at he
   rw [if_neg k8] at he ⊢;by_cases k9:64 < ps.len
   ·rw [if_pos k9] at he;simp at he
   rw [if_neg k9] at he ⊢;exact i2 (by omega) he
  ·rw [if_neg k7];exact ⟨rfl,by simp only;omega,by simp only;omega⟩
theorem CS:∀ (h:Hd) (ps:Pts) (depth m:Int),0<=m->m<=512->(wrongOne h ps depth m).1.1=0->(wrongOne h ps depth m).1=(0,0)/\0<=(wrongOne h ps depth m).2/\(wrongOne h ps depth m).2<=512
 | h,.nil,depth,m,hm,_,he=>by simp [wrongOne] at he
 | h,.cons p t .nil,depth,m,hm,h5,he=>by
  have ih:=qd t (depth + 1) m hm;simp only [wrongOne] at he ⊢;split at he
  ·simp at he
  ·split at he
   ·simp at he
   ·rename_i h1 h2;rw [if_neg h1,if_neg h2];exact ih he
 | h,.cons p t (.cons _ _ _),depth,m,hm,_,he=>by simp [wrongOne] at he
theorem mO (ag:Int) (all:List Wd):∀ (ps:Pts) (i:Nat) (depth m:Int),0<=m->m<=512->(wrongPts ag all i ps depth m).1.1=0->(wrongPts ag all i ps depth m).1=(0,0)/\0<=(wrongPts ag all i ps depth m).2/\(wrongPts ag all i ps depth m).2<=512
 | .nil,i,depth,m,hm,h5,he=>by simp only [wrongPts];exact ⟨trivial,hm,h5⟩
 | .cons p t r,i,depth,m,hm,h5,he=>by
  have i1:=qd t (depth + 1) m hm;simp only [wrongPts] at he ⊢;split at he
  ·rename_i h1;exact (h1 he).elim
  ·rename_i h1;rw [if_neg h1];split at he
   ·rename_i h2;rw [if_pos h2];split at he
    ·simp at he
    ·rename_i h3;rw [if_neg h3];exact mO ag all r (i + 1) depth m hm h5 he
   ·rename_i h2;rw [if_neg h2];split at he
    ·rename_i h3;exact (h3 he).elim
    ·rename_i h3;rw [if_neg h3];split at he
     ·rename_i h4;exact (h4 he).elim
     ·rename_i h4;rw [if_neg h4];have i2:=i1 (sU h4);exact mO ag all r (i + 1) depth _ i2.2.1 i2.2.2 he
end
theorem AP (k:Nat) (ih:AO k) (h:Hd) (ps:Pts) (depth m:Int) (hk:ps.wt<=k) (cr:(Ty.mk h ps).wt<=1099511627776) (yV:0<=depth) (E5:depth<=24) (jG:0<=m) (fH:m<=512) :
  EvP prog 209 [wD (0,0) m,.agg (dV (.mk h ps)),.v (.int .i64 depth)] (wD (eU h ps depth m).1 (eU h ps depth m).2):=by
 simp only [Ty.wt,Hd.wt] at cr;have hpl:=ps.fy;have VN:=rI ps;refine eG 126 [.cell 6 263] func209 rfl ntmps209 rfl fun _ _ _ _=>?_;refine br ?_ ?_<;>intro c1
 ·refine cP gw (eu (0,0) m 15 h.aD) ?_
  have:eU h ps depth m=((15,h.aD),m):=by
   simp [pickB_and,aH] at c1;have:ps.len=0:=by omega
   simp [eU,c1.1,this]
  refine ⟨_,?_,rfl⟩;rw [this];exact ax
 ·have c1':¬ (h.ag=8/\ps.len=0):=by
   simp [pickB_and,aH] at c1;omega
  refine br ?_ ?_<;>intro c2
  ·have au:64 < ps.len:=by simp [aH] at c2;omega
   obtain ⟨p,t,hx⟩:=Pts.eE au;refine aG (fun i=>Nat.beq i 8) mo (by decide +kernel) ?_;refine iX (bQ hx) ?_;refine cD gw (eu (0,0) m 8 p.name.a) ?_
   have:eU h ps depth m=((8,p.name.a),m):=by
    simp only [eU,if_neg c1',if_pos au,gl hx];rfl
   refine ⟨_,?_,rfl⟩;rw [this];exact ax
  ·have c2':¬ 64 < ps.len:=by simp [aH] at c2;omega
   have hF:eU h ps depth m=wrongPts h.ag (pNames ps) 0 ps depth m:=by simp only [eU,if_neg c1',if_neg c2']
   refine av (fun j st=>∃ (e:Nat) (m':Int),st=ug (.mk h ps) e depth m' /\ e<=ps.len/\0<=m' /\ m' <= 512 /\
     wrongPts h.ag (pNames ps) 0 ps depth m=wrongPts h.ag (pNames ps) e (ps.drop e) depth m' /\ j=ps.len - e) ps.len
    (ug (.mk h ps) 0 depth m) (weak_mk ⟨_,rfl⟩ wA rfl rfl rfl wB) ⟨0,m,rfl,by omega,jG,fH,rfl,by omega⟩ ?_
   rintro j st ⟨e,m',rfl,he,tK,CT,aK,rfl⟩;refine br ?_ ?_<;>intro hL
   ·have au:e < ps.len:=by simpa [aH] using hL
    obtain ⟨p,t,hx⟩:=Pts.eE au;rw [Pts.drop_cons hx] at aK;have CP:=Pts.gj (mG hx);obtain ⟨u,us⟩:=t;refine iX (bQ hx) ?_;refine cP ZV (AN ps (by omega)) ?_;refine cP TL (oA (pNames ps) e p.name (by omega) (gl hx)) ?_;refine br ?_ ?_<;>intro hl
    ·have hl:aF (pNames ps) e p.name≠0:=sU hl;refine cP gw (eu (0,0) m' _ p.name.a) ?_
     have:eU h ps depth m=((aF (pNames ps) e p.name,p.name.a),m'):=by
      rw [hF,aK];simp only [wrongPts];rw [if_pos hl]
     refine ⟨_,?_,rfl⟩;rw [this];exact ax
    ·have hl:aF (pNames ps) e p.name=0:=sU hl;simp only [wrongPts] at aK;rw [if_neg (by simp [hl])] at aK;refine br ?_ ?_<;>intro hB
     ·rw [if_pos hB] at aK;refine br ?_ ?_<;>intro k7
      ·have k7:¬ h.ag=7:=sU k7;refine cP ZW (CQ (.mk u us) (by omega)) ?_;refine br ?_ ?_<;>intro z
       ·have z:sameTy (.mk u us) bW=true:=by simpa [ap,k7] using z
        refine cP MV (lO p fi (dV (.mk u us)) (dV bW) (by omega) (yY _ _ _ _ _) (yY _ _ _ _ _)) ?_;refine br ?_ ?_<;>intro q
        ·have q:bM p fi=false:=by simpa [ap,k7,z] using q
         refine cP gw (eu (0,0) m' 19 p.name.a) ?_;rw [if_pos (by simp [q])] at aK;refine ⟨_,?_,rfl⟩;rw [hF,aK];exact ax
        ·have q:bM p fi=true:=by simpa [ap,k7,z] using q
         rw [if_neg (by simp [k7,z,q])] at aK;exact rE ⟨_,by omega,e + 1,m',rfl,by omega,tK,CT,aK,rfl⟩ (weak_mk ⟨_,rfl⟩ wA rfl rfl rfl (wB1 (nxt au (by omega))))
       ·have z:sameTy (.mk u us) bW=false:=by simpa [ap,k7] using z
        refine cP gw (eu (0,0) m' 19 p.name.a) ?_;rw [if_pos (by simp [z])] at aK;refine ⟨_,?_,rfl⟩;rw [hF,aK];exact ax
      ·have k7:h.ag=7:=sU k7;refine cP gw (eu (0,0) m' 19 p.name.a) ?_;rw [if_pos (by simp [k7])] at aK;refine ⟨_,?_,rfl⟩;rw [hF,aK];exact ax
     ·rw [if_neg (by simp [hB])] at aK;refine br ?_ ?_<;>intro hw
      ·have hP:dz p=(20,p.name.a):=by
        simp [ap] at hw;simp only [dz,if_pos hw]
       rw [if_pos (by rw [hP];simp),hP] at aK;refine ⟨_,?_,rfl⟩;rw [hF,aK];exact ax
      ·have hw:¬ (p.wide < 0∨64 < p.wide):=by simp [ap] at hw;omega
       have hpw:p.wt<=ps.wt:=by omega
       simp only [Ph.wt] at hpw;refine cP MU (lP p.label (by omega)) ?_;refine br ?_ ?_<;>intro hb
       ·have hb:(bN p.label).1=0:=sU hb;have hP:dz p=aX p:=by simp only [dz,if_neg hw,hb,ne_eq,not_true_eq_false,if_false]
        rw [hP] at aK;refine cP ZX (yf p (dV (.mk u us)) (by omega)) ?_ (by repeat' (first | exact rfl | exact trivial | exact Or.inr (Or.inl ⟨_,rfl⟩) | exact Or.inr ⟨_,rfl⟩ | exact Or.inl ⟨rfl,rfl⟩ | exact Or.inl rfl | refine Or.inr ⟨_,_,rfl,Nat.zero_le _,rfl,?_⟩ | refine ⟨_,_,rfl,?_,?_⟩ | refine ⟨_,rfl,?_⟩ | exact congrArg DV.agg rfl| refine Or.inr (Or.inr (Or.inr ⟨_,_,rfl,?_⟩)) | exact Or.inl rfl | refine Or.inr ?_));refine br ?_ ?_<;>intro hc
        ·have hc:(aX p).1≠0:=sU hc;rw [if_pos hc] at aK;refine ⟨_,?_,rfl⟩;rw [hF,aK];exact ax
        ·have hc:(aX p).1=0:=sU hc;rw [if_neg (by simp [hc])] at aK;have sK:=ih (.mk u us) (depth + 1) m' (by omega) (by omega) (by omega) (by omega) tK CT;have bS:=qd (.mk u us) (depth + 1) m' tK;generalize wrong (.mk u us) (depth + 1) m'=r at sK bS aK;obtain ⟨⟨fe,fa⟩,many⟩:=r;simp only at sK bS aK;refine cP MR sK ?_ (by repeat' (first | exact rfl | exact trivial | exact Or.inr (Or.inl ⟨_,rfl⟩) | exact Or.inr ⟨_,rfl⟩ | exact Or.inl ⟨rfl,rfl⟩ | exact Or.inl rfl | refine Or.inr ⟨_,_,rfl,Nat.zero_le _,rfl,?_⟩ | refine ⟨_,_,rfl,?_,?_⟩ | refine ⟨_,rfl,?_⟩ | exact congrArg (fun z=>DV.v (.int .i64 z)) (wrap64 (by omega) (by omega))| refine Or.inr (Or.inr (Or.inr ⟨_,_,rfl,?_⟩)) | exact Or.inl rfl | refine Or.inr ?_));refine br ?_ ?_<;>intro hd
         ·have hd:fe≠0:=sU hd;rw [if_pos hd] at aK;refine ⟨_,?_,rfl⟩;rw [hF,aK];exact ax
         ·have hd:fe=0:=sU hd;subst hd;obtain ⟨h1,h2,h3⟩:=bS rfl;simp only [Prod.mk.injEq,true_and] at h1;subst h1;rw [if_neg (by simp)] at aK;exact rE ⟨_,by omega,e + 1,many,rfl,by omega,h2,h3,aK,rfl⟩ (weak_mk ⟨_,rfl⟩ wA rfl rfl rfl (wB1 (nxt au (by omega))))
       ·have hb:¬ (bN p.label).1=0:=sU hb;have hP:dz p=bN p.label:=by simp only [dz,if_neg hw];rw [if_pos hb]
        rw [hP,if_pos hb] at aK;refine br ?_ ?_<;>intro hc
        ·refine ⟨_,?_,rfl⟩;rw [hF,aK];exact ax
        ·exact (hb (sU hc)).elim
   ·have aN:e=ps.len:=by simp [aH] at hL;omega
    rw [aN,Pts.cX] at aK;refine ⟨_,?_,rfl⟩;rw [hF,aK];simp only [wrongPts];exact ax
theorem bA (e a:Int):EvP prog 184 [.v (.int .i64 e),.v (.int .i64 a)] (Ft.d (e,a)):=by
 refine eG 8 [.cell 4 41] func184 rfl ntmps184 rfl fun _ _ _ _=>?_;exact ⟨_,ax,rfl⟩
noncomputable def gM (L:List ByteArray) (x:ByteArray) (a:Int):Ft:=if bd x=true then (if L.Nodup then (0,0) else (10,a)) else (9,a)
theorem sQ (L:List ByteArray) (x:ByteArray) (a:Int) (hx:L[L.length - 1]? = some x) (hl:L.length<=1099511627776) (ya:x.size<=4611686018427387904) :
  EvP prog 230 [.sl 1 (dM L) none,.v (.int .i64 a)] (gM L x a).d:=by
 have hN:=cg L;have kx:=(gS hx).1;have hz:IntKind.i64.wrap (((dM L).length:Int) - 1)=((L.length - 1:Nat):Int):=by rw [hN,wrap64 (by omega) (by omega)];omega
 refine eG 23 [.cell 4 41] func230 rfl ntmps230 rfl fun _ _ _ _=>?_;refine ⟨[.v (.string x)],⟨by rw [hz];omega,by rw [hz];exact fW hx⟩,?_⟩;refine cP FE (iw x ya) ?_;refine br ?_ ?_<;>intro h
 ·have h:bd x=false:=sU h;refine cP dZ (bA 9 a) ?_;refine ⟨_,?_,rfl⟩;rw [gM,if_neg (by rw [h];decide)];exact ax
 ·have h:bd x=true:=sU h;refine bL VB rfl (oU L hl) ax (fun r hr=>?_);obtain ⟨z,rfl,hz⟩:=hr;refine br ?_ ?_<;>intro h2
  ·have h2:0<=z:=sU h2;refine cP dZ (bA 10 a) ?_;refine ⟨_,?_,rfl⟩;rw [gM,if_pos h,if_neg (hz.1 h2)];exact ax
  ·have h2:¬ 0<=z:=sU h2;refine ⟨_,?_,rfl⟩;rw [gM,if_pos h,if_pos (Classical.byContradiction fun hn=>h2 (hz.2 hn))];exact ax
theorem FN {l:List Wd} {e:Nat} {x:Wd} (h:l[e]? = some x):bG ((l.map fun w=>(⟨w.s,0⟩:Wd)).take e) ++ [[.v (.string x.s),.v (.int .i64 0)]]=bG ((l.map fun w=>(⟨w.s,0⟩:Wd)).take (e + 1)):=by
 have h2:(l.map fun w=>(⟨w.s,0⟩:Wd))[e]? = some ⟨x.s,0⟩:=by simp [h]
 exact yU h2
def iz (l:List Wd):List Wd:=l.map fun w=>⟨w.s,0⟩
abbrev Ng (l l':List Wd) (n e:Nat):St:=
 ⟨[(6,⟨[],.sl 2 (bG l) none⟩),(7,⟨[],.v (.int .i64 (bG l).length)⟩),(8,⟨[],.v (.int .i64 e)⟩),(3,⟨[],.sl 2 (bG l') (some 0)⟩)],[],[⟨n,27,2,none⟩]⟩
theorem vq (l:List Wd) (hs:wdsWt l<=1099511627776):EvP prog 284 [.sl 2 (bG l) none] (.sl 2 (bG (iz l)) none):=by
 have hl:=bw l;refine eG 20 [.tmp 2] func284 rfl ntmps284 rfl fun _ _ _ _=>?_;refine av (fun j st=>∃ e:Nat,st=Ng l ((iz l).take e) e e/\e<=l.length/\j=l.length - e) l.length (Ng l [] 0 0) (dX ⟨0,27,2,none⟩ rfl ⟨_,rfl⟩ rfl wA rfl rfl wB0) ⟨0,by simp,by omega,by omega⟩ ?_;rintro j st ⟨e,rfl,he,rfl⟩;refine br ?_ ?_<;>intro h
 ·have au:e < l.length:=by simpa [aA] using h
  obtain ⟨w,hw⟩:=gX au;refine ⟨jN w,⟨by omega,aS hw⟩,?_⟩;refine ⟨by simp [aA,iz];omega,⟨by simp [aA,iz,maxLen];omega,by simp [aA,iz];omega⟩,?_⟩;refine ⟨Ng l ((iz l).take (e + 1)) (e + 1) (e + 1),(weak_mk ⟨_,rfl⟩ wA rfl rfl rfl (dm (nxt au (by omega)) (FN hw))),l.length - (e + 1),by omega,e + 1,rfl,by omega,rfl⟩
 ·have aN:e=l.length:=by
   have:=h;simp [aA] at this;omega
  rw [aN,List.take_of_length_le (by simp [iz])];exact ⟨_,ax,rfl⟩
abbrev vt (l:List Wd) (e:Nat):St:=
 ⟨[(13,⟨[],.sl 2 (bG l) none⟩),(14,⟨[],.v (.int .i64 (bG l).length)⟩),(2,⟨[],.loc 0 0⟩),(15,⟨[],.v (.int .i64 e)⟩)],[[.v (.int .i64 0),.v (.int .i64 0)]],[]⟩
theorem iQ (l:List Wd) (hs:wdsWt l<=1099511627776) :
  EvP prog 250 [.sl 2 (bG l) none] (bN l).d:=by
 have mF:=bw l;refine eG 28 [.cell 2 41] func250 rfl ntmps250 rfl fun _ _ _ _=>?_;refine br ?_ ?_<;>intro h
 ·have au:32 < l.length:=by simp [aA] at h;omega
  obtain ⟨x,hx⟩:=gX au;have:bN l=(8,x.a):=by simp [bN,Nat.not_le.2 au,hx]
  refine ⟨jN x,⟨by omega,aS hx⟩,?_⟩;refine cP dZ (bA 8 x.a) ?_;refine ⟨_,?_,rfl⟩;rw [this];exact ax
 ·have eV:l.length<=32:=by simp [aA] at h;omega
  refine av (fun j st=>∃ e:Nat,st=vt l e/\e<=l.length/\badWd l=badWd (l.drop e)/\j=l.length - e) l.length
   (vt l 0) (weak_mk ⟨_,rfl⟩ wA rfl rfl rfl wB) ⟨0,rfl,by omega,rfl,by omega⟩ ?_
  rintro j st ⟨e,rfl,he,aK,rfl⟩;refine br ?_ ?_<;>intro hL
  ·have au:e < l.length:=by simpa [aA] using hL
   obtain ⟨x,hx⟩:=gX au;rw [drop_cons hx] at aK;have ya:=iu (mG hx);refine ⟨jN x,⟨by omega,aS hx⟩,?_⟩;refine cP FE (iw x.s (by omega)) ?_;refine br ?_ ?_<;>intro hN
   ·have hN:bd x.s=false:=sU hN;have:bN l=(9,x.a):=by simp [bN,eV,aK,badWd,hN]
    refine cP dZ (bA 9 x.a) ?_;refine ⟨_,?_,rfl⟩;rw [this];exact ax
   ·have hN:bd x.s=true:=sU hN;refine ⟨vt l (e + 1),(weak_mk ⟨_,rfl⟩ wA rfl rfl rfl (wB1 (nxt au (by omega)))),l.length - (e + 1),by omega,e + 1,rfl,by omega,?_,rfl⟩;rw [aK];simp [badWd,hN]
  ·have aN:e=l.length:=by simp [aA] at hL;omega
   have:bN l=(0,0):=by simp [bN,eV,aK,aN,badWd]
   refine ⟨_,?_,rfl⟩;rw [this];exact ax
theorem AQ (p:Ph) (tl:List DV) (t:Ty) (eZ:tl=dV t) (hs:p.wt<=1099511627776) :
  EvP prog 251 [.agg (FF p tl)] (aX p).d:=by
 subst eZ;obtain ⟨u,us⟩:=t;simp only [Ph.wt] at hs;refine eG 55 [.cell 2 41] func251 rfl ntmps251 rfl fun _ _ _ _=>?_;refine br ?_ ?_<;>intro h0
 ·have h0:p.ck=0:=of_decide_eq_true h0;refine br ?_ ?_<;>intro h1
  ·have:aX p=(19,p.name.a):=by
    simp [ap,aA] at h1;simp only [aX,h0,if_true];rw [if_neg];rintro ⟨h2,h3⟩;rcases h1 with h1 | h1
    ·exact h1 h2
    ·simp [h3] at h1
   refine cP dZ (bA 19 p.name.a) ?_;refine ⟨_,?_,rfl⟩;rw [this];exact ax
  ·have hY:p.cl=[]:=by
    simp [ap,aA] at h1;exact h1.2
   have:aX p=(0,0):=by
    simp [ap,aA] at h1;simp [aX,h0,h1.1,h1.2]
   have h00:bN p.cl=(0,0):=by rw [hY];simp [bN,badWd]
   refine cP CH (iQ p.cl (by omega)) ?_;refine ⟨_,?_,rfl⟩;rw [this,<- h00];exact ax
 have h0:¬ p.ck=0:=of_decide_eq_false h0;refine br ?_ ?_<;>intro h1
 ·have h1:p.ck=1:=of_decide_eq_true h1;refine br ?_ ?_<;>intro h2
  ·have:aX p=(20,p.ca):=by
    simp [pickB_and] at h2;simp only [aX,h0,if_false];rw [if_neg (by omega),if_pos (by omega)]
   refine cP dZ (bA 20 p.ca) ?_;refine ⟨_,?_,rfl⟩;rw [this];exact ax
  ·have:aX p=bN p.cl:=by
    simp [pickB_and] at h2;simp only [aX,h0,if_false];rw [if_neg (by omega),if_neg (by omega)]
   refine cP CH (iQ p.cl (by omega)) ?_;refine ⟨_,?_,rfl⟩;rw [this];exact ax
 have h1:¬ p.ck=1:=of_decide_eq_false h1;refine br ?_ ?_<;>intro h3
 ·have h3:p.ck=2:=of_decide_eq_true h3;refine br ?_ ?_<;>intro h2
  ·have:aX p=(20,p.ca):=by
    simp [pickB_and] at h2;simp only [aX,h0,if_false];rw [if_neg (by omega),if_pos (by omega)]
   refine cP dZ (bA 20 p.ca) ?_;refine ⟨_,?_,rfl⟩;rw [this];exact ax
  ·have:aX p=bN p.cl:=by
    simp [pickB_and] at h2;simp only [aX,h0,if_false];rw [if_neg (by omega),if_neg (by omega)]
   refine cP CH (iQ p.cl (by omega)) ?_;refine ⟨_,?_,rfl⟩;rw [this];exact ax
 have h3:¬ p.ck=2:=of_decide_eq_false h3;refine br ?_ ?_<;>intro h4
 ·have h4:p.ck=3:=of_decide_eq_true h4;refine br ?_ ?_<;>intro h2
  ·have:aX p=(20,p.ca):=by
    simp [pickB_and] at h2;simp only [aX,h0,if_false];rw [if_neg (by omega),if_pos (by omega)]
   refine cP dZ (bA 20 p.ca) ?_;refine ⟨_,?_,rfl⟩;rw [this];exact ax
  ·have:aX p=bN p.cl:=by
    simp [pickB_and] at h2;simp only [aX,h0,if_false];rw [if_neg (by omega),if_neg (by omega)]
   refine cP CH (iQ p.cl (by omega)) ?_;refine ⟨_,?_,rfl⟩;rw [this];exact ax
 have h4:¬ p.ck=3:=of_decide_eq_false h4
 have:aX p=(14,p.ca):=by
  simp only [aX,h0,if_false];rw [if_pos (by omega)]
 refine cP dZ (bA 14 p.ca) ?_;refine ⟨_,?_,rfl⟩;rw [this];exact ax
theorem Nh (w:World) (x y:Operand) (vs vs':Array Value):(eqGuard .neq 27 x y (.agg vs) (.agg vs')).run prog w = .ok () w:=by
 have h:prog.eqGuardType prog.depth 27=false:=by kernel_rfl
 simp [eqGuard,run_program,h]
theorem VO (a b:ByteArray) (p q:Int) (w:World):(binOp .neq 27 (.agg #[.string a,.int .i64 p]) (.agg #[.string b,.int .i64 q])).run prog w = .ok (.bool (!(decide (a=b) && decide (p=q)))) w:=by
 have hf:prog.underlying 27=some (.struct (prog.fieldsOf 27)):=by simp [Program.fieldsOf,Tryz.underlying27]
 have ua:(prog.fieldsOf 27).toList=[⟨ "Name",9,0,false, "", "",0⟩,⟨ "At",3,1,false, "", "",16⟩]:=by simp [Program.fieldsOf,Tryz.underlying27]
 have hs:prog.stoodInHeld 27=false:=by kernel_rfl
 have hm:∃ d,Op.maxDepth=d + 1 + 1:=⟨Op.maxDepth - 2,by decide⟩;obtain ⟨d,hm⟩:=hm
 have he:(Op.equal 27 (.agg #[.string a,.int .i64 p]) (.agg #[.string b,.int .i64 q])).run prog w = .ok (decide (a=b) && decide (p=q)) w:=by
  unfold Op.equal;rw [hm,run_equalIn_struct w (d + 1) 27 _ _ hf hs,ua]
  have e1:(a.toList == b.toList)=decide (a=b):=by
   rw [ByteArray.toList_eq,ByteArray.toList_eq];by_cases h:a=b
   ·subst h;simp
   ·have:¬ a.data=b.data:=fun e=>h (ByteArray.ext e);simp [h,this]
  have q9:∀ cs:Array Value,∀ off v,cs[off]? = some v->(part 9 cs off).run prog w = .ok v w:=fun cs off v h=>by
   simp [part,Tryz.isAgg9,h]
  have q3:∀ cs:Array Value,∀ off v,cs[off]? = some v->(part 3 cs off).run prog w = .ok v w:=fun cs off v h=>by
   simp [part,Tryz.isAgg3,h]
  simp only [Op.eqFields,ne_eq,String.reduceEq,not_false_eq_true,if_true,Sem.run_bind,q9 #[.string a,.int .i64 p] 0 (.string a) rfl,q9 #[.string b,.int .i64 q] 0 (.string b) rfl,Result.andThen_ok,run_equalIn_string w d 9 a b Tryz.underlying9,e1];by_cases h:a=b
  ·simp only [h,decide_true,Bool.not_true,Bool.false_eq_true,if_false,Sem.run_bind,q3 #[.string b,.int .i64 p] 1 (.int .i64 p) rfl,q3 #[.string b,.int .i64 q] 1 (.int .i64 q) rfl,Result.andThen_ok,run_equalIn_int w d 3 .i64 .i64 p q Tryz.underlying3];by_cases h2:p=q<;>simp [h2,Sem.run_pure]
  ·simp [h,Sem.run_pure]
 show ((do let r <- Op.equal 27 _ _;pure (Value.bool !r)):Sem Value).run prog w=_;simp only [Sem.run_bind,he,Result.andThen_ok,Sem.run_pure]
theorem Rs (x y:Operand) (a b:Wd):Fe prog .neq x y 27 (jN a) (jN b) (!(decide (a.s=b.s) && decide (a.a=b.a))):=
 ⟨[.string a.s,.int .i64 a.a],[.string b.s,.int .i64 b.a],rfl,rfl,fun w=>⟨Nh w x y _ _,VO a.s b.s a.a b.a w⟩⟩
def eqWds:List Wd->List Wd->Bool
 | [],[]=>true
 | x :: r,y :: s=>(decide (x.s=y.s) && decide (x.a=y.a)) && eqWds r s
 | _,_=>false
theorem y4:∀ {a b:List Wd},a.length≠b.length->eqWds a b=false
 | [],[],h=>(h rfl).elim
 | [],_ :: _,_=>rfl
 | _ :: _,[],_=>rfl
 | x :: r,y :: s,h=>by
  simp only [eqWds];rw [y4 (a:=r) (b:=s) (sU h),Bool.and_false]
theorem sR:∀ a b:List Wd,eqWds (iz a) (iz b)=sameWds a b
 | [],[]=>rfl
 | [],_ :: _=>rfl
 | _ :: _,[]=>rfl
 | x :: r,y :: s=>by
  have:=sR r s;simp only [iz,List.map_cons,eqWds,sameWds] at this ⊢;rw [this];simp
abbrev Ni (a b:List Wd) (e:Nat):St:=
 ⟨[(0,⟨[],.sl 2 (bG a) none⟩),(1,⟨[],.sl 2 (bG b) none⟩),(12,⟨[],.v (.int .i64 (bG a).length)⟩),(13,⟨[],.v (.int .i64 e)⟩)],[],[]⟩
theorem CU (a b:List Wd) (hs:a.length<=1099511627776) :
  EvP prog 283 [.sl 2 (bG a) none,.sl 2 (bG b) none] (.v (.bool (eqWds a b))):=by
 refine eG 26 [.tmp 4] func283 rfl ntmps283 rfl fun _ _ _ _=>?_;refine br ?_ ?_<;>intro h
 ·have aT:a.length≠b.length:=by have:=h;simp [aA] at this;omega
  exact congrArg (fun b=>DV.v (.bool b)) (y4 aT).symm
 ·have hl:a.length=b.length:=by have:=h;simp [aA] at this;omega
  refine av (fun j st=>∃ e:Nat,st=Ni a b e/\e<=a.length/\eqWds a b=eqWds (a.drop e) (b.drop e)/\j=a.length - e) a.length
   (Ni a b 0) (weak_mk ⟨_,rfl⟩ wA rfl rfl rfl wB) ⟨0,rfl,by omega,rfl,by omega⟩ ?_
  rintro j st ⟨e,rfl,he,aK,rfl⟩;refine br ?_ ?_<;>intro h
  ·have au:e < a.length:=by simpa [aA] using h
   obtain ⟨x,hx⟩:=gX au;obtain ⟨y,hy⟩:∃ y,b[e]? = some y:=⟨_,gE (hl ▸ au)⟩;rw [drop_cons hx,drop_cons hy] at aK;refine dI ?_;refine ⟨jN x,⟨by omega,aS hx⟩,jN y,⟨by omega,aS hy⟩,_,Rs _ _ x y,?_⟩;refine br ?_ ?_<;>intro h
   ·have aT:(decide (x.s=y.s) && decide (x.a=y.a))=false:=by
     have h:(!(decide (x.s=y.s) && decide (x.a=y.a)))=true:=h
     revert h
     cases (decide (x.s=y.s) && decide (x.a=y.a))<;>decide
    refine (congrArg (fun b=>DV.v (.bool b)) ?_:_=_);rw [aK];simp only [eqWds,aT,Bool.false_and]
   ·have aT:(decide (x.s=y.s) && decide (x.a=y.a))=true:=by
     have h:(!(decide (x.s=y.s) && decide (x.a=y.a)))=false:=h
     revert h
     cases (decide (x.s=y.s) && decide (x.a=y.a))<;>decide
    refine ⟨Ni a b (e + 1),(weak_mk ⟨_,rfl⟩ wA rfl rfl rfl (wB1 (nxt au (by omega)))),a.length - (e + 1),by omega,e + 1,rfl,by omega,?_,rfl⟩;rw [aK];simp only [eqWds,aT,Bool.true_and]
  ·have aN:e=a.length:=by have:=h;simp [aA] at this;omega
   refine (congrArg (fun b=>DV.v (.bool b)) ?_:_=_);rw [aK,aN,hl];simp [eqWds];rw [<- hl];simp [eqWds]
theorem gN (a b:List Wd) (ha:wdsWt a<=1099511627776) (hb:wdsWt b<=1099511627776) :
  EvP prog 270 [.sl 2 (bG a) none,.sl 2 (bG b) none] (.v (.bool (sameWds a b))):=by
 have hl:=bw a;refine eG 10 [.tmp 4] func270 rfl ntmps270 rfl fun _ _ _ _=>?_;refine cP TU (vq a ha) ?_;refine cP TU (vq b hb) ?_;refine cP aae (CU (iz a) (iz b) (by simp [iz];omega)) ?_;refine (congrArg (fun b=>DV.v (.bool b)) ?_:_=_);exact sR a b
def eqPts (F:Ph->Ty->Ph->Ty->Bool):Pts->Pts->Bool
 | .nil,.nil=>true
 | .cons p t r,.cons q u s=>F p t q u && eqPts F r s
 | _,_=>false
theorem y5 {F:Ph->Ty->Ph->Ty->Bool}:∀ {a b:Pts},a.len≠b.len->eqPts F a b=false
 | .nil,.nil,h=>(h rfl).elim
 | .cons p t r,.cons q u s,h=>by
  simp only [eqPts];rw [y5 (a:=r) (b:=s) (by simpa [Pts.len] using h),Bool.and_false]
 | .nil,.cons _ _ _,_=>rfl
 | .cons _ _ _,.nil,_=>rfl
def cQ (p:Ph) (t:Ty) (q:Ph) (u:Ty):Bool:=decide (p.name.s=q.name.s) && bM p q && sameTy t u
theorem vu:∀ a b:Pts,eqPts cQ a b=samePts a b
 | .nil,.nil=>by simp [eqPts,samePts]
 | .cons p t r,.cons q u s=>by simp only [eqPts,samePts,cQ,vu r s]
 | .nil,.cons _ _ _=>by simp [eqPts,samePts]
 | .cons _ _ _,.nil=>by simp [eqPts,samePts]
abbrev Nj (a b:Pts) (g e:Nat):St:=
 ⟨[(1,⟨[],.sl 18 (fA b) none⟩),(2,⟨[],.fn g [] []⟩),(15,⟨[],.sl 18 (fA a) none⟩),(16,⟨[],.v (.int .i64 (fA a).length)⟩),(17,⟨[],.v (.int .i64 e)⟩)],[],[]⟩
theorem CV (g:Nat) (lx:Enters prog g) (F:Ph->Ty->Ph->Ty->Bool) (a b:Pts) (hs:a.wt<=1099511627776)
  (hF:∀ (e:Nat) p t q u,a.toList[e]? = some (p,t)->b.toList[e]? = some (q,u)->EvP prog g [.agg (FF p (dV t)),.agg (FF q (dV u))] (.v (.bool (F p t q u)))) :
  EvP prog 285 [.sl 18 (fA a) none,.sl 18 (fA b) none,.fn g [] []] (.v (.bool (eqPts F a b))):=by
 have QC:=a.fy;refine eG 32 [.tmp 6] func285 rfl ntmps285 rfl fun _ _ _ _=>?_;refine br ?_ ?_<;>intro h
 ·have aT:a.len≠b.len:=by have:=h;simp [aH] at this;omega
  exact congrArg (fun b=>DV.v (.bool b)) (y5 aT).symm
 ·have hl:a.len=b.len:=by have:=h;simp [aH] at this;omega
  refine av (fun j st=>∃ e:Nat,st=Nj a b g e/\e<=a.len/\eqPts F a b=eqPts F (a.drop e) (b.drop e)/\j=a.len - e) a.len
   (Nj a b g 0) (weak_mk ⟨_,rfl⟩ wA rfl rfl rfl wB) ⟨0,rfl,by omega,rfl,by omega⟩ ?_
  rintro j st ⟨e,rfl,he,aK,rfl⟩;refine br ?_ ?_<;>intro h
  ·have au:e < a.len:=by simpa [aH] using h
   obtain ⟨p,t,hx⟩:=Pts.eE au;obtain ⟨q,u,hy⟩:=Pts.eE (hl ▸ au);rw [Pts.drop_cons hx,Pts.drop_cons hy] at aK;have U0:=hF e p t q u hx hy;obtain ⟨t,ts⟩:=t;obtain ⟨u,us⟩:=u;refine iX (bQ hx) ?_;refine iX (bQ hy) ?_;refine cP lx U0 ?_;refine br ?_ ?_<;>intro h
   ·have aT:F p (.mk t ts) q (.mk u us)=false:=sU h;refine (congrArg (fun b=>DV.v (.bool b)) ?_:_=_);rw [aK];simp only [eqPts,aT,Bool.false_and]
   ·have aT:F p (.mk t ts) q (.mk u us)=true:=sU h;refine ⟨Nj a b g (e + 1),(weak_mk ⟨_,rfl⟩ wA rfl rfl rfl (wB1 (nxt au (by omega)))),a.len - (e + 1),by omega,e + 1,rfl,by omega,?_,rfl⟩;rw [aK];simp only [eqPts,aT,Bool.true_and]
  ·have aN:e=a.len:=by have:=h;simp [aH] at this;omega
   refine (congrArg (fun b=>DV.v (.bool b)) ?_:_=_);rw [aK,aN,Pts.cX,hl,Pts.cX];simp [eqPts]
theorem mP (p q:Ph) (t u:Ty) (hp:p.wt<=1099511627776) (hq:q.wt<=1099511627776)
  (ht:EvP prog 271 [.agg (dV t),.agg (dV u)] (.v (.bool (sameTy t u)))) :
  EvP prog 249 [.agg (FF p (dV t)),.agg (FF q (dV u))] (.v (.bool (cQ p t q u))):=by
 simp only [Ph.wt] at hp hq;obtain ⟨th,tps⟩:=t;obtain ⟨uh,ups⟩:=u;refine eG 71 [.tmp 4] func249 rfl ntmps249 rfl fun _ _ _ _=>?_
 have e0:cQ p (.mk th tps) q (.mk uh ups)=(((decide (p.name.s=q.name.s) && (p.bare == q.bare)) && decide (p.wide=q.wide)) && sameWds p.label q.label && ((decide (p.ck=q.ck) && decide (p.cn=q.cn)) && sameWds p.cl q.cl) && sameTy (.mk th tps) (.mk uh ups)):=by
  simp only [cQ,bM,Bool.and_assoc]
 rw [e0];refine br ?_ ?_<;>intro hA
 ·simp only [pickB_and] at hA;refine cP Iv (gN p.label q.label (by omega) (by omega)) ?_;refine br ?_ ?_<;>intro hB
  ·simp only [pickB_and] at hB;refine cP Iv (gN p.cl q.cl (by omega) (by omega)) ?_;refine br ?_ ?_<;>intro hC
   ·refine cP Z8 ht ?_;refine (congrArg (fun b=>DV.v (.bool b)) ?_:_=_);simp only [pickB_and,Bool.true_and,Bool.and_true] at hC ⊢
    simp_all
   ·refine (congrArg (fun b=>DV.v (.bool b)) ?_:_=_);simp only [pickB_and,Bool.true_and,Bool.and_true] at hC ⊢
    simp_all
  ·simp only [pickB_and] at hB;refine br ?_ ?_<;>intro hC
   ·exfalso;simp [pickB_and] at hC
   ·refine (congrArg (fun b=>DV.v (.bool b)) ?_:_=_)
    simp_all
 ·simp only [pickB_and,beq_true] at hA;refine br ?_ ?_<;>intro hB
  ·refine cP Iv (gN p.cl q.cl (by omega) (by omega)) ?_;refine (congrArg (fun b=>DV.v (.bool b)) ?_:_=_);rw [hA];rfl
  ·refine (congrArg (fun b=>DV.v (.bool b)) ?_:_=_);rw [hA];rfl
theorem y6:∀ (n:Nat) (a b:Ty),a.wt<=n->a.wt<=1099511627776->b.wt<=1099511627776 ->
  EvP prog 271 [.agg (dV a),.agg (dV b)] (.v (.bool (sameTy a b)))
 | 0,a,b,hn,_,_=>by have:=a.dh;omega
 | n + 1,.mk h ps,.mk k qs,hn,cr,aau=>by
  have ih:=y6 n;simp only [Ty.wt,Hd.wt] at hn cr aau
  have hE:EvP prog 285 [.sl 18 (fA ps) none,.sl 18 (fA qs) none,.fn 249 [] []] (.v (.bool (samePts ps qs))):=by
   rw [<- vu];refine CV 249 MY cQ ps qs (by omega) fun e p t q u hx hy=>?_;have hw1:=Pts.gj (mG hx);have kv:=Pts.gj (mG hy);exact mP p q t u (by omega) (by omega) (ih t u (by omega) (by omega) (by omega))
  refine eG 53 [.tmp 4] func271 rfl ntmps271 rfl fun _ _ _ _=>?_;refine br ?_ ?_<;>intro hA
  ·simp [ap] at hA;obtain ⟨⟨⟨⟨e1,e2⟩,e3⟩,e4⟩,e5⟩:=hA;refine cP Iv (gN h.af k.af (by omega) (by omega)) ?_;refine br ?_ ?_<;>intro hB
   ·refine (congrArg (fun b=>DV.v (.bool b)) ?_:_=_);simp [ap,e1,e2,e3,e4,e5] at hB;simp [sameTy,kB,hB]
   ·simp [ap,e1,e2,e3,e4,e5] at hB;refine cP aaf hE ?_;refine (congrArg (fun b=>DV.v (.bool b)) ?_:_=_);simp [sameTy,kB,e1,e2,e3,e4,e5,hB]
  ·refine (congrArg (fun b=>DV.v (.bool b)) ?_:_=_);simp [ap] at hA;simp only [sameTy,kB]
   grind
theorem vv (a b:Ty) (ha:a.wt<=1099511627776) (hb:b.wt<=1099511627776):EvP prog 271 [.agg (dV a),.agg (dV b)] (.v (.bool (sameTy a b))):=y6 _ a b (Nat.le_refl _) ha hb
def vw (h:Hd) (ps:Pts):Bool:=
 (((((decide (h.ag=2) || (decide (h.lo=0) && decide (h.hi=0))) && ((decide (h.ag=3) || decide (h.ag=5)) || decide (h.most=0))) && (decide (ps.len=0) || (decide (5<=h.ag) && decide (h.ag<=8)))) &&
  (decide (h.af.length=0) || decide (h.ag=4))) && (decide (h.name.s=aq) || decide (h.ag=9)))
theorem Kb (h:Hd) (ps:Pts):EvP prog 185 [.agg (dV (.mk h ps))] (.v (.bool (vw h ps))):=by
 have l1:(((fA ps).length:Int)=0)=(ps.len=0):=by rw [aH];exact propext (by omega)
 have l2:(((bG h.af).length:Int)=0)=(h.af.length=0):=by rw [aA];exact propext (by omega)
 have he:(⟨#[]⟩:ByteArray)=aq:=rfl;refine eG 67 [.tmp 2] func185 rfl ntmps185 rfl fun _ _ _ _=>?_;refine br ?_ ?_<;>intro k2
 ·have k2:h.ag=2:=of_decide_eq_true k2;refine (congrArg (fun b=>DV.v (.bool b)) ?_:_=_);rw [Bool.eq_iff_iff];simp [pickB_and,ap,vw,aH,aA,k2,he]
 have k2:¬ h.ag=2:=of_decide_eq_false k2;refine br ?_ ?_<;>intro k3
 ·have k3:h.ag=3:=of_decide_eq_true k3;refine br (fun _=>?_) (fun hf=>?_)
  ·refine (congrArg (fun b=>DV.v (.bool b)) ?_:_=_);rw [Bool.eq_iff_iff];simp [pickB_and,ap,vw,aH,aA,k3,he]
  ·exact absurd k3 (of_decide_eq_false hf)
 have k3:¬ h.ag=3:=of_decide_eq_false k3;refine br ?_ ?_<;>intro k5
 ·have k5:h.ag=5:=of_decide_eq_true k5;refine (congrArg (fun b=>DV.v (.bool b)) ?_:_=_);rw [Bool.eq_iff_iff];simp [pickB_and,ap,vw,aH,aA,k5,he]
 have k5:¬ h.ag=5:=of_decide_eq_false k5;refine (congrArg (fun b=>DV.v (.bool b)) ?_:_=_);rw [Bool.eq_iff_iff];simp [pickB_and,ap,vw,aH,aA,k2,k3,k5,he]
theorem AR:∀ ps:Pts,samePts ps ps=true:=by
 have wr:∀ l:List Wd,sameWds l l=true:=by
  intro l
  induction l with
  | nil=>rfl
  | cons x r ih=>simp [sameWds,ih]
 have key:∀ n,(∀ t:Ty,t.wt<=n->sameTy t t=true)/\(∀ ps:Pts,ps.wt<=n->samePts ps ps=true):=by
  intro n
  induction n using Nat.strongRecOn with
  | _ n ih=>
   have hp:∀ ps:Pts,ps.wt<=n->(∀ t:Ty,t.wt + 256<=n->sameTy t t=true)->samePts ps ps=true:=by
    intro ps
    induction ps using Pts.rec (motive_1:=fun _=>True) with
    | mk=>trivial
    | nil=>intros;simp [samePts]
    | cons p t r _ ihr=>
     intro hw ht;simp only [Pts.wt,Ph.wt] at hw;simp only [samePts];rw [ht t (by omega),ihr (by omega) ht];simp [bM,wr]
   refine ⟨fun t ht=>?_,fun ps hps=>?_⟩
   ·obtain ⟨h,ps⟩:=t;simp only [Ty.wt,Hd.wt] at ht;simp only [sameTy,kB];rw [(ih ps.wt (by omega)).2 ps (Nat.le_refl _),wr];simp
   ·exact hp ps hps fun t ht=>(ih t.wt (by omega)).1 t (Nat.le_refl _)
 exact fun ps=>(key ps.wt).2 ps (Nat.le_refl _)
theorem IA (h:Hd) (ps:Pts):vw h ps=sameTy (.mk h ps) (mask (.mk h ps)):=by
 have wr:∀ l:List Wd,sameWds l l=true:=by
  intro l
  induction l with
  | nil=>rfl
  | cons x r ih=>simp [sameWds,ih]
 have wn:∀ l:List Wd,sameWds l []=decide (l.length=0):=by
  intro l;cases l<;>simp [sameWds]
 have pn:∀ l:Pts,samePts l .nil=decide (l.len=0):=by
  intro l;cases l<;>simp [samePts,Pts.len]
 have pr:=AR ps;simp only [mask,sameTy,kB,ja]
 have e5:samePts ps (if 4 < h.ag/\h.ag < 9 then ps else .nil)=(decide (ps.len=0) || (decide (5<=h.ag) && decide (h.ag<=8))):=by
  split
  ·rename_i hc;rw [pr,decide_eq_true (by omega:5<=h.ag),decide_eq_true (by omega:h.ag<=8)];simp
  ·rename_i hc;rw [pn,Bool.eq_iff_iff];simp;omega
 have e6:sameWds h.af (if h.ag=4 then h.af else [])=(decide (h.af.length=0) || decide (h.ag=4)):=by
  split
  ·rename_i hc;rw [wr];simp [hc]
  ·rename_i hc;rw [wn];simp [hc]
 rw [e5,e6];unfold vw;by_cases k2:h.ag=2
 ·rw [Bool.eq_iff_iff];simp [k2];grind
 ·by_cases k3:h.ag=3∨h.ag=5
  ·by_cases k9:h.ag=9
   ·omega
   ·rw [Bool.eq_iff_iff];simp [k2,k3,k9];grind
  ·by_cases k9:h.ag=9
   ·rw [Bool.eq_iff_iff];simp [k9];grind
   ·rw [Bool.eq_iff_iff];simp [k2,k3,k9];grind
theorem CW (p:Ph) (t:Ty) (hp:p.wt<=1099511627776):EvP prog 231 [.agg (FF p (dV t))] (.v (.bool (cQ p bW eT bW))):=by
 obtain ⟨th,tps⟩:=t;refine eG 8 [.tmp 2] func231 rfl ntmps231 rfl fun _ _ _ _=>?_;refine cP MY (mP p eT bW bW hp (by decide) (vv bW bW (by decide) (by decide))) ?_;exact (rfl:_=_)
def ay (l:List Wd):List ByteArray:=l.map fun w=>w.s
noncomputable def enumP (l:List Wd):Nat->Ft
 | 0=>(0,0)
 | e + 1=>
  if (enumP l e).1≠0 then enumP l e
  else match l[e]? with
   | some w=>gM (ay (l.take (e + 1))) w.s w.a
   | none=>(0,0)
theorem oV {l:List Wd} {e:Nat} (h:(enumP l e).1≠0):∀ d,enumP l (e + d)=enumP l e
 | 0=>rfl
 | d + 1=>by
  have ih:=oV h d;rw [<- Nat.add_assoc,enumP,ih,if_pos h]
theorem AS {L:List ByteArray} {x:ByteArray} {a:Int} (h:(gM L x a).1=0):gM L x a=(0,0):=by
 unfold gM at *;split
 ·rename_i h1;rw [if_pos h1] at h;split
  ·rfl
  ·rename_i h2;rw [if_neg h2] at h;simp at h
 ·rename_i h1;rw [if_neg h1] at h;simp at h
theorem FO {l:List Wd}:∀ {e:Nat},(enumP l e).1=0->enumP l e=(0,0)
 | 0,_=>rfl
 | e + 1,h=>by
  rw [enumP] at h ⊢;split
  ·rename_i h1;rw [if_pos h1] at h;exact absurd h h1
  ·rename_i h1;rw [if_neg h1] at h;split
   ·rename_i w hw;rw [hw] at h;exact AS h
   ·rfl
theorem vx {l:List Wd} {e:Nat} {w:Wd} (h:(enumP l e).1=0) (hw:l[e]? = some w):enumP l (e + 1)=gM (ay (l.take (e + 1))) w.s w.a:=by
 rw [enumP,if_neg (by rw [h];simp),hw]
noncomputable def mQ (h:Hd):Ft:=
 if h.af.length=0 then (15,h.aD) else if 64 < h.af.length then (8,((h.af[64]?).getD (⟨aq,0⟩:Wd)).a) else enumP h.af h.af.length
abbrev FP (h:Hd) (ps:Pts) (n e:Nat):St:=
 ⟨[(1,⟨[],.loc 0 0⟩),(2,⟨[],.loc 1 0⟩),(27,⟨[],.sl 2 (bG h.af) none⟩),(28,⟨[],.v (.int .i64 (bG h.af).length)⟩),(29,⟨[],.v (.int .i64 e)⟩),(3,⟨[],.sl 1 (dM (ay (h.af.take e))) (some 0)⟩)],
  [dV (.mk h ps),[.v (.int .i64 0),.v (.int .i64 0)]],[⟨n,9,1,none⟩]⟩
theorem jw {l:List Wd} {e:Nat} {w:Wd} (h:l[e]? = some w):dM (ay (l.take e)) ++ [[DV.v (.string w.s)]]=dM (ay (l.take (e + 1))):=by
 rw [List.take_add_one,h];simp [dM,ay]
theorem FQ (h:Hd) (ps:Pts) (hs:wdsWt h.af<=1099511627776):EvP prog 186 [.agg (dV (.mk h ps))] (mQ h).d:=by
 have hl:=bw h.af;refine eG 48 [.cell 2 41] func186 rfl ntmps186 rfl fun _ _ _ _=>?_;refine br ?_ ?_<;>intro h0
 ·have h0:h.af.length=0:=by have:=h0;simp [aA] at this;simp [this]
  refine cP dZ (bA 15 h.aD) ?_;refine ⟨_,?_,rfl⟩;rw [mQ,if_pos h0];exact ax
 have h0:¬ h.af.length=0:=by have:=h0;simp [aA] at this;simpa using this
 refine br ?_ ?_<;>intro h1
 ·have h1:64 < h.af.length:=by have:=h1;simp [aA] at this;omega
  obtain ⟨x,hx⟩:∃ x,h.af[64]? = some x:=⟨_,gE h1⟩;refine ⟨jN x,⟨by omega,aS hx⟩,?_⟩;refine cP dZ (bA 8 x.a) ?_;refine ⟨_,?_,rfl⟩;rw [mQ,if_neg h0,if_pos h1,hx];exact ax
 have h1:¬ 64 < h.af.length:=by have:=h1;simp [aA] at this;omega
 have hk:mQ h=enumP h.af h.af.length:=by rw [mQ,if_neg h0,if_neg h1]
 rw [hk];refine lI (fun j st=>∃ e:Nat,st=FP h ps e e/\e<=h.af.length/\(enumP h.af e).1=0/\j=h.af.length - e) ⟨0,rfl,by omega,rfl,rfl⟩ (dX ⟨0,9,1,none⟩ rfl ⟨_,rfl⟩ rfl wA rfl rfl wB0) ?_;rintro j st ⟨e,rfl,he,hz,rfl⟩;refine br ?_ ?_<;>intro hL
 ·have au:e < h.af.length:=by simpa [aA] using hL
  obtain ⟨w,hw⟩:=gX au;have T6:=iu (mG hw);have CX:=vx hz hw
  have Nk:(ay (h.af.take (e + 1)))[(ay (h.af.take (e + 1))).length - 1]? = some w.s:=by
   have yb:(ay (h.af.take (e + 1))).length=e + 1:=by simp [ay];omega
   rw [yb];simp [ay,hw]
  refine ⟨jN w,⟨by omega,aS hw⟩,?_⟩;refine ⟨by simp [cg,ay];omega,⟨by simp [cg,ay,maxLen];omega,by simp [cg,ay];omega⟩,?_⟩;have fu:=jw hw;have UU:=sQ (ay (h.af.take (e + 1))) w.s w.a Nk (by simp [ay];omega) (by omega);rw [<- fu,<- CX] at UU;refine cP TN UU ?_;refine br ?_ ?_<;>intro hf
  ·have hf:(enumP h.af (e + 1)).1≠0:=sU hf;refine ⟨_,?_,rfl⟩;have aU:=oV hf (h.af.length - (e + 1));rw [show e + 1 + (h.af.length - (e + 1))=h.af.length by omega] at aU;rw [aU];exact ax
  ·have hf:(enumP h.af (e + 1)).1=0:=sU hf;refine ⟨FP h ps (e + 1) (e + 1),(weak_mk ⟨_,rfl⟩ wA rfl rfl rfl (dm (nxt au (by omega)) fu)),h.af.length - (e + 1),by omega,e + 1,rfl,by omega,hf,rfl⟩
 ·have aN:e=h.af.length:=by
   have:=hL;simp [aA] at this;omega
  subst aN;have aU:=FO hz;refine ⟨_,?_,rfl⟩;rw [aU];exact ax
def aaw (t:Ty) (depth m:Int) (r:DV) (os:List (List DV)) (_:List TkE):Prop:=
 r=(wrong t depth m).1.d/\∃ z:Int,os=[[.v (.int .i64 z)]]/\((wrong t depth m).1.1=0->z=(wrong t depth m).2)
theorem VP {t:Ty} {depth m:Int}:∀ r os tk,aaw t depth m r os tk->clB 0 0 r=true/\∀ rF∈os,clB.clL 0 0 rF=true:=by
 rintro r os tk ⟨rfl,z,rfl,_⟩;refine ⟨rfl,fun rF h=>?_⟩;simp only [List.mem_singleton] at h;subst h;rfl
theorem Kc (t:Ty) (hc:Ev prog 137 [.loc 0 0,.agg (dV t),.v (.int .i64 1)] [[.v (.int .i64 0)]] [] (aaw t 1 0)) :
  EvP prog 76 [.agg (dV t)] (wrong t 1 0).1.d:=by
 obtain ⟨h,ps⟩:=t;refine eG 9 [.cell 2 41] func76 rfl ntmps76 rfl fun _ _ _ _=>?_;refine lM MP rfl rfl ax ax hc VP (fun r rF hr=>?_);obtain ⟨rfl,z,hz,_⟩:=hr;simp only [List.cons.injEq,and_true] at hz;subst hz;exact ⟨_,ax,rfl⟩
def kC (n:Nat):List UInt8:=if n < 10 then [UInt8.ofNat (48 + n)] else kC (n / 10) ++ [UInt8.ofNat (48 + n % 10)]
termination_by n
decreasing_by omega
theorem ui {n:Nat} (h:n < 10):kC n=[UInt8.ofNat (48 + n)]:=by rw [kC,if_pos h]
theorem AU {n:Nat} (h:¬ n < 10):kC n=kC (n / 10) ++ [UInt8.ofNat (48 + n % 10)]:=by rw [kC,if_neg h]
theorem CY:∀ (k n:Nat),n < 10 ^ (k + 1)->(kC n).length<=k + 1
 | 0,n,h=>by
  have:n < 10:=sU h;rw [ui this];simp
 | k + 1,n,h=>by
  by_cases hn:n < 10
  ·rw [ui hn];simp
  ·rw [AU hn]
   have h2:n / 10 < 10 ^ (k + 1):=by
    rw [Nat.div_lt_iff_lt_mul (by decide)];rw [Nat.pow_succ] at h;exact h
   have:=CY k (n / 10) h2;simp only [List.length_append,List.length_cons,List.length_nil];omega
theorem digs_20 {n:Nat} (h:n<=18446744073709551616):(kC n).length<=20:=CY 19 n (by omega)
def gO (z:Int):List UInt8:=if z < 0 then 45 :: kC z.natAbs else kC z.natAbs
def Kd (z:Int):ByteArray:=⟨(gO z).toArray⟩
theorem vy {z:Int} (h1 : -9223372036854775808<=z) (h2:z<=9223372036854775807):(gO z).length<=21:=by
 have:=digs_20 (n:=z.natAbs) (by omega);unfold gO;split
 ·simp only [List.length_cons];omega
 ·omega
theorem Ke {z:Int} (h1 : -9223372036854775808<=z) (h2:z<=9223372036854775807):(Kd z).size<=21:=vy h1 h2
theorem lQ (a b:List UInt8):(⟨a.toArray⟩:ByteArray) ++ ⟨b.toArray⟩=⟨(a ++ b).toArray⟩:=by
 apply ByteArray.ext;simp
theorem wr (z:Int) (h1 : -9223372036854775808<=z) (h2:z<=9223372036854775807):IntKind.i64.wrap z=z:=by
 rw [IntKind.wrap_i64];omega
theorem Rt {z:Int} (h:0<=z):gO z=kC z.toNat:=by
 unfold gO;rw [if_neg (by omega)];congr 1;omega
theorem Nl {z:Int} (h:z < 0):gO z=45 :: kC z.natAbs:=by unfold gO;rw [if_pos h]
theorem qf:∀ bs:List UInt8,u8L bs=bs.map fun b=>DV.v (.int .u8 (b.toNat:Int))
 | []=>rfl
 | b :: r=>by simp [u8L,qf r]
theorem AV (bs:List UInt8):(u8L bs).length=bs.length:=by simp [qf]
theorem IB (a b:List UInt8):u8L (a ++ b)=u8L a ++ u8L b:=by simp [qf]
theorem Nn (n:Nat) (a:List UInt8):u8L (a.take n)=(u8L a).take n:=by simp [qf,List.map_take]
theorem CZ (n:Nat) (a:List UInt8):u8L (a.drop n)=(u8L a).drop n:=by simp [qf,List.map_drop]
theorem IC {n m:Nat} {tk:List TkE}:∀ bs:List UInt8,WeL n m tk (u8L bs) (u8L bs)
 | []=>rfl
 | b :: r=>⟨_,_,rfl,ah rfl,IC r⟩
theorem rJ {n m:Nat} {tk:List TkE} {l:List DV} {bs:List UInt8} (h:l=u8L bs):WeL n m tk l (u8L bs):=by rw [h];exact IC bs
theorem Np (n:Nat):0 < (kC n).length:=by
 rw [kC];split<;>simp
abbrev C0 (m:Bool) (u a:Nat) (bs:List UInt8):St:=⟨[(3,⟨[],.v (.bool m)⟩),(4,⟨[],.v (.int .u64 u)⟩),(5,⟨[],.loc 0 0⟩),(6,⟨[],.v (.int .i64 a)⟩)],[u8L bs],[]⟩
def VQ (m:Bool) (N j:Nat) (st:St):Prop:=∃ (u a:Nat) (bs:List UInt8),st=C0 m u a bs/\bs.length=20/\a<=20/\u < 18446744073709551616 /\
 ((a < 20/\u=0/\kC N=bs.drop a)∨((a=20∨0 < u)/\kC N=kC u ++ bs.drop a))/\j=a
theorem putI_0 (m:Bool) (N:Nat) (h:N < 18446744073709551616):VQ m N 20 (C0 m N 20 (List.replicate 20 0)):=
 ⟨N,20,_,rfl,by simp,Nat.le_refl _,h,.inr ⟨.inl rfl,by simp⟩,rfl⟩
theorem C1 (z:Int) (h1 : -9223372036854775808<=z) (h2:z<=9223372036854775807):EvP prog 199 [.v (.int .i64 z)] (.v (.string (Kd z))):=by
 have hN:z.natAbs<=9223372036854775808:=by omega
 refine eG 38 [.tmp 2] func199 rfl ntmps199 rfl fun _ _ _ _=>?_;refine br ?_ ?_<;>intro h
 case' refine_1=>
  have hz:z < 0:=sU h
  have hu:IntKind.u64.wrap (0 - IntKind.u64.wrap z)=(z.natAbs:Int):=by
   simp only [IntKind.wrap_u64];omega
  refine av (VQ (decide (z < 0)) z.natAbs) 20 (C0 (decide (z < 0)) z.natAbs 20 (List.replicate 20 0)) (weak_mk ⟨_,rfl⟩ (by repeat' (first | exact rfl | exact ah rfl | exact rJ rfl | refine ⟨_,_,rfl,?_,?_⟩)) rfl rfl rfl (by repeat' (first | exact trivial | exact ah rfl | exact ai hu | exact rJ rfl | refine ⟨⟨_,rfl,?_⟩,?_⟩))) (putI_0 _ _ (by omega)) ?_
 case' refine_2=>
  have hz:¬ z < 0:=sU h
  have hu:IntKind.u64.wrap z=(z.natAbs:Int):=by
   simp only [IntKind.wrap_u64];omega
  refine av (VQ (decide (z < 0)) z.natAbs) 20 (C0 (decide (z < 0)) z.natAbs 20 (List.replicate 20 0)) (weak_mk ⟨_,rfl⟩ (by repeat' (first | exact rfl | exact ah rfl | exact rJ rfl | refine ⟨_,_,rfl,?_,?_⟩)) rfl rfl rfl (by repeat' (first | exact trivial | exact ah rfl | exact ai hu | exact rJ rfl | refine ⟨⟨_,rfl,?_⟩,?_⟩))) (putI_0 _ _ (by omega)) ?_
 all_goals
  clear hu hz h;rintro a st ⟨u,j,bs,rfl,hbl,ha,hu64,hinv,rfl⟩;refine br ?_ ?_<;>intro h
  ·have hc:a=20∨0 < u:=by
    simp [ap] at h;omega
   have hd:kC z.natAbs=kC u ++ bs.drop a:=by
    rcases hinv with ⟨h3,h4,_⟩ | ⟨_,h3⟩
    ·omega
    ·exact h3
   have hp:0 < a:=by
    have e1:=congrArg List.length hd;have e2:=Np u;have e3:=digs_20 (n:=z.natAbs) (by omega);simp only [List.length_append,List.length_drop,hbl] at e1;omega
   have VR:IntKind.i64.wrap ((a:Int) - 1)=((a - 1:Nat):Int):=by rw [wr _ (by omega) (by omega)];omega
   have hb:IntKind.u8.wrap (48 + IntKind.u8.wrap ((u:Int).tmod 10))=((UInt8.ofNat (48 + u % 10)).toNat:Int):=by
    rw [Int.tmod_eq_emod_of_nonneg (by omega),UInt8.toNat_ofNat',IntKind.wrap_u8',IntKind.wrap_u8'];omega
   have hq:IntKind.u64.wrap ((u:Int).tdiv 10)=((u / 10:Nat):Int):=by
    rw [Int.tdiv_eq_ediv_of_nonneg (by omega),IntKind.wrap_u64];omega
   refine ⟨⟨rfl,by decide⟩,?_⟩;refine ⟨⟨by rw [VR];omega,by rw [VR];omega⟩,?_⟩;have tE:0 + (IntKind.i64.wrap ((a:Int) - 1)).toNat * 1=a - 1:=by rw [VR];omega
   refine ⟨by rw [tE,AV,hbl];omega,?_⟩;refine ⟨⟨rfl,by decide⟩,?_⟩
   have cG:(u8L bs).set (0 + (IntKind.i64.wrap ((a:Int) - 1)).toNat * 1) (DV.v (.int .u8 (IntKind.u8.wrap (48 + IntKind.u8.wrap ((u:Int).tmod 10)))))=u8L (bs.take (a - 1) ++ [UInt8.ofNat (48 + u % 10)] ++ bs.drop a):=by
    rw [tE,hb,List.set_eq_take_append_cons_drop,if_pos (by rw [AV,hbl];omega),IB,IB,Nn,CZ,show a - 1 + 1=a by omega];simp [u8L]
   refine ⟨C0 (decide (z < 0)) (u / 10) (a - 1) (bs.take (a - 1) ++ [UInt8.ofNat (48 + u % 10)] ++ bs.drop a),(az 1 rfl (by repeat' (first | exact rfl | exact ah rfl | exact rJ cG | exact ai VR | exact ai hq | refine ⟨_,_,rfl,?_,?_⟩)) rfl rfl rfl (by repeat' (first | exact trivial | exact ah rfl | exact rJ cG | exact ai VR | exact ai hq | refine ⟨⟨_,rfl,?_⟩,?_⟩))),a - 1,by omega,u / 10,a - 1,_,rfl,by simp;omega,by omega,by omega,?_,rfl⟩
   have aax:(bs.take (a - 1) ++ [UInt8.ofNat (48 + u % 10)] ++ bs.drop a).drop (a - 1)=UInt8.ofNat (48 + u % 10) :: bs.drop a:=by
    rw [List.append_assoc,List.drop_append_of_le_length (by simp;omega),List.drop_eq_nil_of_le (by simp;omega)];rfl
   rw [aax,hd];by_cases ru:u < 10
   ·refine .inl ⟨by omega,by omega,?_⟩;rw [ui ru,Nat.mod_eq_of_lt ru];all_goals rfl
   ·refine .inr ⟨.inr (by omega),?_⟩;rw [AU ru,List.append_assoc];all_goals rfl
  ·have hc:a≠20/\u=0:=by
    simp [ap] at h;omega
   have hd:kC z.natAbs=bs.drop a:=by
    rcases hinv with ⟨_,_,h3⟩ | ⟨h3,_⟩
    ·exact h3
    ·omega
   have hdu:((u8L bs).drop (0 + (a:Int).toNat * 1)).take (((20:Nat):Int).toNat - (a:Int).toNat)=u8L (bs.drop a):=by
    rw [CZ,show 0 + (a:Int).toNat * 1=a by omega];exact List.take_of_length_le (by simp [AV,hbl])
   have hl:(bs.drop a).length=((20:Nat):Int).toNat - (a:Int).toNat:=by simp [hbl]
   refine br ?_ ?_<;>intro hz
   ·have hz:z < 0:=sU hz;refine ⟨⟨by omega,by omega,by omega⟩,?_⟩;refine ⟨bs.drop a,hdu,hl,?_⟩;refine ⟨by show 1 + (bs.drop a).length<=_;rw [hl];omega,?_⟩;refine (congrArg (fun s=>DV.v (.string s)) ?_:_=_);rw [<- hd,Kd,Nl hz];exact lQ [45] _
   ·have hz:¬ z < 0:=sU hz;refine ⟨⟨by omega,by omega,by omega⟩,?_⟩;refine ⟨bs.drop a,hdu,hl,?_⟩;refine (congrArg (fun s=>DV.v (.string s)) ?_:_=_);rw [<- hd,Kd,Rt (by omega),show z.toNat=z.natAbs by omega]
abbrev ba (l:List UInt8):ByteArray:=⟨l.toArray⟩
def tx (s:ByteArray):List UInt8:=s.data.toList
theorem lR {s:ByteArray} {l:List UInt8} (h:tx s=l):s=ba l:=by
 subst h;apply ByteArray.ext;simp [tx]
theorem vz (s t:ByteArray):tx (s ++ t)=tx s ++ tx t:=by simp [tx]
theorem mR (l:List UInt8):tx (ba l)=l:=by simp [tx]
theorem y7 (s:ByteArray):ba (tx s)=s:=(lR rfl).symm
theorem Ru (z:Int):tx (Kd z)=gO z:=by simp [tx,Kd]
theorem bB (s:ByteArray):(tx s).length=s.size:=by simp [tx]
theorem jb (s t:ByteArray):(s ++ t).size=s.size + t.size:=by simp
theorem sS (l:List UInt8):(ba l).size=l.length:=rfl
def rK (z:Int):Prop:=-9223372036854775808<=z/\z<=9223372036854775807
theorem Nq {n m:Nat} {bU:List TkE} {x y:ByteArray} (h:x=y):We n m bU (.v (.string x)) (.v (.string y)):=.inl ⟨by rw [h],rfl⟩
end Go.Proofs.YtffhgcbfpidfiaaGreat
set_option maxRecDepth 100000
namespace Go.Proofs
open Go.Shelf
end Go.Proofs
namespace Go.Proofs.YtffhgcbfpidfiaaGreat
open Go Go.RowKit Dv Go.Proofs.Tryz
theorem Kf {P:Program} {f:FuncId} {args:List DV} {d:DV}
  (h:∀ (E:En) (w:World) (vs:List Value),Env E [] w->RvL E args vs->Calls P f vs.toArray w fun e w'=>∃ v,e = .returned v/\Rv E d v/\Below w.heap.size w w'):EvP P f args d:=by
 intro E w vs hE iZ hv;refine (h E w vs hE hv).mono ?_;rintro e w' ⟨v,rfl,hr,hb⟩;exact ⟨v,rfl,⟨hb.os,hb.tape,hb.output,hb.size,fun k hk _=>hb.block k hk⟩,fun hf=>(by cases hf),d,[],E,hE.ku hb.block,rfl,rfl,Nw.refl hE,hr,rfl⟩
def mc (l:List (List UInt8)):List (List DV):=l.map fun x=>[.v (.string (ba x))]
theorem Kg (l:List (List UInt8)):(mc l).length=l.length:=by simp [mc]
end Go.Proofs.YtffhgcbfpidfiaaGreat
set_option maxRecDepth 100000
namespace Go.Proofs.YtffhgcbfpidfiaaGreat
open Go Go.RowKit Dv Go.Proofs.Tryz
mutual
def rngT:Ty->Prop
 | .mk h ps=>rK h.lo/\rK h.hi/\rK h.most/\rngP ps
def rngP:Pts->Prop
 | .nil=>True
 | .cons p t r=>rK p.wide/\rK p.cn/\rngT t/\rngP r
end
end Go.Proofs.YtffhgcbfpidfiaaGreat
namespace Go.Proofs.YtffhgcbfpidfiaaGreat
namespace Dv
open Go Go.RowKit
def TypFs (f:TypeId->List DV->Prop):List TypeId->List DV->Prop
 | [],ds=>ds=[]
 | t :: r,ds=>∃ a b,ds=a ++ b/\f t a/\TypFs f r b
def Typ (P:Program):Nat->TypeId->List DV->Prop
 | 0,_,_=>False
 | n + 1,t,ds=>
  match P.underlying t with
  | some .bool=>∃ b,ds=[.v (.bool b)]
  | some (.int k)=>∃ z,ds=[.v (.int k z)]/\(Lit.int k z).wf=true
  | some .string=>∃ s:ByteArray,ds=[.v (.string s)]
  | some (.slice e)=>∃ es,ds=[.sl (P.cellsOf e) es none]/\∀ cs∈es,Typ P n e cs
  | some (.struct fs)=>TypFs (Typ P n) (fs.toList.map (·.type)) ds
  | _=>False
mutual
def wgD:DV->Nat
 | .v (.string s)=>s.size + 64
 | .sl _ es _=>64 + wgEs es
 | _=>64
def wgL:List DV->Nat
 | []=>0
 | d :: r=>wgD d + wgL r
def wgEs:List (List DV)->Nat
 | []=>0
 | cs :: r=>wgL cs + wgEs r
end
theorem fk:∀ a b:List DV,wgL (a ++ b)=wgL a + wgL b
 | [],b=>by simp [wgL]
 | d :: r,b=>by simp only [List.cons_append,wgL,fk r b];omega
def laidF (P:Program) (S:List TypeId):Nat->List Field->Nat->Bool
 | off,[],n=>decide (off=n)
 | off,f :: r,n=>decide (f.offset=off) && S.contains f.type && laidF P S (off + P.cellsOf f.type) r n
def mS (P:Program) (S:List TypeId) (t:TypeId):Bool:=
 match P.underlying t with
 | some .bool=>decide (P.cellsOf t=1)
 | some (.int _)=>decide (P.cellsOf t=1)
 | some .string=>decide (P.cellsOf t=1)
 | some (.slice e)=>decide (P.cellsOf t=1) && S.contains e && decide (0 < P.cellsOf e)
 | some (.struct fs)=>laidF P S 0 fs.toList (P.cellsOf t)
 | _=>false
def bkS {H:Type} (bk:DataW H->Nat):List (DataW H)->Nat
 | []=>0
 | d :: r=>bk d + bkS bk r
structure Bk {H:Type} (bk:DataW H->Nat):Prop where
 str:∀ l:List UInt8,l.length + 1<=bk (.lit (.string l))
 lit:∀ l,1<=bk (.lit l)
 nil:1<=bk .nil
 slice:∀ es sp,1 + bkS bk es<=bk (.slice es sp)
 agg:∀ l,bkS bk l<=bk (.agg l)
def E6 (w:World):En:=⟨fun a=>w.cell? a,[],[],[]⟩
theorem Rw (w:World):Env (E6 w) [] w where
 len:=rfl
 tl:=rfl
 ek:=by simp
 inj:=List.nodup_nil
 sub:=fun x u hx=>hx
 pc:=by simp [E6]
 ct:=by simp [E6]
 iW:=by simp [E6]
theorem Kh {w:World} {a:Addr} {k:Nat} {v:Value} (h:w.cell? (a.add k)=some v):w.cell? ⟨a.block,a.off + k,none⟩=some v:=by
 unfold Addr.add at h;split at h
 ·rename_i hk;subst hk;unfold World.cell? at h ⊢;split at h
  ·rename_i c e z he;split at h
   ·cases h
   ·simpa [he] using h
  ·cases h
 ·exact h
theorem Ki {w:World} {a:Addr} {v:Value} (h:w.cell? a=some v):a.spot=none:=by
 unfold World.cell? at h;split at h
 ·split at h
  ·cases h
  ·rename_i hs;simpa using hs
 ·cases h
theorem vA {E:En} {b:Nat}:∀ {p:Nat} {ds:List DV} {vs:List Value},RvL E.cl ds vs->(∀ (j:Nat) v,vs[j]? = some v->E.c ⟨b,p + j,none⟩=some v/\v.oneCell'=true)->RvAt E.cl b p ds
 | p,[],vs,h,hc=>by simp only [RvAt]
 | p,d :: r,vs,h,hc=>by
  simp only [RvL] at h;obtain ⟨v,s,rfl,h1,h2⟩:=h;simp only [RvAt];obtain ⟨c1,c2⟩:=hc 0 v rfl;refine ⟨⟨v,c1,c2,h1⟩,vA (p:=p + 1) h2 fun j u hj=>?_⟩;have:=hc (j + 1) u hj;rw [show p + 1 + j=p + (j + 1) by omega];exact this
section
variable {H:Type} {enc:TypeId × Value->H} {P:Program} {w:World} {sp:Nat->Bool} {held:Bool} {S:List TypeId} {bk:DataW H->Nat}
def Rd (enc:TypeId × Value->H) (P:Program) (w:World) (bk:DataW H->Nat) (n:Nat) (t:TypeId) (cs:List Value) (d:DataW H):Prop:=
 ∃ ds,RvL (E6 w) ds cs/\(∀ v∈cs,v.oneCell'=true)/\Typ P n t ds/\wgL ds<=64 * bk d/\cs.length=P.cellsOf t
theorem y8 {n:Nat} (ih:∀ t cs x,t∈S->DataW.trod enc P w 0 sp held n t cs=some x->Rd enc P w bk n t cs x.1) (cs:List Value) :
  ∀ (fs:List Field) (off:Nat) (xs:List (DataW H × List MemPlace)),laidF P S off fs cs.length=true->xs.length=fs.length ->
   (∀ (i:Nat) f,fs[i]? = some f->DataW.trod enc P w 0 sp held n f.type ((cs.drop f.offset).take (P.cellsOf f.type))=xs[i]?) ->
   ∃ ds,RvL (E6 w) ds (cs.drop off)/\(∀ v∈cs.drop off,v.oneCell'=true)/\TypFs (Typ P n) (fs.map (·.type)) ds/\wgL ds<=64 * bkS bk (xs.map (·.1))
 | [],off,xs,hl,ub,hx=>by
  simp only [laidF,decide_eq_true_eq] at hl;subst hl;simp only [List.length_nil,List.length_eq_zero_iff] at ub;subst ub;exact ⟨[],by simpa using cz _,by simp,by simp [TypFs],by simp [wgL]⟩
 | f :: r,off,xs,hl,ub,hx=>by
  simp only [laidF,Bool.and_eq_true,decide_eq_true_eq] at hl;obtain ⟨⟨hof,hS⟩,hl⟩:=hl
  match xs,ub with
  | x :: xs,ub=>
   have h0:=hx 0 f rfl;rw [hof] at h0;simp only [List.getElem?_cons_zero] at h0;obtain ⟨ds0,r1,r2,r3,r4,r5⟩:=ih f.type _ x (sU hS) h0;obtain ⟨ds1,s1,s2,s3,s4⟩:=y8 ih cs r (off + P.cellsOf f.type) xs hl (sU ub) (fun i g hg=>by simpa using hx (i + 1) g (sU hg))
   have Nr:cs.drop off=(cs.drop off).take (P.cellsOf f.type) ++ cs.drop (off + P.cellsOf f.type):=by
    rw [<- List.drop_drop,List.take_append_drop]
   refine ⟨ds0 ++ ds1,?_,?_,?_,?_⟩
   ·rw [Nr];exact RvL.append r1 s1
   ·rw [Nr];intro v hv;rcases List.mem_append.1 hv with hv | hv
    ·exact r2 v hv
    ·exact s2 v hv
   ·simp only [List.map_cons,TypFs];exact ⟨ds0,ds1,rfl,r3,s3⟩
   ·rw [fk];simp only [List.map_cons,bkS];omega
theorem C2 {n e:Nat} (ih:∀ t cs x,t∈S->DataW.trod enc P w 0 sp held n t cs=some x->Rd enc P w bk n t cs x.1) (he:e∈S) (a:Addr) :
  ∀ (xs:List (DataW H × List MemPlace)) (i0:Nat),(∀ i,i < xs.length->(w.cells? 0 (a.add ((i0 + i) * P.cellsOf e)) (P.cellsOf e)).bind (DataW.trod enc P w 0 sp held n e)=xs[i]?) ->
   ∃ es,es.length=xs.length/\RvEs (E6 w) (P.cellsOf e) a.block (a.off + i0 * P.cellsOf e) es/\(∀ cs∈es,Typ P n e cs)/\wgEs es<=64 * bkS bk (xs.map (·.1))
 | [],i0,hx=>⟨[],rfl,by simp only [RvEs],by simp,by simp [wgEs]⟩
 | x :: xs,i0,hx=>by
  have h0:=hx 0 (by simp);simp only [Nat.add_zero,List.getElem?_cons_zero] at h0;obtain ⟨cs,cG,ht⟩:=Option.bind_eq_some_iff.1 h0;obtain ⟨_,hlen,mH⟩:=World.cells?_some cG;obtain ⟨ds0,r1,r2,r3,r4,r5⟩:=ih e cs x he ht
  obtain ⟨es,s1,s2,s3,s4⟩:=C2 ih he a xs (i0 + 1) (fun i hi=>by
   have:=hx (i + 1) (sU hi);simp only [List.getElem?_cons_succ] at this;rw [show i0 + 1 + i=i0 + (i + 1) by omega]
   exact this)
  refine ⟨ds0 :: es,by simp [s1],?_,?_,?_⟩
  ·simp only [RvEs];refine ⟨by rw [<- r1.length,hlen],vA (E:=E6 w) r1 fun j v hj=>⟨?_,r2 v (mG hj)⟩,?_⟩
   ·have oM:j < P.cellsOf e:=by rw [<- hlen];exact (gS hj).1
    have h1:=mH j oM;rw [hj,Deep.add_add] at h1;have h2:=Kh h1;show w.cell? _=_;rw [Nat.add_assoc];exact h2
   ·rw [Nat.add_assoc,show i0 * P.cellsOf e + P.cellsOf e=(i0 + 1) * P.cellsOf e by rw [Nat.add_mul,Nat.one_mul]];exact s2
  ·intro cs' hc;rcases List.mem_cons.1 hc with hc | hc
   ·subst hc;exact r3
   ·exact s3 cs' hc
  ·simp only [wgEs,List.map_cons,bkS];omega
theorem qg (mT:Bk bk) (hS:∀ t∈S,mS P S t=true):∀ (n:Nat) (t:TypeId) (cs:List Value) (x:DataW H × List MemPlace),t∈S->DataW.trod enc P w 0 sp held n t cs=some x->Rd enc P w bk n t cs x.1
 | 0,t,cs,x,_,h=>by simp [DataW.trod] at h
 | n + 1,t,cs,x,ht,h=>by
  have hf:=hS t ht;unfold mS at hf;unfold Rd
  cases hu:P.underlying t with
  | none=>rw [hu] at hf;cases hf
  | some D=>
   rw [hu] at hf
   cases D with
   | bool=>
    simp only [decide_eq_true_eq] at hf;obtain ⟨b,rfl,rfl⟩:=DataW.trod_bool hu h;have:=mT.lit (.bool b);exact ⟨[.v (.bool b)],rvL_one (by unfold Rv;exact ⟨rfl,rfl⟩),by simp [Value.oneCell'],by simp only [Typ,hu];exact ⟨b,rfl⟩,by simp only [wgL,wgD];omega,by simp [hf]⟩
   | int k=>
    simp only [decide_eq_true_eq] at hf;obtain ⟨z,rfl,rfl,hw⟩:=DataW.trod_int hu h;have:=mT.lit (.int k z);exact ⟨[.v (.int k z)],rvL_one (by unfold Rv;exact ⟨rfl,rfl⟩),by simp [Value.oneCell'],by simp only [Typ,hu];exact ⟨z,rfl,hw⟩,by simp only [wgL,wgD];omega,by simp [hf]⟩
   | string=>
    simp only [decide_eq_true_eq] at hf;obtain ⟨s,rfl,rfl,hw⟩:=DataW.trod_string hu h;have:=mT.str s.data.toList;have bJ:s.data.toList.length=s.size:=by rw [Array.length_toList];all_goals rfl
    exact ⟨[.v (.string s)],rvL_one (by unfold Rv;exact ⟨rfl,rfl⟩),by simp [Value.oneCell'],by simp only [Typ,hu];exact ⟨s,rfl⟩,by simp only [wgL,wgD];omega,by simp [hf]⟩
   | slice e=>
    simp only [Bool.and_eq_true,decide_eq_true_eq] at hf;obtain ⟨⟨E7,ua⟩,hf3⟩:=hf;rcases DataW.trod_slice hu h with ⟨rfl,rfl⟩ | ⟨a,len,cap,elems,rest,m,hm,rfl,rfl,_,Xx,_,j1,hx,_,_⟩
    ·have:=mT.nil;refine ⟨[.sl (P.cellsOf e) [] none],rvL_one ?_,by simp [Value.oneCell'],by simp only [Typ,hu];exact ⟨[],rfl,by simp⟩,by simp only [wgL,wgD,wgEs];omega,by simp [E7]⟩;unfold Rv;exact ⟨none,0,0,rfl,⟨rfl,Nat.le_refl _⟩,fun hc=>absurd rfl hc,fun k hk=>by cases hk⟩
    ·simp only [Nat.add_right_cancel_iff] at hm;subst hm;obtain ⟨es,s1,s2,s3,s4⟩:=C2 (fun t cs x=>qg mT hS n t cs x) (sU ua) a elems 0 (fun i hi=>by simpa using hx i (by omega));have hb:=mT.slice (elems.map (·.1)) (rest.map (·.1));refine ⟨[.sl (P.cellsOf e) es none],rvL_one ?_,by simp [Value.oneCell'],by simp only [Typ,hu];exact ⟨es,rfl,s3⟩,by simp only [wgL,wgD];omega,by simp [E7]⟩;unfold Rv;refine ⟨some a,len,cap,rfl,⟨by omega,Xx⟩,fun aT=>⟨?_,?_⟩,fun k hk=>by cases hk⟩
     ·have kx:0 < len:=by
       rw [<- j1,<- s1];exact List.length_pos_iff.2 aT
      have h0:=hx 0 kx;rw [gE (by omega)] at h0;obtain ⟨cs,cG,_⟩:=Option.bind_eq_some_iff.1 h0;obtain ⟨_,hlen,mH⟩:=World.cells?_some cG;have h1:=mH 0 hf3;rw [gE (by omega),Deep.add_add] at h1;simp only [Nat.zero_mul,Nat.add_zero] at h1;exact Ki (a:=a) h1
     ·have s2':RvEs (E6 w) (P.cellsOf e) a.block a.off es:=sU s2;exact s2'
   | struct fs=>
    obtain ⟨xs,m,hm,rfl,hlen,ub,hx⟩:=DataW.trod_struct hu h;simp only [Nat.add_right_cancel_iff] at hm;subst hm;simp only at hf;obtain ⟨ds,s1,s2,s3,s4⟩:=y8 (fun t cs x=>qg mT hS n t cs x) cs fs.toList 0 xs (by rw [hlen];exact hf) (sU ub) (fun i f hi=>hx i f (sU hi));have hb:=mT.agg (xs.map (·.1));refine ⟨ds,by simpa using s1,by simpa using s2,by simp only [Typ,hu];exact s3,by simp only;omega,hlen⟩
   | _=>cases hf
end
theorem ID {P:Program} {n:Nat} {t:TypeId} {k:IntKind} {ds:List DV} (hu:P.underlying t=some (.int k)) (h:Typ P n t ds):∃ z,ds=[.v (.int k z)]/\(Lit.int k z).wf=true:=by
 cases n with
 | zero=>exact h.elim
 | succ n=>simp only [Typ,hu] at h;exact h
theorem Ns {P:Program} {n:Nat} {t:TypeId} {ds:List DV} (hu:P.underlying t=some .bool) (h:Typ P n t ds):∃ b,ds=[.v (.bool b)]:=by
 cases n with
 | zero=>exact h.elim
 | succ n=>simp only [Typ,hu] at h;exact h
theorem IE {P:Program} {n:Nat} {t:TypeId} {ds:List DV} (hu:P.underlying t=some .string) (h:Typ P n t ds):∃ s:ByteArray,ds=[.v (.string s)]:=by
 cases n with
 | zero=>exact h.elim
 | succ n=>simp only [Typ,hu] at h;exact h
theorem vB {P:Program} {n:Nat} {t e:TypeId} {ds:List DV} (hu:P.underlying t=some (.slice e)) (h:Typ P n t ds):∃ m es,n=m + 1/\ds=[.sl (P.cellsOf e) es none]/\∀ cs∈es,Typ P m e cs:=by
 cases n with
 | zero=>exact h.elim
 | succ n=>
  simp only [Typ,hu] at h;obtain ⟨es,h1,h2⟩:=h;exact ⟨n,es,rfl,h1,h2⟩
theorem mU {P:Program} {n:Nat} {t:TypeId} {fs:Array Field} {ds:List DV} (hu:P.underlying t=some (.struct fs)) (h:Typ P n t ds):∃ m,n=m + 1/\TypFs (Typ P m) (fs.toList.map (·.type)) ds:=by
 cases n with
 | zero=>exact h.elim
 | succ n=>
  simp only [Typ,hu] at h;exact ⟨n,rfl,h⟩
theorem wf_i64 {z:Int} (h:(Lit.int .i64 z).wf=true) : -9223372036854775808<=z/\z<=9223372036854775807:=by
 simpa [Lit.wf,IntKind.min,IntKind.max,IntKind.signed,IntKind.bits] using h
end Dv
end Go.Proofs.YtffhgcbfpidfiaaGreat
set_option maxRecDepth 100000
namespace Go.Proofs.YtffhgcbfpidfiaaGreat
open Go Go.RowKit Dv Go.Proofs.Tryz
theorem FR:prog.cellsOf 27=2:=by kernel_rfl
theorem FT:prog.cellsOf 79=18:=by kernel_rfl
theorem rL {n:Nat} {ds:List DV} (h:Typ prog n 27 ds):∃ w:Wd,ds=jN w/\w.wt<=wgL ds:=by
 obtain ⟨m,_,hf⟩:=mU Tryz.underlying27 h;obtain ⟨a,b,rfl,h1,c,d,rfl,h2,rfl⟩:=hf;obtain ⟨s,rfl⟩:=IE Tryz.underlying9 h1;obtain ⟨z,rfl,_⟩:=ID Tryz.underlying3 h2;exact ⟨⟨s,z⟩,rfl,by simp [wgL,wgD,Wd.wt]⟩
theorem Nt:∀ {m:Nat} {es:List (List DV)},(∀ cs∈es,Typ prog m 27 cs)->∃ l:List Wd,es=bG l/\wdsWt l<=wgEs es
 | m,[],h=>⟨[],rfl,by simp [wdsWt,wgEs]⟩
 | m,cs :: r,h=>by
  obtain ⟨w,rfl,hw⟩:=rL (h cs (by simp));obtain ⟨l,rfl,hl⟩:=Nt (m:=m) (es:=r) (fun c hc=>h c (List.mem_cons_of_mem _ hc));exact ⟨w :: l,rfl,by simp only [wdsWt,wgEs];omega⟩
theorem uj {n:Nat} {ds:List DV} (h:Typ prog n 22 ds):∃ l:List Wd,ds=[.sl 2 (bG l) none]/\64 + wdsWt l<=wgL ds:=by
 obtain ⟨m,es,_,rfl,he⟩:=vB Tryz.underlying22 h;obtain ⟨l,rfl,hl⟩:=Nt he;rw [FR];exact ⟨l,rfl,by simp only [wgL,wgD];omega⟩
theorem mV {n:Nat} {ds:List DV} (h:Typ prog n 3 ds):∃ z,ds=[.v (.int .i64 z)]/\rK z:=by
 obtain ⟨z,rfl,hw⟩:=ID Tryz.underlying3 h;exact ⟨z,rfl,wf_i64 hw⟩
theorem Nu {m:Nat} (ih:∀ k,k < m->∀ ds,Typ prog k 29 ds->∃ t:Ty,ds=dV t/\rngT t/\t.wt<=wgL ds) :
  ∀ {es:List (List DV)},(∀ cs∈es,Typ prog m 79 cs)->∃ ps:Pts,es=fA ps/\rngP ps/\ps.wt<=wgEs es
 | [],h=>⟨.nil,by simp [fA],by simp [rngP],by simp [Pts.wt]⟩
 | cs :: r,h=>by
  obtain ⟨ps,rfl,hr,hl⟩:=Nu ih (es:=r) (fun c hc=>h c (List.mem_cons_of_mem _ hc));obtain ⟨k,rfl,hf⟩:=mU Tryz.underlying79 (h cs (by simp));obtain ⟨a1,b1,rfl,h1,a2,b2,rfl,h2,a3,b3,rfl,h3,a4,b4,rfl,h4,a5,b5,rfl,h5,a6,b6,rfl,h6,rfl⟩:=hf;obtain ⟨nm,rfl,w1⟩:=rL h1;obtain ⟨bare,rfl⟩:=Ns Tryz.underlying4 h2;obtain ⟨lab,rfl,w3⟩:=uj h3;obtain ⟨wide,rfl,r4⟩:=mV h4;obtain ⟨k5,_,hf5⟩:=mU Tryz.underlying77 h5;obtain ⟨c1,d1,rfl,g1,c2,d2,rfl,g2,c3,d3,rfl,g3,c4,d4,rfl,g4,rfl⟩:=hf5;obtain ⟨ck,rfl,_⟩:=mV g1;obtain ⟨cn,rfl,q2⟩:=mV g2;obtain ⟨ca,rfl,_⟩:=mV g3;obtain ⟨cl,rfl,w5⟩:=uj g4;obtain ⟨t,rfl,rt,wt⟩:=ih k (by omega) _ h6;refine ⟨.cons ⟨nm,bare,lab,wide,ck,cn,ca,cl⟩ t ps,?_,by simp only [rngP];exact ⟨r4,q2,rt,hr⟩,?_⟩
  ·simp only [fA,FF,jN,List.cons_append,List.nil_append,List.append_nil]
  ·simp only [Pts.wt,Ph.wt,wgEs,fk,wgL,wgD,jN] at *;simp only [Wd.wt] at *;omega
theorem Nv:∀ (n:Nat) (ds:List DV),Typ prog n 29 ds->∃ t:Ty,ds=dV t/\rngT t/\t.wt<=wgL ds:=by
 intro n
 induction n using Nat.strongRecOn with
 | _ n ih=>
  intro ds h;obtain ⟨m,rfl,hf⟩:=mU Tryz.underlying29 h;obtain ⟨a1,b1,rfl,h1,a2,b2,rfl,h2,a3,b3,rfl,h3,a4,b4,rfl,h4,a5,b5,rfl,h5,a6,b6,rfl,h6,a7,b7,rfl,h7,a8,b8,rfl,h8,rfl⟩:=hf;obtain ⟨ag,rfl,_⟩:=mV h1;obtain ⟨aD,rfl,_⟩:=mV h2;obtain ⟨lo,rfl,r3⟩:=mV h3;obtain ⟨hi,rfl,r4⟩:=mV h4;obtain ⟨most,rfl,r5⟩:=mV h5;obtain ⟨af,rfl,w6⟩:=uj h6;obtain ⟨k,es,rfl,rfl,jk⟩:=vB Tryz.underlying25 h7;obtain ⟨ps,rfl,rp,wp⟩:=Nu (fun j hj=>ih j (by omega)) jk;obtain ⟨nm,rfl,w8⟩:=rL h8;rw [FT];refine ⟨.mk ⟨ag,aD,lo,hi,most,af,nm⟩ ps,?_,by simp only [rngT];exact ⟨r3,r4,r5,rp⟩,?_⟩
  ·simp only [dV,jN,List.cons_append,List.nil_append,List.append_nil]
  ·simp only [Ty.wt,Hd.wt,fk,wgL,wgD,jN] at *;simp only [Wd.wt] at *;omega
end Go.Proofs.YtffhgcbfpidfiaaGreat
namespace Go.Proofs.YtffhgcbfpidfiaaGreat
namespace Dv
open Go Go.RowKit Go.ChangeShapes Go.WideShapes Go.ChangeAt
open Go.ChangeMaps (open_string shut_string)
section
variable {H:Type} {enc:TypeId × Value->H} {P:Program}
theorem oB (hl:laidOutB P=true) {W W':World} (hb:Below W.heap.size W W'):∀ {ts:List TypeId} {vs:List Value} {ds:List (DataW H)} {ps:List MemPlace},(∀ t∈ts,P.readableRec t=true/\t < P.types.size) ->
  DataW.TrodAll enc P W 0 (fun _=>true) true ts vs ds ps->(∀ x∈ps,x.block < W.heap.size)->DataW.TrodAll enc P W' 0 (fun b=>decide (b < W.heap.size)) true ts vs ds ps
 | [],[],[],_,_,h,_=>h
 | t :: ts,v :: vs,d :: ds,_,ht,⟨p,q,h1,h2,e⟩,au=>by
  subst e;obtain ⟨r1,r2⟩:=ht t (by simp);exact ⟨p,q,Below.trod hl r1 r2 h1 hb (fun x hx=>au x (List.mem_append_left _ hx)),oB hl hb (fun t tC=>ht t (by simp [tC])) h2 (fun x hx=>au x (List.mem_append_right _ hx)),rfl⟩
theorem law_post {f:Func} {s:ChangeSpec} {tb:TypeId} (hl:laidOutB P=true) (Mo:f.resultTypes = #[tb]) (htb:P.underlying tb=some .bool) (hv:s.vars=[]) (hts:∀ t∈f.params.toList,P.readableRec t=true/\t < P.types.size)
  {W W':World} {args:Array Value} {ds gs:List (DataW H)} {before:List MemPlace} (hW:DataW.Whole enc P f.params.toList s.vars false W args.toList ds gs before) (B0:s.fn H ds={ results:=[.lit (.bool true)],args:=ds }) (hb:Below W.heap.size W W') :
  s.post enc P f false true false false W args (.bool true) W':=by
 have hW':=hW;obtain ⟨p,q,hA,hV,rfl,hfz,hnd⟩:=hW;rw [hv] at hV;obtain ⟨rfl,rfl⟩:=trodVars_none hV;refine ⟨ds,[],p ++ [],[],p,[],hW',?_,?_,?_,hb.frame _,fun h=>by cases h⟩
 ·rw [List.append_nil,B0,Mo];exact trodAll_cons_mk (shut_bool htb _) trodAll_mk0
 ·rw [List.append_nil,B0];exact oB hl hb hts hA (fun x hx=>hW'.lt x (List.mem_append_left _ hx))
 ·rw [List.append_nil,B0,hv];rfl
theorem FU {w w':World} {Φ:DV->List (List DV)->List TkE->Prop} {v:Value} (h:Ce false (E6 w) w Φ v w'):Below w.heap.size w w':=by
 obtain ⟨hm,_⟩:=h;refine ⟨hm.os,hm.tape,hm.output,hm.size,fun k hk=>hm.block k hk ?_⟩;rintro (h1 | ⟨y,h1,_⟩)
 ·simp [E6] at h1
 ·simp [E6] at h1
theorem calls_law {f:FuncId} {args:List DV} {vs:List Value} {w:World} (h:EvP P f args (.v (.bool true))) (hv:RvL (E6 w) args vs) :
  Calls P f vs.toArray w fun e w'=>e = .returned (.bool true)/\Below w.heap.size w w':=by
 refine (h (E6 w) w vs (Rw w) rfl hv).mono ?_;rintro e w' ⟨v,rfl,he⟩;have hb:=FU he;obtain ⟨_,_,d,os,E,_,_,_,_,hr,rfl⟩:=he;unfold Rv at hr;rw [hr.1];exact ⟨rfl,hb⟩
variable {W:World} {base:Nat} {S:List TypeId} {bk:DataW H->Nat}
theorem arg_st (mT:Bk bk) (hS:∀ t∈S,mS P S t=true) {t:TypeId} {fs:Array Field} {v:Value} {d:DataW H} {ps:List MemPlace} (ht:t∈S) (hu:P.underlying t=some (.struct fs))
  (hval:Value.okWide P W .any base t v) (h:DataW.Trod enc P W 0 (fun _=>true) true t v d ps):∃ n ds,Rv (E6 W) (.agg ds) v/\Typ P n t ds/\wgL ds<=64 * bk d:=by
 unfold Value.okWide at hval;rw [hu] at hval;obtain ⟨cs,rfl,_,_⟩:=hval;obtain ⟨n,hn⟩:=h;obtain ⟨ds,h1,h2,h3,h4,_⟩:=qg mT hS n t _ _ ht hn;refine ⟨n,ds,?_,h3,h4⟩;unfold Rv;exact ⟨cs.toList,by simp,h1,h2⟩
end
end Dv
end Go.Proofs.YtffhgcbfpidfiaaGreat
namespace Go.Proofs.YtffhgcbfpidfiaaGreat
open Go Go.RowKit Dv
theorem FV {H:Type}:∀ l:List (DataW H),bkS Rows.uptoBulk l=Rows.uptoBulkAll l
 | []=>by simp [bkS,Rows.uptoBulkAll]
 | d :: r=>by simp only [bkS,Rows.uptoBulkAll,FV r]
theorem bk_ok {H:Type}:Bk (Rows.uptoBulk (H:=H)) where
 str:=fun l=>by simp [Rows.uptoBulk]
 lit:=fun l=>by cases l<;>simp [Rows.uptoBulk]
 nil:=by simp [Rows.uptoBulk]
 slice:=fun es sp=>by simp only [Rows.uptoBulk,FV];omega
 agg:=fun l=>by simp only [Rows.uptoBulk,FV];omega
theorem bulk_le {H:Type} {l:List (DataW H)} (hk:Rows.uptoSmall H l=true):Rows.uptoBulkAll l<=1048576:=of_decide_eq_true hk
theorem laid_out:laidOutB Tryz.prog=true:=by kernel_rfl
theorem own_knob:ownKnob Tryz.prog.godebug=none:=by kernel_rfl
def tyS:List TypeId:=[29,22,27,9,3,25,79,4,77]
end Go.Proofs.YtffhgcbfpidfiaaGreat
set_option maxRecDepth 100000
namespace Go.Proofs.YtffhgcbfpidfiaaGreat
open Go Go.RowKit Dv Go.Proofs.Tryz
def Pts.take:Nat->Pts->Pts
 | 0,_=>.nil
 | _ + 1,.nil=>.nil
 | e + 1,.cons p t r=>.cons p t (r.take e)
structure Sch where
 ae:List Wd
 order:List (Wd × Wd)
 types:List (Wd × Ty)
 root:Ty
def LX (p:Wd × Wd):List DV:=[.v (.string p.1.s),.v (.int .i64 p.1.a),.v (.string p.2.s),.v (.int .i64 p.2.a)]
def mn (l:List (Wd × Wd)):List (List DV):=l.map LX
def dNm (x:Wd × Ty):List DV:=.v (.string x.1.s) :: .v (.int .i64 x.1.a) :: dV x.2
def dNms (l:List (Wd × Ty)):List (List DV):=l.map dNm
def dR (s:Sch):List DV:=.sl 2 (bG s.ae) none :: .sl 4 (mn s.order) none :: .sl 11 (dNms s.types) none :: dV s.root
def prsWt:List (Wd × Wd)->Nat
 | []=>0
 | p :: r=>p.1.wt + p.2.wt + prsWt r
def nmsWt:List (Wd × Ty)->Nat
 | []=>0
 | p :: r=>p.1.wt + p.2.wt + nmsWt r
def Sch.wt (s:Sch):Nat:=wdsWt s.ae + prsWt s.order + nmsWt s.types + s.root.wt
theorem fJ (l:List (Wd × Wd)):(mn l).length=l.length:=by simp [mn]
theorem aal (l:List (Wd × Ty)):(dNms l).length=l.length:=by simp [dNms]
theorem gP {l:List (Wd × Wd)} {j:Nat} {p:Wd × Wd} (h:l[j]? = some p):(mn l)[j]? = some (LX p):=by simp [mn,h]
theorem dNms_get {l:List (Wd × Ty)} {j:Nat} {p:Wd × Ty} (h:l[j]? = some p):(dNms l)[j]? = some (dNm p):=by simp [dNms,h]
theorem iA:∀ l:List (Wd × Wd),128 * l.length<=prsWt l
 | []=>Nat.le_refl _
 | p :: r=>by have:=iA r;simp only [List.length_cons,prsWt,Wd.wt];omega
theorem jx:∀ l:List (Wd × Ty),256 * l.length<=nmsWt l
 | []=>Nat.le_refl _
 | p :: r=>by have:=jx r;have:=p.2.dh;simp only [List.length_cons,nmsWt,Wd.wt];omega
theorem gx:∀ {l:List (Wd × Ty)} {p:Wd × Ty},p∈l->p.1.wt + p.2.wt<=nmsWt l
 | x :: r,p,h=>by
  rcases List.mem_cons.1 h with h | h
  ·subst h;simp only [nmsWt];omega
  ·have:=gx h;simp only [nmsWt];omega
def Rx (s:Sch):Prop:=(∀ x∈s.types,rngT x.2)/\rngT s.root
theorem FW:prog.cellsOf 218=4:=by kernel_rfl
theorem C3:prog.cellsOf 95=11:=by kernel_rfl
theorem VS {n:Nat} {ds:List DV} (h:Typ prog n 218 ds):∃ p:Wd × Wd,ds=LX p/\p.1.wt + p.2.wt<=wgL ds:=by
 obtain ⟨m,_,hf⟩:=mU Tryz.underlying218 h;obtain ⟨a,b,rfl,h1,c,d,rfl,h2,rfl⟩:=hf;obtain ⟨x,rfl,w1⟩:=rL h1;obtain ⟨y,rfl,w2⟩:=rL h2;exact ⟨(x,y),rfl,by simp only [fk,wgL];omega⟩
theorem VT {n:Nat} {ds:List DV} (h:Typ prog n 95 ds):∃ p:Wd × Ty,ds=dNm p/\rngT p.2/\p.1.wt + p.2.wt<=wgL ds:=by
 obtain ⟨m,_,hf⟩:=mU Tryz.underlying95 h;obtain ⟨a,b,rfl,h1,c,d,rfl,h2,rfl⟩:=hf;obtain ⟨x,rfl,w1⟩:=rL h1;obtain ⟨y,rfl,r2,w2⟩:=Nv _ _ h2;exact ⟨(x,y),by simp [dNm,jN],r2,by simp only [fk,wgL];omega⟩
theorem Nx:∀ {m:Nat} {es:List (List DV)},(∀ cs∈es,Typ prog m 218 cs)->∃ l:List (Wd × Wd),es=mn l/\prsWt l<=wgEs es
 | m,[],h=>⟨[],rfl,by simp [prsWt,wgEs]⟩
 | m,cs :: r,h=>by
  obtain ⟨w,rfl,hw⟩:=VS (h cs (by simp));obtain ⟨l,rfl,hl⟩:=Nx (m:=m) (es:=r) (fun c hc=>h c (List.mem_cons_of_mem _ hc));exact ⟨w :: l,rfl,by simp only [prsWt,wgEs];omega⟩
theorem Ny:∀ {m:Nat} {es:List (List DV)},(∀ cs∈es,Typ prog m 95 cs)->∃ l:List (Wd × Ty),es=dNms l/\(∀ x∈l,rngT x.2)/\nmsWt l<=wgEs es
 | m,[],h=>⟨[],rfl,by simp,by simp [nmsWt,wgEs]⟩
 | m,cs :: r,h=>by
  obtain ⟨w,rfl,hr,hw⟩:=VT (h cs (by simp));obtain ⟨l,rfl,hlr,hl⟩:=Ny (m:=m) (es:=r) (fun c hc=>h c (List.mem_cons_of_mem _ hc));refine ⟨w :: l,rfl,fun x hx=>?_,by simp only [nmsWt,wgEs];omega⟩;rcases List.mem_cons.1 hx with rfl | hx
  ·exact hr
  ·exact hlr x hx
theorem typ_sch {n:Nat} {ds:List DV} (h:Typ prog n 31 ds):∃ s:Sch,ds=dR s/\Rx s/\s.wt<=wgL ds:=by
 obtain ⟨m,_,hf⟩:=mU Tryz.underlying31 h;obtain ⟨a1,b1,rfl,h1,a2,b2,rfl,h2,a3,b3,rfl,h3,a4,b4,rfl,h4,rfl⟩:=hf;obtain ⟨l1,rfl,w1⟩:=uj h1;obtain ⟨m2,es2,_,rfl,he2⟩:=vB Tryz.underlying23 h2;obtain ⟨l2,rfl,w2⟩:=Nx he2;obtain ⟨m3,es3,_,rfl,he3⟩:=vB Tryz.underlying24 h3;obtain ⟨l3,rfl,r3,w3⟩:=Ny he3;obtain ⟨t,rfl,r4,w4⟩:=Nv _ _ h4;rw [FW,C3];refine ⟨⟨l1,l2,l3,t⟩,by simp [dR],⟨r3,r4⟩,?_⟩;simp only [Sch.wt,fk,wgL,wgD] at *;omega
end Go.Proofs.YtffhgcbfpidfiaaGreat
namespace Go.Proofs.YtffhgcbfpidfiaaGreat
open Go Go.RowKit Dv
def tySS:List TypeId:=31 :: 23 :: 218 :: 24 :: 95 :: tyS
theorem tySS_ok:∀ t∈tySS,mS Tryz.prog tySS t=true:=by
 have h:(tySS.all fun t=>mS Tryz.prog tySS t)=true:=by kernel_rfl
 exact fun t ht=>List.all_eq_true.1 h t ht
set_option maxRecDepth 100000
noncomputable abbrev PP:Program:=Tryz.pinned.checked.prog
def dft:OpenClaim:={ program := "",sum := "",func := "",spec := "" }
theorem and_ok {a b:Bool} (ha:a=true) (hb:b=true):(a && b)=true:=by rw [ha,hb];all_goals rfl
theorem g_laid:laidOutB PP=true:=laid_out
theorem g_maps:mapsRowed PP=true:=by kernel_rfl
theorem g_stops:(PP.stops == [])=true:=by kernel_rfl
theorem g_knobs:(PP.stopKnobs == [])=true:=by kernel_rfl
theorem g_heard:PP.stopsHeard=true:=by kernel_rfl
theorem g_enter:PP.mayEnter=true:=by kernel_rfl
theorem g_lifts:(dft.lifted == PP.liftsFinal)=true:=by kernel_rfl
theorem g_keys:(true == PP.plainKeys)=true:=by kernel_rfl
theorem g_make:(PP.make == some dft.make)=true:=by kernel_rfl
end Go.Proofs.YtffhgcbfpidfiaaGreat
set_option maxRecDepth 100000
namespace Go.Proofs.YtffhgcbfpidfiaaGreat
open Go Go.RowKit Dv Go.Proofs.Tryz
theorem C4 (x b:Nat):(x:Int).fdiv (2 ^ b)=((x / 2 ^ b:Nat):Int):=by
 rw [Int.fdiv_eq_ediv_of_nonneg _ (by exact Int.le_of_lt (Int.pow_pos (by decide)))];simp
theorem iB (m:Nat):BitVec.ofInt 64 (m:Int)=BitVec.ofNat 64 m:=by simp
theorem IF {x b:Nat} (hb:b < 64) (hx:x < 18446744073709551616) :
  decide (IntKind.u64.wrap ((BitVec.ofInt 64 ((x:Int).fdiv (2 ^ (min b 64))) &&& BitVec.ofInt 64 1).toNat:Int)=1)=x.testBit b:=by
 rw [Nat.min_eq_left (by omega),C4,iB,show (BitVec.ofInt 64 1)=BitVec.ofNat 64 1 by decide,BitVec.toNat_and,BitVec.toNat_ofNat,BitVec.toNat_ofNat,Nat.testBit_eq_decide_div_mod_eq];have h1:x / 2 ^ b < 18446744073709551616:=Nat.lt_of_le_of_lt (Nat.div_le_self _ _) hx;rw [Nat.mod_eq_of_lt h1,show (1 % 2 ^ 64:Nat)=1 by decide,Nat.and_one_is_mod];simp only [IntKind.wrap_u64];congr 1;apply propext;omega
theorem FX {x b:Nat} (hb:b < 64) (hx:x < 18446744073709551616) :
  IntKind.u64.wrap ((BitVec.ofInt 64 (x:Int) ||| BitVec.ofInt 64 (IntKind.u64.wrap (1 * 2 ^ (min b 64)))).toNat:Int)=((x ||| 2 ^ b:Nat):Int):=by
 have h2:2 ^ b < 18446744073709551616:=by
  have:2 ^ b<=2 ^ 63:=Nat.pow_le_pow_right (by decide) (by omega);omega
 have e1:IntKind.u64.wrap (1 * 2 ^ (min b 64))=((2 ^ b:Nat):Int):=by
  rw [Nat.min_eq_left (by omega),Int.one_mul];have:((2:Int) ^ b)=((2 ^ b:Nat):Int):=by simp
  rw [this];generalize 2 ^ b=z at h2;simp only [IntKind.wrap_u64];omega
 rw [e1,iB,iB,BitVec.toNat_or,BitVec.toNat_ofNat,BitVec.toNat_ofNat,Nat.mod_eq_of_lt hx,Nat.mod_eq_of_lt h2];have h3:x ||| 2 ^ b < 18446744073709551616:=Nat.or_lt_two_pow (n:=64) hx h2
 simp only [IntKind.wrap_u64];omega
theorem Ry {x y:Nat} (hx:x < 18446744073709551616) (hy:y < 18446744073709551616) :
  IntKind.u64.wrap ((BitVec.ofInt 64 (x:Int) ||| BitVec.ofInt 64 (y:Int)).toNat:Int)=((x ||| y:Nat):Int):=by
 rw [iB,iB,BitVec.toNat_or,BitVec.toNat_ofNat,BitVec.toNat_ofNat,Nat.mod_eq_of_lt hx,Nat.mod_eq_of_lt hy];have h3:x ||| y < 18446744073709551616:=Nat.or_lt_two_pow (n:=64) hx hy
 simp only [IntKind.wrap_u64];omega
theorem gQ (x a b:Nat):(x ||| 2 ^ b).testBit a=(x.testBit a || decide (b=a)):=by
 rw [Nat.testBit_or,Nat.testBit_two_pow]
def dU (rows:List Nat):List (List DV):=rows.map fun (x:Nat)=>[DV.v (.int .u64 (x:Int))]
theorem kD (rows:List Nat):(dU rows).length=rows.length:=by simp [dU]
theorem VU {rows:List Nat} {i:Nat} {x:Nat} (h:rows[i]? = some x):(dU rows)[i]? = some [DV.v (.int .u64 (x:Int))]:=by simp [dU,h]
abbrev mq (rows:List Nat):DV:=.pt [.sl 1 (dU rows) none] 0
def ef (rows:List Nat):Prop:=rows.length<=64/\∀ x∈rows,x < 18446744073709551616
def aV (rows:List Nat) (a b:Nat):Bool:=(rows.getD a 0).testBit b
def hasB (rows:List Nat) (a b:Int):Bool:=decide (0<=a) && decide (a < rows.length) && decide (0<=b) && decide (b < rows.length) && aV rows a.toNat b.toNat
theorem y9 (rows:List Nat):EvP prog 127 [mq rows] (.v (.int .i64 rows.length)):=by
 refine eG 10 [.tmp 2] func127 rfl ntmps127 rfl fun _ _ _ _=>?_;refine (congrArg (fun z=>DV.v (.int .i64 z)) ?_:_=_);rw [kD]
theorem kQ (rows:List Nat) (hr:ef rows) (a b:Int):EvP prog 131 [mq rows,.v (.int .i64 a),.v (.int .i64 b)] (.v (.bool (hasB rows a b))):=by
 have hl:=y9 rows;refine eG 38 [.tmp 6] func131 rfl ntmps131 rfl fun _ _ _ _=>?_;refine br ?_ ?_<;>intro g1
 ·have g1:0<=a:=sU g1;refine cP MM hl ?_;refine br ?_ ?_<;>intro g2
  ·obtain ⟨g2,g3⟩:a < rows.length/\0<=b:=by
    cases h:decide (a < (rows.length:Int))<;>simp [pickB,h] at g2<;>exact ⟨by simpa using h,g2⟩
   refine cP MM hl ?_;refine br ?_ ?_<;>intro g4
   ·have g4:b < rows.length:=by simpa [pickB,g2,g3] using g4
    obtain ⟨x,hx⟩:∃ x,rows[a.toNat]? = some x:=⟨_,gE (by omega)⟩;have QG:=hr.2 x (mG hx);have hr1:=hr.1;refine ⟨_,⟨g1,VU hx⟩,?_⟩;refine ⟨g3,?_⟩;refine (congrArg (fun b=>DV.v (.bool b)) ?_:_=_);have JP:rows.getD a.toNat 0=x:=getD_some hx
    have e1:hasB rows a b=x.testBit b.toNat:=by
     unfold hasB aV;rw [JP];simp [g1,g2,g3,g4]
    rw [e1];exact IF (x:=x) (b:=b.toNat) (by omega) QG
   ·have g4:¬ b < rows.length:=by simpa [pickB,g2,g3] using g4
    refine (congrArg (fun b=>DV.v (.bool b)) ?_:_=_);simp [pickB,g2,g3,g4,hasB]
  ·have g5:¬ (a < rows.length/\0<=b):=by
    rintro ⟨h1,h2⟩;simp [pickB,h1,h2] at g2
   refine (congrArg (fun b=>DV.v (.bool b)) ?_:_=_);cases h:decide (a < (rows.length:Int))<;>simp [pickB,h,hasB] at g2 ⊢
   intro _ h0;omega
 ·have g1:¬ 0<=a:=sU g1;refine (congrArg (fun b=>DV.v (.bool b)) ?_:_=_);simp [g1,hasB]
def backN (rows:List Nat) (a:Nat):Nat->Nat
 | 0=>0
 | e + 1=>if aV rows a e && aV rows e a then backN rows a e ||| 2 ^ e else backN rows a e
theorem vC (rows:List Nat) (a:Nat):∀ e,backN rows a e < 2 ^ e
 | 0=>by simp [backN]
 | e + 1=>by
  have ih:=vC rows a e;have h2:2 ^ e < 2 ^ (e + 1):=Nat.pow_lt_pow_right (by decide) (by omega);simp only [backN];split
  ·exact Nat.or_lt_two_pow (by omega) h2
  ·omega
theorem rM (rows:List Nat) (a b:Nat):∀ e,(backN rows a e).testBit b=(decide (b < e) && (aV rows a b && aV rows b a))
 | 0=>by simp [backN]
 | e + 1=>by
  have ih:=rM rows a b e;simp only [backN];by_cases gf:b=e
  ·subst gf;cases hx:(aV rows a b && aV rows b a)
   ·simp [ih,hx]
   ·simp [gQ]
  ·have h1:decide (b < e + 1)=decide (b < e):=by congr 1;apply propext;omega
   rw [h1,<- ih];split
   ·rw [gQ,decide_eq_false (Ne.symm gf),Bool.or_false]
   ·rfl
abbrev vE (rows:List Nat) (a e:Nat):St:=
 ⟨[(0,⟨[],mq rows⟩),(1,⟨[],.v (.int .i64 a)⟩),(5,⟨[],.v (.int .u64 (backN rows a e:Nat))⟩),(11,⟨[],.v (.int .i64 (dU rows).length)⟩),(12,⟨[],.v (.int .i64 e)⟩)],[],[]⟩
theorem qh {rows:List Nat} {a b:Nat} (ha:a < rows.length) (hb:b < rows.length):hasB rows a b=aV rows a b:=by
 simp [hasB,ha,hb]
theorem FY (rows:List Nat) (hr:ef rows) (a:Nat) (ha:a < rows.length):EvP prog 129 [mq rows,.v (.int .i64 a)] (.v (.int .u64 (backN rows a rows.length:Nat))):=by
 have hr1:=hr.1;refine eG 31 [.tmp 4] func129 rfl ntmps129 rfl fun _ _ _ _=>?_;refine lJ (fun e=>vE rows a e) rows.length (weak_mk ⟨_,rfl⟩ wA rfl rfl rfl wB) ?_;intro e he;refine br ?_ ?_<;>intro hL
 ·have au:e < rows.length:=by have:=hL;simp [kD] at this;exact this
  have h1:=kQ rows hr a e;have h2:=kQ rows hr e a;rw [qh ha au] at h1;rw [qh au ha] at h2;have hbl:=vC rows a e
  have VV:backN rows a e < 18446744073709551616:=by
   have:2 ^ e<=2 ^ 64:=Nat.pow_le_pow_right (by decide) (by omega);omega
  have hor:=FX (x:=backN rows a e) (b:=e) (by omega) VV;have hs:backN rows a (e + 1)=if aV rows a e && aV rows e a then backN rows a e ||| 2 ^ e else backN rows a e:=rfl
  refine cP CF h1 ?_;refine br ?_ ?_<;>intro g1
  ·have g1:aV rows a e=true:=sU g1;refine cP CF h2 ?_;refine br ?_ ?_<;>intro g2
   ·have g2:aV rows e a=true:=by simpa [pickB,g1] using g2
    rw [g1,g2] at hs;have hs:backN rows a (e + 1)=backN rows a e ||| 2 ^ e:=hs
    refine ⟨by omega,?_⟩;exact rE ⟨_,by omega,e + 1,rfl,by omega,rfl⟩ (weak_mk ⟨_,rfl⟩ wA rfl rfl rfl (by repeat' (first | exact trivial | exact ah rfl | exact ai (nxt au (by omega)) | exact ai (hor.trans (by rw [hs])) | refine ⟨⟨_,rfl,?_⟩,?_⟩)))
   ·have g2:aV rows e a=false:=by simpa [pickB,g1] using g2
    rw [g1,g2] at hs;have hs:backN rows a (e + 1)=backN rows a e:=hs;exact rE ⟨_,by omega,e + 1,rfl,by omega,rfl⟩ (weak_mk ⟨_,rfl⟩ wA rfl rfl rfl (by repeat' (first | exact trivial | exact ah rfl | exact ai (nxt au (by omega)) | exact ai (by rw [hs]) | refine ⟨⟨_,rfl,?_⟩,?_⟩)))
  ·have g1:aV rows a e=false:=sU g1;rw [g1] at hs;have hs:backN rows a (e + 1)=backN rows a e:=hs;exact rE ⟨_,by omega,e + 1,rfl,by omega,rfl⟩ (weak_mk ⟨_,rfl⟩ wA rfl rfl rfl (by repeat' (first | exact trivial | exact ah rfl | exact ai (nxt au (by omega)) | exact ai (by rw [hs]) | refine ⟨⟨_,rfl,?_⟩,?_⟩)))
 ·have aN:e=rows.length:=by have:=hL;simp [kD] at this;omega
  subst aN;exact (rfl:_=_)
def cU (rows:List Nat):List DV:=rows.map fun (x:Nat)=>DV.v (.int .u64 (x:Int))
theorem oW (rows:List Nat):(cU rows).length=rows.length:=by simp [cU]
theorem Nz {rows:List Nat} {i x:Nat} (h:rows[i]? = some x):(cU rows)[i]? = some (DV.v (.int .u64 (x:Int))):=by simp [cU,h]
theorem NA (rows:List Nat) (i x:Nat):(cU rows).set i (DV.v (.int .u64 (x:Int)))=cU (rows.set i x):=by simp [cU,List.map_set]
theorem qi (rows:List Nat):(dU rows).flatten=cU rows:=by
 induction rows with
 | nil=>rfl
 | cons x r ih=>simp only [dU,cU,List.map_cons,List.flatten_cons] at ih ⊢;rw [ih];all_goals rfl
theorem IG {n m:Nat} {tk:List TkE}:∀ l:List Nat,WeL n m tk (cU l) (cU l)
 | []=>rfl
 | b :: r=>⟨_,_,rfl,ah rfl,IG r⟩
theorem AW {n m:Nat} {tk:List TkE} {l:List DV} {ds:List Nat} (h:l=cU ds):WeL n m tk l (cU ds):=by rw [h];exact IG ds
def dNP (p:Nat × Nat):List DV:=[.v (.int .i64 (p.1:Int)),.v (.int .i64 (p.2:Int))]
def lS (l:List (Nat × Nat)):List (List DV):=l.map dNP
theorem gR (l:List (Nat × Nat)):(lS l).length=l.length:=by simp [lS]
theorem vF {l:List (Nat × Nat)} {i:Nat} {p:Nat × Nat} (h:l[i]? = some p):(lS l)[i]? = some (dNP p):=by simp [lS,h]
def vG (rows:List Nat) (p:Nat × Nat):List Nat:=rows.set p.1 (rows.getD p.1 0 ||| 2 ^ p.2)
def fb (n:Nat) (l:List (Nat × Nat)):List Nat:=l.foldl vG (List.replicate n 0)
theorem Kj (n:Nat) (l:List (Nat × Nat)) (e:Nat) {p:Nat × Nat} (h:l[e]? = some p):fb n (l.take (e + 1))=vG (fb n (l.take e)) p:=by
 unfold fb;rw [List.take_add_one,h];simp
theorem qj (rows:List Nat) (p:Nat × Nat):(vG rows p).length=rows.length:=by simp [vG]
theorem jP (n:Nat):∀ (l:List (Nat × Nat)),(fb n l).length=n:=by
 intro l
 have:∀ (l:List (Nat × Nat)) (r:List Nat),(l.foldl vG r).length=r.length:=by
  intro l
  induction l with
  | nil=>intro r;rfl
  | cons p l ih=>intro r;rw [List.foldl_cons,ih,qj]
 rw [fb,this];simp
theorem Rz {rows:List Nat} {p:Nat × Nat} (h:ef rows) (hp:p.1 < rows.length) (hq:p.2 < 64):ef (vG rows p):=by
 refine ⟨by rw [qj];exact h.1,fun x hx=>?_⟩;rcases List.mem_or_eq_of_mem_set hx with hx | rfl
 ·exact h.2 x hx
 ·refine Nat.or_lt_two_pow (n:=64) ?_ (Nat.pow_lt_pow_right (by decide) hq);rw [List.getD_eq_getElem?_getD,gE hp];exact h.2 _ (List.getElem_mem hp)
theorem AX {n:Nat} (hn:n<=64):∀ (l:List (Nat × Nat)),(∀ p∈l,p.1 < n/\p.2 < n)->ef (fb n l):=by
 intro l hl
 have:∀ (l:List (Nat × Nat)) (r:List Nat),r.length=n->ef r->(∀ p∈l,p.1 < n/\p.2 < n)->ef (l.foldl vG r):=by
  intro l
  induction l with
  | nil=>intro r _ h _;exact h
  | cons p l ih=>
   intro r hr h hp;have:=hp p (by simp);exact ih _ (by rw [qj,hr]) (Rz h (by omega) (by omega)) (fun q hq=>hp q (by simp [hq]))
 refine this l _ (by simp) ⟨by simp [hn],fun x hx=>?_⟩ hl;rw [List.mem_replicate] at hx;omega
abbrev FZ (n:Nat) (l:List (Nat × Nat)) (rows:List Nat) (e:Nat):St:=
 ⟨[(0,⟨[],.v (.int .i64 n)⟩),(6,⟨[],.loc 1 0⟩),(19,⟨[],.sl 2 (lS l) none⟩),(20,⟨[],.v (.int .i64 (lS l).length)⟩),(21,⟨[],.v (.int .i64 e)⟩)],
  [cU rows,[.ms 0 1 0 n n]],[]⟩
theorem Kk (n:Nat) (hn:n<=64) (l:List (Nat × Nat)) (hl:∀ p∈l,p.1 < n/\p.2 < n) (hb:l.length<=1099511627776) :
  EvP prog 70 [.v (.int .i64 n),.sl 2 (lS l) none] (.tup [mq (fb n l),.v (.bool true)]):=by
 refine eG 60 [.tmp 4,.tmp 5] func70 rfl ntmps70 rfl fun _ _ _ _=>?_;refine br ?_ ?_<;>intro g
 ·exfalso;simp [ap] at g;omega
 refine ⟨⟨rfl,by omega,by omega,by omega⟩,?_⟩
 have h0:(List.replicate (n:Int).toNat [DV.v (.int .u64 0)]).flatten=cU (fb n (l.take 0)):=by
  simp [fb,cU]
 refine lJ (fun e=>FZ n l (fb n (l.take e)) e) l.length (az 2 rfl (by repeat' (first | exact rfl | exact ah rfl | exact AW h0 | refine ⟨_,_,rfl,?_,?_⟩)) rfl rfl rfl (by repeat' (first | exact trivial | exact ah rfl | exact AW h0 | refine ⟨⟨_,rfl,?_⟩,?_⟩))) ?_;intro e he;refine br ?_ ?_<;>intro hL
 ·have au:e < l.length:=by have:=hL;simp [gR] at this;exact this
  obtain ⟨p,hp⟩:=gX au;obtain ⟨p1,p2⟩:=hl p (mG hp);refine iX (vF hp) ?_;refine ⟨⟨by decide,by decide⟩,?_⟩;refine ⟨⟨by decide,by decide⟩,?_⟩;refine br ?_ ?_<;>intro g
  ·refine ⟨⟨by decide,by decide⟩,?_⟩;refine ⟨⟨by decide,by decide⟩,?_⟩;refine br ?_ ?_<;>intro g2
   ·exfalso;simp [pickB] at g2;omega
   obtain ⟨x,hx⟩:∃ x,(fb n (l.take e))[p.1]? = some x:=⟨_,gE (by rw [jP];exact p1)⟩;have bS:=AX hn (l.take e) (fun q hq=>hl q (List.mem_of_mem_take hq));have QG:=bS.2 x (mG hx);have tE:0 + (p.1:Int).toNat * 1=p.1:=by omega
   refine dS ?_;refine ⟨⟨by decide,by decide⟩,?_⟩;refine ⟨⟨by omega,by omega⟩,?_⟩;refine ⟨_,(by rw [tE];exact Nz hx:(cU (fb n (l.take e)))[0 + (p.1:Int).toNat * 1]? = some _),?_⟩;refine ⟨⟨by decide,by decide⟩,?_⟩;refine ⟨by omega,?_⟩;refine ⟨⟨by omega,by omega⟩,?_⟩;refine ⟨by rw [tE,oW,jP];omega,?_⟩
   have cG:(cU (fb n (l.take e))).set (0 + (p.1:Int).toNat * 1) (DV.v (.int .u64 (IntKind.u64.wrap ((BitVec.ofInt 64 (x:Int) ||| BitVec.ofInt 64 (IntKind.u64.wrap (1 * 2 ^ (min (p.2:Int).toNat 64)))).toNat:Int))))=cU (fb n (l.take (e + 1))):=by
    rw [tE,show ((p.2:Int).toNat)=p.2 by omega,FX (by omega) QG,NA,Kj n l e hp];simp only [vG];rw [getD_some hx]
   refine ⟨FZ n l (fb n (l.take (e + 1))) (e + 1),(az 2 rfl (by repeat' (first | exact rfl | exact ah rfl | exact AW cG | exact ai (nxt au (by omega)) | refine ⟨_,_,rfl,?_,?_⟩)) rfl rfl rfl (by repeat' (first | exact trivial | exact ah rfl | exact AW cG | exact ai (nxt au (by omega)) | refine ⟨⟨_,rfl,?_⟩,?_⟩))),l.length - (e + 1),by omega,e + 1,rfl,by omega,rfl⟩
  ·exfalso;simp [pickB] at g;omega
 ·have aN:e=l.length:=by have:=hL;simp [gR] at this;omega
  subst aN;rw [List.take_length];refine ⟨_,?_,rfl⟩;have hlen:=jP n l;generalize fb n l=rows at hlen ⊢;refine ⟨_,rfl,_,_,rfl,.inr ⟨1,_,rfl,Nat.zero_le _,rfl,_,_,rfl,.inr (.inr (.inl ⟨0,0,n,cU rows,by rw [kD,hlen],Nat.zero_le _,rfl,?_,?_,?_⟩)),rfl⟩,_,_,rfl,rfl,rfl⟩
  ·rw [qi,kD,Nat.mul_one,List.drop_zero,List.take_of_length_le (by rw [oW];omega)]
  ·intro x hx;simp only [dU,List.mem_map] at hx;obtain ⟨y,_,rfl⟩:=hx;rfl
  ·intro x hx;rw [qi] at hx;simp only [cU,List.mem_map] at hx;obtain ⟨y,_,rfl⟩:=hx;exact .inl ⟨_,rfl⟩
def jf (rows:List Nat) (k:Nat):List Nat:=rows.set k (rows.getD k 0 ||| 2 ^ k)
def oC (k:Nat) (rows:List Nat) (a:Nat):List Nat:=if aV rows a k then rows.set a (rows.getD a 0 ||| rows.getD k 0) else rows
def fx (rows:List Nat) (k e:Nat):List Nat:=(List.range e).foldl (oC k) (jf rows k)
def closeR (rows:List Nat) (e:Nat):List Nat:=(List.range e).foldl (fun r k=>fx r k r.length) rows
theorem NB {rows:List Nat} {i x:Nat} (h:ef rows) (hx:x < 18446744073709551616):ef (rows.set i x):=by
 refine ⟨by rw [List.length_set];exact h.1,fun y hy=>?_⟩;rcases List.mem_or_eq_of_mem_set hy with hy | rfl
 ·exact h.2 y hy
 ·exact hx
theorem lT {rows:List Nat} (h:ef rows) (i:Nat):rows.getD i 0 < 18446744073709551616:=by
 rw [List.getD_eq_getElem?_getD]
 cases hx:rows[i]? with
 | none=>simp
 | some x=>exact h.2 x (mG hx)
theorem NC {rows:List Nat} {k:Nat} (h:ef rows) (hk:k < 64):ef (jf rows k):=
 NB h (Nat.or_lt_two_pow (n:=64) (lT h k) (Nat.pow_lt_pow_right (by decide) hk))
theorem Kl (rows:List Nat) (k:Nat):(jf rows k).length=rows.length:=by simp [jf]
theorem NE {rows:List Nat} {k a:Nat} (h:ef rows):ef (oC k rows a):=by
 unfold oC;split
 ·exact NB h (Nat.or_lt_two_pow (n:=64) (lT h a) (lT h k))
 ·exact h
theorem Km (rows:List Nat) (k a:Nat):(oC k rows a).length=rows.length:=by
 unfold oC;split<;>simp
theorem lU (rows:List Nat) (k e:Nat):fx rows k (e + 1)=oC k (fx rows k e) e:=by simp [fx,List.range_succ]
theorem nU (rows:List Nat) (k:Nat):∀ e,(fx rows k e).length=rows.length
 | 0=>by simp [fx,Kl]
 | e + 1=>by rw [lU,Km,nU]
theorem vH {rows:List Nat} {k:Nat} (h:ef rows) (hk:k < 64):∀ e,ef (fx rows k e)
 | 0=>by simpa [fx] using NC h hk
 | e + 1=>by rw [lU];exact NE (vH h hk e)
theorem ke (rows:List Nat) (e:Nat):closeR rows (e + 1)=fx (closeR rows e) e (closeR rows e).length:=by simp [closeR,List.range_succ]
theorem fl (rows:List Nat):∀ e,(closeR rows e).length=rows.length
 | 0=>by simp [closeR]
 | e + 1=>by rw [ke,nU,fl]
theorem kR {rows:List Nat} (h:ef rows):∀ e,e<=64->ef (closeR rows e)
 | 0,_=>by simpa [closeR] using h
 | e + 1,he=>by rw [ke];exact vH (kR h e (by omega)) (by omega) _
def spU (m:Nat):List DV:=(List.replicate m (vL [Value.int .u64 0])).flatten
theorem vJ {n m:Nat} {tk:List TkE}:∀ l:List DV,(∀ x∈l,∃ y,x = .v y)->WeL n m tk l l
 | [],_=>rfl
 | b :: r,h=>by
  obtain ⟨y,rfl⟩:=h b (by simp);exact ⟨_,_,rfl,ah rfl,vJ r (fun x hx=>h x (by simp [hx]))⟩
theorem kE {n m:Nat} {tk:List TkE} {l:List DV} {ds:List Nat} {k:Nat} (h:l=cU ds ++ spU k):WeL n m tk l (cU ds ++ spU k):=by
 rw [h];refine vJ _ fun x hx=>?_;rcases List.mem_append.1 hx with hx | hx
 ·simp only [cU,List.mem_map] at hx;obtain ⟨y,_,rfl⟩:=hx;exact ⟨_,rfl⟩
 ·simp only [spU,List.mem_flatten,List.mem_replicate] at hx;obtain ⟨y,⟨_,rfl⟩,hx⟩:=hx;simp [vL] at hx;exact ⟨_,hx⟩
theorem AY {r:List Nat} {k i x:Nat} (h:r[i]? = some x):(cU r ++ spU k)[0 + (i:Int).toNat * 1]? = some (DV.v (.int .u64 (x:Int))):=by
 rw [show 0 + (i:Int).toNat * 1=i by omega,List.getElem?_append_left (by rw [oW];exact (gS h).1)];exact Nz h
theorem NF {r:List Nat} {k i x:Nat} (h:i < r.length):(cU r ++ spU k).set (0 + (i:Int).toNat * 1) (DV.v (.int .u64 (x:Int)))=cU (r.set i x) ++ spU k:=by
 rw [show 0 + (i:Int).toNat * 1=i by omega,List.set_append_left _ _ (by rw [oW];exact h),NA]
theorem NG {r:List Nat} {k i:Nat} (h:i < r.length):0 + (i:Int).toNat * 1 + 1<=(cU r ++ spU k).length:=by
 rw [List.length_append,oW];omega
abbrev VW (rows:List Nat) (cap:Nat) (r:List Nat) (e:Nat):St:=
 ⟨[(3,⟨[],.loc 1 0⟩),(19,⟨[],.v (.int .i64 (dU rows).length)⟩),(20,⟨[],.v (.int .i64 e)⟩)],[cU r ++ spU (cap - (dU rows).length),[.ms 0 1 0 (dU rows).length cap]],[]⟩
abbrev IH (rows:List Nat) (cap:Nat) (r:List Nat) (e f:Nat):St:=
 ⟨[(3,⟨[],.loc 1 0⟩),(4,⟨[],.v (.int .i64 e)⟩),(19,⟨[],.v (.int .i64 (dU rows).length)⟩),(20,⟨[],.v (.int .i64 e)⟩),(38,⟨[],.v (.int .i64 (dU rows).length)⟩),(39,⟨[],.v (.int .i64 f)⟩)],[cU r ++ spU (cap - (dU rows).length),[.ms 0 1 0 (dU rows).length cap]],[]⟩
theorem oX {l:List Nat} {i:Nat} (h:i < l.length):l[i]? = some (l.getD i 0):=rH h
theorem abJ (rows:List Nat) (hr:ef rows) (h0:rows ≠ []):EvP prog 72 [mq rows] (mq (closeR rows rows.length)):=by
 have hr1:=hr.1;have hN:=kD rows;have jt:0 < rows.length:=List.length_pos_iff.2 h0;refine uc (s:=false) (bt:=[]) (mu:=[12]) (hbt:=fun p hp=>by cases hp) (fr:=false) (P:=prog) tt aaP 5000 72 [.tmp 2] func72 rfl ntmps72 rfl (nL rfl) (fun _ _ _ _=>?_);refine ⟨⟨by intro h;exact h0 (by simpa [dU] using h),by rw [kD];simp [maxLen];omega,by rw [kD];omega⟩,fun cap JJ=>?_⟩
 have gH:(dU rows).flatten.append (List.replicate (cap - (dU rows).length) (vL [Value.int .u64 0])).flatten=cU (closeR rows 0) ++ spU (cap - (dU rows).length):=by
  show (dU rows).flatten ++ _=_;rw [qi];rfl
 refine lJ (fun e=>VW rows cap (closeR rows e) e) rows.length (az 2 rfl (wA1 gH) rfl rfl rfl (wB1 gH)) ?_;intro e he;have bS:=kR hr e (by omega);have hlen:=fl rows e;have T7:=ke rows e;generalize hce:closeR rows e=r at bS hlen T7 ⊢;refine br ?_ ?_<;>intro hL
 ·have au:e < rows.length:=by have:=hL;simp [hN] at this;exact this
  have hx:=oX (l:=r) (i:=e) (by omega);have hor:=FX (x:=r.getD e 0) (b:=e) (by omega) (lT bS e);refine dS ?_;refine ⟨⟨by omega,by omega⟩,?_⟩;refine ⟨_,AY hx,?_⟩;refine ⟨by omega,?_⟩;refine ⟨⟨by omega,by omega⟩,?_⟩;refine ⟨NG (by omega),?_⟩
  have eN:(cU r ++ spU (cap - (dU rows).length)).set (0 + (e:Int).toNat * 1) (DV.v (.int .u64 (IntKind.u64.wrap ((BitVec.ofInt 64 ((r.getD e 0:Nat):Int) ||| BitVec.ofInt 64 (IntKind.u64.wrap (1 * 2 ^ (min (e:Int).toNat 64)))).toNat:Int))))=cU (fx r e 0) ++ spU (cap - (dU rows).length):=by
   rw [show min (e:Int).toNat 64=min e 64 by omega,hor,NF (by omega)];rfl
  refine lJ (fun f=>IH rows cap (fx r e f) e f) rows.length (az 2 rfl (wA1 eN) rfl rfl rfl (wB1 eN)) ?_;intro f hf;have hpk:=vH (k:=e) bS (by omega) f;have hpl:=nU r e f;have hps:=lU r e f;have dy:e < (fx r e f).length:=by rw [hpl];omega
  refine br ?_ ?_<;>intro hL
  ·have B5:f < rows.length:=by have:=hL;simp [hN] at this;exact this
   have hpf:f < (fx r e f).length:=by rw [hpl];omega
   generalize fx r e f=q at hpk hpl hps dy hpf ⊢;have hy:=oX hpf;have hz:=oX dy;have NH:=IF (x:=q.getD f 0) (b:=e) (by omega) (lT hpk f);have hor:=Ry (lT hpk f) (lT hpk e);refine ⟨⟨by omega,by omega⟩,?_⟩;refine ⟨_,AY hy,?_⟩;refine ⟨by omega,?_⟩;refine br ?_ ?_<;>intro g
   ·have g:aV q f e=true:=NH.symm.trans g;refine dS ?_;refine ⟨⟨by omega,by omega⟩,?_⟩;refine ⟨_,AY hy,?_⟩;refine ⟨⟨by omega,by omega⟩,?_⟩;refine ⟨_,AY hz,?_⟩;refine ⟨⟨by omega,by omega⟩,?_⟩;refine ⟨NG hpf,?_⟩
    have dQ:(cU q ++ spU (cap - (dU rows).length)).set (0 + (f:Int).toNat * 1) (DV.v (.int .u64 (IntKind.u64.wrap ((BitVec.ofInt 64 ((q.getD f 0:Nat):Int) ||| BitVec.ofInt 64 ((q.getD e 0:Nat):Int)).toNat:Int))))=cU (fx r e (f + 1)) ++ spU (cap - (dU rows).length):=by
     rw [hor,NF hpf,hps,oC,if_pos g]
    exact rE ⟨_,by omega,f + 1,rfl,by omega,rfl⟩ (az 2 rfl (wA2 dQ (nxt B5 (by omega))) rfl rfl rfl (dm dQ (nxt B5 (by omega))))
   ·have g:aV q f e=false:=NH.symm.trans g
    have dQ:cU q ++ spU (cap - (dU rows).length)=cU (fx r e (f + 1)) ++ spU (cap - (dU rows).length):=by
     rw [hps,oC,if_neg (by rw [g];decide)]
    exact rE ⟨_,by omega,f + 1,rfl,by omega,rfl⟩ (az 2 rfl (wA2 dQ (nxt B5 (by omega))) rfl rfl rfl (dm dQ (nxt B5 (by omega))))
  ·have aN:f=rows.length:=sW hN hL;subst aN
   have H8:cU (fx r e rows.length) ++ spU (cap - (dU rows).length)=cU (closeR rows (e + 1)) ++ spU (cap - (dU rows).length):=by
    rw [T7,hlen]
   exact rE ⟨_,by omega,e + 1,rfl,by omega,rfl⟩ (az 2 rfl (wA2 H8 (nxt au (by omega))) rfl rfl rfl (dm H8 (nxt au (by omega))))
 ·have aN:e=rows.length:=sW hN hL;subst aN;refine ⟨_,?_,rfl⟩;rw [hce];refine .inr ⟨1,_,rfl,Nat.zero_le _,rfl,_,_,rfl,.inr (.inr (.inl ⟨0,0,cap,cU r ++ spU (cap - (dU rows).length),by rw [kD r,hlen,hN],Nat.zero_le _,rfl,?_,?_,?_⟩)),rfl⟩
  ·rw [qi,kD,Nat.mul_one,List.drop_zero,List.take_append_of_le_length (by rw [oW];omega),List.take_of_length_le (by rw [oW];omega)]
  ·intro x hx;simp only [dU,List.mem_map] at hx;obtain ⟨y,_,rfl⟩:=hx;rfl
  ·intro x hx;rw [qi] at hx;simp only [cU,List.mem_map] at hx;obtain ⟨y,_,rfl⟩:=hx;exact .inl ⟨_,rfl⟩
theorem kS {a b c d:Nat} (ha:a < 256) (hb:b < 256):(a + 256 * c) &&& (b + 256 * d)=(a &&& b) + 256 * (c &&& d):=by
 have h1:a &&& b < 256:=Nat.and_lt_two_pow (n:=8) a hb;apply Nat.eq_of_testBit_eq;intro i
 have e (x y:Nat) (hx:x < 256):(x + 256 * y).testBit i=if i < 8 then x.testBit i else y.testBit (i - 8):=by
  rw [show x + 256 * y=2 ^ 8 * y + x by omega,Nat.testBit_two_pow_mul_add _ (sU hx)]
 rw [Nat.testBit_and,e a c ha,e b d hb,e _ _ h1];split<;>simp [Nat.testBit_and]
def b1 (x:Nat):Nat:=((x / 2) &&& 85) + (x &&& 85)
def b2 (x:Nat):Nat:=((x / 4) &&& 51) + (x &&& 51)
def b3 (x:Nat):Nat:=((x / 16) + x) &&& 15
def pop8 (x:Nat):Nat:=b3 (b2 (b1 x))
theorem II:∀ x:Fin 256,b1 x.val < 256/\b2 (b1 x.val) < 120/\pop8 x.val<=8/\pop8 x.val=(((((((x.val.testBit 0).toNat + (x.val.testBit 1).toNat) + (x.val.testBit 2).toNat) + (x.val.testBit 3).toNat) + (x.val.testBit 4).toNat) + (x.val.testBit 5).toNat) + (x.val.testBit 6).toNat) + (x.val.testBit 7).toNat:=by decide +kernel
def valB:List Nat->Nat
 | []=>0
 | a :: r=>a + 256 * valB r
def rep (m:Nat):Nat->Nat
 | 0=>0
 | n + 1=>m + 256 * rep m n
theorem m1:∀ (a:Fin 256) (c:Fin 2),(a.val / 2 + 128 * c.val) &&& 85=(a.val / 2) &&& 85:=by decide +kernel
theorem m2:∀ (a:Fin 256) (c:Fin 4),(a.val / 4 + 64 * c.val) &&& 51=(a.val / 4) &&& 51:=by decide +kernel
theorem p8:∀ l:List Nat,(∀ a∈l,a < 256)->((valB l / 2) &&& rep 85 l.length) + (valB l &&& rep 85 l.length)=valB (l.map b1)
 | [],_=>rfl
 | a :: r,h=>by
  have ih:=p8 r (fun x hx=>h x (by simp [hx]));have ha:=h a (by simp);have e1:(a + 256 * valB r) / 2=(a / 2 + 128 * (valB r % 2)) + 256 * (valB r / 2):=by omega
  have hm:=m1 ⟨a,ha⟩ ⟨valB r % 2,by omega⟩;simp only at hm;simp only [valB,List.length_cons,rep,List.map_cons,b1];rw [e1,kS (by omega) (by decide),kS ha (by decide),hm,<- ih];omega
theorem JS:∀ l:List Nat,(∀ a∈l,a < 256)->((valB l / 4) &&& rep 51 l.length) + (valB l &&& rep 51 l.length)=valB (l.map b2)
 | [],_=>rfl
 | a :: r,h=>by
  have ih:=JS r (fun x hx=>h x (by simp [hx]));have ha:=h a (by simp);have e1:(a + 256 * valB r) / 4=(a / 4 + 64 * (valB r % 4)) + 256 * (valB r / 4):=by omega
  have hm:=m2 ⟨a,ha⟩ ⟨valB r % 4,by omega⟩;simp only at hm;simp only [valB,List.length_cons,rep,List.map_cons,b2];rw [e1,kS (by omega) (by decide),kS ha (by decide),hm,<- ih];omega
theorem aaz (x y:Nat):(x + 16 * y) &&& 15=x &&& 15:=by
 have h (z:Nat):z &&& 15=z % 16:=Nat.and_two_pow_sub_one_eq_mod z 4;rw [h,h];omega
def C5 (a:Nat):Prop:=a < 70/\a % 16<=4
theorem st3:∀ l:List Nat,(∀ a∈l,C5 a)->((valB l / 16) + valB l) &&& rep 15 l.length=valB (l.map b3)
 | [],_=>rfl
 | a :: r,h=>by
  have ih:=st3 r (fun x hx=>h x (by simp [hx]));have ha:=h a (by simp)
  have hc:valB r % 16<=4:=by
   cases r with
   | nil=>simp [valB]
   | cons b s=>
    have:=(h b (by simp)).2;simp only [valB];omega
  unfold C5 at ha;have e1:(a + 256 * valB r) / 16 + (a + 256 * valB r)=((a / 16 + a) + 16 * (valB r % 16)) + 256 * (valB r / 16 + valB r):=by omega
  simp only [valB,List.length_cons,rep,List.map_cons,b3];rw [e1,kS (by omega) (by decide),aaz,ih]
def aay (x:Nat):List Nat:=[x % 256,x / 256 % 256,x / 65536 % 256,x / 16777216 % 256,x / 4294967296 % 256,x / 1099511627776 % 256,x / 281474976710656 % 256,x / 72057594037927936 % 256]
theorem F0 {x:Nat} (h:x < 18446744073709551616):valB (aay x)=x:=by
 simp only [aay,valB];omega
theorem Kn (x:Nat):∀ a∈aay x,a < 256:=by
 intro a ha;simp only [aay,List.mem_cons,List.not_mem_nil,or_false] at ha;omega
def F1 (x:Nat):Nat:=((aay x).map pop8).sum
theorem C6:∀ a:Fin 256,b1 a.val < 256/\b2 (b1 a.val) < 70/\b2 (b1 a.val) % 16<=4:=by decide +kernel
theorem AZ {x m:Nat} (hx:x < 18446744073709551616) (hm:m < 18446744073709551616) :
  IntKind.u64.wrap ((BitVec.ofInt 64 (x:Int) &&& BitVec.ofInt 64 (m:Int)).toNat:Int)=((x &&& m:Nat):Int):=by
 rw [iB,iB,BitVec.toNat_and,BitVec.toNat_ofNat,BitVec.toNat_ofNat,Nat.mod_eq_of_lt hx,Nat.mod_eq_of_lt hm];have h3:x &&& m < 18446744073709551616:=Nat.and_lt_two_pow (n:=64) x hm;simp only [IntKind.wrap_u64];omega
theorem F2 {x:Nat} {k:Int} (hk:k.toNat < 64):(x:Int).fdiv (2 ^ min k.toNat IntKind.u64.bits)=((x / 2 ^ k.toNat:Nat):Int):=by
 rw [show min k.toNat IntKind.u64.bits=k.toNat from Nat.min_eq_left (by show k.toNat<=64;omega),C4]
theorem A0 {y:Nat} (h:y < 18446744073709551616):IntKind.u64.wrap (y:Int)=(y:Int):=by
 simp only [IntKind.wrap_u64];omega
theorem aaA {k M:Int} {m x y:Nat} (hk:k.toNat < 64) (hx:x < 18446744073709551616) (hM:M=(m:Int)) (hm:m < 18446744073709551616) (hy:((x / 2 ^ k.toNat) &&& m) + (x &&& m)=y) (mi:y < 18446744073709551616) :
  IntKind.u64.wrap (IntKind.u64.wrap ((BitVec.ofInt IntKind.u64.bits ((x:Int).fdiv (2 ^ min k.toNat IntKind.u64.bits)) &&& BitVec.ofInt IntKind.u64.bits M).toNat:Int) + IntKind.u64.wrap ((BitVec.ofInt IntKind.u64.bits (x:Int) &&& BitVec.ofInt IntKind.u64.bits M).toNat:Int))=(y:Int):=by
 subst hM;have h1:x / 2 ^ k.toNat < 18446744073709551616:=Nat.lt_of_le_of_lt (Nat.div_le_self _ _) hx;have e1:IntKind.u64.wrap ((BitVec.ofInt IntKind.u64.bits ((x / 2 ^ k.toNat:Nat):Int) &&& BitVec.ofInt IntKind.u64.bits (m:Int)).toNat:Int)=_:=AZ h1 hm;have e2:IntKind.u64.wrap ((BitVec.ofInt IntKind.u64.bits (x:Int) &&& BitVec.ofInt IntKind.u64.bits (m:Int)).toNat:Int)=_:=AZ hx hm;rw [F2 hk,e1,e2,<- Int.natCast_add,hy,A0 mi]
theorem stgB {k M:Int} {m x y:Nat} (hk:k.toNat < 64) (hs:x / 2 ^ k.toNat + x < 18446744073709551616) (hM:M=(m:Int)) (hm:m < 18446744073709551616) (hy:((x / 2 ^ k.toNat) + x) &&& m=y) :
  IntKind.u64.wrap ((BitVec.ofInt IntKind.u64.bits (IntKind.u64.wrap ((x:Int).fdiv (2 ^ min k.toNat IntKind.u64.bits) + (x:Int))) &&& BitVec.ofInt IntKind.u64.bits M).toNat:Int)=(y:Int):=by
 subst hM;have e2:IntKind.u64.wrap ((BitVec.ofInt IntKind.u64.bits ((x / 2 ^ k.toNat + x:Nat):Int) &&& BitVec.ofInt IntKind.u64.bits (m:Int)).toNat:Int)=_:=AZ hs hm;rw [F2 hk,<- Int.natCast_add,A0 hs,e2,hy]
theorem VX {k:Int} {x:Nat} (hk:k.toNat < 64) (hs:x + x / 2 ^ k.toNat < 18446744073709551616) :
  IntKind.u64.wrap ((x:Int) + (x:Int).fdiv (2 ^ min k.toNat IntKind.u64.bits))=((x + x / 2 ^ k.toNat:Nat):Int):=by
 rw [F2 hk,<- Int.natCast_add,A0 hs]
theorem IJ:∀ l:List Nat,(∀ a∈l,a < 256)->valB l < 256 ^ l.length
 | [],_=>by simp [valB]
 | a :: r,h=>by
  have ih:=IJ r (fun x hx=>h x (by simp [hx]));have ha:=h a (by simp);simp only [valB,List.length_cons,Nat.pow_succ];omega
theorem NI {x:Nat} (hx:x < 18446744073709551616):∃ y1 y2 y3:Nat,((x / 2) &&& 6148914691236517205) + (x &&& 6148914691236517205)=y1/\y1 < 18446744073709551616/\((y1 / 4) &&& 3689348814741910323) + (y1 &&& 3689348814741910323)=y2/\y2 / 16 + y2 < 18446744073709551616/\y2 < 18446744073709551616 /\
  ((y2 / 16) + y2) &&& 1085102592571150095=y3/\∃ p0 p1 p2 p3 p4 p5 p6 p7:Nat,y3=valB [p0,p1,p2,p3,p4,p5,p6,p7]/\(p0<=8/\p1<=8/\p2<=8/\p3<=8/\p4<=8/\p5<=8/\p6<=8/\p7<=8)/\F1 x=p0 + p1 + p2 + p3 + p4 + p5 + p6 + p7:=by
 have hl:=Kn x;have s1:=p8 (aay x) hl;rw [F0 hx] at s1
 have l1:∀ a∈(aay x).map b1,a < 256:=by
  intro a ha;obtain ⟨b,hb,rfl⟩:=List.mem_map.1 ha;exact (C6 ⟨b,hl b hb⟩).1
 have l2:∀ a∈((aay x).map b1).map b2,C5 a:=by
  intro a ha;obtain ⟨c,hc,rfl⟩:=List.mem_map.1 ha;obtain ⟨b,hb,rfl⟩:=List.mem_map.1 hc;exact (C6 ⟨b,hl b hb⟩).2
 have s2:=JS ((aay x).map b1) l1;have s3:=st3 (((aay x).map b1).map b2) l2
 have v1:valB ((aay x).map b1) < 18446744073709551616:=by
  have:=IJ _ l1;rw [List.length_map,show (aay x).length=8 from rfl] at this;simpa using this
 rw [show rep 85 (aay x).length=6148914691236517205 from (by decide:rep 85 8=_)] at s1;rw [List.length_map,show rep 51 (aay x).length=3689348814741910323 from (by decide:rep 51 8=_)] at s2;rw [List.length_map,List.length_map,show rep 15 (aay x).length=1085102592571150095 from (by decide:rep 15 8=_)] at s3;refine ⟨_,_,_,s1,v1,s2,?_,?_,s3,_,_,_,_,_,_,_,_,rfl,?_,?_⟩
 ·have:=l2;simp only [aay,List.map_cons,List.map_nil,List.mem_cons,List.not_mem_nil,or_false,forall_eq_or_imp,forall_eq,C5,valB] at this ⊢;omega
 ·have:=l2;simp only [aay,List.map_cons,List.map_nil,List.mem_cons,List.not_mem_nil,or_false,forall_eq_or_imp,forall_eq,C5,valB] at this ⊢;omega
 ·have h (b:Nat) (hb:b < 256):=(II ⟨b,hb⟩).2.2.1;exact ⟨h _ (by omega),h _ (by omega),h _ (by omega),h _ (by omega),h _ (by omega),h _ (by omega),h _ (by omega),h _ (by omega)⟩
 ·simp only [F1,aay,List.map_cons,List.map_nil,List.sum_cons,List.sum_nil,pop8];omega
theorem dr1 {a r:Nat} (h:a < 256):(a + 256 * r) / 256=r:=by omega
theorem dr2 {a b r:Nat} (h:a < 256) (h2:b < 256):(a + 256 * (b + 256 * r)) / 65536=r:=by omega
theorem dr4 {a b c d r:Nat} (h:a < 256) (h2:b < 256) (h3:c < 256) (h4:d < 256):(a + 256 * (b + 256 * (c + 256 * (d + 256 * r)))) / 4294967296=r:=by omega
theorem NJ {p0 p1 p2 p3 p4 p5 p6 p7:Nat} (hp:p0<=8/\p1<=8/\p2<=8/\p3<=8/\p4<=8/\p5<=8/\p6<=8/\p7<=8):∃ z1 z2 z3:Nat,
  (p0 + 256 * (p1 + 256 * (p2 + 256 * (p3 + 256 * (p4 + 256 * (p5 + 256 * (p6 + 256 * (p7 + 256 * 0)))))))) + (p0 + 256 * (p1 + 256 * (p2 + 256 * (p3 + 256 * (p4 + 256 * (p5 + 256 * (p6 + 256 * (p7 + 256 * 0)))))))) / 256=z1/\z1 < 18446744073709551616 /\
  z1 + z1 / 65536=z2/\z2 < 18446744073709551616/\z2 + z2 / 4294967296=z3/\z3 < 18446744073709551616/\z3 % 128=p0 + p1 + p2 + p3 + p4 + p5 + p6 + p7:=by
 refine ⟨(p0 + p1) + 256 * ((p1 + p2) + 256 * ((p2 + p3) + 256 * ((p3 + p4) + 256 * ((p4 + p5) + 256 * ((p5 + p6) + 256 * ((p6 + p7) + 256 * p7)))))),
  (p0 + p1 + p2 + p3) + 256 * ((p1 + p2 + p3 + p4) + 256 * ((p2 + p3 + p4 + p5) + 256 * ((p3 + p4 + p5 + p6) + 256 * ((p4 + p5 + p6 + p7) + 256 * ((p5 + p6 + p7) + 256 * ((p6 + p7) + 256 * p7)))))),
  (p0 + p1 + p2 + p3 + p4 + p5 + p6 + p7) + 256 * ((p1 + p2 + p3 + p4 + p5 + p6 + p7) + 256 * ((p2 + p3 + p4 + p5 + p6 + p7) + 256 * ((p3 + p4 + p5 + p6 + p7) + 256 * ((p4 + p5 + p6 + p7) + 256 * ((p5 + p6 + p7) + 256 * ((p6 + p7) + 256 * p7)))))),?_,by omega,?_,by omega,?_,by omega,by omega⟩
 ·rw [dr1 (by omega)];omega
 ·rw [dr2 (by omega) (by omega)];omega
 ·rw [dr4 (by omega) (by omega) (by omega) (by omega)];omega
theorem NK {z:Nat} (h:z < 18446744073709551616):IntKind.i64.wrap ((BitVec.ofInt IntKind.i64.bits (IntKind.i64.wrap (z:Int)) &&& BitVec.ofInt IntKind.i64.bits 127).toNat:Int)=((z % 128:Nat):Int):=by
 have e1:BitVec.ofInt 64 (IntKind.i64.wrap (z:Int))=BitVec.ofNat 64 z:=by
  apply BitVec.eq_of_toNat_eq;rw [BitVec.toNat_ofInt,BitVec.toNat_ofNat,IntKind.wrap_i64];omega
 have e2:(BitVec.ofInt 64 (IntKind.i64.wrap (z:Int)) &&& BitVec.ofInt 64 127).toNat=z % 128:=by
  rw [e1,show BitVec.ofInt 64 127=BitVec.ofNat 64 127 by decide,BitVec.toNat_and,BitVec.toNat_ofNat,BitVec.toNat_ofNat,Nat.mod_eq_of_lt h];exact Nat.and_two_pow_sub_one_eq_mod z 7
 have e3:(BitVec.ofInt IntKind.i64.bits (IntKind.i64.wrap (z:Int)) &&& BitVec.ofInt IntKind.i64.bits 127).toNat=z % 128:=e2;rw [e3,IntKind.wrap_i64];omega
theorem Ko (x:Nat) (hx:x < 18446744073709551616):EvP prog 128 [.v (.int .u64 x)] (.v (.int .i64 (F1 x:Nat))):=by
 obtain ⟨y1,y2,y3,h1,XG,h2,h2s,h2b,h3,p0,p1,p2,p3,p4,p5,p6,p7,h4,hp,h5⟩:=NI hx;rw [h5];simp only [valB] at h4;refine eG 35 [.tmp 2] func128 rfl ntmps128 rfl fun _ _ _ _=>?_;refine ⟨by decide,?_⟩;refine ⟨by decide,?_⟩;refine ⟨by decide,?_⟩;refine ⟨by decide,?_⟩;refine ⟨by decide,?_⟩;refine ⟨by decide,?_⟩;refine (congrArg (fun z=>DV.v (.int .i64 z)) ?_:_=_);rw [aaA (k:=1) (M:=6148914691236517205) (by decide) hx rfl (by decide) h1 XG,aaA (k:=2) (M:=3689348814741910323) (by decide) XG rfl (by decide) h2 h2b,stgB (k:=4) (M:=1085102592571150095) (by decide) h2s rfl (by decide) h3];obtain ⟨z1,z2,z3,g1,g1b,g2,g2b,g3,g3b,g4⟩:=NJ hp;rw [<- h4] at g1;have k1:y3 + y3 / 2 ^ (8:Int).toNat=z1:=g1;rw [VX (k:=8) (by decide) (by rw [k1];exact g1b),k1];have k2:z1 + z1 / 2 ^ (16:Int).toNat=z2:=g2;rw [VX (k:=16) (by decide) (by rw [k2];exact g2b),k2];have k3:z2 + z2 / 2 ^ (32:Int).toNat=z3:=g3;rw [VX (k:=32) (by decide) (by rw [k3];exact g3b),k3,<- g4];exact NK g3b
theorem iR (x k i:Nat) (hi:i < 8):(x / 2 ^ (8 * k) % 256).testBit i=x.testBit (8 * k + i):=by
 rw [show (256:Nat)=2 ^ 8 by decide,Nat.testBit_mod_two_pow,decide_eq_true hi,Bool.true_and,Nat.testBit_div_two_pow,Nat.add_comm]
theorem iS (x k:Nat):pop8 (x / 2 ^ (8 * k) % 256)=(((((((x.testBit (8 * k + 0)).toNat + (x.testBit (8 * k + 1)).toNat) + (x.testBit (8 * k + 2)).toNat) + (x.testBit (8 * k + 3)).toNat) + (x.testBit (8 * k + 4)).toNat) + (x.testBit (8 * k + 5)).toNat) + (x.testBit (8 * k + 6)).toNat) + (x.testBit (8 * k + 7)).toNat:=by
 have h:=(II ⟨x / 2 ^ (8 * k) % 256,Nat.mod_lt _ (by decide)⟩).2.2.2;simp only at h;rw [h,iR x k 0 (by decide),iR x k 1 (by decide),iR x k 2 (by decide),iR x k 3 (by decide),iR x k 4 (by decide),iR x k 5 (by decide),iR x k 6 (by decide),iR x k 7 (by decide)]
def sumB (x:Nat):Nat->Nat
 | 0=>0
 | n + 1=>sumB x n + (x.testBit n).toNat
theorem NL (x:Nat):F1 x=sumB x 64:=by
 have h0:=iS x 0;have h1:=iS x 1;have h2:=iS x 2;have h3:=iS x 3;have h4:=iS x 4;have h5:=iS x 5;have h6:=iS x 6;have h7:=iS x 7;simp only [Nat.mul_zero,Nat.pow_zero,Nat.div_one] at h0;simp only [F1,aay,List.map_cons,List.map_nil,List.sum_cons,List.sum_nil,sumB];rw [h0]
 rw [show x / 256=x / 2 ^ (8 * 1) by rfl,h1,show x / 65536=x / 2 ^ (8 * 2) by rfl,h2,show x / 16777216=x / 2 ^ (8 * 3) by rfl,h3,show x / 4294967296=x / 2 ^ (8 * 4) by rfl,h4,
  show x / 1099511627776=x / 2 ^ (8 * 5) by rfl,h5,show x / 281474976710656=x / 2 ^ (8 * 6) by rfl,h6,show x / 72057594037927936=x / 2 ^ (8 * 7) by rfl,h7]
 simp only [Nat.reduceMul,Nat.reduceAdd];omega
theorem vK (x:Nat):∀ n,0 < sumB x n↔∃ b,b < n/\x.testBit b=true
 | 0=>by simp [sumB]
 | n + 1=>by
  have ih:=vK x n;simp only [sumB];cases h:x.testBit n
  ·simp only [Bool.toNat_false,Nat.add_zero,ih]
   exact ⟨fun ⟨b,hb,hx⟩=>⟨b,by omega,hx⟩,fun ⟨b,hb,hx⟩=>⟨b,by
    rcases Nat.lt_succ_iff_lt_or_eq.1 hb with hb | rfl
    ·exact ⟨hb,hx⟩
    ·rw [h] at hx;cases hx⟩⟩
  ·simp only [Bool.toNat_true];exact ⟨fun _=>⟨n,by omega,h⟩,fun _=>by omega⟩
theorem C7 (x a:Nat) (ha:x.testBit a=true):∀ n,a < n->(1 < sumB x n↔∃ b,b < n/\b≠a/\x.testBit b=true)
 | 0,h=>by omega
 | n + 1,h=>by
  simp only [sumB];by_cases hn:a=n
  ·subst hn;rw [ha,Bool.toNat_true];have:=vK x a;constructor
   ·intro h1;obtain ⟨b,hb,hx⟩:=this.1 (by omega);exact ⟨b,by omega,by omega,hx⟩
   ·rintro ⟨b,hb,aT,hx⟩;have:=this.2 ⟨b,by omega,hx⟩;omega
  ·have ih:=C7 x a ha n (by omega);have hp:=(vK x n).2 ⟨a,by omega,ha⟩;cases hb:x.testBit n
   ·simp only [Bool.toNat_false,Nat.add_zero,ih]
    exact ⟨fun ⟨b,h1,h2,h3⟩=>⟨b,by omega,h2,h3⟩,fun ⟨b,h1,h2,h3⟩=>⟨b,by
     rcases Nat.lt_succ_iff_lt_or_eq.1 h1 with h1 | rfl
     ·exact ⟨h1,h2,h3⟩
     ·rw [hb] at h3;cases h3⟩⟩
   ·simp only [Bool.toNat_true];exact ⟨fun _=>⟨n,by omega,fun e=>hn e.symm,hb⟩,fun _=>by omega⟩
def bR (p:Nat->Bool) (n:Nat):Option Nat:=(List.range n).find? p
theorem cF {p:Nat->Bool} {n e:Nat} (he:e < n) (hp:p e=true) (h:∀ a,a < e->p a=false):bR p n=some e:=by
 unfold bR;rw [List.find?_eq_some_iff_getElem];refine ⟨hp,e,by simpa using he,by simp,fun j hj=>?_⟩;simp [h j hj]
theorem cL {p:Nat->Bool} {n:Nat} (h:∀ a,a < n->p a=false):bR p n=none:=by
 unfold bR;rw [List.find?_eq_none];intro x hx;simp [h x (sU hx)]
theorem dJ {p:Nat->Bool} {n e:Nat} (h:bR p n=some e):e < n/\p e=true/\∀ a,a < e->p a=false:=by
 unfold bR at h;rw [List.find?_eq_some_iff_getElem] at h;obtain ⟨h1,i,hi,rfl,h3⟩:=h;refine ⟨by simpa using hi,h1,fun a ha=>?_⟩;have:=h3 a (sU ha);simpa using this
def qk (c:List Nat) (a:Nat):Bool:=decide (1 < F1 (backN c a c.length))
def NN:Option Nat->DV
 | some a=>.tup [.v (.int .i64 (a:Int)),.v (.bool true)]
 | none=>.tup [.v (.int .i64 0),.v (.bool false)]
abbrev A1 (c:List Nat) (e:Nat):St:=
 ⟨[(4,⟨[],mq c⟩),(9,⟨[],.v (.int .i64 c.length)⟩),(10,⟨[],.v (.int .i64 e)⟩)],[],[]⟩
theorem F3 (rows:List Nat) (hr:ef rows) (h0:rows ≠ []):EvP prog 71 [mq rows] (NN (bR (qk (closeR rows rows.length)) rows.length)):=by
 have hc:=abJ rows hr h0;have bS:=kR hr rows.length hr.1;have hlen:=fl rows rows.length;have hr1:=hr.1;generalize closeR rows rows.length=c at hc bS hlen ⊢;rw [<- hlen];have hl:=y9 c;refine eG 20 [.tmp 2,.tmp 3] func71 rfl ntmps71 rfl fun _ _ _ _=>?_;refine cP Y4 hc ?_;refine cP MM hl ?_;refine lI (fun j st=>∃ e:Nat,st=A1 c e/\e<=c.length/\(∀ a,a < e->qk c a=false)/\j=c.length - e) ⟨0,rfl,by omega,fun a h=>by omega,rfl⟩ (weak_mk ⟨_,rfl⟩ wA rfl rfl rfl wB) ?_;rintro j st ⟨e,rfl,he,eS,rfl⟩;refine br ?_ ?_<;>intro hL
 ·have au:e < c.length:=by have:=hL;simp at this;exact this
  have VV:backN c e c.length < 18446744073709551616:=by
   have h1:=vC c e c.length;have:2 ^ c.length<=2 ^ 64:=Nat.pow_le_pow_right (by decide) (by omega);omega
  refine cP Zn (FY c bS e au) ?_;refine cP Zm (Ko _ VV) ?_;refine br ?_ ?_<;>intro g
  ·have g:qk c e=true:=by
    simp at g;simp [qk];omega
   rw [cF au g eS];refine ⟨_,?_,rfl⟩;exact ax
  ·have g:qk c e=false:=by
    simp at g;simp [qk];omega
   exact rE ⟨_,by omega,e + 1,rfl,by omega,fun a ha=>by
    rcases Nat.lt_succ_iff_lt_or_eq.1 ha with ha | rfl
    ·exact eS a ha
    ·exact g,rfl⟩ (weak_mk ⟨_,rfl⟩ wA rfl rfl rfl (wB1 (nxt au (by omega))))
 ·have aN:e=c.length:=by have:=hL;simp at this;omega
  subst aN;rw [cL eS];refine ⟨_,?_,rfl⟩;exact ax
theorem vM {rows:List Nat} {i x a b:Nat} (hi:i < rows.length):aV (rows.set i x) a b=if a=i then x.testBit b else aV rows a b:=by
 unfold aV;simp only [List.getD_eq_getElem?_getD];by_cases h:a=i
 ·subst h;rw [List.getElem?_set_self hi,if_pos rfl];all_goals rfl
 ·rw [List.getElem?_set_ne (Ne.symm h),if_neg h]
theorem nV {rows:List Nat} {k a b:Nat} (hk:k < rows.length):aV (jf rows k) a b=(aV rows a b || (decide (a=k) && decide (b=k))):=by
 unfold jf;rw [vM hk];by_cases h:a=k
 ·subst h;rw [if_pos rfl,gQ];simp only [decide_true,Bool.true_and];rw [show decide (a=b)=decide (b=a) from by simp only [eq_comm]];rfl
 ·rw [if_neg h];simp [h]
theorem Kp {rows:List Nat} {k i a b:Nat} (hi:i < rows.length):aV (oC k rows i) a b=(aV rows a b || (decide (a=i) && (aV rows a k && aV rows k b))):=by
 unfold oC;by_cases h:aV rows i k=true
 ·rw [if_pos h,vM hi];by_cases ha:a=i
  ·subst ha;rw [if_pos rfl,Nat.testBit_or];simp only [decide_true,Bool.true_and,h];rfl
  ·rw [if_neg ha];simp [ha]
 ·rw [if_neg h];by_cases ha:a=i
  ·subst ha;simp only [Bool.not_eq_true] at h;simp [h]
  ·simp [ha]
theorem za {rows:List Nat} {k:Nat} (hk:k < rows.length):∀ e,e<=rows.length->∀ a b,aV (fx rows k e) a b=(aV (jf rows k) a b || (decide (a < e) && (aV (jf rows k) a k && aV (jf rows k) k b)))
 | 0,_,a,b=>by simp [fx]
 | e + 1,he,a,b=>by
  have ih:=za hk e (by omega);rw [lU,Kp (by rw [nU];omega),ih a b,ih a k,ih k b];have Ci:aV (jf rows k) k k=true:=by rw [nV hk];simp
  generalize aV (jf rows k)=s at *;by_cases h1:a=e
  ·subst h1;simp only [Nat.lt_irrefl,decide_false,Bool.false_and,Bool.or_false,decide_true,Bool.true_and,Nat.lt_succ_self,Ci];cases s a b<;>cases s a k<;>cases s k b<;>simp
  ·by_cases h2:a < e
   ·have:a < e + 1:=by omega
    simp [h1,h2,this]
   ·have:¬ a < e + 1:=by omega
    simp [h1,h2,this]
inductive um (p:Nat->Nat->Prop):Nat->Nat->Prop
 | refl (a:Nat):um p a a
 | step {a b c:Nat}:um p a b->p b c->um p a c
theorem um.trans {p:Nat->Nat->Prop} {a b c:Nat} (h1:um p a b) (h2:um p b c):um p a c:=by
 induction h2 with
 | refl=>exact h1
 | step _ h ih=>exact .step ih h
theorem um.mono {p q:Nat->Nat->Prop} (h:∀ a b,p a b->um q a b) {a b:Nat} (h1:um p a b):um q a b:=by
 induction h1 with
 | refl=>exact .refl _
 | step _ h2 ih=>exact ih.trans (h _ _ h2)
def wayQ (p:Nat->Nat->Prop):Nat->Nat->Nat->Prop
 | 0,a,b=>a=b∨p a b
 | k + 1,a,b=>wayQ p k a b∨(wayQ p k a k/\wayQ p k k b)
theorem zb {p:Nat->Nat->Prop} (a:Nat):∀ k,wayQ p k a a
 | 0=>.inl rfl
 | k + 1=>.inl (zb a k)
theorem zc {p:Nat->Nat->Prop} {a b:Nat} (h:p a b):∀ k,wayQ p k a b
 | 0=>.inr h
 | k + 1=>.inl (zc h k)
theorem ql {p:Nat->Nat->Prop}:∀ k a b,wayQ p k a b->um p a b
 | 0,a,b,h=>by
  rcases h with rfl | h
  ·exact .refl _
  ·exact .step (.refl _) h
 | k + 1,a,b,h=>by
  rcases h with h | ⟨h1,h2⟩
  ·exact ql k a b h
  ·exact (ql k a k h1).trans (ql k k b h2)
theorem lV {p:Nat->Nat->Prop}:∀ k a m b,m < k->wayQ p k a m->wayQ p k m b->wayQ p k a b
 | 0,_,_,_,h,_,_=>by omega
 | k + 1,a,m,b,hm,h1,h2=>by
  by_cases VY:m=k
  ·subst VY
   have tB:wayQ p m a m:=by
    rcases h1 with h1 | h1
    ·exact h1
    ·exact h1.1
   have C8:wayQ p m m b:=by
    rcases h2 with h2 | h2
    ·exact h2
    ·exact h2.2
   exact .inr ⟨tB,C8⟩
  ·have oK:m < k:=by omega
   rcases h1 with h1 | ⟨h1,h3⟩
   ·rcases h2 with h2 | ⟨h2,h4⟩
    ·exact .inl (lV k a m b oK h1 h2)
    ·exact .inr ⟨lV k a m k oK h1 h2,h4⟩
   ·rcases h2 with h2 | ⟨h2,h4⟩
    ·exact .inr ⟨h1,lV k k m b oK h3 h2⟩
    ·exact .inr ⟨h1,h4⟩
theorem vN {rows:List Nat}:∀ k,k<=rows.length->∀ a b,a < rows.length->((aV (closeR rows k) a b=true∨a=b)↔wayQ (fun x y=>aV rows x y=true) k a b)/\(a < k->aV (closeR rows k) a a=true)
 | 0,_,a,b,_=>by
  refine ⟨?_,fun h=>by omega⟩;simp only [closeR,List.range_zero,List.foldl_nil,wayQ];exact or_comm
 | k + 1,hk,a,b,ha=>by
  have ih:=vN (rows:=rows) k (by omega);have jm:k < (closeR rows k).length:=by rw [fl];omega
  have hb:∀ a b,a < rows.length->aV (closeR rows (k + 1)) a b=(aV (jf (closeR rows k) k) a b || (aV (jf (closeR rows k) k) a k && aV (jf (closeR rows k) k) k b)):=fun a b ha=>by
   rw [ke,za jm _ (Nat.le_refl _)];simp [fl,ha]
  have vO:∀ a b,(aV (jf (closeR rows k) k) a b=true∨a=b)↔(aV (closeR rows k) a b=true∨a=b):=fun a b=>by
   rw [nV jm];simp only [Bool.or_eq_true,Bool.and_eq_true,decide_eq_true_eq];constructor
   ·rintro ((h | ⟨rfl,rfl⟩) | h)
    ·exact .inl h
    ·exact .inr rfl
    ·exact .inr h
   ·rintro (h | h)
    ·exact .inl (.inl h)
    ·exact .inr h
  have Ci:aV (jf (closeR rows k) k) k k=true:=by rw [nV jm];simp
  have key:∀ a b,a < rows.length->((aV (closeR rows (k + 1)) a b=true∨a=b)↔wayQ (fun x y=>aV rows x y=true) (k + 1) a b):=fun a b ha=>by
   rw [hb a b ha];show _↔wayQ _ k a b∨(wayQ _ k a k/\wayQ _ k k b);rw [<- (ih a b ha).1,<- (ih a k ha).1,<- (ih k b (by omega)).1,<- vO a b,<- vO a k,<- vO k b];simp only [Bool.or_eq_true,Bool.and_eq_true];constructor
   ·rintro ((h | ⟨h1,h2⟩) | h)
    ·exact .inl (.inl h)
    ·exact .inr ⟨.inl h1,.inl h2⟩
    ·exact .inl (.inr h)
   ·rintro ((h | h) | ⟨h1,h2⟩)
    ·exact .inl (.inl h)
    ·exact .inr h
    ·rcases h1 with h1 | rfl
     ·rcases h2 with h2 | rfl
      ·exact .inl (.inr ⟨h1,h2⟩)
      ·exact .inl (.inl h1)
     ·rcases h2 with h2 | rfl
      ·exact .inl (.inl h2)
      ·exact .inr rfl
  refine ⟨key a b ha,fun hak=>?_⟩;rw [hb a a ha];by_cases h:a=k
  ·subst h;rw [Ci];all_goals rfl
  ·have:=(ih a a ha).2 (by omega);rw [nV jm,this];all_goals rfl
theorem F4 {rows:List Nat} (hb:∀ a b,a < rows.length->aV rows a b=true->b < rows.length) {a b:Nat} (ha:a < rows.length) (hbl:b < rows.length):aV (closeR rows rows.length) a b=true↔um (fun x y=>x < rows.length/\aV rows x y=true) a b:=by
 have hw:=vN (rows:=rows) rows.length (Nat.le_refl _) a b ha
 have h1:aV (closeR rows rows.length) a b=true↔wayQ (fun x y=>aV rows x y=true) rows.length a b:=by
  rw [<- hw.1];constructor
  ·exact .inl
  ·rintro (h | rfl)
   ·exact h
   ·exact hw.2 ha
 rw [h1];constructor
 ·intro h
  have au:∀ {x},um (fun x y=>aV rows x y=true) a x->um (fun x y=>x < rows.length/\aV rows x y=true) a x/\x < rows.length:=by
   intro x hx
   induction hx with
   | refl=>exact ⟨.refl _,ha⟩
   | step _ h2 ih=>exact ⟨.step ih.1 ⟨ih.2,h2⟩,hb _ _ ih.2 h2⟩
  exact (au (ql _ _ _ h)).1
 ·intro h
  have:wayQ (fun x y=>aV rows x y=true) rows.length a b/\b < rows.length:=by
   clear h1 hw hbl
   induction h with
   | refl=>exact ⟨zb _ _,ha⟩
   | step _ h2 ih=>exact ⟨lV _ _ _ _ ih.2 ih.1 (zc h2.2 _),hb _ _ h2.1 h2.2⟩
  exact this.1
theorem NO {rows:List Nat} {p:Nat × Nat} {a b:Nat} (hp:p.1 < rows.length):aV (vG rows p) a b=(aV rows a b || (decide (a=p.1) && decide (b=p.2))):=by
 unfold vG;rw [vM hp];by_cases h:a=p.1
 ·subst h;rw [if_pos rfl,gQ];simp only [decide_true,Bool.true_and];rw [show decide (p.2=b)=decide (b=p.2) from by simp only [eq_comm]];rfl
 ·rw [if_neg h];simp [h]
theorem zd:∀ (l:List (Nat × Nat)) (rows:List Nat) (a b:Nat),(∀ p∈l,p.1 < rows.length)->(aV (l.foldl vG rows) a b=true↔aV rows a b=true∨(a,b)∈l)
 | [],_,_,_,_=>by simp
 | p :: l,rows,a,b,h=>by
  rw [List.foldl_cons,zd l _ a b (fun q hq=>by rw [qj];exact h q (by simp [hq])),NO (h p (by simp))];simp only [Bool.or_eq_true,Bool.and_eq_true,decide_eq_true_eq,List.mem_cons];constructor
  ·rintro ((h1 | ⟨rfl,rfl⟩) | h1)
   ·exact .inl h1
   ·exact .inr (.inl rfl)
   ·exact .inr (.inr h1)
  ·rintro (h1 | rfl | h1)
   ·exact .inl (.inl h1)
   ·exact .inl (.inr ⟨rfl,rfl⟩)
   ·exact .inr h1
theorem vP {n:Nat} {l:List (Nat × Nat)} (h:∀ p∈l,p.1 < n) (a b:Nat):aV (fb n l) a b=true↔(a,b)∈l:=by
 unfold fb;rw [zd l _ a b (fun p hp=>by rw [List.length_replicate];exact h p hp)];constructor
 ·rintro (h1 | h1)
  ·unfold aV at h1;rw [List.getD_eq_getElem?_getD,List.getElem?_replicate] at h1;split at h1<;>simp at h1
  ·exact h1
 ·exact .inr
def eO (n:Nat) (l:List (Nat × Nat)) (a b:Nat):Bool:=aV (closeR (fb n l) n) a b
def rN (n:Nat) (l:List (Nat × Nat)):Prop:=∀ p∈l,p.1 < n/\p.2 < n
theorem mW {n:Nat} {l:List (Nat × Nat)} (h:rN n l) {a b:Nat} (ha:a < n) (hb:b < n):eO n l a b=true↔um (fun x y=>(x,y)∈l) a b:=by
 have hlen:(fb n l).length=n:=jP n l;unfold eO
 have:=F4 (rows:=fb n l) (fun a b _ NH=>by
  rw [vP (fun p hp=>(h p hp).1)] at NH
  rw [hlen];exact (h _ NH).2) (a:=a) (b:=b) (by omega) (by omega)
 rw [hlen] at this;rw [this];constructor
 ·exact um.mono fun x y Fz=>.step (.refl _) ((vP (fun p hp=>(h p hp).1) x y).1 Fz.2)
 ·exact um.mono fun x y Fz=>.step (.refl _) ⟨(h _ Fz).1,(vP (fun p hp=>(h p hp).1) x y).2 Fz⟩
theorem rO {n:Nat} {l:List (Nat × Nat)} (h:rN n l) {a:Nat} (ha:a < n):eO n l a a=true:=(mW h ha ha).2 (.refl _)
theorem F5 {n:Nat} {l:List (Nat × Nat)} (h:rN n l) {a b c:Nat} (ha:a < n) (hb:b < n) (hc:c < n) (h1:eO n l a b=true) (h2:eO n l b c=true):eO n l a c=true:=
 (mW h ha hc).2 (((mW h ha hb).1 h1).trans ((mW h hb hc).1 h2))
def kf (n:Nat) (f:Nat->Nat->Bool) (a:Nat):Bool:=(List.range n).any fun b=>decide (a≠b) && (f a b && f b a)
theorem NP {n:Nat} {l:List (Nat × Nat)} (hn:n<=64) (h:rN n l) {a:Nat} (ha:a < n):qk (closeR (fb n l) n) a=kf n (eO n l) a:=by
 have hlen:(closeR (fb n l) n).length=n:=by rw [fl,jP]
 unfold qk kf;rw [NL,hlen,Bool.eq_iff_iff,decide_eq_true_eq]
 have haa:(backN (closeR (fb n l) n) a n).testBit a=true:=by
  rw [rM];have:aV (closeR (fb n l) n) a a=true:=rO h ha;simp [ha,this]
 rw [C7 _ a haa 64 (by omega)];simp only [List.any_eq_true,List.mem_range,Bool.and_eq_true,decide_eq_true_eq,rM];constructor
 ·rintro ⟨b,_,aT,hb,h1,h2⟩;exact ⟨b,hb,fun e=>aT e.symm,h1,h2⟩
 ·rintro ⟨b,hb,aT,h1,h2⟩;exact ⟨b,by omega,fun e=>aT e.symm,hb,h1,h2⟩
theorem A2 {p q:Nat->Bool} {n:Nat} (h:∀ a,a < n->p a=q a):bR p n=bR q n:=by
 unfold bR
 have:∀ (l:List Nat),(∀ a∈l,p a=q a)->l.find? p=l.find? q:=by
  intro l
  induction l with
  | nil=>intro _;rfl
  | cons x r ih=>
   intro hl;rw [List.find?_cons,List.find?_cons,hl x (by simp),ih (fun a ha=>hl a (by simp [ha]))]
 exact this _ fun a ha=>h a (List.mem_range.1 ha)
theorem RA {n:Nat} {l:List (Nat × Nat)} (hn:n<=64) (h:rN n l):bR (qk (closeR (fb n l) n)) n=bR (kf n (eO n l)) n:=
 A2 fun _ ha=>NP hn h ha
def gT (r:List Bool) (p:Nat × Nat):List Bool:=if r.getD p.1 false then r.set p.2 true else r
def iC (l:List (Nat × Nat)) (r:List Bool):List Bool:=l.foldl gT r
def cA (l:List (Nat × Nat)) (r:List Bool) (k:Nat):List Bool:=(List.range k).foldl (fun r _=>iC l r) r
def tM (n:Nat) (l:List (Nat × Nat)) (a:Nat):List Bool:=cA l ((List.replicate n false).set a true) n
theorem eH (l:List (Nat × Nat)) (r:List Bool) (k:Nat):cA l r (k + 1)=iC l (cA l r k):=by simp [cA,List.range_succ]
theorem kT (r:List Bool) (p:Nat × Nat):(gT r p).length=r.length:=by unfold gT;split<;>simp
theorem oY (l:List (Nat × Nat)):∀ r,(iC l r).length=r.length:=by
 induction l with
 | nil=>intro r;rfl
 | cons p l ih=>intro r;simp only [iC,List.foldl_cons] at ih ⊢;rw [ih,kT]
theorem fm (l:List (Nat × Nat)) (r:List Bool):∀ k,(cA l r k).length=r.length
 | 0=>by simp [cA]
 | k + 1=>by rw [eH,oY,fm]
theorem qm (n:Nat) (l:List (Nat × Nat)) (a:Nat):(tM n l a).length=n:=by simp [tM,fm]
def RB (r s:List Bool):Prop:=∀ i:Nat,r.getD i false=true->s.getD i false=true
theorem jQ {r:List Bool} {i j:Nat} (hi:i < r.length):(r.set i true).getD j false=(decide (j=i) || r.getD j false):=by
 simp only [List.getD_eq_getElem?_getD];by_cases h:j=i
 ·subst h;rw [List.getElem?_set_self hi];simp
 ·rw [List.getElem?_set_ne (Ne.symm h)];simp [h]
theorem C9 {r:List Bool} {p:Nat × Nat} (hp:p.2 < r.length):RB r (gT r p):=by
 intro i hi;unfold gT;split
 ·rw [jQ hp,hi];simp
 ·exact hi
theorem nW:∀ {l:List (Nat × Nat)} {r:List Bool},(∀ p∈l,p.2 < r.length)->RB r (iC l r)
 | [],r,_,i,hi=>hi
 | p :: l,r,h,i,hi=>by
  have:RB (gT r p) (iC l (gT r p)):=nW fun q hq=>by rw [kT];exact h q (by simp [hq])
  exact this i (C9 (h p (by simp)) i hi)
def vQ (r:List Bool):Nat:=r.countP (fun x=>x)
theorem IK (r:List Bool):vQ r<=r.length:=List.countP_le_length
theorem vR:∀ {r s:List Bool},r.length=s.length->RB r s->(r=s∨vQ r < vQ s)/\vQ r<=vQ s
 | [],[],_,_=>⟨.inl rfl,Nat.le_refl _⟩
 | x :: r,y :: s,hl,h=>by
  have u2:r.length=s.length:=sU hl;have ih:=vR u2 (fun i hi=>by simpa using h (i + 1) (sU hi));have h0:x=true->y=true:=fun hx=>by simpa using h 0 (sU hx)
  simp only [vQ,List.countP_cons] at ih ⊢;cases x<;>cases y
  ·refine ⟨?_,by simpa using ih.2⟩;rcases ih.1 with h1 | h1
   ·exact .inl (by rw [h1])
   ·exact .inr (sU h1)
  ·have:=ih.2;exact ⟨.inr (by simp;omega),by simp;omega⟩
  ·exact absurd (h0 rfl) (by decide)
  ·refine ⟨?_,by simpa using ih.2⟩;rcases ih.1 with h1 | h1
   ·exact .inl (by rw [h1])
   ·exact .inr (sU h1)
 | [],_ :: _,h,_=>by simp at h
 | _ :: _,[],h,_=>by simp at h
theorem Da {r s:List Bool} (hl:r.length=s.length) (h1:RB r s) (h2:RB s r):r=s:=by
 rcases (vR hl h1).1 with h | h
 ·exact h
 ·have:=(vR hl.symm h2).2;omega
theorem vS:∀ {l:List (Nat × Nat)} {r:List Bool},(∀ p∈l,p.2 < r.length)->iC l r=r->∀ p∈l,r.getD p.1 false=true->r.getD p.2 false=true
 | [],_,_,_,p,hp,_=>by cases hp
 | q :: l,r,h,he,p,hp,h1=>by
  have hq:=h q (by simp);have hl:∀ p∈l,p.2 < (gT r q).length:=fun p hp=>by rw [kT];exact h p (by simp [hp])
  have hs:gT r q=r:=by
   have h2:RB (gT r q) r:=by
    have:=nW hl;have Ia:iC l (gT r q)=r:=he;rw [Ia] at this;exact this
   exact (Da (kT r q).symm (C9 hq) h2).symm
  rcases List.mem_cons.1 hp with rfl | hp
  ·unfold gT at hs;rw [if_pos h1] at hs;rw [<- hs,jQ hq];simp
  ·have Ia:iC l r=r:=by
    have:iC l (gT r q)=r:=he
    rwa [hs] at this
   exact vS (fun p hp=>h p (by simp [hp])) Ia p hp h1
theorem abK {l:List (Nat × Nat)} {r:List Bool} (h:∀ p∈l,p.2 < r.length):∀ k,iC l (cA l r k)=cA l r k∨vQ r + k<=vQ (cA l r k)
 | 0=>.inr (by simp [cA])
 | k + 1=>by
  have hk:∀ p∈l,p.2 < (cA l r k).length:=fun p hp=>by rw [fm];exact h p hp
  rcases abK h k with h1 | h1
  ·left;rw [eH,h1,h1]
  ·rcases (vR (oY l _).symm (nW hk)).1 with h2 | h2
   ·left;rw [eH,<- h2,<- h2]
   ·right;rw [eH];omega
theorem Kq {l:List (Nat × Nat)} {a:Nat} {r:List Bool} {p:Nat × Nat} (hp:p∈l) (hl:p.2 < r.length) (h:∀ i,r.getD i false=true->um (fun x y=>(x,y)∈l) a i):∀ i,(gT r p).getD i false=true->um (fun x y=>(x,y)∈l) a i:=by
 intro i hi;unfold gT at hi;split at hi
 ·rename_i h1;rw [jQ hl] at hi;simp only [Bool.or_eq_true,decide_eq_true_eq] at hi;rcases hi with rfl | hi
  ·exact .step (h _ h1) hp
  ·exact h i hi
 ·exact h i hi
theorem vT {l:List (Nat × Nat)} {a:Nat}:∀ (m:List (Nat × Nat)) {r:List Bool},(∀ p∈m,p∈l/\p.2 < r.length)->(∀ i,r.getD i false=true->um (fun x y=>(x,y)∈l) a i)->∀ i,(iC m r).getD i false=true->um (fun x y=>(x,y)∈l) a i
 | [],_,_,h=>h
 | p :: m,r,hm,h=>vT m (r:=gT r p) (fun q hq=>by rw [kT];exact hm q (by simp [hq])) (Kq (hm p (by simp)).1 (hm p (by simp)).2 h)
theorem abM {l:List (Nat × Nat)} {a:Nat} {r:List Bool} (hl:∀ p∈l,p.2 < r.length) (h:∀ i,r.getD i false=true->um (fun x y=>(x,y)∈l) a i):∀ k i,(cA l r k).getD i false=true->um (fun x y=>(x,y)∈l) a i
 | 0=>by simpa [cA] using h
 | k + 1=>by
  rw [eH];exact vT l (fun p hp=>⟨hp,by rw [fm];exact hl p hp⟩) (abM hl h k)
theorem vU {l:List (Nat × Nat)} {r:List Bool} (hl:∀ p∈l,p.2 < r.length):∀ k,RB r (cA l r k)
 | 0=>by intro i hi;simpa [cA] using hi
 | k + 1=>fun i hi=>by
  rw [eH];exact nW (fun p hp=>by rw [fm];exact hl p hp) i (vU hl k i hi)
theorem NQ {n a:Nat} (ha:a < n):1<=vQ ((List.replicate n false).set a true):=by
 unfold vQ;rw [Nat.succ_le_iff,List.countP_pos_iff];exact ⟨true,List.mem_iff_getElem?.2 ⟨a,by rw [List.getElem?_set_self (by simp [ha])]⟩,rfl⟩
theorem NR {n:Nat} {l:List (Nat × Nat)} (h:rN n l) {a b:Nat} (ha:a < n) (hb:b < n):(tM n l a).getD b false=eO n l a b:=by
 have hl:∀ p∈l,p.2 < ((List.replicate n false).set a true).length:=fun p hp=>by simp;exact (h p hp).2
 have uf:a < (List.replicate n false).length:=by simp [ha]
 rw [Bool.eq_iff_iff,mW h ha hb];constructor
 ·refine abM hl (fun i hi=>?_) n b;rw [jQ uf] at hi;simp only [Bool.or_eq_true,decide_eq_true_eq] at hi;rcases hi with rfl | hi
  ·exact .refl _
  ·rw [List.getD_eq_getElem?_getD,List.getElem?_replicate] at hi;split at hi<;>simp at hi
 ·have hfix:iC l (tM n l a)=tM n l a:=by
   rcases abK hl n with h1 | h1
   ·exact h1
   ·have h2:=IK (cA l ((List.replicate n false).set a true) n);rw [fm] at h2;have h3:=NQ ha;simp only [List.length_set,List.length_replicate] at h2;omega
  have hY:=vS (fun p hp=>by rw [qm];exact (h p hp).2) hfix;intro hr;have haa:(tM n l a).getD a false=true:=vU hl n a (by rw [jQ uf];simp);clear hb
  induction hr with
  | refl=>exact haa
  | step _ h2 ih=>exact hY _ h2 ih
def dw (n:Nat) (f:Nat->Nat->Bool):List (List Bool):=(List.range n).map fun a=>(List.range n).map (f a)
theorem RC {n:Nat} {l:List (Nat × Nat)} (h:rN n l) {a:Nat} (ha:a < n):tM n l a=(List.range n).map (eO n l a):=by
 refine List.ext_getElem? fun i=>?_;by_cases hi:i < n
 ·have:=NR h ha hi;have hl:=qm n l a;rw [List.getD_eq_getElem?_getD,gE (by omega)] at this;rw [gE (by omega),List.getElem?_map,List.getElem?_range hi];simpa using this
 ·rw [List.getElem?_eq_none (by rw [qm];omega),List.getElem?_eq_none (by simp;omega)]
theorem Db {n:Nat} {f:Nat->Nat->Bool} {a:Nat} (ha:a < n):(dw n f)[a]? = some ((List.range n).map (f a)):=by
 simp [dw,List.getElem?_range ha]
theorem Kr {l:List Wd} {i:Nat} {x:Wd} (h:l[i]? = some x):ay (l.take (i + 1))=ay (l.take i) ++ [x.s]:=by
 rw [List.take_add_one,h];simp [ay]
theorem IL (l:List Wd) (s:ByteArray):bI l s=true↔s∈ay l:=by
 simp only [bI,List.any_eq_true,decide_eq_true_eq,ay,List.mem_map]
theorem lW {l:List Wd} {i:Nat} {x:Wd} (h:l[i]? = some x) (hn:(ay (l.take i)).Nodup):(ay (l.take (i + 1))).Nodup↔bI (l.take i) x.s=false:=by
 rw [Kr h,List.nodup_append];constructor
 ·rintro ⟨_,_,h3⟩;cases hb:bI (l.take i) x.s
  ·rfl
  ·exact absurd rfl (h3 x.s ((IL _ _).1 hb) x.s (by simp))
 ·intro hb;refine ⟨hn,by simp,fun a ha b dQ=>?_⟩;simp only [List.mem_singleton] at dQ;subst dQ;rintro rfl;rw [(IL _ _).2 ha] at hb;cases hb
theorem ze {l:List Wd} {i:Nat} {x:Wd} (a:Int) (h:l[i]? = some x) (hn:(ay (l.take i)).Nodup) :
  gM (ay (l.take (i + 1))) x.s a=if aF l i x≠0 then (aF l i x,a) else (0,0):=by
 have hs:=lW h hn;unfold gM aF;by_cases h1:bd x.s=true
 ·rw [if_pos h1,if_pos h1];by_cases h2:bI (l.take i) x.s=true
  ·rw [if_pos h2,if_neg (fun hc=>by rw [hs.1 hc] at h2;cases h2)];all_goals rfl
  ·rw [if_neg h2,if_pos (hs.2 (sU h2))];all_goals rfl
 ·rw [if_neg h1,if_neg h1];all_goals rfl
theorem lX {l:List Wd} {i:Nat} {x:Wd} (h:l[i]? = some x) (hn:(ay (l.take i)).Nodup) (hz:aF l i x=0):(ay (l.take (i + 1))).Nodup:=by
 refine (lW h hn).2 ?_;unfold aF at hz;by_cases h1:bd x.s=true
 ·rw [if_pos h1] at hz;by_cases h2:bI (l.take i) x.s=true
  ·rw [if_pos h2] at hz;simp at hz
  ·simpa using h2
 ·rw [if_neg h1] at hz;simp at hz
theorem zf (l:List Wd):∀ (d e:Nat),e + d=l.length->(enumP l e)=(0,0)->(ay (l.take e)).Nodup->enumP l l.length=enumL l e (l.drop e)
 | 0,e,hd,hz,hn=>by
  have:e=l.length:=by omega
  subst this;rw [hz,List.drop_length];all_goals rfl
 | d + 1,e,hd,hz,hn=>by
  obtain ⟨x,hx⟩:∃ x,l[e]? = some x:=⟨_,gE (by omega)⟩;have h1:=vx (by rw [hz]) hx;rw [ze x.a hx hn] at h1;rw [drop_cons hx];simp only [enumL];by_cases hf:aF l e x≠0
  ·rw [if_pos hf] at h1 ⊢;have aU:=oV (l:=l) (e:=e + 1) (by rw [h1];exact hf) d;rw [show e + 1 + d=l.length by omega] at aU;rw [aU,h1]
  ·rw [if_neg hf] at h1 ⊢;exact zf l d (e + 1) (by omega) h1 (lX hx hn (sU hf))
theorem NS (h:Hd):mQ h=iy h:=by
 unfold mQ iy;by_cases h0:h.af=[]
 ·rw [if_pos h0,if_pos (by simp [h0])]
 ·rw [if_neg h0,if_neg (sU h0)];by_cases h1:64 < h.af.length
  ·rw [if_pos h1,if_pos h1]
  ·rw [if_neg h1,if_neg h1];have:=zf h.af h.af.length 0 (by omega) rfl (by simp [ay]);simpa using this
def mX (p:Ph):Ph:=⟨p.name,true,[],0,0,0,0,[]⟩
theorem RD (p:Ph) (t:Ty):cQ p t (mX p) bW=(bM p fi && sameTy t bW):=by
 have e:bM p (mX p)=bM p fi:=rfl;unfold cQ;rw [e];have e2:decide (p.name.s=(mX p).name.s)=true:=decide_eq_true rfl;rw [e2,Bool.true_and]
theorem empty_eq (p:Ph):cQ p bW eT bW=(decide (p.name.s=aq) && bM p eT):=by
 have e:sameTy bW bW=true:=by simp [bW,M4,sameTy,kB,samePts,sameWds]
 simp only [cQ,e,Bool.and_true];rfl
def cM (L:List ByteArray) (s:ByteArray):Option Nat:=bR (fun i=>decide (L[i]? = some s)) L.length
theorem cR {L:List ByteArray} {s:ByteArray} {p:Nat} (h:cM L s=some p):p < L.length/\L[p]? = some s/\∀ j,L[j]? = some s->p<=j:=by
 obtain ⟨h1,h2,h3⟩:=dJ h;refine ⟨h1,by simpa using h2,fun j hj=>?_⟩;rcases Nat.lt_or_ge j p with h4 | h4
 ·have:=h3 j h4;simp [hj] at this
 ·exact h4
theorem A3 {L:List ByteArray} {s:ByteArray} {p:Nat} (h1:L[p]? = some s) (h2:∀ j,L[j]? = some s->p<=j):cM L s=some p:=by
 refine cF (gS h1).1 (sU h1) fun a ha=>?_;simp only [decide_eq_false_iff_not];intro h3;have:=h2 a h3;omega
theorem rP {L:List ByteArray} {s:ByteArray} (h:∀ j:Nat,L[j]? ≠ some s):cM L s=none:=cL fun a _=>by simpa using h a
theorem yg {L:List ByteArray} {s:ByteArray}:cM L s=none↔s ∉ L:=by
 constructor
 ·intro h hm;obtain ⟨j,hj⟩:=List.mem_iff_getElem?.1 hm;unfold cM bR at h;rw [List.find?_eq_none] at h;have:=h j (by simpa using (gS hj).1);simp [hj] at this
 ·intro h;exact rP fun j hj=>h (mG hj)
theorem iD (L:List ByteArray) (aE:List Nat) (s:ByteArray) (hT:ie L aE) (hl:aE.length<=1099511627776) :
  EvP prog 78 [.pt (cJ L aE) 0,.v (.string s)] (NN (cM L s)):=by
 by_cases hm:s∈L
 ·obtain ⟨j,hj⟩:=List.mem_iff_getElem?.1 hm;obtain ⟨q,p,hq,hp⟩:=hT.all j s hj;rw [A3 hp fun j' iN=>hT.fst q p j' s hq hp iN];exact find_spec L aE s q p hT hl hq hp
 rw [rP fun j hj=>hm (mG hj)]
 let pr:Nat->Prop:=fun i=>i=aE.length∨∃ p t,aE[i]? = some p/\L[p]? = some t/\ye t s=false
 obtain ⟨m,fH,q6⟩:=least (p:=pr) ⟨aE.length,.inl rfl⟩;have hmn:m<=aE.length:=q6 _ (.inl rfl);refine eG 47 [.tmp 4,.tmp 5] func78 rfl ntmps78 rfl fun _ _ _ _=>?_
 have hY:∀ i:Nat,i < aE.length->EvP prog 139 [.v (.int .i64 i),.pt [.pt (cJ L aE) 0] 0,.pt [.v (.string s)] 0] (.v (.bool (decide (m<=i)))):=by
  intro i hi;obtain ⟨p',pZ⟩:∃ p',aE[i]? = some p':=⟨_,gE hi⟩;obtain ⟨t,ht⟩:∃ t,L[p']? = some t:=⟨_,gE (hT.lt i p' pZ)⟩;have:=ve L aE s i p' t pZ ht
  have e:(!ye t s)=decide (m<=i):=by
   by_cases h:m<=i
   ·have:ye t s=false:=by
     rcases fH with fH | ⟨p,u,h1,h2,h3⟩
     ·omega
     ·rcases Nat.lt_or_eq_of_le h with h4 | h4
      ·have h5:=hT.srt m i p p' u t h4 h1 pZ h2 ht;cases h6:ye t s
       ·rfl
       ·have:=fX h5 h6;unfold ye at h3;rw [this] at h3;cases h3
      ·subst h4;rw [h1] at pZ;simp only [oI] at pZ;subst pZ;rw [h2] at ht;simp only [oI] at ht;subst ht;exact h3
    simp [this,h]
   ·have:ye t s=true:=by
     cases h6:ye t s
     ·exact absurd (q6 i (.inr ⟨p',t,pZ,ht,h6⟩)) h
     ·rfl
    simp [this,h]
  rw [e] at this;exact this
 have hS:=sM 139 Ts [.pt [.pt (cJ L aE) 0] 0,.pt [.v (.string s)] 0] aE.length m hl hmn ax rfl hY;refine AE Tr hS (wC1 (bz aE)) rfl ?_;refine dI ?_;refine br ?_ ?_<;>intro h
 ·have au:m < aE.length:=by
   have:decide ((m:Int)=((dInts aE).length:Int))=false:=sU h;simp [bz] at this;omega
  rcases fH with fH | ⟨p,t,h1,h2,h3⟩
  ·omega
  refine iX (ee h1) ?_;refine iX (fW h2) ?_;refine br ?_ ?_<;>intro h4
  ·exact ⟨_,ax,rfl⟩
  ·exfalso
   have hts:t=s:=by
    simp [ap] at h4;exact h4
   exact hm (hts ▸ mG h2)
 ·exact ⟨_,ax,rfl⟩
def fK (l:List Wd) (o:List (Wd × Wd)):Ft:=
 if l=[] then (15,0)
 else if 32 < l.length then (8,((l[32]?).getD (⟨aq,0⟩:Wd)).a)
 else if 256 < o.length then (8,((o[256]?).getD ((⟨aq,0⟩,⟨aq,0⟩):Wd × Wd)).1.a)
 else (0,0)
theorem Ks (l:List Wd) (o:List (Wd × Wd)):EvP prog 66 [.sl 2 (bG l) none,.sl 4 (mn o) none] (fK l o).d:=by
 refine eG 30 [.cell 4 41] func66 rfl ntmps66 rfl fun _ _ _ _=>?_;refine br ?_ ?_<;>intro h
 ·have h:l=[]:=by simpa [aA] using h
  refine ⟨_,?_,rfl⟩;rw [fK,if_pos h];exact ax
 have h:¬ l=[]:=by simpa [aA] using h
 refine br ?_ ?_<;>intro h1
 ·have h1:32 < l.length:=by simp [aA] at h1;omega
  obtain ⟨x,hx⟩:∃ x,l[32]? = some x:=⟨_,gE h1⟩;refine ⟨jN x,⟨by omega,aS hx⟩,?_⟩;refine ⟨_,?_,rfl⟩;rw [fK,if_neg h,if_pos h1,hx];exact ax
 have h1:¬ 32 < l.length:=by simp [aA] at h1;omega
 refine br ?_ ?_<;>intro h2
 ·have h2:256 < o.length:=by simp [fJ] at h2;omega
  obtain ⟨x,hx⟩:∃ x,o[256]? = some x:=⟨_,gE h2⟩;refine ⟨LX x,⟨by omega,gP hx⟩,?_⟩;refine ⟨_,?_,rfl⟩;rw [fK,if_neg h,if_neg h1,if_pos h2,hx];exact ax
 have h2:¬ 256 < o.length:=by simp [fJ] at h2;omega
 refine ⟨_,?_,rfl⟩;rw [fK,if_neg h,if_neg h1,if_neg h2];exact ax
def aaB (f:Ft) (L:List ByteArray):DV:=.tup [if f.1=0 then .sl 1 (dM L) none else .v (.slice none 0 0),f.d]
abbrev NT (l:List Wd) (n e:Nat):St:=
 ⟨[(3,⟨[],.loc 0 0⟩),(4,⟨[],.sl 1 (dM (ay (l.take e))) (some 0)⟩),(7,⟨[],.sl 2 (bG l) none⟩),(8,⟨[],.v (.int .i64 (bG l).length)⟩),(9,⟨[],.v (.int .i64 e)⟩)],[[.v (.int .i64 0),.v (.int .i64 0)]],[⟨n,9,1,none⟩]⟩
theorem oZ {all:List Wd} {e:Nat} {w:Wd} (h:all[e]? = some w):enumL all e (all.drop e)=if aF all e w≠0 then (aF all e w,w.a) else enumL all (e + 1) (all.drop (e + 1)):=by
 rw [drop_cons h,enumL]
theorem Dc (l:List Wd) (hs:wdsWt l<=1099511627776):EvP prog 67 [.sl 2 (bG l) none] (aaB (enumL l 0 l) (ay l)):=by
 have mF:=bw l;refine eG 36 [.tmp 2,.cell 3 41] func67 rfl ntmps67 rfl fun _ _ _ _=>?_;refine lI (fun j st=>∃ e:Nat,st=NT l e e/\e<=l.length/\(ay (l.take e)).Nodup/\enumL l 0 l=enumL l e (l.drop e)/\j=l.length - e) ⟨0,rfl,by omega,by simp [ay],rfl,rfl⟩ (dX ⟨0,9,1,none⟩ rfl ⟨_,rfl⟩ rfl wA rfl rfl wB0) ?_;rintro j st ⟨e,rfl,he,hnd,aK,rfl⟩;rw [aK];refine br ?_ ?_<;>intro hL
 ·have au:e < l.length:=by simpa [aA] using hL
  obtain ⟨w,hw⟩:=gX au;have T6:=iu (mG hw);have fu:=jw hw;have aU:=oZ hw;have hns:=lW hw hnd;have NU:=oU (ay (l.take (e + 1))) (by simp [ay];omega);rw [<- fu] at NU;refine ⟨jN w,⟨by omega,aS hw⟩,?_⟩;refine ⟨by simp [cg,ay];omega,⟨by simp [cg,ay,maxLen];omega,by simp [cg,ay];omega⟩,?_⟩;refine cP FE (iw w.s (by omega)) ?_;refine br ?_ ?_<;>intro hN
  ·have hN:bd w.s=false:=sU hN;have hf:aF l e w=9:=by simp [aF,hN]
   rw [aU,hf,if_pos (by decide)];refine dS ?_;exact ⟨_,ax,rfl⟩
  ·have hN:bd w.s=true:=sU hN;refine bL VB rfl NU ax (fun r hr=>?_);obtain ⟨z,rfl,hz⟩:=hr;refine br ?_ ?_<;>intro h2
   ·have h2:0<=z:=sU h2
    have hd:bI (l.take e) w.s=true:=by
     cases hd:bI (l.take e) w.s
     ·exact absurd (hns.2 hd) (hz.1 h2)
     ·rfl
    have hf:aF l e w=10:=by simp [aF,hN,hd]
    rw [aU,hf,if_pos (by decide)];refine dS ?_;exact ⟨_,ax,rfl⟩
   ·have h2:¬ 0<=z:=sU h2;have u5:(ay (l.take (e + 1))).Nodup:=Classical.byContradiction fun hn=>h2 (hz.2 hn);have hf:aF l e w=0:=by simp [aF,hN,hns.1 u5]
    rw [hf,if_neg (by simp)] at aU;refine ⟨NT l (e + 1) (e + 1),(weak_mk ⟨_,rfl⟩ wA rfl rfl rfl (dm (nxt au (by omega)) fu)),l.length - (e + 1),by omega,e + 1,rfl,by omega,u5,aU,rfl⟩
 ·have aN:e=l.length:=by
   have:=hL;simp [aA] at this;omega
  have h0:enumL l e (l.drop e)=(0,0):=by rw [aN,List.drop_length];all_goals rfl
  rw [h0];have ht:l.take e=l:=by rw [aN,List.take_length]
  rw [ht];exact ⟨_,ax,rfl⟩
def numF (L:List ByteArray):List (Wd × Wd)->Ft
 | []=>(0,0)
 | p :: r=>if cM L p.1.s=none then (17,p.1.a) else if cM L p.2.s=none then (17,p.2.a) else numF L r
def VZ (L:List ByteArray) (p:Wd × Wd):Nat × Nat:=((cM L p.1.s).getD 0,(cM L p.2.s).getD 0)
def di (L:List ByteArray) (o:List (Wd × Wd)):List (Nat × Nat):=o.map (VZ L)
def aaC (f:Ft) (l:List (Nat × Nat)):DV:=.tup [if f.1=0 then .sl 2 (lS l) none else .v (.slice none 0 0),f.d]
theorem zg {L:List ByteArray} {o:List (Wd × Wd)} {e a b:Nat} {x:Wd × Wd} (h:o[e]? = some x) (ha:cM L x.1.s=some a) (hb:cM L x.2.s=some b):lS (di L (o.take e)) ++ [[DV.v (.int .i64 (a:Int)),DV.v (.int .i64 (b:Int))]]=lS (di L (o.take (e + 1))):=by
 rw [List.take_add_one,h];simp [lS,di,VZ,ha,hb,dNP]
abbrev NV (L:List ByteArray) (aE:List Nat) (o:List (Wd × Wd)) (n e:Nat):St:=
 ⟨[(0,⟨[],.pt (cJ L aE) 0⟩),(5,⟨[],.loc 0 0⟩),(6,⟨[],.sl 2 (lS (di L (o.take e))) (some 0)⟩),(12,⟨[],.sl 4 (mn o) none⟩),(13,⟨[],.v (.int .i64 (mn o).length)⟩),(14,⟨[],.v (.int .i64 e)⟩)],[[.v (.int .i64 0),.v (.int .i64 0)]],[⟨n,223,2,none⟩]⟩
theorem yh (L:List ByteArray) (aE:List Nat) (hT:ie L aE) (hl:aE.length<=1099511627776) (o:List (Wd × Wd)) (hs:prsWt o<=1099511627776) :
  EvP prog 69 [.pt (cJ L aE) 0,.sl 4 (mn o) none] (aaC (numF L o) (di L o)):=by
 have mF:=iA o;refine eG 55 [.tmp 4,.cell 5 41] func69 rfl ntmps69 rfl fun _ _ _ _=>?_;refine lI (fun j st=>∃ e:Nat,st=NV L aE o e e/\e<=o.length/\numF L o=numF L (o.drop e)/\j=o.length - e) ⟨0,rfl,by omega,rfl,rfl⟩ (dX ⟨0,223,2,none⟩ rfl ⟨_,rfl⟩ rfl wA rfl rfl wB0) ?_;rintro j st ⟨e,rfl,he,aK,rfl⟩;rw [aK];refine br ?_ ?_<;>intro hL
 ·have au:e < o.length:=by simpa [fJ] using hL
  obtain ⟨w,hw⟩:=gX au;have aU:numF L (o.drop e)=if cM L w.1.s=none then (17,w.1.a) else if cM L w.2.s=none then (17,w.2.a) else numF L (o.drop (e + 1)):=by rw [drop_cons hw,numF]
  have E7:=iD L aE w.1.s hT hl;have ua:=iD L aE w.2.s hT hl;refine ⟨LX w,⟨by omega,gP hw⟩,?_⟩
  cases ha:cM L w.1.s with
  | none=>
   rw [ha] at E7;refine cP u9 E7 ?_;rw [aU,if_pos ha];refine dS ?_;exact ⟨_,ax,rfl⟩
  | some a=>
   rw [ha] at E7;refine cP u9 E7 ?_
   cases hb:cM L w.2.s with
   | none=>
    rw [hb] at ua;refine cP u9 ua ?_;rw [aU,if_neg (by rw [ha];simp),if_pos hb];refine dS ?_;exact ⟨_,ax,rfl⟩
   | some b=>
    rw [hb] at ua;refine cP u9 ua ?_;rw [if_neg (by rw [ha];simp),if_neg (by rw [hb];simp)] at aU;refine ⟨by simp [gR,di];omega,⟨by simp [gR,di,maxLen];omega,by simp [gR,di];omega⟩,?_⟩;refine ⟨NV L aE o (e + 1) (e + 1),(weak_mk ⟨_,rfl⟩ wA rfl rfl rfl (dm (nxt au (by omega)) (zg hw ha hb))),o.length - (e + 1),by omega,e + 1,rfl,by omega,aU,rfl⟩
 ·have aN:e=o.length:=by
   have:=hL;simp [fJ] at this;omega
  have h0:numF L (o.drop e)=(0,0):=by rw [aN,List.drop_length];all_goals rfl
  rw [h0];have ht:o.take e=o:=by rw [aN,List.take_length]
  rw [ht];exact ⟨_,ax,rfl⟩
end Go.Proofs.YtffhgcbfpidfiaaGreat
