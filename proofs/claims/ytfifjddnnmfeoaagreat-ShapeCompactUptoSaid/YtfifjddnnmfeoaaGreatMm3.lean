/- Part 3 of the proof: sort.Slice of the table's places, at a call; names.New: the table; names.Twice: does a text stand earlier, too?; Contracts: the reference's words, Plain, Same, Zero, own; Contracts: the reference's Same, Zero, own; Contracts: the reference's Label, listed, names, Size, with, coarse; What is wrong with a type: the plain function; the reference's Wrong and parts return it; The program's checks of types: bad, listed, label, words; The program's checks of types: label, coarse; The program's comparing of names and types; The program's Same; The program's own, empty; The program's empty, enum; kinds.Right, once the checker's check is known; Numbers in tens: the reference's Put; Numbers in tens: the program's Put; The text of a type, plain; the reference's Label and comma; The reference's text of a type: Label, comma, part, Type; The reference's text of a part; The reference's text of a type; The library's strings.Join, laid at this program by the kit's tool (lay-plain; wip/tools/lay.sh); The program's text of a label, of what stands behind a part's type, of lists; The program's text of a type: field, tag, kind; unparse.Type, once the checker's check is known; A type with which nothing is wrong is fine for its text; Readable data as data of the evaluator: what the statement's form reads of an argument is a datum of the evaluator, of the argument's type, no heavier than what was read; What is read of a type, as the plain data; From a contract over data to what a law's statement asks: the arguments are read, the call returns true, all that was there stays; What all laws' frames share: the bulk, the program's closed facts; Types without places: plain, and the program's kinds.Strip; Schemas: plain, as the evaluator has them, without places; What is read of a schema, as the plain data; What the frames of laws over schemas share; The program's closed facts, each by itself (all at once they ask more memory than a Lean process has); Relations as rows of bits: plain, and rel's functions that read; rel.back: who leads to a thing and is led to by it; rel.New: the rows of a list of pairs; rel.Close: the closure, by rows; The number of bits that are set, as the library reckons it; math/bits.OnesCount64; When two bits are set; rel.Loop: the least thing in a loop; The plain law of closeR: its bits are what is led to; The program's and the reference's check of names that must differ; The table's Find, whole; lattice.many, called, numbered. No condition. -/
import Derived.Laws.StructEq
import Derived.Shelf.Strings.OnBuilder
import Derived.Deep.Slices
import Derived.ChangeArms
import Derived.DataReads
import Derived.WalkKit
import Derived.ProofKit
import Derived.OpenShut
import Derived.Carry
import Derived.JoinedCond
import Derived.Test.YtfifjddnnmfeoaaGreatRows
import Derived.Test.YtfifjddnnmfeoaaGreatMm2
set_option linter.all false
set_option maxRecDepth 100000
namespace Go.Proofs.YtfifjddnnmfeoaaGreat
open Go Go.RowKit Dv Tryz
abbrev KO (p:Nat):Value:=.int .i64 (p:Int)
theorem A8 {E:En}:∀ {ds:List Nat} {arr:List Value},RvL E (dInts ds).flatten arr->arr=ds.map KO
 | [],arr,h=>by simpa [dInts,RvL] using h
 | x :: r,arr,h=>by
  simp only [dInts,List.map_cons,List.flatten_cons,List.cons_append,List.nil_append,RvL] at h;obtain ⟨v,s,rfl,h1,h2⟩:=h;unfold Rv at h1;rw [h1.1,A8 (ds:=r) h2];rfl
theorem tJ {E:En}:∀ ds:List Nat,RvC E (dInts ds).flatten (ds.map KO)
 | []=>⟨bZ E,by simp⟩
 | x :: r=>by
  have ih:=tJ (E:=E) r;refine ⟨?_,?_⟩
  ·simp only [dInts,List.map_cons,List.flatten_cons,List.cons_append,List.nil_append];exact rvL_cons (eU rfl) ih.1
  ·intro v hv;simp only [List.map_cons,List.mem_cons] at hv;rcases hv with rfl | hv
   ·rfl
   ·exact ih.2 v hv
theorem WL {m:Nat}:∀ ds:List Nat,(∀ p∈ds,p < m + 1)->∃ D:List (Fin (m + 1)),D.map (·.val)=ds
 | [],_=>⟨[],rfl⟩
 | x :: r,h=>by
  obtain ⟨D,hD⟩:=WL r fun p hp=>h p (List.mem_cons_of_mem _ hp);exact ⟨⟨x,h x (by simp)⟩ :: D,by simp [hD]⟩
theorem tK {α:Type} [Inhabited α] (enc:α->Value) (w:World) (b n:Nat) (dk:Array α) (os:Array Obj) (arr:List Value) (ty:TypeId) (hw:w.heap[b]? = some (.cells arr.toArray ty (0,0))) (hl:arr.length=dk.size) :
  ∀ k,k < w.heap.size->(Sort.grow (Sort.putRow enc (Sort.ahead w n) b 0 dk) os).heap[k]? = (World.cH w b (.cells (dk.toList.map enc).toArray ty (0,0))).heap[k]?:=by
 intro k hk;simp only [Sort.grow,Sort.putRow,Sort.mapBlock,Sort.ahead];rw [Array.getElem?_append_left (by simpa using hk),Array.getElem?_modify];by_cases HU:b=k
 ·subst HU;rw [if_pos rfl,hw,di hw];simp only [Option.map_some,Sort.onCells,oI,Obj.cells.injEq,and_true];apply Array.ext_getElem?;intro j;simp only [Sort.putCells,Array.getElem?_mapIdx];rcases Nat.lt_or_ge j dk.size with hj | hj
  ·have h1:j < arr.length:=by omega
   simp [h1,hj]
  ·have h1:arr.length<=j:=by omega
   simp [h1,hj]
 ·rw [if_neg HU,bX (Ne.symm HU)]
theorem KQ {α:Type} {l:List α} {i:Nat} {x:α} (h:l[i]? = some x):l.set i x=l:=by
 apply List.ext_getElem?;intro j;by_cases hj:j=i
 ·subst hj;rw [List.getElem?_set_self (gS h).1,h]
 ·rw [List.getElem?_set_ne (Ne.symm hj)]
theorem HV {X:Ctx} {st:St} {k:List It} (hP:X.P=Tryz.prog) {i c len:Nat} {ds:List Nat} (hlen:len=ds.length) {lbD:List DV} {d:Nat} (N:Nat) (hN:∀ p∈ds,p < N) (lt:Nat->Nat->Bool) (hO:Sort.SWO lt)
  (kE:st.bx[i]? = some (dInts ds).flatten) (hn:ds.length<=1099511627776) (lbF:List Nat->List DV) (Ou:∀ dk:List Nat,dk.length=ds.length->CcL (st.bx.set i (dInts dk).flatten) 0 0 0 (lbF dk) lbD)
  (KL:∀ dk:List Nat,dk.length=ds.length->(∀ p∈dk,p < N)->∀ i j p q:Nat,dk[i]? = some p->dk[j]? = some q->EvS Tryz.prog 162 (.v (.int .i64 i) :: .v (.int .i64 j) :: lbF dk) [] [] (fun r _ _=>r = .v (.bool (lt p q))))
  (hd:eT X.nt st.sl (some d)=true)
  (hk:∀ R6:List Nat,R6.Perm ds->(∀ i j p q:Nat,i < j->R6[i]? = some p->R6[j]? = some q->lt q p=false)->go X 4000 k ⟨(d,⟨[],.tup []⟩) :: st.sl,st.bx.set i (dInts R6).flatten,st.tk⟩)
  (aS:X.still=false:=by exact rfl) (hX:X.bt=[]:=by exact rfl):dy X 161 [.re 28 (.ms i 1 0 len c),.fn 162 [] lbD] (some d) k st:=by
 subst hlen;refine ⟨?_,aS,fun E a w vs h hv=>?_⟩
 ·rw [hP];exact VC
 rw [hP];simp only [RvL] at hv;obtain ⟨v1,_,rfl,h1,v2,_,rfl,h2,rfl⟩:=hv;unfold Rv at h1;obtain ⟨z,rfl,h1⟩:=h1;unfold Rv at h1;obtain ⟨b,ad,hb,TI,rfl,hca⟩:=h1;unfold Rv at h2;obtain ⟨l,r,rfl,hl,hr⟩:=h2;simp only [RvL] at hl;subst hl;obtain ⟨b',ty,arr,dG,hw,vM⟩:=h.env.dW i _ kE;rw [hb] at dG;simp only [oI] at dG;subst dG;have KR:=A8 vM.1;have RP:=bP hw;by_cases h1:ds.length<=1
 ·refine (HR r.toArray ad ds.length c h1 w).mono ?_;rintro e w' ⟨rfl,os,rfl⟩
  have hh:∀ j,j < w.heap.size->(Sort.grow w os).heap[j]? = w.heap[j]?:=fun j hj=>by
   simp only [Sort.grow];rw [Array.getElem?_append_left hj]
  have cj:Rel X E st a (Sort.grow w os):=cV h (Ext.refl E) (h.env.jL hh) h.tk h.nw (h.fr.b9 rfl rfl rfl (by simp [Sort.grow]) fun j hj=>.inr (hh j hj)) (mY aS) (.nil hX);have Ki:=hk ds (List.Perm.refl _) (fun i j p q sA _ hj=>by have:=(gS hj).1;omega);rw [KQ kE] at Ki;exact go_sound 4000 _ _ Ki E _ _ (aT cj hd (.tup []) (.tuple #[]) (by unfold Rv;exact ⟨[],rfl,bZ E⟩))
 ·have h2:2<=ds.length:=by omega
  have UD:=hca (by omega);subst UD
  obtain ⟨m,rfl⟩:∃ m,N=m + 1:=by
   cases Yk:ds with
   | nil=>rw [Yk] at h2;simp at h2
   | cons x r=>have:=hN x (by rw [Yk];simp);exact ⟨N - 1,by omega⟩
  obtain ⟨D,hD⟩:=WL ds hN;have KT:D.length=ds.length:=by rw [<- hD];simp
  let enc:Fin (m + 1)->Value:=fun x=>KO x.val
  have hO':Sort.SWO (fun x y:Fin (m + 1)=>lt x.val y.val):=⟨fun x=>hO.irrefl _,fun x y z=>hO.trans _ _ _,fun x y z=>hO.ntrans _ _ _⟩;have WM:∀ l:List (Fin (m + 1)),l.map enc=(l.map (·.val)).map KO:=fun l=>by simp [enc]
  have hS:=KK enc (fun _=>rfl) hO' r.toArray b c D.toArray (by simpa [KT] using h2) (by simp [KT];omega) w ?_ ?_ RP
  ·simp only [List.size_toArray,KT] at hS;refine hS.mono ?_;rintro e w' ⟨rfl,d',n,os,hp,hs,rfl⟩;have bI:d'.size=ds.length:=by have:=hp.1;simpa [KT] using this
   have nk:(d'.toList.map (·.val)).Perm ds:=by
    have h3:=hp.2.2;have e1:d'.extract 0 ds.length=d':=Array.extract_eq_self_of_le (by omega);have e2:D.toArray.extract 0 ds.length=D.toArray:=Array.extract_eq_self_of_le (by simp [KT]);rw [e1,e2] at h3;rw [<- hD];exact h3.map _
   have HX:∀ i j p q:Nat,i < j->(d'.toList.map (·.val))[i]? = some p->(d'.toList.map (·.val))[j]? = some q->lt q p=false:=by
    intro i j p q sA hi hj;have ng:j < d'.size:=by have:=(gS hj).1;simpa using this
    have h3:=hs i j (Nat.zero_le _) sA (by omega);rw [getElem!_pos d' j ng,getElem!_pos d' i (by omega)] at h3;have JA:i < d'.size:=by omega
    simp [JA] at hi;simp [ng] at hj;rw [<- hi,<- hj];exact h3
   have hh:=tK enc w b n d' os arr ty hw (by rw [KR];simp [bI]);have eo:=iA (ty:=ty) h aS hb (cs':=(dInts (d'.toList.map (·.val))).flatten) (arr':=(d'.toList.map (·.val)).map KO) (tJ _) ⟨_,hw⟩;rw [<- WM] at eo;have iI:(Sort.grow (Sort.putRow enc (Sort.ahead w n) b 0 d') os).heap.size=w.heap.size + os.size:=by simp [Sort.grow,Sort.putRow,Sort.mapBlock,Sort.ahead]
   have cj:=cV eo (Ext.refl E) (w':=Sort.grow (Sort.putRow enc (Sort.ahead w n) b 0 d') os) (eo.env.jL fun j hj=>hh j (by rwa [fu] at hj)) eo.tk eo.nw
    (eo.fr.b9 rfl rfl rfl (by rw [fu,iI];omega) fun j hj=>.inr (hh j (by rwa [fu] at hj))) (mY aS) (.nil hX)
   exact go_sound 4000 _ _ (hk _ nk HX) E _ _ (aT cj hd (.tup []) (.tuple #[]) (by unfold Rv;exact ⟨[],rfl,bZ E⟩))
  ·intro mm os dk hs i' j' hi hj;have bI:dk.size=ds.length:=by simpa [KT] using hs
   have hh:=tK enc w b mm dk os arr ty hw (by rw [KR];simp [bI]);have hE:=h.env.set hb RP (ty:=ty) (tJ (E:=E) (dk.toList.map (·.val)));rw [<- WM] at hE;have hE':=hE.jL (w':=Go.Proofs.sortWorld enc w b 0 mm dk os) fun j hj=>hh j (by rwa [fu] at hj);have JA:i' < dk.size:=by rw [bI,<- KT];simpa using hi
   have ng:j' < dk.size:=by rw [bI,<- KT];simpa using hj
   have hLL:(dk.toList.map (·.val)).length=ds.length:=by simpa using bI
   have hc:=KL (dk.toList.map (·.val)) hLL (fun p hp=>by
    obtain ⟨x,_,rfl⟩:=List.mem_map.1 hp
    exact x.isLt) i' j' (dk[i']!).val (dk[j']!).val (by rw [getElem!_pos dk i' JA];simp [JA]) (by rw [getElem!_pos dk j' ng];simp [ng])
   have hv:RvL E (.v (.int .i64 (i':Int)) :: .v (.int .i64 (j':Int)) :: lbD) (.int .i64 (i':Int) :: .int .i64 (j':Int) :: r):=rvL_cons (eU rfl) (rvL_cons (eU rfl) hr);have hb:=iq hE' hc ⟨_,_,rfl,rfl,_,_,rfl,rfl,Ou _ hLL⟩ hv;have hargs:(#[Value.int .i64 (i':Int),Value.int .i64 (j':Int)] ++ r.toArray)=(Value.int .i64 (i':Int) :: Value.int .i64 (j':Int) :: r).toArray:=by simp
   rw [hargs];refine hb.mono ?_;rintro e w' ⟨v,E2,rfl,Gm,_,Dg⟩;have:=aY Gm;subst this;exact ⟨rfl,Dg rfl⟩
  ·intro j hj;have ng:j < D.length:=by simpa using hj
   rw [bY hw,Nat.zero_add,KR];refine ⟨?_,?_⟩
   ·rw [getElem!_pos D.toArray j hj,<- hD];simp [ng,enc]
   ·simp [World.frozen?,hw]
theorem xe {n m:Nat} {tk:List TkE}:∀ ds:List Nat,WeL n m tk (dInts ds).flatten (dInts ds).flatten
 | []=>rfl
 | b :: r=>⟨_,_,rfl,ah rfl,xe r⟩
theorem oN {n m:Nat} {tk:List TkE} {l:List DV} {ds:List Nat} (h:l=(dInts ds).flatten):WeL n m tk l (dInts ds).flatten:=by rw [h];exact xe ds
def gl (n e:Nat):List Nat:=List.range e ++ List.replicate (n - e) 0
theorem HY {n e:Nat} (h:e<=n):(gl n e).length=n:=by simp [gl];omega
theorem fillA_0 (n:Nat):(List.replicate n [DV.v (.int .i64 0)]).flatten=(dInts (gl n 0)).flatten:=by simp [gl,dInts]
theorem Ov (n:Nat):gl n n=List.range n:=by simp [gl]
theorem mH (ds:List Nat):(dInts ds).flatten=ds.map fun (i:Nat)=>DV.v (.int .i64 (i:Int)):=by
 induction ds with
 | nil=>rfl
 | cons x r ih=>simp only [dInts,List.map_cons,List.flatten_cons] at ih ⊢;rw [ih];all_goals rfl
theorem DG {n e:Nat} (h:e < n):(dInts (gl n e)).flatten.take e ++ [DV.v (.int .i64 (e:Int))] ++ (dInts (gl n e)).flatten.drop (e + 1)=(dInts (gl n (e + 1))).flatten:=by
 simp only [mH,<- List.map_take,<- List.map_drop];have e1:(gl n e).take e=List.range e:=by simp [gl]
 have e2:(gl n e).drop (e + 1)=List.replicate (n - (e + 1)) 0:=by
  simp only [gl,List.drop_append,List.length_range];rw [List.drop_eq_nil_of_le (by simp),List.nil_append,List.drop_replicate];congr 1;omega
 rw [e1,e2];simp [gl,List.range_succ]
abbrev DH (L:List ByteArray) (e:Nat):St:=
 ⟨[(3,⟨[],.loc 1 0⟩),(4,⟨[],.loc 3 0⟩),(16,⟨[],.v (.int .i64 (dt L).length)⟩),(17,⟨[],.v (.int .i64 e)⟩)],
  [[.sl 1 (dt L) (some 0),.v (.slice none 0 0)],[.loc 0 0],(dInts (gl (dt L).length e)).flatten,[.ms 2 1 0 (dt L).length (dt L).length]],[⟨(dt L).length,9,1,none⟩]⟩
def eX (L:List ByteArray) (ds:List Nat) (i:Nat):Bool:=decide (i=0) || !decide (L.getD (ds.getD i 0) ap=L.getD (ds.getD (i - 1) 0) ap)
def eD (L:List ByteArray) (ds:List Nat) (e:Nat):List Nat:=((List.range e).filter (eX L ds)).map fun i=>ds.getD i 0
theorem tM (L:List ByteArray) (ds:List Nat) (e:Nat):eD L ds (e + 1)=eD L ds e ++ (if eX L ds e=true then [ds.getD e 0] else []):=by
 unfold eD;rw [List.range_succ,List.filter_append,List.map_append];congr 1;cases h:eX L ds e<;>simp [h]
theorem HZ (L:List ByteArray) (ds:List Nat) (e:Nat):(eD L ds e).length<=e:=by
 unfold eD;rw [List.length_map];exact Nat.le_trans (List.length_filter_le _ _) (by simp)
abbrev R7 (L:List ByteArray) (ds:List Nat):St:=
 ⟨[(3,⟨[],.loc 1 0⟩),(4,⟨[],.pt [.sl 1 (dInts ds) none] 0⟩),(29,⟨[],.sl 1 (dInts ds) none⟩),(30,⟨[],.v (.int .i64 (dt L).length)⟩),(31,⟨[],.v (.int .i64 0)⟩)],
  [[.sl 1 (dt L) (some 0),.v (.slice none 0 0)],[.loc 0 0]],[⟨(dt L).length,9,1,none⟩]⟩
abbrev A9 (L:List ByteArray) (ds az:List Nat) (m e:Nat):St:=
 ⟨[(3,⟨[],.loc 1 0⟩),(4,⟨[],.pt [.sl 1 (dInts ds) none] 0⟩),(29,⟨[],.sl 1 (dInts ds) none⟩),(30,⟨[],.v (.int .i64 (dt L).length)⟩),(31,⟨[],.v (.int .i64 e)⟩)],
  [[.sl 1 (dt L) (some 0),.sl 1 (dInts az) (some 1)],[.loc 0 0]],[⟨(dt L).length,9,1,none⟩,⟨m,3,1,none⟩]⟩
theorem getD_some {α:Type} {l:List α} {i:Nat} {x d:α} (h:l[i]? = some x):l.getD i d=x:=by simp [List.getD_eq_getElem?_getD,h]
theorem ql {α:Type} {l:List α} {i:Nat} {d:α} (h:i < l.length):l[i]? = some (l.getD i d):=by
 rw [gE h,List.getD_eq_getElem?_getD,gE h];all_goals rfl
theorem R8 {L:List ByteArray} {ds:List Nat} (nk:ds.Perm (List.range L.length)) (HX:∀ i j p q:Nat,i < j->ds[i]? = some p->ds[j]? = some q->Aj L q p=false):gk L (eD L ds L.length):=by
 have hlen:ds.length=L.length:=by rw [nk.length_eq,List.length_range]
 let D:Nat->Nat:=fun i=>ds.getD i 0
 let T:Nat->ByteArray:=fun i=>L.getD (D i) ap
 have hD:∀ i,i < L.length->ds[i]? = some (D i):=fun i hi=>ql (by omega)
 have hDn:∀ i,i < L.length->D i < L.length:=fun i hi=>by
  have:=nk.mem_iff.1 (mG (hD i hi));exact List.mem_range.1 this
 have hT:∀ i,i < L.length->L[D i]? = some (T i):=fun i hi=>ql (hDn i hi)
 have fv:∀ i j,i < j->j < L.length->T i=T j∨vX (T i) (T j)=true:=by
  intro i j sA hj;have h:=HX i j (D i) (D j) sA (hD i (by omega)) (hD j hj);unfold Aj at h;by_cases he:T j=T i
  ·exact .inl he.symm
  ·rw [if_neg he] at h;rcases Gk h with h | h
   ·exact absurd h he
   ·exact .inr h
 have Qv:∀ i,i < L.length->eX L ds i=true->∀ j,j < i->vX (T j) (T i)=true:=by
  intro i hi hh j PI
  have aR:T i≠T (i - 1):=by
   intro he;unfold eX at hh;have:decide (i=0)=false:=by simp;omega
   rw [this] at hh;simp only [Bool.false_or,Bool.not_eq_true',decide_eq_false_iff_not] at hh;exact hh he
  have h1:vX (T (i - 1)) (T i)=true:=by
   rcases fv (i - 1) i (by omega) hi with h | h
   ·exact absurd h.symm aR
   ·exact h
  by_cases hj:j=i - 1
  ·rw [hj];exact h1
  ·rcases fv j (i - 1) (by omega) (by omega) with h | h
   ·rw [h];exact h1
   ·exact fh h h1
 have wR:∀ j,j < L.length->∃ k,k < L.length/\D k=j:=by
  intro j hj;have:=nk.mem_iff.2 (List.mem_range.2 hj);obtain ⟨k,hk⟩:=List.getElem?_of_mem this;have iP:=(gS hk).1;exact ⟨k,by omega,getD_some hk⟩
 let H:=(List.range L.length).filter (eX L ds)
 have hH:∀ (a i:Nat),H[a]? = some i->i < L.length/\eX L ds i=true:=fun a i h=>by
  have:=mG h;simp only [H,List.mem_filter,List.mem_range] at this;exact this
 have H0:∀ (a p:Nat),(eD L ds L.length)[a]? = some p->∃ i,H[a]? = some i/\D i=p:=by
  intro a p h;unfold eD at h;rw [List.getElem?_map] at h
  cases hh:H[a]? with
  | none=>rw [show (List.filter (eX L ds) (List.range L.length))[a]? = none from hh] at h;cases h
  | some i=>
   rw [show (List.filter (eX L ds) (List.range L.length))[a]? = some i from hh] at h;simp only [Option.map_some,oI] at h;exact ⟨i,rfl,h⟩
 have hinc:∀ (a b i k:Nat),a < b->H[a]? = some i->H[b]? = some k->i < k:=by
  intro a b i k nJ hi hk;have hp:List.Pairwise (·< ·) H:=List.Pairwise.filter _ List.pairwise_lt_range;obtain ⟨ha,rfl⟩:=List.getElem?_eq_some_iff.1 hi;obtain ⟨hb,rfl⟩:=List.getElem?_eq_some_iff.1 hk;exact List.pairwise_iff_getElem.1 hp a b ha hb nJ
 refine ⟨?_,?_,?_,?_⟩
 ·intro a p h;obtain ⟨i,hi,rfl⟩:=H0 a p h;exact hDn i (hH a i hi).1
 ·intro a b p q s t nJ hp hq hs ht;obtain ⟨i,hi,rfl⟩:=H0 a p hp;obtain ⟨k,hk,rfl⟩:=H0 b q hq;rw [hT i (hH a i hi).1] at hs;rw [hT k (hH b k hk).1] at ht;simp only [oI] at hs ht;rw [<- hs,<- ht];exact Qv k (hH b k hk).1 (hH b k hk).2 i (hinc a b i k nJ hi hk)
 ·intro a p j s hp hs hj;obtain ⟨i,hi,rfl⟩:=H0 a p hp;obtain ⟨qm,nh⟩:=hH a i hi;obtain ⟨k,hk,rfl⟩:=wR j (gS hj).1;rw [hT i qm] at hs;rw [hT k hk] at hj;simp only [oI] at hs hj;rcases Nat.lt_trichotomy k i with h | h | h
  ·have:=Qv i qm nh k h;rw [hs,hj,vX,jP] at this;cases this
  ·rw [h];exact Nat.le_refl _
  ·have h2:=HX i k (D i) (D k) h (hD i qm) (hD k hk);unfold Aj at h2
   have he:L.getD (D k) ap=L.getD (D i) ap:=by
    show T k=T i;rw [hj,hs]
   rw [if_pos he] at h2;simp at h2;omega
 ·intro j s hj;obtain ⟨k,hk,rfl⟩:=wR j (gS hj).1;rw [hT k hk] at hj;simp only [oI] at hj;obtain ⟨i,⟨qm,his⟩,hmin⟩:=least (p:=fun i=>i < L.length/\T i=s) ⟨k,hk,hj⟩
  have nh:eX L ds i=true:=by
   unfold eX;by_cases h0:i=0
   ·simp [h0]
   ·have aR:¬ T i=T (i - 1):=fun he=>by
     have:=hmin (i - 1) ⟨by omega,by rw [<- he];exact his⟩;omega
    have e1:decide (L.getD (ds.getD i 0) ap=L.getD (ds.getD (i - 1) 0) ap)=false:=decide_eq_false aR;rw [e1];simp
  have hm:i∈H:=by simp only [H,List.mem_filter,List.mem_range];exact ⟨qm,nh⟩
  obtain ⟨a,ha⟩:=List.getElem?_of_mem hm;refine ⟨a,D i,?_,by rw [hT i qm,his]⟩;unfold eD;rw [List.getElem?_map];rw [show (List.filter (eX L ds) (List.range L.length))[a]? = some i from ha];rfl
theorem tN (L:List ByteArray) (hl:L.length<=1099511627776) :
  Ev Tryz.prog 96 [.sl 1 (dt L) none] [] [] (fun r _ _=>∃ az,gk L az/\az.length<=L.length/\r = .pt (cr L az) 0):=by
 have hN:=bK L;refine ev_go (P:=Tryz.prog) tt tt_ok 5000 71 [.tmp 2] Tryz.func96 rfl Tryz.ntmps96 rfl (nL rfl) (fun E9 w9 hn9 hm9=>?_);refine ⟨⟨by simp [hN,maxLen];omega,by simp [hN];omega⟩,?_⟩;refine ⟨⟨rfl,by omega,by omega,by omega⟩,?_⟩;refine aq (fun j st=>∃ e:Nat,st=DH L e/\e<=L.length/\j=L.length - e) L.length (DH L 0) (ay 4 rfl (by repeat' (first | exact rfl | exact ah rfl | exact oN (fillA_0 _) | refine ⟨_,_,rfl,?_,?_⟩)) rfl rfl rfl (by repeat' (first | exact trivial | exact ah rfl | exact oN (fillA_0 _) | refine ⟨⟨_,rfl,?_⟩,?_⟩))) ⟨0,rfl,by omega,rfl⟩ ?_;rintro j st ⟨e,rfl,he,rfl⟩;refine br (fun h=>?_) (fun h=>?_)
 ·have al:e < (dt L).length:=by simpa using h
  refine ⟨⟨by omega,by omega⟩,?_⟩;have e1:(dInts (gl (dt L).length e)).flatten.length=(dt L).length:=by rw [mH,List.length_map,HY (by omega)]
  refine ⟨by rw [e1];omega,?_⟩
  have cm:(dInts (gl (dt L).length e)).flatten.set (0 + (e:Int).toNat * 1) (DV.v (.int .i64 (e:Int)))=(dInts (gl (dt L).length (e + 1))).flatten:=by
   rw [show 0 + (e:Int).toNat * 1=e by omega,List.set_eq_take_append_cons_drop,if_pos (by rw [e1];omega),<- DG al];simp
  refine ⟨DH L (e + 1),(ay 4 rfl (by repeat' (first | exact rfl | exact ah rfl | exact oN cm | exact ak (cA al (by omega)) | refine ⟨_,_,rfl,?_,?_⟩)) rfl rfl rfl (by repeat' (first | exact trivial | exact ah rfl | exact oN cm | exact ak (cA al (by omega)) | refine ⟨⟨_,rfl,?_⟩,?_⟩))),L.length - (e + 1),by omega,e + 1,rfl,by omega,rfl⟩
 ·have aN:e=(dt L).length:=by
   have:¬ e < (dt L).length:=by simpa using h
   omega
  subst aN;rw [Ov]
  have hms:∀ dk:List Nat,dk.length=(List.range (dt L).length).length->∀ bx:List (List DV),bx[2]? = some (dInts dk).flatten->∀ N0 n0 m0:Nat,N0<=2->Cc bx N0 n0 m0 (.sl 1 (dInts dk) none) (.ms 2 1 0 (dt L).length (dt L).length):=by
   intro dk YA bx hb N0 n0 m0 hN0;simp only [Cc];refine Or.inr (Or.inr (Or.inl ⟨2,0,(dt L).length,_,?_,hN0,hb,?_,?_,?_⟩))
   ·rw [bf,YA,List.length_range]
   ·rw [List.drop_zero,List.take_of_length_le];rw [mH,List.length_map,bf];omega
   ·intro x hx;simp only [dInts,List.mem_map] at hx;obtain ⟨_,_,rfl⟩:=hx;rfl
   ·intro x hx;rw [mH] at hx;obtain ⟨_,_,rfl⟩:=List.mem_map.1 hx;exact .inl ⟨_,rfl⟩
  refine HV (ds:=List.range (dt L).length) rfl (by simp) (dt L).length (fun p hp=>List.mem_range.1 hp) (Aj L) (Oo L) rfl (by simp [hN];omega)
   (fun dk=>[.pt [.sl 1 (dInts dk) none] 0,.pt [.pt [.sl 1 (dt L) none,.v (.slice none 0 0)] 0] 0])
   (fun dk YA=>⟨_,_,rfl,Or.inr ⟨3,_,rfl,Nat.zero_le _,rfl,⟨_,_,rfl,hms dk YA _ rfl 0 0 0 (Nat.zero_le _),rfl⟩⟩,ax⟩)
   (fun dk YA hp i j p q hi hj=>HS L dk i j p q hi hj (by have:=hp p (mG hi);omega) (by have:=hp q (mG hj);omega)) rfl (fun ds nk HX=>?_)
  have cR:ds.length=(dt L).length:=by rw [nk.length_eq,List.length_range]
  have WN:=hms ds (by rw [cR,List.length_range])
  refine Kn 2 (R7 L ds) rfl rfl rfl ⟨_,_,rfl,⟨_,_,rfl,⟨nL rfl,rfl⟩,_,_,rfl,rfl,rfl⟩,_,_,rfl,⟨_,_,rfl,⟨nL rfl,rfl⟩,rfl⟩,rfl⟩
   ⟨⟨_,rfl,⟨nL rfl,rfl⟩⟩,⟨_,rfl,Or.inr ⟨3,_,rfl,by decide,rfl,⟨_,_,rfl,WN _ rfl 2 0 0 (by decide),rfl⟩⟩⟩,⟨_,rfl,WN _ rfl 2 2 1 (by decide)⟩,⟨_,rfl,rfl⟩,⟨_,rfl,rfl⟩,trivial⟩ ?_
  refine aq (fun j st=>∃ e m:Nat,st=A9 L ds (eD L ds e) m e/\m=(eD L ds e).length/\e<=(dt L).length/\j=(dt L).length - e) (dt L).length (A9 L ds [] 0 0)
   (dO 2 ⟨0,3,1,none⟩ rfl rfl rfl wTA rfl rfl wB) ⟨0,0,rfl,rfl,by omega,by omega⟩ ?_
  rintro j st ⟨e,m,rfl,hm,he,rfl⟩;have jN:=HZ L ds e;refine br (fun h=>?_) (fun h=>?_)
  ·have al:e < (dt L).length:=by simpa using h
   obtain ⟨p,hp⟩:∃ p,ds[e]? = some p:=⟨_,gE (by omega)⟩
   have hpL:p < L.length:=by
    have:=nk.mem_iff.1 (mG hp);rw [List.mem_range] at this;omega
   obtain ⟨s,hs⟩:∃ s,L[p]? = some s:=⟨_,gE hpL⟩;refine ⟨_,⟨by omega,dA hp⟩,?_⟩;have YB:ds.getD e 0=p:=by simp [List.getD_eq_getElem?_getD,hp]
   have Dc:L.getD p ap=s:=by simp [List.getD_eq_getElem?_getD,hs]
   have dH:eX L ds e=true->eD L ds (e + 1)=eD L ds e ++ [p]:=fun hh=>by rw [tM,if_pos hh,YB]
   have hold:eX L ds e=false->eD L ds (e + 1)=eD L ds e:=fun hh=>by rw [tM,if_neg (by rw [hh];decide),List.append_nil]
   have Gn:eX L ds e=true->dInts (eD L ds e) ++ [[DV.v (.int .i64 (p:Int))]]=dInts (eD L ds (e + 1)):=fun hh=>by rw [dH hh];simp [dInts]
   by_cases h0:e=0
   ·subst h0;have hh:eX L ds 0=true:=by simp [eX]
    refine aD (fun _=>false) mo (by decide +kernel) ?_;refine aX mo (by decide +kernel) ?_;refine ⟨by rw [bf,hm],⟨by simp [bf,maxLen];omega,by simp [bf];omega⟩,?_⟩;refine ⟨A9 L ds (eD L ds 1) (m + 1) 1,(ay 2 rfl (by repeat' (first | exact rfl | exact ah rfl | exact ak (cA al (by omega)) | exact cI (Gn hh) rfl | refine ⟨_,_,rfl,?_,?_⟩)) rfl rfl rfl (by repeat' (first | exact trivial | exact ah rfl | exact ak (cA al (by omega)) | exact cI (Gn hh) rfl | refine ⟨⟨_,rfl,?_⟩,?_⟩))),(dt L).length - 1,by omega,1,m + 1,rfl,by rw [dH hh,List.length_append,hm];rfl,by omega,rfl⟩
   ·obtain ⟨p',oG⟩:∃ p',ds[e - 1]? = some p':=⟨_,gE (by omega)⟩
    have hpL':p' < L.length:=by
     have:=nk.mem_iff.1 (mG oG);rw [List.mem_range] at this;omega
    obtain ⟨s',YC⟩:∃ s',L[p']? = some s':=⟨_,gE hpL'⟩;have hgp':ds.getD (e - 1) 0=p':=by simp [List.getD_eq_getElem?_getD,oG]
    have hgs':L.getD p' ap=s':=by simp [List.getD_eq_getElem?_getD,YC]
    have hhd:eX L ds e = !decide (s=s'):=by
     unfold eX;rw [YB,hgp',Dc,hgs'];simp [h0]
    have hz:IntKind.i64.wrap ((e:Int) - 1)=((e - 1:Nat):Int):=by rw [wrap64 (by omega) (by omega)];omega
    refine aD (fun _=>false) mo (by decide +kernel) ?_;refine br (fun _=>?_) (fun h=>?_)
    ·refine ⟨_,⟨by omega,eK hs⟩,?_⟩;refine ⟨[.v (.int .i64 (p':Int))],⟨by rw [hz];omega,by rw [hz];exact dA oG⟩,?_⟩;refine ⟨_,⟨by omega,eK YC⟩,?_⟩;refine br (fun h2=>?_) (fun h2=>?_)
     ·have hh:eX L ds e=true:=by
       rw [hhd];simp [aj,h0] at h2;simpa using h2
      refine aX mo (by decide +kernel) ?_;refine ⟨by rw [bf,hm],⟨by simp [bf,maxLen];omega,by simp [bf];omega⟩,?_⟩;refine ⟨A9 L ds (eD L ds (e + 1)) (m + 1) (e + 1),(ay 2 rfl (by repeat' (first | exact rfl | exact ah rfl | exact ak (cA al (by omega)) | exact cI (Gn hh) rfl | refine ⟨_,_,rfl,?_,?_⟩)) rfl rfl rfl (by repeat' (first | exact trivial | exact ah rfl | exact ak (cA al (by omega)) | exact cI (Gn hh) rfl | refine ⟨⟨_,rfl,?_⟩,?_⟩))),(dt L).length - (e + 1),by omega,e + 1,m + 1,rfl,by rw [dH hh,List.length_append,hm];rfl,by omega,rfl⟩
     ·have hh:eX L ds e=false:=by
       rw [hhd];simp [aj,h0] at h2;simpa using h2
      have aH:dInts (eD L ds e)=dInts (eD L ds (e + 1)):=by rw [hold hh]
      refine ⟨A9 L ds (eD L ds (e + 1)) m (e + 1),(ay 2 rfl (F1 al aH) rfl rfl rfl (yF al aH)),(dt L).length - (e + 1),by omega,e + 1,m,rfl,by rw [hold hh,hm],by omega,rfl⟩
    ·exfalso;have:decide ((e:Int)=0)=true:=by simpa using h
     simp at this;exact h0 this
  ·have aN:e=L.length:=by
    have:¬ e < (dt L).length:=by simpa using h
    omega
   subst aN;exact ⟨.pt (cr L (eD L ds L.length)) 0,Or.inr ⟨0,_,rfl,Nat.zero_le _,rfl,ax⟩,_,R8 (by rw [<- hN];exact nk) HX,jN,rfl⟩
abbrev R9 (L:List ByteArray) (az:List Nat) (e:Nat):St:=
 ⟨[(3,⟨[],.pt (cr L az) 0⟩),(10,⟨[],.sl 1 (dt L) none⟩),(11,⟨[],.v (.int .i64 (dt L).length)⟩),(12,⟨[],.v (.int .i64 e)⟩)],[],[]⟩
theorem KU {α:Type}:∀ {l:List α},(∀ (i j:Nat) (x:α),j < i->l[i]? = some x->l[j]? ≠ some x)->l.Nodup
 | l,h=>by
  rw [List.nodup_iff_pairwise_ne,List.pairwise_iff_getElem];intro i j hi hj sA he;exact h j i l[j] sA (gE hj) (by rw [gE hi,he])
theorem nK (L:List ByteArray) (hl:L.length<=1099511627776) :
  Ev Tryz.prog 103 [.sl 1 (dt L) none] [] [] (fun r _ _=>∃ z:Int,r = .v (.int .i64 z)/\(0<=z↔¬ L.Nodup)):=by
 have hN:=bK L;refine ev_go (P:=Tryz.prog) tt tt_ok 5000 28 [.tmp 2] Tryz.func103 rfl Tryz.ntmps103 rfl (nL rfl) (fun E9 w9 hn9 hm9=>?_);refine bl RY rfl (tN L hl) ax (fun r hr=>?_);obtain ⟨az,hT,jN,rfl⟩:=hr;refine aq (fun j st=>∃ e:Nat,st=R9 L az e/\e<=L.length/\(∀ (i j:Nat) (x:ByteArray),i < e->j < i->L[i]? = some x->L[j]? ≠ some x)/\j=L.length - e) L.length (R9 L az 0) (weak_mk ⟨_,rfl⟩ wA rfl rfl rfl wB) ⟨0,rfl,by omega,fun i j x hi=>by omega,rfl⟩ ?_;rintro j st ⟨e,rfl,he,hinv,rfl⟩;refine br (fun h=>?_) (fun h=>?_)
 ·have al:e < L.length:=by simpa [hN] using h
  obtain ⟨s,hs⟩:∃ s,L[e]? = some s:=⟨_,gE al⟩;obtain ⟨q,p,hq,hp⟩:=hT.all e s hs;have cX:=hT.fst q p e s hq hp hs;refine ⟨_,⟨by omega,eK hs⟩,?_⟩;refine call_p tE (find_spec L az s q p hT (by omega) hq hp) ax rfl ?_;refine br (fun h2=>?_) (fun h2=>?_)
  ·have h2:p < e:=by simpa using h2
   refine ⟨(e:Int),rfl,⟨fun _ hnd=>?_,fun _=>by omega⟩⟩;rw [List.nodup_iff_pairwise_ne,List.pairwise_iff_getElem] at hnd;obtain ⟨h3,h4⟩:=List.getElem?_eq_some_iff.1 hp;obtain ⟨h5,h6⟩:=List.getElem?_eq_some_iff.1 hs;exact hnd p e h3 h5 h2 (by rw [h4,h6])
  ·have h2:¬ p < e:=by simpa using h2
   refine ⟨R9 L az (e + 1),(weak_mk ⟨_,rfl⟩ wA rfl rfl rfl (wNB al)),L.length - (e + 1),by omega,e + 1,rfl,by omega,fun i j x hi hj hx hjx=>?_,rfl⟩;by_cases Gj:i=e
   ·subst Gj;rw [hs] at hx;simp only [oI] at hx;subst hx;have:=hT.fst q p j s hq hp hjx;omega
   ·exact hinv i j x (by omega) hj hx hjx
 ·have aN:e=L.length:=by
   have:¬ e < L.length:=by simpa [hN] using h
   omega
  subst aN;refine ⟨-1,rfl,⟨fun h3=>by omega,fun h3=>?_⟩⟩;exact absurd (KU fun i j x sA hi hj=>hinv i j x (gS hi).1 sA hi hj) h3
def sameWds:List Wd->List Wd->Bool
 | [],[]=>true
 | x :: r,y :: s=>decide (x.s=y.s) && sameWds r s
 | _,_=>false
theorem ry:∀ {a b:List Wd},a.length≠b.length->sameWds a b=false
 | [],[],h=>(h rfl).elim
 | x :: r,y :: s,h=>by
  have:r.length≠s.length:=by simpa using h
  simp [sameWds,ry this]
 | [],y :: s,_=>rfl
 | x :: r,[],_=>rfl
abbrev yN (a b:List Wd) (e:Nat):St:=
 ⟨[(0,⟨[],.sl 2 (bn a) none⟩),(1,⟨[],.sl 2 (bn b) none⟩),(5,⟨[],.v (.int .i64 e)⟩)],[],[]⟩
theorem kL (a b:List Wd) (hs:a.length<=4611686018427387904) :
  EvP Tryz.prog 292 [.sl 2 (bn a) none,.sl 2 (bn b) none] (.v (.bool (sameWds a b))):=by
 refine ev_go (P:=Tryz.prog) tt tt_ok 5000 28 [.tmp 4] Tryz.func292 rfl Tryz.ntmps292 rfl (nL rfl) (fun E9 w9 hn9 hm9=>?_);refine br (fun h=>?_) (fun h=>?_)
 ·have aR:a.length≠b.length:=by have:=h;simp [aw] at this;omega
  exact congrArg (fun b=>DV.v (.bool b)) (ry aR).symm
 ·have hl:a.length=b.length:=by have:=h;simp [aw] at this;omega
  refine aq (fun j st=>∃ e:Nat,st=yN a b e/\e<=a.length/\sameWds a b=sameWds (a.drop e) (b.drop e)/\j=a.length - e) a.length
   (yN a b 0) (weak_mk ⟨_,rfl⟩ wA rfl rfl rfl wB) ⟨0,rfl,by omega,rfl,by omega⟩ ?_
  rintro j st ⟨e,rfl,he,aH,rfl⟩;refine br (fun h=>?_) (fun h=>?_)
  ·have al:e < a.length:=by simpa [aw] using h
   obtain ⟨x,hx⟩:∃ x,a[e]? = some x:=⟨_,gE al⟩;obtain ⟨y,hy⟩:∃ y,b[e]? = some y:=⟨_,gE (hl ▸ al)⟩;rw [drop_cons hx,drop_cons hy] at aH;refine aD (fun _=>false) mo (by decide +kernel) ?_;refine ⟨iV x,⟨by omega,aK hx⟩,iV y,⟨by omega,aK hy⟩,?_⟩;refine br (fun h=>?_) (fun h=>?_)
   ·have aR:x.s≠y.s:=by simpa using h
    refine (congrArg (fun b=>DV.v (.bool b)) ?_:_=_);rw [aH];simp [sameWds,aR]
   ·have aR:x.s=y.s:=by simpa using h
    refine ⟨yN a b (e + 1),(weak_mk ⟨_,rfl⟩ wA rfl rfl rfl (wNB al)),a.length - (e + 1),by omega,e + 1,rfl,by omega,?_,rfl⟩;rw [aH];simp [sameWds,aR]
  ·have aN:e=a.length:=by have:=h;simp [aw] at this;omega
   refine (congrArg (fun b=>DV.v (.bool b)) ?_:_=_);rw [aH,aN,hl];simp [sameWds];rw [<- hl];simp [sameWds]
def bq (p q:Ph):Bool:=(p.bare == q.bare) && decide (p.wide=q.wide) && sameWds p.label q.label && decide (p.ck=q.ck) && decide (p.cn=q.cn) && sameWds p.cl q.cl
theorem kM (p q:Ph) (tl tl':List DV) (hs:p.wt<=4611686018427387904) (ht:CcL [] 0 0 0 tl tl) (sa:CcL [] 0 0 0 tl' tl') :
  EvP Tryz.prog 276 [.agg (DC p tl),.agg (DC q tl')] (.v (.bool (bq p q))):=by
 refine ev_go (P:=Tryz.prog) tt tt_ok 5000 51 [.tmp 4] Tryz.func276 rfl Tryz.ntmps276 rfl (nL rfl) (fun E9 w9 hn9 hm9=>?_);have h1:=bd p.label;have h2:=bd p.cl;simp only [Ph.wt] at hs;refine br (fun h=>?_) (fun h=>?_)
 ·refine call_p KH (kL p.label q.label (by omega)) ax rfl ?_;refine br (fun h2=>?_) (fun h2=>?_)
  ·refine call_p KH (kL p.cl q.cl (by omega)) ax rfl ?_;refine (congrArg (fun b=>DV.v (.bool b)) ?_:_=_);simp [pickB_and] at h h2;simp [bq,pickB_and,h,h2]
  ·refine (congrArg (fun b=>DV.v (.bool b)) ?_:_=_);simp [pickB_and] at h h2;simp [bq,pickB_and,h]
   grind
 ·refine (congrArg (fun b=>DV.v (.bool b)) ?_:_=_);simp [pickB_and] at h;simp [bq]
  grind
def jQ (h k:Hd):Bool:=decide (h.ag=k.ag) && decide (h.lo=k.lo) && decide (h.hi=k.hi) && decide (h.most=k.most) && decide (h.name.s=k.name.s) && sameWds h.af k.af
mutual
def sameTy:Ty->Ty->Bool
 | .mk h ps,.mk k qs=>jQ h k && samePts ps qs
def samePts:Pts->Pts->Bool
 | .nil,.nil=>true
 | .cons p t r,.cons q u s=>decide (p.name.s=q.name.s) && bq p q && sameTy t u && samePts r s
 | _,_=>false
end
theorem rz:∀ {a b:Pts},a.len≠b.len->samePts a b=false
 | .nil,.nil,h=>(h rfl).elim
 | .cons p t r,.cons q u s,h=>by
  have:r.len≠s.len:=by simpa [Pts.len] using h
  simp [samePts,rz this]
 | .nil,.cons _ _ _,_=>by simp [samePts]
 | .cons _ _ _,.nil,_=>by simp [samePts]
def ib (h:Hd):Hd:=
 ⟨h.ag,0,if h.ag=2 then h.lo else 0,if h.ag=2 then h.hi else 0,if h.ag=3∨h.ag=5 then h.most else 0,if h.ag=4 then h.af else [],if h.ag=9 then h.name else ⟨ap,0⟩⟩
def mask:Ty->Ty
 | .mk h ps=>.mk (ib h) (if 4 < h.ag/\h.ag < 9 then ps else .nil)
theorem xf (bx:List (List DV)) (N n m:Nat) (t:Ty):CcL bx N n m (dx t) (dx t):=by
 obtain ⟨h,ps⟩:=t;simp only [dx,CcL,Cc]
 repeat' (first | exact rfl | exact trivial | exact Or.inr (Or.inl ⟨_,rfl⟩) | refine ⟨_,_,rfl,?_,?_⟩)
abbrev DI (a b:Ty) (e:Nat):St:=
 ⟨[(2,⟨[],.loc 0 0⟩),(3,⟨[],.loc 1 0⟩),(5,⟨[],.v (.int .i64 e)⟩)],[dx a,dx b],[]⟩
theorem lQ:∀ (n:Nat) (a b:Ty),a.wt<=n->a.wt<=4611686018427387904 ->
  EvP Tryz.prog 291 [.agg (dx a),.agg (dx b)] (.v (.bool (sameTy a b)))
 | 0,a,b,hn,_=>by have:=a.dr;omega
 | n + 1,.mk h ps,.mk k qs,hn,bS=>by
  simp only [Ty.wt,Hd.wt] at hn bS;have hl:=bd h.af;have jt:=ps.eO;refine ev_go (P:=Tryz.prog) tt tt_ok 5000 98 [.tmp 4] Tryz.func291 rfl Tryz.ntmps291 rfl (nL rfl) (fun E9 w9 hn9 hm9=>?_);refine br (fun hA=>?_) (fun hA=>?_)
  ·simp [aj] at hA;obtain ⟨⟨⟨⟨e1,e2⟩,e3⟩,e4⟩,e5⟩:=hA;refine call_p KH (kL h.af k.af (by omega)) ax rfl ?_;refine br (fun hB=>?_) (fun hB=>?_)
   ·refine (congrArg (fun b=>DV.v (.bool b)) ?_:_=_);simp [aj,e1,e2,e3,e4,e5,aE] at hB;simp only [sameTy,jQ];rcases hB with hB | hB
    ·simp [hB]
    ·have:ps.len≠qs.len:=by omega
     simp [rz this]
   ·simp [aj,e1,e2,e3,e4,e5,aE] at hB;obtain ⟨e6,e7⟩:=hB;have e8:ps.len=qs.len:=by omega
    have eh:sameTy (.mk h ps) (.mk k qs)=samePts ps qs:=by simp [sameTy,jQ,e1,e2,e3,e4,e5,e6]
    refine aq (fun j st=>∃ e:Nat,st=DI (.mk h ps) (.mk k qs) e/\e<=ps.len/\samePts ps qs=samePts (ps.drop e) (qs.drop e)/\j=ps.len - e) ps.len
     (DI (.mk h ps) (.mk k qs) 0) (weak_mk ⟨_,rfl⟩ wA rfl rfl rfl wB) ⟨0,rfl,by omega,rfl,by omega⟩ ?_
    rintro j st ⟨e,rfl,he,aH,rfl⟩;refine br (fun hL=>?_) (fun hL=>?_)
    ·have al:e < ps.len:=by simpa [aE] using hL
     obtain ⟨p,t,hx⟩:=Pts.dP al;obtain ⟨q,u,hy⟩:=Pts.dP (e8 ▸ al);rw [Pts.drop_cons hx,Pts.drop_cons hy] at aH;have Ba:=Pts.fk (mG hx);obtain ⟨t,ts⟩:=t;obtain ⟨u,us⟩:=u;apply mD (fun _=>false) 10 11 [0,1,2,3,4,5,6,7,8,9,10,11,12,13] [0,1,2,3,4,5,6,7,8,9,11,10,12,13] 2 3 mo (by decide +kernel)
     ·refine ⟨_,⟨by omega,bz hx⟩,_,⟨by omega,bz hy⟩,?_⟩;refine (?_:@Eq St _ _);exact rfl
     ·refine ⟨_,⟨by omega,bz hx⟩,_,⟨by omega,bz hy⟩,?_⟩;refine (⟨rfl,rfl,?_⟩:_/\_/\_)
      repeat' (first | exact trivial | refine ⟨rfl,?_⟩)
     ·rfl
     refine br (fun hC=>?_) (fun hC=>?_)
     ·have hC:p.name.s=q.name.s:=by simpa using hC
      refine call_p KE (kM p q (dx (.mk t ts)) (dx (.mk u us)) (by omega) (xf _ _ _ _ _) (xf _ _ _ _ _)) ax rfl ?_;refine br (fun hD=>?_) (fun hD=>?_)
      ·have hD:bq p q=true:=by simpa [aj,hC] using hD
       refine call_p lP (lQ n (.mk t ts) (.mk u us) (by omega) (by omega)) ax rfl ?_;refine br (fun hE=>?_) (fun hE=>?_)
       ·refine (congrArg (fun b=>DV.v (.bool b)) ?_:_=_);rw [eh,aH];simp [aj,hC,hD] at hE;simp [samePts,hE]
       ·simp [aj,hC,hD] at hE;refine ⟨DI (.mk h ps) (.mk k qs) (e + 1),(weak_mk ⟨_,rfl⟩ wA rfl rfl rfl (wNB al)),ps.len - (e + 1),by omega,e + 1,rfl,by omega,?_,rfl⟩;rw [aH];simp [samePts,hC,hD,hE]
      ·have hD:bq p q=false:=by simpa [aj,hC] using hD
       refine (congrArg (fun b=>DV.v (.bool b)) ?_:_=_);rw [eh,aH];simp [samePts,hD]
     ·have hC:p.name.s≠q.name.s:=by simpa using hC
      refine (congrArg (fun b=>DV.v (.bool b)) ?_:_=_);rw [eh,aH];simp [samePts,hC]
    ·have aN:e=ps.len:=by have:=hL;simp [aE] at this;omega
     refine (congrArg (fun b=>DV.v (.bool b)) ?_:_=_);rw [eh,aH,aN,Pts.cJ,e8,Pts.cJ];simp [samePts]
  ·refine (congrArg (fun b=>DV.v (.bool b)) ?_:_=_);simp [aj] at hA;simp only [sameTy,jQ]
   grind
theorem Bb (t:Ty) (bS:t.wt<=4611686018427387904) :
  EvP Tryz.prog 294 [.agg (dx t)] (.v (.bool (sameTy t bF))):=by
 obtain ⟨h,ps⟩:=t;refine ev_go (P:=Tryz.prog) tt tt_ok 5000 6 [.tmp 2] Tryz.func294 rfl Tryz.ntmps294 rfl (nL rfl) (fun E9 w9 hn9 hm9=>?_);refine call_p lP (lQ _ (.mk h ps) bF (Nat.le_refl _) bS) ax rfl ?_;exact (rfl:_=_)
theorem DJ (t:Ty) (bS:t.wt<=4611686018427387904) :
  EvP Tryz.prog 274 [.agg (dx t)] (.v (.bool (sameTy t (mask t)))):=by
 obtain ⟨h,ps⟩:=t
 have key:∀ (h':Hd) (ps':Pts),ib h=h' -> (if 4 < h.ag/\h.ag < 9 then ps else .nil)=ps' ->
   EvP Tryz.prog 291 [.agg (dx (.mk h ps)),.agg (dx (.mk h' ps'))] (.v (.bool (sameTy (.mk h ps) (mask (.mk h ps))))):=by
  rintro h' ps' rfl rfl;exact lQ _ (.mk h ps) _ (Nat.le_refl _) bS
 obtain ⟨ag,aC,lo,hi,most,af,name⟩:=h;by_cases hr:2<=ag/\ag<=9
 ·obtain hk | hk | hk | hk | hk | hk | hk | hk:ag=2∨ag=3∨ag=4∨ag=5∨ag=6∨ag=7∨ag=8∨ag=9:=by omega
  ·subst hk;refine ev_go (P:=Tryz.prog) tt tt_ok 5000 53 [.tmp 2] Tryz.func274 rfl Tryz.ntmps274 rfl (nL rfl) (fun E9 w9 hn9 hm9=>?_);refine call_p lP (key ⟨2,0,lo,hi,0,[],⟨ap,0⟩⟩ .nil (by simp [ib]) (by simp)) ax rfl ?_;exact (rfl:_=_)
  ·subst hk;refine ev_go (P:=Tryz.prog) tt tt_ok 5000 53 [.tmp 2] Tryz.func274 rfl Tryz.ntmps274 rfl (nL rfl) (fun E9 w9 hn9 hm9=>?_);refine call_p lP (key ⟨3,0,0,0,most,[],⟨ap,0⟩⟩ .nil (by simp [ib]) (by simp)) ax rfl ?_;exact (rfl:_=_)
  ·subst hk;refine ev_go (P:=Tryz.prog) tt tt_ok 5000 53 [.tmp 2] Tryz.func274 rfl Tryz.ntmps274 rfl (nL rfl) (fun E9 w9 hn9 hm9=>?_);refine call_p lP (key ⟨4,0,0,0,0,af,⟨ap,0⟩⟩ .nil (by simp [ib]) (by simp)) ax rfl ?_;exact (rfl:_=_)
  ·subst hk;refine ev_go (P:=Tryz.prog) tt tt_ok 5000 53 [.tmp 2] Tryz.func274 rfl Tryz.ntmps274 rfl (nL rfl) (fun E9 w9 hn9 hm9=>?_);refine call_p lP (key ⟨5,0,0,0,most,[],⟨ap,0⟩⟩ ps (by simp [ib]) (by simp)) ax rfl ?_;exact (rfl:_=_)
  ·subst hk;refine ev_go (P:=Tryz.prog) tt tt_ok 5000 53 [.tmp 2] Tryz.func274 rfl Tryz.ntmps274 rfl (nL rfl) (fun E9 w9 hn9 hm9=>?_);refine call_p lP (key ⟨6,0,0,0,0,[],⟨ap,0⟩⟩ ps (by simp [ib]) (by simp)) ax rfl ?_;exact (rfl:_=_)
  ·subst hk;refine ev_go (P:=Tryz.prog) tt tt_ok 5000 53 [.tmp 2] Tryz.func274 rfl Tryz.ntmps274 rfl (nL rfl) (fun E9 w9 hn9 hm9=>?_);refine call_p lP (key ⟨7,0,0,0,0,[],⟨ap,0⟩⟩ ps (by simp [ib]) (by simp)) ax rfl ?_;exact (rfl:_=_)
  ·subst hk;refine ev_go (P:=Tryz.prog) tt tt_ok 5000 53 [.tmp 2] Tryz.func274 rfl Tryz.ntmps274 rfl (nL rfl) (fun E9 w9 hn9 hm9=>?_);refine call_p lP (key ⟨8,0,0,0,0,[],⟨ap,0⟩⟩ ps (by simp [ib]) (by simp)) ax rfl ?_;exact (rfl:_=_)
  ·subst hk;refine ev_go (P:=Tryz.prog) tt tt_ok 5000 53 [.tmp 2] Tryz.func274 rfl Tryz.ntmps274 rfl (nL rfl) (fun E9 w9 hn9 hm9=>?_);refine call_p lP (key ⟨9,0,0,0,0,[],name⟩ .nil (by simp [ib]) (by simp)) ax rfl ?_;exact (rfl:_=_)
 ·refine ev_go (P:=Tryz.prog) tt tt_ok 5000 53 [.tmp 2] Tryz.func274 rfl Tryz.ntmps274 rfl (nL rfl) (fun E9 w9 hn9 hm9=>?_);refine br (fun c=>?_) (fun c1=>?_)
  ·have:ag=2:=of_decide_eq_true c;omega
  refine br (fun c=>?_) (fun c2=>?_)
  ·simp [aj] at c;omega
  refine br (fun c=>?_) (fun c3=>?_)
  ·have:ag=4:=of_decide_eq_true c;omega
  refine br (fun c=>?_) (fun c4=>?_)
  ·simp [pickB_and] at c;omega
  refine br (fun c=>?_) (fun c5=>?_)
  ·have:ag=9:=of_decide_eq_true c;omega
  have e1:¬ ag=2:=of_decide_eq_false c1;have e3:¬ ag=4:=of_decide_eq_false c3;have e5:¬ ag=9:=of_decide_eq_false c5;simp [aj,pickB_and] at c2 c4;refine call_p lP (key ⟨ag,0,0,0,0,[],⟨ap,0⟩⟩ .nil (by simp [ib,e1,c2,e3,e5]) (by simp;omega)) ax rfl ?_;exact (rfl:_=_)
abbrev Ft:Type:=Int × Int
def Ft.d (f:Ft):DV:=.agg [.v (.int .i64 f.1),.v (.int .i64 f.2)]
def badWd:List Wd->Ft
 | []=>(0,0)
 | w :: r=>if aU w.s then badWd r else (9,w.a)
def bu (l:List Wd):Ft:=
 if l.length<=32 then badWd l else (8,((l[32]?).getD (⟨ap,0⟩:Wd)).a)
abbrev yO (l:List Wd) (e:Nat):St:=
 ⟨[(0,⟨[],.sl 2 (bn l) none⟩),(2,⟨[],.loc 0 0⟩),(3,⟨[],.v (.int .i64 e)⟩)],[[.v (.int .i64 0),.v (.int .i64 0)]],[]⟩
theorem kN (l:List Wd) (hs:wdsWt l<=4611686018427387904) :
  EvP Tryz.prog 272 [.sl 2 (bn l) none] (bu l).d:=by
 have ll:=bd l;refine ev_go (P:=Tryz.prog) tt tt_ok 5000 32 [.cell 2 54] Tryz.func272 rfl Tryz.ntmps272 rfl (nL rfl) (fun E9 w9 hn9 hm9=>?_);refine br (fun h=>?_) (fun h=>?_)
 ·have al:32 < l.length:=by simp [aw] at h;omega
  obtain ⟨x,hx⟩:∃ x,l[32]? = some x:=⟨_,gE al⟩;have:bu l=(8,x.a):=by simp [bu,Nat.not_le.2 al,hx]
  refine ⟨iV x,⟨by omega,aK hx⟩,_,?_,rfl⟩;rw [this];exact ax
 ·have fv:l.length<=32:=by simp [aw] at h;omega
  refine aq (fun j st=>∃ e:Nat,st=yO l e/\e<=l.length/\badWd l=badWd (l.drop e)/\j=l.length - e) l.length
   (yO l 0) (weak_mk ⟨_,rfl⟩ wA rfl rfl rfl wB) ⟨0,rfl,by omega,rfl,by omega⟩ ?_
  rintro j st ⟨e,rfl,he,aH,rfl⟩;refine br (fun hL=>?_) (fun hL=>?_)
  ·have al:e < l.length:=by simpa [aw] using hL
   obtain ⟨x,hx⟩:∃ x,l[e]? = some x:=⟨_,gE al⟩;rw [drop_cons hx] at aH;have wM:=gy (mG hx);refine ⟨iV x,⟨by omega,aK hx⟩,?_⟩;refine call_p Gh (jB x.s (by omega)) ax rfl ?_;refine br (fun hN=>?_) (fun hN=>?_)
   ·have hN:aU x.s=false:=by simpa using hN
    have:bu l=(9,x.a):=by simp [bu,fv,aH,badWd,hN]
    refine ⟨iV x,⟨by omega,aK hx⟩,_,?_,rfl⟩;rw [this];exact ax
   ·have hN:aU x.s=true:=by simpa using hN
    refine ⟨yO l (e + 1),(weak_mk ⟨_,rfl⟩ wA rfl rfl rfl (wNB al)),l.length - (e + 1),by omega,e + 1,rfl,by omega,?_,rfl⟩;rw [aH];simp [badWd,hN]
  ·have aN:e=l.length:=by simp [aw] at hL;omega
   have:bu l=(0,0):=by simp [bu,fv,aH,aN,badWd]
   refine ⟨_,?_,rfl⟩;rw [this];exact ax
def bp (l:List Wd) (s:ByteArray):Bool:=l.any fun w=>decide (w.s=s)
def aA (l:List Wd) (i:Nat) (x:Wd):Int:=
 if aU x.s then (if bp (l.take i) x.s then 10 else 0) else 9
abbrev tO (l:List Wd) (i e:Nat):St:=
 ⟨[(0,⟨[],.sl 2 (bn l) none⟩),(1,⟨[],.v (.int .i64 i)⟩),(5,⟨[],.v (.int .i64 e)⟩)],[],[]⟩
theorem np (l:List Wd) (i:Nat) (x:Wd) (hs:wdsWt l<=4611686018427387904) (hx:l[i]? = some x) :
  EvP Tryz.prog 275 [.sl 2 (bn l) none,.v (.int .i64 i)] (.v (.int .i64 (aA l i x))):=by
 have ll:=bd l;have hi:=(gS hx).1;have wM:=gy (mG hx);refine ev_go (P:=Tryz.prog) tt tt_ok 5000 29 [.tmp 4] Tryz.func275 rfl Tryz.ntmps275 rfl (nL rfl) (fun E9 w9 hn9 hm9=>?_);refine ⟨iV x,⟨by omega,aK hx⟩,?_⟩;refine call_p Gh (jB x.s (by omega)) ax rfl ?_;refine br (fun hN=>?_) (fun hN=>?_)
 ·have hN:aU x.s=false:=by simpa using hN
  refine (congrArg (fun z=>DV.v (.int .i64 z)) ?_:_=_);simp [aA,hN]
 ·have hN:aU x.s=true:=by simpa using hN
  refine aq (fun j st=>∃ e:Nat,st=tO l i e/\e<=i/\bp (l.take e) x.s=false/\j=i - e) i
   (tO l i 0) (weak_mk ⟨_,rfl⟩ wA rfl rfl rfl wB) ⟨0,rfl,by omega,rfl,by omega⟩ ?_
  rintro j st ⟨e,rfl,he,aH,rfl⟩;refine br (fun hL=>?_) (fun hL=>?_)
  ·have al:e < i:=by simpa using hL
   obtain ⟨y,hy⟩:∃ y,l[e]? = some y:=⟨_,gE (by omega)⟩;refine aD (fun _=>false) mo (by decide +kernel) ?_;refine ⟨iV y,⟨by omega,aK hy⟩,iV x,⟨by omega,aK hx⟩,?_⟩;refine br (fun hE=>?_) (fun hE=>?_)
   ·have hE:y.s=x.s:=by simpa using hE
    refine (congrArg (fun z=>DV.v (.int .i64 z)) ?_:_=_)
    have:bp (l.take i) x.s=true:=by
     simp only [bp,List.any_eq_true];exact ⟨y,List.mem_take_iff_getElem.2 ⟨e,by omega,(gS hy).2⟩,by simpa using hE⟩
    simp [aA,hN,this]
   ·have hE:¬ y.s=x.s:=by simpa using hE
    refine ⟨tO l i (e + 1),(weak_mk ⟨_,rfl⟩ wA rfl rfl rfl (wNB al)),i - (e + 1),by omega,e + 1,rfl,by omega,?_,rfl⟩;rw [List.take_add_one,hy];simp only [bp,List.any_append] at aH ⊢;simp [aH,hE]
  ·have aN:e=i:=by have:=of_decide_eq_false hL;omega
   refine (congrArg (fun z=>DV.v (.int .i64 z)) ?_:_=_);subst aN;simp [aA,hN,aH]
def pNames:Pts->List Wd
 | .nil=>[]
 | .cons p _ r=>p.name :: pNames r
theorem fl:∀ ps:Pts,(pNames ps).length=ps.len
 | .nil=>rfl
 | .cons p t r=>by simp [pNames,Pts.len,fl r]
theorem fm:∀ {ps:Pts} {j:Nat} {p:Ph} {t:Ty},ps.toList[j]? = some (p,t)->(pNames ps)[j]? = some p.name
 | .nil,j,p,t,h=>by simp [Pts.toList] at h
 | .cons q u r,0,p,t,h=>by
  simp only [Pts.toList,List.getElem?_cons_zero,oI,Prod.mk.injEq] at h;obtain ⟨rfl,rfl⟩:=h;simp [pNames]
 | .cons q u r,j + 1,p,t,h=>by
  simp only [Pts.toList,List.getElem?_cons_succ] at h;simp only [pNames,List.getElem?_cons_succ];exact fm h
theorem qp:∀ ps:Pts,wdsWt (pNames ps)<=ps.wt
 | .nil=>Nat.le_refl _
 | .cons p t r=>by
  have:=qp r;simp only [pNames,wdsWt,Pts.wt,Ph.wt] at this ⊢;omega
abbrev yP (ps:Pts) (l:List Wd) (n e:Nat):St:=
 ⟨[(0,⟨[],.sl 18 (eP ps) none⟩),(3,⟨[],.sl 2 (bn l) (some 0)⟩),(4,⟨[],.v (.int .i64 e)⟩)],[],[⟨n,38,2,none⟩]⟩
theorem yQ (ps:Pts) (hs:ps.wt<=1099511627776):EvP Tryz.prog 293 [.sl 18 (eP ps) none] (.sl 2 (bn (pNames ps)) none):=by
 have jt:=ps.eO;refine ev_go (P:=Tryz.prog) tt tt_ok 5000 20 [.tmp 2] Tryz.func293 rfl Tryz.ntmps293 rfl (nL rfl) (fun E9 w9 hn9 hm9=>?_)
 refine aq (fun j st=>∃ (e:Nat),st=yP ps ((pNames ps).take e) e e/\e<=ps.len/\j=ps.len - e) ps.len
  (yP ps [] 0 0) (eV ⟨0,38,2,none⟩ rfl ⟨_,rfl⟩ rfl wA rfl rfl Ah) ⟨0,by simp,by omega,by omega⟩ ?_
 rintro j st ⟨e,rfl,he,rfl⟩;refine br (fun hL=>?_) (fun hL=>?_)
 ·have al:e < ps.len:=by simpa [aE] using hL
  obtain ⟨p,t,hx⟩:=Pts.dP al;refine ⟨_,⟨by omega,bz hx⟩,?_⟩;refine ⟨by simp [aw,fl];omega,⟨by simp [aw,fl,maxLen];omega,by simp [aw,fl];omega⟩,?_⟩;refine ⟨yP ps ((pNames ps).take (e + 1)) (e + 1) (e + 1),(weak_mk ⟨_,rfl⟩ wA rfl rfl rfl (by repeat' (first | exact trivial | exact ah rfl | exact ak (cA al (by omega)) | exact cI (w7 (fm hx)) rfl | refine ⟨⟨_,rfl,?_⟩,?_⟩))),ps.len - (e + 1),by omega,e + 1,rfl,by omega,rfl⟩
 ·have aN:e=ps.len:=by simp [aE] at hL;omega
  rw [aN,List.take_of_length_le (by rw [fl];omega)];exact ⟨_,ax,rfl⟩
mutual
def Ty.cnt:Ty->Nat
 | .mk _ ps=>1 + ps.cnt
def Pts.cnt:Pts->Nat
 | .nil=>0
 | .cons p t r=>(if p.bare then 0 else t.cnt) + r.cnt
end
mutual
def Ty.deep:Ty->Nat
 | .mk _ ps=>ps.deep + 1
def Pts.deep:Pts->Nat
 | .nil=>0
 | .cons p t r=>max (if p.bare then 0 else t.deep) r.deep
end
mutual
theorem Ty.dQ:∀ t:Ty,t.cnt<=t.wt
 | .mk h ps=>by have:=Pts.dQ ps;simp only [Ty.cnt,Ty.wt,Hd.wt];omega
theorem Pts.dQ:∀ ps:Pts,ps.cnt<=ps.wt
 | .nil=>Nat.le_refl _
 | .cons p t r=>by
  have:=Ty.dQ t;have:=Pts.dQ r;simp only [Pts.cnt,Pts.wt];split<;>omega
end
mutual
theorem Ty.mI:∀ t:Ty,t.deep<=t.wt
 | .mk h ps=>by have:=Pts.mI ps;simp only [Ty.deep,Ty.wt,Hd.wt];omega
theorem Pts.mI:∀ ps:Pts,ps.deep<=ps.wt
 | .nil=>Nat.le_refl _
 | .cons p t r=>by
  have:=Ty.mI t;have:=Pts.mI r;simp only [Pts.deep,Pts.wt];split<;>omega
end
abbrev tP (t:Ty) (e n d:Nat):St:=
 ⟨[(1,⟨[],.loc 0 0⟩),(4,⟨[],.v (.int .i64 n)⟩),(5,⟨[],.v (.int .i64 d)⟩),(6,⟨[],.v (.int .i64 e)⟩)],[dx t],[]⟩
theorem jC:∀ (k:Nat) (t:Ty),t.wt<=k->t.wt<=1099511627776 ->
  EvP Tryz.prog 42 [.agg (dx t)] (.tup [.v (.int .i64 t.cnt),.v (.int .i64 t.deep)])
 | 0,t,hn,_=>by have:=t.dr;omega
 | k + 1,.mk h ps,hn,bS=>by
  simp only [Ty.wt,Hd.wt] at hn bS;have jt:=ps.eO;have hc:=ps.dQ;have hdp:=ps.mI;refine ev_go (P:=Tryz.prog) tt tt_ok 5000 42 [.tmp 2,.tmp 3] Tryz.func42 rfl Tryz.ntmps42 rfl (nL rfl) (fun E9 w9 hn9 hm9=>?_)
  refine aq (fun j st=>∃ (e n d:Nat),st=tP (.mk h ps) e n d/\e<=ps.len/\n + (ps.drop e).cnt=1 + ps.cnt/\max d (ps.drop e).deep=ps.deep/\j=ps.len - e) ps.len
   (tP (.mk h ps) 0 1 0) (weak_mk ⟨_,rfl⟩ wA rfl rfl rfl wB) ⟨0,1,0,rfl,by omega,rfl,by simp [Pts.drop],by omega⟩ ?_
  rintro j st ⟨e,n,d,rfl,he,aR,TW,rfl⟩;refine br (fun hL=>?_) (fun hL=>?_)
  ·have al:e < ps.len:=by simpa [aE] using hL
   obtain ⟨p,t,hx⟩:=Pts.dP al;have Ba:=Pts.fk (mG hx);rw [Pts.drop_cons hx] at aR TW;simp only [Pts.cnt,Pts.deep] at aR TW;have hct:=t.dQ;have hdt:=t.mI;refine ⟨_,⟨by omega,bz hx⟩,?_⟩;refine br (fun hB=>?_) (fun hB=>?_)
   ·rw [if_pos hB] at aR TW;exact ⟨tP (.mk h ps) (e + 1) n d,(weak_mk ⟨_,rfl⟩ wA rfl rfl rfl (wNB al)),ps.len - (e + 1),by omega,e + 1,n,d,rfl,by omega,by omega,by omega,rfl⟩
   ·rw [if_neg (by simp [hB])] at aR TW;obtain ⟨u,us⟩:=t;refine ⟨_,⟨by omega,bz hx⟩,?_⟩;refine call_p Ol (jC k (.mk u us) (by omega) (by omega)) ax rfl ?_;have rA:IntKind.i64.wrap ((n:Int) + (Ty.mk u us).cnt)=((n + (Ty.mk u us).cnt:Nat):Int):=by rw [wrap64 (by omega) (by omega)];omega
    refine br (fun hD=>?_) (fun hD=>?_)
    ·have hD:d < (Ty.mk u us).deep:=by simpa using hD
     exact ⟨tP (.mk h ps) (e + 1) (n + (Ty.mk u us).cnt) (Ty.mk u us).deep,(weak_mk ⟨_,rfl⟩ wA rfl rfl rfl (by repeat' (first | exact trivial | exact ah rfl | exact ak rA | exact ak (cA al (by omega)) | refine ⟨⟨_,rfl,?_⟩,?_⟩))),ps.len - (e + 1),by omega,e + 1,_,_,rfl,by omega,by omega,by omega,rfl⟩
    ·have hD:¬ d < (Ty.mk u us).deep:=by simpa using hD
     exact ⟨tP (.mk h ps) (e + 1) (n + (Ty.mk u us).cnt) d,(weak_mk ⟨_,rfl⟩ wA rfl rfl rfl (by repeat' (first | exact trivial | exact ah rfl | exact ak rA | exact ak (cA al (by omega)) | refine ⟨⟨_,rfl,?_⟩,?_⟩))),ps.len - (e + 1),by omega,e + 1,_,_,rfl,by omega,by omega,by omega,rfl⟩
  ·have aN:e=ps.len:=by simp [aE] at hL;omega
   rw [aN,Pts.cJ] at aR TW;simp only [Pts.cnt,Pts.deep] at aR TW;have e1:IntKind.i64.wrap ((d:Int) + 1)=((Ty.mk h ps).deep:Int):=by rw [wrap64 (by omega) (by omega)];simp only [Ty.deep];omega
   have e2:(n:Int)=((Ty.mk h ps).cnt:Int):=by simp only [Ty.cnt];omega
   refine ⟨_,?_,rfl⟩;rw [<- e1,<- e2];exact ax
def wD (f:Ft) (n:Int):DV:=.agg [.v (.int .i64 f.1),.v (.int .i64 f.2),.v (.int .i64 n)]
theorem dJ (f:Ft) (n e a:Int):EvP Tryz.prog 273 [wD f n,.v (.int .i64 e),.v (.int .i64 a)] (wD (e,a) n):=by
 refine ev_go (P:=Tryz.prog) tt tt_ok 5000 13 [.cell 6 320] Tryz.func273 rfl Tryz.ntmps273 rfl (nL rfl) (fun E9 w9 hn9 hm9=>?_);exact ⟨_,ax,rfl⟩
def aP (p:Ph):Ft:=
 if p.ck=0 then (if p.cn=0/\p.cl=[] then (0,0) else (19,p.name.a))
 else if p.ck < 0∨3 < p.ck then (14,p.ca)
 else if (p.ck=1/\p.cn < 1)∨(p.ck=2/\(p.cn < 0∨4096 < p.cn))∨(p.ck=3/\p.cn≠0) then (20,p.ca)
 else bu p.cl
theorem vY (p:Ph) (tl:List DV) (hs:p.wt<=4611686018427387904) :
  EvP Tryz.prog 295 [.agg (DC p tl)] (aP p).d:=by
 simp only [Ph.wt] at hs;refine ev_go (P:=Tryz.prog) tt tt_ok 5000 73 [.cell 2 54] Tryz.func295 rfl Tryz.ntmps295 rfl (nL rfl) (fun E9 w9 hn9 hm9=>?_);refine br (fun h0=>?_) (fun h0=>?_)
 ·have h0:p.ck=0:=by simpa using h0
  refine br (fun h1=>?_) (fun h1=>?_)
  ·have:aP p=(19,p.name.a):=by
    simp [aj,aw] at h1;simp only [aP,h0,if_true];rw [if_neg];rintro ⟨h2,h3⟩;rcases h1 with h1 | h1
    ·exact h1 h2
    ·simp [h3] at h1
   refine ⟨_,?_,rfl⟩;rw [this];exact ax
  ·have:aP p=(0,0):=by
    simp [aj,aw] at h1;simp [aP,h0,h1.1,h1.2]
   refine ⟨_,?_,rfl⟩;rw [this];exact ax
 ·have h0:¬ p.ck=0:=by simpa using h0
  refine br (fun h1=>?_) (fun h1=>?_)
  ·have:aP p=(14,p.ca):=by
    simp [aj] at h1;simp [aP,h0,h1]
   refine ⟨_,?_,rfl⟩;rw [this];exact ax
  ·simp [aj] at h1;refine br (fun h2=>?_) (fun h2=>?_)
   ·have:aP p=(20,p.ca):=by
     simp [aj,pickB_and] at h2;simp only [aP,h0,if_false];rw [if_neg (by omega),if_pos (by omega)]
    refine ⟨_,?_,rfl⟩;rw [this];exact ax
   ·have hc:aP p=bu p.cl:=by
     simp [aj,pickB_and] at h2;simp only [aP,h0,if_false];rw [if_neg (by omega),if_neg (by omega)]
    refine call_p KD (kN p.cl (by omega)) ax rfl ?_;refine ⟨_,?_,rfl⟩;rw [hc];exact ax
def enumL (all:List Wd):Nat->List Wd->Ft
 | _,[]=>(0,0)
 | i,x :: r=>if aA all i x≠0 then (aA all i x,x.a) else enumL all (i + 1) r
def gA (h:Hd):Ft:=
 if h.af=[] then (15,h.aC)
 else if 64 < h.af.length then (8,((h.af[64]?).getD (⟨ap,0⟩:Wd)).a)
 else enumL h.af 0 h.af
def cY (p:Ph):Ft:=
 if p.wide < 0∨64 < p.wide then (20,p.name.a)
 else if (bu p.label).1≠0 then bu p.label
 else aP p
def sj (t:Ty):Bool:=sameTy t (mask t)
mutual
def wrong:Ty->Int->Int->Ft × Int
 | .mk h ps,depth,m=>
  if 24 < depth then ((6,h.aC),m + 1)
  else if 512 < m + 1 then ((8,h.aC),m + 1)
  else if h.ag < 1∨9 < h.ag then ((14,h.aC),m + 1)
  else if sj (.mk h ps)=false then ((19,h.aC),m + 1)
  else if (h.ag=2/\h.hi < h.lo)∨(h.ag=3/\(h.most < 0∨4096 < h.most)) then ((20,h.aC),m + 1)
  else if h.ag=9/\aU h.name.s=false then ((9,h.name.a),m + 1)
  else if h.ag=4 then (gA h,m + 1)
  else if h.ag=5∨h.ag=6 then wrongOne h ps depth (m + 1)
  else if h.ag=7∨h.ag=8 then
   if h.ag=8/\ps.len=0 then ((15,h.aC),m + 1)
   else if 64 < ps.len then ((8,(((pNames ps)[64]?).getD (⟨ap,0⟩:Wd)).a),m + 1)
   else wrongPts h.ag (pNames ps) 0 ps depth (m + 1)
  else ((0,0),m + 1)
def wrongOne:Hd->Pts->Int->Int->Ft × Int
 | h,.cons p t .nil,depth,m=>
  if p.name.s≠ap∨bq p ei=false then ((19,h.aC),m)
  else if h.most < 0∨1024 < h.most then ((20,h.aC),m)
  else wrong t (depth + 1) m
 | h,_,_,m=>((19,h.aC),m)
def wrongPts (ag:Int) (all:List Wd):Nat->Pts->Int->Int->Ft × Int
 | _,.nil,_,m=>((0,0),m)
 | i,.cons p t r,depth,m=>
  if aA all i p.name≠0 then ((aA all i p.name,p.name.a),m)
  else if p.bare=true then
   if ag=7∨sameTy t bF=false∨bq p eC=false then ((19,p.name.a),m) else wrongPts ag all (i + 1) r depth m
  else if (cY p).1≠0 then (cY p,m)
  else if (wrong t (depth + 1) m).1.1≠0 then wrong t (depth + 1) m
  else wrongPts ag all (i + 1) r depth (wrong t (depth + 1) m).2
end
def yR (k:Nat):Prop:=∀ (t:Ty) (depth m:Int),t.wt<=k->t.wt<=1099511627776->0<=depth->depth<=25->0<=m->m<=512 ->
 EvP Tryz.prog 233 [wD (0,0) m,.agg (dx t),.v (.int .i64 depth)] (wD (wrong t depth m).1 (wrong t depth m).2)
abbrev sE (t:Ty) (e:Nat) (depth m:Int):St:=
 ⟨[(2,⟨[],.v (.int .i64 depth)⟩),(3,⟨[],.loc 0 0⟩),(4,⟨[],.loc 1 0⟩),(6,⟨[],.loc 2 0⟩),(7,⟨[],.v (.int .i64 e)⟩)],[[.v (.int .i64 0),.v (.int .i64 0),.v (.int .i64 m)],dx t,[.v (.int .i64 0),.v (.int .i64 0),.v (.int .i64 0)]],[]⟩
def ej (h:Hd) (ps:Pts) (depth m:Int):Ft × Int:=
 if h.ag=8/\ps.len=0 then ((15,h.aC),m)
 else if 64 < ps.len then ((8,(((pNames ps)[64]?).getD (⟨ap,0⟩:Wd)).a),m)
 else wrongPts h.ag (pNames ps) 0 ps depth m
theorem Bc (all:List Wd):∀ (l:List Wd) (i:Nat),(enumL all i l).1=0->enumL all i l=(0,0)
 | [],_,_=>rfl
 | x :: r,i,h=>by
  have ih:=Bc all r (i + 1);simp only [enumL] at h ⊢;split at h
  ·rename_i hc;exact (hc h).elim
  ·rename_i hc;rw [if_neg hc];exact ih h
theorem xg (h:Hd) (he:(gA h).1=0):gA h=(0,0):=by
 unfold gA at he ⊢;split at he
 ·simp at he
 ·split at he
  ·simp at he
  ·rename_i h1 h2;rw [if_neg h1,if_neg h2];exact Bc _ _ _ he
mutual
theorem oO:∀ (t:Ty) (depth m:Int),0<=m->(wrong t depth m).1.1=0->(wrong t depth m).1=(0,0)/\0<=(wrong t depth m).2/\(wrong t depth m).2<=512
 | .mk h ps,depth,m,hm,he=>by
  have i1:=Bd h ps depth (m + 1) (by omega);have i2:=lR h.ag (pNames ps) ps 0 depth (m + 1) (by omega);have i3:=xg h;simp only [wrong] at he ⊢;by_cases c0:24 < depth
  ·rw [if_pos c0] at he;simp at he
  rw [if_neg c0] at he ⊢;by_cases c1:512 < m + 1
  ·rw [if_pos c1] at he;simp at he
  rw [if_neg c1] at he ⊢;by_cases c2:h.ag < 1∨9 < h.ag
  ·rw [if_pos c2] at he;simp at he
  rw [if_neg c2] at he ⊢;by_cases c3:sj (.mk h ps)=false
  ·rw [if_pos c3] at he;simp at he
  rw [if_neg c3] at he ⊢;by_cases c4:(h.ag=2/\h.hi < h.lo)∨(h.ag=3/\(h.most < 0∨4096 < h.most))
  ·rw [if_pos c4] at he;simp at he
  rw [if_neg c4] at he ⊢;by_cases c5:h.ag=9/\aU h.name.s=false
  ·rw [if_pos c5] at he;simp at he
  rw [if_neg c5] at he ⊢;by_cases k4:h.ag=4
  ·rw [if_pos k4] at he ⊢;exact ⟨i3 he,by simp only;omega,by simp only;omega⟩
  rw [if_neg k4] at he ⊢;by_cases k5:h.ag=5∨h.ag=6
  ·rw [if_pos k5] at he ⊢;exact i1 (by omega) he
  rw [if_neg k5] at he ⊢;by_cases k7:h.ag=7∨h.ag=8
  ·rw [if_pos k7] at he ⊢;by_cases k8:h.ag=8/\ps.len=0
   ·rw [if_pos k8] at he;simp at he
   rw [if_neg k8] at he ⊢;by_cases k9:64 < ps.len
   ·rw [if_pos k9] at he;simp at he
   rw [if_neg k9] at he ⊢;exact i2 (by omega) he
  ·rw [if_neg k7];exact ⟨rfl,by simp only;omega,by simp only;omega⟩
theorem Bd:∀ (h:Hd) (ps:Pts) (depth m:Int),0<=m->m<=512->(wrongOne h ps depth m).1.1=0->(wrongOne h ps depth m).1=(0,0)/\0<=(wrongOne h ps depth m).2/\(wrongOne h ps depth m).2<=512
 | h,.nil,depth,m,hm,_,he=>by simp [wrongOne] at he
 | h,.cons p t .nil,depth,m,hm,h5,he=>by
  have ih:=oO t (depth + 1) m hm;simp only [wrongOne] at he ⊢;split at he
  ·simp at he
  ·split at he
   ·simp at he
   ·rename_i h1 h2;rw [if_neg h1,if_neg h2];exact ih he
 | h,.cons p t (.cons _ _ _),depth,m,hm,_,he=>by simp [wrongOne] at he
theorem lR (ag:Int) (all:List Wd):∀ (ps:Pts) (i:Nat) (depth m:Int),0<=m->m<=512->(wrongPts ag all i ps depth m).1.1=0->(wrongPts ag all i ps depth m).1=(0,0)/\0<=(wrongPts ag all i ps depth m).2/\(wrongPts ag all i ps depth m).2<=512
 | .nil,i,depth,m,hm,h5,he=>by simp only [wrongPts];exact ⟨trivial,hm,h5⟩
 | .cons p t r,i,depth,m,hm,h5,he=>by
  have i1:=oO t (depth + 1) m hm;simp only [wrongPts] at he ⊢;split at he
  ·rename_i h1;exact (h1 he).elim
  ·rename_i h1;rw [if_neg h1];split at he
   ·rename_i h2;rw [if_pos h2];split at he
    ·simp at he
    ·rename_i h3;rw [if_neg h3];exact lR ag all r (i + 1) depth m hm h5 he
   ·rename_i h2;rw [if_neg h2];split at he
    ·rename_i h3;exact (h3 he).elim
    ·rename_i h3;rw [if_neg h3];split at he
     ·rename_i h4;exact (h4 he).elim
     ·rename_i h4;rw [if_neg h4];have i2:=i1 (by simpa using h4);exact lR ag all r (i + 1) depth _ i2.2.1 i2.2.2 he
end
theorem yS (k:Nat) (ih:yR k) (h:Hd) (ps:Pts) (depth m:Int) (hk:ps.wt<=k) (bS:(Ty.mk h ps).wt<=1099511627776) (xa:0<=depth) (C8:depth<=24) (jx:0<=m) (fg:m<=512) :
  EvP Tryz.prog 277 [wD (0,0) m,.agg (dx (.mk h ps)),.v (.int .i64 depth)] (wD (ej h ps depth m).1 (ej h ps depth m).2):=by
 simp only [Ty.wt,Hd.wt] at bS;have jt:=ps.eO;have Sa:=qp ps;refine ev_go (P:=Tryz.prog) tt tt_ok 5000 126 [.cell 6 320] Tryz.func277 rfl Tryz.ntmps277 rfl (nL rfl) (fun E9 w9 hn9 hm9=>?_);refine br (fun c1=>?_) (fun c1=>?_)
 ·refine call_p fw (dJ (0,0) m 15 h.aC) ax rfl ?_
  have:ej h ps depth m=((15,h.aC),m):=by
   simp [pickB_and,aE] at c1;have:ps.len=0:=by omega
   simp [ej,c1.1,this]
  refine ⟨_,?_,rfl⟩;rw [this];exact ax
 ·have c1':¬ (h.ag=8/\ps.len=0):=by
   simp [pickB_and,aE] at c1;omega
  refine br (fun c2=>?_) (fun c2=>?_)
  ·have al:64 < ps.len:=by simp [aE] at c2;omega
   obtain ⟨p,t,hx⟩:=Pts.dP al;refine aD (fun i=>Nat.beq i 8) mo (by decide +kernel) ?_;refine ⟨_,⟨by omega,bz hx⟩,?_⟩;refine aG fw (dJ (0,0) m 8 p.name.a) ax rfl ?_
   have:ej h ps depth m=((8,p.name.a),m):=by
    simp only [ej,if_neg c1',if_pos al,fm hx];rfl
   refine ⟨_,?_,rfl⟩;rw [this];exact ax
  ·have c2':¬ 64 < ps.len:=by simp [aE] at c2;omega
   have hF:ej h ps depth m=wrongPts h.ag (pNames ps) 0 ps depth m:=by simp only [ej,if_neg c1',if_neg c2']
   refine aq (fun j st=>∃ (e:Nat) (m':Int),st=sE (.mk h ps) e depth m' /\ e<=ps.len/\0<=m' /\ m' <= 512 /\
     wrongPts h.ag (pNames ps) 0 ps depth m=wrongPts h.ag (pNames ps) e (ps.drop e) depth m' /\ j=ps.len - e) ps.len
    (sE (.mk h ps) 0 depth m) (weak_mk ⟨_,rfl⟩ wA rfl rfl rfl wB) ⟨0,m,rfl,by omega,jx,fg,rfl,by omega⟩ ?_
   rintro j st ⟨e,m',rfl,he,sk,Be,aH,rfl⟩;refine br (fun hL=>?_) (fun hL=>?_)
   ·have al:e < ps.len:=by simpa [aE] using hL
    obtain ⟨p,t,hx⟩:=Pts.dP al;rw [Pts.drop_cons hx] at aH;have Ba:=Pts.fk (mG hx);obtain ⟨u,us⟩:=t;refine ⟨_,⟨by omega,bz hx⟩,?_⟩;refine call_p Wq (yQ ps (by omega)) ax rfl ?_;refine call_p Qm (np (pNames ps) e p.name (by omega) (fm hx)) ax rfl ?_;refine br (fun hl=>?_) (fun hl=>?_)
    ·have hl:aA (pNames ps) e p.name≠0:=by simpa using hl
     refine call_p fw (dJ (0,0) m' _ p.name.a) ax rfl ?_
     have:ej h ps depth m=((aA (pNames ps) e p.name,p.name.a),m'):=by
      rw [hF,aH];simp only [wrongPts];rw [if_pos hl]
     refine ⟨_,?_,rfl⟩;rw [this];exact ax
    ·have hl:aA (pNames ps) e p.name=0:=by simpa using hl
     simp only [wrongPts] at aH;rw [if_neg (by simp [hl])] at aH;refine br (fun hB=>?_) (fun hB=>?_)
     ·rw [if_pos hB] at aH;refine br (fun k7=>?_) (fun k7=>?_)
      ·have k7:¬ h.ag=7:=by simpa using k7
       refine call_p Wr (Bb (.mk u us) (by omega)) ax rfl ?_;refine br (fun z=>?_) (fun z=>?_)
       ·have z:sameTy (.mk u us) bF=true:=by simpa [aj,k7] using z
        refine call_p KE (kM p eC (dx (.mk u us)) (dx bF) (by omega) (xf _ _ _ _ _) (xf _ _ _ _ _)) ax rfl ?_;refine br (fun q=>?_) (fun q=>?_)
        ·have q:bq p eC=false:=by simpa [aj,k7,z] using q
         refine call_p fw (dJ (0,0) m' 19 p.name.a) ax rfl ?_;rw [if_pos (by simp [q])] at aH;refine ⟨_,?_,rfl⟩;rw [hF,aH];exact ax
        ·have q:bq p eC=true:=by simpa [aj,k7,z] using q
         rw [if_neg (by simp [k7,z,q])] at aH;exact ⟨sE (.mk h ps) (e + 1) depth m',(weak_mk ⟨_,rfl⟩ wA rfl rfl rfl (wNB al)),ps.len - (e + 1),by omega,e + 1,m',rfl,by omega,sk,Be,aH,rfl⟩
       ·have z:sameTy (.mk u us) bF=false:=by simpa [aj,k7] using z
        refine call_p fw (dJ (0,0) m' 19 p.name.a) ax rfl ?_;rw [if_pos (by simp [z])] at aH;refine ⟨_,?_,rfl⟩;rw [hF,aH];exact ax
      ·have k7:h.ag=7:=by simpa using k7
       refine call_p fw (dJ (0,0) m' 19 p.name.a) ax rfl ?_;rw [if_pos (by simp [k7])] at aH;refine ⟨_,?_,rfl⟩;rw [hF,aH];exact ax
     ·rw [if_neg (by simp [hB])] at aH;refine br (fun hw=>?_) (fun hw=>?_)
      ·have hP:cY p=(20,p.name.a):=by
        simp [aj] at hw;simp only [cY,if_pos hw]
       rw [if_pos (by rw [hP];simp),hP] at aH;refine ⟨_,?_,rfl⟩;rw [hF,aH];exact ax
      ·have hw:¬ (p.wide < 0∨64 < p.wide):=by simp [aj] at hw;omega
       have hpw:p.wt<=ps.wt:=by omega
       simp only [Ph.wt] at hpw;refine call_p KD (kN p.label (by omega)) ax rfl ?_;refine br (fun hb=>?_) (fun hb=>?_)
       ·have hb:(bu p.label).1=0:=by simpa using hb
        have hP:cY p=aP p:=by simp only [cY,if_neg hw,hb,ne_eq,not_true_eq_false,if_false]
        rw [hP] at aH;refine call_p Ws (vY p (dx (.mk u us)) (by omega)) (by repeat' (first | exact rfl | exact trivial | exact Or.inr (Or.inl ⟨_,rfl⟩) | exact Or.inr ⟨_,rfl⟩ | exact Or.inl ⟨rfl,rfl⟩ | exact Or.inl rfl | refine Or.inr ⟨_,_,rfl,Nat.zero_le _,rfl,?_⟩ | refine ⟨_,_,rfl,?_,?_⟩ | refine ⟨_,rfl,?_⟩ | exact congrArg DV.agg rfl| refine Or.inr (Or.inr (Or.inr ⟨_,_,rfl,?_⟩)) | exact Or.inl rfl | refine Or.inr ?_)) rfl ?_;refine br (fun hc=>?_) (fun hc=>?_)
        ·have hc:(aP p).1≠0:=by simpa using hc
         rw [if_pos hc] at aH;refine ⟨_,?_,rfl⟩;rw [hF,aH];exact ax
        ·have hc:(aP p).1=0:=by simpa using hc
         rw [if_neg (by simp [hc])] at aH;have nh:=ih (.mk u us) (depth + 1) m' (by omega) (by omega) (by omega) (by omega) sk Be;have bE:=oO (.mk u us) (depth + 1) m' sk;generalize wrong (.mk u us) (depth + 1) m'=r at nh bE aH;obtain ⟨⟨fe,fa⟩,many⟩:=r;simp only at nh bE aH;refine call_p KB (nh) (by repeat' (first | exact rfl | exact trivial | exact Or.inr (Or.inl ⟨_,rfl⟩) | exact Or.inr ⟨_,rfl⟩ | exact Or.inl ⟨rfl,rfl⟩ | exact Or.inl rfl | refine Or.inr ⟨_,_,rfl,Nat.zero_le _,rfl,?_⟩ | refine ⟨_,_,rfl,?_,?_⟩ | refine ⟨_,rfl,?_⟩ | exact congrArg (fun z=>DV.v (.int .i64 z)) (wrap64 (by omega) (by omega))| refine Or.inr (Or.inr (Or.inr ⟨_,_,rfl,?_⟩)) | exact Or.inl rfl | refine Or.inr ?_)) rfl ?_;refine br (fun hd=>?_) (fun hd=>?_)
         ·have hd:fe≠0:=by simpa using hd
          rw [if_pos hd] at aH;refine ⟨_,?_,rfl⟩;rw [hF,aH];exact ax
         ·have hd:fe=0:=by simpa using hd
          subst hd;obtain ⟨h1,h2,h3⟩:=bE rfl;simp only [Prod.mk.injEq,true_and] at h1;subst h1;rw [if_neg (by simp)] at aH;exact ⟨sE (.mk h ps) (e + 1) depth many,(weak_mk ⟨_,rfl⟩ wA rfl rfl rfl (wNB al)),ps.len - (e + 1),by omega,e + 1,many,rfl,by omega,h2,h3,aH,rfl⟩
       ·have hb:¬ (bu p.label).1=0:=by simpa using hb
        have hP:cY p=bu p.label:=by simp only [cY,if_neg hw];rw [if_pos hb]
        rw [hP,if_pos hb] at aH;refine br (fun hc=>?_) (fun hc=>?_)
        ·refine ⟨_,?_,rfl⟩;rw [hF,aH];exact ax
        ·exact (hb (by simpa using hc)).elim
   ·have aN:e=ps.len:=by simp [aE] at hL;omega
    rw [aN,Pts.cJ] at aH;refine ⟨_,?_,rfl⟩;rw [hF,aH];simp only [wrongPts];exact ax
theorem bg (e a:Int):EvP Tryz.prog 214 [.v (.int .i64 e),.v (.int .i64 a)] (Ft.d (e,a)):=by
 refine ev_go (P:=Tryz.prog) tt tt_ok 5000 8 [.cell 4 54] Tryz.func214 rfl Tryz.ntmps214 rfl (nL rfl) (fun E9 w9 hn9 hm9=>?_);exact ⟨_,ax,rfl⟩
noncomputable def fL (L:List ByteArray) (x:ByteArray) (a:Int):Ft:=if aU x=true then (if L.Nodup then (0,0) else (10,a)) else (9,a)
theorem rB (L:List ByteArray) (x:ByteArray) (a:Int) (hx:L[L.length - 1]? = some x) (hl:L.length<=1099511627776) (wM:x.size<=4611686018427387904) :
  EvP Tryz.prog 260 [.sl 1 (dt L) none,.v (.int .i64 a)] (fL L x a).d:=by
 have hN:=bK L;have jM:=(gS hx).1;have hz:IntKind.i64.wrap (((dt L).length:Int) - 1)=((L.length - 1:Nat):Int):=by rw [hN,wrap64 (by omega) (by omega)];omega
 refine ev_go (P:=Tryz.prog) tt tt_ok 5000 23 [.cell 4 54] Tryz.func260 rfl Tryz.ntmps260 rfl (nL rfl) (fun E9 w9 hn9 hm9=>?_);refine ⟨[.v (.string x)],⟨by rw [hz];omega,by rw [hz];exact eK hx⟩,?_⟩;refine call_p AZ (iW x wM) ax rfl ?_;refine br (fun h=>?_) (fun h=>?_)
 ·have h:aU x=false:=by simpa using h
  refine call_p dz (bg 9 a) ax rfl ?_;refine ⟨_,?_,rfl⟩;rw [fL,if_neg (by rw [h];decide)];exact ax
 ·have h:aU x=true:=by simpa using h
  refine bl Kr rfl (nK L hl) ax (fun r hr=>?_);obtain ⟨z,rfl,hz⟩:=hr;refine br (fun h2=>?_) (fun h2=>?_)
  ·have h2:0<=z:=by simpa using h2
   refine call_p dz (bg 10 a) ax rfl ?_;refine ⟨_,?_,rfl⟩;rw [fL,if_pos h,if_neg (hz.1 h2)];exact ax
  ·have h2:¬ 0<=z:=by simpa using h2
   refine ⟨_,?_,rfl⟩;rw [fL,if_pos h,if_pos (Classical.byContradiction fun hn=>h2 (hz.2 hn))];exact ax
theorem DK {l:List Wd} {e:Nat} {x:Wd} (h:l[e]? = some x):bn ((l.map fun w=>(⟨w.s,0⟩:Wd)).take e) ++ [[.v (.string x.s),.v (.int .i64 0)]]=bn ((l.map fun w=>(⟨w.s,0⟩:Wd)).take (e + 1)):=by
 have h2:(l.map fun w=>(⟨w.s,0⟩:Wd))[e]? = some ⟨x.s,0⟩:=by simp [h]
 exact w7 h2
def gB (l:List Wd):List Wd:=l.map fun w=>⟨w.s,0⟩
abbrev KV (l l':List Wd) (n e:Nat):St:=
 ⟨[(6,⟨[],.sl 2 (bn l) none⟩),(7,⟨[],.v (.int .i64 (bn l).length)⟩),(8,⟨[],.v (.int .i64 e)⟩),(3,⟨[],.sl 2 (bn l') (some 0)⟩)],[],[⟨n,38,2,none⟩]⟩
theorem tQ (l:List Wd) (hs:wdsWt l<=1099511627776):EvP Tryz.prog 305 [.sl 2 (bn l) none] (.sl 2 (bn (gB l)) none):=by
 have hl:=bd l;refine ev_go (P:=Tryz.prog) tt tt_ok 5000 20 [.tmp 2] Tryz.func305 rfl Tryz.ntmps305 rfl (nL rfl) (fun E9 w9 hn9 hm9=>?_);refine aq (fun j st=>∃ e:Nat,st=KV l ((gB l).take e) e e/\e<=l.length/\j=l.length - e) l.length (KV l [] 0 0) (eV ⟨0,38,2,none⟩ rfl ⟨_,rfl⟩ rfl wA rfl rfl Ah) ⟨0,by simp,by omega,by omega⟩ ?_;rintro j st ⟨e,rfl,he,rfl⟩;refine br (fun h=>?_) (fun h=>?_)
 ·have al:e < l.length:=by simpa [aw] using h
  obtain ⟨w,hw⟩:∃ w,l[e]? = some w:=⟨_,gE al⟩;refine ⟨iV w,⟨by omega,aK hw⟩,?_⟩;refine ⟨by simp [aw,gB];omega,⟨by simp [aw,gB,maxLen];omega,by simp [aw,gB];omega⟩,?_⟩;refine ⟨KV l ((gB l).take (e + 1)) (e + 1) (e + 1),(weak_mk ⟨_,rfl⟩ wA rfl rfl rfl (by repeat' (first | exact trivial | exact ah rfl | exact ak (cA al (by omega)) | exact cI (DK hw) rfl | refine ⟨⟨_,rfl,?_⟩,?_⟩))),l.length - (e + 1),by omega,e + 1,rfl,by omega,rfl⟩
 ·have aN:e=l.length:=by
   have:=h;simp [aw] at this;omega
  rw [aN,List.take_of_length_le (by simp [gB])];exact ⟨_,ax,rfl⟩
abbrev tR (l:List Wd) (e:Nat):St:=
 ⟨[(13,⟨[],.sl 2 (bn l) none⟩),(14,⟨[],.v (.int .i64 (bn l).length)⟩),(2,⟨[],.loc 0 0⟩),(15,⟨[],.v (.int .i64 e)⟩)],[[.v (.int .i64 0),.v (.int .i64 0)]],[]⟩
theorem gQ (l:List Wd) (hs:wdsWt l<=1099511627776) :
  EvP Tryz.prog 288 [.sl 2 (bn l) none] (bu l).d:=by
 have ll:=bd l;refine ev_go (P:=Tryz.prog) tt tt_ok 5000 28 [.cell 2 54] Tryz.func288 rfl Tryz.ntmps288 rfl (nL rfl) (fun E9 w9 hn9 hm9=>?_);refine br (fun h=>?_) (fun h=>?_)
 ·have al:32 < l.length:=by simp [aw] at h;omega
  obtain ⟨x,hx⟩:∃ x,l[32]? = some x:=⟨_,gE al⟩;have:bu l=(8,x.a):=by simp [bu,Nat.not_le.2 al,hx]
  refine ⟨iV x,⟨by omega,aK hx⟩,?_⟩;refine call_p dz (bg 8 x.a) ax rfl ?_;refine ⟨_,?_,rfl⟩;rw [this];exact ax
 ·have fv:l.length<=32:=by simp [aw] at h;omega
  refine aq (fun j st=>∃ e:Nat,st=tR l e/\e<=l.length/\badWd l=badWd (l.drop e)/\j=l.length - e) l.length
   (tR l 0) (weak_mk ⟨_,rfl⟩ wA rfl rfl rfl wB) ⟨0,rfl,by omega,rfl,by omega⟩ ?_
  rintro j st ⟨e,rfl,he,aH,rfl⟩;refine br (fun hL=>?_) (fun hL=>?_)
  ·have al:e < l.length:=by simpa [aw] using hL
   obtain ⟨x,hx⟩:∃ x,l[e]? = some x:=⟨_,gE al⟩;rw [drop_cons hx] at aH;have wM:=gy (mG hx);refine ⟨iV x,⟨by omega,aK hx⟩,?_⟩;refine call_p AZ (iW x.s (by omega)) ax rfl ?_;refine br (fun hN=>?_) (fun hN=>?_)
   ·have hN:aU x.s=false:=by simpa using hN
    have:bu l=(9,x.a):=by simp [bu,fv,aH,badWd,hN]
    refine call_p dz (bg 9 x.a) ax rfl ?_;refine ⟨_,?_,rfl⟩;rw [this];exact ax
   ·have hN:aU x.s=true:=by simpa using hN
    refine ⟨tR l (e + 1),(weak_mk ⟨_,rfl⟩ wA rfl rfl rfl (wNB al)),l.length - (e + 1),by omega,e + 1,rfl,by omega,?_,rfl⟩;rw [aH];simp [badWd,hN]
  ·have aN:e=l.length:=by simp [aw] at hL;omega
   have:bu l=(0,0):=by simp [bu,fv,aH,aN,badWd]
   refine ⟨_,?_,rfl⟩;rw [this];exact ax
theorem yT (p:Ph) (tl:List DV) (t:Ty) (eM:tl=dx t) (hs:p.wt<=1099511627776) :
  EvP Tryz.prog 289 [.agg (DC p tl)] (aP p).d:=by
 subst eM;obtain ⟨u,us⟩:=t;simp only [Ph.wt] at hs;refine ev_go (P:=Tryz.prog) tt tt_ok 5000 55 [.cell 2 54] Tryz.func289 rfl Tryz.ntmps289 rfl (nL rfl) (fun E9 w9 hn9 hm9=>?_);refine br (fun h0=>?_) (fun h0=>?_)
 ·have h0:p.ck=0:=of_decide_eq_true h0;refine br (fun h1=>?_) (fun h1=>?_)
  ·have:aP p=(19,p.name.a):=by
    simp [aj,aw] at h1;simp only [aP,h0,if_true];rw [if_neg];rintro ⟨h2,h3⟩;rcases h1 with h1 | h1
    ·exact h1 h2
    ·simp [h3] at h1
   refine call_p dz (bg 19 p.name.a) ax rfl ?_;refine ⟨_,?_,rfl⟩;rw [this];exact ax
  ·have ju:p.cl=[]:=by
    simp [aj,aw] at h1;exact h1.2
   have:aP p=(0,0):=by
    simp [aj,aw] at h1;simp [aP,h0,h1.1,h1.2]
   have h00:bu p.cl=(0,0):=by rw [ju];simp [bu,badWd]
   refine call_p A3 (gQ p.cl (by omega)) ax rfl ?_;refine ⟨_,?_,rfl⟩;rw [this,<- h00];exact ax
 have h0:¬ p.ck=0:=of_decide_eq_false h0;refine br (fun h1=>?_) (fun h1=>?_)
 ·have h1:p.ck=1:=of_decide_eq_true h1;refine br (fun h2=>?_) (fun h2=>?_)
  ·have:aP p=(20,p.ca):=by
    simp [pickB_and] at h2;simp only [aP,h0,if_false];rw [if_neg (by omega),if_pos (by omega)]
   refine call_p dz (bg 20 p.ca) ax rfl ?_;refine ⟨_,?_,rfl⟩;rw [this];exact ax
  ·have:aP p=bu p.cl:=by
    simp [pickB_and] at h2;simp only [aP,h0,if_false];rw [if_neg (by omega),if_neg (by omega)]
   refine call_p A3 (gQ p.cl (by omega)) ax rfl ?_;refine ⟨_,?_,rfl⟩;rw [this];exact ax
 have h1:¬ p.ck=1:=of_decide_eq_false h1;refine br (fun h3=>?_) (fun h3=>?_)
 ·have h3:p.ck=2:=of_decide_eq_true h3;refine br (fun h2=>?_) (fun h2=>?_)
  ·have:aP p=(20,p.ca):=by
    simp [pickB_and] at h2;simp only [aP,h0,if_false];rw [if_neg (by omega),if_pos (by omega)]
   refine call_p dz (bg 20 p.ca) ax rfl ?_;refine ⟨_,?_,rfl⟩;rw [this];exact ax
  ·have:aP p=bu p.cl:=by
    simp [pickB_and] at h2;simp only [aP,h0,if_false];rw [if_neg (by omega),if_neg (by omega)]
   refine call_p A3 (gQ p.cl (by omega)) ax rfl ?_;refine ⟨_,?_,rfl⟩;rw [this];exact ax
 have h3:¬ p.ck=2:=of_decide_eq_false h3;refine br (fun h4=>?_) (fun h4=>?_)
 ·have h4:p.ck=3:=of_decide_eq_true h4;refine br (fun h2=>?_) (fun h2=>?_)
  ·have:aP p=(20,p.ca):=by
    simp [pickB_and] at h2;simp only [aP,h0,if_false];rw [if_neg (by omega),if_pos (by omega)]
   refine call_p dz (bg 20 p.ca) ax rfl ?_;refine ⟨_,?_,rfl⟩;rw [this];exact ax
  ·have:aP p=bu p.cl:=by
    simp [pickB_and] at h2;simp only [aP,h0,if_false];rw [if_neg (by omega),if_neg (by omega)]
   refine call_p A3 (gQ p.cl (by omega)) ax rfl ?_;refine ⟨_,?_,rfl⟩;rw [this];exact ax
 have h4:¬ p.ck=3:=of_decide_eq_false h4
 have:aP p=(14,p.ca):=by
  simp only [aP,h0,if_false];rw [if_pos (by omega)]
 refine call_p dz (bg 14 p.ca) ax rfl ?_;refine ⟨_,?_,rfl⟩;rw [this];exact ax
theorem KW (w:World) (x y:Operand) (vs vs':Array Value):(eqGuard .neq 38 x y (.agg vs) (.agg vs')).run Tryz.prog w = .ok () w:=by
 have h:Tryz.prog.eqGuardType Tryz.prog.depth 38=false:=by kernel_rfl
 simp [eqGuard,run_program,h]
theorem Sb (a b:ByteArray) (p q:Int) (w:World):(binOp .neq 38 (.agg #[.string a,.int .i64 p]) (.agg #[.string b,.int .i64 q])).run Tryz.prog w = .ok (.bool (!(decide (a=b) && decide (p=q)))) w:=by
 have hf:Tryz.prog.underlying 38=some (.struct (Tryz.prog.fieldsOf 38)):=by simp [Program.fieldsOf,Tryz.underlying38]
 have yz:(Tryz.prog.fieldsOf 38).toList=[⟨ "Name",9,0,false, "", "",0⟩,⟨ "At",3,1,false, "", "",16⟩]:=by simp [Program.fieldsOf,Tryz.underlying38]
 have hs:Tryz.prog.stoodInHeld 38=false:=by kernel_rfl
 have hm:∃ d,Op.maxDepth=d + 1 + 1:=⟨Op.maxDepth - 2,by decide⟩;obtain ⟨d,hm⟩:=hm
 have he:(Op.equal 38 (.agg #[.string a,.int .i64 p]) (.agg #[.string b,.int .i64 q])).run Tryz.prog w = .ok (decide (a=b) && decide (p=q)) w:=by
  unfold Op.equal;rw [hm,run_equalIn_struct w (d + 1) 38 _ _ hf hs,yz]
  have e1:(a.toList == b.toList)=decide (a=b):=by
   rw [ByteArray.toList_eq,ByteArray.toList_eq];by_cases h:a=b
   ·subst h;simp
   ·have:¬ a.data=b.data:=fun e=>h (ByteArray.ext e);simp [h,this]
  have q9:∀ cs:Array Value,∀ off v,cs[off]? = some v->(part 9 cs off).run Tryz.prog w = .ok v w:=fun cs off v h=>by
   simp [part,Tryz.isAgg9,h]
  have q3:∀ cs:Array Value,∀ off v,cs[off]? = some v->(part 3 cs off).run Tryz.prog w = .ok v w:=fun cs off v h=>by
   simp [part,Tryz.isAgg3,h]
  simp only [Op.eqFields,ne_eq,String.reduceEq,not_false_eq_true,if_true,Sem.run_bind,q9 #[.string a,.int .i64 p] 0 (.string a) rfl,q9 #[.string b,.int .i64 q] 0 (.string b) rfl,Result.andThen_ok,run_equalIn_string w d 9 a b Tryz.underlying9,e1];by_cases h:a=b
  ·simp only [h,decide_true,Bool.not_true,Bool.false_eq_true,if_false,Sem.run_bind,q3 #[.string b,.int .i64 p] 1 (.int .i64 p) rfl,q3 #[.string b,.int .i64 q] 1 (.int .i64 q) rfl,Result.andThen_ok,run_equalIn_int w d 3 .i64 .i64 p q Tryz.underlying3];by_cases h2:p=q<;>simp [h2,Sem.run_pure]
  ·simp [h,Sem.run_pure]
 show ((do let r <- Op.equal 38 _ _;pure (Value.bool !r)):Sem Value).run Tryz.prog w=_;simp only [Sem.run_bind,he,Result.andThen_ok,Sem.run_pure]
theorem Ow (x y:Operand) (a b:Wd):JP Tryz.prog .neq x y 38 (iV a) (iV b) (!(decide (a.s=b.s) && decide (a.a=b.a))):=
 ⟨[.string a.s,.int .i64 a.a],[.string b.s,.int .i64 b.a],rfl,rfl,fun w=>⟨KW w x y _ _,Sb a.s b.s a.a b.a w⟩⟩
def eqWds:List Wd->List Wd->Bool
 | [],[]=>true
 | x :: r,y :: s=>(decide (x.s=y.s) && decide (x.a=y.a)) && eqWds r s
 | _,_=>false
theorem xi:∀ {a b:List Wd},a.length≠b.length->eqWds a b=false
 | [],[],h=>(h rfl).elim
 | [],_ :: _,_=>rfl
 | _ :: _,[],_=>rfl
 | x :: r,y :: s,h=>by
  simp only [eqWds];rw [xi (a:=r) (b:=s) (by simpa using h),Bool.and_false]
theorem rC:∀ a b:List Wd,eqWds (gB a) (gB b)=sameWds a b
 | [],[]=>rfl
 | [],_ :: _=>rfl
 | _ :: _,[]=>rfl
 | x :: r,y :: s=>by
  have:=rC r s;simp only [gB,List.map_cons,eqWds,sameWds] at this ⊢;rw [this];simp
abbrev KX (a b:List Wd) (e:Nat):St:=
 ⟨[(0,⟨[],.sl 2 (bn a) none⟩),(1,⟨[],.sl 2 (bn b) none⟩),(12,⟨[],.v (.int .i64 (bn a).length)⟩),(13,⟨[],.v (.int .i64 e)⟩)],[],[]⟩
theorem Bf (a b:List Wd) (hs:a.length<=1099511627776) :
  EvP Tryz.prog 304 [.sl 2 (bn a) none,.sl 2 (bn b) none] (.v (.bool (eqWds a b))):=by
 refine ev_go (P:=Tryz.prog) tt tt_ok 5000 26 [.tmp 4] Tryz.func304 rfl Tryz.ntmps304 rfl (nL rfl) (fun E9 w9 hn9 hm9=>?_);refine br (fun h=>?_) (fun h=>?_)
 ·have aR:a.length≠b.length:=by have:=h;simp [aw] at this;omega
  exact congrArg (fun b=>DV.v (.bool b)) (xi aR).symm
 ·have hl:a.length=b.length:=by have:=h;simp [aw] at this;omega
  refine aq (fun j st=>∃ e:Nat,st=KX a b e/\e<=a.length/\eqWds a b=eqWds (a.drop e) (b.drop e)/\j=a.length - e) a.length
   (KX a b 0) (weak_mk ⟨_,rfl⟩ wA rfl rfl rfl wB) ⟨0,rfl,by omega,rfl,by omega⟩ ?_
  rintro j st ⟨e,rfl,he,aH,rfl⟩;refine br (fun h=>?_) (fun h=>?_)
  ·have al:e < a.length:=by simpa [aw] using h
   obtain ⟨x,hx⟩:∃ x,a[e]? = some x:=⟨_,gE al⟩;obtain ⟨y,hy⟩:∃ y,b[e]? = some y:=⟨_,gE (hl ▸ al)⟩;rw [drop_cons hx,drop_cons hy] at aH;refine aD (fun _=>false) mo (by decide +kernel) ?_;refine ⟨iV x,⟨by omega,aK hx⟩,iV y,⟨by omega,aK hy⟩,_,Ow _ _ x y,?_⟩;refine br (fun h=>?_) (fun h=>?_)
   ·have aR:(decide (x.s=y.s) && decide (x.a=y.a))=false:=by
     have h:(!(decide (x.s=y.s) && decide (x.a=y.a)))=true:=h
     revert h
     cases (decide (x.s=y.s) && decide (x.a=y.a))<;>decide
    refine (congrArg (fun b=>DV.v (.bool b)) ?_:_=_);rw [aH];simp only [eqWds,aR,Bool.false_and]
   ·have aR:(decide (x.s=y.s) && decide (x.a=y.a))=true:=by
     have h:(!(decide (x.s=y.s) && decide (x.a=y.a)))=false:=h
     revert h
     cases (decide (x.s=y.s) && decide (x.a=y.a))<;>decide
    refine ⟨KX a b (e + 1),(weak_mk ⟨_,rfl⟩ wA rfl rfl rfl (wNB al)),a.length - (e + 1),by omega,e + 1,rfl,by omega,?_,rfl⟩;rw [aH];simp only [eqWds,aR,Bool.true_and]
  ·have aN:e=a.length:=by have:=h;simp [aw] at this;omega
   refine (congrArg (fun b=>DV.v (.bool b)) ?_:_=_);rw [aH,aN,hl];simp [eqWds];rw [<- hl];simp [eqWds]
theorem fM (a b:List Wd) (ha:wdsWt a<=1099511627776) (hb:wdsWt b<=1099511627776) :
  EvP Tryz.prog 300 [.sl 2 (bn a) none,.sl 2 (bn b) none] (.v (.bool (sameWds a b))):=by
 have hl:=bd a;refine ev_go (P:=Tryz.prog) tt tt_ok 5000 10 [.tmp 4] Tryz.func300 rfl Tryz.ntmps300 rfl (nL rfl) (fun E9 w9 hn9 hm9=>?_);refine call_p Qo (tQ a ha) ax rfl ?_;refine call_p Qo (tQ b hb) ax rfl ?_;refine call_p Wz (Bf (gB a) (gB b) (by simp [gB];omega)) ax rfl ?_;refine (congrArg (fun b=>DV.v (.bool b)) ?_:_=_);exact rC a b
def eqPts (F:Ph->Ty->Ph->Ty->Bool):Pts->Pts->Bool
 | .nil,.nil=>true
 | .cons p t r,.cons q u s=>F p t q u && eqPts F r s
 | _,_=>false
theorem xj {F:Ph->Ty->Ph->Ty->Bool}:∀ {a b:Pts},a.len≠b.len->eqPts F a b=false
 | .nil,.nil,h=>(h rfl).elim
 | .cons p t r,.cons q u s,h=>by
  simp only [eqPts];rw [xj (a:=r) (b:=s) (by simpa [Pts.len] using h),Bool.and_false]
 | .nil,.cons _ _ _,_=>rfl
 | .cons _ _ _,.nil,_=>rfl
def cE (p:Ph) (t:Ty) (q:Ph) (u:Ty):Bool:=decide (p.name.s=q.name.s) && bq p q && sameTy t u
theorem tS:∀ a b:Pts,eqPts cE a b=samePts a b
 | .nil,.nil=>by simp [eqPts,samePts]
 | .cons p t r,.cons q u s=>by simp only [eqPts,samePts,cE,tS r s]
 | .nil,.cons _ _ _=>by simp [eqPts,samePts]
 | .cons _ _ _,.nil=>by simp [eqPts,samePts]
abbrev KY (a b:Pts) (g e:Nat):St:=
 ⟨[(1,⟨[],.sl 18 (eP b) none⟩),(2,⟨[],.fn g [] []⟩),(15,⟨[],.sl 18 (eP a) none⟩),(16,⟨[],.v (.int .i64 (eP a).length)⟩),(17,⟨[],.v (.int .i64 e)⟩)],[],[]⟩
theorem Bg (g:Nat) (j2:Enters Tryz.prog g) (F:Ph->Ty->Ph->Ty->Bool) (a b:Pts) (hs:a.wt<=1099511627776)
  (hF:∀ (e:Nat) p t q u,a.toList[e]? = some (p,t)->b.toList[e]? = some (q,u)->EvP Tryz.prog g [.agg (DC p (dx t)),.agg (DC q (dx u))] (.v (.bool (F p t q u)))) :
  EvP Tryz.prog 306 [.sl 18 (eP a) none,.sl 18 (eP b) none,.fn g [] []] (.v (.bool (eqPts F a b))):=by
 have N3:=a.eO;refine ev_go (P:=Tryz.prog) tt tt_ok 5000 32 [.tmp 6] Tryz.func306 rfl Tryz.ntmps306 rfl (nL rfl) (fun E9 w9 hn9 hm9=>?_);refine br (fun h=>?_) (fun h=>?_)
 ·have aR:a.len≠b.len:=by have:=h;simp [aE] at this;omega
  exact congrArg (fun b=>DV.v (.bool b)) (xj aR).symm
 ·have hl:a.len=b.len:=by have:=h;simp [aE] at this;omega
  refine aq (fun j st=>∃ e:Nat,st=KY a b g e/\e<=a.len/\eqPts F a b=eqPts F (a.drop e) (b.drop e)/\j=a.len - e) a.len
   (KY a b g 0) (weak_mk ⟨_,rfl⟩ wA rfl rfl rfl wB) ⟨0,rfl,by omega,rfl,by omega⟩ ?_
  rintro j st ⟨e,rfl,he,aH,rfl⟩;refine br (fun h=>?_) (fun h=>?_)
  ·have al:e < a.len:=by simpa [aE] using h
   obtain ⟨p,t,hx⟩:=Pts.dP al;obtain ⟨q,u,hy⟩:=Pts.dP (hl ▸ al);rw [Pts.drop_cons hx,Pts.drop_cons hy] at aH;have Zo:=hF e p t q u hx hy;obtain ⟨t,ts⟩:=t;obtain ⟨u,us⟩:=u;refine ⟨_,⟨by omega,bz hx⟩,?_⟩;refine ⟨_,⟨by omega,bz hy⟩,?_⟩;refine call_p j2 Zo ax rfl ?_;refine br (fun h=>?_) (fun h=>?_)
   ·have aR:F p (.mk t ts) q (.mk u us)=false:=by simpa using h
    refine (congrArg (fun b=>DV.v (.bool b)) ?_:_=_);rw [aH];simp only [eqPts,aR,Bool.false_and]
   ·have aR:F p (.mk t ts) q (.mk u us)=true:=by simpa using h
    refine ⟨KY a b g (e + 1),(weak_mk ⟨_,rfl⟩ wA rfl rfl rfl (wNB al)),a.len - (e + 1),by omega,e + 1,rfl,by omega,?_,rfl⟩;rw [aH];simp only [eqPts,aR,Bool.true_and]
  ·have aN:e=a.len:=by have:=h;simp [aE] at this;omega
   refine (congrArg (fun b=>DV.v (.bool b)) ?_:_=_);rw [aH,aN,Pts.cJ,hl,Pts.cJ];simp [eqPts]
theorem lS (p q:Ph) (t u:Ty) (hp:p.wt<=1099511627776) (hq:q.wt<=1099511627776)
  (ht:EvP Tryz.prog 301 [.agg (dx t),.agg (dx u)] (.v (.bool (sameTy t u)))) :
  EvP Tryz.prog 287 [.agg (DC p (dx t)),.agg (DC q (dx u))] (.v (.bool (cE p t q u))):=by
 simp only [Ph.wt] at hp hq;obtain ⟨th,tps⟩:=t;obtain ⟨uh,ups⟩:=u;refine ev_go (P:=Tryz.prog) tt tt_ok 5000 71 [.tmp 4] Tryz.func287 rfl Tryz.ntmps287 rfl (nL rfl) (fun E9 w9 hn9 hm9=>?_)
 have e0:cE p (.mk th tps) q (.mk uh ups)=(((decide (p.name.s=q.name.s) && (p.bare == q.bare)) && decide (p.wide=q.wide)) && sameWds p.label q.label && ((decide (p.ck=q.ck) && decide (p.cn=q.cn)) && sameWds p.cl q.cl) && sameTy (.mk th tps) (.mk uh ups)):=by
  simp only [cE,bq,Bool.and_assoc]
 rw [e0];refine br (fun hA=>?_) (fun hA=>?_)
 ·simp only [pickB_and] at hA;refine call_p Gi (fM p.label q.label (by omega) (by omega)) ax rfl ?_;refine br (fun hB=>?_) (fun hB=>?_)
  ·simp only [pickB_and] at hB;refine call_p Gi (fM p.cl q.cl (by omega) (by omega)) ax rfl ?_;refine br (fun hC=>?_) (fun hC=>?_)
   ·refine call_p Ww (ht) ax rfl ?_;refine (congrArg (fun b=>DV.v (.bool b)) ?_:_=_);simp only [pickB_and,Bool.true_and,Bool.and_true] at hC ⊢
    simp_all
   ·refine (congrArg (fun b=>DV.v (.bool b)) ?_:_=_);simp only [pickB_and,Bool.true_and,Bool.and_true] at hC ⊢
    simp_all
  ·simp only [pickB_and] at hB;refine br (fun hC=>?_) (fun hC=>?_)
   ·exfalso;simp [pickB_and] at hC
   ·refine (congrArg (fun b=>DV.v (.bool b)) ?_:_=_)
    simp_all
 ·simp only [pickB_and,beq_true] at hA;refine br (fun hB=>?_) (fun hB=>?_)
  ·refine call_p Gi (fM p.cl q.cl (by omega) (by omega)) ax rfl ?_;refine (congrArg (fun b=>DV.v (.bool b)) ?_:_=_);rw [hA];rfl
  ·refine (congrArg (fun b=>DV.v (.bool b)) ?_:_=_);rw [hA];rfl
theorem xm:∀ (n:Nat) (a b:Ty),a.wt<=n->a.wt<=1099511627776->b.wt<=1099511627776 ->
  EvP Tryz.prog 301 [.agg (dx a),.agg (dx b)] (.v (.bool (sameTy a b)))
 | 0,a,b,hn,_,_=>by have:=a.dr;omega
 | n + 1,.mk h ps,.mk k qs,hn,bS,WO=>by
  have ih:=xm n;simp only [Ty.wt,Hd.wt] at hn bS WO
  have hE:EvP Tryz.prog 306 [.sl 18 (eP ps) none,.sl 18 (eP qs) none,.fn 287 [] []] (.v (.bool (samePts ps qs))):=by
   rw [<- tS];refine Bg 287 KG cE ps qs (by omega) fun e p t q u hx hy=>?_;have hw1:=Pts.fk (mG hx);have nC:=Pts.fk (mG hy);exact lS p q t u (by omega) (by omega) (ih t u (by omega) (by omega) (by omega))
  refine ev_go (P:=Tryz.prog) tt tt_ok 5000 53 [.tmp 4] Tryz.func301 rfl Tryz.ntmps301 rfl (nL rfl) (fun E9 w9 hn9 hm9=>?_);refine br (fun hA=>?_) (fun hA=>?_)
  ·simp [aj] at hA;obtain ⟨⟨⟨⟨e1,e2⟩,e3⟩,e4⟩,e5⟩:=hA;refine call_p Gi (fM h.af k.af (by omega) (by omega)) ax rfl ?_;refine br (fun hB=>?_) (fun hB=>?_)
   ·refine (congrArg (fun b=>DV.v (.bool b)) ?_:_=_);simp [aj,e1,e2,e3,e4,e5] at hB;simp [sameTy,jQ,hB]
   ·simp [aj,e1,e2,e3,e4,e5] at hB;refine call_p WA (hE) ax rfl ?_;refine (congrArg (fun b=>DV.v (.bool b)) ?_:_=_);simp [sameTy,jQ,e1,e2,e3,e4,e5,hB]
  ·refine (congrArg (fun b=>DV.v (.bool b)) ?_:_=_);simp [aj] at hA;simp only [sameTy,jQ]
   grind
theorem tT (a b:Ty) (ha:a.wt<=1099511627776) (hb:b.wt<=1099511627776):EvP Tryz.prog 301 [.agg (dx a),.agg (dx b)] (.v (.bool (sameTy a b))):=xm _ a b (Nat.le_refl _) ha hb
def tU (h:Hd) (ps:Pts):Bool:=
 (((((decide (h.ag=2) || (decide (h.lo=0) && decide (h.hi=0))) && ((decide (h.ag=3) || decide (h.ag=5)) || decide (h.most=0))) && (decide (ps.len=0) || (decide (5<=h.ag) && decide (h.ag<=8)))) &&
  (decide (h.af.length=0) || decide (h.ag=4))) && (decide (h.name.s=ap) || decide (h.ag=9)))
theorem H3 (h:Hd) (ps:Pts):EvP Tryz.prog 215 [.agg (dx (.mk h ps))] (.v (.bool (tU h ps))):=by
 have l1:(((eP ps).length:Int)=0)=(ps.len=0):=by rw [aE];exact propext (by omega)
 have l2:(((bn h.af).length:Int)=0)=(h.af.length=0):=by rw [aw];exact propext (by omega)
 have he:(⟨#[]⟩:ByteArray)=ap:=rfl;refine ev_go (P:=Tryz.prog) tt tt_ok 5000 67 [.tmp 2] Tryz.func215 rfl Tryz.ntmps215 rfl (nL rfl) (fun E9 w9 hn9 hm9=>?_);refine br (fun k2=>?_) (fun k2=>?_)
 ·have k2:h.ag=2:=of_decide_eq_true k2;refine (congrArg (fun b=>DV.v (.bool b)) ?_:_=_);rw [Bool.eq_iff_iff];simp [pickB_and,aj,tU,aE,aw,k2,he]
 have k2:¬ h.ag=2:=of_decide_eq_false k2;refine br (fun k3=>?_) (fun k3=>?_)
 ·have k3:h.ag=3:=of_decide_eq_true k3;refine br (fun _=>?_) (fun hf=>?_)
  ·refine (congrArg (fun b=>DV.v (.bool b)) ?_:_=_);rw [Bool.eq_iff_iff];simp [pickB_and,aj,tU,aE,aw,k3,he]
  ·exact absurd k3 (of_decide_eq_false hf)
 have k3:¬ h.ag=3:=of_decide_eq_false k3;refine br (fun k5=>?_) (fun k5=>?_)
 ·have k5:h.ag=5:=of_decide_eq_true k5;refine (congrArg (fun b=>DV.v (.bool b)) ?_:_=_);rw [Bool.eq_iff_iff];simp [pickB_and,aj,tU,aE,aw,k5,he]
 have k5:¬ h.ag=5:=of_decide_eq_false k5;refine (congrArg (fun b=>DV.v (.bool b)) ?_:_=_);rw [Bool.eq_iff_iff];simp [pickB_and,aj,tU,aE,aw,k2,k3,k5,he]
theorem yU:∀ ps:Pts,samePts ps ps=true:=by
 have wr:∀ l:List Wd,sameWds l l=true:=by
  intro l
  induction l with
  | nil=>rfl
  | cons x r ih=>simp [sameWds,ih]
 have key:∀ n,(∀ t:Ty,t.wt<=n->sameTy t t=true)/\(∀ ps:Pts,ps.wt<=n->samePts ps ps=true):=by
  intro n
  induction n using Nat.strongRecOn with
  | _ n ih=>
   have hp:∀ ps:Pts,ps.wt<=n->(∀ t:Ty,t.wt + 256<=n->sameTy t t=true)->samePts ps ps=true:=by
    intro ps
    induction ps using Pts.rec (motive_1:=fun _=>True) with
    | mk=>trivial
    | nil=>intros;simp [samePts]
    | cons p t r _ ihr=>
     intro hw ht;simp only [Pts.wt,Ph.wt] at hw;simp only [samePts];rw [ht t (by omega),ihr (by omega) ht];simp [bq,wr]
   refine ⟨fun t ht=>?_,fun ps WQ=>?_⟩
   ·obtain ⟨h,ps⟩:=t;simp only [Ty.wt,Hd.wt] at ht;simp only [sameTy,jQ];rw [(ih ps.wt (by omega)).2 ps (Nat.le_refl _),wr];simp
   ·exact hp ps WQ fun t ht=>(ih t.wt (by omega)).1 t (Nat.le_refl _)
 exact fun ps=>(key ps.wt).2 ps (Nat.le_refl _)
theorem Gp (h:Hd) (ps:Pts):tU h ps=sameTy (.mk h ps) (mask (.mk h ps)):=by
 have wr:∀ l:List Wd,sameWds l l=true:=by
  intro l
  induction l with
  | nil=>rfl
  | cons x r ih=>simp [sameWds,ih]
 have wn:∀ l:List Wd,sameWds l []=decide (l.length=0):=by
  intro l;cases l<;>simp [sameWds]
 have pn:∀ l:Pts,samePts l .nil=decide (l.len=0):=by
  intro l;cases l<;>simp [samePts,Pts.len]
 have pr:=yU ps;simp only [mask,sameTy,jQ,ib]
 have e5:samePts ps (if 4 < h.ag/\h.ag < 9 then ps else .nil)=(decide (ps.len=0) || (decide (5<=h.ag) && decide (h.ag<=8))):=by
  split
  ·rename_i hc;rw [pr,decide_eq_true (by omega:5<=h.ag),decide_eq_true (by omega:h.ag<=8)];simp
  ·rename_i hc;rw [pn,Bool.eq_iff_iff];simp;omega
 have e6:sameWds h.af (if h.ag=4 then h.af else [])=(decide (h.af.length=0) || decide (h.ag=4)):=by
  split
  ·rename_i hc;rw [wr];simp [hc]
  ·rename_i hc;rw [wn];simp [hc]
 rw [e5,e6];unfold tU;by_cases k2:h.ag=2
 ·rw [Bool.eq_iff_iff];simp [k2];grind
 ·by_cases k3:h.ag=3∨h.ag=5
  ·by_cases k9:h.ag=9
   ·omega
   ·rw [Bool.eq_iff_iff];simp [k2,k3,k9];grind
  ·by_cases k9:h.ag=9
   ·rw [Bool.eq_iff_iff];simp [k9];grind
   ·rw [Bool.eq_iff_iff];simp [k2,k3,k9];grind
theorem Bh (p:Ph) (t:Ty) (hp:p.wt<=1099511627776):EvP Tryz.prog 261 [.agg (DC p (dx t))] (.v (.bool (cE p bF ei bF))):=by
 obtain ⟨th,tps⟩:=t;refine ev_go (P:=Tryz.prog) tt tt_ok 5000 8 [.tmp 2] Tryz.func261 rfl Tryz.ntmps261 rfl (nL rfl) (fun E9 w9 hn9 hm9=>?_);refine call_p KG (lS p ei bF bF hp (by decide) (tT bF bF (by decide) (by decide))) ax rfl ?_;exact (rfl:_=_)
def av (l:List Wd):List ByteArray:=l.map fun w=>w.s
noncomputable def enumP (l:List Wd):Nat->Ft
 | 0=>(0,0)
 | e + 1=>
  if (enumP l e).1≠0 then enumP l e
  else match l[e]? with
   | some w=>fL (av (l.take (e + 1))) w.s w.a
   | none=>(0,0)
theorem nM {l:List Wd} {e:Nat} (h:(enumP l e).1≠0):∀ d,enumP l (e + d)=enumP l e
 | 0=>rfl
 | d + 1=>by
  have ih:=nM h d;rw [<- Nat.add_assoc,enumP,ih,if_pos h]
theorem yV {L:List ByteArray} {x:ByteArray} {a:Int} (h:(fL L x a).1=0):fL L x a=(0,0):=by
 unfold fL at *;split
 ·rename_i h1;rw [if_pos h1] at h;split
  ·rfl
  ·rename_i h2;rw [if_neg h2] at h;simp at h
 ·rename_i h1;rw [if_neg h1] at h;simp at h
theorem DL {l:List Wd}:∀ {e:Nat},(enumP l e).1=0->enumP l e=(0,0)
 | 0,_=>rfl
 | e + 1,h=>by
  rw [enumP] at h ⊢;split
  ·rename_i h1;rw [if_pos h1] at h;exact absurd h h1
  ·rename_i h1;rw [if_neg h1] at h;split
   ·rename_i w hw;rw [hw] at h;exact yV h
   ·rfl
theorem tV {l:List Wd} {e:Nat} {w:Wd} (h:(enumP l e).1=0) (hw:l[e]? = some w):enumP l (e + 1)=fL (av (l.take (e + 1))) w.s w.a:=by
 rw [enumP,if_neg (by rw [h];simp),hw]
noncomputable def lT (h:Hd):Ft:=
 if h.af.length=0 then (15,h.aC) else if 64 < h.af.length then (8,((h.af[64]?).getD (⟨ap,0⟩:Wd)).a) else enumP h.af h.af.length
abbrev DM (h:Hd) (ps:Pts) (n e:Nat):St:=
 ⟨[(1,⟨[],.loc 0 0⟩),(2,⟨[],.loc 1 0⟩),(27,⟨[],.sl 2 (bn h.af) none⟩),(28,⟨[],.v (.int .i64 (bn h.af).length)⟩),(29,⟨[],.v (.int .i64 e)⟩),(3,⟨[],.sl 1 (dt (av (h.af.take e))) (some 0)⟩)],
  [dx (.mk h ps),[.v (.int .i64 0),.v (.int .i64 0)]],[⟨n,9,1,none⟩]⟩
theorem iB {l:List Wd} {e:Nat} {w:Wd} (h:l[e]? = some w):dt (av (l.take e)) ++ [[DV.v (.string w.s)]]=dt (av (l.take (e + 1))):=by
 rw [List.take_add_one,h];simp [dt,av]
theorem DN (h:Hd) (ps:Pts) (hs:wdsWt h.af<=1099511627776):EvP Tryz.prog 216 [.agg (dx (.mk h ps))] (lT h).d:=by
 have hl:=bd h.af;refine ev_go (P:=Tryz.prog) tt tt_ok 5000 48 [.cell 2 54] Tryz.func216 rfl Tryz.ntmps216 rfl (nL rfl) (fun E9 w9 hn9 hm9=>?_);refine br (fun h0=>?_) (fun h0=>?_)
 ·have h0:h.af.length=0:=by have:=h0;simp [aw] at this;simp [this]
  refine call_p dz (bg 15 h.aC) ax rfl ?_;refine ⟨_,?_,rfl⟩;rw [lT,if_pos h0];exact ax
 have h0:¬ h.af.length=0:=by have:=h0;simp [aw] at this;simpa using this
 refine br (fun h1=>?_) (fun h1=>?_)
 ·have h1:64 < h.af.length:=by have:=h1;simp [aw] at this;omega
  obtain ⟨x,hx⟩:∃ x,h.af[64]? = some x:=⟨_,gE h1⟩;refine ⟨iV x,⟨by omega,aK hx⟩,?_⟩;refine call_p dz (bg 8 x.a) ax rfl ?_;refine ⟨_,?_,rfl⟩;rw [lT,if_neg h0,if_pos h1,hx];exact ax
 have h1:¬ 64 < h.af.length:=by have:=h1;simp [aw] at this;omega
 have hk:lT h=enumP h.af h.af.length:=by rw [lT,if_neg h0,if_neg h1]
 rw [hk];refine aq (fun j st=>∃ e:Nat,st=DM h ps e e/\e<=h.af.length/\(enumP h.af e).1=0/\j=h.af.length - e) h.af.length (DM h ps 0 0) (eV ⟨0,9,1,none⟩ rfl ⟨_,rfl⟩ rfl wA rfl rfl Ah) ⟨0,rfl,by omega,rfl,by omega⟩ ?_;rintro j st ⟨e,rfl,he,hz,rfl⟩;refine br (fun hL=>?_) (fun hL=>?_)
 ·have al:e < h.af.length:=by simpa [aw] using hL
  obtain ⟨w,hw⟩:∃ w,h.af[e]? = some w:=⟨_,gE al⟩;have Qw:=gy (mG hw);have Bi:=tV hz hw
  have KZ:(av (h.af.take (e + 1)))[(av (h.af.take (e + 1))).length - 1]? = some w.s:=by
   have Af:(av (h.af.take (e + 1))).length=e + 1:=by simp [av];omega
   rw [Af];simp [av,hw]
  refine ⟨iV w,⟨by omega,aK hw⟩,?_⟩;refine ⟨by simp [bK,av];omega,⟨by simp [bK,av,maxLen];omega,by simp [bK,av];omega⟩,?_⟩;have gR:=iB hw;have Rk:=rB (av (h.af.take (e + 1))) w.s w.a KZ (by simp [av];omega) (by omega);rw [<- gR,<- Bi] at Rk;refine call_p Qk (Rk) ax rfl ?_;refine br (fun hf=>?_) (fun hf=>?_)
  ·have hf:(enumP h.af (e + 1)).1≠0:=by simpa using hf
   refine ⟨_,?_,rfl⟩;have aS:=nM hf (h.af.length - (e + 1));rw [show e + 1 + (h.af.length - (e + 1))=h.af.length by omega] at aS;rw [aS];exact ax
  ·have hf:(enumP h.af (e + 1)).1=0:=by simpa using hf
   refine ⟨DM h ps (e + 1) (e + 1),(weak_mk ⟨_,rfl⟩ wA rfl rfl rfl (yF al gR)),h.af.length - (e + 1),by omega,e + 1,rfl,by omega,hf,rfl⟩
 ·have aN:e=h.af.length:=by
   have:=hL;simp [aw] at this;omega
  subst aN;have aS:=DL hz;refine ⟨_,?_,rfl⟩;rw [aS];exact ax
def WR (t:Ty) (depth m:Int) (r:DV) (os:List (List DV)) (_:List TkE):Prop:=
 r=(wrong t depth m).1.d/\∃ z:Int,os=[[.v (.int .i64 z)]]/\((wrong t depth m).1.1=0->z=(wrong t depth m).2)
theorem Sc {t:Ty} {depth m:Int}:∀ r os tk,WR t depth m r os tk->clB 0 0 r=true/\∀ qj∈os,clB.clL 0 0 qj=true:=by
 rintro r os tk ⟨rfl,z,rfl,_⟩;refine ⟨rfl,fun qj h=>?_⟩;simp only [List.mem_singleton] at h;subst h;rfl
theorem H4 (t:Ty) (hc:Ev Tryz.prog 172 [.loc 0 0,.agg (dx t),.v (.int .i64 1)] [[.v (.int .i64 0)]] [] (WR t 1 0)) :
  EvP Tryz.prog 104 [.agg (dx t)] (wrong t 1 0).1.d:=by
 obtain ⟨h,ps⟩:=t;refine ev_go (P:=Tryz.prog) tt tt_ok 5000 9 [.cell 2 54] Tryz.func104 rfl Tryz.ntmps104 rfl (nL rfl) (fun E9 w9 hn9 hm9=>?_);refine kK Kx rfl rfl ax ax hc Sc (fun r qj hr=>?_);obtain ⟨rfl,z,hz,_⟩:=hr;simp only [List.cons.injEq,and_true] at hz;subst hz;exact ⟨_,ax,rfl⟩
def jR (n:Nat):List UInt8:=if n < 10 then [UInt8.ofNat (48 + n)] else jR (n / 10) ++ [UInt8.ofNat (48 + n % 10)]
termination_by n
decreasing_by omega
theorem kO {n:Nat} (h:n < 10):jR n=[UInt8.ofNat (48 + n)]:=by rw [jR,if_pos h]
theorem oP {n:Nat} (h:¬ n < 10):jR n=jR (n / 10) ++ [UInt8.ofNat (48 + n % 10)]:=by rw [jR,if_neg h]
theorem Bj:∀ (k n:Nat),n < 10 ^ (k + 1)->(jR n).length<=k + 1
 | 0,n,h=>by
  have:n < 10:=by simpa using h
  rw [kO this];simp
 | k + 1,n,h=>by
  by_cases hn:n < 10
  ·rw [kO hn];simp
  ·rw [oP hn]
   have h2:n / 10 < 10 ^ (k + 1):=by
    rw [Nat.div_lt_iff_lt_mul (by decide)];rw [Nat.pow_succ] at h;exact h
   have:=Bj k (n / 10) h2;simp only [List.length_append,List.length_cons,List.length_nil];omega
theorem digs_20 {n:Nat} (h:n<=18446744073709551616):(jR n).length<=20:=Bj 19 n (by omega)
def ir (z:Int):List UInt8:=if z < 0 then 45 :: jR z.natAbs else jR z.natAbs
def sm (z:Int):ByteArray:=⟨(ir z).toArray⟩
theorem Bl {z:Int} (h1 : -9223372036854775808<=z) (h2:z<=9223372036854775807):(ir z).length<=21:=by
 have:=digs_20 (n:=z.natAbs) (by omega);unfold ir;split
 ·simp only [List.length_cons];omega
 ·omega
theorem j5 {z:Int} (h1 : -9223372036854775808<=z) (h2:z<=9223372036854775807):(sm z).size<=21:=Bl h1 h2
theorem bU (a b:List UInt8):(⟨a.toArray⟩:ByteArray) ++ ⟨b.toArray⟩=⟨(a ++ b).toArray⟩:=by
 apply ByteArray.ext;simp
theorem wr (z:Int) (h1 : -9223372036854775808<=z) (h2:z<=9223372036854775807):IntKind.i64.wrap z=z:=by
 rw [IntKind.wrap_i64];omega
theorem kP {z:Int} (h:0<=z):ir z=jR z.toNat:=by
 unfold ir;rw [if_neg (by omega)];congr 1;omega
theorem oQ:∀ (N:Nat) (z:Int),0<=z->z<=9223372036854775807->z.toNat < N->EvP Tryz.prog 70 [.v (.int .i64 z)] (.v (.string (sm z)))
 | 0,z,_,_,h=>by omega
 | N + 1,z,h0,h1,hN=>by
  have ih:=oQ N;refine ev_go (P:=Tryz.prog) tt tt_ok 5000 33 [.tmp 2] Tryz.func70 rfl Tryz.ntmps70 rfl (nL rfl) (fun E9 w9 hn9 hm9=>?_);refine br (fun h=>?_) (fun _=>?_)
  ·have:z < 0:=by simpa using h
   omega
  refine br (fun h=>?_) (fun h=>?_)
  ·have hz:z < 10:=by simpa using h
   have hw:IntKind.i64.wrap (48 + z)=48 + z:=wr _ (by omega) (by omega);refine ⟨[UInt8.ofNat (48 + z.toNat)],?_,?_⟩
   ·simp only [List.flatten_cons,List.flatten_nil,List.append_nil,u8L,List.cons.injEq,and_true];refine congrArg (fun x=>DV.v (.int .u8 x)) ?_;rw [hw,IntKind.wrap_u8]
    have:(UInt8.ofNat (48 + z.toNat)).toNat=48 + z.toNat:=by
     rw [UInt8.toNat_ofNat'];omega
    rw [this];omega
   ·refine (congrArg (fun s=>DV.v (.string s)) ?_:_=_);rw [sm,kP h0,kO (by omega)]
  ·have hz:¬ z < 10:=by simpa using h
   have hq:IntKind.i64.wrap (z.tdiv 10)=((z.toNat / 10:Nat):Int):=by
    have:z.tdiv 10=z / 10:=Int.tdiv_eq_ediv_of_nonneg h0;rw [this,wr _ (by omega) (by omega)];omega
   have hr:z.tmod 10=((z.toNat % 10:Nat):Int):=by
    rw [Int.tmod_eq_emod_of_nonneg h0];omega
   refine ⟨⟨rfl,by decide⟩,?_⟩;refine call_p AY (ih (IntKind.i64.wrap (z.tdiv 10)) (by rw [hq];omega) (by rw [hq];omega) (by rw [hq];omega)) ax rfl ?_;refine ⟨⟨rfl,by decide⟩,?_⟩;refine call_p AY (ih (z.tmod 10) (by rw [hr];omega) (by rw [hr];omega) (by rw [hr];omega)) ax rfl ?_;rw [hq,hr];have l1:=j5 (z:=((z.toNat / 10:Nat):Int)) (by omega) (by omega);have l2:=j5 (z:=((z.toNat % 10:Nat):Int)) (by omega) (by omega);refine ⟨by omega,?_⟩;refine (congrArg (fun s=>DV.v (.string s)) ?_:_=_);simp only [sm];rw [bU,kP h0,kP (by omega),kP (by omega),oP (n:=z.toNat) (by omega),kO (n:=((z.toNat % 10:Nat):Int).toNat) (by omega)];rfl
theorem oR {z:Int} (h:z < 0):ir z=45 :: jR z.natAbs:=by unfold ir;rw [if_pos h]
theorem Bm:∀ (N:Nat) (z:Int),z < 0 -> -9223372036854775808<=z->z.natAbs < N->EvP Tryz.prog 70 [.v (.int .i64 z)] (.v (.string (sm z)))
 | 0,z,_,_,h=>by omega
 | N + 1,z,h0,h1,hN=>by
  have ih:=Bm N;refine ev_go (P:=Tryz.prog) tt tt_ok 5000 33 [.tmp 2] Tryz.func70 rfl Tryz.ntmps70 rfl (nL rfl) (fun E9 w9 hn9 hm9=>?_);refine br (fun _=>?_) (fun h=>?_)
  ·refine br (fun h=>?_) (fun h=>?_)
   ·have hz : -10 < z:=by simpa using h
    have hw:IntKind.i64.wrap (0 - z) = -z:=by rw [wr _ (by omega) (by omega)];omega
    refine call_p AY (oQ (z.natAbs + 1) (IntKind.i64.wrap (0 - z)) (by rw [hw];omega) (by rw [hw];omega) (by rw [hw];omega)) ax rfl ?_;rw [hw];have l1:=j5 (z:=-z) (by omega) (by omega);refine ⟨by show 1 + (sm (-z)).size<=_;omega,?_⟩;refine (congrArg (fun s=>DV.v (.string s)) ?_:_=_);simp only [sm];rw [oR h0,kP (z:=-z) (by omega),show (-z).toNat=z.natAbs by omega];exact bU [45] _
   ·have hz:¬ -10 < z:=by simpa using h
    have hq:IntKind.i64.wrap (z.tdiv 10) = -((z.natAbs / 10:Nat):Int):=by
     have:z.tdiv 10 = -((z.natAbs / 10:Nat):Int):=by
      have e:z = -(z.natAbs:Int):=by omega
      rw [e,Int.neg_tdiv,Int.natAbs_neg,Int.natAbs_natCast,Int.tdiv_eq_ediv_of_nonneg (by omega)];omega
     rw [this,wr _ (by omega) (by omega)]
    have hr:z.tmod 10 = -((z.natAbs % 10:Nat):Int):=by
     have e:z = -(z.natAbs:Int):=by omega
     rw [e,Int.neg_tmod,Int.natAbs_neg,Int.natAbs_natCast,Int.tmod_eq_emod_of_nonneg (by omega)];omega
    have hw:IntKind.i64.wrap (0 - z.tmod 10)=((z.natAbs % 10:Nat):Int):=by
     rw [hr,wr _ (by omega) (by omega)];omega
    refine ⟨⟨rfl,by decide⟩,?_⟩;refine call_p AY (ih (IntKind.i64.wrap (z.tdiv 10)) (by rw [hq];omega) (by rw [hq];omega) (by rw [hq];omega)) ax rfl ?_;refine ⟨⟨rfl,by decide⟩,?_⟩;refine call_p AY (oQ 11 (IntKind.i64.wrap (0 - z.tmod 10)) (by rw [hw];omega) (by rw [hw];omega) (by rw [hw];omega)) ax rfl ?_;rw [hq,hw];have l1:=j5 (z:=-((z.natAbs / 10:Nat):Int)) (by omega) (by omega);have l2:=j5 (z:=((z.natAbs % 10:Nat):Int)) (by omega) (by omega);refine ⟨by omega,?_⟩;refine (congrArg (fun s=>DV.v (.string s)) ?_:_=_);simp only [sm];rw [bU,oR h0,oR (by omega),kP (by omega),oP (n:=z.natAbs) (by omega),kO (n:=((z.natAbs % 10:Nat):Int).toNat) (by omega),Int.natAbs_neg,Int.natAbs_natCast];rfl
  ·have:¬ z < 0:=by simpa using h
   omega
theorem DO (z:Int) (h1 : -9223372036854775808<=z) (h2:z<=9223372036854775807):EvP Tryz.prog 70 [.v (.int .i64 z)] (.v (.string (sm z))):=by
 by_cases h:z < 0
 ·exact Bm _ z h h1 (Nat.lt_succ_self _)
 ·exact oQ _ z (by omega) h2 (Nat.lt_succ_self _)
theorem oS:∀ bs:List UInt8,u8L bs=bs.map fun b=>DV.v (.int .u8 (b.toNat:Int))
 | []=>rfl
 | b :: r=>by simp [u8L,oS r]
theorem yW (bs:List UInt8):(u8L bs).length=bs.length:=by simp [oS]
theorem Gq (a b:List UInt8):u8L (a ++ b)=u8L a ++ u8L b:=by simp [oS]
theorem K0 (n:Nat) (a:List UInt8):u8L (a.take n)=(u8L a).take n:=by simp [oS,List.map_take]
theorem Bn (n:Nat) (a:List UInt8):u8L (a.drop n)=(u8L a).drop n:=by simp [oS,List.map_drop]
theorem Gr {n m:Nat} {tk:List TkE}:∀ bs:List UInt8,WeL n m tk (u8L bs) (u8L bs)
 | []=>rfl
 | b :: r=>⟨_,_,rfl,ah rfl,Gr r⟩
theorem qq {n m:Nat} {tk:List TkE} {l:List DV} {bs:List UInt8} (h:l=u8L bs):WeL n m tk l (u8L bs):=by rw [h];exact Gr bs
theorem K1 (n:Nat):0 < (jR n).length:=by
 rw [jR];split<;>simp
abbrev Bo (m:Bool) (u a:Nat) (bs:List UInt8):St:=⟨[(3,⟨[],.v (.bool m)⟩),(4,⟨[],.v (.int .u64 u)⟩),(5,⟨[],.loc 0 0⟩),(6,⟨[],.v (.int .i64 a)⟩)],[u8L bs],[]⟩
def Sd (m:Bool) (N j:Nat) (st:St):Prop:=∃ (u a:Nat) (bs:List UInt8),st=Bo m u a bs/\bs.length=20/\a<=20/\u < 18446744073709551616 /\
 ((a < 20/\u=0/\jR N=bs.drop a)∨((a=20∨0 < u)/\jR N=jR u ++ bs.drop a))/\j=a
theorem putI_0 (m:Bool) (N:Nat) (h:N < 18446744073709551616):Sd m N 20 (Bo m N 20 (List.replicate 20 0)):=
 ⟨N,20,_,rfl,by simp,Nat.le_refl _,h,.inr ⟨.inl rfl,by simp⟩,rfl⟩
theorem K2 (z:Int) (h1 : -9223372036854775808<=z) (h2:z<=9223372036854775807):EvP Tryz.prog 67 [.v (.int .i64 z)] (.v (.string (sm z))):=by
 have hN:z.natAbs<=9223372036854775808:=by omega
 refine ev_go (P:=Tryz.prog) tt tt_ok 5000 38 [.tmp 2] Tryz.func67 rfl Tryz.ntmps67 rfl (nL rfl) (fun E9 w9 hn9 hm9=>?_);refine br (fun h=>?_) (fun h=>?_)
 case' refine_1=>
  have hz:z < 0:=by simpa using h
  have hu:IntKind.u64.wrap (0 - IntKind.u64.wrap z)=(z.natAbs:Int):=by
   simp only [IntKind.wrap_u64];omega
  refine aq (Sd (decide (z < 0)) z.natAbs) 20 (Bo (decide (z < 0)) z.natAbs 20 (List.replicate 20 0)) (weak_mk ⟨_,rfl⟩ (by repeat' (first | exact rfl | exact ah rfl | exact qq rfl | refine ⟨_,_,rfl,?_,?_⟩)) rfl rfl rfl (by repeat' (first | exact trivial | exact ah rfl | exact ak hu | exact qq rfl | refine ⟨⟨_,rfl,?_⟩,?_⟩))) (putI_0 _ _ (by omega)) ?_
 case' refine_2=>
  have hz:¬ z < 0:=by simpa using h
  have hu:IntKind.u64.wrap z=(z.natAbs:Int):=by
   simp only [IntKind.wrap_u64];omega
  refine aq (Sd (decide (z < 0)) z.natAbs) 20 (Bo (decide (z < 0)) z.natAbs 20 (List.replicate 20 0)) (weak_mk ⟨_,rfl⟩ (by repeat' (first | exact rfl | exact ah rfl | exact qq rfl | refine ⟨_,_,rfl,?_,?_⟩)) rfl rfl rfl (by repeat' (first | exact trivial | exact ah rfl | exact ak hu | exact qq rfl | refine ⟨⟨_,rfl,?_⟩,?_⟩))) (putI_0 _ _ (by omega)) ?_
 all_goals
  clear hu hz h;rintro a st ⟨u,j,bs,rfl,hbl,ha,hu64,hinv,rfl⟩;refine br (fun h=>?_) (fun h=>?_)
  ·have hc:a=20∨0 < u:=by
    simp [aj] at h;omega
   have hd:jR z.natAbs=jR u ++ bs.drop a:=by
    rcases hinv with ⟨h3,h4,_⟩ | ⟨_,h3⟩
    ·omega
    ·exact h3
   have hp:0 < a:=by
    have e1:=congrArg List.length hd;have e2:=K1 u;have e3:=digs_20 (n:=z.natAbs) (by omega);simp only [List.length_append,List.length_drop,hbl] at e1;omega
   have WS:IntKind.i64.wrap ((a:Int) - 1)=((a - 1:Nat):Int):=by rw [wr _ (by omega) (by omega)];omega
   have hb:IntKind.u8.wrap (48 + IntKind.u8.wrap ((u:Int).tmod 10))=((UInt8.ofNat (48 + u % 10)).toNat:Int):=by
    rw [Int.tmod_eq_emod_of_nonneg (by omega),UInt8.toNat_ofNat',IntKind.wrap_u8',IntKind.wrap_u8'];omega
   have hq:IntKind.u64.wrap ((u:Int).tdiv 10)=((u / 10:Nat):Int):=by
    rw [Int.tdiv_eq_ediv_of_nonneg (by omega),IntKind.wrap_u64];omega
   refine ⟨⟨rfl,by decide⟩,?_⟩;refine ⟨⟨by rw [WS];omega,by rw [WS];omega⟩,?_⟩;have sc:0 + (IntKind.i64.wrap ((a:Int) - 1)).toNat * 1=a - 1:=by rw [WS];omega
   refine ⟨by rw [sc,yW,hbl];omega,?_⟩;refine ⟨⟨rfl,by decide⟩,?_⟩
   have cm:(u8L bs).set (0 + (IntKind.i64.wrap ((a:Int) - 1)).toNat * 1) (DV.v (.int .u8 (IntKind.u8.wrap (48 + IntKind.u8.wrap ((u:Int).tmod 10)))))=u8L (bs.take (a - 1) ++ [UInt8.ofNat (48 + u % 10)] ++ bs.drop a):=by
    rw [sc,hb,List.set_eq_take_append_cons_drop,if_pos (by rw [yW,hbl];omega),Gq,Gq,K0,Bn,show a - 1 + 1=a by omega];simp [u8L]
   refine ⟨Bo (decide (z < 0)) (u / 10) (a - 1) (bs.take (a - 1) ++ [UInt8.ofNat (48 + u % 10)] ++ bs.drop a),(ay 1 rfl (by repeat' (first | exact rfl | exact ah rfl | exact qq cm | exact ak WS | exact ak hq | refine ⟨_,_,rfl,?_,?_⟩)) rfl rfl rfl (by repeat' (first | exact trivial | exact ah rfl | exact qq cm | exact ak WS | exact ak hq | refine ⟨⟨_,rfl,?_⟩,?_⟩))),a - 1,by omega,u / 10,a - 1,_,rfl,by simp;omega,by omega,by omega,?_,rfl⟩
   have WT:(bs.take (a - 1) ++ [UInt8.ofNat (48 + u % 10)] ++ bs.drop a).drop (a - 1)=UInt8.ofNat (48 + u % 10) :: bs.drop a:=by
    rw [List.append_assoc,List.drop_append_of_le_length (by simp;omega),List.drop_eq_nil_of_le (by simp;omega)];rfl
   rw [WT,hd];by_cases oB:u < 10
   ·refine .inl ⟨by omega,by omega,?_⟩;rw [kO oB,Nat.mod_eq_of_lt oB];all_goals rfl
   ·refine .inr ⟨.inr (by omega),?_⟩;rw [oP oB,List.append_assoc];all_goals rfl
  ·have hc:a≠20/\u=0:=by
    simp [aj] at h;omega
   have hd:jR z.natAbs=bs.drop a:=by
    rcases hinv with ⟨_,_,h3⟩ | ⟨h3,_⟩
    ·exact h3
    ·omega
   have hdu:((u8L bs).drop (0 + (a:Int).toNat * 1)).take (((20:Nat):Int).toNat - (a:Int).toNat)=u8L (bs.drop a):=by
    rw [Bn,show 0 + (a:Int).toNat * 1=a by omega];exact List.take_of_length_le (by simp [yW,hbl])
   have hl:(bs.drop a).length=((20:Nat):Int).toNat - (a:Int).toNat:=by simp [hbl]
   refine br (fun hz=>?_) (fun hz=>?_)
   ·have hz:z < 0:=by simpa using hz
    refine ⟨⟨by omega,by omega,by omega⟩,?_⟩;refine ⟨bs.drop a,hdu,hl,?_⟩;refine ⟨by show 1 + (bs.drop a).length<=_;rw [hl];omega,?_⟩;refine (congrArg (fun s=>DV.v (.string s)) ?_:_=_);rw [<- hd,sm,oR hz];exact bU [45] _
   ·have hz:¬ z < 0:=by simpa using hz
    refine ⟨⟨by omega,by omega,by omega⟩,?_⟩;refine ⟨bs.drop a,hdu,hl,?_⟩;refine (congrArg (fun s=>DV.v (.string s)) ?_:_=_);rw [<- hd,sm,kP (by omega),show z.toNat=z.natAbs by omega]
abbrev ba (l:List UInt8):ByteArray:=⟨l.toArray⟩
def tx (s:ByteArray):List UInt8:=s.data.toList
theorem qu {s:ByteArray} {l:List UInt8} (h:tx s=l):s=ba l:=by
 subst h;apply ByteArray.ext;simp [tx]
theorem K3 (s t:ByteArray):tx (s ++ t)=tx s ++ tx t:=by simp [tx]
theorem lU (l:List UInt8):tx (ba l)=l:=by simp [tx]
theorem nq (s:ByteArray):ba (tx s)=s:=(qu rfl).symm
theorem bh (s:ByteArray):(tx s).length=s.size:=by simp [tx]
theorem eE (s t:ByteArray):(s ++ t).size=s.size + t.size:=by simp
theorem Gs (l:List UInt8):(ba l).size=l.length:=rfl
def tW (z:Int):Prop:=-9223372036854775808<=z/\z<=9223372036854775807
theorem ic {n m:Nat} {bR:List TkE} {x y:ByteArray} (h:x=y):We n m bR (.v (.string x)) (.v (.string y)):=.inl ⟨by rw [h],rfl⟩
end Go.Proofs.YtfifjddnnmfeoaaGreat
set_option maxRecDepth 100000
namespace Go.Proofs.YtfifjddnnmfeoaaGreat
open Go Go.RowKit Dv Tryz
end Go.Proofs.YtfifjddnnmfeoaaGreat
set_option maxRecDepth 100000
namespace Go.Proofs.YtfifjddnnmfeoaaGreat
open Go Go.RowKit Dv Tryz
end Go.Proofs.YtfifjddnnmfeoaaGreat
set_option maxRecDepth 100000
namespace Go.Proofs
open Go.Shelf
end Go.Proofs
namespace Go.Proofs.YtfifjddnnmfeoaaGreat
open Go Go.RowKit Dv Tryz
theorem H5 {P:Program} {f:FuncId} {args:List DV} {d:DV}
  (h:∀ (E:En) (w:World) (vs:List Value),Env E [] w->RvL E args vs->Calls P f vs.toArray w fun e w'=>∃ v,e = .returned v/\Rv E d v/\Below w.heap.size w w'):EvP P f args d:=by
 intro E w vs hE ia hv;refine (h E w vs hE hv).mono ?_;rintro e w' ⟨v,rfl,hr,hb⟩;exact ⟨v,rfl,⟨hb.os,hb.tape,hb.output,hb.size,fun k hk _=>hb.block k hk⟩,fun hf=>(by cases hf),d,[],E,hE.jL hb.block,rfl,rfl,Nw.refl hE,hr,rfl⟩
def lm (l:List (List UInt8)):List (List DV):=l.map fun x=>[.v (.string (ba x))]
theorem H6 (l:List (List UInt8)):(lm l).length=l.length:=by simp [lm]
end Go.Proofs.YtfifjddnnmfeoaaGreat
set_option maxRecDepth 100000
namespace Go.Proofs.YtfifjddnnmfeoaaGreat
open Go Go.RowKit Dv Tryz
end Go.Proofs.YtfifjddnnmfeoaaGreat
set_option maxRecDepth 100000
namespace Go.Proofs.YtfifjddnnmfeoaaGreat
open Go Go.RowKit Dv Tryz
end Go.Proofs.YtfifjddnnmfeoaaGreat
set_option maxRecDepth 100000
namespace Go.Proofs.YtfifjddnnmfeoaaGreat
open Go Go.RowKit Dv Tryz
end Go.Proofs.YtfifjddnnmfeoaaGreat
set_option maxRecDepth 100000
namespace Go.Proofs.YtfifjddnnmfeoaaGreat
open Go Go.RowKit Dv Tryz
mutual
def rngT:Ty->Prop
 | .mk h ps=>tW h.lo/\tW h.hi/\tW h.most/\rngP ps
def rngP:Pts->Prop
 | .nil=>True
 | .cons p t r=>tW p.wide/\tW p.cn/\rngT t/\rngP r
end
end Go.Proofs.YtfifjddnnmfeoaaGreat
namespace Go.Proofs.YtfifjddnnmfeoaaGreat
namespace Dv
open Go Go.RowKit
def TypFs (f:TypeId->List DV->Prop):List TypeId->List DV->Prop
 | [],ds=>ds=[]
 | t :: r,ds=>∃ a b,ds=a ++ b/\f t a/\TypFs f r b
def Typ (P:Program):Nat->TypeId->List DV->Prop
 | 0,_,_=>False
 | n + 1,t,ds=>
  match P.underlying t with
  | some .bool=>∃ b,ds=[.v (.bool b)]
  | some (.int k)=>∃ z,ds=[.v (.int k z)]/\(Lit.int k z).wf=true
  | some .string=>∃ s:ByteArray,ds=[.v (.string s)]
  | some (.slice e)=>∃ es,ds=[.sl (P.cellsOf e) es none]/\∀ cs∈es,Typ P n e cs
  | some (.struct fs)=>TypFs (Typ P n) (fs.toList.map (·.type)) ds
  | _=>False
mutual
def wgD:DV->Nat
 | .v (.string s)=>s.size + 64
 | .sl _ es _=>64 + wgEs es
 | _=>64
def wgL:List DV->Nat
 | []=>0
 | d :: r=>wgD d + wgL r
def wgEs:List (List DV)->Nat
 | []=>0
 | cs :: r=>wgL cs + wgEs r
end
theorem eF:∀ a b:List DV,wgL (a ++ b)=wgL a + wgL b
 | [],b=>by simp [wgL]
 | d :: r,b=>by simp only [List.cons_append,wgL,eF r b];omega
def laidF (P:Program) (S:List TypeId):Nat->List Field->Nat->Bool
 | off,[],n=>decide (off=n)
 | off,f :: r,n=>decide (f.offset=off) && S.contains f.type && laidF P S (off + P.cellsOf f.type) r n
def nN (P:Program) (S:List TypeId) (t:TypeId):Bool:=
 match P.underlying t with
 | some .bool=>decide (P.cellsOf t=1)
 | some (.int _)=>decide (P.cellsOf t=1)
 | some .string=>decide (P.cellsOf t=1)
 | some (.slice e)=>decide (P.cellsOf t=1) && S.contains e && decide (0 < P.cellsOf e)
 | some (.struct fs)=>laidF P S 0 fs.toList (P.cellsOf t)
 | _=>false
def bkS {H:Type} (bk:DataW H->Nat):List (DataW H)->Nat
 | []=>0
 | d :: r=>bk d + bkS bk r
structure Bk {H:Type} (bk:DataW H->Nat):Prop where
 str:∀ l:List UInt8,l.length + 1<=bk (.lit (.string l))
 lit:∀ l,1<=bk (.lit l)
 nil:1<=bk .nil
 slice:∀ es sp,1 + bkS bk es<=bk (.slice es sp)
 agg:∀ l,bkS bk l<=bk (.agg l)
def DP (w:World):En:=⟨fun a=>w.cell? a,[],[],[]⟩
theorem Ox (w:World):Env (DP w) [] w where
 len:=rfl
 tl:=rfl
 dW:=by simp
 inj:=List.nodup_nil
 sub:=fun x u hx=>hx
 pc:=by simp [DP]
 cD:=by simp [DP]
 iy:=by simp [DP]
theorem H7 {w:World} {a:Addr} {k:Nat} {v:Value} (h:w.cell? (a.add k)=some v):w.cell? ⟨a.block,a.off + k,none⟩=some v:=by
 unfold Addr.add at h;split at h
 ·rename_i hk;subst hk;unfold World.cell? at h ⊢;split at h
  ·rename_i c e z he;split at h
   ·cases h
   ·simpa [he] using h
  ·cases h
 ·exact h
theorem H8 {w:World} {a:Addr} {v:Value} (h:w.cell? a=some v):a.spot=none:=by
 unfold World.cell? at h;split at h
 ·split at h
  ·cases h
  ·rename_i hs;simpa using hs
 ·cases h
theorem tX {E:En} {b:Nat}:∀ {p:Nat} {ds:List DV} {vs:List Value},RvL E.cl ds vs->(∀ (j:Nat) v,vs[j]? = some v->E.c ⟨b,p + j,none⟩=some v/\v.oneCell'=true)->RvAt E.cl b p ds
 | p,[],vs,h,hc=>by simp only [RvAt]
 | p,d :: r,vs,h,hc=>by
  simp only [RvL] at h;obtain ⟨v,s,rfl,h1,h2⟩:=h;simp only [RvAt];obtain ⟨c1,c2⟩:=hc 0 v rfl;refine ⟨⟨v,c1,c2,h1⟩,tX (p:=p + 1) h2 fun j u hj=>?_⟩;have:=hc (j + 1) u hj;rw [show p + 1 + j=p + (j + 1) by omega];exact this
section
variable {H:Type} {enc:TypeId × Value->H} {P:Program} {w:World} {sp:Nat->Bool} {held:Bool} {S:List TypeId} {bk:DataW H->Nat}
def Rd (enc:TypeId × Value->H) (P:Program) (w:World) (bk:DataW H->Nat) (n:Nat) (t:TypeId) (cs:List Value) (d:DataW H):Prop:=
 ∃ ds,RvL (DP w) ds cs/\(∀ v∈cs,v.oneCell'=true)/\Typ P n t ds/\wgL ds<=64 * bk d/\cs.length=P.cellsOf t
theorem xq {n:Nat} (ih:∀ t cs x,t∈S->DataW.trod enc P w 0 sp held n t cs=some x->Rd enc P w bk n t cs x.1) (cs:List Value) :
  ∀ (fs:List Field) (off:Nat) (xs:List (DataW H × List MemPlace)),laidF P S off fs cs.length=true->xs.length=fs.length ->
   (∀ (i:Nat) f,fs[i]? = some f->DataW.trod enc P w 0 sp held n f.type ((cs.drop f.offset).take (P.cellsOf f.type))=xs[i]?) ->
   ∃ ds,RvL (DP w) ds (cs.drop off)/\(∀ v∈cs.drop off,v.oneCell'=true)/\TypFs (Typ P n) (fs.map (·.type)) ds/\wgL ds<=64 * bkS bk (xs.map (·.1))
 | [],off,xs,hl,vN,hx=>by
  simp only [laidF,decide_eq_true_eq] at hl;subst hl;simp only [List.length_nil,List.length_eq_zero_iff] at vN;subst vN;exact ⟨[],by simpa using bZ _,by simp,by simp [TypFs],by simp [wgL]⟩
 | f :: r,off,xs,hl,vN,hx=>by
  simp only [laidF,Bool.and_eq_true,decide_eq_true_eq] at hl;obtain ⟨⟨hof,hS⟩,hl⟩:=hl
  match xs,vN with
  | x :: xs,vN=>
   have h0:=hx 0 f rfl;rw [hof] at h0;simp only [List.getElem?_cons_zero] at h0;obtain ⟨ds0,r1,r2,r3,r4,r5⟩:=ih f.type _ x (by simpa using hS) h0;obtain ⟨ds1,s1,s2,s3,s4⟩:=xq ih cs r (off + P.cellsOf f.type) xs hl (by simpa using vN) (fun i g hg=>by simpa using hx (i + 1) g (by simpa using hg))
   have K4:cs.drop off=(cs.drop off).take (P.cellsOf f.type) ++ cs.drop (off + P.cellsOf f.type):=by
    rw [<- List.drop_drop,List.take_append_drop]
   refine ⟨ds0 ++ ds1,?_,?_,?_,?_⟩
   ·rw [K4];exact RvL.append r1 s1
   ·rw [K4];intro v hv;rcases List.mem_append.1 hv with hv | hv
    ·exact r2 v hv
    ·exact s2 v hv
   ·simp only [List.map_cons,TypFs];exact ⟨ds0,ds1,rfl,r3,s3⟩
   ·rw [eF];simp only [List.map_cons,bkS];omega
theorem Bp {n e:Nat} (ih:∀ t cs x,t∈S->DataW.trod enc P w 0 sp held n t cs=some x->Rd enc P w bk n t cs x.1) (he:e∈S) (a:Addr) :
  ∀ (xs:List (DataW H × List MemPlace)) (i0:Nat),(∀ i,i < xs.length->(w.cells? 0 (a.add ((i0 + i) * P.cellsOf e)) (P.cellsOf e)).bind (DataW.trod enc P w 0 sp held n e)=xs[i]?) ->
   ∃ es,es.length=xs.length/\RvEs (DP w) (P.cellsOf e) a.block (a.off + i0 * P.cellsOf e) es/\(∀ cs∈es,Typ P n e cs)/\wgEs es<=64 * bkS bk (xs.map (·.1))
 | [],i0,hx=>⟨[],rfl,by simp only [RvEs],by simp,by simp [wgEs]⟩
 | x :: xs,i0,hx=>by
  have h0:=hx 0 (by simp);simp only [Nat.add_zero,List.getElem?_cons_zero] at h0;obtain ⟨cs,cm,ht⟩:=Option.bind_eq_some_iff.1 h0;obtain ⟨_,hlen,lK⟩:=World.cells?_some cm;obtain ⟨ds0,r1,r2,r3,r4,r5⟩:=ih e cs x he ht
  obtain ⟨es,s1,s2,s3,s4⟩:=Bp ih he a xs (i0 + 1) (fun i hi=>by
   have:=hx (i + 1) (by simpa using hi);simp only [List.getElem?_cons_succ] at this;rw [show i0 + 1 + i=i0 + (i + 1) by omega]
   exact this)
  refine ⟨ds0 :: es,by simp [s1],?_,?_,?_⟩
  ·simp only [RvEs];refine ⟨by rw [<- r1.length,hlen],tX (E:=DP w) r1 fun j v hj=>⟨?_,r2 v (mG hj)⟩,?_⟩
   ·have ng:j < P.cellsOf e:=by rw [<- hlen];exact (gS hj).1
    have h1:=lK j ng;rw [hj,Deep.add_add] at h1;have h2:=H7 h1;show w.cell? _=_;rw [Nat.add_assoc];exact h2
   ·rw [Nat.add_assoc,show i0 * P.cellsOf e + P.cellsOf e=(i0 + 1) * P.cellsOf e by rw [Nat.add_mul,Nat.one_mul]];exact s2
  ·intro cs' hc;rcases List.mem_cons.1 hc with hc | hc
   ·subst hc;exact r3
   ·exact s3 cs' hc
  ·simp only [wgEs,List.map_cons,bkS];omega
theorem yX (oT:Bk bk) (hS:∀ t∈S,nN P S t=true):∀ (n:Nat) (t:TypeId) (cs:List Value) (x:DataW H × List MemPlace),t∈S->DataW.trod enc P w 0 sp held n t cs=some x->Rd enc P w bk n t cs x.1
 | 0,t,cs,x,_,h=>by simp [DataW.trod] at h
 | n + 1,t,cs,x,ht,h=>by
  have hf:=hS t ht;unfold nN at hf;unfold Rd
  cases hu:P.underlying t with
  | none=>rw [hu] at hf;cases hf
  | some D=>
   rw [hu] at hf
   cases D with
   | bool=>
    simp only [decide_eq_true_eq] at hf;obtain ⟨b,rfl,rfl⟩:=DataW.trod_bool hu h;have:=oT.lit (.bool b);exact ⟨[.v (.bool b)],rvL_one (by unfold Rv;exact ⟨rfl,rfl⟩),by simp [Value.oneCell'],by simp only [Typ,hu];exact ⟨b,rfl⟩,by simp only [wgL,wgD];omega,by simp [hf]⟩
   | int k=>
    simp only [decide_eq_true_eq] at hf;obtain ⟨z,rfl,rfl,hw⟩:=DataW.trod_int hu h;have:=oT.lit (.int k z);exact ⟨[.v (.int k z)],rvL_one (by unfold Rv;exact ⟨rfl,rfl⟩),by simp [Value.oneCell'],by simp only [Typ,hu];exact ⟨z,rfl,hw⟩,by simp only [wgL,wgD];omega,by simp [hf]⟩
   | string=>
    simp only [decide_eq_true_eq] at hf;obtain ⟨s,rfl,rfl,hw⟩:=DataW.trod_string hu h;have:=oT.str s.data.toList;have bI:s.data.toList.length=s.size:=by rw [Array.length_toList];all_goals rfl
    exact ⟨[.v (.string s)],rvL_one (by unfold Rv;exact ⟨rfl,rfl⟩),by simp [Value.oneCell'],by simp only [Typ,hu];exact ⟨s,rfl⟩,by simp only [wgL,wgD];omega,by simp [hf]⟩
   | slice e=>
    simp only [Bool.and_eq_true,decide_eq_true_eq] at hf;obtain ⟨⟨JB,yz⟩,hf3⟩:=hf;rcases DataW.trod_slice hu h with ⟨rfl,rfl⟩ | ⟨a,len,cap,elems,rest,m,hm,rfl,rfl,_,TI,_,j1,hx,_,_⟩
    ·have:=oT.nil;refine ⟨[.sl (P.cellsOf e) [] none],rvL_one ?_,by simp [Value.oneCell'],by simp only [Typ,hu];exact ⟨[],rfl,by simp⟩,by simp only [wgL,wgD,wgEs];omega,by simp [JB]⟩;unfold Rv;exact ⟨none,0,0,rfl,⟨rfl,Nat.le_refl _⟩,fun hc=>absurd rfl hc,fun k hk=>by cases hk⟩
    ·simp only [Nat.add_right_cancel_iff] at hm;subst hm;obtain ⟨es,s1,s2,s3,s4⟩:=Bp (fun t cs x=>yX oT hS n t cs x) (by simpa using yz) a elems 0 (fun i hi=>by simpa using hx i (by omega));have hb:=oT.slice (elems.map (·.1)) (rest.map (·.1));refine ⟨[.sl (P.cellsOf e) es none],rvL_one ?_,by simp [Value.oneCell'],by simp only [Typ,hu];exact ⟨es,rfl,s3⟩,by simp only [wgL,wgD];omega,by simp [JB]⟩;unfold Rv;refine ⟨some a,len,cap,rfl,⟨by omega,TI⟩,fun aR=>⟨?_,?_⟩,fun k hk=>by cases hk⟩
     ·have jM:0 < len:=by
       rw [<- j1,<- s1];exact List.length_pos_iff.2 aR
      have h0:=hx 0 jM;rw [gE (by omega)] at h0;obtain ⟨cs,cm,_⟩:=Option.bind_eq_some_iff.1 h0;obtain ⟨_,hlen,lK⟩:=World.cells?_some cm;have h1:=lK 0 hf3;rw [gE (by omega),Deep.add_add] at h1;simp only [Nat.zero_mul,Nat.add_zero] at h1;exact H8 (a:=a) h1
     ·have s2':RvEs (DP w) (P.cellsOf e) a.block a.off es:=by simpa using s2
      exact s2'
   | struct fs=>
    obtain ⟨xs,m,hm,rfl,hlen,vN,hx⟩:=DataW.trod_struct hu h;simp only [Nat.add_right_cancel_iff] at hm;subst hm;simp only at hf;obtain ⟨ds,s1,s2,s3,s4⟩:=xq (fun t cs x=>yX oT hS n t cs x) cs fs.toList 0 xs (by rw [hlen];exact hf) (by simpa using vN) (fun i f hi=>hx i f (by simpa using hi));have hb:=oT.agg (xs.map (·.1));refine ⟨ds,by simpa using s1,by simpa using s2,by simp only [Typ,hu];exact s3,by simp only;omega,hlen⟩
   | _=>cases hf
end
theorem Gt {P:Program} {n:Nat} {t:TypeId} {k:IntKind} {ds:List DV} (hu:P.underlying t=some (.int k)) (h:Typ P n t ds):∃ z,ds=[.v (.int k z)]/\(Lit.int k z).wf=true:=by
 cases n with
 | zero=>exact h.elim
 | succ n=>simp only [Typ,hu] at h;exact h
theorem K5 {P:Program} {n:Nat} {t:TypeId} {ds:List DV} (hu:P.underlying t=some .bool) (h:Typ P n t ds):∃ b,ds=[.v (.bool b)]:=by
 cases n with
 | zero=>exact h.elim
 | succ n=>simp only [Typ,hu] at h;exact h
theorem Gu {P:Program} {n:Nat} {t:TypeId} {ds:List DV} (hu:P.underlying t=some .string) (h:Typ P n t ds):∃ s:ByteArray,ds=[.v (.string s)]:=by
 cases n with
 | zero=>exact h.elim
 | succ n=>simp only [Typ,hu] at h;exact h
theorem tY {P:Program} {n:Nat} {t e:TypeId} {ds:List DV} (hu:P.underlying t=some (.slice e)) (h:Typ P n t ds):∃ m es,n=m + 1/\ds=[.sl (P.cellsOf e) es none]/\∀ cs∈es,Typ P m e cs:=by
 cases n with
 | zero=>exact h.elim
 | succ n=>
  simp only [Typ,hu] at h;obtain ⟨es,h1,h2⟩:=h;exact ⟨n,es,rfl,h1,h2⟩
theorem lV {P:Program} {n:Nat} {t:TypeId} {fs:Array Field} {ds:List DV} (hu:P.underlying t=some (.struct fs)) (h:Typ P n t ds):∃ m,n=m + 1/\TypFs (Typ P m) (fs.toList.map (·.type)) ds:=by
 cases n with
 | zero=>exact h.elim
 | succ n=>
  simp only [Typ,hu] at h;exact ⟨n,rfl,h⟩
theorem wf_i64 {z:Int} (h:(Lit.int .i64 z).wf=true) : -9223372036854775808<=z/\z<=9223372036854775807:=by
 simpa [Lit.wf,IntKind.min,IntKind.max,IntKind.signed,IntKind.bits] using h
end Dv
end Go.Proofs.YtfifjddnnmfeoaaGreat
set_option maxRecDepth 100000
namespace Go.Proofs.YtfifjddnnmfeoaaGreat
open Go Go.RowKit Dv Tryz
theorem DQ:Tryz.prog.cellsOf 38=2:=by kernel_rfl
theorem DR:Tryz.prog.cellsOf 144=18:=by kernel_rfl
theorem qv {n:Nat} {ds:List DV} (h:Typ Tryz.prog n 38 ds):∃ w:Wd,ds=iV w/\w.wt<=wgL ds:=by
 obtain ⟨m,_,hf⟩:=lV Tryz.underlying38 h;obtain ⟨a,b,rfl,h1,c,d,rfl,h2,rfl⟩:=hf;obtain ⟨s,rfl⟩:=Gu Tryz.underlying9 h1;obtain ⟨z,rfl,_⟩:=Gt Tryz.underlying3 h2;exact ⟨⟨s,z⟩,rfl,by simp [wgL,wgD,Wd.wt]⟩
theorem K6:∀ {m:Nat} {es:List (List DV)},(∀ cs∈es,Typ Tryz.prog m 38 cs)->∃ l:List Wd,es=bn l/\wdsWt l<=wgEs es
 | m,[],h=>⟨[],rfl,by simp [wdsWt,wgEs]⟩
 | m,cs :: r,h=>by
  obtain ⟨w,rfl,hw⟩:=qv (h cs (by simp));obtain ⟨l,rfl,hl⟩:=K6 (m:=m) (es:=r) (fun c hc=>h c (List.mem_cons_of_mem _ hc));exact ⟨w :: l,rfl,by simp only [wdsWt,wgEs];omega⟩
theorem sF {n:Nat} {ds:List DV} (h:Typ Tryz.prog n 33 ds):∃ l:List Wd,ds=[.sl 2 (bn l) none]/\64 + wdsWt l<=wgL ds:=by
 obtain ⟨m,es,_,rfl,he⟩:=tY Tryz.underlying33 h;obtain ⟨l,rfl,hl⟩:=K6 he;rw [DQ];exact ⟨l,rfl,by simp only [wgL,wgD];omega⟩
theorem lW {n:Nat} {ds:List DV} (h:Typ Tryz.prog n 3 ds):∃ z,ds=[.v (.int .i64 z)]/\tW z:=by
 obtain ⟨z,rfl,hw⟩:=Gt Tryz.underlying3 h;exact ⟨z,rfl,wf_i64 hw⟩
theorem K7 {m:Nat} (ih:∀ k,k < m->∀ ds,Typ Tryz.prog k 40 ds->∃ t:Ty,ds=dx t/\rngT t/\t.wt<=wgL ds) :
  ∀ {es:List (List DV)},(∀ cs∈es,Typ Tryz.prog m 144 cs)->∃ ps:Pts,es=eP ps/\rngP ps/\ps.wt<=wgEs es
 | [],h=>⟨.nil,by simp [eP],by simp [rngP],by simp [Pts.wt]⟩
 | cs :: r,h=>by
  obtain ⟨ps,rfl,hr,hl⟩:=K7 ih (es:=r) (fun c hc=>h c (List.mem_cons_of_mem _ hc));obtain ⟨k,rfl,hf⟩:=lV Tryz.underlying144 (h cs (by simp));obtain ⟨a1,b1,rfl,h1,a2,b2,rfl,h2,a3,b3,rfl,h3,a4,b4,rfl,h4,a5,b5,rfl,h5,a6,b6,rfl,h6,rfl⟩:=hf;obtain ⟨nm,rfl,w1⟩:=qv h1;obtain ⟨bare,rfl⟩:=K5 Tryz.underlying4 h2;obtain ⟨lab,rfl,w3⟩:=sF h3;obtain ⟨wide,rfl,r4⟩:=lW h4;obtain ⟨k5,_,hf5⟩:=lV Tryz.underlying142 h5;obtain ⟨c1,d1,rfl,g1,c2,d2,rfl,g2,c3,d3,rfl,g3,c4,d4,rfl,g4,rfl⟩:=hf5;obtain ⟨ck,rfl,_⟩:=lW g1;obtain ⟨cn,rfl,q2⟩:=lW g2;obtain ⟨ca,rfl,_⟩:=lW g3;obtain ⟨cl,rfl,w5⟩:=sF g4;obtain ⟨t,rfl,rt,wt⟩:=ih k (by omega) _ h6;refine ⟨.cons ⟨nm,bare,lab,wide,ck,cn,ca,cl⟩ t ps,?_,by simp only [rngP];exact ⟨r4,q2,rt,hr⟩,?_⟩
  ·simp only [eP,DC,iV,List.cons_append,List.nil_append,List.append_nil]
  ·simp only [Pts.wt,Ph.wt,wgEs,eF,wgL,wgD,iV] at *;simp only [Wd.wt] at *;omega
theorem K8:∀ (n:Nat) (ds:List DV),Typ Tryz.prog n 40 ds->∃ t:Ty,ds=dx t/\rngT t/\t.wt<=wgL ds:=by
 intro n
 induction n using Nat.strongRecOn with
 | _ n ih=>
  intro ds h;obtain ⟨m,rfl,hf⟩:=lV Tryz.underlying40 h;obtain ⟨a1,b1,rfl,h1,a2,b2,rfl,h2,a3,b3,rfl,h3,a4,b4,rfl,h4,a5,b5,rfl,h5,a6,b6,rfl,h6,a7,b7,rfl,h7,a8,b8,rfl,h8,rfl⟩:=hf;obtain ⟨ag,rfl,_⟩:=lW h1;obtain ⟨aC,rfl,_⟩:=lW h2;obtain ⟨lo,rfl,r3⟩:=lW h3;obtain ⟨hi,rfl,r4⟩:=lW h4;obtain ⟨most,rfl,r5⟩:=lW h5;obtain ⟨af,rfl,w6⟩:=sF h6;obtain ⟨k,es,rfl,rfl,jq⟩:=tY Tryz.underlying36 h7;obtain ⟨ps,rfl,rp,wp⟩:=K7 (fun j hj=>ih j (by omega)) jq;obtain ⟨nm,rfl,w8⟩:=qv h8;rw [DR];refine ⟨.mk ⟨ag,aC,lo,hi,most,af,nm⟩ ps,?_,by simp only [rngT];exact ⟨r3,r4,r5,rp⟩,?_⟩
  ·simp only [dx,iV,List.cons_append,List.nil_append,List.append_nil]
  ·simp only [Ty.wt,Hd.wt,eF,wgL,wgD,iV] at *;simp only [Wd.wt] at *;omega
end Go.Proofs.YtfifjddnnmfeoaaGreat
namespace Go.Proofs.YtfifjddnnmfeoaaGreat
namespace Dv
open Go Go.RowKit Go.ChangeShapes Go.WideShapes Go.ChangeAt
open Go.ChangeMaps (open_string shut_string)
section
variable {H:Type} {enc:TypeId × Value->H} {P:Program}
theorem nr (hl:laidOutB P=true) {W W':World} (hb:Below W.heap.size W W'):∀ {ts:List TypeId} {vs:List Value} {ds:List (DataW H)} {ps:List MemPlace},(∀ t∈ts,P.readableRec t=true/\t < P.types.size) ->
  DataW.TrodAll enc P W 0 (fun _=>true) true ts vs ds ps->(∀ x∈ps,x.block < W.heap.size)->DataW.TrodAll enc P W' 0 (fun b=>decide (b < W.heap.size)) true ts vs ds ps
 | [],[],[],_,_,h,_=>h
 | t :: ts,v :: vs,d :: ds,_,ht,⟨p,q,h1,h2,e⟩,al=>by
  subst e;obtain ⟨r1,r2⟩:=ht t (by simp);exact ⟨p,q,Below.trod hl r1 r2 h1 hb (fun x hx=>al x (List.mem_append_left _ hx)),nr hl hb (fun t sa=>ht t (by simp [sa])) h2 (fun x hx=>al x (List.mem_append_right _ hx)),rfl⟩
theorem law_post {f:Func} {s:ChangeSpec} {tb:TypeId} (hl:laidOutB P=true) (J5:f.resultTypes = #[tb]) (htb:P.underlying tb=some .bool) (hv:s.vars=[]) (hts:∀ t∈f.params.toList,P.readableRec t=true/\t < P.types.size)
  {W W':World} {args:Array Value} {ds gs:List (DataW H)} {before:List MemPlace} (hW:DataW.Whole enc P f.params.toList s.vars false W args.toList ds gs before) (Ag:s.fn H ds={ results:=[.lit (.bool true)],args:=ds }) (hb:Below W.heap.size W W') :
  s.post enc P f false true false false W args (.bool true) W':=by
 have hW':=hW;obtain ⟨p,q,hA,hV,rfl,hfz,hnd⟩:=hW;rw [hv] at hV;obtain ⟨rfl,rfl⟩:=trodVars_none hV;refine ⟨ds,[],p ++ [],[],p,[],hW',?_,?_,?_,hb.frame _,fun h=>by cases h⟩
 ·rw [List.append_nil,Ag,J5];exact trodAll_cons_mk (shut_bool htb _) trodAll_mk0
 ·rw [List.append_nil,Ag];exact nr hl hb hts hA (fun x hx=>hW'.lt x (List.mem_append_left _ hx))
 ·rw [List.append_nil,Ag,hv];rfl
theorem DS {w w':World} {Φ:DV->List (List DV)->List TkE->Prop} {v:Value} (h:Ar false (DP w) w Φ v w'):Below w.heap.size w w':=by
 obtain ⟨hm,_⟩:=h;refine ⟨hm.os,hm.tape,hm.output,hm.size,fun k hk=>hm.block k hk ?_⟩;rintro (h1 | ⟨y,h1,_⟩)
 ·simp [DP] at h1
 ·simp [DP] at h1
theorem calls_law {f:FuncId} {args:List DV} {vs:List Value} {w:World} (h:EvP P f args (.v (.bool true))) (hv:RvL (DP w) args vs) :
  Calls P f vs.toArray w fun e w'=>e = .returned (.bool true)/\Below w.heap.size w w':=by
 refine (h (DP w) w vs (Ox w) rfl hv).mono ?_;rintro e w' ⟨v,rfl,he⟩;have hb:=DS he;obtain ⟨_,_,d,os,E,_,_,_,_,hr,rfl⟩:=he;unfold Rv at hr;rw [hr.1];exact ⟨rfl,hb⟩
variable {W:World} {base:Nat} {S:List TypeId} {bk:DataW H->Nat}
theorem arg_st (oT:Bk bk) (hS:∀ t∈S,nN P S t=true) {t:TypeId} {fs:Array Field} {v:Value} {d:DataW H} {ps:List MemPlace} (ht:t∈S) (hu:P.underlying t=some (.struct fs))
  (hval:Value.okWide P W .any base t v) (h:DataW.Trod enc P W 0 (fun _=>true) true t v d ps):∃ n ds,Rv (DP W) (.agg ds) v/\Typ P n t ds/\wgL ds<=64 * bk d:=by
 unfold Value.okWide at hval;rw [hu] at hval;obtain ⟨cs,rfl,_,_⟩:=hval;obtain ⟨n,hn⟩:=h;obtain ⟨ds,h1,h2,h3,h4,_⟩:=yX oT hS n t _ _ ht hn;refine ⟨n,ds,?_,h3,h4⟩;unfold Rv;exact ⟨cs.toList,by simp,h1,h2⟩
end
end Dv
end Go.Proofs.YtfifjddnnmfeoaaGreat
namespace Go.Proofs.YtfifjddnnmfeoaaGreat
open Go Go.RowKit Dv
theorem DT {H:Type}:∀ l:List (DataW H),bkS Rows.uptoBulk l=Rows.uptoBulkAll l
 | []=>by simp [bkS,Rows.uptoBulkAll]
 | d :: r=>by simp only [bkS,Rows.uptoBulkAll,DT r]
theorem bk_ok {H:Type}:Bk (Rows.uptoBulk (H:=H)) where
 str:=fun l=>by simp [Rows.uptoBulk]
 lit:=fun l=>by cases l<;>simp [Rows.uptoBulk]
 nil:=by simp [Rows.uptoBulk]
 slice:=fun es sp=>by simp only [Rows.uptoBulk,DT];omega
 agg:=fun l=>by simp only [Rows.uptoBulk,DT];omega
theorem bulk_le {H:Type} {l:List (DataW H)} (hk:Rows.uptoSmall H l=true):Rows.uptoBulkAll l<=1048576:=of_decide_eq_true hk
theorem laid_out:laidOutB Tryz.prog=true:=by kernel_rfl
theorem own_knob:ownKnob Tryz.prog.godebug=none:=by kernel_rfl
def tyS:List TypeId:=[40,33,38,9,3,36,144,4,142]
end Go.Proofs.YtfifjddnnmfeoaaGreat
set_option maxRecDepth 100000
namespace Go.Proofs.YtfifjddnnmfeoaaGreat
open Go Go.RowKit Dv Tryz
def Pts.take:Nat->Pts->Pts
 | 0,_=>.nil
 | _ + 1,.nil=>.nil
 | e + 1,.cons p t r=>.cons p t (r.take e)
structure Sch where
 ae:List Wd
 order:List (Wd × Wd)
 types:List (Wd × Ty)
 root:Ty
def JC (p:Wd × Wd):List DV:=[.v (.string p.1.s),.v (.int .i64 p.1.a),.v (.string p.2.s),.v (.int .i64 p.2.a)]
def lx (l:List (Wd × Wd)):List (List DV):=l.map JC
def YD (x:Wd × Ty):List DV:=.v (.string x.1.s) :: .v (.int .i64 x.1.a) :: dx x.2
def dNms (l:List (Wd × Ty)):List (List DV):=l.map YD
def ey (s:Sch):List DV:=.sl 2 (bn s.ae) none :: .sl 4 (lx s.order) none :: .sl 11 (dNms s.types) none :: dx s.root
def prsWt:List (Wd × Wd)->Nat
 | []=>0
 | p :: r=>p.1.wt + p.2.wt + prsWt r
def nmsWt:List (Wd × Ty)->Nat
 | []=>0
 | p :: r=>p.1.wt + p.2.wt + nmsWt r
def Sch.wt (s:Sch):Nat:=wdsWt s.ae + prsWt s.order + nmsWt s.types + s.root.wt
theorem eY (l:List (Wd × Wd)):(lx l).length=l.length:=by simp [lx]
theorem dm (l:List (Wd × Ty)):(dNms l).length=l.length:=by simp [dNms]
theorem fN {l:List (Wd × Wd)} {j:Nat} {p:Wd × Wd} (h:l[j]? = some p):(lx l)[j]? = some (JC p):=by simp [lx,h]
theorem dNms_get {l:List (Wd × Ty)} {j:Nat} {p:Wd × Ty} (h:l[j]? = some p):(dNms l)[j]? = some (YD p):=by simp [dNms,h]
theorem gC:∀ l:List (Wd × Wd),128 * l.length<=prsWt l
 | []=>Nat.le_refl _
 | p :: r=>by have:=gC r;simp only [List.length_cons,prsWt,Wd.wt];omega
theorem iC:∀ l:List (Wd × Ty),256 * l.length<=nmsWt l
 | []=>Nat.le_refl _
 | p :: r=>by have:=iC r;have:=p.2.dr;simp only [List.length_cons,nmsWt,Wd.wt];omega
theorem fx:∀ {l:List (Wd × Ty)} {p:Wd × Ty},p∈l->p.1.wt + p.2.wt<=nmsWt l
 | x :: r,p,h=>by
  rcases List.mem_cons.1 h with h | h
  ·subst h;simp only [nmsWt];omega
  ·have:=fx h;simp only [nmsWt];omega
def Oy (s:Sch):Prop:=(∀ x∈s.types,rngT x.2)/\rngT s.root
theorem DU:Tryz.prog.cellsOf 146=4:=by kernel_rfl
theorem Bq:Tryz.prog.cellsOf 109=11:=by kernel_rfl
theorem Se {n:Nat} {ds:List DV} (h:Typ Tryz.prog n 146 ds):∃ p:Wd × Wd,ds=JC p/\p.1.wt + p.2.wt<=wgL ds:=by
 obtain ⟨m,_,hf⟩:=lV Tryz.underlying146 h;obtain ⟨a,b,rfl,h1,c,d,rfl,h2,rfl⟩:=hf;obtain ⟨x,rfl,w1⟩:=qv h1;obtain ⟨y,rfl,w2⟩:=qv h2;exact ⟨(x,y),rfl,by simp only [eF,wgL];omega⟩
theorem Sf {n:Nat} {ds:List DV} (h:Typ Tryz.prog n 109 ds):∃ p:Wd × Ty,ds=YD p/\rngT p.2/\p.1.wt + p.2.wt<=wgL ds:=by
 obtain ⟨m,_,hf⟩:=lV Tryz.underlying109 h;obtain ⟨a,b,rfl,h1,c,d,rfl,h2,rfl⟩:=hf;obtain ⟨x,rfl,w1⟩:=qv h1;obtain ⟨y,rfl,r2,w2⟩:=K8 _ _ h2;exact ⟨(x,y),by simp [YD,iV],r2,by simp only [eF,wgL];omega⟩
theorem K9:∀ {m:Nat} {es:List (List DV)},(∀ cs∈es,Typ Tryz.prog m 146 cs)->∃ l:List (Wd × Wd),es=lx l/\prsWt l<=wgEs es
 | m,[],h=>⟨[],rfl,by simp [prsWt,wgEs]⟩
 | m,cs :: r,h=>by
  obtain ⟨w,rfl,hw⟩:=Se (h cs (by simp));obtain ⟨l,rfl,hl⟩:=K9 (m:=m) (es:=r) (fun c hc=>h c (List.mem_cons_of_mem _ hc));exact ⟨w :: l,rfl,by simp only [prsWt,wgEs];omega⟩
theorem La:∀ {m:Nat} {es:List (List DV)},(∀ cs∈es,Typ Tryz.prog m 109 cs)->∃ l:List (Wd × Ty),es=dNms l/\(∀ x∈l,rngT x.2)/\nmsWt l<=wgEs es
 | m,[],h=>⟨[],rfl,by simp,by simp [nmsWt,wgEs]⟩
 | m,cs :: r,h=>by
  obtain ⟨w,rfl,hr,hw⟩:=Sf (h cs (by simp));obtain ⟨l,rfl,hlr,hl⟩:=La (m:=m) (es:=r) (fun c hc=>h c (List.mem_cons_of_mem _ hc));refine ⟨w :: l,rfl,fun x hx=>?_,by simp only [nmsWt,wgEs];omega⟩;rcases List.mem_cons.1 hx with rfl | hx
  ·exact hr
  ·exact hlr x hx
theorem typ_sch {n:Nat} {ds:List DV} (h:Typ Tryz.prog n 42 ds):∃ s:Sch,ds=ey s/\Oy s/\s.wt<=wgL ds:=by
 obtain ⟨m,_,hf⟩:=lV Tryz.underlying42 h;obtain ⟨a1,b1,rfl,h1,a2,b2,rfl,h2,a3,b3,rfl,h3,a4,b4,rfl,h4,rfl⟩:=hf;obtain ⟨l1,rfl,w1⟩:=sF h1;obtain ⟨m2,es2,_,rfl,he2⟩:=tY Tryz.underlying34 h2;obtain ⟨l2,rfl,w2⟩:=K9 he2;obtain ⟨m3,es3,_,rfl,he3⟩:=tY Tryz.underlying35 h3;obtain ⟨l3,rfl,r3,w3⟩:=La he3;obtain ⟨t,rfl,r4,w4⟩:=K8 _ _ h4;rw [DU,Bq];refine ⟨⟨l1,l2,l3,t⟩,by simp [ey],⟨r3,r4⟩,?_⟩;simp only [Sch.wt,eF,wgL,wgD] at *;omega
end Go.Proofs.YtfifjddnnmfeoaaGreat
namespace Go.Proofs.YtfifjddnnmfeoaaGreat
open Go Go.RowKit Dv
def tySS:List TypeId:=42 :: 34 :: 146 :: 35 :: 109 :: tyS
theorem tySS_ok:∀ t∈tySS,nN Tryz.prog tySS t=true:=by
 have h:(tySS.all fun t=>nN Tryz.prog tySS t)=true:=by kernel_rfl
 exact fun t ht=>List.all_eq_true.1 h t ht
set_option maxRecDepth 100000
noncomputable abbrev PP:Program:=Tryz.pinned.checked.prog
def dft:OpenClaim:={ program := "",sum := "",func := "",spec := "" }
theorem and_ok {a b:Bool} (ha:a=true) (hb:b=true):(a && b)=true:=by rw [ha,hb];all_goals rfl
theorem g_laid:laidOutB PP=true:=laid_out
theorem g_maps:mapsRowed PP=true:=by kernel_rfl
theorem g_stops:(PP.stops == [])=true:=by kernel_rfl
theorem g_knobs:(PP.stopKnobs == [])=true:=by kernel_rfl
theorem g_heard:PP.stopsHeard=true:=by kernel_rfl
theorem g_enter:PP.mayEnter=true:=by kernel_rfl
theorem g_lifts:(dft.lifted == PP.liftsFinal)=true:=by kernel_rfl
theorem g_keys:(false == PP.plainKeys)=true:=by kernel_rfl
theorem g_make:(PP.make == some dft.make)=true:=by kernel_rfl
end Go.Proofs.YtfifjddnnmfeoaaGreat
set_option maxRecDepth 100000
namespace Go.Proofs.YtfifjddnnmfeoaaGreat
open Go Go.RowKit Dv Tryz
theorem Bs (x b:Nat):(x:Int).fdiv (2 ^ b)=((x / 2 ^ b:Nat):Int):=by
 rw [Int.fdiv_eq_ediv_of_nonneg _ (by exact Int.le_of_lt (Int.pow_pos (by decide)))];simp
theorem gD (m:Nat):BitVec.ofInt 64 (m:Int)=BitVec.ofNat 64 m:=by simp
theorem Gv {x b:Nat} (hb:b < 64) (hx:x < 18446744073709551616) :
  decide (IntKind.u64.wrap ((BitVec.ofInt 64 ((x:Int).fdiv (2 ^ (min b 64))) &&& BitVec.ofInt 64 1).toNat:Int)=1)=x.testBit b:=by
 rw [Nat.min_eq_left (by omega),Bs,gD,show (BitVec.ofInt 64 1)=BitVec.ofNat 64 1 by decide,BitVec.toNat_and,BitVec.toNat_ofNat,BitVec.toNat_ofNat,Nat.testBit_eq_decide_div_mod_eq];have h1:x / 2 ^ b < 18446744073709551616:=Nat.lt_of_le_of_lt (Nat.div_le_self _ _) hx;rw [Nat.mod_eq_of_lt h1,show (1 % 2 ^ 64:Nat)=1 by decide,Nat.and_one_is_mod];simp only [IntKind.wrap_u64];congr 1;apply propext;omega
theorem DW {x b:Nat} (hb:b < 64) (hx:x < 18446744073709551616) :
  IntKind.u64.wrap ((BitVec.ofInt 64 (x:Int) ||| BitVec.ofInt 64 (IntKind.u64.wrap (1 * 2 ^ (min b 64)))).toNat:Int)=((x ||| 2 ^ b:Nat):Int):=by
 have h2:2 ^ b < 18446744073709551616:=by
  have:2 ^ b<=2 ^ 63:=Nat.pow_le_pow_right (by decide) (by omega);omega
 have e1:IntKind.u64.wrap (1 * 2 ^ (min b 64))=((2 ^ b:Nat):Int):=by
  rw [Nat.min_eq_left (by omega),Int.one_mul];have:((2:Int) ^ b)=((2 ^ b:Nat):Int):=by simp
  rw [this];generalize 2 ^ b=z at h2;simp only [IntKind.wrap_u64];omega
 rw [e1,gD,gD,BitVec.toNat_or,BitVec.toNat_ofNat,BitVec.toNat_ofNat,Nat.mod_eq_of_lt hx,Nat.mod_eq_of_lt h2];have h3:x ||| 2 ^ b < 18446744073709551616:=Nat.or_lt_two_pow (n:=64) hx h2
 simp only [IntKind.wrap_u64];omega
theorem Oz {x y:Nat} (hx:x < 18446744073709551616) (hy:y < 18446744073709551616) :
  IntKind.u64.wrap ((BitVec.ofInt 64 (x:Int) ||| BitVec.ofInt 64 (y:Int)).toNat:Int)=((x ||| y:Nat):Int):=by
 rw [gD,gD,BitVec.toNat_or,BitVec.toNat_ofNat,BitVec.toNat_ofNat,Nat.mod_eq_of_lt hx,Nat.mod_eq_of_lt hy];have h3:x ||| y < 18446744073709551616:=Nat.or_lt_two_pow (n:=64) hx hy
 simp only [IntKind.wrap_u64];omega
theorem fO (x a b:Nat):(x ||| 2 ^ b).testBit a=(x.testBit a || decide (b=a)):=by
 rw [Nat.testBit_or,Nat.testBit_two_pow]
def dU (rows:List Nat):List (List DV):=rows.map fun (x:Nat)=>[DV.v (.int .u64 (x:Int))]
theorem jS (rows:List Nat):(dU rows).length=rows.length:=by simp [dU]
theorem Sg {rows:List Nat} {i:Nat} {x:Nat} (h:rows[i]? = some x):(dU rows)[i]? = some [DV.v (.int .u64 (x:Int))]:=by simp [dU,h]
abbrev ly (rows:List Nat):DV:=.pt [.sl 1 (dU rows) none] 0
def dB (rows:List Nat):Prop:=rows.length<=64/\∀ x∈rows,x < 18446744073709551616
def aM (rows:List Nat) (a b:Nat):Bool:=(rows.getD a 0).testBit b
def hasB (rows:List Nat) (a b:Int):Bool:=decide (0<=a) && decide (a < rows.length) && decide (0<=b) && decide (b < rows.length) && aM rows a.toNat b.toNat
theorem xr (rows:List Nat):EvP Tryz.prog 163 [ly rows] (.v (.int .i64 rows.length)):=by
 refine ev_go (P:=Tryz.prog) tt tt_ok 5000 10 [.tmp 2] Tryz.func163 rfl Tryz.ntmps163 rfl (nL rfl) (fun E9 w9 hn9 hm9=>?_);refine (congrArg (fun z=>DV.v (.int .i64 z)) ?_:_=_);rw [jS]
theorem j6 (rows:List Nat) (hr:dB rows) (a b:Int):EvP Tryz.prog 156 [ly rows,.v (.int .i64 a),.v (.int .i64 b)] (.v (.bool (hasB rows a b))):=by
 have hl:=xr rows;refine ev_go (P:=Tryz.prog) tt tt_ok 5000 38 [.tmp 6] Tryz.func156 rfl Tryz.ntmps156 rfl (nL rfl) (fun E9 w9 hn9 hm9=>?_);refine br (fun g1=>?_) (fun g1=>?_)
 ·have g1:0<=a:=by simpa using g1
  refine call_p Ku (hl) ax rfl ?_;refine br (fun g2=>?_) (fun g2=>?_)
  ·obtain ⟨g2,g3⟩:a < rows.length/\0<=b:=by
    cases h:decide (a < (rows.length:Int))<;>simp [pickB,h] at g2<;>exact ⟨by simpa using h,g2⟩
   refine call_p Ku (hl) ax rfl ?_;refine br (fun g4=>?_) (fun g4=>?_)
   ·have g4:b < rows.length:=by simpa [pickB,g2,g3] using g4
    obtain ⟨x,hx⟩:∃ x,rows[a.toNat]? = some x:=⟨_,gE (by omega)⟩;have HN:=hr.2 x (mG hx);have hr1:=hr.1;refine ⟨_,⟨g1,Sg hx⟩,?_⟩;refine ⟨g3,?_⟩;refine (congrArg (fun b=>DV.v (.bool b)) ?_:_=_);have HF:rows.getD a.toNat 0=x:=getD_some hx
    have e1:hasB rows a b=x.testBit b.toNat:=by
     unfold hasB aM;rw [HF];simp [g1,g2,g3,g4]
    rw [e1];exact Gv (x:=x) (b:=b.toNat) (by omega) HN
   ·have g4:¬ b < rows.length:=by simpa [pickB,g2,g3] using g4
    refine (congrArg (fun b=>DV.v (.bool b)) ?_:_=_);simp [pickB,g2,g3,g4,hasB]
  ·have g5:¬ (a < rows.length/\0<=b):=by
    rintro ⟨h1,h2⟩;simp [pickB,h1,h2] at g2
   refine (congrArg (fun b=>DV.v (.bool b)) ?_:_=_);cases h:decide (a < (rows.length:Int))<;>simp [pickB,h,hasB] at g2 ⊢
   intro _ h0;omega
 ·have g1:¬ 0<=a:=by simpa using g1
  refine (congrArg (fun b=>DV.v (.bool b)) ?_:_=_);simp [g1,hasB]
def backN (rows:List Nat) (a:Nat):Nat->Nat
 | 0=>0
 | e + 1=>if aM rows a e && aM rows e a then backN rows a e ||| 2 ^ e else backN rows a e
theorem tZ (rows:List Nat) (a:Nat):∀ e,backN rows a e < 2 ^ e
 | 0=>by simp [backN]
 | e + 1=>by
  have ih:=tZ rows a e;have h2:2 ^ e < 2 ^ (e + 1):=Nat.pow_lt_pow_right (by decide) (by omega);simp only [backN];split
  ·exact Nat.or_lt_two_pow (by omega) h2
  ·omega
theorem qw (rows:List Nat) (a b:Nat):∀ e,(backN rows a e).testBit b=(decide (b < e) && (aM rows a b && aM rows b a))
 | 0=>by simp [backN]
 | e + 1=>by
  have ih:=qw rows a b e;simp only [backN];by_cases AJ:b=e
  ·subst AJ;cases hx:(aM rows a b && aM rows b a)
   ·simp [ih,hx]
   ·simp [fO]
  ·have h1:decide (b < e + 1)=decide (b < e):=by congr 1;apply propext;omega
   rw [h1,<- ih];split
   ·rw [fO,decide_eq_false (Ne.symm AJ),Bool.or_false]
   ·rfl
abbrev ua (rows:List Nat) (a e:Nat):St:=
 ⟨[(0,⟨[],ly rows⟩),(1,⟨[],.v (.int .i64 a)⟩),(5,⟨[],.v (.int .u64 (backN rows a e:Nat))⟩),(11,⟨[],.v (.int .i64 (dU rows).length)⟩),(12,⟨[],.v (.int .i64 e)⟩)],[],[]⟩
theorem oU {rows:List Nat} {a b:Nat} (ha:a < rows.length) (hb:b < rows.length):hasB rows a b=aM rows a b:=by
 simp [hasB,ha,hb]
theorem DX (rows:List Nat) (hr:dB rows) (a:Nat) (ha:a < rows.length):EvP Tryz.prog 165 [ly rows,.v (.int .i64 a)] (.v (.int .u64 (backN rows a rows.length:Nat))):=by
 have hr1:=hr.1;refine ev_go (P:=Tryz.prog) tt tt_ok 5000 31 [.tmp 4] Tryz.func165 rfl Tryz.ntmps165 rfl (nL rfl) (fun E9 w9 hn9 hm9=>?_);refine aq (fun j st=>∃ e:Nat,st=ua rows a e/\e<=rows.length/\j=rows.length - e) rows.length (ua rows a 0) (weak_mk ⟨_,rfl⟩ wA rfl rfl rfl wB) ⟨0,rfl,by omega,by omega⟩ ?_;rintro j st ⟨e,rfl,he,rfl⟩;refine br (fun hL=>?_) (fun hL=>?_)
 ·have al:e < rows.length:=by have:=hL;simp [jS] at this;exact this
  have h1:=j6 rows hr a e;have h2:=j6 rows hr e a;rw [oU ha al] at h1;rw [oU al ha] at h2;have hbl:=tZ rows a e
  have Sh:backN rows a e < 18446744073709551616:=by
   have:2 ^ e<=2 ^ 64:=Nat.pow_le_pow_right (by decide) (by omega);omega
  have WU:=DW (x:=backN rows a e) (b:=e) (by omega) Sh;have hs:backN rows a (e + 1)=if aM rows a e && aM rows e a then backN rows a e ||| 2 ^ e else backN rows a e:=rfl
  refine call_p A1 (h1) ax rfl ?_;refine br (fun g1=>?_) (fun g1=>?_)
  ·have g1:aM rows a e=true:=by simpa using g1
   refine call_p A1 (h2) ax rfl ?_;refine br (fun g2=>?_) (fun g2=>?_)
   ·have g2:aM rows e a=true:=by simpa [pickB,g1] using g2
    rw [g1,g2] at hs;have hs:backN rows a (e + 1)=backN rows a e ||| 2 ^ e:=hs
    refine ⟨by omega,?_⟩;exact ⟨ua rows a (e + 1),(weak_mk ⟨_,rfl⟩ wA rfl rfl rfl (by repeat' (first | exact trivial | exact ah rfl | exact ak (cA al (by omega)) | exact ak (WU.trans (by rw [hs])) | refine ⟨⟨_,rfl,?_⟩,?_⟩))),rows.length - (e + 1),by omega,e + 1,rfl,by omega,rfl⟩
   ·have g2:aM rows e a=false:=by simpa [pickB,g1] using g2
    rw [g1,g2] at hs;have hs:backN rows a (e + 1)=backN rows a e:=hs;exact ⟨ua rows a (e + 1),(weak_mk ⟨_,rfl⟩ wA rfl rfl rfl (by repeat' (first | exact trivial | exact ah rfl | exact ak (cA al (by omega)) | exact ak (by rw [hs]) | refine ⟨⟨_,rfl,?_⟩,?_⟩))),rows.length - (e + 1),by omega,e + 1,rfl,by omega,rfl⟩
  ·have g1:aM rows a e=false:=by simpa using g1
   rw [g1] at hs;have hs:backN rows a (e + 1)=backN rows a e:=hs;exact ⟨ua rows a (e + 1),(weak_mk ⟨_,rfl⟩ wA rfl rfl rfl (by repeat' (first | exact trivial | exact ah rfl | exact ak (cA al (by omega)) | exact ak (by rw [hs]) | refine ⟨⟨_,rfl,?_⟩,?_⟩))),rows.length - (e + 1),by omega,e + 1,rfl,by omega,rfl⟩
 ·have aN:e=rows.length:=by have:=hL;simp [jS] at this;omega
  subst aN;exact (rfl:_=_)
def cU (rows:List Nat):List DV:=rows.map fun (x:Nat)=>DV.v (.int .u64 (x:Int))
theorem nO (rows:List Nat):(cU rows).length=rows.length:=by simp [cU]
theorem Lb {rows:List Nat} {i x:Nat} (h:rows[i]? = some x):(cU rows)[i]? = some (DV.v (.int .u64 (x:Int))):=by simp [cU,h]
theorem Lc (rows:List Nat) (i x:Nat):(cU rows).set i (DV.v (.int .u64 (x:Int)))=cU (rows.set i x):=by simp [cU,List.map_set]
theorem oV (rows:List Nat):(dU rows).flatten=cU rows:=by
 induction rows with
 | nil=>rfl
 | cons x r ih=>simp only [dU,cU,List.map_cons,List.flatten_cons] at ih ⊢;rw [ih];all_goals rfl
theorem Gw {n m:Nat} {tk:List TkE}:∀ l:List Nat,WeL n m tk (cU l) (cU l)
 | []=>rfl
 | b :: r=>⟨_,_,rfl,ah rfl,Gw r⟩
theorem yY {n m:Nat} {tk:List TkE} {l:List DV} {ds:List Nat} (h:l=cU ds):WeL n m tk l (cU ds):=by rw [h];exact Gw ds
def dNP (p:Nat × Nat):List DV:=[.v (.int .i64 (p.1:Int)),.v (.int .i64 (p.2:Int))]
def kQ (l:List (Nat × Nat)):List (List DV):=l.map dNP
theorem fQ (l:List (Nat × Nat)):(kQ l).length=l.length:=by simp [kQ]
theorem ub {l:List (Nat × Nat)} {i:Nat} {p:Nat × Nat} (h:l[i]? = some p):(kQ l)[i]? = some (dNP p):=by simp [kQ,h]
def uc (rows:List Nat) (p:Nat × Nat):List Nat:=rows.set p.1 (rows.getD p.1 0 ||| 2 ^ p.2)
def ez (n:Nat) (l:List (Nat × Nat)):List Nat:=l.foldl uc (List.replicate n 0)
theorem H9 (n:Nat) (l:List (Nat × Nat)) (e:Nat) {p:Nat × Nat} (h:l[e]? = some p):ez n (l.take (e + 1))=uc (ez n (l.take e)) p:=by
 unfold ez;rw [List.take_add_one,h];simp
theorem oW (rows:List Nat) (p:Nat × Nat):(uc rows p).length=rows.length:=by simp [uc]
theorem iY (n:Nat):∀ (l:List (Nat × Nat)),(ez n l).length=n:=by
 intro l
 have:∀ (l:List (Nat × Nat)) (r:List Nat),(l.foldl uc r).length=r.length:=by
  intro l
  induction l with
  | nil=>intro r;rfl
  | cons p l ih=>intro r;rw [List.foldl_cons,ih,oW]
 rw [ez,this];simp
theorem OA {rows:List Nat} {p:Nat × Nat} (h:dB rows) (hp:p.1 < rows.length) (hq:p.2 < 64):dB (uc rows p):=by
 refine ⟨by rw [oW];exact h.1,fun x hx=>?_⟩;rcases List.mem_or_eq_of_mem_set hx with hx | rfl
 ·exact h.2 x hx
 ·refine Nat.or_lt_two_pow (n:=64) ?_ (Nat.pow_lt_pow_right (by decide) hq);rw [List.getD_eq_getElem?_getD,gE hp];exact h.2 _ (List.getElem_mem hp)
theorem yZ {n:Nat} (hn:n<=64):∀ (l:List (Nat × Nat)),(∀ p∈l,p.1 < n/\p.2 < n)->dB (ez n l):=by
 intro l hl
 have:∀ (l:List (Nat × Nat)) (r:List Nat),r.length=n->dB r->(∀ p∈l,p.1 < n/\p.2 < n)->dB (l.foldl uc r):=by
  intro l
  induction l with
  | nil=>intro r _ h _;exact h
  | cons p l ih=>
   intro r hr h hp;have:=hp p (by simp);exact ih _ (by rw [oW,hr]) (OA h (by omega) (by omega)) (fun q hq=>hp q (by simp [hq]))
 refine this l _ (by simp) ⟨by simp [hn],fun x hx=>?_⟩ hl;rw [List.mem_replicate] at hx;omega
abbrev DY (n:Nat) (l:List (Nat × Nat)) (rows:List Nat) (e:Nat):St:=
 ⟨[(0,⟨[],.v (.int .i64 n)⟩),(6,⟨[],.loc 1 0⟩),(19,⟨[],.sl 2 (kQ l) none⟩),(20,⟨[],.v (.int .i64 (kQ l).length)⟩),(21,⟨[],.v (.int .i64 e)⟩)],
  [cU rows,[.ms 0 1 0 n n]],[]⟩
theorem Ia (n:Nat) (hn:n<=64) (l:List (Nat × Nat)) (hl:∀ p∈l,p.1 < n/\p.2 < n) (hb:l.length<=1099511627776) :
  EvP Tryz.prog 98 [.v (.int .i64 n),.sl 2 (kQ l) none] (.tup [ly (ez n l),.v (.bool true)]):=by
 refine ev_go (P:=Tryz.prog) tt tt_ok 5000 60 [.tmp 4,.tmp 5] Tryz.func98 rfl Tryz.ntmps98 rfl (nL rfl) (fun E9 w9 hn9 hm9=>?_);refine br (fun g=>?_) (fun g=>?_)
 ·exfalso;simp [aj] at g;omega
 refine ⟨⟨rfl,by omega,by omega,by omega⟩,?_⟩
 have h0:(List.replicate (n:Int).toNat [DV.v (.int .u64 0)]).flatten=cU (ez n (l.take 0)):=by
  simp [ez,cU]
 refine aq (fun j st=>∃ e:Nat,st=DY n l (ez n (l.take e)) e/\e<=l.length/\j=l.length - e) l.length (DY n l (ez n (l.take 0)) 0) (ay 2 rfl (by repeat' (first | exact rfl | exact ah rfl | exact yY h0 | refine ⟨_,_,rfl,?_,?_⟩)) rfl rfl rfl (by repeat' (first | exact trivial | exact ah rfl | exact yY h0 | refine ⟨⟨_,rfl,?_⟩,?_⟩))) ⟨0,rfl,by omega,by omega⟩ ?_;rintro j st ⟨e,rfl,he,rfl⟩;refine br (fun hL=>?_) (fun hL=>?_)
 ·have al:e < l.length:=by have:=hL;simp [fQ] at this;exact this
  obtain ⟨p,hp⟩:∃ p,l[e]? = some p:=⟨_,gE al⟩;obtain ⟨p1,p2⟩:=hl p (mG hp);refine ⟨_,⟨by omega,ub hp⟩,?_⟩;refine ⟨⟨by decide,by decide⟩,?_⟩;refine ⟨⟨by decide,by decide⟩,?_⟩;refine br (fun g=>?_) (fun g=>?_)
  ·refine ⟨⟨by decide,by decide⟩,?_⟩;refine ⟨⟨by decide,by decide⟩,?_⟩;refine br (fun g2=>?_) (fun g2=>?_)
   ·exfalso;simp [pickB] at g2;omega
   obtain ⟨x,hx⟩:∃ x,(ez n (l.take e))[p.1]? = some x:=⟨_,gE (by rw [iY];exact p1)⟩;have bE:=yZ hn (l.take e) (fun q hq=>hl q (List.mem_of_mem_take hq));have HN:=bE.2 x (mG hx);have sc:0 + (p.1:Int).toNat * 1=p.1:=by omega
   refine aX mo (by decide +kernel) ?_;refine ⟨⟨by decide,by decide⟩,?_⟩;refine ⟨⟨by omega,by omega⟩,?_⟩;refine ⟨_,(by rw [sc];exact Lb hx:(cU (ez n (l.take e)))[0 + (p.1:Int).toNat * 1]? = some _),?_⟩;refine ⟨⟨by decide,by decide⟩,?_⟩;refine ⟨by omega,?_⟩;refine ⟨⟨by omega,by omega⟩,?_⟩;refine ⟨by rw [sc,nO,iY];omega,?_⟩
   have cm:(cU (ez n (l.take e))).set (0 + (p.1:Int).toNat * 1) (DV.v (.int .u64 (IntKind.u64.wrap ((BitVec.ofInt 64 (x:Int) ||| BitVec.ofInt 64 (IntKind.u64.wrap (1 * 2 ^ (min (p.2:Int).toNat 64)))).toNat:Int))))=cU (ez n (l.take (e + 1))):=by
    rw [sc,show ((p.2:Int).toNat)=p.2 by omega,DW (by omega) HN,Lc,H9 n l e hp];simp only [uc];rw [getD_some hx]
   refine ⟨DY n l (ez n (l.take (e + 1))) (e + 1),(ay 2 rfl (by repeat' (first | exact rfl | exact ah rfl | exact yY cm | exact ak (cA al (by omega)) | refine ⟨_,_,rfl,?_,?_⟩)) rfl rfl rfl (by repeat' (first | exact trivial | exact ah rfl | exact yY cm | exact ak (cA al (by omega)) | refine ⟨⟨_,rfl,?_⟩,?_⟩))),l.length - (e + 1),by omega,e + 1,rfl,by omega,rfl⟩
  ·exfalso;simp [pickB] at g;omega
 ·have aN:e=l.length:=by have:=hL;simp [fQ] at this;omega
  subst aN;rw [List.take_length];refine ⟨_,?_,rfl⟩;have hlen:=iY n l;generalize ez n l=rows at hlen ⊢;refine ⟨_,rfl,_,_,rfl,.inr ⟨1,_,rfl,Nat.zero_le _,rfl,_,_,rfl,.inr (.inr (.inl ⟨0,0,n,cU rows,by rw [jS,hlen],Nat.zero_le _,rfl,?_,?_,?_⟩)),rfl⟩,_,_,rfl,rfl,rfl⟩
  ·rw [oV,jS,Nat.mul_one,List.drop_zero,List.take_of_length_le (by rw [nO];omega)]
  ·intro x hx;simp only [dU,List.mem_map] at hx;obtain ⟨y,_,rfl⟩:=hx;rfl
  ·intro x hx;rw [oV] at hx;simp only [cU,List.mem_map] at hx;obtain ⟨y,_,rfl⟩:=hx;exact .inl ⟨_,rfl⟩
def ie (rows:List Nat) (k:Nat):List Nat:=rows.set k (rows.getD k 0 ||| 2 ^ k)
def nu (k:Nat) (rows:List Nat) (a:Nat):List Nat:=if aM rows a k then rows.set a (rows.getD a 0 ||| rows.getD k 0) else rows
def eN (rows:List Nat) (k e:Nat):List Nat:=(List.range e).foldl (nu k) (ie rows k)
def closeR (rows:List Nat) (e:Nat):List Nat:=(List.range e).foldl (fun r k=>eN r k r.length) rows
theorem Ld {rows:List Nat} {i x:Nat} (h:dB rows) (hx:x < 18446744073709551616):dB (rows.set i x):=by
 refine ⟨by rw [List.length_set];exact h.1,fun y hy=>?_⟩;rcases List.mem_or_eq_of_mem_set hy with hy | rfl
 ·exact h.2 y hy
 ·exact hx
theorem kR {rows:List Nat} (h:dB rows) (i:Nat):rows.getD i 0 < 18446744073709551616:=by
 rw [List.getD_eq_getElem?_getD]
 cases hx:rows[i]? with
 | none=>simp
 | some x=>exact h.2 x (mG hx)
theorem Le {rows:List Nat} {k:Nat} (h:dB rows) (hk:k < 64):dB (ie rows k):=
 Ld h (Nat.or_lt_two_pow (n:=64) (kR h k) (Nat.pow_lt_pow_right (by decide) hk))
theorem Ib (rows:List Nat) (k:Nat):(ie rows k).length=rows.length:=by simp [ie]
theorem Lf {rows:List Nat} {k a:Nat} (h:dB rows):dB (nu k rows a):=by
 unfold nu;split
 ·exact Ld h (Nat.or_lt_two_pow (n:=64) (kR h a) (kR h k))
 ·exact h
theorem Ic (rows:List Nat) (k a:Nat):(nu k rows a).length=rows.length:=by
 unfold nu;split<;>simp
theorem kS (rows:List Nat) (k e:Nat):eN rows k (e + 1)=nu k (eN rows k e) e:=by simp [eN,List.range_succ]
theorem mJ (rows:List Nat) (k:Nat):∀ e,(eN rows k e).length=rows.length
 | 0=>by simp [eN,Ib]
 | e + 1=>by rw [kS,Ic,mJ]
theorem ue {rows:List Nat} {k:Nat} (h:dB rows) (hk:k < 64):∀ e,dB (eN rows k e)
 | 0=>by simpa [eN] using Le h hk
 | e + 1=>by rw [kS];exact Lf (ue h hk e)
theorem jD (rows:List Nat) (e:Nat):closeR rows (e + 1)=eN (closeR rows e) e (closeR rows e).length:=by simp [closeR,List.range_succ]
theorem eG (rows:List Nat):∀ e,(closeR rows e).length=rows.length
 | 0=>by simp [closeR]
 | e + 1=>by rw [jD,mJ,eG]
theorem j7 {rows:List Nat} (h:dB rows):∀ e,e<=64->dB (closeR rows e)
 | 0,_=>by simpa [closeR] using h
 | e + 1,he=>by rw [jD];exact ue (j7 h e (by omega)) (by omega) _
def spU (m:Nat):List DV:=(List.replicate m (vL [Value.int .u64 0])).flatten
theorem uf {n m:Nat} {tk:List TkE}:∀ l:List DV,(∀ x∈l,∃ y,x = .v y)->WeL n m tk l l
 | [],_=>rfl
 | b :: r,h=>by
  obtain ⟨y,rfl⟩:=h b (by simp);exact ⟨_,_,rfl,ah rfl,uf r (fun x hx=>h x (by simp [hx]))⟩
theorem jT {n m:Nat} {tk:List TkE} {l:List DV} {ds:List Nat} {k:Nat} (h:l=cU ds ++ spU k):WeL n m tk l (cU ds ++ spU k):=by
 rw [h];refine uf _ fun x hx=>?_;rcases List.mem_append.1 hx with hx | hx
 ·simp only [cU,List.mem_map] at hx;obtain ⟨y,_,rfl⟩:=hx;exact ⟨_,rfl⟩
 ·simp only [spU,List.mem_flatten,List.mem_replicate] at hx;obtain ⟨y,⟨_,rfl⟩,hx⟩:=hx;simp [vL] at hx;exact ⟨_,hx⟩
theorem y4 {r:List Nat} {k i x:Nat} (h:r[i]? = some x):(cU r ++ spU k)[0 + (i:Int).toNat * 1]? = some (DV.v (.int .u64 (x:Int))):=by
 rw [show 0 + (i:Int).toNat * 1=i by omega,List.getElem?_append_left (by rw [nO];exact (gS h).1)];exact Lb h
theorem Lg {r:List Nat} {k i x:Nat} (h:i < r.length):(cU r ++ spU k).set (0 + (i:Int).toNat * 1) (DV.v (.int .u64 (x:Int)))=cU (r.set i x) ++ spU k:=by
 rw [show 0 + (i:Int).toNat * 1=i by omega,List.set_append_left _ _ (by rw [nO];exact h),Lc]
theorem Lh {r:List Nat} {k i:Nat} (h:i < r.length):0 + (i:Int).toNat * 1 + 1<=(cU r ++ spU k).length:=by
 rw [List.length_append,nO];omega
abbrev Si (rows:List Nat) (cap:Nat) (r:List Nat) (e:Nat):St:=
 ⟨[(3,⟨[],.loc 1 0⟩),(19,⟨[],.v (.int .i64 (dU rows).length)⟩),(20,⟨[],.v (.int .i64 e)⟩)],[cU r ++ spU (cap - (dU rows).length),[.ms 0 1 0 (dU rows).length cap]],[]⟩
abbrev Gx (rows:List Nat) (cap:Nat) (r:List Nat) (e f:Nat):St:=
 ⟨[(3,⟨[],.loc 1 0⟩),(4,⟨[],.v (.int .i64 e)⟩),(19,⟨[],.v (.int .i64 (dU rows).length)⟩),(20,⟨[],.v (.int .i64 e)⟩),(38,⟨[],.v (.int .i64 (dU rows).length)⟩),(39,⟨[],.v (.int .i64 f)⟩)],[cU r ++ spU (cap - (dU rows).length),[.ms 0 1 0 (dU rows).length cap]],[]⟩
theorem nP {l:List Nat} {i:Nat} (h:i < l.length):l[i]? = some (l.getD i 0):=ql h
theorem rD (rows:List Nat) (hr:dB rows) (h0:rows ≠ []):EvP Tryz.prog 100 [ly rows] (ly (closeR rows rows.length)):=by
 have hr1:=hr.1;have hN:=jS rows;have jr:0 < rows.length:=List.length_pos_iff.2 h0;refine yE (s:=false) (bt:=[]) (mu:=[12]) (hbt:=fun p hp=>by cases hp) (fr:=false) (P:=Tryz.prog) tt tt_ok 5000 72 [.tmp 2] Tryz.func100 rfl Tryz.ntmps100 rfl (nL rfl) (fun E9 w9 hn9 hm9=>?_);refine ⟨⟨by intro h;exact h0 (by simpa [dU] using h),by rw [jS];simp [maxLen];omega,by rw [jS];omega⟩,fun cap Hy=>?_⟩
 have fF:(dU rows).flatten.append (List.replicate (cap - (dU rows).length) (vL [Value.int .u64 0])).flatten=cU (closeR rows 0) ++ spU (cap - (dU rows).length):=by
  show (dU rows).flatten ++ _=_;rw [oV];rfl
 refine aq (fun j st=>∃ e:Nat,st=Si rows cap (closeR rows e) e/\e<=rows.length/\j=rows.length - e) rows.length (Si rows cap (closeR rows 0) 0) (ay 2 rfl (by repeat' (first | exact rfl | exact ah rfl | exact jT fF | refine ⟨_,_,rfl,?_,?_⟩)) rfl rfl rfl (by repeat' (first | exact trivial | exact ah rfl | exact jT fF | refine ⟨⟨_,rfl,?_⟩,?_⟩))) ⟨0,rfl,by omega,by omega⟩ ?_;rintro j st ⟨e,rfl,he,rfl⟩;have bE:=j7 hr e (by omega);have hlen:=eG rows e;have Qx:=jD rows e;generalize hce:closeR rows e=r at bE hlen Qx ⊢;refine br (fun hL=>?_) (fun hL=>?_)
 ·have al:e < rows.length:=by have:=hL;simp [hN] at this;exact this
  have hx:=nP (l:=r) (i:=e) (by omega);have WU:=DW (x:=r.getD e 0) (b:=e) (by omega) (kR bE e);refine aX mo (by decide +kernel) ?_;refine ⟨⟨by omega,by omega⟩,?_⟩;refine ⟨_,y4 hx,?_⟩;refine ⟨by omega,?_⟩;refine ⟨⟨by omega,by omega⟩,?_⟩;refine ⟨Lh (by omega),?_⟩
  have gP:(cU r ++ spU (cap - (dU rows).length)).set (0 + (e:Int).toNat * 1) (DV.v (.int .u64 (IntKind.u64.wrap ((BitVec.ofInt 64 ((r.getD e 0:Nat):Int) ||| BitVec.ofInt 64 (IntKind.u64.wrap (1 * 2 ^ (min (e:Int).toNat 64)))).toNat:Int))))=cU (eN r e 0) ++ spU (cap - (dU rows).length):=by
   rw [show min (e:Int).toNat 64=min e 64 by omega,WU,Lg (by omega)];rfl
  refine aq (fun j st=>∃ f:Nat,st=Gx rows cap (eN r e f) e f/\f<=rows.length/\j=rows.length - f) rows.length (Gx rows cap (eN r e 0) e 0) (ay 2 rfl (by repeat' (first | exact rfl | exact ah rfl | exact jT gP | refine ⟨_,_,rfl,?_,?_⟩)) rfl rfl rfl (by repeat' (first | exact trivial | exact ah rfl | exact jT gP | refine ⟨⟨_,rfl,?_⟩,?_⟩))) ⟨0,rfl,by omega,by omega⟩ ?_;rintro j st ⟨f,rfl,hf,rfl⟩;have YE:=ue (k:=e) bE (by omega) f;have jt:=mJ r e f;have WQ:=kS r e f;have cX:e < (eN r e f).length:=by rw [jt];omega
  refine br (fun hL=>?_) (fun hL=>?_)
  ·have Ak:f < rows.length:=by have:=hL;simp [hN] at this;exact this
   have YF:f < (eN r e f).length:=by rw [jt];omega
   generalize eN r e f=q at YE jt WQ cX YF ⊢;have hy:=nP YF;have hz:=nP cX;have Li:=Gv (x:=q.getD f 0) (b:=e) (by omega) (kR YE f);have WU:=Oz (kR YE f) (kR YE e);refine ⟨⟨by omega,by omega⟩,?_⟩;refine ⟨_,y4 hy,?_⟩;refine ⟨by omega,?_⟩;refine br (fun g=>?_) (fun g=>?_)
   ·have g:aM q f e=true:=Li.symm.trans g;refine aX mo (by decide +kernel) ?_;refine ⟨⟨by omega,by omega⟩,?_⟩;refine ⟨_,y4 hy,?_⟩;refine ⟨⟨by omega,by omega⟩,?_⟩;refine ⟨_,y4 hz,?_⟩;refine ⟨⟨by omega,by omega⟩,?_⟩;refine ⟨Lh YF,?_⟩
    have fj:(cU q ++ spU (cap - (dU rows).length)).set (0 + (f:Int).toNat * 1) (DV.v (.int .u64 (IntKind.u64.wrap ((BitVec.ofInt 64 ((q.getD f 0:Nat):Int) ||| BitVec.ofInt 64 ((q.getD e 0:Nat):Int)).toNat:Int))))=cU (eN r e (f + 1)) ++ spU (cap - (dU rows).length):=by
     rw [WU,Lg YF,WQ,nu,if_pos g]
    exact ⟨Gx rows cap (eN r e (f + 1)) e (f + 1),(ay 2 rfl (by repeat' (first | exact rfl | exact ah rfl | exact jT fj | exact ak (cA Ak (by omega)) | refine ⟨_,_,rfl,?_,?_⟩)) rfl rfl rfl (by repeat' (first | exact trivial | exact ah rfl | exact jT fj | exact ak (cA Ak (by omega)) | refine ⟨⟨_,rfl,?_⟩,?_⟩))),rows.length - (f + 1),by omega,f + 1,rfl,by omega,rfl⟩
   ·have g:aM q f e=false:=Li.symm.trans g
    have fj:cU q ++ spU (cap - (dU rows).length)=cU (eN r e (f + 1)) ++ spU (cap - (dU rows).length):=by
     rw [WQ,nu,if_neg (by rw [g];decide)]
    exact ⟨Gx rows cap (eN r e (f + 1)) e (f + 1),(ay 2 rfl (by repeat' (first | exact rfl | exact ah rfl | exact jT fj | exact ak (cA Ak (by omega)) | refine ⟨_,_,rfl,?_,?_⟩)) rfl rfl rfl (by repeat' (first | exact trivial | exact ah rfl | exact jT fj | exact ak (cA Ak (by omega)) | refine ⟨⟨_,rfl,?_⟩,?_⟩))),rows.length - (f + 1),by omega,f + 1,rfl,by omega,rfl⟩
  ·have aN:f=rows.length:=by have:=hL;simp [hN] at this;omega
   subst aN
   have Jw:cU (eN r e rows.length) ++ spU (cap - (dU rows).length)=cU (closeR rows (e + 1)) ++ spU (cap - (dU rows).length):=by
    rw [Qx,hlen]
   exact ⟨Si rows cap (closeR rows (e + 1)) (e + 1),(ay 2 rfl (by repeat' (first | exact rfl | exact ah rfl | exact jT Jw | exact ak (cA al (by omega)) | refine ⟨_,_,rfl,?_,?_⟩)) rfl rfl rfl (by repeat' (first | exact trivial | exact ah rfl | exact jT Jw | exact ak (cA al (by omega)) | refine ⟨⟨_,rfl,?_⟩,?_⟩))),rows.length - (e + 1),by omega,e + 1,rfl,by omega,rfl⟩
 ·have aN:e=rows.length:=by have:=hL;simp [hN] at this;omega
  subst aN;refine ⟨_,?_,rfl⟩;rw [hce];refine .inr ⟨1,_,rfl,Nat.zero_le _,rfl,_,_,rfl,.inr (.inr (.inl ⟨0,0,cap,cU r ++ spU (cap - (dU rows).length),by rw [jS r,hlen,hN],Nat.zero_le _,rfl,?_,?_,?_⟩)),rfl⟩
  ·rw [oV,jS,Nat.mul_one,List.drop_zero,List.take_append_of_le_length (by rw [nO];omega),List.take_of_length_le (by rw [nO];omega)]
  ·intro x hx;simp only [dU,List.mem_map] at hx;obtain ⟨y,_,rfl⟩:=hx;rfl
  ·intro x hx;rw [oV] at hx;simp only [cU,List.mem_map] at hx;obtain ⟨y,_,rfl⟩:=hx;exact .inl ⟨_,rfl⟩
theorem j8 {a b c d:Nat} (ha:a < 256) (hb:b < 256):(a + 256 * c) &&& (b + 256 * d)=(a &&& b) + 256 * (c &&& d):=by
 have h1:a &&& b < 256:=Nat.and_lt_two_pow (n:=8) a hb;apply Nat.eq_of_testBit_eq;intro i
 have e (x y:Nat) (hx:x < 256):(x + 256 * y).testBit i=if i < 8 then x.testBit i else y.testBit (i - 8):=by
  rw [show x + 256 * y=2 ^ 8 * y + x by omega,Nat.testBit_two_pow_mul_add _ (by simpa using hx)]
 rw [Nat.testBit_and,e a c ha,e b d hb,e _ _ h1];split<;>simp [Nat.testBit_and]
def b1 (x:Nat):Nat:=((x / 2) &&& 85) + (x &&& 85)
def b2 (x:Nat):Nat:=((x / 4) &&& 51) + (x &&& 51)
def b3 (x:Nat):Nat:=((x / 16) + x) &&& 15
def pop8 (x:Nat):Nat:=b3 (b2 (b1 x))
theorem Gy:∀ x:Fin 256,b1 x.val < 256/\b2 (b1 x.val) < 120/\pop8 x.val<=8/\pop8 x.val=(((((((x.val.testBit 0).toNat + (x.val.testBit 1).toNat) + (x.val.testBit 2).toNat) + (x.val.testBit 3).toNat) + (x.val.testBit 4).toNat) + (x.val.testBit 5).toNat) + (x.val.testBit 6).toNat) + (x.val.testBit 7).toNat:=by decide +kernel
def valB:List Nat->Nat
 | []=>0
 | a :: r=>a + 256 * valB r
def rep (m:Nat):Nat->Nat
 | 0=>0
 | n + 1=>m + 256 * rep m n
theorem m1:∀ (a:Fin 256) (c:Fin 2),(a.val / 2 + 128 * c.val) &&& 85=(a.val / 2) &&& 85:=by decide +kernel
theorem m2:∀ (a:Fin 256) (c:Fin 4),(a.val / 4 + 64 * c.val) &&& 51=(a.val / 4) &&& 51:=by decide +kernel
theorem qd:∀ l:List Nat,(∀ a∈l,a < 256)->((valB l / 2) &&& rep 85 l.length) + (valB l &&& rep 85 l.length)=valB (l.map b1)
 | [],_=>rfl
 | a :: r,h=>by
  have ih:=qd r (fun x hx=>h x (by simp [hx]));have ha:=h a (by simp);have e1:(a + 256 * valB r) / 2=(a / 2 + 128 * (valB r % 2)) + 256 * (valB r / 2):=by omega
  have hm:=m1 ⟨a,ha⟩ ⟨valB r % 2,by omega⟩;simp only at hm;simp only [valB,List.length_cons,rep,List.map_cons,b1];rw [e1,j8 (by omega) (by decide),j8 ha (by decide),hm,<- ih];omega
theorem HJ:∀ l:List Nat,(∀ a∈l,a < 256)->((valB l / 4) &&& rep 51 l.length) + (valB l &&& rep 51 l.length)=valB (l.map b2)
 | [],_=>rfl
 | a :: r,h=>by
  have ih:=HJ r (fun x hx=>h x (by simp [hx]));have ha:=h a (by simp);have e1:(a + 256 * valB r) / 4=(a / 4 + 64 * (valB r % 4)) + 256 * (valB r / 4):=by omega
  have hm:=m2 ⟨a,ha⟩ ⟨valB r % 4,by omega⟩;simp only at hm;simp only [valB,List.length_cons,rep,List.map_cons,b2];rw [e1,j8 (by omega) (by decide),j8 ha (by decide),hm,<- ih];omega
theorem WV (x y:Nat):(x + 16 * y) &&& 15=x &&& 15:=by
 have h (z:Nat):z &&& 15=z % 16:=Nat.and_two_pow_sub_one_eq_mod z 4;rw [h,h];omega
def Bt (a:Nat):Prop:=a < 70/\a % 16<=4
theorem st3:∀ l:List Nat,(∀ a∈l,Bt a)->((valB l / 16) + valB l) &&& rep 15 l.length=valB (l.map b3)
 | [],_=>rfl
 | a :: r,h=>by
  have ih:=st3 r (fun x hx=>h x (by simp [hx]));have ha:=h a (by simp)
  have hc:valB r % 16<=4:=by
   cases r with
   | nil=>simp [valB]
   | cons b s=>
    have:=(h b (by simp)).2;simp only [valB];omega
  unfold Bt at ha;have e1:(a + 256 * valB r) / 16 + (a + 256 * valB r)=((a / 16 + a) + 16 * (valB r % 16)) + 256 * (valB r / 16 + valB r):=by omega
  simp only [valB,List.length_cons,rep,List.map_cons,b3];rw [e1,j8 (by omega) (by decide),WV,ih]
def dR (x:Nat):List Nat:=[x % 256,x / 256 % 256,x / 65536 % 256,x / 16777216 % 256,x / 4294967296 % 256,x / 1099511627776 % 256,x / 281474976710656 % 256,x / 72057594037927936 % 256]
theorem DZ {x:Nat} (h:x < 18446744073709551616):valB (dR x)=x:=by
 simp only [dR,valB];omega
theorem Ie (x:Nat):∀ a∈dR x,a < 256:=by
 intro a ha;simp only [dR,List.mem_cons,List.not_mem_nil,or_false] at ha;omega
def D0 (x:Nat):Nat:=((dR x).map pop8).sum
theorem Bu:∀ a:Fin 256,b1 a.val < 256/\b2 (b1 a.val) < 70/\b2 (b1 a.val) % 16<=4:=by decide +kernel
theorem y5 {x m:Nat} (hx:x < 18446744073709551616) (hm:m < 18446744073709551616) :
  IntKind.u64.wrap ((BitVec.ofInt 64 (x:Int) &&& BitVec.ofInt 64 (m:Int)).toNat:Int)=((x &&& m:Nat):Int):=by
 rw [gD,gD,BitVec.toNat_and,BitVec.toNat_ofNat,BitVec.toNat_ofNat,Nat.mod_eq_of_lt hx,Nat.mod_eq_of_lt hm];have h3:x &&& m < 18446744073709551616:=Nat.and_lt_two_pow (n:=64) x hm;simp only [IntKind.wrap_u64];omega
theorem D1 {x:Nat} {k:Int} (hk:k.toNat < 64):(x:Int).fdiv (2 ^ min k.toNat IntKind.u64.bits)=((x / 2 ^ k.toNat:Nat):Int):=by
 rw [show min k.toNat IntKind.u64.bits=k.toNat from Nat.min_eq_left (by show k.toNat<=64;omega),Bs]
theorem y6 {y:Nat} (h:y < 18446744073709551616):IntKind.u64.wrap (y:Int)=(y:Int):=by
 simp only [IntKind.wrap_u64];omega
theorem WW {k M:Int} {m x y:Nat} (hk:k.toNat < 64) (hx:x < 18446744073709551616) (hM:M=(m:Int)) (hm:m < 18446744073709551616) (hy:((x / 2 ^ k.toNat) &&& m) + (x &&& m)=y) (lr:y < 18446744073709551616) :
  IntKind.u64.wrap (IntKind.u64.wrap ((BitVec.ofInt IntKind.u64.bits ((x:Int).fdiv (2 ^ min k.toNat IntKind.u64.bits)) &&& BitVec.ofInt IntKind.u64.bits M).toNat:Int) + IntKind.u64.wrap ((BitVec.ofInt IntKind.u64.bits (x:Int) &&& BitVec.ofInt IntKind.u64.bits M).toNat:Int))=(y:Int):=by
 subst hM;have h1:x / 2 ^ k.toNat < 18446744073709551616:=Nat.lt_of_le_of_lt (Nat.div_le_self _ _) hx;have e1:IntKind.u64.wrap ((BitVec.ofInt IntKind.u64.bits ((x / 2 ^ k.toNat:Nat):Int) &&& BitVec.ofInt IntKind.u64.bits (m:Int)).toNat:Int)=_:=y5 h1 hm;have e2:IntKind.u64.wrap ((BitVec.ofInt IntKind.u64.bits (x:Int) &&& BitVec.ofInt IntKind.u64.bits (m:Int)).toNat:Int)=_:=y5 hx hm;rw [D1 hk,e1,e2,<- Int.natCast_add,hy,y6 lr]
theorem stgB {k M:Int} {m x y:Nat} (hk:k.toNat < 64) (hs:x / 2 ^ k.toNat + x < 18446744073709551616) (hM:M=(m:Int)) (hm:m < 18446744073709551616) (hy:((x / 2 ^ k.toNat) + x) &&& m=y) :
  IntKind.u64.wrap ((BitVec.ofInt IntKind.u64.bits (IntKind.u64.wrap ((x:Int).fdiv (2 ^ min k.toNat IntKind.u64.bits) + (x:Int))) &&& BitVec.ofInt IntKind.u64.bits M).toNat:Int)=(y:Int):=by
 subst hM;have e2:IntKind.u64.wrap ((BitVec.ofInt IntKind.u64.bits ((x / 2 ^ k.toNat + x:Nat):Int) &&& BitVec.ofInt IntKind.u64.bits (m:Int)).toNat:Int)=_:=y5 hs hm;rw [D1 hk,<- Int.natCast_add,y6 hs,e2,hy]
theorem Sj {k:Int} {x:Nat} (hk:k.toNat < 64) (hs:x + x / 2 ^ k.toNat < 18446744073709551616) :
  IntKind.u64.wrap ((x:Int) + (x:Int).fdiv (2 ^ min k.toNat IntKind.u64.bits))=((x + x / 2 ^ k.toNat:Nat):Int):=by
 rw [D1 hk,<- Int.natCast_add,y6 hs]
theorem Gz:∀ l:List Nat,(∀ a∈l,a < 256)->valB l < 256 ^ l.length
 | [],_=>by simp [valB]
 | a :: r,h=>by
  have ih:=Gz r (fun x hx=>h x (by simp [hx]));have ha:=h a (by simp);simp only [valB,List.length_cons,Nat.pow_succ];omega
theorem Lj {x:Nat} (hx:x < 18446744073709551616):∃ y1 y2 y3:Nat,((x / 2) &&& 6148914691236517205) + (x &&& 6148914691236517205)=y1/\y1 < 18446744073709551616/\((y1 / 4) &&& 3689348814741910323) + (y1 &&& 3689348814741910323)=y2/\y2 / 16 + y2 < 18446744073709551616/\y2 < 18446744073709551616 /\
  ((y2 / 16) + y2) &&& 1085102592571150095=y3/\∃ p0 p1 p2 p3 p4 p5 p6 p7:Nat,y3=valB [p0,p1,p2,p3,p4,p5,p6,p7]/\(p0<=8/\p1<=8/\p2<=8/\p3<=8/\p4<=8/\p5<=8/\p6<=8/\p7<=8)/\D0 x=p0 + p1 + p2 + p3 + p4 + p5 + p6 + p7:=by
 have hl:=Ie x;have s1:=qd (dR x) hl;rw [DZ hx] at s1
 have l1:∀ a∈(dR x).map b1,a < 256:=by
  intro a ha;obtain ⟨b,hb,rfl⟩:=List.mem_map.1 ha;exact (Bu ⟨b,hl b hb⟩).1
 have l2:∀ a∈((dR x).map b1).map b2,Bt a:=by
  intro a ha;obtain ⟨c,hc,rfl⟩:=List.mem_map.1 ha;obtain ⟨b,hb,rfl⟩:=List.mem_map.1 hc;exact (Bu ⟨b,hl b hb⟩).2
 have s2:=HJ ((dR x).map b1) l1;have s3:=st3 (((dR x).map b1).map b2) l2
 have v1:valB ((dR x).map b1) < 18446744073709551616:=by
  have:=Gz _ l1;rw [List.length_map,show (dR x).length=8 from rfl] at this;simpa using this
 rw [show rep 85 (dR x).length=6148914691236517205 from (by decide:rep 85 8=_)] at s1;rw [List.length_map,show rep 51 (dR x).length=3689348814741910323 from (by decide:rep 51 8=_)] at s2;rw [List.length_map,List.length_map,show rep 15 (dR x).length=1085102592571150095 from (by decide:rep 15 8=_)] at s3;refine ⟨_,_,_,s1,v1,s2,?_,?_,s3,_,_,_,_,_,_,_,_,rfl,?_,?_⟩
 ·have:=l2;simp only [dR,List.map_cons,List.map_nil,List.mem_cons,List.not_mem_nil,or_false,forall_eq_or_imp,forall_eq,Bt,valB] at this ⊢;omega
 ·have:=l2;simp only [dR,List.map_cons,List.map_nil,List.mem_cons,List.not_mem_nil,or_false,forall_eq_or_imp,forall_eq,Bt,valB] at this ⊢;omega
 ·have h (b:Nat) (hb:b < 256):=(Gy ⟨b,hb⟩).2.2.1;exact ⟨h _ (by omega),h _ (by omega),h _ (by omega),h _ (by omega),h _ (by omega),h _ (by omega),h _ (by omega),h _ (by omega)⟩
 ·simp only [D0,dR,List.map_cons,List.map_nil,List.sum_cons,List.sum_nil,pop8];omega
theorem dr1 {a r:Nat} (h:a < 256):(a + 256 * r) / 256=r:=by omega
theorem dr2 {a b r:Nat} (h:a < 256) (h2:b < 256):(a + 256 * (b + 256 * r)) / 65536=r:=by omega
theorem dr4 {a b c d r:Nat} (h:a < 256) (h2:b < 256) (h3:c < 256) (h4:d < 256):(a + 256 * (b + 256 * (c + 256 * (d + 256 * r)))) / 4294967296=r:=by omega
theorem Lk {p0 p1 p2 p3 p4 p5 p6 p7:Nat} (hp:p0<=8/\p1<=8/\p2<=8/\p3<=8/\p4<=8/\p5<=8/\p6<=8/\p7<=8):∃ z1 z2 z3:Nat,
  (p0 + 256 * (p1 + 256 * (p2 + 256 * (p3 + 256 * (p4 + 256 * (p5 + 256 * (p6 + 256 * (p7 + 256 * 0)))))))) + (p0 + 256 * (p1 + 256 * (p2 + 256 * (p3 + 256 * (p4 + 256 * (p5 + 256 * (p6 + 256 * (p7 + 256 * 0)))))))) / 256=z1/\z1 < 18446744073709551616 /\
  z1 + z1 / 65536=z2/\z2 < 18446744073709551616/\z2 + z2 / 4294967296=z3/\z3 < 18446744073709551616/\z3 % 128=p0 + p1 + p2 + p3 + p4 + p5 + p6 + p7:=by
 refine ⟨(p0 + p1) + 256 * ((p1 + p2) + 256 * ((p2 + p3) + 256 * ((p3 + p4) + 256 * ((p4 + p5) + 256 * ((p5 + p6) + 256 * ((p6 + p7) + 256 * p7)))))),
  (p0 + p1 + p2 + p3) + 256 * ((p1 + p2 + p3 + p4) + 256 * ((p2 + p3 + p4 + p5) + 256 * ((p3 + p4 + p5 + p6) + 256 * ((p4 + p5 + p6 + p7) + 256 * ((p5 + p6 + p7) + 256 * ((p6 + p7) + 256 * p7)))))),
  (p0 + p1 + p2 + p3 + p4 + p5 + p6 + p7) + 256 * ((p1 + p2 + p3 + p4 + p5 + p6 + p7) + 256 * ((p2 + p3 + p4 + p5 + p6 + p7) + 256 * ((p3 + p4 + p5 + p6 + p7) + 256 * ((p4 + p5 + p6 + p7) + 256 * ((p5 + p6 + p7) + 256 * ((p6 + p7) + 256 * p7)))))),?_,by omega,?_,by omega,?_,by omega,by omega⟩
 ·rw [dr1 (by omega)];omega
 ·rw [dr2 (by omega) (by omega)];omega
 ·rw [dr4 (by omega) (by omega) (by omega) (by omega)];omega
theorem Ll {z:Nat} (h:z < 18446744073709551616):IntKind.i64.wrap ((BitVec.ofInt IntKind.i64.bits (IntKind.i64.wrap (z:Int)) &&& BitVec.ofInt IntKind.i64.bits 127).toNat:Int)=((z % 128:Nat):Int):=by
 have e1:BitVec.ofInt 64 (IntKind.i64.wrap (z:Int))=BitVec.ofNat 64 z:=by
  apply BitVec.eq_of_toNat_eq;rw [BitVec.toNat_ofInt,BitVec.toNat_ofNat,IntKind.wrap_i64];omega
 have e2:(BitVec.ofInt 64 (IntKind.i64.wrap (z:Int)) &&& BitVec.ofInt 64 127).toNat=z % 128:=by
  rw [e1,show BitVec.ofInt 64 127=BitVec.ofNat 64 127 by decide,BitVec.toNat_and,BitVec.toNat_ofNat,BitVec.toNat_ofNat,Nat.mod_eq_of_lt h];exact Nat.and_two_pow_sub_one_eq_mod z 7
 have e3:(BitVec.ofInt IntKind.i64.bits (IntKind.i64.wrap (z:Int)) &&& BitVec.ofInt IntKind.i64.bits 127).toNat=z % 128:=e2;rw [e3,IntKind.wrap_i64];omega
theorem Ig (x:Nat) (hx:x < 18446744073709551616):EvP Tryz.prog 164 [.v (.int .u64 x)] (.v (.int .i64 (D0 x:Nat))):=by
 obtain ⟨y1,y2,y3,h1,TS,h2,h2s,ZG,h3,p0,p1,p2,p3,p4,p5,p6,p7,h4,hp,h5⟩:=Lj hx;rw [h5];simp only [valB] at h4;refine ev_go (P:=Tryz.prog) tt tt_ok 5000 35 [.tmp 2] Tryz.func164 rfl Tryz.ntmps164 rfl (nL rfl) (fun E9 w9 hn9 hm9=>?_);refine ⟨by decide,?_⟩;refine ⟨by decide,?_⟩;refine ⟨by decide,?_⟩;refine ⟨by decide,?_⟩;refine ⟨by decide,?_⟩;refine ⟨by decide,?_⟩;refine (congrArg (fun z=>DV.v (.int .i64 z)) ?_:_=_);rw [WW (k:=1) (M:=6148914691236517205) (by decide) hx rfl (by decide) h1 TS,WW (k:=2) (M:=3689348814741910323) (by decide) TS rfl (by decide) h2 ZG,stgB (k:=4) (M:=1085102592571150095) (by decide) h2s rfl (by decide) h3];obtain ⟨z1,z2,z3,g1,g1b,g2,g2b,g3,g3b,g4⟩:=Lk hp;rw [<- h4] at g1;have k1:y3 + y3 / 2 ^ (8:Int).toNat=z1:=g1;rw [Sj (k:=8) (by decide) (by rw [k1];exact g1b),k1];have k2:z1 + z1 / 2 ^ (16:Int).toNat=z2:=g2;rw [Sj (k:=16) (by decide) (by rw [k2];exact g2b),k2];have k3:z2 + z2 / 2 ^ (32:Int).toNat=z3:=g3;rw [Sj (k:=32) (by decide) (by rw [k3];exact g3b),k3,<- g4];exact Ll g3b
theorem gT (x k i:Nat) (hi:i < 8):(x / 2 ^ (8 * k) % 256).testBit i=x.testBit (8 * k + i):=by
 rw [show (256:Nat)=2 ^ 8 by decide,Nat.testBit_mod_two_pow,decide_eq_true hi,Bool.true_and,Nat.testBit_div_two_pow,Nat.add_comm]
theorem gU (x k:Nat):pop8 (x / 2 ^ (8 * k) % 256)=(((((((x.testBit (8 * k + 0)).toNat + (x.testBit (8 * k + 1)).toNat) + (x.testBit (8 * k + 2)).toNat) + (x.testBit (8 * k + 3)).toNat) + (x.testBit (8 * k + 4)).toNat) + (x.testBit (8 * k + 5)).toNat) + (x.testBit (8 * k + 6)).toNat) + (x.testBit (8 * k + 7)).toNat:=by
 have h:=(Gy ⟨x / 2 ^ (8 * k) % 256,Nat.mod_lt _ (by decide)⟩).2.2.2;simp only at h;rw [h,gT x k 0 (by decide),gT x k 1 (by decide),gT x k 2 (by decide),gT x k 3 (by decide),gT x k 4 (by decide),gT x k 5 (by decide),gT x k 6 (by decide),gT x k 7 (by decide)]
def sumB (x:Nat):Nat->Nat
 | 0=>0
 | n + 1=>sumB x n + (x.testBit n).toNat
theorem Lm (x:Nat):D0 x=sumB x 64:=by
 have h0:=gU x 0;have h1:=gU x 1;have h2:=gU x 2;have h3:=gU x 3;have h4:=gU x 4;have h5:=gU x 5;have h6:=gU x 6;have h7:=gU x 7;simp only [Nat.mul_zero,Nat.pow_zero,Nat.div_one] at h0;simp only [D0,dR,List.map_cons,List.map_nil,List.sum_cons,List.sum_nil,sumB];rw [h0]
 rw [show x / 256=x / 2 ^ (8 * 1) by rfl,h1,show x / 65536=x / 2 ^ (8 * 2) by rfl,h2,show x / 16777216=x / 2 ^ (8 * 3) by rfl,h3,show x / 4294967296=x / 2 ^ (8 * 4) by rfl,h4,
  show x / 1099511627776=x / 2 ^ (8 * 5) by rfl,h5,show x / 281474976710656=x / 2 ^ (8 * 6) by rfl,h6,show x / 72057594037927936=x / 2 ^ (8 * 7) by rfl,h7]
 simp only [Nat.reduceMul,Nat.reduceAdd];omega
theorem ug (x:Nat):∀ n,0 < sumB x n↔∃ b,b < n/\x.testBit b=true
 | 0=>by simp [sumB]
 | n + 1=>by
  have ih:=ug x n;simp only [sumB];cases h:x.testBit n
  ·simp only [Bool.toNat_false,Nat.add_zero,ih]
   exact ⟨fun ⟨b,hb,hx⟩=>⟨b,by omega,hx⟩,fun ⟨b,hb,hx⟩=>⟨b,by
    rcases Nat.lt_succ_iff_lt_or_eq.1 hb with hb | rfl
    ·exact ⟨hb,hx⟩
    ·rw [h] at hx;cases hx⟩⟩
  ·simp only [Bool.toNat_true];exact ⟨fun _=>⟨n,by omega,h⟩,fun _=>by omega⟩
theorem Bv (x a:Nat) (ha:x.testBit a=true):∀ n,a < n->(1 < sumB x n↔∃ b,b < n/\b≠a/\x.testBit b=true)
 | 0,h=>by omega
 | n + 1,h=>by
  simp only [sumB];by_cases hn:a=n
  ·subst hn;rw [ha,Bool.toNat_true];have:=ug x a;constructor
   ·intro h1;obtain ⟨b,hb,hx⟩:=this.1 (by omega);exact ⟨b,by omega,by omega,hx⟩
   ·rintro ⟨b,hb,aR,hx⟩;have:=this.2 ⟨b,by omega,hx⟩;omega
  ·have ih:=Bv x a ha n (by omega);have hp:=(ug x n).2 ⟨a,by omega,ha⟩;cases hb:x.testBit n
   ·simp only [Bool.toNat_false,Nat.add_zero,ih]
    exact ⟨fun ⟨b,h1,h2,h3⟩=>⟨b,by omega,h2,h3⟩,fun ⟨b,h1,h2,h3⟩=>⟨b,by
     rcases Nat.lt_succ_iff_lt_or_eq.1 h1 with h1 | rfl
     ·exact ⟨h1,h2,h3⟩
     ·rw [hb] at h3;cases h3⟩⟩
   ·simp only [Bool.toNat_true];exact ⟨fun _=>⟨n,by omega,fun e=>hn e.symm,hb⟩,fun _=>by omega⟩
def bG (p:Nat->Bool) (n:Nat):Option Nat:=(List.range n).find? p
theorem cw {p:Nat->Bool} {n e:Nat} (he:e < n) (hp:p e=true) (h:∀ a,a < e->p a=false):bG p n=some e:=by
 unfold bG;rw [List.find?_eq_some_iff_getElem];refine ⟨hp,e,by simpa using he,by simp,fun j hj=>?_⟩;simp [h j hj]
theorem cO {p:Nat->Bool} {n:Nat} (h:∀ a,a < n->p a=false):bG p n=none:=by
 unfold bG;rw [List.find?_eq_none];intro x hx;simp [h x (by simpa using hx)]
theorem dK {p:Nat->Bool} {n e:Nat} (h:bG p n=some e):e < n/\p e=true/\∀ a,a < e->p a=false:=by
 unfold bG at h;rw [List.find?_eq_some_iff_getElem] at h;obtain ⟨h1,i,hi,rfl,h3⟩:=h;refine ⟨by simpa using hi,h1,fun a ha=>?_⟩;have:=h3 a (by simpa using ha);simpa using this
def oX (c:List Nat) (a:Nat):Bool:=decide (1 < D0 (backN c a c.length))
def Ln:Option Nat->DV
 | some a=>.tup [.v (.int .i64 (a:Int)),.v (.bool true)]
 | none=>.tup [.v (.int .i64 0),.v (.bool false)]
abbrev y7 (c:List Nat) (e:Nat):St:=
 ⟨[(4,⟨[],ly c⟩),(9,⟨[],.v (.int .i64 c.length)⟩),(10,⟨[],.v (.int .i64 e)⟩)],[],[]⟩
theorem D2 (rows:List Nat) (hr:dB rows) (h0:rows ≠ []):EvP Tryz.prog 99 [ly rows] (Ln (bG (oX (closeR rows rows.length)) rows.length)):=by
 have hc:=rD rows hr h0;have bE:=j7 hr rows.length hr.1;have hlen:=eG rows rows.length;have hr1:=hr.1;generalize closeR rows rows.length=c at hc bE hlen ⊢;rw [<- hlen];have hl:=xr c;refine ev_go (P:=Tryz.prog) tt tt_ok 5000 20 [.tmp 2,.tmp 3] Tryz.func99 rfl Tryz.ntmps99 rfl (nL rfl) (fun E9 w9 hn9 hm9=>?_);refine call_p PR (hc) ax rfl ?_;refine call_p Ku (hl) ax rfl ?_;refine aq (fun j st=>∃ e:Nat,st=y7 c e/\e<=c.length/\(∀ a,a < e->oX c a=false)/\j=c.length - e) c.length (y7 c 0) (weak_mk ⟨_,rfl⟩ wA rfl rfl rfl wB) ⟨0,rfl,by omega,fun a h=>by omega,by omega⟩ ?_;rintro j st ⟨e,rfl,he,eu,rfl⟩;refine br (fun hL=>?_) (fun hL=>?_)
 ·have al:e < c.length:=by have:=hL;simp at this;exact this
  have Sh:backN c e c.length < 18446744073709551616:=by
   have h1:=tZ c e c.length;have:2 ^ c.length<=2 ^ 64:=Nat.pow_le_pow_right (by decide) (by omega);omega
  refine call_p VE (DX c bE e al) ax rfl ?_;refine call_p VD (Ig _ Sh) ax rfl ?_;refine br (fun g=>?_) (fun g=>?_)
  ·have g:oX c e=true:=by
    simp at g;simp [oX];omega
   rw [cw al g eu];refine ⟨_,?_,rfl⟩;exact ax
  ·have g:oX c e=false:=by
    simp at g;simp [oX];omega
   exact ⟨y7 c (e + 1),(weak_mk ⟨_,rfl⟩ wA rfl rfl rfl (wNB al)),c.length - (e + 1),by omega,e + 1,rfl,by omega,fun a ha=>by
    rcases Nat.lt_succ_iff_lt_or_eq.1 ha with ha | rfl
    ·exact eu a ha
    ·exact g,rfl⟩
 ·have aN:e=c.length:=by have:=hL;simp at this;omega
  subst aN;rw [cO eu];refine ⟨_,?_,rfl⟩;exact ax
theorem ui {rows:List Nat} {i x a b:Nat} (hi:i < rows.length):aM (rows.set i x) a b=if a=i then x.testBit b else aM rows a b:=by
 unfold aM;simp only [List.getD_eq_getElem?_getD];by_cases h:a=i
 ·subst h;rw [List.getElem?_set_self hi,if_pos rfl];all_goals rfl
 ·rw [List.getElem?_set_ne (Ne.symm h),if_neg h]
theorem mK {rows:List Nat} {k a b:Nat} (hk:k < rows.length):aM (ie rows k) a b=(aM rows a b || (decide (a=k) && decide (b=k))):=by
 unfold ie;rw [ui hk];by_cases h:a=k
 ·subst h;rw [if_pos rfl,fO];simp only [decide_true,Bool.true_and];rw [show decide (a=b)=decide (b=a) from by simp only [eq_comm]];rfl
 ·rw [if_neg h];simp [h]
theorem Ih {rows:List Nat} {k i a b:Nat} (hi:i < rows.length):aM (nu k rows i) a b=(aM rows a b || (decide (a=i) && (aM rows a k && aM rows k b))):=by
 unfold nu;by_cases h:aM rows i k=true
 ·rw [if_pos h,ui hi];by_cases ha:a=i
  ·subst ha;rw [if_pos rfl,Nat.testBit_or];simp only [decide_true,Bool.true_and,h];rfl
  ·rw [if_neg ha];simp [ha]
 ·rw [if_neg h];by_cases ha:a=i
  ·subst ha;simp only [Bool.not_eq_true] at h;simp [h]
  ·simp [ha]
theorem xu {rows:List Nat} {k:Nat} (hk:k < rows.length):∀ e,e<=rows.length->∀ a b,aM (eN rows k e) a b=(aM (ie rows k) a b || (decide (a < e) && (aM (ie rows k) a k && aM (ie rows k) k b)))
 | 0,_,a,b=>by simp [eN]
 | e + 1,he,a,b=>by
  have ih:=xu hk e (by omega);rw [kS,Ih (by rw [mJ];omega),ih a b,ih a k,ih k b];have Ad:aM (ie rows k) k k=true:=by rw [mK hk];simp
  generalize aM (ie rows k)=s at *;by_cases h1:a=e
  ·subst h1;simp only [Nat.lt_irrefl,decide_false,Bool.false_and,Bool.or_false,decide_true,Bool.true_and,Nat.lt_succ_self,Ad];cases s a b<;>cases s a k<;>cases s k b<;>simp
  ·by_cases h2:a < e
   ·have:a < e + 1:=by omega
    simp [h1,h2,this]
   ·have:¬ a < e + 1:=by omega
    simp [h1,h2,this]
inductive sG (p:Nat->Nat->Prop):Nat->Nat->Prop
 | refl (a:Nat):sG p a a
 | step {a b c:Nat}:sG p a b->p b c->sG p a c
theorem sG.trans {p:Nat->Nat->Prop} {a b c:Nat} (h1:sG p a b) (h2:sG p b c):sG p a c:=by
 induction h2 with
 | refl=>exact h1
 | step _ h ih=>exact .step ih h
theorem sG.mono {p q:Nat->Nat->Prop} (h:∀ a b,p a b->sG q a b) {a b:Nat} (h1:sG p a b):sG q a b:=by
 induction h1 with
 | refl=>exact .refl _
 | step _ h2 ih=>exact ih.trans (h _ _ h2)
def wayQ (p:Nat->Nat->Prop):Nat->Nat->Nat->Prop
 | 0,a,b=>a=b∨p a b
 | k + 1,a,b=>wayQ p k a b∨(wayQ p k a k/\wayQ p k k b)
theorem xx {p:Nat->Nat->Prop} (a:Nat):∀ k,wayQ p k a a
 | 0=>.inl rfl
 | k + 1=>.inl (xx a k)
theorem xy {p:Nat->Nat->Prop} {a b:Nat} (h:p a b):∀ k,wayQ p k a b
 | 0=>.inr h
 | k + 1=>.inl (xy h k)
theorem oY {p:Nat->Nat->Prop}:∀ k a b,wayQ p k a b->sG p a b
 | 0,a,b,h=>by
  rcases h with rfl | h
  ·exact .refl _
  ·exact .step (.refl _) h
 | k + 1,a,b,h=>by
  rcases h with h | ⟨h1,h2⟩
  ·exact oY k a b h
  ·exact (oY k a k h1).trans (oY k k b h2)
theorem kT {p:Nat->Nat->Prop}:∀ k a m b,m < k->wayQ p k a m->wayQ p k m b->wayQ p k a b
 | 0,_,_,_,h,_,_=>by omega
 | k + 1,a,m,b,hm,h1,h2=>by
  by_cases Sk:m=k
  ·subst Sk
   have r9:wayQ p m a m:=by
    rcases h1 with h1 | h1
    ·exact h1
    ·exact h1.1
   have Bw:wayQ p m m b:=by
    rcases h2 with h2 | h2
    ·exact h2
    ·exact h2.2
   exact .inr ⟨r9,Bw⟩
  ·have rk:m < k:=by omega
   rcases h1 with h1 | ⟨h1,h3⟩
   ·rcases h2 with h2 | ⟨h2,h4⟩
    ·exact .inl (kT k a m b rk h1 h2)
    ·exact .inr ⟨kT k a m k rk h1 h2,h4⟩
   ·rcases h2 with h2 | ⟨h2,h4⟩
    ·exact .inr ⟨h1,kT k k m b rk h3 h2⟩
    ·exact .inr ⟨h1,h4⟩
theorem uj {rows:List Nat}:∀ k,k<=rows.length->∀ a b,a < rows.length->((aM (closeR rows k) a b=true∨a=b)↔wayQ (fun x y=>aM rows x y=true) k a b)/\(a < k->aM (closeR rows k) a a=true)
 | 0,_,a,b,_=>by
  refine ⟨?_,fun h=>by omega⟩;simp only [closeR,List.range_zero,List.foldl_nil,wayQ];exact or_comm
 | k + 1,hk,a,b,ha=>by
  have ih:=uj (rows:=rows) k (by omega);have iP:k < (closeR rows k).length:=by rw [eG];omega
  have hb:∀ a b,a < rows.length->aM (closeR rows (k + 1)) a b=(aM (ie (closeR rows k) k) a b || (aM (ie (closeR rows k) k) a k && aM (ie (closeR rows k) k) k b)):=fun a b ha=>by
   rw [jD,xu iP _ (Nat.le_refl _)];simp [eG,ha]
  have uk:∀ a b,(aM (ie (closeR rows k) k) a b=true∨a=b)↔(aM (closeR rows k) a b=true∨a=b):=fun a b=>by
   rw [mK iP];simp only [Bool.or_eq_true,Bool.and_eq_true,decide_eq_true_eq];constructor
   ·rintro ((h | ⟨rfl,rfl⟩) | h)
    ·exact .inl h
    ·exact .inr rfl
    ·exact .inr h
   ·rintro (h | h)
    ·exact .inl (.inl h)
    ·exact .inr h
  have Ad:aM (ie (closeR rows k) k) k k=true:=by rw [mK iP];simp
  have key:∀ a b,a < rows.length->((aM (closeR rows (k + 1)) a b=true∨a=b)↔wayQ (fun x y=>aM rows x y=true) (k + 1) a b):=fun a b ha=>by
   rw [hb a b ha];show _↔wayQ _ k a b∨(wayQ _ k a k/\wayQ _ k k b);rw [<- (ih a b ha).1,<- (ih a k ha).1,<- (ih k b (by omega)).1,<- uk a b,<- uk a k,<- uk k b];simp only [Bool.or_eq_true,Bool.and_eq_true];constructor
   ·rintro ((h | ⟨h1,h2⟩) | h)
    ·exact .inl (.inl h)
    ·exact .inr ⟨.inl h1,.inl h2⟩
    ·exact .inl (.inr h)
   ·rintro ((h | h) | ⟨h1,h2⟩)
    ·exact .inl (.inl h)
    ·exact .inr h
    ·rcases h1 with h1 | rfl
     ·rcases h2 with h2 | rfl
      ·exact .inl (.inr ⟨h1,h2⟩)
      ·exact .inl (.inl h1)
     ·rcases h2 with h2 | rfl
      ·exact .inl (.inl h2)
      ·exact .inr rfl
  refine ⟨key a b ha,fun hak=>?_⟩;rw [hb a a ha];by_cases h:a=k
  ·subst h;rw [Ad];all_goals rfl
  ·have:=(ih a a ha).2 (by omega);rw [mK iP,this];all_goals rfl
theorem D3 {rows:List Nat} (hb:∀ a b,a < rows.length->aM rows a b=true->b < rows.length) {a b:Nat} (ha:a < rows.length) (hbl:b < rows.length):aM (closeR rows rows.length) a b=true↔sG (fun x y=>x < rows.length/\aM rows x y=true) a b:=by
 have hw:=uj (rows:=rows) rows.length (Nat.le_refl _) a b ha
 have h1:aM (closeR rows rows.length) a b=true↔wayQ (fun x y=>aM rows x y=true) rows.length a b:=by
  rw [<- hw.1];constructor
  ·exact .inl
  ·rintro (h | rfl)
   ·exact h
   ·exact hw.2 ha
 rw [h1];constructor
 ·intro h
  have al:∀ {x},sG (fun x y=>aM rows x y=true) a x->sG (fun x y=>x < rows.length/\aM rows x y=true) a x/\x < rows.length:=by
   intro x hx
   induction hx with
   | refl=>exact ⟨.refl _,ha⟩
   | step _ h2 ih=>exact ⟨.step ih.1 ⟨ih.2,h2⟩,hb _ _ ih.2 h2⟩
  exact (al (oY _ _ _ h)).1
 ·intro h
  have:wayQ (fun x y=>aM rows x y=true) rows.length a b/\b < rows.length:=by
   clear h1 hw hbl
   induction h with
   | refl=>exact ⟨xx _ _,ha⟩
   | step _ h2 ih=>exact ⟨kT _ _ _ _ ih.2 ih.1 (xy h2.2 _),hb _ _ h2.1 h2.2⟩
  exact this.1
theorem Lo {rows:List Nat} {p:Nat × Nat} {a b:Nat} (hp:p.1 < rows.length):aM (uc rows p) a b=(aM rows a b || (decide (a=p.1) && decide (b=p.2))):=by
 unfold uc;rw [ui hp];by_cases h:a=p.1
 ·subst h;rw [if_pos rfl,fO];simp only [decide_true,Bool.true_and];rw [show decide (p.2=b)=decide (b=p.2) from by simp only [eq_comm]];rfl
 ·rw [if_neg h];simp [h]
theorem xz:∀ (l:List (Nat × Nat)) (rows:List Nat) (a b:Nat),(∀ p∈l,p.1 < rows.length)->(aM (l.foldl uc rows) a b=true↔aM rows a b=true∨(a,b)∈l)
 | [],_,_,_,_=>by simp
 | p :: l,rows,a,b,h=>by
  rw [List.foldl_cons,xz l _ a b (fun q hq=>by rw [oW];exact h q (by simp [hq])),Lo (h p (by simp))];simp only [Bool.or_eq_true,Bool.and_eq_true,decide_eq_true_eq,List.mem_cons];constructor
  ·rintro ((h1 | ⟨rfl,rfl⟩) | h1)
   ·exact .inl h1
   ·exact .inr (.inl rfl)
   ·exact .inr (.inr h1)
  ·rintro (h1 | rfl | h1)
   ·exact .inl (.inl h1)
   ·exact .inl (.inr ⟨rfl,rfl⟩)
   ·exact .inr h1
theorem um {n:Nat} {l:List (Nat × Nat)} (h:∀ p∈l,p.1 < n) (a b:Nat):aM (ez n l) a b=true↔(a,b)∈l:=by
 unfold ez;rw [xz l _ a b (fun p hp=>by rw [List.length_replicate];exact h p hp)];constructor
 ·rintro (h1 | h1)
  ·unfold aM at h1;rw [List.getD_eq_getElem?_getD,List.getElem?_replicate] at h1;split at h1<;>simp at h1
  ·exact h1
 ·exact .inr
def dY (n:Nat) (l:List (Nat × Nat)) (a b:Nat):Bool:=aM (closeR (ez n l) n) a b
def qx (n:Nat) (l:List (Nat × Nat)):Prop:=∀ p∈l,p.1 < n/\p.2 < n
theorem lX {n:Nat} {l:List (Nat × Nat)} (h:qx n l) {a b:Nat} (ha:a < n) (hb:b < n):dY n l a b=true↔sG (fun x y=>(x,y)∈l) a b:=by
 have hlen:(ez n l).length=n:=iY n l;unfold dY
 have:=D3 (rows:=ez n l) (fun a b _ Li=>by
  rw [um (fun p hp=>(h p hp).1)] at Li
  rw [hlen];exact (h _ Li).2) (a:=a) (b:=b) (by omega) (by omega)
 rw [hlen] at this;rw [this];constructor
 ·exact sG.mono fun x y Dy=>.step (.refl _) ((um (fun p hp=>(h p hp).1) x y).1 Dy.2)
 ·exact sG.mono fun x y Dy=>.step (.refl _) ⟨(h _ Dy).1,(um (fun p hp=>(h p hp).1) x y).2 Dy⟩
theorem qy {n:Nat} {l:List (Nat × Nat)} (h:qx n l) {a:Nat} (ha:a < n):dY n l a a=true:=(lX h ha ha).2 (.refl _)
theorem D4 {n:Nat} {l:List (Nat × Nat)} (h:qx n l) {a b c:Nat} (ha:a < n) (hb:b < n) (hc:c < n) (h1:dY n l a b=true) (h2:dY n l b c=true):dY n l a c=true:=
 (lX h ha hc).2 (((lX h ha hb).1 h1).trans ((lX h hb hc).1 h2))
def jE (n:Nat) (f:Nat->Nat->Bool) (a:Nat):Bool:=(List.range n).any fun b=>decide (a≠b) && (f a b && f b a)
theorem Lp {n:Nat} {l:List (Nat × Nat)} (hn:n<=64) (h:qx n l) {a:Nat} (ha:a < n):oX (closeR (ez n l) n) a=jE n (dY n l) a:=by
 have hlen:(closeR (ez n l) n).length=n:=by rw [eG,iY]
 unfold oX jE;rw [Lm,hlen,Bool.eq_iff_iff,decide_eq_true_eq]
 have haa:(backN (closeR (ez n l) n) a n).testBit a=true:=by
  rw [qw];have:aM (closeR (ez n l) n) a a=true:=qy h ha;simp [ha,this]
 rw [Bv _ a haa 64 (by omega)];simp only [List.any_eq_true,List.mem_range,Bool.and_eq_true,decide_eq_true_eq,qw];constructor
 ·rintro ⟨b,_,aR,hb,h1,h2⟩;exact ⟨b,hb,fun e=>aR e.symm,h1,h2⟩
 ·rintro ⟨b,hb,aR,h1,h2⟩;exact ⟨b,by omega,fun e=>aR e.symm,hb,h1,h2⟩
theorem y8 {p q:Nat->Bool} {n:Nat} (h:∀ a,a < n->p a=q a):bG p n=bG q n:=by
 unfold bG
 have:∀ (l:List Nat),(∀ a∈l,p a=q a)->l.find? p=l.find? q:=by
  intro l
  induction l with
  | nil=>intro _;rfl
  | cons x r ih=>
   intro hl;rw [List.find?_cons,List.find?_cons,hl x (by simp),ih (fun a ha=>hl a (by simp [ha]))]
 exact this _ fun a ha=>h a (List.mem_range.1 ha)
theorem OB {n:Nat} {l:List (Nat × Nat)} (hn:n<=64) (h:qx n l):bG (oX (closeR (ez n l) n)) n=bG (jE n (dY n l)) n:=
 y8 fun _ ha=>Lp hn h ha
def fT (r:List Bool) (p:Nat × Nat):List Bool:=if r.getD p.1 false then r.set p.2 true else r
def gF (l:List (Nat × Nat)) (r:List Bool):List Bool:=l.foldl fT r
def cd (l:List (Nat × Nat)) (r:List Bool) (k:Nat):List Bool:=(List.range k).foldl (fun r _=>gF l r) r
def sq (n:Nat) (l:List (Nat × Nat)) (a:Nat):List Bool:=cd l ((List.replicate n false).set a true) n
theorem dS (l:List (Nat × Nat)) (r:List Bool) (k:Nat):cd l r (k + 1)=gF l (cd l r k):=by simp [cd,List.range_succ]
theorem j9 (r:List Bool) (p:Nat × Nat):(fT r p).length=r.length:=by unfold fT;split<;>simp
theorem nQ (l:List (Nat × Nat)):∀ r,(gF l r).length=r.length:=by
 induction l with
 | nil=>intro r;rfl
 | cons p l ih=>intro r;simp only [gF,List.foldl_cons] at ih ⊢;rw [ih,j9]
theorem eH (l:List (Nat × Nat)) (r:List Bool):∀ k,(cd l r k).length=r.length
 | 0=>by simp [cd]
 | k + 1=>by rw [dS,nQ,eH]
theorem oZ (n:Nat) (l:List (Nat × Nat)) (a:Nat):(sq n l a).length=n:=by simp [sq,eH]
def OC (r s:List Bool):Prop:=∀ i:Nat,r.getD i false=true->s.getD i false=true
theorem iZ {r:List Bool} {i j:Nat} (hi:i < r.length):(r.set i true).getD j false=(decide (j=i) || r.getD j false):=by
 simp only [List.getD_eq_getElem?_getD];by_cases h:j=i
 ·subst h;rw [List.getElem?_set_self hi];simp
 ·rw [List.getElem?_set_ne (Ne.symm h)];simp [h]
theorem Bz {r:List Bool} {p:Nat × Nat} (hp:p.2 < r.length):OC r (fT r p):=by
 intro i hi;unfold fT;split
 ·rw [iZ hp,hi];simp
 ·exact hi
theorem mL:∀ {l:List (Nat × Nat)} {r:List Bool},(∀ p∈l,p.2 < r.length)->OC r (gF l r)
 | [],r,_,i,hi=>hi
 | p :: l,r,h,i,hi=>by
  have:OC (fT r p) (gF l (fT r p)):=mL fun q hq=>by rw [j9];exact h q (by simp [hq])
  exact this i (Bz (h p (by simp)) i hi)
def uo (r:List Bool):Nat:=r.countP (fun x=>x)
theorem GA (r:List Bool):uo r<=r.length:=List.countP_le_length
theorem uq:∀ {r s:List Bool},r.length=s.length->OC r s->(r=s∨uo r < uo s)/\uo r<=uo s
 | [],[],_,_=>⟨.inl rfl,Nat.le_refl _⟩
 | x :: r,y :: s,hl,h=>by
  have wU:r.length=s.length:=by simpa using hl
  have ih:=uq wU (fun i hi=>by simpa using h (i + 1) (by simpa using hi));have h0:x=true->y=true:=fun hx=>by simpa using h 0 (by simpa using hx)
  simp only [uo,List.countP_cons] at ih ⊢;cases x<;>cases y
  ·refine ⟨?_,by simpa using ih.2⟩;rcases ih.1 with h1 | h1
   ·exact .inl (by rw [h1])
   ·exact .inr (by simpa using h1)
  ·have:=ih.2;exact ⟨.inr (by simp;omega),by simp;omega⟩
  ·exact absurd (h0 rfl) (by decide)
  ·refine ⟨?_,by simpa using ih.2⟩;rcases ih.1 with h1 | h1
   ·exact .inl (by rw [h1])
   ·exact .inr (by simpa using h1)
 | [],_ :: _,h,_=>by simp at h
 | _ :: _,[],h,_=>by simp at h
theorem BA {r s:List Bool} (hl:r.length=s.length) (h1:OC r s) (h2:OC s r):r=s:=by
 rcases (uq hl h1).1 with h | h
 ·exact h
 ·have:=(uq hl.symm h2).2;omega
theorem ur:∀ {l:List (Nat × Nat)} {r:List Bool},(∀ p∈l,p.2 < r.length)->gF l r=r->∀ p∈l,r.getD p.1 false=true->r.getD p.2 false=true
 | [],_,_,_,p,hp,_=>by cases hp
 | q :: l,r,h,he,p,hp,h1=>by
  have hq:=h q (by simp);have hl:∀ p∈l,p.2 < (fT r q).length:=fun p hp=>by rw [j9];exact h p (by simp [hp])
  have hs:fT r q=r:=by
   have h2:OC (fT r q) r:=by
    have:=mL hl;have Ob:gF l (fT r q)=r:=he;rw [Ob] at this;exact this
   exact (BA (j9 r q).symm (Bz hq) h2).symm
  rcases List.mem_cons.1 hp with rfl | hp
  ·unfold fT at hs;rw [if_pos h1] at hs;rw [<- hs,iZ hq];simp
  ·have Ob:gF l r=r:=by
    have:gF l (fT r q)=r:=he
    rwa [hs] at this
   exact ur (fun p hp=>h p (by simp [hp])) Ob p hp h1
theorem rE {l:List (Nat × Nat)} {r:List Bool} (h:∀ p∈l,p.2 < r.length):∀ k,gF l (cd l r k)=cd l r k∨uo r + k<=uo (cd l r k)
 | 0=>.inr (by simp [cd])
 | k + 1=>by
  have hk:∀ p∈l,p.2 < (cd l r k).length:=fun p hp=>by rw [eH];exact h p hp
  rcases rE h k with h1 | h1
  ·left;rw [dS,h1,h1]
  ·rcases (uq (nQ l _).symm (mL hk)).1 with h2 | h2
   ·left;rw [dS,<- h2,<- h2]
   ·right;rw [dS];omega
theorem Ii {l:List (Nat × Nat)} {a:Nat} {r:List Bool} {p:Nat × Nat} (hp:p∈l) (hl:p.2 < r.length) (h:∀ i,r.getD i false=true->sG (fun x y=>(x,y)∈l) a i):∀ i,(fT r p).getD i false=true->sG (fun x y=>(x,y)∈l) a i:=by
 intro i hi;unfold fT at hi;split at hi
 ·rename_i h1;rw [iZ hl] at hi;simp only [Bool.or_eq_true,decide_eq_true_eq] at hi;rcases hi with rfl | hi
  ·exact .step (h _ h1) hp
  ·exact h i hi
 ·exact h i hi
theorem uu {l:List (Nat × Nat)} {a:Nat}:∀ (m:List (Nat × Nat)) {r:List Bool},(∀ p∈m,p∈l/\p.2 < r.length)->(∀ i,r.getD i false=true->sG (fun x y=>(x,y)∈l) a i)->∀ i,(gF m r).getD i false=true->sG (fun x y=>(x,y)∈l) a i
 | [],_,_,h=>h
 | p :: m,r,hm,h=>uu m (r:=fT r p) (fun q hq=>by rw [j9];exact hm q (by simp [hq])) (Ii (hm p (by simp)).1 (hm p (by simp)).2 h)
theorem rF {l:List (Nat × Nat)} {a:Nat} {r:List Bool} (hl:∀ p∈l,p.2 < r.length) (h:∀ i,r.getD i false=true->sG (fun x y=>(x,y)∈l) a i):∀ k i,(cd l r k).getD i false=true->sG (fun x y=>(x,y)∈l) a i
 | 0=>by simpa [cd] using h
 | k + 1=>by
  rw [dS];exact uu l (fun p hp=>⟨hp,by rw [eH];exact hl p hp⟩) (rF hl h k)
theorem uv {l:List (Nat × Nat)} {r:List Bool} (hl:∀ p∈l,p.2 < r.length):∀ k,OC r (cd l r k)
 | 0=>by intro i hi;simpa [cd] using hi
 | k + 1=>fun i hi=>by
  rw [dS];exact mL (fun p hp=>by rw [eH];exact hl p hp) i (uv hl k i hi)
theorem Lq {n a:Nat} (ha:a < n):1<=uo ((List.replicate n false).set a true):=by
 unfold uo;rw [Nat.succ_le_iff,List.countP_pos_iff];exact ⟨true,List.mem_iff_getElem?.2 ⟨a,by rw [List.getElem?_set_self (by simp [ha])]⟩,rfl⟩
theorem Lr {n:Nat} {l:List (Nat × Nat)} (h:qx n l) {a b:Nat} (ha:a < n) (hb:b < n):(sq n l a).getD b false=dY n l a b:=by
 have hl:∀ p∈l,p.2 < ((List.replicate n false).set a true).length:=fun p hp=>by simp;exact (h p hp).2
 have qm:a < (List.replicate n false).length:=by simp [ha]
 rw [Bool.eq_iff_iff,lX h ha hb];constructor
 ·refine rF hl (fun i hi=>?_) n b;rw [iZ qm] at hi;simp only [Bool.or_eq_true,decide_eq_true_eq] at hi;rcases hi with rfl | hi
  ·exact .refl _
  ·rw [List.getD_eq_getElem?_getD,List.getElem?_replicate] at hi;split at hi<;>simp at hi
 ·have hfix:gF l (sq n l a)=sq n l a:=by
   rcases rE hl n with h1 | h1
   ·exact h1
   ·have h2:=GA (cd l ((List.replicate n false).set a true) n);rw [eH] at h2;have h3:=Lq ha;simp only [List.length_set,List.length_replicate] at h2;omega
  have ju:=ur (fun p hp=>by rw [oZ];exact (h p hp).2) hfix;intro hr;have haa:(sq n l a).getD a false=true:=uv hl n a (by rw [iZ qm];simp);clear hb
  induction hr with
  | refl=>exact haa
  | step _ h2 ih=>exact ju _ h2 ih
def cW (n:Nat) (f:Nat->Nat->Bool):List (List Bool):=(List.range n).map fun a=>(List.range n).map (f a)
theorem OD {n:Nat} {l:List (Nat × Nat)} (h:qx n l) {a:Nat} (ha:a < n):sq n l a=(List.range n).map (dY n l a):=by
 refine List.ext_getElem? fun i=>?_;by_cases hi:i < n
 ·have:=Lr h ha hi;have hl:=oZ n l a;rw [List.getD_eq_getElem?_getD,gE (by omega)] at this;rw [gE (by omega),List.getElem?_map,List.getElem?_range hi];simpa using this
 ·rw [List.getElem?_eq_none (by rw [oZ];omega),List.getElem?_eq_none (by simp;omega)]
theorem BB {n:Nat} {f:Nat->Nat->Bool} {a:Nat} (ha:a < n):(cW n f)[a]? = some ((List.range n).map (f a)):=by
 simp [cW,List.getElem?_range ha]
theorem Ij {l:List Wd} {i:Nat} {x:Wd} (h:l[i]? = some x):av (l.take (i + 1))=av (l.take i) ++ [x.s]:=by
 rw [List.take_add_one,h];simp [av]
theorem GB (l:List Wd) (s:ByteArray):bp l s=true↔s∈av l:=by
 simp only [bp,List.any_eq_true,decide_eq_true_eq,av,List.mem_map]
theorem kU {l:List Wd} {i:Nat} {x:Wd} (h:l[i]? = some x) (hn:(av (l.take i)).Nodup):(av (l.take (i + 1))).Nodup↔bp (l.take i) x.s=false:=by
 rw [Ij h,List.nodup_append];constructor
 ·rintro ⟨_,_,h3⟩;cases hb:bp (l.take i) x.s
  ·rfl
  ·exact absurd rfl (h3 x.s ((GB _ _).1 hb) x.s (by simp))
 ·intro hb;refine ⟨hn,by simp,fun a ha b fj=>?_⟩;simp only [List.mem_singleton] at fj;subst fj;rintro rfl;rw [(GB _ _).2 ha] at hb;cases hb
theorem xA {l:List Wd} {i:Nat} {x:Wd} (a:Int) (h:l[i]? = some x) (hn:(av (l.take i)).Nodup) :
  fL (av (l.take (i + 1))) x.s a=if aA l i x≠0 then (aA l i x,a) else (0,0):=by
 have hs:=kU h hn;unfold fL aA;by_cases h1:aU x.s=true
 ·rw [if_pos h1,if_pos h1];by_cases h2:bp (l.take i) x.s=true
  ·rw [if_pos h2,if_neg (fun hc=>by rw [hs.1 hc] at h2;cases h2)];all_goals rfl
  ·rw [if_neg h2,if_pos (hs.2 (by simpa using h2))];all_goals rfl
 ·rw [if_neg h1,if_neg h1];all_goals rfl
theorem kV {l:List Wd} {i:Nat} {x:Wd} (h:l[i]? = some x) (hn:(av (l.take i)).Nodup) (hz:aA l i x=0):(av (l.take (i + 1))).Nodup:=by
 refine (kU h hn).2 ?_;unfold aA at hz;by_cases h1:aU x.s=true
 ·rw [if_pos h1] at hz;by_cases h2:bp (l.take i) x.s=true
  ·rw [if_pos h2] at hz;simp at hz
  ·simpa using h2
 ·rw [if_neg h1] at hz;simp at hz
theorem xB (l:List Wd):∀ (d e:Nat),e + d=l.length->(enumP l e)=(0,0)->(av (l.take e)).Nodup->enumP l l.length=enumL l e (l.drop e)
 | 0,e,hd,hz,hn=>by
  have:e=l.length:=by omega
  subst this;rw [hz,List.drop_length];all_goals rfl
 | d + 1,e,hd,hz,hn=>by
  obtain ⟨x,hx⟩:∃ x,l[e]? = some x:=⟨_,gE (by omega)⟩;have h1:=tV (by rw [hz]) hx;rw [xA x.a hx hn] at h1;rw [drop_cons hx];simp only [enumL];by_cases hf:aA l e x≠0
  ·rw [if_pos hf] at h1 ⊢;have aS:=nM (l:=l) (e:=e + 1) (by rw [h1];exact hf) d;rw [show e + 1 + d=l.length by omega] at aS;rw [aS,h1]
  ·rw [if_neg hf] at h1 ⊢;exact xB l d (e + 1) (by omega) h1 (kV hx hn (by simpa using hf))
theorem Ls (h:Hd):lT h=gA h:=by
 unfold lT gA;by_cases h0:h.af=[]
 ·rw [if_pos h0,if_pos (by simp [h0])]
 ·rw [if_neg h0,if_neg (by simpa using h0)];by_cases h1:64 < h.af.length
  ·rw [if_pos h1,if_pos h1]
  ·rw [if_neg h1,if_neg h1];have:=xB h.af h.af.length 0 (by omega) rfl (by simp [av]);simpa using this
def lY (p:Ph):Ph:=⟨p.name,true,[],0,0,0,0,[]⟩
theorem OE (p:Ph) (t:Ty):cE p t (lY p) bF=(bq p eC && sameTy t bF):=by
 have e:bq p (lY p)=bq p eC:=rfl;unfold cE;rw [e];have e2:decide (p.name.s=(lY p).name.s)=true:=decide_eq_true rfl;rw [e2,Bool.true_and]
theorem empty_eq (p:Ph):cE p bF ei bF=(decide (p.name.s=ap) && bq p ei):=by
 have e:sameTy bF bF=true:=by simp [bF,KJ,sameTy,jQ,samePts,sameWds]
 simp only [cE,e,Bool.and_true];rfl
def cx (L:List ByteArray) (s:ByteArray):Option Nat:=bG (fun i=>decide (L[i]? = some s)) L.length
theorem cF {L:List ByteArray} {s:ByteArray} {p:Nat} (h:cx L s=some p):p < L.length/\L[p]? = some s/\∀ j,L[j]? = some s->p<=j:=by
 obtain ⟨h1,h2,h3⟩:=dK h;refine ⟨h1,by simpa using h2,fun j hj=>?_⟩;rcases Nat.lt_or_ge j p with h4 | h4
 ·have:=h3 j h4;simp [hj] at this
 ·exact h4
theorem y9 {L:List ByteArray} {s:ByteArray} {p:Nat} (h1:L[p]? = some s) (h2:∀ j,L[j]? = some s->p<=j):cx L s=some p:=by
 refine cw (gS h1).1 (by simpa using h1) fun a ha=>?_;simp only [decide_eq_false_iff_not];intro h3;have:=h2 a h3;omega
theorem qz {L:List ByteArray} {s:ByteArray} (h:∀ j:Nat,L[j]? ≠ some s):cx L s=none:=cO fun a _=>by simpa using h a
theorem vZ {L:List ByteArray} {s:ByteArray}:cx L s=none↔s ∉ L:=by
 constructor
 ·intro h hm;obtain ⟨j,hj⟩:=List.mem_iff_getElem?.1 hm;unfold cx bG at h;rw [List.find?_eq_none] at h;have:=h j (by simpa using (gS hj).1);simp [hj] at this
 ·intro h;exact qz fun j hj=>h (mG hj)
theorem gG (L:List ByteArray) (az:List Nat) (s:ByteArray) (hT:gk L az) (hl:az.length<=1099511627776) :
  EvP Tryz.prog 93 [.pt (cr L az) 0,.v (.string s)] (Ln (cx L s)):=by
 by_cases hm:s∈L
 ·obtain ⟨j,hj⟩:=List.mem_iff_getElem?.1 hm;obtain ⟨q,p,hq,hp⟩:=hT.all j s hj;rw [y9 hp fun j' gM=>hT.fst q p j' s hq hp gM];exact find_spec L az s q p hT hl hq hp
 rw [qz fun j hj=>hm (mG hj)]
 let pr:Nat->Prop:=fun i=>i=az.length∨∃ p t,az[i]? = some p/\L[p]? = some t/\vX t s=false
 obtain ⟨m,fg,p9⟩:=least (p:=pr) ⟨az.length,.inl rfl⟩;have hmn:m<=az.length:=p9 _ (.inl rfl);refine ev_go (P:=Tryz.prog) tt tt_ok 5000 47 [.tmp 4,.tmp 5] Tryz.func93 rfl Tryz.ntmps93 rfl (nL rfl) (fun E9 w9 hn9 hm9=>?_)
 have ju:∀ i:Nat,i < az.length->EvP Tryz.prog 160 [.v (.int .i64 i),.pt [.pt (cr L az) 0] 0,.pt [.v (.string s)] 0] (.v (.bool (decide (m<=i)))):=by
  intro i hi;obtain ⟨p',oG⟩:∃ p',az[i]? = some p':=⟨_,gE hi⟩;obtain ⟨t,ht⟩:∃ t,L[p']? = some t:=⟨_,gE (hT.lt i p' oG)⟩;have:=tI L az s i p' t oG ht
  have e:(!vX t s)=decide (m<=i):=by
   by_cases h:m<=i
   ·have:vX t s=false:=by
     rcases fg with fg | ⟨p,u,h1,h2,h3⟩
     ·omega
     ·rcases Nat.lt_or_eq_of_le h with h4 | h4
      ·have h5:=hT.Z6 m i p p' u t h4 h1 oG h2 ht;cases h6:vX t s
       ·rfl
       ·have:=fh h5 h6;unfold vX at h3;rw [this] at h3;cases h3
      ·subst h4;rw [h1] at oG;simp only [oI] at oG;subst oG;rw [h2] at ht;simp only [oI] at ht;subst ht;exact h3
    simp [this,h]
   ·have:vX t s=true:=by
     cases h6:vX t s
     ·exact absurd (p9 i (.inr ⟨p',t,oG,ht,h6⟩)) h
     ·rfl
    simp [this,h]
  rw [e] at this;exact this
 have hS:=ru 160 P4 [.pt [.pt (cr L az) 0] 0,.pt [.v (.string s)] 0] az.length m hl hmn ax rfl ju;refine yJ P3 hS (by repeat' (first | exact rfl | exact trivial | exact Or.inr (Or.inl ⟨_,rfl⟩) | exact Or.inr ⟨_,rfl⟩ | exact Or.inl ⟨rfl,rfl⟩ | exact Or.inl rfl | refine Or.inr ⟨_,_,rfl,Nat.zero_le _,rfl,?_⟩ | refine ⟨_,_,rfl,?_,?_⟩ | refine ⟨_,rfl,?_⟩ | exact congrArg (fun z=>DV.v (.int .i64 z)) (congrArg Nat.cast (bf az)) | refine Or.inr (Or.inr (Or.inr ⟨_,_,rfl,?_⟩)) | exact Or.inl rfl | refine Or.inr ?_)) rfl ?_;refine aD (fun _=>false) mo (by decide +kernel) ?_;refine br (fun h=>?_) (fun h=>?_)
 ·have al:m < az.length:=by
   have:decide ((m:Int)=((dInts az).length:Int))=false:=by simpa using h
   simp [bf] at this;omega
  rcases fg with fg | ⟨p,t,h1,h2,h3⟩
  ·omega
  refine ⟨_,⟨by omega,dA h1⟩,?_⟩;refine ⟨_,⟨by omega,eK h2⟩,?_⟩;refine br (fun h4=>?_) (fun h4=>?_)
  ·exact ⟨_,ax,rfl⟩
  ·exfalso
   have hts:t=s:=by
    simp [aj] at h4;exact h4
   exact hm (hts ▸ mG h2)
 ·exact ⟨_,ax,rfl⟩
def eZ (l:List Wd) (o:List (Wd × Wd)):Ft:=
 if l=[] then (15,0)
 else if 32 < l.length then (8,((l[32]?).getD (⟨ap,0⟩:Wd)).a)
 else if 256 < o.length then (8,((o[256]?).getD ((⟨ap,0⟩,⟨ap,0⟩):Wd × Wd)).1.a)
 else (0,0)
theorem Ik (l:List Wd) (o:List (Wd × Wd)):EvP Tryz.prog 94 [.sl 2 (bn l) none,.sl 4 (lx o) none] (eZ l o).d:=by
 refine ev_go (P:=Tryz.prog) tt tt_ok 5000 30 [.cell 4 54] Tryz.func94 rfl Tryz.ntmps94 rfl (nL rfl) (fun E9 w9 hn9 hm9=>?_);refine br (fun h=>?_) (fun h=>?_)
 ·have h:l=[]:=by simpa [aw] using h
  refine ⟨_,?_,rfl⟩;rw [eZ,if_pos h];exact ax
 have h:¬ l=[]:=by simpa [aw] using h
 refine br (fun h1=>?_) (fun h1=>?_)
 ·have h1:32 < l.length:=by simp [aw] at h1;omega
  obtain ⟨x,hx⟩:∃ x,l[32]? = some x:=⟨_,gE h1⟩;refine ⟨iV x,⟨by omega,aK hx⟩,?_⟩;refine ⟨_,?_,rfl⟩;rw [eZ,if_neg h,if_pos h1,hx];exact ax
 have h1:¬ 32 < l.length:=by simp [aw] at h1;omega
 refine br (fun h2=>?_) (fun h2=>?_)
 ·have h2:256 < o.length:=by simp [eY] at h2;omega
  obtain ⟨x,hx⟩:∃ x,o[256]? = some x:=⟨_,gE h2⟩;refine ⟨JC x,⟨by omega,fN hx⟩,?_⟩;refine ⟨_,?_,rfl⟩;rw [eZ,if_neg h,if_neg h1,if_pos h2,hx];exact ax
 have h2:¬ 256 < o.length:=by simp [eY] at h2;omega
 refine ⟨_,?_,rfl⟩;rw [eZ,if_neg h,if_neg h1,if_neg h2];exact ax
def WX (f:Ft) (L:List ByteArray):DV:=.tup [if f.1=0 then .sl 1 (dt L) none else .v (.slice none 0 0),f.d]
abbrev Lt (l:List Wd) (n e:Nat):St:=
 ⟨[(3,⟨[],.loc 0 0⟩),(4,⟨[],.sl 1 (dt (av (l.take e))) (some 0)⟩),(7,⟨[],.sl 2 (bn l) none⟩),(8,⟨[],.v (.int .i64 (bn l).length)⟩),(9,⟨[],.v (.int .i64 e)⟩)],[[.v (.int .i64 0),.v (.int .i64 0)]],[⟨n,9,1,none⟩]⟩
theorem nR {all:List Wd} {e:Nat} {w:Wd} (h:all[e]? = some w):enumL all e (all.drop e)=if aA all e w≠0 then (aA all e w,w.a) else enumL all (e + 1) (all.drop (e + 1)):=by
 rw [drop_cons h,enumL]
theorem BC (l:List Wd) (hs:wdsWt l<=1099511627776):EvP Tryz.prog 95 [.sl 2 (bn l) none] (WX (enumL l 0 l) (av l)):=by
 have ll:=bd l;refine ev_go (P:=Tryz.prog) tt tt_ok 5000 36 [.tmp 2,.cell 3 54] Tryz.func95 rfl Tryz.ntmps95 rfl (nL rfl) (fun E9 w9 hn9 hm9=>?_);refine aq (fun j st=>∃ e:Nat,st=Lt l e e/\e<=l.length/\(av (l.take e)).Nodup/\enumL l 0 l=enumL l e (l.drop e)/\j=l.length - e) l.length (Lt l 0 0) (eV ⟨0,9,1,none⟩ rfl ⟨_,rfl⟩ rfl wA rfl rfl Ah) ⟨0,rfl,by omega,by simp [av],rfl,by omega⟩ ?_;rintro j st ⟨e,rfl,he,hnd,aH,rfl⟩;rw [aH];refine br (fun hL=>?_) (fun hL=>?_)
 ·have al:e < l.length:=by simpa [aw] using hL
  obtain ⟨w,hw⟩:∃ w,l[e]? = some w:=⟨_,gE al⟩;have Qw:=gy (mG hw);have gR:=iB hw;have aS:=nR hw;have sC:=kU hw hnd;have Lu:=nK (av (l.take (e + 1))) (by simp [av];omega);rw [<- gR] at Lu;refine ⟨iV w,⟨by omega,aK hw⟩,?_⟩;refine ⟨by simp [bK,av];omega,⟨by simp [bK,av,maxLen];omega,by simp [bK,av];omega⟩,?_⟩;refine call_p AZ (iW w.s (by omega)) ax rfl ?_;refine br (fun hN=>?_) (fun hN=>?_)
  ·have hN:aU w.s=false:=by simpa using hN
   have hf:aA l e w=9:=by simp [aA,hN]
   rw [aS,hf,if_pos (by decide)];refine aX mo (by decide +kernel) ?_;exact ⟨_,ax,rfl⟩
  ·have hN:aU w.s=true:=by simpa using hN
   refine bl Kr rfl Lu ax (fun r hr=>?_);obtain ⟨z,rfl,hz⟩:=hr;refine br (fun h2=>?_) (fun h2=>?_)
   ·have h2:0<=z:=by simpa using h2
    have hd:bp (l.take e) w.s=true:=by
     cases hd:bp (l.take e) w.s
     ·exact absurd (sC.2 hd) (hz.1 h2)
     ·rfl
    have hf:aA l e w=10:=by simp [aA,hN,hd]
    rw [aS,hf,if_pos (by decide)];refine aX mo (by decide +kernel) ?_;exact ⟨_,ax,rfl⟩
   ·have h2:¬ 0<=z:=by simpa using h2
    have tB:(av (l.take (e + 1))).Nodup:=Classical.byContradiction fun hn=>h2 (hz.2 hn);have hf:aA l e w=0:=by simp [aA,hN,sC.1 tB]
    rw [hf,if_neg (by simp)] at aS;refine ⟨Lt l (e + 1) (e + 1),(weak_mk ⟨_,rfl⟩ wA rfl rfl rfl (yF al gR)),l.length - (e + 1),by omega,e + 1,rfl,by omega,tB,aS,rfl⟩
 ·have aN:e=l.length:=by
   have:=hL;simp [aw] at this;omega
  have h0:enumL l e (l.drop e)=(0,0):=by rw [aN,List.drop_length];all_goals rfl
  rw [h0];have ht:l.take e=l:=by rw [aN,List.take_length]
  rw [ht];exact ⟨_,ax,rfl⟩
def numF (L:List ByteArray):List (Wd × Wd)->Ft
 | []=>(0,0)
 | p :: r=>if cx L p.1.s=none then (17,p.1.a) else if cx L p.2.s=none then (17,p.2.a) else numF L r
def Sm (L:List ByteArray) (p:Wd × Wd):Nat × Nat:=((cx L p.1.s).getD 0,(cx L p.2.s).getD 0)
def cL (L:List ByteArray) (o:List (Wd × Wd)):List (Nat × Nat):=o.map (Sm L)
def WY (f:Ft) (l:List (Nat × Nat)):DV:=.tup [if f.1=0 then .sl 2 (kQ l) none else .v (.slice none 0 0),f.d]
theorem xC {L:List ByteArray} {o:List (Wd × Wd)} {e a b:Nat} {x:Wd × Wd} (h:o[e]? = some x) (ha:cx L x.1.s=some a) (hb:cx L x.2.s=some b):kQ (cL L (o.take e)) ++ [[DV.v (.int .i64 (a:Int)),DV.v (.int .i64 (b:Int))]]=kQ (cL L (o.take (e + 1))):=by
 rw [List.take_add_one,h];simp [kQ,cL,Sm,ha,hb,dNP]
abbrev Lv (L:List ByteArray) (az:List Nat) (o:List (Wd × Wd)) (n e:Nat):St:=
 ⟨[(0,⟨[],.pt (cr L az) 0⟩),(5,⟨[],.loc 0 0⟩),(6,⟨[],.sl 2 (kQ (cL L (o.take e))) (some 0)⟩),(12,⟨[],.sl 4 (lx o) none⟩),(13,⟨[],.v (.int .i64 (lx o).length)⟩),(14,⟨[],.v (.int .i64 e)⟩)],[[.v (.int .i64 0),.v (.int .i64 0)]],[⟨n,257,2,none⟩]⟩
theorem v7 (L:List ByteArray) (az:List Nat) (hT:gk L az) (hl:az.length<=1099511627776) (o:List (Wd × Wd)) (hs:prsWt o<=1099511627776) :
  EvP Tryz.prog 97 [.pt (cr L az) 0,.sl 4 (lx o) none] (WY (numF L o) (cL L o)):=by
 have ll:=gC o;refine ev_go (P:=Tryz.prog) tt tt_ok 5000 55 [.tmp 4,.cell 5 54] Tryz.func97 rfl Tryz.ntmps97 rfl (nL rfl) (fun E9 w9 hn9 hm9=>?_);refine aq (fun j st=>∃ e:Nat,st=Lv L az o e e/\e<=o.length/\numF L o=numF L (o.drop e)/\j=o.length - e) o.length (Lv L az o 0 0) (eV ⟨0,257,2,none⟩ rfl ⟨_,rfl⟩ rfl wA rfl rfl Ah) ⟨0,rfl,by omega,rfl,by omega⟩ ?_;rintro j st ⟨e,rfl,he,aH,rfl⟩;rw [aH];refine br (fun hL=>?_) (fun hL=>?_)
 ·have al:e < o.length:=by simpa [eY] using hL
  obtain ⟨w,hw⟩:∃ w,o[e]? = some w:=⟨_,gE al⟩;have aS:numF L (o.drop e)=if cx L w.1.s=none then (17,w.1.a) else if cx L w.2.s=none then (17,w.2.a) else numF L (o.drop (e + 1)):=by rw [drop_cons hw,numF]
  have JB:=gG L az w.1.s hT hl;have yz:=gG L az w.2.s hT hl;refine ⟨JC w,⟨by omega,fN hw⟩,?_⟩
  cases ha:cx L w.1.s with
  | none=>
   rw [ha] at JB;refine call_p tE (JB) ax rfl ?_;rw [aS,if_pos ha];refine aX mo (by decide +kernel) ?_;exact ⟨_,ax,rfl⟩
  | some a=>
   rw [ha] at JB;refine call_p tE (JB) ax rfl ?_
   cases hb:cx L w.2.s with
   | none=>
    rw [hb] at yz;refine call_p tE (yz) ax rfl ?_;rw [aS,if_neg (by rw [ha];simp),if_pos hb];refine aX mo (by decide +kernel) ?_;exact ⟨_,ax,rfl⟩
   | some b=>
    rw [hb] at yz;refine call_p tE (yz) ax rfl ?_;rw [if_neg (by rw [ha];simp),if_neg (by rw [hb];simp)] at aS;refine ⟨by simp [fQ,cL];omega,⟨by simp [fQ,cL,maxLen];omega,by simp [fQ,cL];omega⟩,?_⟩;refine ⟨Lv L az o (e + 1) (e + 1),(weak_mk ⟨_,rfl⟩ wA rfl rfl rfl (by repeat' (first | exact trivial | exact ah rfl | exact ak (cA al (by omega)) | exact cI (xC hw ha hb) rfl | refine ⟨⟨_,rfl,?_⟩,?_⟩))),o.length - (e + 1),by omega,e + 1,rfl,by omega,aS,rfl⟩
 ·have aN:e=o.length:=by
   have:=hL;simp [eY] at this;omega
  have h0:numF L (o.drop e)=(0,0):=by rw [aN,List.drop_length];all_goals rfl
  rw [h0];have ht:o.take e=o:=by rw [aN,List.take_length]
  rw [ht];exact ⟨_,ax,rfl⟩
end Go.Proofs.YtfifjddnnmfeoaaGreat
