/- Part 3 of the proof: sort.Slice of the table's places, at a call; names.New: the table; names.Twice: does a text stand earlier, too?; Contracts: the reference's words, Plain, Same, Zero, own; Contracts: the reference's Same, Zero, own; Contracts: the reference's Label, listed, names, Size, with, coarse; What is wrong with a type: the plain function; the reference's Wrong and parts return it; The program's checks of types: bad, listed, label, words; The program's checks of types: label, coarse; The program's comparing of names and types; The program's Same; The program's own, empty; The program's empty, enum; kinds.Right, once the checker's check is known; Numbers in tens: the reference's Put; Numbers in tens: the program's Put; The text of a type, plain; the reference's Label and comma; The reference's text of a type: Label, comma, part, Type; The reference's text of a part; The reference's text of a type; The library's strings.Join, laid at this program by the kit's tool (lay-plain; wip/tools/lay.sh); The program's text of a label, of what stands behind a part's type, of lists; The program's text of a type: field, tag, kind; unparse.Type, once the checker's check is known; A type with which nothing is wrong is fine for its text; Readable data as data of the evaluator: what the statement's form reads of an argument is a datum of the evaluator, of the argument's type, no heavier than what was read; What is read of a type, as the plain data; From a contract over data to what a law's statement asks: the arguments are read, the call returns true, all that was there stays; What all laws' frames share: the bulk, the program's closed facts; Types without places: plain, and the program's kinds.Strip; Schemas: plain, as the evaluator has them, without places; What is read of a schema, as the plain data; What the frames of laws over schemas share; The program's closed facts, each by itself (all at once they ask more memory than a Lean process has); Relations as rows of bits: plain, and rel's functions that read; rel.back: who leads to a thing and is led to by it; rel.New: the rows of a list of pairs; rel.Close: the closure, by rows; The number of bits that are set, as the library reckons it; math/bits.OnesCount64; When two bits are set; rel.Loop: the least thing in a loop; The plain law of closeR: its bits are what is led to; The program's and the reference's check of names that must differ; The table's Find, whole; lattice.many, called, numbered. No condition. -/
import Derived.Laws.StructEq
import Derived.Shelf.Strings.OnBuilder
import Derived.Deep.Slices
import Derived.ChangeArms
import Derived.DataReads
import Derived.WalkKit
import Derived.ProofKit
import Derived.OpenShut
import Derived.Carry
import Derived.JoinedCond
import Derived.Test.YtgjagnmeonoehaaGreatRows
import Derived.Test.YtgjagnmeonoehaaGreatMs2
set_option linter.all false
set_option maxRecDepth 100000
namespace Go.Proofs.YtgjagnmeonoehaaGreat
open Go Go.RowKit Dv Go.Proofs.Tryz
abbrev ON (p:Nat):Value:=.int .i64 (p:Int)
theorem D4 {E:En}:∀ {ds:List Nat} {arr:List Value},RvL E (dInts ds).flatten arr->arr=ds.map ON
 | [],arr,h=>by simpa [dInts,RvL] using h
 | x :: r,arr,h=>by
  simp only [dInts,List.map_cons,List.flatten_cons,List.cons_append,List.nil_append,RvL] at h;obtain ⟨v,s,rfl,h1,h2⟩:=h;unfold Rv at h1;rw [h1.1,D4 (ds:=r) h2];rfl
theorem wF {E:En}:∀ ds:List Nat,RvC E (dInts ds).flatten (ds.map ON)
 | []=>⟨cL E,by simp⟩
 | x :: r=>by
  have ih:=wF (E:=E) r;refine ⟨?_,?_⟩
  ·simp only [dInts,List.map_cons,List.flatten_cons,List.cons_append,List.nil_append];exact rvL_cons (gn rfl) ih.1
  ·intro v hv;simp only [List.map_cons,List.mem_cons] at hv;rcases hv with rfl | hv
   ·rfl
   ·exact ih.2 v hv
theorem acd {m:Nat}:∀ ds:List Nat,(∀ p∈ds,p < m + 1)->∃ D:List (Fin (m + 1)),D.map (·.val)=ds
 | [],_=>⟨[],rfl⟩
 | x :: r,h=>by
  obtain ⟨D,hD⟩:=acd r fun p hp=>h p (dB _ hp);exact ⟨⟨x,h x (by simp)⟩ :: D,by simp [hD]⟩
theorem wH {α:Type} [Inhabited α] (enc:α->Value) (w:World) (b n:Nat) (dk:Array α) (os:Array Obj) (arr:List Value) (ty:TypeId) (hw:w.heap[b]? = some (.cells arr.toArray ty (0,0))) (hl:arr.length=dk.size) :
  ∀ k,k < w.heap.size->(Sort.grow (Sort.putRow enc (Sort.ahead w n) b 0 dk) os).heap[k]? = (World.cV w b (.cells (dk.toList.map enc).toArray ty (0,0))).heap[k]?:=by
 intro k hk;simp only [Sort.grow,Sort.putRow,Sort.mapBlock,Sort.ahead];rw [Array.getElem?_append_left (sU hk),Array.getElem?_modify];by_cases Ls:b=k
 ·subst Ls;rw [ai rfl,hw,dG hw];simp only [Option.map_some,Sort.onCells,oI,Obj.cells.injEq,and_true];apply Array.ext_getElem?;intro j;simp only [Sort.putCells,Array.getElem?_mapIdx];rcases Nat.lt_or_ge j dk.size with hj | hj
  ·have h1:j < arr.length:=by omega
   simp [h1,hj]
  ·have h1:arr.length<=j:=by omega
   simp [h1,hj]
 ·rw [ah Ls,cp (Ne.symm Ls)]
theorem OO {α:Type} {l:List α} {i:Nat} {x:α} (h:l[i]? = some x):l.set i x=l:=by
 apply List.ext_getElem?;intro j;by_cases hj:j=i
 ·subst hj;rw [du (gS h).1,h]
 ·rw [List.getElem?_set_ne (Ne.symm hj)]
theorem Lt {X:Ctx} {st:St} {k:List It} (hP:X.P=prog) {i c len:Nat} {ds:List Nat} (hlen:len=ds.length) {lbD:List DV} {d:Nat} (N:Nat) (hN:∀ p∈ds,p < N) (lt:Nat->Nat->Bool) (hO:Sort.SWO lt)
  (jU:st.bx[i]? = some (dInts ds).flatten) (hn:ds.length<=1099511627776) (lbF:List Nat->List DV) (SL:∀ dk:List Nat,dk.length=ds.length->CcL (st.bx.set i (dInts dk).flatten) 0 0 0 (lbF dk) lbD)
  (OJ:∀ dk:List Nat,dk.length=ds.length->(∀ p∈dk,p < N)->∀ i j p q:Nat,dk[i]? = some p->dk[j]? = some q->EvS prog 189 (.v (.int .i64 i) :: .v (.int .i64 j) :: lbF dk) [] [] (fun r _ _=>r = .v (.bool (lt p q))))
  (hd:eB X.nt st.sl (some d)=true)
  (hk:∀ Xh:List Nat,Xh.Perm ds->(∀ i j p q:Nat,i < j->Xh[i]? = some p->Xh[j]? = some q->lt q p=false)->go X 4000 k ⟨(d,⟨[],.tup []⟩) :: st.sl,st.bx.set i (dInts Xh).flatten,st.tk⟩)
  (aR:X.still=false:=by exact rfl) (hX:X.bt=[]:=by exact rfl):dH X 188 [.qG 82 (.ms i 1 0 len c),.fn 189 [] lbD] (some d) k st:=by
 subst hlen;refine ⟨?_,aR,fun E a w vs h hv=>?_⟩
 ·rw [hP];exact aa7
 rw [hP];simp only [RvL] at hv;obtain ⟨v1,_,rfl,h1,v2,_,rfl,h2,rfl⟩:=hv;unfold Rv at h1;obtain ⟨z,rfl,h1⟩:=h1;unfold Rv at h1;obtain ⟨b,ad,hb,Za,rfl,hca⟩:=h1;unfold Rv at h2;obtain ⟨l,r,rfl,hl,hr⟩:=h2;simp only [RvL] at hl;subst hl;obtain ⟨b',ty,arr,eC,hw,u7⟩:=h.env.eA i _ jU;rw [hb] at eC;simp only [oI] at eC;subst eC;have OP:=D4 u7.1;have W5:=cC hw;by_cases h1:ds.length<=1
 ·refine (Lp r.toArray ad ds.length c h1 w).mono ?_;rintro e w' ⟨rfl,os,rfl⟩
  have hh:∀ j,j < w.heap.size->(Sort.grow w os).heap[j]? = w.heap[j]?:=fun j hj=>by
   simp only [Sort.grow];rw [Array.getElem?_append_left hj]
  have bM:Rel X E st a (Sort.grow w os):=dw h (Ext.refl E) (h.env.kM hh) h.tk h.nw (h.fr.cu rfl rfl rfl (by simp [Sort.grow]) fun j hj=>.inr (hh j hj)) (mB aR) (.nil hX);have N8:=hk ds (List.Perm.refl _) (fun i j p q mr _ hj=>by have:=(gS hj).1;omega);rw [OO jU] at N8;exact go_sound 4000 _ _ N8 E _ _ (aY bM hd (.tup []) (.tuple #[]) (by unfold Rv;exact ⟨[],rfl,cL E⟩))
 ·have h2:2<=ds.length:=by omega
  have ZZ:=hca (by omega);subst ZZ
  obtain ⟨m,rfl⟩:∃ m,N=m + 1:=by
   cases tT:ds with
   | nil=>rw [tT] at h2;simp at h2
   | cons x r=>have:=hN x (by rw [tT];simp);exact ⟨N - 1,by omega⟩
  obtain ⟨D,hD⟩:=acd ds hN;have Hb:D.length=ds.length:=by rw [<- hD];simp
  let enc:Fin (m + 1)->Value:=fun x=>ON x.val
  have hO':Sort.SWO (fun x y:Fin (m + 1)=>lt x.val y.val):=⟨fun x=>hO.irrefl _,fun x y z=>hO.trans _ _ _,fun x y z=>hO.ntrans _ _ _⟩;have ace:∀ l:List (Fin (m + 1)),l.map enc=(l.map (·.val)).map ON:=fun l=>by simp [enc]
  have hS:=OI enc (fun _=>rfl) hO' r.toArray b c D.toArray (by simpa [Hb] using h2) (by simp [Hb];omega) w ?_ ?_ W5
  ·simp only [List.size_toArray,Hb] at hS;refine hS.mono ?_;rintro e w' ⟨rfl,d',n,os,hp,hs,rfl⟩;have bH:d'.size=ds.length:=by have:=hp.1;simpa [Hb] using this
   have pA:(d'.toList.map (·.val)).Perm ds:=by
    have h3:=hp.2.2;have e1:d'.extract 0 ds.length=d':=Array.extract_eq_self_of_le (by omega);have e2:D.toArray.extract 0 ds.length=D.toArray:=Array.extract_eq_self_of_le (by simp [Hb]);rw [e1,e2] at h3;rw [<- hD];exact h3.map _
   have Lu:∀ i j p q:Nat,i < j->(d'.toList.map (·.val))[i]? = some p->(d'.toList.map (·.val))[j]? = some q->lt q p=false:=by
    intro i j p q mr hi hj;have pN:j < d'.size:=by have:=(gS hj).1;simpa using this
    have h3:=hs i j (Nat.zero_le _) mr (by omega);rw [getElem!_pos d' j pN,getElem!_pos d' i (by omega)] at h3;have Nu:i < d'.size:=by omega
    simp [Nu] at hi;simp [pN] at hj;rw [<- hi,<- hj];exact h3
   have hh:=wH enc w b n d' os arr ty hw (by rw [OP];simp [bH]);have eQ:=jZ (ty:=ty) h aR hb (cs':=(dInts (d'.toList.map (·.val))).flatten) (arr':=(d'.toList.map (·.val)).map ON) (wF _) ⟨_,hw⟩;rw [<- ace] at eQ;have ke:(Sort.grow (Sort.putRow enc (Sort.ahead w n) b 0 d') os).heap.size=w.heap.size + os.size:=by simp [Sort.grow,Sort.putRow,Sort.mapBlock,Sort.ahead]
   have bM:=dw eQ (Ext.refl E) (w':=Sort.grow (Sort.putRow enc (Sort.ahead w n) b 0 d') os) (eQ.env.kM fun j hj=>hh j (by rwa [fC] at hj)) eQ.tk eQ.nw
    (eQ.fr.cu rfl rfl rfl (by rw [fC,ke];omega) fun j hj=>.inr (hh j (by rwa [fC] at hj))) (mB aR) (.nil hX)
   exact go_sound 4000 _ _ (hk _ pA Lu) E _ _ (aY bM hd (.tup []) (.tuple #[]) (by unfold Rv;exact ⟨[],rfl,cL E⟩))
  ·intro mm os dk hs i' j' hi hj;have bH:dk.size=ds.length:=sV Hb hs;have hh:=wH enc w b mm dk os arr ty hw (by rw [OP];simp [bH]);have hE:=h.env.set hb W5 (ty:=ty) (wF (E:=E) (dk.toList.map (·.val)));rw [<- ace] at hE;have hE':=hE.kM (w':=Go.Proofs.sortWorld enc w b 0 mm dk os) fun j hj=>hh j (by rwa [fC] at hj);have Nu:i' < dk.size:=by rw [bH,<- Hb];simpa using hi
   have pN:j' < dk.size:=by rw [bH,<- Hb];simpa using hj
   have hLL:(dk.toList.map (·.val)).length=ds.length:=sU bH
   have hc:=OJ (dk.toList.map (·.val)) hLL (fun p hp=>by
    obtain ⟨x,_,rfl⟩:=List.mem_map.1 hp
    exact x.isLt) i' j' (dk[i']!).val (dk[j']!).val (by rw [getElem!_pos dk i' Nu];simp [Nu]) (by rw [getElem!_pos dk j' pN];simp [pN])
   have hv:RvL E (.v (.int .i64 (i':Int)) :: .v (.int .i64 (j':Int)) :: lbD) (.int .i64 (i':Int) :: .int .i64 (j':Int) :: r):=rvL_cons (gn rfl) (rvL_cons (gn rfl) hr);have hb:=jW hE' hc ⟨_,_,rfl,rfl,_,_,rfl,rfl,SL _ hLL⟩ hv;have hargs:(#[Value.int .i64 (i':Int),Value.int .i64 (j':Int)] ++ r.toArray)=(Value.int .i64 (i':Int) :: Value.int .i64 (j':Int) :: r).toArray:=by simp
   rw [hargs];refine hb.mono ?_;rintro e w' ⟨v,E2,rfl,JY,_,zN⟩;have:=bo JY;subst this;exact ⟨rfl,zN rfl⟩
  ·intro j hj;have pN:j < D.length:=sU hj;rw [cK hw,Nat.zero_add,OP];refine ⟨?_,?_⟩
   ·rw [getElem!_pos D.toArray j hj,<- hD];simp [pN,enc]
   ·simp [World.frozen?,hw]
theorem Ac {n m:Nat} {tk:List TkE}:∀ ds:List Nat,WeL n m tk (dInts ds).flatten (dInts ds).flatten
 | []=>rfl
 | b :: r=>⟨_,_,rfl,aw rfl,Ac r⟩
theorem q5 {n m:Nat} {tk:List TkE} {l:List DV} {ds:List Nat} (h:l=(dInts ds).flatten):WeL n m tk l (dInts ds).flatten:=by rw [h];exact Ac ds
def iS (n e:Nat):List Nat:=List.range e ++ List.replicate (n - e) 0
theorem Lv {n e:Nat} (h:e<=n):(iS n e).length=n:=by simp [iS];omega
theorem fillA_0 (n:Nat):(List.replicate n [DV.v (.int .i64 0)]).flatten=(dInts (iS n 0)).flatten:=by simp [iS,dInts]
theorem SM (n:Nat):iS n n=List.range n:=by simp [iS]
theorem oR (ds:List Nat):(dInts ds).flatten=ds.map fun (i:Nat)=>DV.v (.int .i64 (i:Int)):=by
 induction ds with
 | nil=>rfl
 | cons x r ih=>simp only [dInts,List.map_cons,List.flatten_cons] at ih ⊢;rw [ih];all_goals rfl
theorem Hc {n e:Nat} (h:e < n):(dInts (iS n e)).flatten.take e ++ [DV.v (.int .i64 (e:Int))] ++ (dInts (iS n e)).flatten.drop (e + 1)=(dInts (iS n (e + 1))).flatten:=by
 simp only [oR,<- List.map_take,<- List.map_drop];have e1:(iS n e).take e=List.range e:=by simp [iS]
 have e2:(iS n e).drop (e + 1)=List.replicate (n - (e + 1)) 0:=by
  simp only [iS,List.drop_append,List.length_range];rw [List.drop_eq_nil_of_le (by simp),List.nil_append,List.drop_replicate];congr 1;omega
 rw [e1,e2];simp [iS,List.range_succ]
abbrev OQ (L:List ByteArray) (e:Nat):St:=
 ⟨[aab 3 1,aab 4 3,aaa 16 ((fh L).length),aaa 17 e],
  [[.sl 1 (fh L) (some 0),.v (.slice none 0 0)],[.loc 0 0],(dInts (iS (fh L).length e)).flatten,[.ms 2 1 0 (fh L).length (fh L).length]],[⟨(fh L).length,9,1,none⟩]⟩
def gz (L:List ByteArray) (ds:List Nat) (i:Nat):Bool:=decide (i=0) || !decide (L.getD (ds.getD i 0) au=L.getD (ds.getD (i - 1) 0) au)
def fK (L:List ByteArray) (ds:List Nat) (e:Nat):List Nat:=((List.range e).filter (gz L ds)).map fun i=>ds.getD i 0
theorem wI (L:List ByteArray) (ds:List Nat) (e:Nat):fK L ds (e + 1)=fK L ds e ++ (if gz L ds e=true then [ds.getD e 0] else []):=by
 unfold fK;rw [List.range_succ,List.filter_append,List.map_append];congr 1;cases h:gz L ds e<;>simp [h]
theorem Lw (L:List ByteArray) (ds:List Nat) (e:Nat):(fK L ds e).length<=e:=by
 unfold fK;rw [List.length_map];exact Nat.le_trans (List.length_filter_le _ _) (by simp)
abbrev Xi (L:List ByteArray) (ds:List Nat):St:=
 ⟨[aab 3 1,aam 4 [.sl 1 (dInts ds) none],aad 29 1 (dInts ds),aaa 30 ((fh L).length),aaa 31 0],
  [[.sl 1 (fh L) (some 0),.v (.slice none 0 0)],[.loc 0 0]],[⟨(fh L).length,9,1,none⟩]⟩
abbrev D5 (L:List ByteArray) (ds aE:List Nat) (m e:Nat):St:=
 ⟨[aab 3 1,aam 4 [.sl 1 (dInts ds) none],aad 29 1 (dInts ds),aaa 30 ((fh L).length),aaa 31 e],
  [[.sl 1 (fh L) (some 0),.sl 1 (dInts aE) (some 1)],[.loc 0 0]],[⟨(fh L).length,9,1,none⟩,⟨m,3,1,none⟩]⟩
theorem getD_some {α:Type} {l:List α} {i:Nat} {x d:α} (h:l[i]? = some x):l.getD i d=x:=by simp [cH,h]
theorem sK {α:Type} {l:List α} {i:Nat} {d:α} (h:i < l.length):l[i]? = some (l.getD i d):=by
 rw [gE h,cH,gE h];all_goals rfl
theorem Xj {L:List ByteArray} {ds:List Nat} (pA:ds.Perm (List.range L.length)) (Lu:∀ i j p q:Nat,i < j->ds[i]? = some p->ds[j]? = some q->Df L q p=false):iR L (fK L ds L.length):=by
 have hlen:ds.length=L.length:=by rw [pA.length_eq,List.length_range]
 let D:Nat->Nat:=fun i=>ds.getD i 0
 let T:Nat->ByteArray:=fun i=>L.getD (D i) au
 have hD:∀ i,i < L.length->ds[i]? = some (D i):=fun i hi=>sK (by omega)
 have hDn:∀ i,i < L.length->D i < L.length:=fun i hi=>by
  have:=pA.mem_iff.1 (mG (hD i hi));exact List.mem_range.1 this
 have hT:∀ i,i < L.length->L[D i]? = some (T i):=fun i hi=>sK (hDn i hi)
 have fQ:∀ i j,i < j->j < L.length->T i=T j∨zo (T i) (T j)=true:=by
  intro i j mr hj;have h:=Lu i j (D i) (D j) mr (hD i (by omega)) (hD j hj);unfold Df at h;by_cases he:T j=T i
  ·exact .inl he.symm
  ·rw [ah he] at h;rcases JX h with h | h
   ·exact absurd h he
   ·exact .inr h
 have Vn:∀ i,i < L.length->gz L ds i=true->∀ j,j < i->zo (T j) (T i)=true:=by
  intro i hi hh j RO
  have aQ:T i≠T (i - 1):=by
   intro he;unfold gz at hh;have:decide (i=0)=false:=by simp;omega
   rw [this] at hh;simp only [Bool.false_or,Bool.not_eq_true',decide_eq_false_iff_not] at hh;exact hh he
  have h1:zo (T (i - 1)) (T i)=true:=by
   rcases fQ (i - 1) i (by omega) hi with h | h
   ·exact absurd h.symm aQ
   ·exact h
  by_cases hj:j=i - 1
  ·rw [hj];exact h1
  ·rcases fQ j (i - 1) (by omega) (by omega) with h | h
   ·rw [h];exact h1
   ·exact gJ h h1
 have zU:∀ j,j < L.length->∃ k,k < L.length/\D k=j:=by
  intro j hj;have:=pA.mem_iff.2 (List.mem_range.2 hj);obtain ⟨k,hk⟩:=List.getElem?_of_mem this;have ir:=(gS hk).1;exact ⟨k,by omega,getD_some hk⟩
 let H:=(List.range L.length).filter (gz L ds)
 have hH:∀ (a i:Nat),H[a]? = some i->i < L.length/\gz L ds i=true:=fun a i h=>by
  have:=mG h;simp only [H,List.mem_filter,List.mem_range] at this;exact this
 have Ly:∀ (a p:Nat),(fK L ds L.length)[a]? = some p->∃ i,H[a]? = some i/\D i=p:=by
  intro a p h;unfold fK at h;rw [List.getElem?_map] at h
  cases hh:H[a]? with
  | none=>rw [show (List.filter (gz L ds) (List.range L.length))[a]? = none from hh] at h;cases h
  | some i=>
   rw [show (List.filter (gz L ds) (List.range L.length))[a]? = some i from hh] at h;simp only [Option.map_some,oI] at h;exact ⟨i,rfl,h⟩
 have hinc:∀ (a b i k:Nat),a < b->H[a]? = some i->H[b]? = some k->i < k:=by
  intro a b i k pU hi hk;have hp:List.Pairwise (·< ·) H:=List.Pairwise.filter _ List.pairwise_lt_range;obtain ⟨ha,rfl⟩:=List.getElem?_eq_some_iff.1 hi;obtain ⟨hb,rfl⟩:=List.getElem?_eq_some_iff.1 hk;exact List.pairwise_iff_getElem.1 hp a b ha hb pU
 refine ⟨?_,?_,?_,?_⟩
 ·intro a p h;obtain ⟨i,hi,rfl⟩:=Ly a p h;exact hDn i (hH a i hi).1
 ·intro a b p q s t pU hp hq hs ht;obtain ⟨i,hi,rfl⟩:=Ly a p hp;obtain ⟨k,hk,rfl⟩:=Ly b q hq;rw [hT i (hH a i hi).1] at hs;rw [hT k (hH b k hk).1] at ht;simp only [oI] at hs ht;rw [<- hs,<- ht];exact Vn k (hH b k hk).1 (hH b k hk).2 i (hinc a b i k pU hi hk)
 ·intro a p j s hp hs hj;obtain ⟨i,hi,rfl⟩:=Ly a p hp;obtain ⟨vc,px⟩:=hH a i hi;obtain ⟨k,hk,rfl⟩:=zU j (gS hj).1;rw [hT i vc] at hs;rw [hT k hk] at hj;simp only [oI] at hs hj;rcases Nat.lt_trichotomy k i with h | h | h
  ·have:=Vn i vc px k h;rw [hs,hj,zo,lz] at this;cases this
  ·rw [h];exact aO _
  ·have h2:=Lu i k (D i) (D k) h (hD i vc) (hD k hk);unfold Df at h2
   have he:L.getD (D k) au=L.getD (D i) au:=by
    show T k=T i;rw [hj,hs]
   rw [ai he] at h2;simp at h2;omega
 ·intro j s hj;obtain ⟨k,hk,rfl⟩:=zU j (gS hj).1;rw [hT k hk] at hj;simp only [oI] at hj;obtain ⟨i,⟨vc,his⟩,acg⟩:=least (p:=fun i=>i < L.length/\T i=s) ⟨k,hk,hj⟩
  have px:gz L ds i=true:=by
   unfold gz;by_cases h0:i=0
   ·simp [h0]
   ·have aQ:¬ T i=T (i - 1):=fun he=>by
     have:=acg (i - 1) ⟨by omega,by rw [<- he];exact his⟩;omega
    have e1:decide (L.getD (ds.getD i 0) au=L.getD (ds.getD (i - 1) 0) au)=false:=decide_eq_false aQ;rw [e1];simp
  have hm:i∈H:=by simp only [H,List.mem_filter,List.mem_range];exact ⟨vc,px⟩
  obtain ⟨a,ha⟩:=List.getElem?_of_mem hm;refine ⟨a,D i,?_,by rw [hT i vc,his]⟩;unfold fK;rw [List.getElem?_map];rw [show (List.filter (gz L ds) (List.range L.length))[a]? = some i from ha];rfl
theorem wJ (L:List ByteArray) (hl:L.length<=1099511627776) :
  Ev prog 105 [.sl 1 (fh L) none] [] [] (fun r _ _=>∃ aE,iR L aE/\aE.length<=L.length/\r = .pt (dh L aE) 0):=by
 have hN:=cr L;refine eG 71 [.tmp 2] func105 rfl ntmps105 rfl fun _ _ _ _=>?_;refine ⟨⟨by simp [hN,maxLen];omega,by simp [hN];omega⟩,?_⟩;refine ⟨⟨rfl,by omega,by omega,by omega⟩,?_⟩;refine lJ (fun e=>OQ L e) L.length (QT 4 (by repeat' (first | exact rfl | exact aw rfl | exact q5 (fillA_0 _) | refine ⟨_,_,rfl,?_,?_⟩)) (by repeat' (first | exact trivial | exact aw rfl | exact q5 (fillA_0 _) | refine ⟨⟨_,rfl,?_⟩,?_⟩))) ?_;intro e he;refine br ?_ ?_<;>intro h
 ·have aq:e < (fh L).length:=sU h;refine ⟨⟨by omega,by omega⟩,?_⟩;have e1:(dInts (iS (fh L).length e)).flatten.length=(fh L).length:=by rw [oR,List.length_map,Lv (by omega)]
  refine ⟨by rw [e1];omega,?_⟩
  have cQ:(dInts (iS (fh L).length e)).flatten.set (0 + (e:Int).toNat * 1) (DV.v (.int .i64 (e:Int)))=(dInts (iS (fh L).length (e + 1))).flatten:=by
   rw [show 0 + (e:Int).toNat * 1=e by omega,List.set_eq_take_append_cons_drop,ai (by rw [e1];omega),<- Hc aq];simp
  refine ⟨OQ L (e + 1),(QT 4 (by repeat' (first | exact rfl | exact aw rfl | exact q5 cQ | exact ay (nxt aq (by omega)) | refine ⟨_,_,rfl,?_,?_⟩)) (by repeat' (first | exact trivial | exact aw rfl | exact q5 cQ | exact ay (nxt aq (by omega)) | refine ⟨⟨_,rfl,?_⟩,?_⟩))),L.length - (e + 1),by omega,e + 1,rfl,by omega,rfl⟩
 ·have aS:e=(fh L).length:=by
   have:¬ e < (fh L).length:=sU h;omega
  subst aS;rw [SM]
  have hms:∀ dk:List Nat,dk.length=(List.range (fh L).length).length->∀ bx:List (List DV),bx[2]? = some (dInts dk).flatten->∀ N0 n0 m0:Nat,N0<=2->Cc bx N0 n0 m0 (.sl 1 (dInts dk) none) (.ms 2 1 0 (fh L).length (fh L).length):=by
   intro dk hdk bx hb N0 n0 m0 hN0;simp only [Cc];refine Or.inr (Or.inr (Or.inl ⟨2,0,(fh L).length,_,?_,hN0,hb,?_,?_,?_⟩))
   ·rw [bw,hdk,List.length_range]
   ·rw [List.drop_zero,List.take_of_length_le];rw [oR,List.length_map,bw];omega
   ·intro x hx;simp only [dInts,List.mem_map] at hx;obtain ⟨_,_,rfl⟩:=hx;rfl
   ·intro x hx;rw [oR] at hx;obtain ⟨_,_,rfl⟩:=List.mem_map.1 hx;exact .inl ⟨_,rfl⟩
  refine Lt (ds:=List.range (fh L).length) rfl (by simp) (fh L).length (fun p hp=>List.mem_range.1 hp) (Df L) (SI L) rfl (by simp [hN];omega)
   (fun dk=>[.pt [.sl 1 (dInts dk) none] 0,.pt [.pt [.sl 1 (fh L) none,.v (.slice none 0 0)] 0] 0])
   (fun dk hdk=>⟨_,_,rfl,Or.inr ⟨3,_,rfl,Nat.zero_le _,rfl,⟨_,_,rfl,hms dk hdk _ rfl 0 0 0 (Nat.zero_le _),rfl⟩⟩,ax⟩)
   (fun dk hdk hp i j p q hi hj=>Lq L dk i j p q hi hj (by have:=hp p (mG hi);omega) (by have:=hp q (mG hj);omega)) rfl (fun ds pA Lu=>?_)
  have bz:ds.length=(fh L).length:=by rw [pA.length_eq,List.length_range]
  have ach:=hms ds (by rw [bz,List.length_range])
  refine Oa 2 (Xi L ds) rfl rfl rfl ⟨_,_,rfl,⟨_,_,rfl,⟨nL rfl,rfl⟩,_,_,rfl,rfl,rfl⟩,_,_,rfl,⟨_,_,rfl,⟨nL rfl,rfl⟩,rfl⟩,rfl⟩
   ⟨⟨_,rfl,⟨nL rfl,rfl⟩⟩,⟨_,rfl,Or.inr ⟨3,_,rfl,by decide,rfl,⟨_,_,rfl,ach _ rfl 2 0 0 (by decide),rfl⟩⟩⟩,⟨_,rfl,ach _ rfl 2 2 1 (by decide)⟩,⟨_,rfl,rfl⟩,⟨_,rfl,rfl⟩,trivial⟩ ?_
  refine aT (fun j st=>∃ e m:Nat,st=D5 L ds (fK L ds e) m e/\m=(fK L ds e).length/\e<=(fh L).length/\j=(fh L).length - e) (fh L).length (D5 L ds [] 0 0)
   (dT 2 ⟨0,3,1,none⟩ rfl rfl rfl qT rfl rfl wB) ⟨0,0,rfl,rfl,by omega,by omega⟩ ?_
  rintro j st ⟨e,m,rfl,hm,he,rfl⟩;have kO:=Lw L ds e;refine br ?_ ?_<;>intro h
  ·have aq:e < (fh L).length:=sU h;obtain ⟨p,hp⟩:∃ p,ds[e]? = some p:=⟨_,gE (by omega)⟩
   have hpL:p < L.length:=by
    have:=pA.mem_iff.1 (mG hp);rw [List.mem_range] at this;omega
   obtain ⟨s,hs⟩:∃ s,L[p]? = some s:=⟨_,gE hpL⟩;refine iX (eI hp) ?_;have hgp:ds.getD e 0=p:=by simp [cH,hp]
   have GJ:L.getD p au=s:=by simp [cH,hs]
   have eN:gz L ds e=true->fK L ds (e + 1)=fK L ds e ++ [p]:=fun hh=>by rw [wI,ai hh,hgp]
   have hold:gz L ds e=false->fK L ds (e + 1)=fK L ds e:=fun hh=>by rw [wI,ah (by rw [hh];decide),List.append_nil]
   have JZ:gz L ds e=true->dInts (fK L ds e) ++ [[DV.v (.int .i64 (p:Int))]]=dInts (fK L ds (e + 1)):=fun hh=>by rw [eN hh];simp [dInts]
   by_cases h0:e=0
   ·subst h0;have hh:gz L ds 0=true:=by simp [gz]
    refine dI ?_;refine dS ?_;refine ⟨by rw [bw,hm],⟨by simp [bw,maxLen];omega,by simp [bw];omega⟩,?_⟩;refine ⟨D5 L ds (fK L ds 1) (m + 1) 1,(QT 2 (by repeat' (first | exact rfl | exact aw rfl | exact ay (nxt aq (by omega)) | exact cI (JZ hh) rfl | refine ⟨_,_,rfl,?_,?_⟩)) (by repeat' (first | exact trivial | exact aw rfl | exact ay (nxt aq (by omega)) | exact cI (JZ hh) rfl | refine ⟨⟨_,rfl,?_⟩,?_⟩))),(fh L).length - 1,by omega,1,m + 1,rfl,by rw [eN hh,List.length_append,hm];rfl,by omega,rfl⟩
   ·obtain ⟨p',qU⟩:∃ p',ds[e - 1]? = some p':=⟨_,gE (by omega)⟩
    have hpL':p' < L.length:=by
     have:=pA.mem_iff.1 (mG qU);rw [List.mem_range] at this;omega
    obtain ⟨s',hs'⟩:∃ s',L[p']? = some s':=⟨_,gE hpL'⟩;have hgp':ds.getD (e - 1) 0=p':=by simp [cH,qU]
    have hgs':L.getD p' au=s':=by simp [cH,hs']
    have hhd:gz L ds e = !decide (s=s'):=by
     unfold gz;rw [hgp,hgp',GJ,hgs'];simp [h0]
    have hz:IntKind.i64.wrap ((e:Int) - 1)=((e - 1:Nat):Int):=by rw [wrap64 (by omega) (by omega)];omega
    refine dI ?_;refine br (fun _=>?_) (fun h=>?_)
    ·refine iX (fT hs) ?_;refine ⟨[.v (.int .i64 (p':Int))],⟨by rw [hz];omega,by rw [hz];exact eI qU⟩,?_⟩;refine iX (fT hs') ?_;refine br ?_ ?_<;>intro h2
     ·have hh:gz L ds e=true:=by
       rw [hhd];simp [ap,h0] at h2;simpa using h2
      refine dS ?_;refine ⟨by rw [bw,hm],⟨by simp [bw,maxLen];omega,by simp [bw];omega⟩,?_⟩;refine ⟨D5 L ds (fK L ds (e + 1)) (m + 1) (e + 1),(QT 2 (by repeat' (first | exact rfl | exact aw rfl | exact ay (nxt aq (by omega)) | exact cI (JZ hh) rfl | refine ⟨_,_,rfl,?_,?_⟩)) (by repeat' (first | exact trivial | exact aw rfl | exact ay (nxt aq (by omega)) | exact cI (JZ hh) rfl | refine ⟨⟨_,rfl,?_⟩,?_⟩))),(fh L).length - (e + 1),by omega,e + 1,m + 1,rfl,by rw [eN hh,List.length_append,hm];rfl,by omega,rfl⟩
     ·have hh:gz L ds e=false:=by
       rw [hhd];simp [ap,h0] at h2;simpa using h2
      have aK:dInts (fK L ds e)=dInts (fK L ds (e + 1)):=by rw [hold hh]
      refine ⟨D5 L ds (fK L ds (e + 1)) m (e + 1),(QT 2 (nQ (nxt aq (by omega)) aK) (gw (nxt aq (by omega)) aK)),(fh L).length - (e + 1),by omega,e + 1,m,rfl,by rw [hold hh,hm],by omega,rfl⟩
    ·exfalso;have:decide ((e:Int)=0)=true:=sU h;simp at this;exact h0 this
  ·have aS:e=L.length:=by
    have:¬ e < (fh L).length:=sU h;omega
   subst aS;exact ⟨.pt (dh L (fK L ds L.length)) 0,Or.inr ⟨0,_,rfl,Nat.zero_le _,rfl,ax⟩,_,Xj (by rw [<- hN];exact pA) Lu,kO,rfl⟩
abbrev aci (L:List ByteArray) (aE:List Nat) (e:Nat):St:=
 ⟨[aam 3 (dh L aE),aad 10 1 (fh L),aaa 11 ((fh L).length),aaa 12 e],[],[]⟩
theorem OR {α:Type}:∀ {l:List α},(∀ (i j:Nat) (x:α),j < i->l[i]? = some x->l[j]? ≠ some x)->l.Nodup
 | l,h=>by
  rw [List.nodup_iff_pairwise_ne,List.pairwise_iff_getElem];intro i j hi hj mr he;exact h j i l[j] mr (gE hj) (by rw [gE hi,he])
theorem pV (L:List ByteArray) (hl:L.length<=1099511627776) :
  Ev prog 112 [.sl 1 (fh L) none] [] [] (fun r _ _=>∃ z:Int,r = .v (.int .i64 z)/\(0<=z↔¬ L.Nodup)):=by
 have hN:=cr L;refine eG 28 [.tmp 2] func112 rfl ntmps112 rfl fun _ _ _ _=>?_;refine bE Oe rfl (wJ L hl) ax (fun r hr=>?_);obtain ⟨aE,hT,kO,rfl⟩:=hr;refine lI (fun j st=>∃ e:Nat,st=aci L aE e/\e<=L.length/\(∀ (i j:Nat) (x:ByteArray),i < e->j < i->L[i]? = some x->L[j]? ≠ some x)/\j=L.length - e) ⟨0,rfl,by omega,fun i j x hi=>by omega,rfl⟩ (wkM wB) ?_;rintro j st ⟨e,rfl,he,hinv,rfl⟩;refine br ?_ ?_<;>intro h
 ·have aq:e < L.length:=sV hN h;obtain ⟨s,hs⟩:=gX aq;obtain ⟨q,p,hq,hp⟩:=hT.all e s hs;have dX:=hT.fst q p e s hq hp hs;refine iX (fT hs) ?_;refine cP nS (find_spec L aE s q p hT (by omega) hq hp) ?_;refine br ?_ ?_<;>intro h2
  ·have h2:p < e:=sU h2;refine ⟨(e:Int),rfl,⟨fun _ hnd=>?_,fun _=>by omega⟩⟩;rw [List.nodup_iff_pairwise_ne,List.pairwise_iff_getElem] at hnd;obtain ⟨h3,h4⟩:=List.getElem?_eq_some_iff.1 hp;obtain ⟨h5,h6⟩:=List.getElem?_eq_some_iff.1 hs;exact hnd p e h3 h5 h2 (by rw [h4,h6])
  ·have h2:¬ p < e:=sU h2;refine ⟨aci L aE (e + 1),(wkM (wB1 (nxt aq (by omega)))),L.length - (e + 1),by omega,e + 1,rfl,by omega,fun i j x hi hj hx hjx=>?_,rfl⟩;by_cases D1:i=e
   ·subst D1;rw [hs] at hx;simp only [oI] at hx;subst hx;have:=hT.fst q p j s hq hp hjx;omega
   ·exact hinv i j x (by omega) hj hx hjx
 ·have aS:e=L.length:=by
   have:¬ e < L.length:=sV hN h;omega
  subst aS;refine ⟨-1,rfl,⟨fun h3=>by omega,fun h3=>?_⟩⟩;exact absurd (OR fun i j x mr hi hj=>hinv i j x (gS hi).1 mr hi hj) h3
def sameWds:List Wd->List Wd->Bool
 | [],[]=>true
 | x :: r,y :: s=>decide (x.s=y.s) && sameWds r s
 | _,_=>false
theorem tX:∀ {a b:List Wd},a.length≠b.length->sameWds a b=false
 | [],[],h=>(h rfl).elim
 | x :: r,y :: s,h=>by
  have:r.length≠s.length:=sU h;simp [sameWds,tX this]
 | [],y :: s,_=>rfl
 | x :: r,[],_=>rfl
abbrev BQ (a b:List Wd) (e:Nat):St:=
 ⟨[aad 0 2 (bJ a),aad 1 2 (bJ b),aaa 5 e],[],[]⟩
theorem mP (a b:List Wd) (hs:a.length<=4611686018427387904) :
  EvP prog 318 [.sl 2 (bJ a) none,.sl 2 (bJ b) none] (.v (.bool (sameWds a b))):=by
 refine eG 28 [.tmp 4] func318 rfl ntmps318 rfl fun _ _ _ _=>?_;refine br ?_ ?_<;>intro h
 ·have aQ:a.length≠b.length:=by have:=h;simp [aC] at this;omega
  exact congrArg (fun b=>DV.v (.bool b)) (tX aQ).symm
 ·have hl:a.length=b.length:=by have:=h;simp [aC] at this;omega
  refine aT (fun j st=>∃ e:Nat,st=BQ a b e/\e<=a.length/\sameWds a b=sameWds (a.drop e) (b.drop e)/\j=a.length - e) a.length
   (BQ a b 0) (wkM wB) ⟨0,rfl,by omega,rfl,by omega⟩ ?_
  rintro j st ⟨e,rfl,he,aK,rfl⟩;refine br ?_ ?_<;>intro h
  ·have aq:e < a.length:=by simpa [aC] using h
   obtain ⟨x,hx⟩:=gX aq;obtain ⟨y,hy⟩:∃ y,b[e]? = some y:=⟨_,gE (hl ▸ aq)⟩;rw [drop_cons hx,drop_cons hy] at aK;refine dI ?_;refine ⟨kv x,⟨by omega,aV hx⟩,kv y,⟨by omega,aV hy⟩,?_⟩;refine br ?_ ?_<;>intro h
   ·have aQ:x.s≠y.s:=sU h;refine (aae ?_:);rw [aK];simp [sameWds,aQ]
   ·have aQ:x.s=y.s:=sU h;refine ⟨BQ a b (e + 1),(wkM (wB1 (nxt aq (by omega)))),a.length - (e + 1),by omega,e + 1,rfl,by omega,?_,rfl⟩;rw [aK];simp [sameWds,aQ]
  ·have aS:e=a.length:=by have:=h;simp [aC] at this;omega
   refine (aae ?_:);rw [aK,aS,hl];simp [sameWds];rw [<- hl];simp [sameWds]
def bR (p q:Ph):Bool:=(p.bare == q.bare) && decide (p.wide=q.wide) && sameWds p.label q.label && decide (p.ck=q.ck) && decide (p.cn=q.cn) && sameWds p.cl q.cl
theorem mQ (p q:Ph) (tl tl':List DV) (hs:p.wt<=4611686018427387904) (ht:CcL [] 0 0 0 tl tl) (uK:CcL [] 0 0 0 tl' tl') :
  EvP prog 281 [.agg (G6 p tl),.agg (G6 q tl')] (.v (.bool (bR p q))):=by
 refine eG 51 [.tmp 4] func281 rfl ntmps281 rfl fun _ _ _ _=>?_;have h1:=bu p.label;have h2:=bu p.cl;simp only [Ph.wt] at hs;refine br ?_ ?_<;>intro h
 ·refine cP OC (mP p.label q.label (by omega)) ?_;refine br ?_ ?_<;>intro h2
  ·refine cP OC (mP p.cl q.cl (by omega)) ?_;refine (aae ?_:);simp [pickB_and] at h h2;simp [bR,pickB_and,h,h2]
  ·refine (aae ?_:);simp [pickB_and] at h h2;simp [bR,pickB_and,h]
   grind
 ·refine (aae ?_:);simp [pickB_and] at h;simp [bR]
  grind
def lA (h k:Hd):Bool:=decide (h.ag=k.ag) && decide (h.lo=k.lo) && decide (h.hi=k.hi) && decide (h.most=k.most) && decide (h.name.s=k.name.s) && sameWds h.af k.af
mutual
def sameTy:Ty->Ty->Bool
 | .mk h ps,.mk k qs=>lA h k && samePts ps qs
def samePts:Pts->Pts->Bool
 | .nil,.nil=>true
 | .cons p t r,.cons q u s=>decide (p.name.s=q.name.s) && bR p q && sameTy t u && samePts r s
 | _,_=>false
end
theorem tY:∀ {a b:Pts},a.len≠b.len->samePts a b=false
 | .nil,.nil,h=>(h rfl).elim
 | .cons p t r,.cons q u s,h=>by
  have:r.len≠s.len:=by simpa [Pts.len] using h
  simp [samePts,tY this]
 | .nil,.cons _ _ _,_=>by simp [samePts]
 | .cons _ _ _,.nil,_=>by simp [samePts]
def jL (h:Hd):Hd:=
 ⟨h.ag,0,if h.ag=2 then h.lo else 0,if h.ag=2 then h.hi else 0,if h.ag=3∨h.ag=5 then h.most else 0,if h.ag=4 then h.af else [],if h.ag=9 then h.name else ⟨au,0⟩⟩
def mask:Ty->Ty
 | .mk h ps=>.mk (jL h) (if 4 < h.ag/\h.ag < 9 then ps else .nil)
theorem Ad (bx:List (List DV)) (N n m:Nat) (t:Ty):CcL bx N n m (eE t) (eE t):=by
 obtain ⟨h,ps⟩:=t;simp only [eE,CcL,Cc]
 repeat' (first | exact rfl | exact trivial | exact Or.inr (Or.inl ⟨_,rfl⟩) | refine ⟨_,_,rfl,?_,?_⟩)
abbrev He (a b:Ty) (e:Nat):St:=
 ⟨[aab 2 0,aab 3 1,aaa 5 e],[eE a,eE b],[]⟩
theorem nU:∀ (n:Nat) (a b:Ty),a.wt<=n->a.wt<=4611686018427387904 ->
  EvP prog 317 [.agg (eE a),.agg (eE b)] (.v (.bool (sameTy a b)))
 | 0,a,b,hn,_=>by have:=a.dz;omega
 | n + 1,.mk h ps,.mk k qs,hn,cG=>by
  simp only [Ty.wt,Hd.wt] at hn cG;have hl:=bu h.af;have iJ:=ps.gf;refine eG 98 [.tmp 4] func317 rfl ntmps317 rfl fun _ _ _ _=>?_;refine br ?_ ?_<;>intro hA
  ·simp [ap] at hA;obtain ⟨⟨⟨⟨e1,e2⟩,e3⟩,e4⟩,e5⟩:=hA;refine cP OC (mP h.af k.af (by omega)) ?_;refine br ?_ ?_<;>intro hB
   ·refine (aae ?_:);simp [ap,e1,e2,e3,e4,e5,aJ] at hB;simp only [sameTy,lA];rcases hB with hB | hB
    ·simp [hB]
    ·have:ps.len≠qs.len:=by omega
     simp [tY this]
   ·simp [ap,e1,e2,e3,e4,e5,aJ] at hB;obtain ⟨e6,e7⟩:=hB;have e8:ps.len=qs.len:=by omega
    have eh:sameTy (.mk h ps) (.mk k qs)=samePts ps qs:=by simp [sameTy,lA,e1,e2,e3,e4,e5,e6]
    refine aT (fun j st=>∃ e:Nat,st=He (.mk h ps) (.mk k qs) e/\e<=ps.len/\samePts ps qs=samePts (ps.drop e) (qs.drop e)/\j=ps.len - e) ps.len
     (He (.mk h ps) (.mk k qs) 0) (wkM wB) ⟨0,rfl,by omega,rfl,by omega⟩ ?_
    rintro j st ⟨e,rfl,he,aK,rfl⟩;refine br ?_ ?_<;>intro hL
    ·have aq:e < ps.len:=by simpa [aJ] using hL
     obtain ⟨p,t,hx⟩:=Pts.eZ aq;obtain ⟨q,u,hy⟩:=Pts.eZ (e8 ▸ aq);rw [Pts.drop_cons hx,Pts.drop_cons hy] at aK;have D6:=Pts.gN (mG hx);obtain ⟨t,ts⟩:=t;obtain ⟨u,us⟩:=u;apply oN (fun _=>false) 10 11 [0,1,2,3,4,5,6,7,8,9,10,11,12,13] [0,1,2,3,4,5,6,7,8,9,11,10,12,13] 2 3 mo (by decide +kernel)
     ·refine ⟨_,⟨by omega,bW hx⟩,_,⟨by omega,bW hy⟩,?_⟩;refine (?_:@Eq St _ _);exact rfl
     ·refine ⟨_,⟨by omega,bW hx⟩,_,⟨by omega,bW hy⟩,?_⟩;refine (⟨rfl,rfl,?_⟩:_/\_/\_)
      repeat' (first | exact trivial | refine ⟨rfl,?_⟩)
     ·rfl
     refine br ?_ ?_<;>intro hC
     ·have hC:p.name.s=q.name.s:=sU hC;refine cP OA (mQ p q (eE (.mk t ts)) (eE (.mk u us)) (by omega) (Ad _ _ _ _ _) (Ad _ _ _ _ _)) ?_;refine br ?_ ?_<;>intro hD
      ·have hD:bR p q=true:=by simpa [ap,hC] using hD
       refine cP nT (nU n (.mk t ts) (.mk u us) (by omega) (by omega)) ?_;refine br ?_ ?_<;>intro hE
       ·refine (aae ?_:);rw [eh,aK];simp [ap,hC,hD] at hE;simp [samePts,hE]
       ·simp [ap,hC,hD] at hE;refine ⟨He (.mk h ps) (.mk k qs) (e + 1),(wkM (wB1 (nxt aq (by omega)))),ps.len - (e + 1),by omega,e + 1,rfl,by omega,?_,rfl⟩;rw [aK];simp [samePts,hC,hD,hE]
      ·have hD:bR p q=false:=by simpa [ap,hC] using hD
       refine (aae ?_:);rw [eh,aK];simp [samePts,hD]
     ·have hC:p.name.s≠q.name.s:=sU hC;refine (aae ?_:);rw [eh,aK];simp [samePts,hC]
    ·have aS:e=ps.len:=by have:=hL;simp [aJ] at this;omega
     refine (aae ?_:);rw [eh,aK,aS,Pts.dC,e8,Pts.dC];simp [samePts]
  ·refine (aae ?_:);simp [ap] at hA;simp only [sameTy,lA]
   grind
theorem D7 (t:Ty) (cG:t.wt<=4611686018427387904) :
  EvP prog 320 [.agg (eE t)] (.v (.bool (sameTy t cf))):=by
 obtain ⟨h,ps⟩:=t;refine eG 6 [.tmp 2] func320 rfl ntmps320 rfl fun _ _ _ _=>?_;refine cP nT (nU _ (.mk h ps) cf (aO _) cG) ?_;exact (rfl:_=_)
theorem Hf (t:Ty) (cG:t.wt<=4611686018427387904) :
  EvP prog 279 [.agg (eE t)] (.v (.bool (sameTy t (mask t)))):=by
 obtain ⟨h,ps⟩:=t
 have key:∀ (h':Hd) (ps':Pts),jL h=h' -> (if 4 < h.ag/\h.ag < 9 then ps else .nil)=ps' ->
   EvP prog 317 [.agg (eE (.mk h ps)),.agg (eE (.mk h' ps'))] (.v (.bool (sameTy (.mk h ps) (mask (.mk h ps))))):=by
  rintro h' ps' rfl rfl;exact nU _ (.mk h ps) _ (aO _) cG
 obtain ⟨ag,aG,lo,hi,most,af,name⟩:=h;by_cases hr:2<=ag/\ag<=9
 ·obtain hk | hk | hk | hk | hk | hk | hk | hk:ag=2∨ag=3∨ag=4∨ag=5∨ag=6∨ag=7∨ag=8∨ag=9:=by omega
  ·subst hk;refine eG 53 [.tmp 2] func279 rfl ntmps279 rfl fun _ _ _ _=>?_;refine cP nT (key ⟨2,0,lo,hi,0,[],⟨au,0⟩⟩ .nil (by simp [jL]) (by simp)) ?_;exact (rfl:_=_)
  ·subst hk;refine eG 53 [.tmp 2] func279 rfl ntmps279 rfl fun _ _ _ _=>?_;refine cP nT (key ⟨3,0,0,0,most,[],⟨au,0⟩⟩ .nil (by simp [jL]) (by simp)) ?_;exact (rfl:_=_)
  ·subst hk;refine eG 53 [.tmp 2] func279 rfl ntmps279 rfl fun _ _ _ _=>?_;refine cP nT (key ⟨4,0,0,0,0,af,⟨au,0⟩⟩ .nil (by simp [jL]) (by simp)) ?_;exact (rfl:_=_)
  ·subst hk;refine eG 53 [.tmp 2] func279 rfl ntmps279 rfl fun _ _ _ _=>?_;refine cP nT (key ⟨5,0,0,0,most,[],⟨au,0⟩⟩ ps (by simp [jL]) (by simp)) ?_;exact (rfl:_=_)
  ·subst hk;refine eG 53 [.tmp 2] func279 rfl ntmps279 rfl fun _ _ _ _=>?_;refine cP nT (key ⟨6,0,0,0,0,[],⟨au,0⟩⟩ ps (by simp [jL]) (by simp)) ?_;exact (rfl:_=_)
  ·subst hk;refine eG 53 [.tmp 2] func279 rfl ntmps279 rfl fun _ _ _ _=>?_;refine cP nT (key ⟨7,0,0,0,0,[],⟨au,0⟩⟩ ps (by simp [jL]) (by simp)) ?_;exact (rfl:_=_)
  ·subst hk;refine eG 53 [.tmp 2] func279 rfl ntmps279 rfl fun _ _ _ _=>?_;refine cP nT (key ⟨8,0,0,0,0,[],⟨au,0⟩⟩ ps (by simp [jL]) (by simp)) ?_;exact (rfl:_=_)
  ·subst hk;refine eG 53 [.tmp 2] func279 rfl ntmps279 rfl fun _ _ _ _=>?_;refine cP nT (key ⟨9,0,0,0,0,[],name⟩ .nil (by simp [jL]) (by simp)) ?_;exact (rfl:_=_)
 ·refine eG 53 [.tmp 2] func279 rfl ntmps279 rfl fun _ _ _ _=>?_;refine br (fun c=>?_) (fun c1=>?_)
  ·have:ag=2:=of_decide_eq_true c;omega
  refine br (fun c=>?_) (fun c2=>?_)
  ·simp [ap] at c;omega
  refine br (fun c=>?_) (fun c3=>?_)
  ·have:ag=4:=of_decide_eq_true c;omega
  refine br (fun c=>?_) (fun c4=>?_)
  ·simp [pickB_and] at c;omega
  refine br (fun c=>?_) (fun c5=>?_)
  ·have:ag=9:=of_decide_eq_true c;omega
  have e1:¬ ag=2:=of_decide_eq_false c1;have e3:¬ ag=4:=of_decide_eq_false c3;have e5:¬ ag=9:=of_decide_eq_false c5;simp [ap,pickB_and] at c2 c4;refine cP nT (key ⟨ag,0,0,0,0,[],⟨au,0⟩⟩ .nil (by simp [jL,e1,c2,e3,e5]) (by simp;omega)) ?_;exact (rfl:_=_)
abbrev Ft:Type:=Int × Int
def Ft.d (f:Ft):DV:=.agg [.v (.int .i64 f.1),.v (.int .i64 f.2)]
def badWd:List Wd->Ft
 | []=>(0,0)
 | w :: r=>if bd w.s then badWd r else (9,w.a)
def bS (l:List Wd):Ft:=
 if l.length<=32 then badWd l else (8,((l[32]?).getD (⟨au,0⟩:Wd)).a)
abbrev BR (l:List Wd) (e:Nat):St:=
 ⟨[aad 0 2 (bJ l),aab 2 0,aaa 3 e],[[.v (.int .i64 0),.v (.int .i64 0)]],[]⟩
theorem mR (l:List Wd) (hs:wdsWt l<=4611686018427387904) :
  EvP prog 277 [.sl 2 (bJ l) none] (bS l).d:=by
 have nz:=bu l;refine eG 32 [.cell 2 44] func277 rfl ntmps277 rfl fun _ _ _ _=>?_;refine br ?_ ?_<;>intro h
 ·have aq:32 < l.length:=by simp [aC] at h;omega
  obtain ⟨x,hx⟩:=gX aq;have:bS l=(8,x.a):=by simp [bS,Nat.not_le.2 aq,hx]
  refine ⟨kv x,⟨by omega,aV hx⟩,_,?_,rfl⟩;rw [this];exact ax
 ·have fQ:l.length<=32:=by simp [aC] at h;omega
  refine aT (fun j st=>∃ e:Nat,st=BR l e/\e<=l.length/\badWd l=badWd (l.drop e)/\j=l.length - e) l.length
   (BR l 0) (wkM wB) ⟨0,rfl,by omega,rfl,by omega⟩ ?_
  rintro j st ⟨e,rfl,he,aK,rfl⟩;refine br ?_ ?_<;>intro hL
  ·have aq:e < l.length:=by simpa [aC] using hL
   obtain ⟨x,hx⟩:=gX aq;rw [drop_cons hx] at aK;have pw:=jg (mG hx);refine ⟨kv x,⟨by omega,aV hx⟩,?_⟩;refine cP JP (kZ x.s (by omega)) ?_;refine br ?_ ?_<;>intro hN
   ·have hN:bd x.s=false:=sU hN;have:bS l=(9,x.a):=by simp [bS,fQ,aK,badWd,hN]
    refine ⟨kv x,⟨by omega,aV hx⟩,_,?_,rfl⟩;rw [this];exact ax
   ·have hN:bd x.s=true:=sU hN;refine ⟨BR l (e + 1),(wkM (wB1 (nxt aq (by omega)))),l.length - (e + 1),by omega,e + 1,rfl,by omega,?_,rfl⟩;rw [aK];simp [badWd,hN]
  ·have aS:e=l.length:=by simp [aC] at hL;omega
   have:bS l=(0,0):=by simp [bS,fQ,aK,aS,badWd]
   refine ⟨_,?_,rfl⟩;rw [this];exact ax
def bN (l:List Wd) (s:ByteArray):Bool:=l.any fun w=>decide (w.s=s)
def aF (l:List Wd) (i:Nat) (x:Wd):Int:=
 if bd x.s then (if bN (l.take i) x.s then 10 else 0) else 9
abbrev wK (l:List Wd) (i e:Nat):St:=
 ⟨[aad 0 2 (bJ l),aaa 1 i,aaa 5 e],[],[]⟩
theorem pB (l:List Wd) (i:Nat) (x:Wd) (hs:wdsWt l<=4611686018427387904) (hx:l[i]? = some x) :
  EvP prog 280 [.sl 2 (bJ l) none,.v (.int .i64 i)] (.v (.int .i64 (aF l i x))):=by
 have nz:=bu l;have hi:=(gS hx).1;have pw:=jg (mG hx);refine eG 29 [.tmp 4] func280 rfl ntmps280 rfl fun _ _ _ _=>?_;refine ⟨kv x,⟨by omega,aV hx⟩,?_⟩;refine cP JP (kZ x.s (by omega)) ?_;refine br ?_ ?_<;>intro hN
 ·have hN:bd x.s=false:=sU hN;refine (aan ?_:);simp [aF,hN]
 ·have hN:bd x.s=true:=sU hN
  refine aT (fun j st=>∃ e:Nat,st=wK l i e/\e<=i/\bN (l.take e) x.s=false/\j=i - e) i
   (wK l i 0) (wkM wB) ⟨0,rfl,by omega,rfl,by omega⟩ ?_
  rintro j st ⟨e,rfl,he,aK,rfl⟩;refine br ?_ ?_<;>intro hL
  ·have aq:e < i:=sU hL;obtain ⟨y,hy⟩:∃ y,l[e]? = some y:=⟨_,gE (by omega)⟩;refine dI ?_;refine ⟨kv y,⟨by omega,aV hy⟩,kv x,⟨by omega,aV hx⟩,?_⟩;refine br ?_ ?_<;>intro hE
   ·have hE:y.s=x.s:=sU hE;refine (aan ?_:)
    have:bN (l.take i) x.s=true:=by
     simp only [bN,List.any_eq_true];exact ⟨y,List.mem_take_iff_getElem.2 ⟨e,by omega,(gS hy).2⟩,by simpa using hE⟩
    simp [aF,hN,this]
   ·have hE:¬ y.s=x.s:=sU hE;refine ⟨wK l i (e + 1),(wkM (wB1 (nxt aq (by omega)))),i - (e + 1),by omega,e + 1,rfl,by omega,?_,rfl⟩;rw [List.take_add_one,hy];simp only [bN,List.any_append] at aK ⊢;simp [aK,hE]
  ·have aS:e=i:=by have:=of_decide_eq_false hL;omega
   refine (aan ?_:);subst aS;simp [aF,hN,aK]
def pNames:Pts->List Wd
 | .nil=>[]
 | .cons p _ r=>p.name :: pNames r
theorem gO:∀ ps:Pts,(pNames ps).length=ps.len
 | .nil=>rfl
 | .cons p t r=>by simp [pNames,Pts.len,gO r]
theorem gP:∀ {ps:Pts} {j:Nat} {p:Ph} {t:Ty},ps.toList[j]? = some (p,t)->(pNames ps)[j]? = some p.name
 | .nil,j,p,t,h=>by simp [Pts.toList] at h
 | .cons q u r,0,p,t,h=>by
  simp only [Pts.toList,List.getElem?_cons_zero,oI,Prod.mk.injEq] at h;obtain ⟨rfl,rfl⟩:=h;simp [pNames]
 | .cons q u r,j + 1,p,t,h=>by
  simp only [Pts.toList,List.getElem?_cons_succ] at h;simp only [pNames,List.getElem?_cons_succ];exact gP h
theorem sL:∀ ps:Pts,wdsWt (pNames ps)<=ps.wt
 | .nil=>aO _
 | .cons p t r=>by
  have:=sL r;simp only [pNames,wdsWt,Pts.wt,Ph.wt] at this ⊢;omega
abbrev BS (ps:Pts) (l:List Wd) (n e:Nat):St:=
 ⟨[aad 0 18 (gg ps),(3,⟨[],.sl 2 (bJ l) (some 0)⟩),aaa 4 e],[],[⟨n,27,2,none⟩]⟩
theorem BT (ps:Pts) (hs:ps.wt<=1099511627776):EvP prog 319 [.sl 18 (gg ps) none] (.sl 2 (bJ (pNames ps)) none):=by
 have iJ:=ps.gf;refine eG 20 [.tmp 2] func319 rfl ntmps319 rfl fun _ _ _ _=>?_
 refine aT (fun j st=>∃ (e:Nat),st=BS ps ((pNames ps).take e) e e/\e<=ps.len/\j=ps.len - e) ps.len
  (BS ps [] 0 0) (fG ⟨0,27,2,none⟩ rfl ⟨_,rfl⟩ rfl wA rfl rfl kr) ⟨0,by simp,by omega,by omega⟩ ?_
 rintro j st ⟨e,rfl,he,rfl⟩;refine br ?_ ?_<;>intro hL
 ·have aq:e < ps.len:=by simpa [aJ] using hL
  obtain ⟨p,t,hx⟩:=Pts.eZ aq;refine iX (bW hx) ?_;refine ⟨by simp [aC,gO];omega,⟨by simp [aC,gO,maxLen];omega,by simp [aC,gO];omega⟩,?_⟩;refine ⟨BS ps ((pNames ps).take (e + 1)) (e + 1) (e + 1),(wkM (gw (nxt aq (by omega)) (z8 (gP hx)))),ps.len - (e + 1),by omega,e + 1,rfl,by omega,rfl⟩
 ·have aS:e=ps.len:=by simp [aJ] at hL;omega
  rw [aS,List.take_of_length_le (by rw [gO];omega)];exact ⟨_,ax,rfl⟩
mutual
def Ty.cnt:Ty->Nat
 | .mk _ ps=>1 + ps.cnt
def Pts.cnt:Pts->Nat
 | .nil=>0
 | .cons p t r=>(if p.bare then 0 else t.cnt) + r.cnt
end
mutual
def Ty.deep:Ty->Nat
 | .mk _ ps=>ps.deep + 1
def Pts.deep:Pts->Nat
 | .nil=>0
 | .cons p t r=>max (if p.bare then 0 else t.deep) r.deep
end
mutual
theorem Ty.e9:∀ t:Ty,t.cnt<=t.wt
 | .mk h ps=>by have:=Pts.e9 ps;simp only [Ty.cnt,Ty.wt,Hd.wt];omega
theorem Pts.e9:∀ ps:Pts,ps.cnt<=ps.wt
 | .nil=>aO _
 | .cons p t r=>by
  have:=Ty.e9 t;have:=Pts.e9 r;simp only [Pts.cnt,Pts.wt];split<;>omega
end
mutual
theorem Ty.oS:∀ t:Ty,t.deep<=t.wt
 | .mk h ps=>by have:=Pts.oS ps;simp only [Ty.deep,Ty.wt,Hd.wt];omega
theorem Pts.oS:∀ ps:Pts,ps.deep<=ps.wt
 | .nil=>aO _
 | .cons p t r=>by
  have:=Ty.oS t;have:=Pts.oS r;simp only [Pts.deep,Pts.wt];split<;>omega
end
abbrev BU (t:Ty) (e n d:Nat):St:=
 ⟨[aab 1 0,aaa 4 n,aaa 5 d,aaa 6 e],[eE t],[]⟩
theorem k0:∀ (k:Nat) (t:Ty),t.wt<=k->t.wt<=1099511627776 ->
  EvP prog 101 [.agg (eE t)] (.tup [.v (.int .i64 t.cnt),.v (.int .i64 t.deep)])
 | 0,t,hn,_=>by have:=t.dz;omega
 | k + 1,.mk h ps,hn,cG=>by
  simp only [Ty.wt,Hd.wt] at hn cG;have iJ:=ps.gf;have hc:=ps.e9;have hdp:=ps.oS;refine eG 42 [.tmp 2,.tmp 3] func101 rfl ntmps101 rfl fun _ _ _ _=>?_
  refine aT (fun j st=>∃ (e n d:Nat),st=BU (.mk h ps) e n d/\e<=ps.len/\n + (ps.drop e).cnt=1 + ps.cnt/\max d (ps.drop e).deep=ps.deep/\j=ps.len - e) ps.len
   (BU (.mk h ps) 0 1 0) (wkM wB) ⟨0,1,0,rfl,by omega,rfl,by simp [Pts.drop],by omega⟩ ?_
  rintro j st ⟨e,n,d,rfl,he,aQ,Zk,rfl⟩;refine br ?_ ?_<;>intro hL
  ·have aq:e < ps.len:=by simpa [aJ] using hL
   obtain ⟨p,t,hx⟩:=Pts.eZ aq;have D6:=Pts.gN (mG hx);rw [Pts.drop_cons hx] at aQ Zk;simp only [Pts.cnt,Pts.deep] at aQ Zk;have RT:=t.e9;have Vo:=t.oS;refine iX (bW hx) ?_;refine br ?_ ?_<;>intro hB
   ·rw [ai hB] at aQ Zk;exact rE ⟨_,by omega,e + 1,n,d,rfl,by omega,by omega,by omega,rfl⟩ (wkM (wB1 (nxt aq (by omega))))
   ·rw [ah (by simp [hB])] at aQ Zk;obtain ⟨u,us⟩:=t;refine iX (bW hx) ?_;refine cP JK (k0 k (.mk u us) (by omega) (by omega)) ?_;have tZ:IntKind.i64.wrap ((n:Int) + (Ty.mk u us).cnt)=((n + (Ty.mk u us).cnt:Nat):Int):=by rw [wrap64 (by omega) (by omega)];omega
    refine br ?_ ?_<;>intro hD
    ·have hD:d < (Ty.mk u us).deep:=sU hD;exact ⟨BU (.mk h ps) (e + 1) (n + (Ty.mk u us).cnt) (Ty.mk u us).deep,(wkM (gw tZ (nxt aq (by omega)))),ps.len - (e + 1),by omega,e + 1,_,_,rfl,by omega,by omega,by omega,rfl⟩
    ·have hD:¬ d < (Ty.mk u us).deep:=sU hD;exact ⟨BU (.mk h ps) (e + 1) (n + (Ty.mk u us).cnt) d,(wkM (gw tZ (nxt aq (by omega)))),ps.len - (e + 1),by omega,e + 1,_,_,rfl,by omega,by omega,by omega,rfl⟩
  ·have aS:e=ps.len:=by simp [aJ] at hL;omega
   rw [aS,Pts.dC] at aQ Zk;simp only [Pts.cnt,Pts.deep] at aQ Zk;have e1:IntKind.i64.wrap ((d:Int) + 1)=((Ty.mk h ps).deep:Int):=by rw [wrap64 (by omega) (by omega)];simp only [Ty.deep];omega
   have e2:(n:Int)=((Ty.mk h ps).cnt:Int):=by simp only [Ty.cnt];omega
   refine ⟨_,?_,rfl⟩;rw [<- e1,<- e2];exact ax
def wD (f:Ft) (n:Int):DV:=.agg [.v (.int .i64 f.1),.v (.int .i64 f.2),.v (.int .i64 n)]
theorem eS (f:Ft) (n e a:Int):EvP prog 278 [wD f n,.v (.int .i64 e),.v (.int .i64 a)] (wD (e,a) n):=by
 refine eG 13 [.cell 6 335] func278 rfl ntmps278 rfl fun _ _ _ _=>?_;exact ⟨_,ax,rfl⟩
def bc (p:Ph):Ft:=
 if p.ck=0 then (if p.cn=0/\p.cl=[] then (0,0) else (19,p.name.a))
 else if p.ck < 0∨3 < p.ck then (14,p.ca)
 else if (p.ck=1/\p.cn < 1)∨(p.ck=2/\(p.cn < 0∨4096 < p.cn))∨(p.ck=3/\p.cn≠0) then (20,p.ca)
 else bS p.cl
theorem zp (p:Ph) (tl:List DV) (hs:p.wt<=4611686018427387904) :
  EvP prog 321 [.agg (G6 p tl)] (bc p).d:=by
 simp only [Ph.wt] at hs;refine eG 73 [.cell 2 44] func321 rfl ntmps321 rfl fun _ _ _ _=>?_;refine br ?_ ?_<;>intro h0
 ·have h0:p.ck=0:=sU h0;refine br ?_ ?_<;>intro h1
  ·have:bc p=(19,p.name.a):=by
    simp [ap,aC] at h1;simp only [bc,h0,if_true];rw [ah];rintro ⟨h2,h3⟩;rcases h1 with h1 | h1
    ·exact h1 h2
    ·simp [h3] at h1
   refine ⟨_,?_,rfl⟩;rw [this];exact ax
  ·have:bc p=(0,0):=by
    simp [ap,aC] at h1;simp [bc,h0,h1.1,h1.2]
   refine ⟨_,?_,rfl⟩;rw [this];exact ax
 ·have h0:¬ p.ck=0:=sU h0;refine br ?_ ?_<;>intro h1
  ·have:bc p=(14,p.ca):=by
    simp [ap] at h1;simp [bc,h0,h1]
   refine ⟨_,?_,rfl⟩;rw [this];exact ax
  ·simp [ap] at h1;refine br ?_ ?_<;>intro h2
   ·have:bc p=(20,p.ca):=by
     simp [ap,pickB_and] at h2;simp only [bc,h0,if_false];rw [ah (by omega),ai (by omega)]
    refine ⟨_,?_,rfl⟩;rw [this];exact ax
   ·have hc:bc p=bS p.cl:=by
     simp [ap,pickB_and] at h2;simp only [bc,h0,if_false];rw [ah (by omega),ah (by omega)]
    refine cP Oz (mR p.cl (by omega)) ?_;refine ⟨_,?_,rfl⟩;rw [hc];exact ax
def enumL (all:List Wd):Nat->List Wd->Ft
 | _,[]=>(0,0)
 | i,x :: r=>if aF all i x≠0 then (aF all i x,x.a) else enumL all (i + 1) r
def jj (h:Hd):Ft:=
 if h.af=[] then (15,h.aG)
 else if 64 < h.af.length then (8,((h.af[64]?).getD (⟨au,0⟩:Wd)).a)
 else enumL h.af 0 h.af
def dZ (p:Ph):Ft:=
 if p.wide < 0∨64 < p.wide then (20,p.name.a)
 else if (bS p.label).1≠0 then bS p.label
 else bc p
def uQ (t:Ty):Bool:=sameTy t (mask t)
mutual
def wrong:Ty->Int->Int->Ft × Int
 | .mk h ps,depth,m=>
  if 24 < depth then ((6,h.aG),m + 1)
  else if 512 < m + 1 then ((8,h.aG),m + 1)
  else if h.ag < 1∨9 < h.ag then ((14,h.aG),m + 1)
  else if uQ (.mk h ps)=false then ((19,h.aG),m + 1)
  else if (h.ag=2/\h.hi < h.lo)∨(h.ag=3/\(h.most < 0∨4096 < h.most)) then ((20,h.aG),m + 1)
  else if h.ag=9/\bd h.name.s=false then ((9,h.name.a),m + 1)
  else if h.ag=4 then (jj h,m + 1)
  else if h.ag=5∨h.ag=6 then wrongOne h ps depth (m + 1)
  else if h.ag=7∨h.ag=8 then
   if h.ag=8/\ps.len=0 then ((15,h.aG),m + 1)
   else if 64 < ps.len then ((8,(((pNames ps)[64]?).getD (⟨au,0⟩:Wd)).a),m + 1)
   else wrongPts h.ag (pNames ps) 0 ps depth (m + 1)
  else ((0,0),m + 1)
def wrongOne:Hd->Pts->Int->Int->Ft × Int
 | h,.cons p t .nil,depth,m=>
  if p.name.s≠au∨bR p fo=false then ((19,h.aG),m)
  else if h.most < 0∨1024 < h.most then ((20,h.aG),m)
  else wrong t (depth + 1) m
 | h,_,_,m=>((19,h.aG),m)
def wrongPts (ag:Int) (all:List Wd):Nat->Pts->Int->Int->Ft × Int
 | _,.nil,_,m=>((0,0),m)
 | i,.cons p t r,depth,m=>
  if aF all i p.name≠0 then ((aF all i p.name,p.name.a),m)
  else if p.bare=true then
   if ag=7∨sameTy t cf=false∨bR p fJ=false then ((19,p.name.a),m) else wrongPts ag all (i + 1) r depth m
  else if (dZ p).1≠0 then (dZ p,m)
  else if (wrong t (depth + 1) m).1.1≠0 then wrong t (depth + 1) m
  else wrongPts ag all (i + 1) r depth (wrong t (depth + 1) m).2
end
def BV (k:Nat):Prop:=∀ (t:Ty) (depth m:Int),t.wt<=k->t.wt<=1099511627776->0<=depth->depth<=25->0<=m->m<=512 ->
 EvP prog 242 [wD (0,0) m,.agg (eE t),.v (.int .i64 depth)] (wD (wrong t depth m).1 (wrong t depth m).2)
abbrev J0 (t:Ty) (e:Nat) (depth m:Int):St:=
 ⟨[aaa 2 depth,aab 3 0,aab 4 1,aab 6 2,aaa 7 e],[[.v (.int .i64 0),.v (.int .i64 0),.v (.int .i64 m)],eE t,[.v (.int .i64 0),.v (.int .i64 0),.v (.int .i64 0)]],[]⟩
def fp (h:Hd) (ps:Pts) (depth m:Int):Ft × Int:=
 if h.ag=8/\ps.len=0 then ((15,h.aG),m)
 else if 64 < ps.len then ((8,(((pNames ps)[64]?).getD (⟨au,0⟩:Wd)).a),m)
 else wrongPts h.ag (pNames ps) 0 ps depth m
theorem D8 (all:List Wd):∀ (l:List Wd) (i:Nat),(enumL all i l).1=0->enumL all i l=(0,0)
 | [],_,_=>rfl
 | x :: r,i,h=>by
  have ih:=D8 all r (i + 1);simp only [enumL] at h ⊢;split at h
  ·rename_i hc;exact (hc h).elim
  ·rename_i hc;rw [ah hc];exact ih h
theorem Ae (h:Hd) (he:(jj h).1=0):jj h=(0,0):=by
 unfold jj at he ⊢;split at he
 ·simp at he
 ·split at he
  ·simp at he
  ·rename_i h1 h2;rw [ah h1,ah h2];exact D8 _ _ _ he
mutual
theorem q6:∀ (t:Ty) (depth m:Int),0<=m->(wrong t depth m).1.1=0->(wrong t depth m).1=(0,0)/\0<=(wrong t depth m).2/\(wrong t depth m).2<=512
 | .mk h ps,depth,m,hm,he=>by
  have i1:=D9 h ps depth (m + 1) (by omega);have i2:=nV h.ag (pNames ps) ps 0 depth (m + 1) (by omega);have i3:=Ae h;simp only [wrong] at he ⊢;by_cases c0:24 < depth
  ·rw [ai c0] at he;simp at he
  rw [ah c0] at he ⊢;by_cases c1:512 < m + 1
  ·rw [ai c1] at he;simp at he
  rw [ah c1] at he ⊢;by_cases c2:h.ag < 1∨9 < h.ag
  ·rw [ai c2] at he;simp at he
  rw [ah c2] at he ⊢;by_cases c3:uQ (.mk h ps)=false
  ·rw [ai c3] at he;simp at he
  rw [ah c3] at he ⊢;by_cases c4:(h.ag=2/\h.hi < h.lo)∨(h.ag=3/\(h.most < 0∨4096 < h.most))
  ·rw [ai c4] at he;simp at he
  rw [ah c4] at he ⊢;by_cases c5:h.ag=9/\bd h.name.s=false
  ·rw [ai c5] at he;simp at he
  rw [ah c5] at he ⊢;by_cases k4:h.ag=4
  ·rw [ai k4] at he ⊢;exact ⟨i3 he,by simp only;omega,by simp only;omega⟩
  rw [ah k4] at he ⊢;by_cases k5:h.ag=5∨h.ag=6
  ·rw [ai k5] at he ⊢;exact i1 (by omega) he
  rw [ah k5] at he ⊢;by_cases k7:h.ag=7∨h.ag=8
  ·rw [ai k7] at he ⊢;by_cases k8:h.ag=8/\ps.len=0
   ·rw [ai k8] at he;simp at he
   rw [ah k8] at he ⊢;by_cases k9:64 < ps.len
   ·rw [ai k9] at he;simp at he
   rw [ah k9] at he ⊢;exact i2 (by omega) he
  ·rw [ah k7];exact ⟨rfl,by simp only;omega,by simp only;omega⟩
theorem D9:∀ (h:Hd) (ps:Pts) (depth m:Int),0<=m->m<=512->(wrongOne h ps depth m).1.1=0->(wrongOne h ps depth m).1=(0,0)/\0<=(wrongOne h ps depth m).2/\(wrongOne h ps depth m).2<=512
 | h,.nil,depth,m,hm,_,he=>by simp [wrongOne] at he
 | h,.cons p t .nil,depth,m,hm,h5,he=>by
  have ih:=q6 t (depth + 1) m hm;simp only [wrongOne] at he ⊢;split at he
  ·simp at he
  ·split at he
   ·simp at he
   ·rename_i h1 h2;rw [ah h1,ah h2];exact ih he
 | h,.cons p t (.cons _ _ _),depth,m,hm,_,he=>by simp [wrongOne] at he
theorem nV (ag:Int) (all:List Wd):∀ (ps:Pts) (i:Nat) (depth m:Int),0<=m->m<=512->(wrongPts ag all i ps depth m).1.1=0->(wrongPts ag all i ps depth m).1=(0,0)/\0<=(wrongPts ag all i ps depth m).2/\(wrongPts ag all i ps depth m).2<=512
 | .nil,i,depth,m,hm,h5,he=>by simp only [wrongPts];exact ⟨trivial,hm,h5⟩
 | .cons p t r,i,depth,m,hm,h5,he=>by
  have i1:=q6 t (depth + 1) m hm;simp only [wrongPts] at he ⊢;split at he
  ·rename_i h1;exact (h1 he).elim
  ·rename_i h1;rw [ah h1];split at he
   ·rename_i h2;rw [ai h2];split at he
    ·simp at he
    ·rename_i h3;rw [ah h3];exact nV ag all r (i + 1) depth m hm h5 he
   ·rename_i h2;rw [ah h2];split at he
    ·rename_i h3;exact (h3 he).elim
    ·rename_i h3;rw [ah h3];split at he
     ·rename_i h4;exact (h4 he).elim
     ·rename_i h4;rw [ah h4];have i2:=i1 (sU h4);exact nV ag all r (i + 1) depth _ i2.2.1 i2.2.2 he
end
theorem BW (k:Nat) (ih:BV k) (h:Hd) (ps:Pts) (depth m:Int) (hk:ps.wt<=k) (cG:(Ty.mk h ps).wt<=1099511627776) (Aa:0<=depth) (Af:depth<=24) (kg:0<=m) (gy:m<=512) :
  EvP prog 282 [wD (0,0) m,.agg (eE (.mk h ps)),.v (.int .i64 depth)] (wD (fp h ps depth m).1 (fp h ps depth m).2):=by
 simp only [Ty.wt,Hd.wt] at cG;have iJ:=ps.gf;have Xk:=sL ps;refine eG 126 [.cell 6 335] func282 rfl ntmps282 rfl fun _ _ _ _=>?_;refine br ?_ ?_<;>intro c1
 ·refine cP gZ (eS (0,0) m 15 h.aG) ?_
  have:fp h ps depth m=((15,h.aG),m):=by
   simp [pickB_and,aJ] at c1;have:ps.len=0:=by omega
   simp [fp,c1.1,this]
  refine ⟨_,?_,rfl⟩;rw [this];exact ax
 ·have c1':¬ (h.ag=8/\ps.len=0):=by
   simp [pickB_and,aJ] at c1;omega
  refine br ?_ ?_<;>intro c2
  ·have aq:64 < ps.len:=by simp [aJ] at c2;omega
   obtain ⟨p,t,hx⟩:=Pts.eZ aq;refine jA (fun i=>Nat.beq i 8) mo (by decide +kernel) ?_;refine iX (bW hx) ?_;refine cD gZ (eS (0,0) m 8 p.name.a) ?_
   have:fp h ps depth m=((8,p.name.a),m):=by
    simp only [fp,ah c1',ai aq,gP hx];rfl
   refine ⟨_,?_,rfl⟩;rw [this];exact ax
  ·have c2':¬ 64 < ps.len:=by simp [aJ] at c2;omega
   have hF:fp h ps depth m=wrongPts h.ag (pNames ps) 0 ps depth m:=by simp only [fp,ah c1',ah c2']
   refine aT (fun j st=>∃ (e:Nat) (m':Int),st=J0 (.mk h ps) e depth m' /\ e<=ps.len/\0<=m' /\ m' <= 512 /\
     wrongPts h.ag (pNames ps) 0 ps depth m=wrongPts h.ag (pNames ps) e (ps.drop e) depth m' /\ j=ps.len - e) ps.len
    (J0 (.mk h ps) 0 depth m) (wkM wB) ⟨0,m,rfl,by omega,kg,gy,rfl,by omega⟩ ?_
   rintro j st ⟨e,m',rfl,he,uR,Ea,aK,rfl⟩;refine br ?_ ?_<;>intro hL
   ·have aq:e < ps.len:=by simpa [aJ] using hL
    obtain ⟨p,t,hx⟩:=Pts.eZ aq;rw [Pts.drop_cons hx] at aK;have D6:=Pts.gN (mG hx);obtain ⟨u,us⟩:=t;refine iX (bW hx) ?_;refine cP abG (BT ps (by omega)) ?_;refine cP U8 (pB (pNames ps) e p.name (by omega) (gP hx)) ?_;refine br ?_ ?_<;>intro hl
    ·have hl:aF (pNames ps) e p.name≠0:=sU hl;refine cP gZ (eS (0,0) m' _ p.name.a) ?_
     have:fp h ps depth m=((aF (pNames ps) e p.name,p.name.a),m'):=by
      rw [hF,aK];simp only [wrongPts];rw [ai hl]
     refine ⟨_,?_,rfl⟩;rw [this];exact ax
    ·have hl:aF (pNames ps) e p.name=0:=sU hl;simp only [wrongPts] at aK;rw [ah (by simp [hl])] at aK;refine br ?_ ?_<;>intro hB
     ·rw [ai hB] at aK;refine br ?_ ?_<;>intro k7
      ·have k7:¬ h.ag=7:=sU k7;refine cP abH (D7 (.mk u us) (by omega)) ?_;refine br ?_ ?_<;>intro z
       ·have z:sameTy (.mk u us) cf=true:=by simpa [ap,k7] using z
        refine cP OA (mQ p fJ (eE (.mk u us)) (eE cf) (by omega) (Ad _ _ _ _ _) (Ad _ _ _ _ _)) ?_;refine br ?_ ?_<;>intro q
        ·have q:bR p fJ=false:=by simpa [ap,k7,z] using q
         refine cP gZ (eS (0,0) m' 19 p.name.a) ?_;rw [ai (by simp [q])] at aK;refine ⟨_,?_,rfl⟩;rw [hF,aK];exact ax
        ·have q:bR p fJ=true:=by simpa [ap,k7,z] using q
         rw [ah (by simp [k7,z,q])] at aK;exact rE ⟨_,by omega,e + 1,m',rfl,by omega,uR,Ea,aK,rfl⟩ (wkM (wB1 (nxt aq (by omega))))
       ·have z:sameTy (.mk u us) cf=false:=by simpa [ap,k7] using z
        refine cP gZ (eS (0,0) m' 19 p.name.a) ?_;rw [ai (by simp [z])] at aK;refine ⟨_,?_,rfl⟩;rw [hF,aK];exact ax
      ·have k7:h.ag=7:=sU k7;refine cP gZ (eS (0,0) m' 19 p.name.a) ?_;rw [ai (by simp [k7])] at aK;refine ⟨_,?_,rfl⟩;rw [hF,aK];exact ax
     ·rw [ah (by simp [hB])] at aK;refine br ?_ ?_<;>intro hw
      ·have hP:dZ p=(20,p.name.a):=by
        simp [ap] at hw;simp only [dZ,ai hw]
       rw [ai (by rw [hP];simp),hP] at aK;refine ⟨_,?_,rfl⟩;rw [hF,aK];exact ax
      ·have hw:¬ (p.wide < 0∨64 < p.wide):=by simp [ap] at hw;omega
       have hpw:p.wt<=ps.wt:=by omega
       simp only [Ph.wt] at hpw;refine cP Oz (mR p.label (by omega)) ?_;refine br ?_ ?_<;>intro hb
       ·have hb:(bS p.label).1=0:=sU hb;have hP:dZ p=bc p:=by simp only [dZ,ah hw,hb,ne_eq,not_true_eq_false,if_false]
        rw [hP] at aK;refine cP abI (zp p (eE (.mk u us)) (by omega)) ?_ (by repeat' (first | exact rfl | exact trivial | exact Or.inr (Or.inl ⟨_,rfl⟩) | exact Or.inr ⟨_,rfl⟩ | exact Or.inl ⟨rfl,rfl⟩ | exact Or.inl rfl | refine Or.inr ⟨_,_,rfl,Nat.zero_le _,rfl,?_⟩ | refine ⟨_,_,rfl,?_,?_⟩ | refine ⟨_,rfl,?_⟩ | exact congrArg DV.agg rfl| refine Or.inr (Or.inr (Or.inr ⟨_,_,rfl,?_⟩)) | exact Or.inl rfl | refine Or.inr ?_));refine br ?_ ?_<;>intro hc
        ·have hc:(bc p).1≠0:=sU hc;rw [ai hc] at aK;refine ⟨_,?_,rfl⟩;rw [hF,aK];exact ax
        ·have hc:(bc p).1=0:=sU hc;rw [ah (by simp [hc])] at aK;have px:=ih (.mk u us) (depth + 1) m' (by omega) (by omega) (by omega) (by omega) uR Ea;have bZ:=q6 (.mk u us) (depth + 1) m' uR;generalize wrong (.mk u us) (depth + 1) m'=r at px bZ aK;obtain ⟨⟨fe,fa⟩,many⟩:=r;simp only at px bZ aK;refine cP Ow px ?_ (by repeat' (first | exact rfl | exact trivial | exact Or.inr (Or.inl ⟨_,rfl⟩) | exact Or.inr ⟨_,rfl⟩ | exact Or.inl ⟨rfl,rfl⟩ | exact Or.inl rfl | refine Or.inr ⟨_,_,rfl,Nat.zero_le _,rfl,?_⟩ | refine ⟨_,_,rfl,?_,?_⟩ | refine ⟨_,rfl,?_⟩ | exact congrArg (fun z=>DV.v (.int .i64 z)) (wrap64 (by omega) (by omega))| refine Or.inr (Or.inr (Or.inr ⟨_,_,rfl,?_⟩)) | exact Or.inl rfl | refine Or.inr ?_));refine br ?_ ?_<;>intro hd
         ·have hd:fe≠0:=sU hd;rw [ai hd] at aK;refine ⟨_,?_,rfl⟩;rw [hF,aK];exact ax
         ·have hd:fe=0:=sU hd;subst hd;obtain ⟨h1,h2,h3⟩:=bZ rfl;simp only [Prod.mk.injEq,true_and] at h1;subst h1;rw [ah (by simp)] at aK;exact rE ⟨_,by omega,e + 1,many,rfl,by omega,h2,h3,aK,rfl⟩ (wkM (wB1 (nxt aq (by omega))))
       ·have hb:¬ (bS p.label).1=0:=sU hb;have hP:dZ p=bS p.label:=by simp only [dZ,ah hw];rw [ai hb]
        rw [hP,ai hb] at aK;refine br ?_ ?_<;>intro hc
        ·refine ⟨_,?_,rfl⟩;rw [hF,aK];exact ax
        ·exact (hb (sU hc)).elim
   ·have aS:e=ps.len:=by simp [aJ] at hL;omega
    rw [aS,Pts.dC] at aK;refine ⟨_,?_,rfl⟩;rw [hF,aK];simp only [wrongPts];exact ax
theorem bA (e a:Int):EvP prog 252 [.v (.int .i64 e),.v (.int .i64 a)] (Ft.d (e,a)):=by
 refine eG 8 [.cell 4 44] func252 rfl ntmps252 rfl fun _ _ _ _=>?_;exact ⟨_,ax,rfl⟩
noncomputable def iu (L:List ByteArray) (x:ByteArray) (a:Int):Ft:=if bd x=true then (if L.Nodup then (0,0) else (10,a)) else (9,a)
theorem ua (L:List ByteArray) (x:ByteArray) (a:Int) (hx:L[L.length - 1]? = some x) (hl:L.length<=1099511627776) (pw:x.size<=4611686018427387904) :
  EvP prog 303 [.sl 1 (fh L) none,.v (.int .i64 a)] (iu L x a).d:=by
 have hN:=cr L;have kN:=(gS hx).1;have hz:IntKind.i64.wrap (((fh L).length:Int) - 1)=((L.length - 1:Nat):Int):=by rw [hN,wrap64 (by omega) (by omega)];omega
 refine eG 23 [.cell 4 44] func303 rfl ntmps303 rfl fun _ _ _ _=>?_;refine ⟨[.v (.string x)],⟨by rw [hz];omega,by rw [hz];exact fT hx⟩,?_⟩;refine cP wo (ji x pw) ?_;refine br ?_ ?_<;>intro h
 ·have h:bd x=false:=sU h;refine cP eH (bA 9 a) ?_;refine ⟨_,?_,rfl⟩;rw [iu,ah (by rw [h];decide)];exact ax
 ·have h:bd x=true:=sU h;refine bE Og rfl (pV L hl) ax (fun r hr=>?_);obtain ⟨z,rfl,hz⟩:=hr;refine br ?_ ?_<;>intro h2
  ·have h2:0<=z:=sU h2;refine cP eH (bA 10 a) ?_;refine ⟨_,?_,rfl⟩;rw [iu,ai h,ah (hz.1 h2)];exact ax
  ·have h2:¬ 0<=z:=sU h2;refine ⟨_,?_,rfl⟩;rw [iu,ai h,ai (Classical.byContradiction fun hn=>h2 (hz.2 hn))];exact ax
theorem Hg {l:List Wd} {e:Nat} {x:Wd} (h:l[e]? = some x):bJ ((l.map fun w=>(⟨w.s,0⟩:Wd)).take e) ++ [[.v (.string x.s),.v (.int .i64 0)]]=bJ ((l.map fun w=>(⟨w.s,0⟩:Wd)).take (e + 1)):=by
 have h2:(l.map fun w=>(⟨w.s,0⟩:Wd))[e]? = some ⟨x.s,0⟩:=by simp [h]
 exact z8 h2
def jk (l:List Wd):List Wd:=l.map fun w=>⟨w.s,0⟩
abbrev OS (l l':List Wd) (n e:Nat):St:=
 ⟨[aad 6 2 (bJ l),aaa 7 ((bJ l).length),aaa 8 e,(3,⟨[],.sl 2 (bJ l') (some 0)⟩)],[],[⟨n,27,2,none⟩]⟩
theorem wM (l:List Wd) (hs:wdsWt l<=1099511627776):EvP prog 371 [.sl 2 (bJ l) none] (.sl 2 (bJ (jk l)) none):=by
 have hl:=bu l;refine eG 20 [.tmp 2] func371 rfl ntmps371 rfl fun _ _ _ _=>?_;refine aT (fun j st=>∃ e:Nat,st=OS l ((jk l).take e) e e/\e<=l.length/\j=l.length - e) l.length (OS l [] 0 0) (fG ⟨0,27,2,none⟩ rfl ⟨_,rfl⟩ rfl wA rfl rfl kr) ⟨0,by simp,by omega,by omega⟩ ?_;rintro j st ⟨e,rfl,he,rfl⟩;refine br ?_ ?_<;>intro h
 ·have aq:e < l.length:=by simpa [aC] using h
  obtain ⟨w,hw⟩:=gX aq;refine ⟨kv w,⟨by omega,aV hw⟩,?_⟩;refine ⟨by simp [aC,jk];omega,⟨by simp [aC,jk,maxLen];omega,by simp [aC,jk];omega⟩,?_⟩;refine ⟨OS l ((jk l).take (e + 1)) (e + 1) (e + 1),(wkM (gw (nxt aq (by omega)) (Hg hw))),l.length - (e + 1),by omega,e + 1,rfl,by omega,rfl⟩
 ·have aS:e=l.length:=by
   have:=h;simp [aC] at this;omega
  rw [aS,List.take_of_length_le (by simp [jk])];exact ⟨_,ax,rfl⟩
abbrev wN (l:List Wd) (e:Nat):St:=
 ⟨[aad 13 2 (bJ l),aaa 14 ((bJ l).length),aab 2 0,aaa 15 e],[[.v (.int .i64 0),.v (.int .i64 0)]],[]⟩
theorem jD (l:List Wd) (hs:wdsWt l<=1099511627776) :
  EvP prog 328 [.sl 2 (bJ l) none] (bS l).d:=by
 have nz:=bu l;refine eG 28 [.cell 2 44] func328 rfl ntmps328 rfl fun _ _ _ _=>?_;refine br ?_ ?_<;>intro h
 ·have aq:32 < l.length:=by simp [aC] at h;omega
  obtain ⟨x,hx⟩:=gX aq;have:bS l=(8,x.a):=by simp [bS,Nat.not_le.2 aq,hx]
  refine ⟨kv x,⟨by omega,aV hx⟩,?_⟩;refine cP eH (bA 8 x.a) ?_;refine ⟨_,?_,rfl⟩;rw [this];exact ax
 ·have fQ:l.length<=32:=by simp [aC] at h;omega
  refine aT (fun j st=>∃ e:Nat,st=wN l e/\e<=l.length/\badWd l=badWd (l.drop e)/\j=l.length - e) l.length
   (wN l 0) (wkM wB) ⟨0,rfl,by omega,rfl,by omega⟩ ?_
  rintro j st ⟨e,rfl,he,aK,rfl⟩;refine br ?_ ?_<;>intro hL
  ·have aq:e < l.length:=by simpa [aC] using hL
   obtain ⟨x,hx⟩:=gX aq;rw [drop_cons hx] at aK;have pw:=jg (mG hx);refine ⟨kv x,⟨by omega,aV hx⟩,?_⟩;refine cP wo (ji x.s (by omega)) ?_;refine br ?_ ?_<;>intro hN
   ·have hN:bd x.s=false:=sU hN;have:bS l=(9,x.a):=by simp [bS,fQ,aK,badWd,hN]
    refine cP eH (bA 9 x.a) ?_;refine ⟨_,?_,rfl⟩;rw [this];exact ax
   ·have hN:bd x.s=true:=sU hN;refine ⟨wN l (e + 1),(wkM (wB1 (nxt aq (by omega)))),l.length - (e + 1),by omega,e + 1,rfl,by omega,?_,rfl⟩;rw [aK];simp [badWd,hN]
  ·have aS:e=l.length:=by simp [aC] at hL;omega
   have:bS l=(0,0):=by simp [bS,fQ,aK,aS,badWd]
   refine ⟨_,?_,rfl⟩;rw [this];exact ax
theorem BX (p:Ph) (tl:List DV) (t:Ty) (fi:tl=eE t) (hs:p.wt<=1099511627776) :
  EvP prog 329 [.agg (G6 p tl)] (bc p).d:=by
 subst fi;obtain ⟨u,us⟩:=t;simp only [Ph.wt] at hs;refine eG 55 [.cell 2 44] func329 rfl ntmps329 rfl fun _ _ _ _=>?_;refine br ?_ ?_<;>intro h0
 ·have h0:p.ck=0:=of_decide_eq_true h0;refine br ?_ ?_<;>intro h1
  ·have:bc p=(19,p.name.a):=by
    simp [ap,aC] at h1;simp only [bc,h0,if_true];rw [ah];rintro ⟨h2,h3⟩;rcases h1 with h1 | h1
    ·exact h1 h2
    ·simp [h3] at h1
   refine cP eH (bA 19 p.name.a) ?_;refine ⟨_,?_,rfl⟩;rw [this];exact ax
  ·have fY:p.cl=[]:=by
    simp [ap,aC] at h1;exact h1.2
   have:bc p=(0,0):=by
    simp [ap,aC] at h1;simp [bc,h0,h1.1,h1.2]
   have h00:bS p.cl=(0,0):=by rw [fY];simp [bS,badWd]
   refine cP DY (jD p.cl (by omega)) ?_;refine ⟨_,?_,rfl⟩;rw [this,<- h00];exact ax
 have h0:¬ p.ck=0:=of_decide_eq_false h0;refine br ?_ ?_<;>intro h1
 ·have h1:p.ck=1:=of_decide_eq_true h1;refine br ?_ ?_<;>intro h2
  ·have:bc p=(20,p.ca):=by
    simp [pickB_and] at h2;simp only [bc,h0,if_false];rw [ah (by omega),ai (by omega)]
   refine cP eH (bA 20 p.ca) ?_;refine ⟨_,?_,rfl⟩;rw [this];exact ax
  ·have:bc p=bS p.cl:=by
    simp [pickB_and] at h2;simp only [bc,h0,if_false];rw [ah (by omega),ah (by omega)]
   refine cP DY (jD p.cl (by omega)) ?_;refine ⟨_,?_,rfl⟩;rw [this];exact ax
 have h1:¬ p.ck=1:=of_decide_eq_false h1;refine br ?_ ?_<;>intro h3
 ·have h3:p.ck=2:=of_decide_eq_true h3;refine br ?_ ?_<;>intro h2
  ·have:bc p=(20,p.ca):=by
    simp [pickB_and] at h2;simp only [bc,h0,if_false];rw [ah (by omega),ai (by omega)]
   refine cP eH (bA 20 p.ca) ?_;refine ⟨_,?_,rfl⟩;rw [this];exact ax
  ·have:bc p=bS p.cl:=by
    simp [pickB_and] at h2;simp only [bc,h0,if_false];rw [ah (by omega),ah (by omega)]
   refine cP DY (jD p.cl (by omega)) ?_;refine ⟨_,?_,rfl⟩;rw [this];exact ax
 have h3:¬ p.ck=2:=of_decide_eq_false h3;refine br ?_ ?_<;>intro h4
 ·have h4:p.ck=3:=of_decide_eq_true h4;refine br ?_ ?_<;>intro h2
  ·have:bc p=(20,p.ca):=by
    simp [pickB_and] at h2;simp only [bc,h0,if_false];rw [ah (by omega),ai (by omega)]
   refine cP eH (bA 20 p.ca) ?_;refine ⟨_,?_,rfl⟩;rw [this];exact ax
  ·have:bc p=bS p.cl:=by
    simp [pickB_and] at h2;simp only [bc,h0,if_false];rw [ah (by omega),ah (by omega)]
   refine cP DY (jD p.cl (by omega)) ?_;refine ⟨_,?_,rfl⟩;rw [this];exact ax
 have h4:¬ p.ck=3:=of_decide_eq_false h4
 have:bc p=(14,p.ca):=by
  simp only [bc,h0,if_false];rw [ai (by omega)]
 refine cP eH (bA 14 p.ca) ?_;refine ⟨_,?_,rfl⟩;rw [this];exact ax
theorem OT (w:World) (x y:Operand) (vs vs':Array Value):(eqGuard .neq 27 x y (.agg vs) (.agg vs')).run prog w = .ok () w:=by
 have h:prog.eqGuardType prog.depth 27=false:=by kernel_rfl
 simp [eqGuard,run_program,h]
theorem Xl (a b:ByteArray) (p q:Int) (w:World):(binOp .neq 27 (.agg #[.string a,.int .i64 p]) (.agg #[.string b,.int .i64 q])).run prog w = .ok (.bool (!(decide (a=b) && decide (p=q)))) w:=by
 have hf:prog.underlying 27=some (.struct (prog.fieldsOf 27)):=by simp [Program.fieldsOf,Tryz.underlying27]
 have u6:(prog.fieldsOf 27).toList=[⟨ "Name",9,0,false, "", "",0⟩,⟨ "At",3,1,false, "", "",16⟩]:=by simp [Program.fieldsOf,Tryz.underlying27]
 have hs:prog.stoodInHeld 27=false:=by kernel_rfl
 have hm:∃ d,Op.maxDepth=d + 1 + 1:=⟨Op.maxDepth - 2,by decide⟩;obtain ⟨d,hm⟩:=hm
 have he:(Op.equal 27 (.agg #[.string a,.int .i64 p]) (.agg #[.string b,.int .i64 q])).run prog w = .ok (decide (a=b) && decide (p=q)) w:=by
  unfold Op.equal;rw [hm,run_equalIn_struct w (d + 1) 27 _ _ hf hs,u6]
  have e1:(a.toList == b.toList)=decide (a=b):=by
   rw [ByteArray.toList_eq,ByteArray.toList_eq];by_cases h:a=b
   ·subst h;simp
   ·have:¬ a.data=b.data:=fun e=>h (ByteArray.ext e);simp [h,this]
  have q9:∀ cs:Array Value,∀ off v,cs[off]? = some v->(part 9 cs off).run prog w = .ok v w:=fun cs off v h=>by
   simp [part,Tryz.isAgg9,h]
  have q3:∀ cs:Array Value,∀ off v,cs[off]? = some v->(part 3 cs off).run prog w = .ok v w:=fun cs off v h=>by
   simp [part,Tryz.isAgg3,h]
  simp only [Op.eqFields,ne_eq,String.reduceEq,not_false_eq_true,if_true,Sem.run_bind,q9 #[.string a,.int .i64 p] 0 (.string a) rfl,q9 #[.string b,.int .i64 q] 0 (.string b) rfl,Result.andThen_ok,run_equalIn_string w d 9 a b Tryz.underlying9,e1];by_cases h:a=b
  ·simp only [h,decide_true,Bool.not_true,Bool.false_eq_true,if_false,Sem.run_bind,q3 #[.string b,.int .i64 p] 1 (.int .i64 p) rfl,q3 #[.string b,.int .i64 q] 1 (.int .i64 q) rfl,Result.andThen_ok,run_equalIn_int w d 3 .i64 .i64 p q Tryz.underlying3];by_cases h2:p=q<;>simp [h2,Sem.run_pure]
  ·simp [h,Sem.run_pure]
 show ((do let r <- Op.equal 27 _ _;pure (Value.bool !r)):Sem Value).run prog w=_;simp only [Sem.run_bind,he,Result.andThen_ok,Sem.run_pure]
theorem SN (x y:Operand) (a b:Wd):Bz prog .neq x y 27 (kv a) (kv b) (!(decide (a.s=b.s) && decide (a.a=b.a))):=
 ⟨[.string a.s,.int .i64 a.a],[.string b.s,.int .i64 b.a],rfl,rfl,fun w=>⟨OT w x y _ _,Xl a.s b.s a.a b.a w⟩⟩
def eqWds:List Wd->List Wd->Bool
 | [],[]=>true
 | x :: r,y :: s=>(decide (x.s=y.s) && decide (x.a=y.a)) && eqWds r s
 | _,_=>false
theorem Ag:∀ {a b:List Wd},a.length≠b.length->eqWds a b=false
 | [],[],h=>(h rfl).elim
 | [],_ :: _,_=>rfl
 | _ :: _,[],_=>rfl
 | x :: r,y :: s,h=>by
  simp only [eqWds];rw [Ag (a:=r) (b:=s) (sU h),Bool.and_false]
theorem ub:∀ a b:List Wd,eqWds (jk a) (jk b)=sameWds a b
 | [],[]=>rfl
 | [],_ :: _=>rfl
 | _ :: _,[]=>rfl
 | x :: r,y :: s=>by
  have:=ub r s;simp only [jk,List.map_cons,eqWds,sameWds] at this ⊢;rw [this];simp
abbrev OU (a b:List Wd) (e:Nat):St:=
 ⟨[aad 0 2 (bJ a),aad 1 2 (bJ b),aaa 12 ((bJ a).length),aaa 13 e],[],[]⟩
theorem Eb (a b:List Wd) (hs:a.length<=1099511627776) :
  EvP prog 370 [.sl 2 (bJ a) none,.sl 2 (bJ b) none] (.v (.bool (eqWds a b))):=by
 refine eG 26 [.tmp 4] func370 rfl ntmps370 rfl fun _ _ _ _=>?_;refine br ?_ ?_<;>intro h
 ·have aQ:a.length≠b.length:=by have:=h;simp [aC] at this;omega
  exact congrArg (fun b=>DV.v (.bool b)) (Ag aQ).symm
 ·have hl:a.length=b.length:=by have:=h;simp [aC] at this;omega
  refine aT (fun j st=>∃ e:Nat,st=OU a b e/\e<=a.length/\eqWds a b=eqWds (a.drop e) (b.drop e)/\j=a.length - e) a.length
   (OU a b 0) (wkM wB) ⟨0,rfl,by omega,rfl,by omega⟩ ?_
  rintro j st ⟨e,rfl,he,aK,rfl⟩;refine br ?_ ?_<;>intro h
  ·have aq:e < a.length:=by simpa [aC] using h
   obtain ⟨x,hx⟩:=gX aq;obtain ⟨y,hy⟩:∃ y,b[e]? = some y:=⟨_,gE (hl ▸ aq)⟩;rw [drop_cons hx,drop_cons hy] at aK;refine dI ?_;refine ⟨kv x,⟨by omega,aV hx⟩,kv y,⟨by omega,aV hy⟩,_,SN _ _ x y,?_⟩;refine br ?_ ?_<;>intro h
   ·have aQ:(decide (x.s=y.s) && decide (x.a=y.a))=false:=by
     have h:(!(decide (x.s=y.s) && decide (x.a=y.a)))=true:=h
     revert h
     cases (decide (x.s=y.s) && decide (x.a=y.a))<;>decide
    refine (aae ?_:);rw [aK];simp only [eqWds,aQ,Bool.false_and]
   ·have aQ:(decide (x.s=y.s) && decide (x.a=y.a))=true:=by
     have h:(!(decide (x.s=y.s) && decide (x.a=y.a)))=false:=h
     revert h
     cases (decide (x.s=y.s) && decide (x.a=y.a))<;>decide
    refine ⟨OU a b (e + 1),(wkM (wB1 (nxt aq (by omega)))),a.length - (e + 1),by omega,e + 1,rfl,by omega,?_,rfl⟩;rw [aK];simp only [eqWds,aQ,Bool.true_and]
  ·have aS:e=a.length:=by have:=h;simp [aC] at this;omega
   refine (aae ?_:);rw [aK,aS,hl];simp [eqWds];rw [<- hl];simp [eqWds]
theorem iv (a b:List Wd) (ha:wdsWt a<=1099511627776) (hb:wdsWt b<=1099511627776) :
  EvP prog 353 [.sl 2 (bJ a) none,.sl 2 (bJ b) none] (.v (.bool (sameWds a b))):=by
 have hl:=bu a;refine eG 10 [.tmp 4] func353 rfl ntmps353 rfl fun _ _ _ _=>?_;refine cP Vg (wM a ha) ?_;refine cP Vg (wM b hb) ?_;refine cP abZ (Eb (jk a) (jk b) (by simp [jk];omega)) ?_;refine (aae ?_:);exact ub a b
def eqPts (F:Ph->Ty->Ph->Ty->Bool):Pts->Pts->Bool
 | .nil,.nil=>true
 | .cons p t r,.cons q u s=>F p t q u && eqPts F r s
 | _,_=>false
theorem Ah {F:Ph->Ty->Ph->Ty->Bool}:∀ {a b:Pts},a.len≠b.len->eqPts F a b=false
 | .nil,.nil,h=>(h rfl).elim
 | .cons p t r,.cons q u s,h=>by
  simp only [eqPts];rw [Ah (a:=r) (b:=s) (by simpa [Pts.len] using h),Bool.and_false]
 | .nil,.cons _ _ _,_=>rfl
 | .cons _ _ _,.nil,_=>rfl
def dx (p:Ph) (t:Ty) (q:Ph) (u:Ty):Bool:=decide (p.name.s=q.name.s) && bR p q && sameTy t u
theorem wO:∀ a b:Pts,eqPts dx a b=samePts a b
 | .nil,.nil=>by simp [eqPts,samePts]
 | .cons p t r,.cons q u s=>by simp only [eqPts,samePts,dx,wO r s]
 | .nil,.cons _ _ _=>by simp [eqPts,samePts]
 | .cons _ _ _,.nil=>by simp [eqPts,samePts]
abbrev OV (a b:Pts) (g e:Nat):St:=
 ⟨[aad 1 18 (gg b),(2,⟨[],.fn g [] []⟩),aad 15 18 (gg a),aaa 16 ((gg a).length),aaa 17 e],[],[]⟩
theorem Ec (g:Nat) (j2:Enters prog g) (F:Ph->Ty->Ph->Ty->Bool) (a b:Pts) (hs:a.wt<=1099511627776)
  (hF:∀ (e:Nat) p t q u,a.toList[e]? = some (p,t)->b.toList[e]? = some (q,u)->EvP prog g [.agg (G6 p (eE t)),.agg (G6 q (eE u))] (.v (.bool (F p t q u)))) :
  EvP prog 372 [.sl 18 (gg a) none,.sl 18 (gg b) none,.fn g [] []] (.v (.bool (eqPts F a b))):=by
 have NP:=a.gf;refine eG 32 [.tmp 6] func372 rfl ntmps372 rfl fun _ _ _ _=>?_;refine br ?_ ?_<;>intro h
 ·have aQ:a.len≠b.len:=by have:=h;simp [aJ] at this;omega
  exact congrArg (fun b=>DV.v (.bool b)) (Ah aQ).symm
 ·have hl:a.len=b.len:=by have:=h;simp [aJ] at this;omega
  refine aT (fun j st=>∃ e:Nat,st=OV a b g e/\e<=a.len/\eqPts F a b=eqPts F (a.drop e) (b.drop e)/\j=a.len - e) a.len
   (OV a b g 0) (wkM wB) ⟨0,rfl,by omega,rfl,by omega⟩ ?_
  rintro j st ⟨e,rfl,he,aK,rfl⟩;refine br ?_ ?_<;>intro h
  ·have aq:e < a.len:=by simpa [aJ] using h
   obtain ⟨p,t,hx⟩:=Pts.eZ aq;obtain ⟨q,u,hy⟩:=Pts.eZ (hl ▸ aq);rw [Pts.drop_cons hx,Pts.drop_cons hy] at aK;have Se:=hF e p t q u hx hy;obtain ⟨t,ts⟩:=t;obtain ⟨u,us⟩:=u;refine iX (bW hx) ?_;refine iX (bW hy) ?_;refine cP j2 Se ?_;refine br ?_ ?_<;>intro h
   ·have aQ:F p (.mk t ts) q (.mk u us)=false:=sU h;refine (aae ?_:);rw [aK];simp only [eqPts,aQ,Bool.false_and]
   ·have aQ:F p (.mk t ts) q (.mk u us)=true:=sU h;refine ⟨OV a b g (e + 1),(wkM (wB1 (nxt aq (by omega)))),a.len - (e + 1),by omega,e + 1,rfl,by omega,?_,rfl⟩;rw [aK];simp only [eqPts,aQ,Bool.true_and]
  ·have aS:e=a.len:=by have:=h;simp [aJ] at this;omega
   refine (aae ?_:);rw [aK,aS,Pts.dC,hl,Pts.dC];simp [eqPts]
theorem nW (p q:Ph) (t u:Ty) (hp:p.wt<=1099511627776) (hq:q.wt<=1099511627776)
  (ht:EvP prog 354 [.agg (eE t),.agg (eE u)] (.v (.bool (sameTy t u)))) :
  EvP prog 327 [.agg (G6 p (eE t)),.agg (G6 q (eE u))] (.v (.bool (dx p t q u))):=by
 simp only [Ph.wt] at hp hq;obtain ⟨th,tps⟩:=t;obtain ⟨uh,ups⟩:=u;refine eG 71 [.tmp 4] func327 rfl ntmps327 rfl fun _ _ _ _=>?_
 have e0:dx p (.mk th tps) q (.mk uh ups)=(((decide (p.name.s=q.name.s) && (p.bare == q.bare)) && decide (p.wide=q.wide)) && sameWds p.label q.label && ((decide (p.ck=q.ck) && decide (p.cn=q.cn)) && sameWds p.cl q.cl) && sameTy (.mk th tps) (.mk uh ups)):=by
  simp only [dx,bR,Bool.and_assoc]
 rw [e0];refine br ?_ ?_<;>intro hA
 ·simp only [pickB_and] at hA;refine cP JV (iv p.label q.label (by omega) (by omega)) ?_;refine br ?_ ?_<;>intro hB
  ·simp only [pickB_and] at hB;refine cP JV (iv p.cl q.cl (by omega) (by omega)) ?_;refine br ?_ ?_<;>intro hC
   ·refine cP abT ht ?_;refine (aae ?_:);simp only [pickB_and,Bool.true_and,Bool.and_true] at hC ⊢
    simp_all
   ·refine (aae ?_:);simp only [pickB_and,Bool.true_and,Bool.and_true] at hC ⊢
    simp_all
  ·simp only [pickB_and] at hB;refine br ?_ ?_<;>intro hC
   ·exfalso;simp [pickB_and] at hC
   ·refine (aae ?_:)
    simp_all
 ·simp only [pickB_and,beq_true] at hA;refine br ?_ ?_<;>intro hB
  ·refine cP JV (iv p.cl q.cl (by omega) (by omega)) ?_;refine (aae ?_:);rw [hA];rfl
  ·refine (aae ?_:);rw [hA];rfl
theorem Ai:∀ (n:Nat) (a b:Ty),a.wt<=n->a.wt<=1099511627776->b.wt<=1099511627776 ->
  EvP prog 354 [.agg (eE a),.agg (eE b)] (.v (.bool (sameTy a b)))
 | 0,a,b,hn,_,_=>by have:=a.dz;omega
 | n + 1,.mk h ps,.mk k qs,hn,cG,ack=>by
  have ih:=Ai n;simp only [Ty.wt,Hd.wt] at hn cG ack
  have hE:EvP prog 372 [.sl 18 (gg ps) none,.sl 18 (gg qs) none,.fn 327 [] []] (.v (.bool (samePts ps qs))):=by
   rw [<- wO];refine Ec 327 OD dx ps qs (by omega) fun e p t q u hx hy=>?_;have hw1:=Pts.gN (mG hx);have hw2:=Pts.gN (mG hy);exact nW p q t u (by omega) (by omega) (ih t u (by omega) (by omega) (by omega))
  refine eG 53 [.tmp 4] func354 rfl ntmps354 rfl fun _ _ _ _=>?_;refine br ?_ ?_<;>intro hA
  ·simp [ap] at hA;obtain ⟨⟨⟨⟨e1,e2⟩,e3⟩,e4⟩,e5⟩:=hA;refine cP JV (iv h.af k.af (by omega) (by omega)) ?_;refine br ?_ ?_<;>intro hB
   ·refine (aae ?_:);simp [ap,e1,e2,e3,e4,e5] at hB;simp [sameTy,lA,hB]
   ·simp [ap,e1,e2,e3,e4,e5] at hB;refine cP ab0 hE ?_;refine (aae ?_:);simp [sameTy,lA,e1,e2,e3,e4,e5,hB]
  ·refine (aae ?_:);simp [ap] at hA;simp only [sameTy,lA]
   grind
theorem wP (a b:Ty) (ha:a.wt<=1099511627776) (hb:b.wt<=1099511627776):EvP prog 354 [.agg (eE a),.agg (eE b)] (.v (.bool (sameTy a b))):=Ai _ a b (aO _) ha hb
def wQ (h:Hd) (ps:Pts):Bool:=
 (((((decide (h.ag=2) || (decide (h.lo=0) && decide (h.hi=0))) && ((decide (h.ag=3) || decide (h.ag=5)) || decide (h.most=0))) && (decide (ps.len=0) || (decide (5<=h.ag) && decide (h.ag<=8)))) &&
  (decide (h.af.length=0) || decide (h.ag=4))) && (decide (h.name.s=au) || decide (h.ag=9)))
theorem Lz (h:Hd) (ps:Pts):EvP prog 253 [.agg (eE (.mk h ps))] (.v (.bool (wQ h ps))):=by
 have l1:(((gg ps).length:Int)=0)=(ps.len=0):=by rw [aJ];exact propext (by omega)
 have l2:(((bJ h.af).length:Int)=0)=(h.af.length=0):=by rw [aC];exact propext (by omega)
 have he:(⟨#[]⟩:ByteArray)=au:=rfl;refine eG 67 [.tmp 2] func253 rfl ntmps253 rfl fun _ _ _ _=>?_;refine br ?_ ?_<;>intro k2
 ·have k2:h.ag=2:=of_decide_eq_true k2;refine (aae ?_:);rw [Bool.eq_iff_iff];simp [pickB_and,ap,wQ,aJ,aC,k2,he]
 have k2:¬ h.ag=2:=of_decide_eq_false k2;refine br ?_ ?_<;>intro k3
 ·have k3:h.ag=3:=of_decide_eq_true k3;refine br (fun _=>?_) (fun hf=>?_)
  ·refine (aae ?_:);rw [Bool.eq_iff_iff];simp [pickB_and,ap,wQ,aJ,aC,k3,he]
  ·exact absurd k3 (of_decide_eq_false hf)
 have k3:¬ h.ag=3:=of_decide_eq_false k3;refine br ?_ ?_<;>intro k5
 ·have k5:h.ag=5:=of_decide_eq_true k5;refine (aae ?_:);rw [Bool.eq_iff_iff];simp [pickB_and,ap,wQ,aJ,aC,k5,he]
 have k5:¬ h.ag=5:=of_decide_eq_false k5;refine (aae ?_:);rw [Bool.eq_iff_iff];simp [pickB_and,ap,wQ,aJ,aC,k2,k3,k5,he]
theorem BZ:∀ ps:Pts,samePts ps ps=true:=by
 have wr:∀ l:List Wd,sameWds l l=true:=by
  intro l
  induction l with
  | nil=>rfl
  | cons x r ih=>simp [sameWds,ih]
 have key:∀ n,(∀ t:Ty,t.wt<=n->sameTy t t=true)/\(∀ ps:Pts,ps.wt<=n->samePts ps ps=true):=by
  intro n
  induction n using Nat.strongRecOn with
  | _ n ih=>
   have hp:∀ ps:Pts,ps.wt<=n->(∀ t:Ty,t.wt + 256<=n->sameTy t t=true)->samePts ps ps=true:=by
    intro ps
    induction ps using Pts.rec (motive_1:=fun _=>True) with
    | mk=>trivial
    | nil=>intros;simp [samePts]
    | cons p t r _ ihr=>
     intro hw ht;simp only [Pts.wt,Ph.wt] at hw;simp only [samePts];rw [ht t (by omega),ihr (by omega) ht];simp [bR,wr]
   refine ⟨fun t ht=>?_,fun ps hps=>?_⟩
   ·obtain ⟨h,ps⟩:=t;simp only [Ty.wt,Hd.wt] at ht;simp only [sameTy,lA];rw [(ih ps.wt (by omega)).2 ps (aO _),wr];simp
   ·exact hp ps hps fun t ht=>(ih t.wt (by omega)).1 t (aO _)
 exact fun ps=>(key ps.wt).2 ps (aO _)
theorem J1 (h:Hd) (ps:Pts):wQ h ps=sameTy (.mk h ps) (mask (.mk h ps)):=by
 have wr:∀ l:List Wd,sameWds l l=true:=by
  intro l
  induction l with
  | nil=>rfl
  | cons x r ih=>simp [sameWds,ih]
 have wn:∀ l:List Wd,sameWds l []=decide (l.length=0):=by
  intro l;cases l<;>simp [sameWds]
 have pn:∀ l:Pts,samePts l .nil=decide (l.len=0):=by
  intro l;cases l<;>simp [samePts,Pts.len]
 have pr:=BZ ps;simp only [mask,sameTy,lA,jL]
 have e5:samePts ps (if 4 < h.ag/\h.ag < 9 then ps else .nil)=(decide (ps.len=0) || (decide (5<=h.ag) && decide (h.ag<=8))):=by
  split
  ·rename_i hc;rw [pr,decide_eq_true (by omega:5<=h.ag),decide_eq_true (by omega:h.ag<=8)];simp
  ·rename_i hc;rw [pn,Bool.eq_iff_iff];simp;omega
 have e6:sameWds h.af (if h.ag=4 then h.af else [])=(decide (h.af.length=0) || decide (h.ag=4)):=by
  split
  ·rename_i hc;rw [wr];simp [hc]
  ·rename_i hc;rw [wn];simp [hc]
 rw [e5,e6];unfold wQ;by_cases k2:h.ag=2
 ·rw [Bool.eq_iff_iff];simp [k2];grind
 ·by_cases k3:h.ag=3∨h.ag=5
  ·by_cases k9:h.ag=9
   ·omega
   ·rw [Bool.eq_iff_iff];simp [k2,k3,k9];grind
  ·by_cases k9:h.ag=9
   ·rw [Bool.eq_iff_iff];simp [k9];grind
   ·rw [Bool.eq_iff_iff];simp [k2,k3,k9];grind
theorem Ee (p:Ph) (t:Ty) (hp:p.wt<=1099511627776):EvP prog 304 [.agg (G6 p (eE t))] (.v (.bool (dx p cf fo cf))):=by
 obtain ⟨th,tps⟩:=t;refine eG 8 [.tmp 2] func304 rfl ntmps304 rfl fun _ _ _ _=>?_;refine cP OD (nW p fo cf cf hp (by decide) (wP cf cf (by decide) (by decide))) ?_;exact (rfl:_=_)
def aA (l:List Wd):List ByteArray:=l.map fun w=>w.s
noncomputable def enumP (l:List Wd):Nat->Ft
 | 0=>(0,0)
 | e + 1=>
  if (enumP l e).1≠0 then enumP l e
  else match l[e]? with
   | some w=>iu (aA (l.take (e + 1))) w.s w.a
   | none=>(0,0)
theorem pW {l:List Wd} {e:Nat} (h:(enumP l e).1≠0):∀ d,enumP l (e + d)=enumP l e
 | 0=>rfl
 | d + 1=>by
  have ih:=pW h d;rw [<- Nat.add_assoc,enumP,ih,ai h]
theorem B0 {L:List ByteArray} {x:ByteArray} {a:Int} (h:(iu L x a).1=0):iu L x a=(0,0):=by
 unfold iu at *;split
 ·rename_i h1;rw [ai h1] at h;split
  ·rfl
  ·rename_i h2;rw [ah h2] at h;simp at h
 ·rename_i h1;rw [ah h1] at h;simp at h
theorem Hh {l:List Wd}:∀ {e:Nat},(enumP l e).1=0->enumP l e=(0,0)
 | 0,_=>rfl
 | e + 1,h=>by
  rw [enumP] at h ⊢;split
  ·rename_i h1;rw [ai h1] at h;exact absurd h h1
  ·rename_i h1;rw [ah h1] at h;split
   ·rename_i w hw;rw [hw] at h;exact B0 h
   ·rfl
theorem wR {l:List Wd} {e:Nat} {w:Wd} (h:(enumP l e).1=0) (hw:l[e]? = some w):enumP l (e + 1)=iu (aA (l.take (e + 1))) w.s w.a:=by
 rw [enumP,ah (by rw [h];simp),hw]
noncomputable def nX (h:Hd):Ft:=
 if h.af.length=0 then (15,h.aG) else if 64 < h.af.length then (8,((h.af[64]?).getD (⟨au,0⟩:Wd)).a) else enumP h.af h.af.length
abbrev OW (h:Hd) (ps:Pts) (n e:Nat):St:=
 ⟨[aab 1 0,aab 2 1,aad 27 2 (bJ h.af),aaa 28 ((bJ h.af).length),aaa 29 e,(3,⟨[],.sl 1 (fh (aA (h.af.take e))) (some 0)⟩)],
  [eE (.mk h ps),[.v (.int .i64 0),.v (.int .i64 0)]],[⟨n,9,1,none⟩]⟩
theorem j4 {l:List Wd} {e:Nat} {w:Wd} (h:l[e]? = some w):fh (aA (l.take e)) ++ [[DV.v (.string w.s)]]=fh (aA (l.take (e + 1))):=by
 rw [List.take_add_one,h];simp [fh,aA]
theorem Hi (h:Hd) (ps:Pts) (hs:wdsWt h.af<=1099511627776):EvP prog 254 [.agg (eE (.mk h ps))] (nX h).d:=by
 have hl:=bu h.af;refine eG 48 [.cell 2 44] func254 rfl ntmps254 rfl fun _ _ _ _=>?_;refine br ?_ ?_<;>intro h0
 ·have h0:h.af.length=0:=by have:=h0;simp [aC] at this;simp [this]
  refine cP eH (bA 15 h.aG) ?_;refine ⟨_,?_,rfl⟩;rw [nX,ai h0];exact ax
 have h0:¬ h.af.length=0:=by have:=h0;simp [aC] at this;simpa using this
 refine br ?_ ?_<;>intro h1
 ·have h1:64 < h.af.length:=by have:=h1;simp [aC] at this;omega
  obtain ⟨x,hx⟩:∃ x,h.af[64]? = some x:=⟨_,gE h1⟩;refine ⟨kv x,⟨by omega,aV hx⟩,?_⟩;refine cP eH (bA 8 x.a) ?_;refine ⟨_,?_,rfl⟩;rw [nX,ah h0,ai h1,hx];exact ax
 have h1:¬ 64 < h.af.length:=by have:=h1;simp [aC] at this;omega
 have hk:nX h=enumP h.af h.af.length:=by rw [nX,ah h0,ah h1]
 rw [hk];refine lI (fun j st=>∃ e:Nat,st=OW h ps e e/\e<=h.af.length/\(enumP h.af e).1=0/\j=h.af.length - e) ⟨0,rfl,by omega,rfl,rfl⟩ (fG ⟨0,9,1,none⟩ rfl ⟨_,rfl⟩ rfl wA rfl rfl kr) ?_;rintro j st ⟨e,rfl,he,hz,rfl⟩;refine br ?_ ?_<;>intro hL
 ·have aq:e < h.af.length:=by simpa [aC] using hL
  obtain ⟨w,hw⟩:=gX aq;have Vp:=jg (mG hw);have Ef:=wR hz hw
  have OX:(aA (h.af.take (e + 1)))[(aA (h.af.take (e + 1))).length - 1]? = some w.s:=by
   have u9:(aA (h.af.take (e + 1))).length=e + 1:=by simp [aA];omega
   rw [u9];simp [aA,hw]
  refine ⟨kv w,⟨by omega,aV hw⟩,?_⟩;refine ⟨by simp [cr,aA];omega,⟨by simp [cr,aA,maxLen];omega,by simp [cr,aA];omega⟩,?_⟩;have fB:=j4 hw;have WC:=ua (aA (h.af.take (e + 1))) w.s w.a OX (by simp [aA];omega) (by omega);rw [<- fB,<- Ef] at WC;refine cP Va WC ?_;refine br ?_ ?_<;>intro hf
  ·have hf:(enumP h.af (e + 1)).1≠0:=sU hf;refine ⟨_,?_,rfl⟩;have aR:=pW hf (h.af.length - (e + 1));rw [show e + 1 + (h.af.length - (e + 1))=h.af.length by omega] at aR;rw [aR];exact ax
  ·have hf:(enumP h.af (e + 1)).1=0:=sU hf;refine ⟨OW h ps (e + 1) (e + 1),(wkM (gw (nxt aq (by omega)) fB)),h.af.length - (e + 1),by omega,e + 1,rfl,by omega,hf,rfl⟩
 ·have aS:e=h.af.length:=by
   have:=hL;simp [aC] at this;omega
  subst aS;have aR:=Hh hz;refine ⟨_,?_,rfl⟩;rw [aR];exact ax
def acn (t:Ty) (depth m:Int) (r:DV) (os:List (List DV)) (_:List TkE):Prop:=
 r=(wrong t depth m).1.d/\∃ z:Int,os=[[.v (.int .i64 z)]]/\((wrong t depth m).1.1=0->z=(wrong t depth m).2)
theorem Xm {t:Ty} {depth m:Int}:∀ r os tk,acn t depth m r os tk->clB 0 0 r=true/\∀ r7∈os,clB.clL 0 0 r7=true:=by
 rintro r os tk ⟨rfl,z,rfl,_⟩;refine ⟨rfl,fun r7 h=>?_⟩;simp only [List.mem_singleton] at h;subst h;rfl
theorem LA (t:Ty) (hc:Ev prog 199 [.loc 0 0,.agg (eE t),.v (.int .i64 1)] [[.v (.int .i64 0)]] [] (acn t 1 0)) :
  EvP prog 113 [.agg (eE t)] (wrong t 1 0).1.d:=by
 obtain ⟨h,ps⟩:=t;refine eG 9 [.cell 2 44] func113 rfl ntmps113 rfl fun _ _ _ _=>?_;refine mO Ou rfl rfl ax ax hc Xm (fun r r7 hr=>?_);obtain ⟨rfl,z,hz,_⟩:=hr;simp only [List.cons.injEq,and_true] at hz;subst hz;exact ⟨_,ax,rfl⟩
def lB (n:Nat):List UInt8:=if n < 10 then [UInt8.ofNat (48 + n)] else lB (n / 10) ++ [UInt8.ofNat (48 + n % 10)]
termination_by n
decreasing_by omega
theorem vd {n:Nat} (h:n < 10):lB n=[UInt8.ofNat (48 + n)]:=by rw [lB,ai h]
theorem B3 {n:Nat} (h:¬ n < 10):lB n=lB (n / 10) ++ [UInt8.ofNat (48 + n % 10)]:=by rw [lB,ah h]
theorem Eg:∀ (k n:Nat),n < 10 ^ (k + 1)->(lB n).length<=k + 1
 | 0,n,h=>by
  have:n < 10:=sU h;rw [vd this];simp
 | k + 1,n,h=>by
  by_cases hn:n < 10
  ·rw [vd hn];simp
  ·rw [B3 hn]
   have h2:n / 10 < 10 ^ (k + 1):=by
    rw [Nat.div_lt_iff_lt_mul (by decide)];rw [Nat.pow_succ] at h;exact h
   have:=Eg k (n / 10) h2;simp only [List.length_append,List.length_cons,List.length_nil];omega
theorem digs_20 {n:Nat} (h:n<=18446744073709551616):(lB n).length<=20:=Eg 19 n (by omega)
def iw (z:Int):List UInt8:=if z < 0 then 45 :: lB z.natAbs else lB z.natAbs
def LB (z:Int):ByteArray:=⟨(iw z).toArray⟩
theorem wS {z:Int} (h1 : -9223372036854775808<=z) (h2:z<=9223372036854775807):(iw z).length<=21:=by
 have:=digs_20 (n:=z.natAbs) (by omega);unfold iw;split
 ·simp only [List.length_cons];omega
 ·omega
theorem LD {z:Int} (h1 : -9223372036854775808<=z) (h2:z<=9223372036854775807):(LB z).size<=21:=wS h1 h2
theorem mS (a b:List UInt8):(⟨a.toArray⟩:ByteArray) ++ ⟨b.toArray⟩=⟨(a ++ b).toArray⟩:=by
 apply ByteArray.ext;simp
theorem wr (z:Int) (h1 : -9223372036854775808<=z) (h2:z<=9223372036854775807):IntKind.i64.wrap z=z:=by
 rw [IntKind.wrap_i64];omega
theorem SO {z:Int} (h:0<=z):iw z=lB z.toNat:=by
 unfold iw;rw [ah (by omega)];congr 1;omega
theorem OY {z:Int} (h:z < 0):iw z=45 :: lB z.natAbs:=by unfold iw;rw [ai h]
theorem q7:∀ bs:List UInt8,u8L bs=bs.map fun b=>DV.v (.int .u8 (b.toNat:Int))
 | []=>rfl
 | b :: r=>by simp [u8L,q7 r]
theorem B4 (bs:List UInt8):(u8L bs).length=bs.length:=by simp [q7]
theorem J2 (a b:List UInt8):u8L (a ++ b)=u8L a ++ u8L b:=by simp [q7]
theorem OZ (n:Nat) (a:List UInt8):u8L (a.take n)=(u8L a).take n:=by simp [q7,List.map_take]
theorem Eh (n:Nat) (a:List UInt8):u8L (a.drop n)=(u8L a).drop n:=by simp [q7,List.map_drop]
theorem J3 {n m:Nat} {tk:List TkE}:∀ bs:List UInt8,WeL n m tk (u8L bs) (u8L bs)
 | []=>rfl
 | b :: r=>⟨_,_,rfl,aw rfl,J3 r⟩
theorem sM {n m:Nat} {tk:List TkE} {l:List DV} {bs:List UInt8} (h:l=u8L bs):WeL n m tk l (u8L bs):=by rw [h];exact J3 bs
theorem O0 (n:Nat):0 < (lB n).length:=by
 rw [lB];split<;>simp
abbrev Ei (m:Bool) (u a:Nat) (bs:List UInt8):St:=⟨[aap 3 m,(4,⟨[],.v (.int .u64 u)⟩),aab 5 0,aaa 6 a],[u8L bs],[]⟩
def Xn (m:Bool) (N j:Nat) (st:St):Prop:=∃ (u a:Nat) (bs:List UInt8),st=Ei m u a bs/\bs.length=20/\a<=20/\u < 18446744073709551616 /\
 ((a < 20/\u=0/\lB N=bs.drop a)∨((a=20∨0 < u)/\lB N=lB u ++ bs.drop a))/\j=a
theorem putI_0 (m:Bool) (N:Nat) (h:N < 18446744073709551616):Xn m N 20 (Ei m N 20 (List.replicate 20 0)):=
 ⟨N,20,_,rfl,by simp,aO _,h,.inr ⟨.inl rfl,by simp⟩,rfl⟩
theorem Ej (z:Int) (h1 : -9223372036854775808<=z) (h2:z<=9223372036854775807):EvP prog 156 [.v (.int .i64 z)] (.v (.string (LB z))):=by
 have hN:z.natAbs<=9223372036854775808:=by omega
 refine eG 38 [.tmp 2] func156 rfl ntmps156 rfl fun _ _ _ _=>?_;refine br ?_ ?_<;>intro h
 case' refine_1=>
  have hz:z < 0:=sU h
  have hu:IntKind.u64.wrap (0 - IntKind.u64.wrap z)=(z.natAbs:Int):=by
   simp only [IntKind.wrap_u64];omega
  refine aT (Xn (decide (z < 0)) z.natAbs) 20 (Ei (decide (z < 0)) z.natAbs 20 (List.replicate 20 0)) (aaq ⟨_,rfl⟩ (by repeat' (first | exact rfl | exact aw rfl | exact sM rfl | refine ⟨_,_,rfl,?_,?_⟩)) rfl rfl rfl (by repeat' (first | exact trivial | exact aw rfl | exact ay hu | exact sM rfl | refine ⟨⟨_,rfl,?_⟩,?_⟩))) (putI_0 _ _ (by omega)) ?_
 case' refine_2=>
  have hz:¬ z < 0:=sU h
  have hu:IntKind.u64.wrap z=(z.natAbs:Int):=by
   simp only [IntKind.wrap_u64];omega
  refine aT (Xn (decide (z < 0)) z.natAbs) 20 (Ei (decide (z < 0)) z.natAbs 20 (List.replicate 20 0)) (aaq ⟨_,rfl⟩ (by repeat' (first | exact rfl | exact aw rfl | exact sM rfl | refine ⟨_,_,rfl,?_,?_⟩)) rfl rfl rfl (by repeat' (first | exact trivial | exact aw rfl | exact ay hu | exact sM rfl | refine ⟨⟨_,rfl,?_⟩,?_⟩))) (putI_0 _ _ (by omega)) ?_
 all_goals
  clear hu hz h;rintro a st ⟨u,j,bs,rfl,hbl,ha,hu64,hinv,rfl⟩;refine br ?_ ?_<;>intro h
  ·have hc:a=20∨0 < u:=by
    simp [ap] at h;omega
   have hd:lB z.natAbs=lB u ++ bs.drop a:=by
    rcases hinv with ⟨h3,h4,_⟩ | ⟨_,h3⟩
    ·omega
    ·exact h3
   have hp:0 < a:=by
    have e1:=congrArg List.length hd;have e2:=O0 u;have e3:=digs_20 (n:=z.natAbs) (by omega);simp only [List.length_append,List.length_drop,hbl] at e1;omega
   have Xo:IntKind.i64.wrap ((a:Int) - 1)=((a - 1:Nat):Int):=by rw [wr _ (by omega) (by omega)];omega
   have hb:IntKind.u8.wrap (48 + IntKind.u8.wrap ((u:Int).tmod 10))=((UInt8.ofNat (48 + u % 10)).toNat:Int):=by
    rw [Int.tmod_eq_emod_of_nonneg (by omega),UInt8.toNat_ofNat',IntKind.wrap_u8',IntKind.wrap_u8'];omega
   have hq:IntKind.u64.wrap ((u:Int).tdiv 10)=((u / 10:Nat):Int):=by
    rw [Int.tdiv_eq_ediv_of_nonneg (by omega),IntKind.wrap_u64];omega
   refine ⟨⟨rfl,by decide⟩,?_⟩;refine ⟨⟨by rw [Xo];omega,by rw [Xo];omega⟩,?_⟩;have uL:0 + (IntKind.i64.wrap ((a:Int) - 1)).toNat * 1=a - 1:=by rw [Xo];omega
   refine ⟨by rw [uL,B4,hbl];omega,?_⟩;refine ⟨⟨rfl,by decide⟩,?_⟩
   have cQ:(u8L bs).set (0 + (IntKind.i64.wrap ((a:Int) - 1)).toNat * 1) (DV.v (.int .u8 (IntKind.u8.wrap (48 + IntKind.u8.wrap ((u:Int).tmod 10)))))=u8L (bs.take (a - 1) ++ [UInt8.ofNat (48 + u % 10)] ++ bs.drop a):=by
    rw [uL,hb,List.set_eq_take_append_cons_drop,ai (by rw [B4,hbl];omega),J2,J2,OZ,Eh,show a - 1 + 1=a by omega];simp [u8L]
   refine ⟨Ei (decide (z < 0)) (u / 10) (a - 1) (bs.take (a - 1) ++ [UInt8.ofNat (48 + u % 10)] ++ bs.drop a),(QT 1 (by repeat' (first | exact rfl | exact aw rfl | exact sM cQ | exact ay Xo | exact ay hq | refine ⟨_,_,rfl,?_,?_⟩)) (by repeat' (first | exact trivial | exact aw rfl | exact sM cQ | exact ay Xo | exact ay hq | refine ⟨⟨_,rfl,?_⟩,?_⟩))),a - 1,by omega,u / 10,a - 1,_,rfl,by simp;omega,by omega,by omega,?_,rfl⟩
   have aco:(bs.take (a - 1) ++ [UInt8.ofNat (48 + u % 10)] ++ bs.drop a).drop (a - 1)=UInt8.ofNat (48 + u % 10) :: bs.drop a:=by
    rw [List.append_assoc,List.drop_append_of_le_length (by simp;omega),List.drop_eq_nil_of_le (by simp;omega)];rfl
   rw [aco,hd];by_cases sq:u < 10
   ·refine .inl ⟨by omega,by omega,?_⟩;rw [vd sq,Nat.mod_eq_of_lt sq];all_goals rfl
   ·refine .inr ⟨.inr (by omega),?_⟩;rw [B3 sq,List.append_assoc];all_goals rfl
  ·have hc:a≠20/\u=0:=by
    simp [ap] at h;omega
   have hd:lB z.natAbs=bs.drop a:=by
    rcases hinv with ⟨_,_,h3⟩ | ⟨h3,_⟩
    ·exact h3
    ·omega
   have hdu:((u8L bs).drop (0 + (a:Int).toNat * 1)).take (((20:Nat):Int).toNat - (a:Int).toNat)=u8L (bs.drop a):=by
    rw [Eh,show 0 + (a:Int).toNat * 1=a by omega];exact List.take_of_length_le (by simp [B4,hbl])
   have hl:(bs.drop a).length=((20:Nat):Int).toNat - (a:Int).toNat:=by simp [hbl]
   refine br ?_ ?_<;>intro hz
   ·have hz:z < 0:=sU hz;refine ⟨⟨by omega,by omega,by omega⟩,?_⟩;refine ⟨bs.drop a,hdu,hl,?_⟩;refine ⟨by show 1 + (bs.drop a).length<=_;rw [hl];omega,?_⟩;refine (congrArg (fun s=>DV.v (.string s)) ?_:_=_);rw [<- hd,LB,OY hz];exact mS [45] _
   ·have hz:¬ z < 0:=sU hz;refine ⟨⟨by omega,by omega,by omega⟩,?_⟩;refine ⟨bs.drop a,hdu,hl,?_⟩;refine (congrArg (fun s=>DV.v (.string s)) ?_:_=_);rw [<- hd,LB,SO (by omega),show z.toNat=z.natAbs by omega]
abbrev ba (l:List UInt8):ByteArray:=⟨l.toArray⟩
def tx (s:ByteArray):List UInt8:=s.data.toList
theorem mT {s:ByteArray} {l:List UInt8} (h:tx s=l):s=ba l:=by
 subst h;apply ByteArray.ext;simp [tx]
theorem wT (s t:ByteArray):tx (s ++ t)=tx s ++ tx t:=by simp [tx]
theorem nY (l:List UInt8):tx (ba l)=l:=by simp [tx]
theorem O1 (a:Array UInt8):tx ⟨a⟩=a.toList:=rfl
theorem Aj (s:ByteArray):ba (tx s)=s:=(mT rfl).symm
theorem SP (z:Int):tx (LB z)=iw z:=by simp [tx,LB]
theorem bB (s:ByteArray):(tx s).length=s.size:=by simp [tx]
theorem jM (s t:ByteArray):(s ++ t).size=s.size + t.size:=by simp
theorem uc (l:List UInt8):(ba l).size=l.length:=rfl
def sN (z:Int):Prop:=-9223372036854775808<=z/\z<=9223372036854775807
theorem O2 {n m:Nat} {cd:List TkE} {x y:ByteArray} (h:x=y):We n m cd (.v (.string x)) (.v (.string y)):=.inl ⟨by rw [h],rfl⟩
end Go.Proofs.YtgjagnmeonoehaaGreat
set_option maxRecDepth 100000
namespace Go.Proofs
open Go.Shelf
end Go.Proofs
namespace Go.Proofs.YtgjagnmeonoehaaGreat
open Go Go.RowKit Dv Go.Proofs.Tryz
theorem LF {P:Program} {f:FuncId} {args:List DV} {d:DV}
  (h:∀ (E:En) (w:World) (vs:List Value),Env E [] w->RvL E args vs->Calls P f vs.toArray w fun e w'=>∃ v,e = .returned v/\Rv E d v/\Below w.heap.size w w'):EvP P f args d:=by
 intro E w vs hE je hv;refine (h E w vs hE hv).mono ?_;rintro e w' ⟨v,rfl,hr,hb⟩;exact ⟨v,rfl,⟨hb.os,hb.tape,hb.output,hb.size,fun k hk _=>hb.block k hk⟩,fun hf=>(by cases hf),d,[],E,hE.kM hb.block,rfl,rfl,Nw.refl hE,hr,rfl⟩
def nu (l:List (List UInt8)):List (List DV):=l.map fun x=>[.v (.string (ba x))]
theorem LG (l:List (List UInt8)):(nu l).length=l.length:=by simp [nu]
end Go.Proofs.YtgjagnmeonoehaaGreat
set_option maxRecDepth 100000
namespace Go.Proofs.YtgjagnmeonoehaaGreat
open Go Go.RowKit Dv Go.Proofs.Tryz
mutual
def rngT:Ty->Prop
 | .mk h ps=>sN h.lo/\sN h.hi/\sN h.most/\rngP ps
def rngP:Pts->Prop
 | .nil=>True
 | .cons p t r=>sN p.wide/\sN p.cn/\rngT t/\rngP r
end
end Go.Proofs.YtgjagnmeonoehaaGreat
namespace Go.Proofs.YtgjagnmeonoehaaGreat
namespace Dv
open Go Go.RowKit
def TypFs (f:TypeId->List DV->Prop):List TypeId->List DV->Prop
 | [],ds=>ds=[]
 | t :: r,ds=>∃ a b,ds=a ++ b/\f t a/\TypFs f r b
def Typ (P:Program):Nat->TypeId->List DV->Prop
 | 0,_,_=>False
 | n + 1,t,ds=>
  match P.underlying t with
  | some .bool=>∃ b,ds=[.v (.bool b)]
  | some (.int k)=>∃ z,ds=[.v (.int k z)]/\(Lit.int k z).wf=true
  | some .string=>∃ s:ByteArray,ds=[.v (.string s)]
  | some (.slice e)=>∃ es,ds=[.sl (P.cellsOf e) es none]/\∀ cs∈es,Typ P n e cs
  | some (.struct fs)=>TypFs (Typ P n) (fs.toList.map (·.type)) ds
  | _=>False
mutual
def wgD:DV->Nat
 | .v (.string s)=>s.size + 64
 | .sl _ es _=>64 + wgEs es
 | _=>64
def wgL:List DV->Nat
 | []=>0
 | d :: r=>wgD d + wgL r
def wgEs:List (List DV)->Nat
 | []=>0
 | cs :: r=>wgL cs + wgEs r
end
theorem cY:∀ a b:List DV,wgL (a ++ b)=wgL a + wgL b
 | [],b=>by simp [wgL]
 | d :: r,b=>by simp only [List.cons_append,wgL,cY r b];omega
def laidF (P:Program) (S:List TypeId):Nat->List Field->Nat->Bool
 | off,[],n=>decide (off=n)
 | off,f :: r,n=>decide (f.offset=off) && S.contains f.type && laidF P S (off + P.cellsOf f.type) r n
def mU (P:Program) (S:List TypeId) (t:TypeId):Bool:=
 match P.underlying t with
 | some .bool=>decide (P.cellsOf t=1)
 | some (.int _)=>decide (P.cellsOf t=1)
 | some .string=>decide (P.cellsOf t=1)
 | some (.slice e)=>decide (P.cellsOf t=1) && S.contains e && decide (0 < P.cellsOf e)
 | some (.struct fs)=>laidF P S 0 fs.toList (P.cellsOf t)
 | _=>false
def bkS {H:Type} (bk:DataW H->Nat):List (DataW H)->Nat
 | []=>0
 | d :: r=>bk d + bkS bk r
structure Bk {H:Type} (bk:DataW H->Nat):Prop where
 str:∀ l:List UInt8,l.length + 1<=bk (.lit (.string l))
 lit:∀ l,1<=bk (.lit l)
 nil:1<=bk .nil
 slice:∀ es sp,1 + bkS bk es<=bk (.slice es sp)
 agg:∀ l,bkS bk l<=bk (.agg l)
def Hj (w:World):En:=⟨fun a=>w.cell? a,[],[],[]⟩
theorem SQ (w:World):Env (Hj w) [] w where
 len:=rfl
 tl:=rfl
 eA:=by simp
 inj:=List.nodup_nil
 sub:=fun x u hx=>hx
 pc:=by simp [Hj]
 bQ:=by simp [Hj]
 iZ:=by simp [Hj]
theorem LH {w:World} {a:Addr} {k:Nat} {v:Value} (h:w.cell? (a.add k)=some v):w.cell? ⟨a.block,a.off + k,none⟩=some v:=by
 unfold Addr.add at h;split at h
 ·rename_i hk;subst hk;unfold World.cell? at h ⊢;split at h
  ·rename_i c e z he;split at h
   ·cases h
   ·simpa [he] using h
  ·cases h
 ·exact h
theorem LI {w:World} {a:Addr} {v:Value} (h:w.cell? a=some v):a.spot=none:=by
 unfold World.cell? at h;split at h
 ·split at h
  ·cases h
  ·rename_i hs;simpa using hs
 ·cases h
theorem wU {E:En} {b:Nat}:∀ {p:Nat} {ds:List DV} {vs:List Value},RvL E.cl ds vs->(∀ (j:Nat) v,vs[j]? = some v->E.c ⟨b,p + j,none⟩=some v/\v.oneCell'=true)->RvAt E.cl b p ds
 | p,[],vs,h,hc=>by simp only [RvAt]
 | p,d :: r,vs,h,hc=>by
  simp only [RvL] at h;obtain ⟨v,s,rfl,h1,h2⟩:=h;simp only [RvAt];obtain ⟨c1,c2⟩:=hc 0 v rfl;refine ⟨⟨v,c1,c2,h1⟩,wU (p:=p + 1) h2 fun j u hj=>?_⟩;have:=hc (j + 1) u hj;rw [show p + 1 + j=p + (j + 1) by omega];exact this
section
variable {H:Type} {enc:TypeId × Value->H} {P:Program} {w:World} {sp:Nat->Bool} {held:Bool} {S:List TypeId} {bk:DataW H->Nat}
def Rd (enc:TypeId × Value->H) (P:Program) (w:World) (bk:DataW H->Nat) (n:Nat) (t:TypeId) (cs:List Value) (d:DataW H):Prop:=
 ∃ ds,RvL (Hj w) ds cs/\(∀ v∈cs,v.oneCell'=true)/\Typ P n t ds/\wgL ds<=64 * bk d/\cs.length=P.cellsOf t
theorem Ak {n:Nat} (ih:∀ t cs x,t∈S->DataW.trod enc P w 0 sp held n t cs=some x->Rd enc P w bk n t cs x.1) (cs:List Value) :
  ∀ (fs:List Field) (off:Nat) (xs:List (DataW H × List MemPlace)),laidF P S off fs cs.length=true->xs.length=fs.length ->
   (∀ (i:Nat) f,fs[i]? = some f->DataW.trod enc P w 0 sp held n f.type ((cs.drop f.offset).take (P.cellsOf f.type))=xs[i]?) ->
   ∃ ds,RvL (Hj w) ds (cs.drop off)/\(∀ v∈cs.drop off,v.oneCell'=true)/\TypFs (Typ P n) (fs.map (·.type)) ds/\wgL ds<=64 * bkS bk (xs.map (·.1))
 | [],off,xs,hl,za,hx=>by
  simp only [laidF,decide_eq_true_eq] at hl;subst hl;simp only [List.length_nil,List.length_eq_zero_iff] at za;subst za;exact ⟨[],by simpa using cL _,by simp,by simp [TypFs],by simp [wgL]⟩
 | f :: r,off,xs,hl,za,hx=>by
  simp only [laidF,aD,decide_eq_true_eq] at hl;obtain ⟨⟨LJ,hS⟩,hl⟩:=hl
  match xs,za with
  | x :: xs,za=>
   have h0:=hx 0 f rfl;rw [LJ] at h0;simp only [List.getElem?_cons_zero] at h0;obtain ⟨ds0,r1,r2,r3,r4,r5⟩:=ih f.type _ x (sU hS) h0;obtain ⟨ds1,s1,s2,s3,s4⟩:=Ak ih cs r (off + P.cellsOf f.type) xs hl (sU za) (fun i g hg=>by simpa using hx (i + 1) g (sU hg))
   have O3:cs.drop off=(cs.drop off).take (P.cellsOf f.type) ++ cs.drop (off + P.cellsOf f.type):=by
    rw [<- List.drop_drop,List.take_append_drop]
   refine ⟨ds0 ++ ds1,?_,?_,?_,?_⟩
   ·rw [O3];exact RvL.append r1 s1
   ·rw [O3];intro v hv;rcases List.mem_append.1 hv with hv | hv
    ·exact r2 v hv
    ·exact s2 v hv
   ·simp only [List.map_cons,TypFs];exact ⟨ds0,ds1,rfl,r3,s3⟩
   ·rw [cY];simp only [List.map_cons,bkS];omega
theorem Ek {n e:Nat} (ih:∀ t cs x,t∈S->DataW.trod enc P w 0 sp held n t cs=some x->Rd enc P w bk n t cs x.1) (he:e∈S) (a:Addr) :
  ∀ (xs:List (DataW H × List MemPlace)) (i0:Nat),(∀ i,i < xs.length->(w.cells? 0 (a.add ((i0 + i) * P.cellsOf e)) (P.cellsOf e)).bind (DataW.trod enc P w 0 sp held n e)=xs[i]?) ->
   ∃ es,es.length=xs.length/\RvEs (Hj w) (P.cellsOf e) a.block (a.off + i0 * P.cellsOf e) es/\(∀ cs∈es,Typ P n e cs)/\wgEs es<=64 * bkS bk (xs.map (·.1))
 | [],i0,hx=>⟨[],rfl,by simp only [RvEs],by simp,by simp [wgEs]⟩
 | x :: xs,i0,hx=>by
  have h0:=hx 0 (by simp);simp only [Nat.add_zero,List.getElem?_cons_zero] at h0;obtain ⟨cs,cQ,ht⟩:=Option.bind_eq_some_iff.1 h0;obtain ⟨_,hlen,nP⟩:=World.cells?_some cQ;obtain ⟨ds0,r1,r2,r3,r4,r5⟩:=ih e cs x he ht
  obtain ⟨es,s1,s2,s3,s4⟩:=Ek ih he a xs (i0 + 1) (fun i hi=>by
   have:=hx (i + 1) (sU hi);simp only [List.getElem?_cons_succ] at this;rw [show i0 + 1 + i=i0 + (i + 1) by omega]
   exact this)
  refine ⟨ds0 :: es,by simp [s1],?_,?_,?_⟩
  ·simp only [RvEs];refine ⟨by rw [<- r1.length,hlen],wU (E:=Hj w) r1 fun j v hj=>⟨?_,r2 v (mG hj)⟩,?_⟩
   ·have pN:j < P.cellsOf e:=by rw [<- hlen];exact (gS hj).1
    have h1:=nP j pN;rw [hj,Deep.add_add] at h1;have h2:=LH h1;show w.cell? _=_;rw [Nat.add_assoc];exact h2
   ·rw [Nat.add_assoc,show i0 * P.cellsOf e + P.cellsOf e=(i0 + 1) * P.cellsOf e by rw [Nat.add_mul,Nat.one_mul]];exact s2
  ·intro cs' hc;rcases bp hc with hc | hc
   ·subst hc;exact r3
   ·exact s3 cs' hc
  ·simp only [wgEs,List.map_cons,bkS];omega
theorem B5 (pX:Bk bk) (hS:∀ t∈S,mU P S t=true):∀ (n:Nat) (t:TypeId) (cs:List Value) (x:DataW H × List MemPlace),t∈S->DataW.trod enc P w 0 sp held n t cs=some x->Rd enc P w bk n t cs x.1
 | 0,t,cs,x,_,h=>by simp [DataW.trod] at h
 | n + 1,t,cs,x,ht,h=>by
  have hf:=hS t ht;unfold mU at hf;unfold Rd
  cases hu:P.underlying t with
  | none=>rw [hu] at hf;cases hf
  | some D=>
   rw [hu] at hf
   cases D with
   | bool=>
    simp only [decide_eq_true_eq] at hf;obtain ⟨b,rfl,rfl⟩:=DataW.trod_bool hu h;have:=pX.lit (.bool b);exact ⟨[.v (.bool b)],rvL_one (by unfold Rv;exact ⟨rfl,rfl⟩),by simp [Value.oneCell'],by simp only [Typ,hu];exact ⟨b,rfl⟩,by simp only [wgL,wgD];omega,by simp [hf]⟩
   | int k=>
    simp only [decide_eq_true_eq] at hf;obtain ⟨z,rfl,rfl,hw⟩:=DataW.trod_int hu h;have:=pX.lit (.int k z);exact ⟨[.v (.int k z)],rvL_one (by unfold Rv;exact ⟨rfl,rfl⟩),by simp [Value.oneCell'],by simp only [Typ,hu];exact ⟨z,rfl,hw⟩,by simp only [wgL,wgD];omega,by simp [hf]⟩
   | string=>
    simp only [decide_eq_true_eq] at hf;obtain ⟨s,rfl,rfl,hw⟩:=DataW.trod_string hu h;have:=pX.str s.data.toList;have bH:s.data.toList.length=s.size:=by rw [Array.length_toList];all_goals rfl
    exact ⟨[.v (.string s)],rvL_one (by unfold Rv;exact ⟨rfl,rfl⟩),by simp [Value.oneCell'],by simp only [Typ,hu];exact ⟨s,rfl⟩,by simp only [wgL,wgD];omega,by simp [hf]⟩
   | slice e=>
    simp only [aD,decide_eq_true_eq] at hf;obtain ⟨⟨zq,u6⟩,hf3⟩:=hf;rcases DataW.trod_slice hu h with ⟨rfl,rfl⟩ | ⟨a,len,cap,elems,rest,m,hm,rfl,rfl,_,Za,_,kL,hx,_,_⟩
    ·have:=pX.nil;refine ⟨[.sl (P.cellsOf e) [] none],rvL_one ?_,by simp [Value.oneCell'],by simp only [Typ,hu];exact ⟨[],rfl,by simp⟩,by simp only [wgL,wgD,wgEs];omega,by simp [zq]⟩;unfold Rv;exact ⟨none,0,0,rfl,⟨rfl,aO _⟩,fun hc=>absurd rfl hc,fun k hk=>by cases hk⟩
    ·simp only [Nat.add_right_cancel_iff] at hm;subst hm;obtain ⟨es,s1,s2,s3,s4⟩:=Ek (fun t cs x=>B5 pX hS n t cs x) (sU u6) a elems 0 (fun i hi=>by simpa using hx i (by omega));have hb:=pX.slice (elems.map (·.1)) (rest.map (·.1));refine ⟨[.sl (P.cellsOf e) es none],rvL_one ?_,by simp [Value.oneCell'],by simp only [Typ,hu];exact ⟨es,rfl,s3⟩,by simp only [wgL,wgD];omega,by simp [zq]⟩;unfold Rv;refine ⟨some a,len,cap,rfl,⟨by omega,Za⟩,fun aQ=>⟨?_,?_⟩,fun k hk=>by cases hk⟩
     ·have kN:0 < len:=by
       rw [<- kL,<- s1];exact List.length_pos_iff.2 aQ
      have h0:=hx 0 kN;rw [gE (by omega)] at h0;obtain ⟨cs,cQ,_⟩:=Option.bind_eq_some_iff.1 h0;obtain ⟨_,hlen,nP⟩:=World.cells?_some cQ;have h1:=nP 0 hf3;rw [gE (by omega),Deep.add_add] at h1;simp only [Nat.zero_mul,Nat.add_zero] at h1;exact LI (a:=a) h1
     ·have s2':RvEs (Hj w) (P.cellsOf e) a.block a.off es:=sU s2;exact s2'
   | struct fs=>
    obtain ⟨xs,m,hm,rfl,hlen,za,hx⟩:=DataW.trod_struct hu h;simp only [Nat.add_right_cancel_iff] at hm;subst hm;simp only at hf;obtain ⟨ds,s1,s2,s3,s4⟩:=Ak (fun t cs x=>B5 pX hS n t cs x) cs fs.toList 0 xs (by rw [hlen];exact hf) (sU za) (fun i f hi=>hx i f (sU hi));have hb:=pX.agg (xs.map (·.1));refine ⟨ds,by simpa using s1,by simpa using s2,by simp only [Typ,hu];exact s3,by simp only;omega,hlen⟩
   | _=>cases hf
end
theorem J4 {P:Program} {n:Nat} {t:TypeId} {k:IntKind} {ds:List DV} (hu:P.underlying t=some (.int k)) (h:Typ P n t ds):∃ z,ds=[.v (.int k z)]/\(Lit.int k z).wf=true:=by
 cases n with
 | zero=>exact h.elim
 | succ n=>simp only [Typ,hu] at h;exact h
theorem O4 {P:Program} {n:Nat} {t:TypeId} {ds:List DV} (hu:P.underlying t=some .bool) (h:Typ P n t ds):∃ b,ds=[.v (.bool b)]:=by
 cases n with
 | zero=>exact h.elim
 | succ n=>simp only [Typ,hu] at h;exact h
theorem B6 {P:Program} {n:Nat} {t:TypeId} {ds:List DV} (hu:P.underlying t=some .string) (h:Typ P n t ds):∃ s:ByteArray,ds=[.v (.string s)]:=by
 cases n with
 | zero=>exact h.elim
 | succ n=>simp only [Typ,hu] at h;exact h
theorem pY {P:Program} {n:Nat} {t e:TypeId} {ds:List DV} (hu:P.underlying t=some (.slice e)) (h:Typ P n t ds):∃ m es,n=m + 1/\ds=[.sl (P.cellsOf e) es none]/\∀ cs∈es,Typ P m e cs:=by
 cases n with
 | zero=>exact h.elim
 | succ n=>
  simp only [Typ,hu] at h;obtain ⟨es,h1,h2⟩:=h;exact ⟨n,es,rfl,h1,h2⟩
theorem ky {P:Program} {n:Nat} {t:TypeId} {fs:Array Field} {ds:List DV} (hu:P.underlying t=some (.struct fs)) (h:Typ P n t ds):∃ m,n=m + 1/\TypFs (Typ P m) (fs.toList.map (·.type)) ds:=by
 cases n with
 | zero=>exact h.elim
 | succ n=>
  simp only [Typ,hu] at h;exact ⟨n,rfl,h⟩
theorem wf_i64 {z:Int} (h:(Lit.int .i64 z).wf=true) : -9223372036854775808<=z/\z<=9223372036854775807:=by
 simpa [Lit.wf,IntKind.min,IntKind.max,IntKind.signed,IntKind.bits] using h
end Dv
end Go.Proofs.YtgjagnmeonoehaaGreat
set_option maxRecDepth 100000
namespace Go.Proofs.YtgjagnmeonoehaaGreat
open Go Go.RowKit Dv Go.Proofs.Tryz
theorem Hk:prog.cellsOf 27=2:=by kernel_rfl
theorem Hl:prog.cellsOf 109=18:=by kernel_rfl
theorem sO {n:Nat} {ds:List DV} (h:Typ prog n 27 ds):∃ w:Wd,ds=kv w/\w.wt<=wgL ds:=by
 obtain ⟨m,_,hf⟩:=ky Tryz.underlying27 h;obtain ⟨a,b,rfl,h1,c,d,rfl,h2,rfl⟩:=hf;obtain ⟨s,rfl⟩:=B6 Tryz.underlying9 h1;obtain ⟨z,rfl,_⟩:=J4 Tryz.underlying3 h2;exact ⟨⟨s,z⟩,rfl,by simp [wgL,wgD,Wd.wt]⟩
theorem O5:∀ {m:Nat} {es:List (List DV)},(∀ cs∈es,Typ prog m 27 cs)->∃ l:List Wd,es=bJ l/\wdsWt l<=wgEs es
 | m,[],h=>⟨[],rfl,by simp [wdsWt,wgEs]⟩
 | m,cs :: r,h=>by
  obtain ⟨w,rfl,hw⟩:=sO (h cs (by simp));obtain ⟨l,rfl,hl⟩:=O5 (m:=m) (es:=r) (fun c hc=>h c (dB _ hc));exact ⟨w :: l,rfl,by simp only [wdsWt,wgEs];omega⟩
theorem ve {n:Nat} {ds:List DV} (h:Typ prog n 22 ds):∃ l:List Wd,ds=[.sl 2 (bJ l) none]/\64 + wdsWt l<=wgL ds:=by
 obtain ⟨m,es,_,rfl,he⟩:=pY Tryz.underlying22 h;obtain ⟨l,rfl,hl⟩:=O5 he;rw [Hk];exact ⟨l,rfl,by simp only [wgL,wgD];omega⟩
theorem kz {n:Nat} {ds:List DV} (h:Typ prog n 3 ds):∃ z,ds=[.v (.int .i64 z)]/\sN z:=by
 obtain ⟨z,rfl,hw⟩:=J4 Tryz.underlying3 h;exact ⟨z,rfl,wf_i64 hw⟩
theorem O6 {m:Nat} (ih:∀ k,k < m->∀ ds,Typ prog k 29 ds->∃ t:Ty,ds=eE t/\rngT t/\t.wt<=wgL ds) :
  ∀ {es:List (List DV)},(∀ cs∈es,Typ prog m 109 cs)->∃ ps:Pts,es=gg ps/\rngP ps/\ps.wt<=wgEs es
 | [],h=>⟨.nil,by simp [gg],by simp [rngP],by simp [Pts.wt]⟩
 | cs :: r,h=>by
  obtain ⟨ps,rfl,hr,hl⟩:=O6 ih (es:=r) (fun c hc=>h c (dB _ hc));obtain ⟨k,rfl,hf⟩:=ky Tryz.underlying109 (h cs (by simp));obtain ⟨a1,b1,rfl,h1,a2,b2,rfl,h2,a3,b3,rfl,h3,a4,b4,rfl,h4,a5,b5,rfl,h5,a6,b6,rfl,h6,rfl⟩:=hf;obtain ⟨nm,rfl,w1⟩:=sO h1;obtain ⟨bare,rfl⟩:=O4 Tryz.underlying4 h2;obtain ⟨lab,rfl,w3⟩:=ve h3;obtain ⟨wide,rfl,r4⟩:=kz h4;obtain ⟨k5,_,hf5⟩:=ky Tryz.underlying107 h5;obtain ⟨c1,d1,rfl,g1,c2,d2,rfl,g2,c3,d3,rfl,g3,c4,d4,rfl,g4,rfl⟩:=hf5;obtain ⟨ck,rfl,_⟩:=kz g1;obtain ⟨cn,rfl,q2⟩:=kz g2;obtain ⟨ca,rfl,_⟩:=kz g3;obtain ⟨cl,rfl,w5⟩:=ve g4;obtain ⟨t,rfl,rt,wt⟩:=ih k (by omega) _ h6;refine ⟨.cons ⟨nm,bare,lab,wide,ck,cn,ca,cl⟩ t ps,?_,by simp only [rngP];exact ⟨r4,q2,rt,hr⟩,?_⟩
  ·simp only [gg,G6,kv,List.cons_append,List.nil_append,List.append_nil]
  ·simp only [Pts.wt,Ph.wt,wgEs,cY,wgL,wgD,kv] at *;simp only [Wd.wt] at *;omega
theorem O7:∀ (n:Nat) (ds:List DV),Typ prog n 29 ds->∃ t:Ty,ds=eE t/\rngT t/\t.wt<=wgL ds:=by
 intro n
 induction n using Nat.strongRecOn with
 | _ n ih=>
  intro ds h;obtain ⟨m,rfl,hf⟩:=ky Tryz.underlying29 h;obtain ⟨a1,b1,rfl,h1,a2,b2,rfl,h2,a3,b3,rfl,h3,a4,b4,rfl,h4,a5,b5,rfl,h5,a6,b6,rfl,h6,a7,b7,rfl,h7,a8,b8,rfl,h8,rfl⟩:=hf;obtain ⟨ag,rfl,_⟩:=kz h1;obtain ⟨aG,rfl,_⟩:=kz h2;obtain ⟨lo,rfl,r3⟩:=kz h3;obtain ⟨hi,rfl,r4⟩:=kz h4;obtain ⟨most,rfl,r5⟩:=kz h5;obtain ⟨af,rfl,w6⟩:=ve h6;obtain ⟨k,es,rfl,rfl,iq⟩:=pY Tryz.underlying25 h7;obtain ⟨ps,rfl,rp,wp⟩:=O6 (fun j hj=>ih j (by omega)) iq;obtain ⟨nm,rfl,w8⟩:=sO h8;rw [Hl];refine ⟨.mk ⟨ag,aG,lo,hi,most,af,nm⟩ ps,?_,by simp only [rngT];exact ⟨r3,r4,r5,rp⟩,?_⟩
  ·simp only [eE,kv,List.cons_append,List.nil_append,List.append_nil]
  ·simp only [Ty.wt,Hd.wt,cY,wgL,wgD,kv] at *;simp only [Wd.wt] at *;omega
end Go.Proofs.YtgjagnmeonoehaaGreat
namespace Go.Proofs.YtgjagnmeonoehaaGreat
namespace Dv
open Go Go.RowKit Go.ChangeShapes Go.WideShapes Go.ChangeAt
open Go.ChangeMaps (open_string shut_string)
section
variable {H:Type} {enc:TypeId × Value->H} {P:Program}
theorem pD (hl:laidOutB P=true) {W W':World} (hb:Below W.heap.size W W'):∀ {ts:List TypeId} {vs:List Value} {ds:List (DataW H)} {ps:List MemPlace},(∀ t∈ts,P.readableRec t=true/\t < P.types.size) ->
  DataW.TrodAll enc P W 0 (fun _=>true) true ts vs ds ps->(∀ x∈ps,x.block < W.heap.size)->DataW.TrodAll enc P W' 0 (fun b=>decide (b < W.heap.size)) true ts vs ds ps
 | [],[],[],_,_,h,_=>h
 | t :: ts,v :: vs,d :: ds,_,ht,⟨p,q,h1,h2,e⟩,aq=>by
  subst e;obtain ⟨r1,r2⟩:=ht t (by simp);exact ⟨p,q,Below.trod hl r1 r2 h1 hb (fun x hx=>aq x (List.mem_append_left _ hx)),pD hl hb (fun t uK=>ht t (by simp [uK])) h2 (fun x hx=>aq x (List.mem_append_right _ hx)),rfl⟩
theorem law_post {f:Func} {s:ChangeSpec} {tb:TypeId} (hl:laidOutB P=true) (NV:f.resultTypes = #[tb]) (htb:P.underlying tb=some .bool) (hv:s.vars=[]) (hts:∀ t∈f.params.toList,P.readableRec t=true/\t < P.types.size)
  {W W':World} {args:Array Value} {ds gs:List (DataW H)} {before:List MemPlace} (hW:DataW.Whole enc P f.params.toList s.vars false W args.toList ds gs before) (Dc:s.fn H ds={ results:=[.lit (.bool true)],args:=ds }) (hb:Below W.heap.size W W') :
  s.post enc P f false true false false W args (.bool true) W':=by
 have hW':=hW;obtain ⟨p,q,hA,hV,rfl,hfz,hnd⟩:=hW;rw [hv] at hV;obtain ⟨rfl,rfl⟩:=trodVars_none hV;refine ⟨ds,[],p ++ [],[],p,[],hW',?_,?_,?_,hb.frame _,fun h=>by cases h⟩
 ·rw [List.append_nil,Dc,NV];exact trodAll_cons_mk (shut_bool htb _) trodAll_mk0
 ·rw [List.append_nil,Dc];exact pD hl hb hts hA (fun x hx=>hW'.lt x (List.mem_append_left _ hx))
 ·rw [List.append_nil,Dc,hv];rfl
theorem Hm {w w':World} {Φ:DV->List (List DV)->List TkE->Prop} {v:Value} (h:Dq false (Hj w) w Φ v w'):Below w.heap.size w w':=by
 obtain ⟨hm,_⟩:=h;refine ⟨hm.os,hm.tape,hm.output,hm.size,fun k hk=>hm.block k hk ?_⟩;rintro (h1 | ⟨y,h1,_⟩)
 ·simp [Hj] at h1
 ·simp [Hj] at h1
theorem calls_law {f:FuncId} {args:List DV} {vs:List Value} {w:World} (h:EvP P f args (.v (.bool true))) (hv:RvL (Hj w) args vs) :
  Calls P f vs.toArray w fun e w'=>e = .returned (.bool true)/\Below w.heap.size w w':=by
 refine (h (Hj w) w vs (SQ w) rfl hv).mono ?_;rintro e w' ⟨v,rfl,he⟩;have hb:=Hm he;obtain ⟨_,_,d,os,E,_,_,_,_,hr,rfl⟩:=he;unfold Rv at hr;rw [hr.1];exact ⟨rfl,hb⟩
variable {W:World} {base:Nat} {S:List TypeId} {bk:DataW H->Nat}
theorem arg_st (pX:Bk bk) (hS:∀ t∈S,mU P S t=true) {t:TypeId} {fs:Array Field} {v:Value} {d:DataW H} {ps:List MemPlace} (ht:t∈S) (hu:P.underlying t=some (.struct fs))
  (hval:Value.okWide P W .any base t v) (h:DataW.Trod enc P W 0 (fun _=>true) true t v d ps):∃ n ds,Rv (Hj W) (.agg ds) v/\Typ P n t ds/\wgL ds<=64 * bk d:=by
 unfold Value.okWide at hval;rw [hu] at hval;obtain ⟨cs,rfl,_,_⟩:=hval;obtain ⟨n,hn⟩:=h;obtain ⟨ds,h1,h2,h3,h4,_⟩:=B5 pX hS n t _ _ ht hn;refine ⟨n,ds,?_,h3,h4⟩;unfold Rv;exact ⟨cs.toList,by simp,h1,h2⟩
end
end Dv
end Go.Proofs.YtgjagnmeonoehaaGreat
namespace Go.Proofs.YtgjagnmeonoehaaGreat
open Go Go.RowKit Dv
theorem Hn {H:Type}:∀ l:List (DataW H),bkS Rows.uptoBulk l=Rows.uptoBulkAll l
 | []=>by simp [bkS,Rows.uptoBulkAll]
 | d :: r=>by simp only [bkS,Rows.uptoBulkAll,Hn r]
theorem bk_ok {H:Type}:Bk (Rows.uptoBulk (H:=H)) where
 str:=fun l=>by simp [Rows.uptoBulk]
 lit:=fun l=>by cases l<;>simp [Rows.uptoBulk]
 nil:=by simp [Rows.uptoBulk]
 slice:=fun es sp=>by simp only [Rows.uptoBulk,Hn];omega
 agg:=fun l=>by simp only [Rows.uptoBulk,Hn];omega
theorem bulk_le {H:Type} {l:List (DataW H)} (hk:Rows.uptoSmall H l=true):Rows.uptoBulkAll l<=1048576:=of_decide_eq_true hk
theorem laid_out:laidOutB Tryz.prog=true:=by kernel_rfl
theorem own_knob:ownKnob Tryz.prog.godebug=none:=by kernel_rfl
def tyS:List TypeId:=[29,22,27,9,3,25,109,4,107]
end Go.Proofs.YtgjagnmeonoehaaGreat
set_option maxRecDepth 100000
namespace Go.Proofs.YtgjagnmeonoehaaGreat
open Go Go.RowKit Dv Go.Proofs.Tryz
def Pts.take:Nat->Pts->Pts
 | 0,_=>.nil
 | _ + 1,.nil=>.nil
 | e + 1,.cons p t r=>.cons p t (r.take e)
structure Sch where
 ae:List Wd
 order:List (Wd × Wd)
 types:List (Wd × Ty)
 root:Ty
def Nv (p:Wd × Wd):List DV:=[.v (.string p.1.s),.v (.int .i64 p.1.a),.v (.string p.2.s),.v (.int .i64 p.2.a)]
def nA (l:List (Wd × Wd)):List (List DV):=l.map Nv
def dNm (x:Wd × Ty):List DV:=.v (.string x.1.s) :: .v (.int .i64 x.1.a) :: eE x.2
def dNms (l:List (Wd × Ty)):List (List DV):=l.map dNm
def eJ (s:Sch):List DV:=.sl 2 (bJ s.ae) none :: .sl 4 (nA s.order) none :: .sl 11 (dNms s.types) none :: eE s.root
def prsWt:List (Wd × Wd)->Nat
 | []=>0
 | p :: r=>p.1.wt + p.2.wt + prsWt r
def nmsWt:List (Wd × Ty)->Nat
 | []=>0
 | p :: r=>p.1.wt + p.2.wt + nmsWt r
def Sch.wt (s:Sch):Nat:=wdsWt s.ae + prsWt s.order + nmsWt s.types + s.root.wt
theorem gA (l:List (Wd × Wd)):(nA l).length=l.length:=by simp [nA]
theorem ek (l:List (Wd × Ty)):(dNms l).length=l.length:=by simp [dNms]
theorem iy {l:List (Wd × Wd)} {j:Nat} {p:Wd × Wd} (h:l[j]? = some p):(nA l)[j]? = some (Nv p):=by simp [nA,h]
theorem dNms_get {l:List (Wd × Ty)} {j:Nat} {p:Wd × Ty} (h:l[j]? = some p):(dNms l)[j]? = some (dNm p):=by simp [dNms,h]
theorem jl:∀ l:List (Wd × Wd),128 * l.length<=prsWt l
 | []=>aO _
 | p :: r=>by have:=jl r;simp only [List.length_cons,prsWt,Wd.wt];omega
theorem j5:∀ l:List (Wd × Ty),256 * l.length<=nmsWt l
 | []=>aO _
 | p :: r=>by have:=j5 r;have:=p.2.dz;simp only [List.length_cons,nmsWt,Wd.wt];omega
theorem hZ:∀ {l:List (Wd × Ty)} {p:Wd × Ty},p∈l->p.1.wt + p.2.wt<=nmsWt l
 | x :: r,p,h=>by
  rcases bp h with h | h
  ·subst h;simp only [nmsWt];omega
  ·have:=hZ h;simp only [nmsWt];omega
def SR (s:Sch):Prop:=(∀ x∈s.types,rngT x.2)/\rngT s.root
theorem Ho:prog.cellsOf 171=4:=by kernel_rfl
theorem El:prog.cellsOf 124=11:=by kernel_rfl
theorem Xp {n:Nat} {ds:List DV} (h:Typ prog n 171 ds):∃ p:Wd × Wd,ds=Nv p/\p.1.wt + p.2.wt<=wgL ds:=by
 obtain ⟨m,_,hf⟩:=ky Tryz.underlying171 h;obtain ⟨a,b,rfl,h1,c,d,rfl,h2,rfl⟩:=hf;obtain ⟨x,rfl,w1⟩:=sO h1;obtain ⟨y,rfl,w2⟩:=sO h2;exact ⟨(x,y),rfl,by simp only [cY,wgL];omega⟩
theorem Xq {n:Nat} {ds:List DV} (h:Typ prog n 124 ds):∃ p:Wd × Ty,ds=dNm p/\rngT p.2/\p.1.wt + p.2.wt<=wgL ds:=by
 obtain ⟨m,_,hf⟩:=ky Tryz.underlying124 h;obtain ⟨a,b,rfl,h1,c,d,rfl,h2,rfl⟩:=hf;obtain ⟨x,rfl,w1⟩:=sO h1;obtain ⟨y,rfl,r2,w2⟩:=O7 _ _ h2;exact ⟨(x,y),by simp [dNm,kv],r2,by simp only [cY,wgL];omega⟩
theorem O8:∀ {m:Nat} {es:List (List DV)},(∀ cs∈es,Typ prog m 171 cs)->∃ l:List (Wd × Wd),es=nA l/\prsWt l<=wgEs es
 | m,[],h=>⟨[],rfl,by simp [prsWt,wgEs]⟩
 | m,cs :: r,h=>by
  obtain ⟨w,rfl,hw⟩:=Xp (h cs (by simp));obtain ⟨l,rfl,hl⟩:=O8 (m:=m) (es:=r) (fun c hc=>h c (dB _ hc));exact ⟨w :: l,rfl,by simp only [prsWt,wgEs];omega⟩
theorem O9:∀ {m:Nat} {es:List (List DV)},(∀ cs∈es,Typ prog m 124 cs)->∃ l:List (Wd × Ty),es=dNms l/\(∀ x∈l,rngT x.2)/\nmsWt l<=wgEs es
 | m,[],h=>⟨[],rfl,by simp,by simp [nmsWt,wgEs]⟩
 | m,cs :: r,h=>by
  obtain ⟨w,rfl,hr,hw⟩:=Xq (h cs (by simp));obtain ⟨l,rfl,hlr,hl⟩:=O9 (m:=m) (es:=r) (fun c hc=>h c (dB _ hc));refine ⟨w :: l,rfl,fun x hx=>?_,by simp only [nmsWt,wgEs];omega⟩;rcases bp hx with rfl | hx
  ·exact hr
  ·exact hlr x hx
theorem typ_sch {n:Nat} {ds:List DV} (h:Typ prog n 31 ds):∃ s:Sch,ds=eJ s/\SR s/\s.wt<=wgL ds:=by
 obtain ⟨m,_,hf⟩:=ky Tryz.underlying31 h;obtain ⟨a1,b1,rfl,h1,a2,b2,rfl,h2,a3,b3,rfl,h3,a4,b4,rfl,h4,rfl⟩:=hf;obtain ⟨l1,rfl,w1⟩:=ve h1;obtain ⟨m2,es2,_,rfl,he2⟩:=pY Tryz.underlying23 h2;obtain ⟨l2,rfl,w2⟩:=O8 he2;obtain ⟨m3,es3,_,rfl,he3⟩:=pY Tryz.underlying24 h3;obtain ⟨l3,rfl,r3,w3⟩:=O9 he3;obtain ⟨t,rfl,r4,w4⟩:=O7 _ _ h4;rw [Ho,El];refine ⟨⟨l1,l2,l3,t⟩,by simp [eJ],⟨r3,r4⟩,?_⟩;simp only [Sch.wt,cY,wgL,wgD] at *;omega
end Go.Proofs.YtgjagnmeonoehaaGreat
namespace Go.Proofs.YtgjagnmeonoehaaGreat
open Go Go.RowKit Dv
def tySS:List TypeId:=31 :: 23 :: 171 :: 24 :: 124 :: tyS
theorem tySS_ok:∀ t∈tySS,mU Tryz.prog tySS t=true:=by
 have h:(tySS.all fun t=>mU Tryz.prog tySS t)=true:=by kernel_rfl
 exact fun t ht=>List.all_eq_true.1 h t ht
set_option maxRecDepth 100000
noncomputable abbrev PP:Program:=Tryz.pinned.checked.prog
def dft:OpenClaim:={ program := "",sum := "",func := "",spec := "" }
theorem and_ok {a b:Bool} (ha:a=true) (hb:b=true):(a && b)=true:=by rw [ha,hb];all_goals rfl
theorem g_laid:laidOutB PP=true:=laid_out
theorem g_maps:mapsRowed PP=true:=by kernel_rfl
theorem g_stops:(PP.stops == [])=true:=by kernel_rfl
theorem g_knobs:(PP.stopKnobs == [])=true:=by kernel_rfl
theorem g_heard:PP.stopsHeard=true:=by kernel_rfl
theorem g_enter:PP.mayEnter=true:=by kernel_rfl
theorem g_lifts:(dft.lifted == PP.liftsFinal)=true:=by kernel_rfl
theorem g_keys:(true == PP.plainKeys)=true:=by kernel_rfl
theorem g_make:(PP.make == some dft.make)=true:=by kernel_rfl
end Go.Proofs.YtgjagnmeonoehaaGreat
set_option maxRecDepth 100000
namespace Go.Proofs.YtgjagnmeonoehaaGreat
open Go Go.RowKit Dv Go.Proofs.Tryz
theorem Em (x b:Nat):(x:Int).fdiv (2 ^ b)=((x / 2 ^ b:Nat):Int):=by
 rw [Int.fdiv_eq_ediv_of_nonneg _ (by exact Int.le_of_lt (Int.pow_pos (by decide)))];simp
theorem jm (m:Nat):BitVec.ofInt 64 (m:Int)=BitVec.ofNat 64 m:=by simp
theorem J5 {x b:Nat} (hb:b < 64) (hx:x < 18446744073709551616) :
  decide (IntKind.u64.wrap ((BitVec.ofInt 64 ((x:Int).fdiv (2 ^ (min b 64))) &&& BitVec.ofInt 64 1).toNat:Int)=1)=x.testBit b:=by
 rw [Nat.min_eq_left (by omega),Em,jm,show (BitVec.ofInt 64 1)=BitVec.ofNat 64 1 by decide,BitVec.toNat_and,BitVec.toNat_ofNat,BitVec.toNat_ofNat,Nat.testBit_eq_decide_div_mod_eq];have h1:x / 2 ^ b < 18446744073709551616:=Nat.lt_of_le_of_lt (Nat.div_le_self _ _) hx;rw [Nat.mod_eq_of_lt h1,show (1 % 2 ^ 64:Nat)=1 by decide,Nat.and_one_is_mod];simp only [IntKind.wrap_u64];congr 1;apply propext;omega
theorem Hp {x b:Nat} (hb:b < 64) (hx:x < 18446744073709551616) :
  IntKind.u64.wrap ((BitVec.ofInt 64 (x:Int) ||| BitVec.ofInt 64 (IntKind.u64.wrap (1 * 2 ^ (min b 64)))).toNat:Int)=((x ||| 2 ^ b:Nat):Int):=by
 have h2:2 ^ b < 18446744073709551616:=by
  have:2 ^ b<=2 ^ 63:=Nat.pow_le_pow_right (by decide) (by omega);omega
 have e1:IntKind.u64.wrap (1 * 2 ^ (min b 64))=((2 ^ b:Nat):Int):=by
  rw [Nat.min_eq_left (by omega),Int.one_mul];have:((2:Int) ^ b)=((2 ^ b:Nat):Int):=by simp
  rw [this];generalize 2 ^ b=z at h2;simp only [IntKind.wrap_u64];omega
 rw [e1,jm,jm,BitVec.toNat_or,BitVec.toNat_ofNat,BitVec.toNat_ofNat,Nat.mod_eq_of_lt hx,Nat.mod_eq_of_lt h2];have h3:x ||| 2 ^ b < 18446744073709551616:=Nat.or_lt_two_pow (n:=64) hx h2
 simp only [IntKind.wrap_u64];omega
theorem SU {x y:Nat} (hx:x < 18446744073709551616) (hy:y < 18446744073709551616) :
  IntKind.u64.wrap ((BitVec.ofInt 64 (x:Int) ||| BitVec.ofInt 64 (y:Int)).toNat:Int)=((x ||| y:Nat):Int):=by
 rw [jm,jm,BitVec.toNat_or,BitVec.toNat_ofNat,BitVec.toNat_ofNat,Nat.mod_eq_of_lt hx,Nat.mod_eq_of_lt hy];have h3:x ||| y < 18446744073709551616:=Nat.or_lt_two_pow (n:=64) hx hy
 simp only [IntKind.wrap_u64];omega
theorem iz (x a b:Nat):(x ||| 2 ^ b).testBit a=(x.testBit a || decide (b=a)):=by
 rw [Nat.testBit_or,Nat.testBit_two_pow]
def dU (rows:List Nat):List (List DV):=rows.map fun (x:Nat)=>[DV.v (.int .u64 (x:Int))]
theorem lC (rows:List Nat):(dU rows).length=rows.length:=by simp [dU]
theorem Xr {rows:List Nat} {i:Nat} {x:Nat} (h:rows[i]? = some x):(dU rows)[i]? = some [DV.v (.int .u64 (x:Int))]:=by simp [dU,h]
abbrev nB (rows:List Nat):DV:=.pt [.sl 1 (dU rows) none] 0
def eK (rows:List Nat):Prop:=rows.length<=64/\∀ x∈rows,x < 18446744073709551616
def aX (rows:List Nat) (a b:Nat):Bool:=(rows.getD a 0).testBit b
def hasB (rows:List Nat) (a b:Int):Bool:=decide (0<=a) && decide (a < rows.length) && decide (0<=b) && decide (b < rows.length) && aX rows a.toNat b.toNat
theorem Al (rows:List Nat):EvP prog 190 [nB rows] (.v (.int .i64 rows.length)):=by
 refine eG 10 [.tmp 2] func190 rfl ntmps190 rfl fun _ _ _ _=>?_;refine (aan ?_:);rw [lC]
theorem lT (rows:List Nat) (hr:eK rows) (a b:Int):EvP prog 169 [nB rows,.v (.int .i64 a),.v (.int .i64 b)] (.v (.bool (hasB rows a b))):=by
 have hl:=Al rows;refine eG 38 [.tmp 6] func169 rfl ntmps169 rfl fun _ _ _ _=>?_;refine br ?_ ?_<;>intro g1
 ·have g1:0<=a:=sU g1;refine cP Oo hl ?_;refine br ?_ ?_<;>intro g2
  ·obtain ⟨g2,g3⟩:a < rows.length/\0<=b:=by
    cases h:decide (a < (rows.length:Int))<;>simp [pickB,h] at g2<;>exact ⟨by simpa using h,g2⟩
   refine cP Oo hl ?_;refine br ?_ ?_<;>intro g4
   ·have g4:b < rows.length:=by simpa [pickB,g2,g3] using g4
    obtain ⟨x,hx⟩:∃ x,rows[a.toNat]? = some x:=⟨_,gE (by omega)⟩;have RS:=hr.2 x (mG hx);have hr1:=hr.1;refine ⟨_,⟨g1,Xr hx⟩,?_⟩;refine ⟨g3,?_⟩;refine (aae ?_:);have Li:rows.getD a.toNat 0=x:=getD_some hx
    have e1:hasB rows a b=x.testBit b.toNat:=by
     unfold hasB aX;rw [Li];simp [g1,g2,g3,g4]
    rw [e1];exact J5 (x:=x) (b:=b.toNat) (by omega) RS
   ·have g4:¬ b < rows.length:=by simpa [pickB,g2,g3] using g4
    refine (aae ?_:);simp [pickB,g2,g3,g4,hasB]
  ·have g5:¬ (a < rows.length/\0<=b):=by
    rintro ⟨h1,h2⟩;simp [pickB,h1,h2] at g2
   refine (aae ?_:);cases h:decide (a < (rows.length:Int))<;>simp [pickB,h,hasB] at g2 ⊢
   intro _ h0;omega
 ·have g1:¬ 0<=a:=sU g1;refine (aae ?_:);simp [g1,hasB]
def backN (rows:List Nat) (a:Nat):Nat->Nat
 | 0=>0
 | e + 1=>if aX rows a e && aX rows e a then backN rows a e ||| 2 ^ e else backN rows a e
theorem wV (rows:List Nat) (a:Nat):∀ e,backN rows a e < 2 ^ e
 | 0=>by simp [backN]
 | e + 1=>by
  have ih:=wV rows a e;have h2:2 ^ e < 2 ^ (e + 1):=Nat.pow_lt_pow_right (by decide) (by omega);simp only [backN];split
  ·exact Nat.or_lt_two_pow (by omega) h2
  ·omega
theorem sP (rows:List Nat) (a b:Nat):∀ e,(backN rows a e).testBit b=(decide (b < e) && (aX rows a b && aX rows b a))
 | 0=>by simp [backN]
 | e + 1=>by
  have ih:=sP rows a b e;simp only [backN];by_cases kU:b=e
  ·subst kU;cases hx:(aX rows a b && aX rows b a)
   ·simp [ih,hx]
   ·simp [iz]
  ·have h1:decide (b < e + 1)=decide (b < e):=by congr 1;apply propext;omega
   rw [h1,<- ih];split
   ·rw [iz,decide_eq_false (Ne.symm kU),Bool.or_false]
   ·rfl
abbrev Xs (rows:List Nat) (a e:Nat):St:=
 ⟨[(0,⟨[],nB rows⟩),aaa 1 a,(5,⟨[],.v (.int .u64 (backN rows a e:Nat))⟩),aaa 11 ((dU rows).length),aaa 12 e],[],[]⟩
theorem q8 {rows:List Nat} {a b:Nat} (ha:a < rows.length) (hb:b < rows.length):hasB rows a b=aX rows a b:=by
 simp [hasB,ha,hb]
theorem Hq (rows:List Nat) (hr:eK rows) (a:Nat) (ha:a < rows.length):EvP prog 192 [nB rows,.v (.int .i64 a)] (.v (.int .u64 (backN rows a rows.length:Nat))):=by
 have hr1:=hr.1;refine eG 31 [.tmp 4] func192 rfl ntmps192 rfl fun _ _ _ _=>?_;refine lJ (fun e=>Xs rows a e) rows.length (wkM wB) ?_;intro e he;refine br ?_ ?_<;>intro hL
 ·have aq:e < rows.length:=by have:=hL;simp [lC] at this;exact this
  have h1:=lT rows hr a e;have h2:=lT rows hr e a;rw [q8 ha aq] at h1;rw [q8 aq ha] at h2;have hbl:=wV rows a e
  have Xt:backN rows a e < 18446744073709551616:=by
   have:2 ^ e<=2 ^ 64:=Nat.pow_le_pow_right (by decide) (by omega);omega
  have hor:=Hp (x:=backN rows a e) (b:=e) (by omega) Xt;have hs:backN rows a (e + 1)=if aX rows a e && aX rows e a then backN rows a e ||| 2 ^ e else backN rows a e:=rfl
  refine cP DW h1 ?_;refine br ?_ ?_<;>intro g1
  ·have g1:aX rows a e=true:=sU g1;refine cP DW h2 ?_;refine br ?_ ?_<;>intro g2
   ·have g2:aX rows e a=true:=by simpa [pickB,g1] using g2
    rw [g1,g2] at hs;have hs:backN rows a (e + 1)=backN rows a e ||| 2 ^ e:=hs
    refine ⟨by omega,?_⟩;exact rE ⟨_,by omega,e + 1,rfl,by omega,rfl⟩ (wkM (by repeat' (first | exact trivial | exact aw rfl | exact ay (nxt aq (by omega)) | exact ay (hor.trans (by rw [hs])) | refine ⟨⟨_,rfl,?_⟩,?_⟩)))
   ·have g2:aX rows e a=false:=by simpa [pickB,g1] using g2
    rw [g1,g2] at hs;have hs:backN rows a (e + 1)=backN rows a e:=hs;exact rE ⟨_,by omega,e + 1,rfl,by omega,rfl⟩ (wkM (by repeat' (first | exact trivial | exact aw rfl | exact ay (nxt aq (by omega)) | exact ay (by rw [hs]) | refine ⟨⟨_,rfl,?_⟩,?_⟩)))
  ·have g1:aX rows a e=false:=sU g1;rw [g1] at hs;have hs:backN rows a (e + 1)=backN rows a e:=hs;exact rE ⟨_,by omega,e + 1,rfl,by omega,rfl⟩ (wkM (by repeat' (first | exact trivial | exact aw rfl | exact ay (nxt aq (by omega)) | exact ay (by rw [hs]) | refine ⟨⟨_,rfl,?_⟩,?_⟩)))
 ·have aS:e=rows.length:=by have:=hL;simp [lC] at this;omega
  subst aS;exact (rfl:_=_)
def cU (rows:List Nat):List DV:=rows.map fun (x:Nat)=>DV.v (.int .u64 (x:Int))
theorem pZ (rows:List Nat):(cU rows).length=rows.length:=by simp [cU]
theorem Pa {rows:List Nat} {i x:Nat} (h:rows[i]? = some x):(cU rows)[i]? = some (DV.v (.int .u64 (x:Int))):=by simp [cU,h]
theorem Pb (rows:List Nat) (i x:Nat):(cU rows).set i (DV.v (.int .u64 (x:Int)))=cU (rows.set i x):=by simp [cU,List.map_set]
theorem ra (rows:List Nat):(dU rows).flatten=cU rows:=by
 induction rows with
 | nil=>rfl
 | cons x r ih=>simp only [dU,cU,List.map_cons,List.flatten_cons] at ih ⊢;rw [ih];all_goals rfl
theorem J6 {n m:Nat} {tk:List TkE}:∀ l:List Nat,WeL n m tk (cU l) (cU l)
 | []=>rfl
 | b :: r=>⟨_,_,rfl,aw rfl,J6 r⟩
theorem B7 {n m:Nat} {tk:List TkE} {l:List DV} {ds:List Nat} (h:l=cU ds):WeL n m tk l (cU ds):=by rw [h];exact J6 ds
def dNP (p:Nat × Nat):List DV:=[.v (.int .i64 (p.1:Int)),.v (.int .i64 (p.2:Int))]
def mV (l:List (Nat × Nat)):List (List DV):=l.map dNP
theorem iA (l:List (Nat × Nat)):(mV l).length=l.length:=by simp [mV]
theorem wW {l:List (Nat × Nat)} {i:Nat} {p:Nat × Nat} (h:l[i]? = some p):(mV l)[i]? = some (dNP p):=by simp [mV,h]
def wX (rows:List Nat) (p:Nat × Nat):List Nat:=rows.set p.1 (rows.getD p.1 0 ||| 2 ^ p.2)
def fL (n:Nat) (l:List (Nat × Nat)):List Nat:=l.foldl wX (List.replicate n 0)
theorem LK (n:Nat) (l:List (Nat × Nat)) (e:Nat) {p:Nat × Nat} (h:l[e]? = some p):fL n (l.take (e + 1))=wX (fL n (l.take e)) p:=by
 unfold fL;rw [List.take_add_one,h];simp
theorem rb (rows:List Nat) (p:Nat × Nat):(wX rows p).length=rows.length:=by simp [wX]
theorem kA (n:Nat):∀ (l:List (Nat × Nat)),(fL n l).length=n:=by
 intro l
 have:∀ (l:List (Nat × Nat)) (r:List Nat),(l.foldl wX r).length=r.length:=by
  intro l
  induction l with
  | nil=>intro r;rfl
  | cons p l ih=>intro r;rw [List.foldl_cons,ih,rb]
 rw [fL,this];simp
theorem SV {rows:List Nat} {p:Nat × Nat} (h:eK rows) (hp:p.1 < rows.length) (hq:p.2 < 64):eK (wX rows p):=by
 refine ⟨by rw [rb];exact h.1,fun x hx=>?_⟩;rcases List.mem_or_eq_of_mem_set hx with hx | rfl
 ·exact h.2 x hx
 ·refine Nat.or_lt_two_pow (n:=64) ?_ (Nat.pow_lt_pow_right (by decide) hq);rw [cH,gE hp];exact h.2 _ (List.getElem_mem hp)
theorem B8 {n:Nat} (hn:n<=64):∀ (l:List (Nat × Nat)),(∀ p∈l,p.1 < n/\p.2 < n)->eK (fL n l):=by
 intro l hl
 have:∀ (l:List (Nat × Nat)) (r:List Nat),r.length=n->eK r->(∀ p∈l,p.1 < n/\p.2 < n)->eK (l.foldl wX r):=by
  intro l
  induction l with
  | nil=>intro r _ h _;exact h
  | cons p l ih=>
   intro r hr h hp;have:=hp p (by simp);exact ih _ (by rw [rb,hr]) (SV h (by omega) (by omega)) (fun q hq=>hp q (by simp [hq]))
 refine this l _ (by simp) ⟨by simp [hn],fun x hx=>?_⟩ hl;rw [List.mem_replicate] at hx;omega
abbrev Pc (n:Nat) (l:List (Nat × Nat)) (rows:List Nat) (e:Nat):St:=
 ⟨[aaa 0 n,aab 6 1,aad 19 2 (mV l),aaa 20 ((mV l).length),aaa 21 e],
  [cU rows,[.ms 0 1 0 n n]],[]⟩
theorem LL (n:Nat) (hn:n<=64) (l:List (Nat × Nat)) (hl:∀ p∈l,p.1 < n/\p.2 < n) (hb:l.length<=1099511627776) :
  EvP prog 107 [.v (.int .i64 n),.sl 2 (mV l) none] (.tup [nB (fL n l),.v (.bool true)]):=by
 refine eG 60 [.tmp 4,.tmp 5] func107 rfl ntmps107 rfl fun _ _ _ _=>?_;refine br ?_ ?_<;>intro g
 ·exfalso;simp [ap] at g;omega
 refine ⟨⟨rfl,by omega,by omega,by omega⟩,?_⟩
 have h0:(List.replicate (n:Int).toNat [DV.v (.int .u64 0)]).flatten=cU (fL n (l.take 0)):=by
  simp [fL,cU]
 refine lJ (fun e=>Pc n l (fL n (l.take e)) e) l.length (QT 2 (by repeat' (first | exact rfl | exact aw rfl | exact B7 h0 | refine ⟨_,_,rfl,?_,?_⟩)) (by repeat' (first | exact trivial | exact aw rfl | exact B7 h0 | refine ⟨⟨_,rfl,?_⟩,?_⟩))) ?_;intro e he;refine br ?_ ?_<;>intro hL
 ·have aq:e < l.length:=by have:=hL;simp [iA] at this;exact this
  obtain ⟨p,hp⟩:=gX aq;obtain ⟨p1,p2⟩:=hl p (mG hp);refine iX (wW hp) ?_;refine ⟨⟨by decide,by decide⟩,?_⟩;refine ⟨⟨by decide,by decide⟩,?_⟩;refine br ?_ ?_<;>intro g
  ·refine ⟨⟨by decide,by decide⟩,?_⟩;refine ⟨⟨by decide,by decide⟩,?_⟩;refine br ?_ ?_<;>intro g2
   ·exfalso;simp [pickB] at g2;omega
   obtain ⟨x,hx⟩:∃ x,(fL n (l.take e))[p.1]? = some x:=⟨_,gE (by rw [kA];exact p1)⟩;have bZ:=B8 hn (l.take e) (fun q hq=>hl q (List.mem_of_mem_take hq));have RS:=bZ.2 x (mG hx);have uL:0 + (p.1:Int).toNat * 1=p.1:=by omega
   refine dS ?_;refine ⟨⟨by decide,by decide⟩,?_⟩;refine ⟨⟨by omega,by omega⟩,?_⟩;refine ⟨_,(by rw [uL];exact Pa hx:(cU (fL n (l.take e)))[0 + (p.1:Int).toNat * 1]? = some _),?_⟩;refine ⟨⟨by decide,by decide⟩,?_⟩;refine ⟨by omega,?_⟩;refine ⟨⟨by omega,by omega⟩,?_⟩;refine ⟨by rw [uL,pZ,kA];omega,?_⟩
   have cQ:(cU (fL n (l.take e))).set (0 + (p.1:Int).toNat * 1) (DV.v (.int .u64 (IntKind.u64.wrap ((BitVec.ofInt 64 (x:Int) ||| BitVec.ofInt 64 (IntKind.u64.wrap (1 * 2 ^ (min (p.2:Int).toNat 64)))).toNat:Int))))=cU (fL n (l.take (e + 1))):=by
    rw [uL,show ((p.2:Int).toNat)=p.2 by omega,Hp (by omega) RS,Pb,LK n l e hp];simp only [wX];rw [getD_some hx]
   refine ⟨Pc n l (fL n (l.take (e + 1))) (e + 1),(QT 2 (by repeat' (first | exact rfl | exact aw rfl | exact B7 cQ | exact ay (nxt aq (by omega)) | refine ⟨_,_,rfl,?_,?_⟩)) (by repeat' (first | exact trivial | exact aw rfl | exact B7 cQ | exact ay (nxt aq (by omega)) | refine ⟨⟨_,rfl,?_⟩,?_⟩))),l.length - (e + 1),by omega,e + 1,rfl,by omega,rfl⟩
  ·exfalso;simp [pickB] at g;omega
 ·have aS:e=l.length:=by have:=hL;simp [iA] at this;omega
  subst aS;rw [List.take_length];refine ⟨_,?_,rfl⟩;have hlen:=kA n l;generalize fL n l=rows at hlen ⊢;refine ⟨_,rfl,_,_,rfl,.inr ⟨1,_,rfl,Nat.zero_le _,rfl,_,_,rfl,.inr (.inr (.inl ⟨0,0,n,cU rows,by rw [lC,hlen],Nat.zero_le _,rfl,?_,?_,?_⟩)),rfl⟩,_,_,rfl,rfl,rfl⟩
  ·rw [ra,lC,Nat.mul_one,List.drop_zero,List.take_of_length_le (by rw [pZ];omega)]
  ·intro x hx;simp only [dU,List.mem_map] at hx;obtain ⟨y,_,rfl⟩:=hx;rfl
  ·intro x hx;rw [ra] at hx;simp only [cU,List.mem_map] at hx;obtain ⟨y,_,rfl⟩:=hx;exact .inl ⟨_,rfl⟩
def jQ (rows:List Nat) (k:Nat):List Nat:=rows.set k (rows.getD k 0 ||| 2 ^ k)
def pF (k:Nat) (rows:List Nat) (a:Nat):List Nat:=if aX rows a k then rows.set a (rows.getD a 0 ||| rows.getD k 0) else rows
def iB (rows:List Nat) (k e:Nat):List Nat:=(List.range e).foldl (pF k) (jQ rows k)
def closeR (rows:List Nat) (e:Nat):List Nat:=(List.range e).foldl (fun r k=>iB r k r.length) rows
theorem Pd {rows:List Nat} {i x:Nat} (h:eK rows) (hx:x < 18446744073709551616):eK (rows.set i x):=by
 refine ⟨by rw [List.length_set];exact h.1,fun y hy=>?_⟩;rcases List.mem_or_eq_of_mem_set hy with hy | rfl
 ·exact h.2 y hy
 ·exact hx
theorem mW {rows:List Nat} (h:eK rows) (i:Nat):rows.getD i 0 < 18446744073709551616:=by
 rw [cH]
 cases hx:rows[i]? with
 | none=>simp
 | some x=>exact h.2 x (mG hx)
theorem Pe {rows:List Nat} {k:Nat} (h:eK rows) (hk:k < 64):eK (jQ rows k):=
 Pd h (Nat.or_lt_two_pow (n:=64) (mW h k) (Nat.pow_lt_pow_right (by decide) hk))
theorem LM (rows:List Nat) (k:Nat):(jQ rows k).length=rows.length:=by simp [jQ]
theorem Pf {rows:List Nat} {k a:Nat} (h:eK rows):eK (pF k rows a):=by
 unfold pF;split
 ·exact Pd h (Nat.or_lt_two_pow (n:=64) (mW h a) (mW h k))
 ·exact h
theorem LN (rows:List Nat) (k a:Nat):(pF k rows a).length=rows.length:=by
 unfold pF;split<;>simp
theorem mX (rows:List Nat) (k e:Nat):iB rows k (e + 1)=pF k (iB rows k e) e:=by simp [iB,List.range_succ]
theorem oT (rows:List Nat) (k:Nat):∀ e,(iB rows k e).length=rows.length
 | 0=>by simp [iB,LM]
 | e + 1=>by rw [mX,LN,oT]
theorem wY {rows:List Nat} {k:Nat} (h:eK rows) (hk:k < 64):∀ e,eK (iB rows k e)
 | 0=>by simpa [iB] using Pe h hk
 | e + 1=>by rw [mX];exact Pf (wY h hk e)
theorem la (rows:List Nat) (e:Nat):closeR rows (e + 1)=iB (closeR rows e) e (closeR rows e).length:=by simp [closeR,List.range_succ]
theorem fM (rows:List Nat):∀ e,(closeR rows e).length=rows.length
 | 0=>by simp [closeR]
 | e + 1=>by rw [la,oT,fM]
theorem lU {rows:List Nat} (h:eK rows):∀ e,e<=64->eK (closeR rows e)
 | 0,_=>by simpa [closeR] using h
 | e + 1,he=>by rw [la];exact wY (lU h e (by omega)) (by omega) _
def spU (m:Nat):List DV:=(List.replicate m (vL [Value.int .u64 0])).flatten
theorem wZ {n m:Nat} {tk:List TkE}:∀ l:List DV,(∀ x∈l,∃ y,x = .v y)->WeL n m tk l l
 | [],_=>rfl
 | b :: r,h=>by
  obtain ⟨y,rfl⟩:=h b (by simp);exact ⟨_,_,rfl,aw rfl,wZ r (fun x hx=>h x (by simp [hx]))⟩
theorem fZ {n m:Nat} {tk:List TkE} {l:List DV} {ds:List Nat} {k:Nat} (h:l=cU ds ++ spU k):WeL n m tk l (cU ds ++ spU k):=by
 rw [h];refine wZ _ fun x hx=>?_;rcases List.mem_append.1 hx with hx | hx
 ·simp only [cU,List.mem_map] at hx;obtain ⟨y,_,rfl⟩:=hx;exact ⟨_,rfl⟩
 ·simp only [spU,List.mem_flatten,List.mem_replicate] at hx;obtain ⟨y,⟨_,rfl⟩,hx⟩:=hx;simp [vL] at hx;exact ⟨_,hx⟩
theorem B9 {r:List Nat} {k i x:Nat} (h:r[i]? = some x):(cU r ++ spU k)[0 + (i:Int).toNat * 1]? = some (DV.v (.int .u64 (x:Int))):=by
 rw [show 0 + (i:Int).toNat * 1=i by omega,bF (by rw [pZ];exact (gS h).1)];exact Pa h
theorem Pg {r:List Nat} {k i x:Nat} (h:i < r.length):(cU r ++ spU k).set (0 + (i:Int).toNat * 1) (DV.v (.int .u64 (x:Int)))=cU (r.set i x) ++ spU k:=by
 rw [show 0 + (i:Int).toNat * 1=i by omega,List.set_append_left _ _ (by rw [pZ];exact h),Pb]
theorem Pj {r:List Nat} {k i:Nat} (h:i < r.length):0 + (i:Int).toNat * 1 + 1<=(cU r ++ spU k).length:=by
 rw [List.length_append,pZ];omega
abbrev clSt (rows:List Nat) (cap:Nat) (r:List Nat) (e:Nat):St:=
 ⟨[aab 3 1,aaa 19 ((dU rows).length),aaa 20 e],[cU r ++ spU (cap - (dU rows).length),[.ms 0 1 0 (dU rows).length cap]],[]⟩
abbrev acq (rows:List Nat) (cap:Nat) (r:List Nat) (e f:Nat):St:=
 ⟨[aab 3 1,aaa 4 e,aaa 19 ((dU rows).length),aaa 20 e,aaa 38 ((dU rows).length),aaa 39 f],[cU r ++ spU (cap - (dU rows).length),[.ms 0 1 0 (dU rows).length cap]],[]⟩
theorem p8 {l:List Nat} {i:Nat} (h:i < l.length):l[i]? = some (l.getD i 0):=sK h
theorem ue (rows:List Nat) (hr:eK rows) (h0:rows ≠ []):EvP prog 109 [nB rows] (nB (closeR rows rows.length)):=by
 have hr1:=hr.1;have hN:=lC rows;have jO:0 < rows.length:=List.length_pos_iff.2 h0;refine mH (s:=false) (bt:=[]) (mu:=[12]) (hbt:=fun p hp=>by cases hp) (fr:=false) (P:=prog) tt jC 5000 72 [.tmp 2] func109 rfl ntmps109 rfl (nL rfl) (fun _ _ _ _=>?_);refine ⟨⟨by intro h;exact h0 (by simpa [dU] using h),by rw [lC];simp [maxLen];omega,by rw [lC];omega⟩,fun cap Le=>?_⟩
 have gv:(dU rows).flatten.append (List.replicate (cap - (dU rows).length) (vL [Value.int .u64 0])).flatten=cU (closeR rows 0) ++ spU (cap - (dU rows).length):=by
  show (dU rows).flatten ++ _=_;rw [ra];rfl
 refine lJ (fun e=>clSt rows cap (closeR rows e) e) rows.length (QT 2 (nG gv) (wB1 gv)) ?_;intro e he;have bZ:=lU hr e (by omega);have hlen:=fM rows e;have Vq:=la rows e;generalize hce:closeR rows e=r at bZ hlen Vq ⊢;refine br ?_ ?_<;>intro hL
 ·have aq:e < rows.length:=by have:=hL;simp [hN] at this;exact this
  have hx:=p8 (l:=r) (i:=e) (by omega);have hor:=Hp (x:=r.getD e 0) (b:=e) (by omega) (mW bZ e);refine dS ?_;refine ⟨⟨by omega,by omega⟩,?_⟩;refine ⟨_,B9 hx,?_⟩;refine ⟨by omega,?_⟩;refine ⟨⟨by omega,by omega⟩,?_⟩;refine ⟨Pj (by omega),?_⟩
  have fA:(cU r ++ spU (cap - (dU rows).length)).set (0 + (e:Int).toNat * 1) (DV.v (.int .u64 (IntKind.u64.wrap ((BitVec.ofInt 64 ((r.getD e 0:Nat):Int) ||| BitVec.ofInt 64 (IntKind.u64.wrap (1 * 2 ^ (min (e:Int).toNat 64)))).toNat:Int))))=cU (iB r e 0) ++ spU (cap - (dU rows).length):=by
   rw [show min (e:Int).toNat 64=min e 64 by omega,hor,Pg (by omega)];rfl
  refine lJ (fun f=>acq rows cap (iB r e f) e f) rows.length (QT 2 (nG fA) (wB1 fA)) ?_;intro f hf;have hpk:=wY (k:=e) bZ (by omega) f;have iJ:=oT r e f;have hps:=mX r e f;have dX:e < (iB r e f).length:=by rw [iJ];omega
  refine br ?_ ?_<;>intro hL
  ·have Dg:f < rows.length:=by have:=hL;simp [hN] at this;exact this
   have hpf:f < (iB r e f).length:=by rw [iJ];omega
   generalize iB r e f=q at hpk iJ hps dX hpf ⊢;have hy:=p8 hpf;have hz:=p8 dX;have Pk:=J5 (x:=q.getD f 0) (b:=e) (by omega) (mW hpk f);have hor:=SU (mW hpk f) (mW hpk e);refine ⟨⟨by omega,by omega⟩,?_⟩;refine ⟨_,B9 hy,?_⟩;refine ⟨by omega,?_⟩;refine br ?_ ?_<;>intro g
   ·have g:aX q f e=true:=Pk.symm.trans g;refine dS ?_;refine ⟨⟨by omega,by omega⟩,?_⟩;refine ⟨_,B9 hy,?_⟩;refine ⟨⟨by omega,by omega⟩,?_⟩;refine ⟨_,B9 hz,?_⟩;refine ⟨⟨by omega,by omega⟩,?_⟩;refine ⟨Pj hpf,?_⟩
    have eO:(cU q ++ spU (cap - (dU rows).length)).set (0 + (f:Int).toNat * 1) (DV.v (.int .u64 (IntKind.u64.wrap ((BitVec.ofInt 64 ((q.getD f 0:Nat):Int) ||| BitVec.ofInt 64 ((q.getD e 0:Nat):Int)).toNat:Int))))=cU (iB r e (f + 1)) ++ spU (cap - (dU rows).length):=by
     rw [hor,Pg hpf,hps,pF,ai g]
    exact rE ⟨_,by omega,f + 1,rfl,by omega,rfl⟩ (QT 2 (nQ eO (nxt Dg (by omega))) (gw eO (nxt Dg (by omega))))
   ·have g:aX q f e=false:=Pk.symm.trans g
    have eO:cU q ++ spU (cap - (dU rows).length)=cU (iB r e (f + 1)) ++ spU (cap - (dU rows).length):=by
     rw [hps,pF,ah (by rw [g];decide)]
    exact rE ⟨_,by omega,f + 1,rfl,by omega,rfl⟩ (QT 2 (nQ eO (nxt Dg (by omega))) (gw eO (nxt Dg (by omega))))
  ·have aS:f=rows.length:=sW hN hL;subst aS
   have Db:cU (iB r e rows.length) ++ spU (cap - (dU rows).length)=cU (closeR rows (e + 1)) ++ spU (cap - (dU rows).length):=by
    rw [Vq,hlen]
   exact rE ⟨_,by omega,e + 1,rfl,by omega,rfl⟩ (QT 2 (nQ Db (nxt aq (by omega))) (gw Db (nxt aq (by omega))))
 ·have aS:e=rows.length:=sW hN hL;subst aS;refine ⟨_,?_,rfl⟩;rw [hce];refine .inr ⟨1,_,rfl,Nat.zero_le _,rfl,_,_,rfl,.inr (.inr (.inl ⟨0,0,cap,cU r ++ spU (cap - (dU rows).length),by rw [lC r,hlen,hN],Nat.zero_le _,rfl,?_,?_,?_⟩)),rfl⟩
  ·rw [ra,lC,Nat.mul_one,List.drop_zero,List.take_append_of_le_length (by rw [pZ];omega),List.take_of_length_le (by rw [pZ];omega)]
  ·intro x hx;simp only [dU,List.mem_map] at hx;obtain ⟨y,_,rfl⟩:=hx;rfl
  ·intro x hx;rw [ra] at hx;simp only [cU,List.mem_map] at hx;obtain ⟨y,_,rfl⟩:=hx;exact .inl ⟨_,rfl⟩
theorem lV {a b c d:Nat} (ha:a < 256) (hb:b < 256):(a + 256 * c) &&& (b + 256 * d)=(a &&& b) + 256 * (c &&& d):=by
 have h1:a &&& b < 256:=Nat.and_lt_two_pow (n:=8) a hb;apply Nat.eq_of_testBit_eq;intro i
 have e (x y:Nat) (hx:x < 256):(x + 256 * y).testBit i=if i < 8 then x.testBit i else y.testBit (i - 8):=by
  rw [show x + 256 * y=2 ^ 8 * y + x by omega,Nat.testBit_two_pow_mul_add _ (sU hx)]
 rw [Nat.testBit_and,e a c ha,e b d hb,e _ _ h1];split<;>simp [Nat.testBit_and]
def b1 (x:Nat):Nat:=((x / 2) &&& 85) + (x &&& 85)
def b2 (x:Nat):Nat:=((x / 4) &&& 51) + (x &&& 51)
def b3 (x:Nat):Nat:=((x / 16) + x) &&& 15
def pop8 (x:Nat):Nat:=b3 (b2 (b1 x))
theorem J7:∀ x:Fin 256,b1 x.val < 256/\b2 (b1 x.val) < 120/\pop8 x.val<=8/\pop8 x.val=(((((((x.val.testBit 0).toNat + (x.val.testBit 1).toNat) + (x.val.testBit 2).toNat) + (x.val.testBit 3).toNat) + (x.val.testBit 4).toNat) + (x.val.testBit 5).toNat) + (x.val.testBit 6).toNat) + (x.val.testBit 7).toNat:=by decide +kernel
def valB:List Nat->Nat
 | []=>0
 | a :: r=>a + 256 * valB r
def rep (m:Nat):Nat->Nat
 | 0=>0
 | n + 1=>m + 256 * rep m n
theorem m1:∀ (a:Fin 256) (c:Fin 2),(a.val / 2 + 128 * c.val) &&& 85=(a.val / 2) &&& 85:=by decide +kernel
theorem m2:∀ (a:Fin 256) (c:Fin 4),(a.val / 4 + 64 * c.val) &&& 51=(a.val / 4) &&& 51:=by decide +kernel
theorem qD:∀ l:List Nat,(∀ a∈l,a < 256)->((valB l / 2) &&& rep 85 l.length) + (valB l &&& rep 85 l.length)=valB (l.map b1)
 | [],_=>rfl
 | a :: r,h=>by
  have ih:=qD r (fun x hx=>h x (by simp [hx]));have ha:=h a (by simp);have e1:(a + 256 * valB r) / 2=(a / 2 + 128 * (valB r % 2)) + 256 * (valB r / 2):=by omega
  have hm:=m1 ⟨a,ha⟩ ⟨valB r % 2,by omega⟩;simp only at hm;simp only [valB,List.length_cons,rep,List.map_cons,b1];rw [e1,lV (by omega) (by decide),lV ha (by decide),hm,<- ih];omega
theorem Lk:∀ l:List Nat,(∀ a∈l,a < 256)->((valB l / 4) &&& rep 51 l.length) + (valB l &&& rep 51 l.length)=valB (l.map b2)
 | [],_=>rfl
 | a :: r,h=>by
  have ih:=Lk r (fun x hx=>h x (by simp [hx]));have ha:=h a (by simp);have e1:(a + 256 * valB r) / 4=(a / 4 + 64 * (valB r % 4)) + 256 * (valB r / 4):=by omega
  have hm:=m2 ⟨a,ha⟩ ⟨valB r % 4,by omega⟩;simp only at hm;simp only [valB,List.length_cons,rep,List.map_cons,b2];rw [e1,lV (by omega) (by decide),lV ha (by decide),hm,<- ih];omega
theorem acr (x y:Nat):(x + 16 * y) &&& 15=x &&& 15:=by
 have h (z:Nat):z &&& 15=z % 16:=Nat.and_two_pow_sub_one_eq_mod z 4;rw [h,h];omega
def Eo (a:Nat):Prop:=a < 70/\a % 16<=4
theorem st3:∀ l:List Nat,(∀ a∈l,Eo a)->((valB l / 16) + valB l) &&& rep 15 l.length=valB (l.map b3)
 | [],_=>rfl
 | a :: r,h=>by
  have ih:=st3 r (fun x hx=>h x (by simp [hx]));have ha:=h a (by simp)
  have hc:valB r % 16<=4:=by
   cases r with
   | nil=>simp [valB]
   | cons b s=>
    have:=(h b (by simp)).2;simp only [valB];omega
  unfold Eo at ha;have e1:(a + 256 * valB r) / 16 + (a + 256 * valB r)=((a / 16 + a) + 16 * (valB r % 16)) + 256 * (valB r / 16 + valB r):=by omega
  simp only [valB,List.length_cons,rep,List.map_cons,b3];rw [e1,lV (by omega) (by decide),acr,ih]
def fb (x:Nat):List Nat:=[x % 256,x / 256 % 256,x / 65536 % 256,x / 16777216 % 256,x / 4294967296 % 256,x / 1099511627776 % 256,x / 281474976710656 % 256,x / 72057594037927936 % 256]
theorem Hr {x:Nat} (h:x < 18446744073709551616):valB (fb x)=x:=by
 simp only [fb,valB];omega
theorem LO (x:Nat):∀ a∈fb x,a < 256:=by
 intro a ha;simp only [fb,List.mem_cons,List.not_mem_nil,or_false] at ha;omega
def Hs (x:Nat):Nat:=((fb x).map pop8).sum
theorem Ep:∀ a:Fin 256,b1 a.val < 256/\b2 (b1 a.val) < 70/\b2 (b1 a.val) % 16<=4:=by decide +kernel
theorem Ca {x m:Nat} (hx:x < 18446744073709551616) (hm:m < 18446744073709551616) :
  IntKind.u64.wrap ((BitVec.ofInt 64 (x:Int) &&& BitVec.ofInt 64 (m:Int)).toNat:Int)=((x &&& m:Nat):Int):=by
 rw [jm,jm,BitVec.toNat_and,BitVec.toNat_ofNat,BitVec.toNat_ofNat,Nat.mod_eq_of_lt hx,Nat.mod_eq_of_lt hm];have h3:x &&& m < 18446744073709551616:=Nat.and_lt_two_pow (n:=64) x hm;simp only [IntKind.wrap_u64];omega
theorem Ht {x:Nat} {k:Int} (hk:k.toNat < 64):(x:Int).fdiv (2 ^ min k.toNat IntKind.u64.bits)=((x / 2 ^ k.toNat:Nat):Int):=by
 rw [show min k.toNat IntKind.u64.bits=k.toNat from Nat.min_eq_left (by show k.toNat<=64;omega),Em]
theorem Cb {y:Nat} (h:y < 18446744073709551616):IntKind.u64.wrap (y:Int)=(y:Int):=by
 simp only [IntKind.wrap_u64];omega
theorem acs {k M:Int} {m x y:Nat} (hk:k.toNat < 64) (hx:x < 18446744073709551616) (hM:M=(m:Int)) (hm:m < 18446744073709551616) (hy:((x / 2 ^ k.toNat) &&& m) + (x &&& m)=y) (lO:y < 18446744073709551616) :
  IntKind.u64.wrap (IntKind.u64.wrap ((BitVec.ofInt IntKind.u64.bits ((x:Int).fdiv (2 ^ min k.toNat IntKind.u64.bits)) &&& BitVec.ofInt IntKind.u64.bits M).toNat:Int) + IntKind.u64.wrap ((BitVec.ofInt IntKind.u64.bits (x:Int) &&& BitVec.ofInt IntKind.u64.bits M).toNat:Int))=(y:Int):=by
 subst hM;have h1:x / 2 ^ k.toNat < 18446744073709551616:=Nat.lt_of_le_of_lt (Nat.div_le_self _ _) hx;have e1:IntKind.u64.wrap ((BitVec.ofInt IntKind.u64.bits ((x / 2 ^ k.toNat:Nat):Int) &&& BitVec.ofInt IntKind.u64.bits (m:Int)).toNat:Int)=_:=Ca h1 hm;have e2:IntKind.u64.wrap ((BitVec.ofInt IntKind.u64.bits (x:Int) &&& BitVec.ofInt IntKind.u64.bits (m:Int)).toNat:Int)=_:=Ca hx hm;rw [Ht hk,e1,e2,<- Int.natCast_add,hy,Cb lO]
theorem stgB {k M:Int} {m x y:Nat} (hk:k.toNat < 64) (hs:x / 2 ^ k.toNat + x < 18446744073709551616) (hM:M=(m:Int)) (hm:m < 18446744073709551616) (hy:((x / 2 ^ k.toNat) + x) &&& m=y) :
  IntKind.u64.wrap ((BitVec.ofInt IntKind.u64.bits (IntKind.u64.wrap ((x:Int).fdiv (2 ^ min k.toNat IntKind.u64.bits) + (x:Int))) &&& BitVec.ofInt IntKind.u64.bits M).toNat:Int)=(y:Int):=by
 subst hM;have e2:IntKind.u64.wrap ((BitVec.ofInt IntKind.u64.bits ((x / 2 ^ k.toNat + x:Nat):Int) &&& BitVec.ofInt IntKind.u64.bits (m:Int)).toNat:Int)=_:=Ca hs hm;rw [Ht hk,<- Int.natCast_add,Cb hs,e2,hy]
theorem Xu {k:Int} {x:Nat} (hk:k.toNat < 64) (hs:x + x / 2 ^ k.toNat < 18446744073709551616) :
  IntKind.u64.wrap ((x:Int) + (x:Int).fdiv (2 ^ min k.toNat IntKind.u64.bits))=((x + x / 2 ^ k.toNat:Nat):Int):=by
 rw [Ht hk,<- Int.natCast_add,Cb hs]
theorem J8:∀ l:List Nat,(∀ a∈l,a < 256)->valB l < 256 ^ l.length
 | [],_=>by simp [valB]
 | a :: r,h=>by
  have ih:=J8 r (fun x hx=>h x (by simp [hx]));have ha:=h a (by simp);simp only [valB,List.length_cons,Nat.pow_succ];omega
theorem Pl {x:Nat} (hx:x < 18446744073709551616):∃ y1 y2 y3:Nat,((x / 2) &&& 6148914691236517205) + (x &&& 6148914691236517205)=y1/\y1 < 18446744073709551616/\((y1 / 4) &&& 3689348814741910323) + (y1 &&& 3689348814741910323)=y2/\y2 / 16 + y2 < 18446744073709551616/\y2 < 18446744073709551616 /\
  ((y2 / 16) + y2) &&& 1085102592571150095=y3/\∃ p0 p1 p2 p3 p4 p5 p6 p7:Nat,y3=valB [p0,p1,p2,p3,p4,p5,p6,p7]/\(p0<=8/\p1<=8/\p2<=8/\p3<=8/\p4<=8/\p5<=8/\p6<=8/\p7<=8)/\Hs x=p0 + p1 + p2 + p3 + p4 + p5 + p6 + p7:=by
 have hl:=LO x;have s1:=qD (fb x) hl;rw [Hr hx] at s1
 have l1:∀ a∈(fb x).map b1,a < 256:=by
  intro a ha;obtain ⟨b,hb,rfl⟩:=List.mem_map.1 ha;exact (Ep ⟨b,hl b hb⟩).1
 have l2:∀ a∈((fb x).map b1).map b2,Eo a:=by
  intro a ha;obtain ⟨c,hc,rfl⟩:=List.mem_map.1 ha;obtain ⟨b,hb,rfl⟩:=List.mem_map.1 hc;exact (Ep ⟨b,hl b hb⟩).2
 have s2:=Lk ((fb x).map b1) l1;have s3:=st3 (((fb x).map b1).map b2) l2
 have v1:valB ((fb x).map b1) < 18446744073709551616:=by
  have:=J8 _ l1;rw [List.length_map,show (fb x).length=8 from rfl] at this;simpa using this
 rw [show rep 85 (fb x).length=6148914691236517205 from (by decide:rep 85 8=_)] at s1;rw [List.length_map,show rep 51 (fb x).length=3689348814741910323 from (by decide:rep 51 8=_)] at s2;rw [List.length_map,List.length_map,show rep 15 (fb x).length=1085102592571150095 from (by decide:rep 15 8=_)] at s3;refine ⟨_,_,_,s1,v1,s2,?_,?_,s3,_,_,_,_,_,_,_,_,rfl,?_,?_⟩
 ·have:=l2;simp only [fb,List.map_cons,List.map_nil,List.mem_cons,List.not_mem_nil,or_false,forall_eq_or_imp,forall_eq,Eo,valB] at this ⊢;omega
 ·have:=l2;simp only [fb,List.map_cons,List.map_nil,List.mem_cons,List.not_mem_nil,or_false,forall_eq_or_imp,forall_eq,Eo,valB] at this ⊢;omega
 ·have h (b:Nat) (hb:b < 256):=(J7 ⟨b,hb⟩).2.2.1;exact ⟨h _ (by omega),h _ (by omega),h _ (by omega),h _ (by omega),h _ (by omega),h _ (by omega),h _ (by omega),h _ (by omega)⟩
 ·simp only [Hs,fb,List.map_cons,List.map_nil,List.sum_cons,List.sum_nil,pop8];omega
theorem dr1 {a r:Nat} (h:a < 256):(a + 256 * r) / 256=r:=by omega
theorem dr2 {a b r:Nat} (h:a < 256) (h2:b < 256):(a + 256 * (b + 256 * r)) / 65536=r:=by omega
theorem dr4 {a b c d r:Nat} (h:a < 256) (h2:b < 256) (h3:c < 256) (h4:d < 256):(a + 256 * (b + 256 * (c + 256 * (d + 256 * r)))) / 4294967296=r:=by omega
theorem Pm {p0 p1 p2 p3 p4 p5 p6 p7:Nat} (hp:p0<=8/\p1<=8/\p2<=8/\p3<=8/\p4<=8/\p5<=8/\p6<=8/\p7<=8):∃ z1 z2 z3:Nat,
  (p0 + 256 * (p1 + 256 * (p2 + 256 * (p3 + 256 * (p4 + 256 * (p5 + 256 * (p6 + 256 * (p7 + 256 * 0)))))))) + (p0 + 256 * (p1 + 256 * (p2 + 256 * (p3 + 256 * (p4 + 256 * (p5 + 256 * (p6 + 256 * (p7 + 256 * 0)))))))) / 256=z1/\z1 < 18446744073709551616 /\
  z1 + z1 / 65536=z2/\z2 < 18446744073709551616/\z2 + z2 / 4294967296=z3/\z3 < 18446744073709551616/\z3 % 128=p0 + p1 + p2 + p3 + p4 + p5 + p6 + p7:=by
 refine ⟨(p0 + p1) + 256 * ((p1 + p2) + 256 * ((p2 + p3) + 256 * ((p3 + p4) + 256 * ((p4 + p5) + 256 * ((p5 + p6) + 256 * ((p6 + p7) + 256 * p7)))))),
  (p0 + p1 + p2 + p3) + 256 * ((p1 + p2 + p3 + p4) + 256 * ((p2 + p3 + p4 + p5) + 256 * ((p3 + p4 + p5 + p6) + 256 * ((p4 + p5 + p6 + p7) + 256 * ((p5 + p6 + p7) + 256 * ((p6 + p7) + 256 * p7)))))),
  (p0 + p1 + p2 + p3 + p4 + p5 + p6 + p7) + 256 * ((p1 + p2 + p3 + p4 + p5 + p6 + p7) + 256 * ((p2 + p3 + p4 + p5 + p6 + p7) + 256 * ((p3 + p4 + p5 + p6 + p7) + 256 * ((p4 + p5 + p6 + p7) + 256 * ((p5 + p6 + p7) + 256 * ((p6 + p7) + 256 * p7)))))),?_,by omega,?_,by omega,?_,by omega,by omega⟩
 ·rw [dr1 (by omega)];omega
 ·rw [dr2 (by omega) (by omega)];omega
 ·rw [dr4 (by omega) (by omega) (by omega) (by omega)];omega
theorem Pn {z:Nat} (h:z < 18446744073709551616):IntKind.i64.wrap ((BitVec.ofInt IntKind.i64.bits (IntKind.i64.wrap (z:Int)) &&& BitVec.ofInt IntKind.i64.bits 127).toNat:Int)=((z % 128:Nat):Int):=by
 have e1:BitVec.ofInt 64 (IntKind.i64.wrap (z:Int))=BitVec.ofNat 64 z:=by
  apply BitVec.eq_of_toNat_eq;rw [BitVec.toNat_ofInt,BitVec.toNat_ofNat,IntKind.wrap_i64];omega
 have e2:(BitVec.ofInt 64 (IntKind.i64.wrap (z:Int)) &&& BitVec.ofInt 64 127).toNat=z % 128:=by
  rw [e1,show BitVec.ofInt 64 127=BitVec.ofNat 64 127 by decide,BitVec.toNat_and,BitVec.toNat_ofNat,BitVec.toNat_ofNat,Nat.mod_eq_of_lt h];exact Nat.and_two_pow_sub_one_eq_mod z 7
 have e3:(BitVec.ofInt IntKind.i64.bits (IntKind.i64.wrap (z:Int)) &&& BitVec.ofInt IntKind.i64.bits 127).toNat=z % 128:=e2;rw [e3,IntKind.wrap_i64];omega
theorem LP (x:Nat) (hx:x < 18446744073709551616):EvP prog 191 [.v (.int .u64 x)] (.v (.int .i64 (Hs x:Nat))):=by
 obtain ⟨y1,y2,y3,h1,UC,h2,h2s,h2b,h3,p0,p1,p2,p3,p4,p5,p6,p7,h4,hp,h5⟩:=Pl hx;rw [h5];simp only [valB] at h4;refine eG 35 [.tmp 2] func191 rfl ntmps191 rfl fun _ _ _ _=>?_;refine ⟨by decide,?_⟩;refine ⟨by decide,?_⟩;refine ⟨by decide,?_⟩;refine ⟨by decide,?_⟩;refine ⟨by decide,?_⟩;refine ⟨by decide,?_⟩;refine (aan ?_:);rw [acs (k:=1) (M:=6148914691236517205) (by decide) hx rfl (by decide) h1 UC,acs (k:=2) (M:=3689348814741910323) (by decide) UC rfl (by decide) h2 h2b,stgB (k:=4) (M:=1085102592571150095) (by decide) h2s rfl (by decide) h3];obtain ⟨z1,z2,z3,g1,g1b,g2,g2b,g3,g3b,g4⟩:=Pm hp;rw [<- h4] at g1;have k1:y3 + y3 / 2 ^ (8:Int).toNat=z1:=g1;rw [Xu (k:=8) (by decide) (by rw [k1];exact g1b),k1];have k2:z1 + z1 / 2 ^ (16:Int).toNat=z2:=g2;rw [Xu (k:=16) (by decide) (by rw [k2];exact g2b),k2];have k3:z2 + z2 / 2 ^ (32:Int).toNat=z3:=g3;rw [Xu (k:=32) (by decide) (by rw [k3];exact g3b),k3,<- g4];exact Pn g3b
theorem jE (x k i:Nat) (hi:i < 8):(x / 2 ^ (8 * k) % 256).testBit i=x.testBit (8 * k + i):=by
 rw [show (256:Nat)=2 ^ 8 by decide,Nat.testBit_mod_two_pow,decide_eq_true hi,Bool.true_and,Nat.testBit_div_two_pow,Nat.add_comm]
theorem jF (x k:Nat):pop8 (x / 2 ^ (8 * k) % 256)=(((((((x.testBit (8 * k + 0)).toNat + (x.testBit (8 * k + 1)).toNat) + (x.testBit (8 * k + 2)).toNat) + (x.testBit (8 * k + 3)).toNat) + (x.testBit (8 * k + 4)).toNat) + (x.testBit (8 * k + 5)).toNat) + (x.testBit (8 * k + 6)).toNat) + (x.testBit (8 * k + 7)).toNat:=by
 have h:=(J7 ⟨x / 2 ^ (8 * k) % 256,Nat.mod_lt _ (by decide)⟩).2.2.2;simp only at h;rw [h,jE x k 0 (by decide),jE x k 1 (by decide),jE x k 2 (by decide),jE x k 3 (by decide),jE x k 4 (by decide),jE x k 5 (by decide),jE x k 6 (by decide),jE x k 7 (by decide)]
def sumB (x:Nat):Nat->Nat
 | 0=>0
 | n + 1=>sumB x n + (x.testBit n).toNat
theorem Po (x:Nat):Hs x=sumB x 64:=by
 have h0:=jF x 0;have h1:=jF x 1;have h2:=jF x 2;have h3:=jF x 3;have h4:=jF x 4;have h5:=jF x 5;have h6:=jF x 6;have h7:=jF x 7;simp only [Nat.mul_zero,Nat.pow_zero,Nat.div_one] at h0;simp only [Hs,fb,List.map_cons,List.map_nil,List.sum_cons,List.sum_nil,sumB];rw [h0]
 rw [show x / 256=x / 2 ^ (8 * 1) by rfl,h1,show x / 65536=x / 2 ^ (8 * 2) by rfl,h2,show x / 16777216=x / 2 ^ (8 * 3) by rfl,h3,show x / 4294967296=x / 2 ^ (8 * 4) by rfl,h4,
  show x / 1099511627776=x / 2 ^ (8 * 5) by rfl,h5,show x / 281474976710656=x / 2 ^ (8 * 6) by rfl,h6,show x / 72057594037927936=x / 2 ^ (8 * 7) by rfl,h7]
 simp only [Nat.reduceMul,Nat.reduceAdd];omega
theorem w7 (x:Nat):∀ n,0 < sumB x n↔∃ b,b < n/\x.testBit b=true
 | 0=>by simp [sumB]
 | n + 1=>by
  have ih:=w7 x n;simp only [sumB];cases h:x.testBit n
  ·simp only [Bool.toNat_false,Nat.add_zero,ih]
   exact ⟨fun ⟨b,hb,hx⟩=>⟨b,by omega,hx⟩,fun ⟨b,hb,hx⟩=>⟨b,by
    rcases iM hb with hb | rfl
    ·exact ⟨hb,hx⟩
    ·rw [h] at hx;cases hx⟩⟩
  ·simp only [Bool.toNat_true];exact ⟨fun _=>⟨n,by omega,h⟩,fun _=>by omega⟩
theorem Er (x a:Nat) (ha:x.testBit a=true):∀ n,a < n->(1 < sumB x n↔∃ b,b < n/\b≠a/\x.testBit b=true)
 | 0,h=>by omega
 | n + 1,h=>by
  simp only [sumB];by_cases hn:a=n
  ·subst hn;rw [ha,Bool.toNat_true];have:=w7 x a;constructor
   ·intro h1;obtain ⟨b,hb,hx⟩:=this.1 (by omega);exact ⟨b,by omega,by omega,hx⟩
   ·rintro ⟨b,hb,aQ,hx⟩;have:=this.2 ⟨b,by omega,hx⟩;omega
  ·have ih:=Er x a ha n (by omega);have hp:=(w7 x n).2 ⟨a,by omega,ha⟩;cases hb:x.testBit n
   ·simp only [Bool.toNat_false,Nat.add_zero,ih]
    exact ⟨fun ⟨b,h1,h2,h3⟩=>⟨b,by omega,h2,h3⟩,fun ⟨b,h1,h2,h3⟩=>⟨b,by
     rcases iM h1 with h1 | rfl
     ·exact ⟨h1,h2,h3⟩
     ·rw [hb] at h3;cases h3⟩⟩
   ·simp only [Bool.toNat_true];exact ⟨fun _=>⟨n,by omega,fun e=>hn e.symm,hb⟩,fun _=>by omega⟩
def bX (p:Nat->Bool) (n:Nat):Option Nat:=(List.range n).find? p
theorem cR {p:Nat->Bool} {n e:Nat} (he:e < n) (hp:p e=true) (h:∀ a,a < e->p a=false):bX p n=some e:=by
 unfold bX;rw [List.find?_eq_some_iff_getElem];refine ⟨hp,e,by simpa using he,by simp,fun j hj=>?_⟩;simp [h j hj]
theorem dn {p:Nat->Bool} {n:Nat} (h:∀ a,a < n->p a=false):bX p n=none:=by
 unfold bX;rw [List.find?_eq_none];intro x hx;simp [h x (sU hx)]
theorem eo {p:Nat->Bool} {n e:Nat} (h:bX p n=some e):e < n/\p e=true/\∀ a,a < e->p a=false:=by
 unfold bX at h;rw [List.find?_eq_some_iff_getElem] at h;obtain ⟨h1,i,hi,rfl,h3⟩:=h;refine ⟨by simpa using hi,h1,fun a ha=>?_⟩;have:=h3 a (sU ha);simpa using this
def rc (c:List Nat) (a:Nat):Bool:=decide (1 < Hs (backN c a c.length))
def Pp:Option Nat->DV
 | some a=>.tup [.v (.int .i64 (a:Int)),.v (.bool true)]
 | none=>.tup [.v (.int .i64 0),.v (.bool false)]
abbrev SX (c:List Nat) (e:Nat):St:=
 ⟨[(4,⟨[],nB c⟩),aaa 9 c.length,aaa 10 e],[],[]⟩
theorem Hu (rows:List Nat) (hr:eK rows) (h0:rows ≠ []):EvP prog 108 [nB rows] (Pp (bX (rc (closeR rows rows.length)) rows.length)):=by
 have hc:=ue rows hr h0;have bZ:=lU hr rows.length hr.1;have hlen:=fM rows rows.length;have hr1:=hr.1;generalize closeR rows rows.length=c at hc bZ hlen ⊢;rw [<- hlen];have hl:=Al c;refine eG 20 [.tmp 2,.tmp 3] func108 rfl ntmps108 rfl fun _ _ _ _=>?_;refine cP UI hc ?_;refine cP Oo hl ?_;refine lI (fun j st=>∃ e:Nat,st=SX c e/\e<=c.length/\(∀ a,a < e->rc c a=false)/\j=c.length - e) ⟨0,rfl,by omega,fun a h=>by omega,rfl⟩ (wkM wB) ?_;rintro j st ⟨e,rfl,he,eW,rfl⟩;refine br ?_ ?_<;>intro hL
 ·have aq:e < c.length:=by have:=hL;simp at this;exact this
  have Xt:backN c e c.length < 18446744073709551616:=by
   have h1:=wV c e c.length;have:2 ^ c.length<=2 ^ 64:=Nat.pow_le_pow_right (by decide) (by omega);omega
  refine cP aa9 (Hq c bZ e aq) ?_;refine cP aa8 (LP _ Xt) ?_;refine br ?_ ?_<;>intro g
  ·have g:rc c e=true:=by
    simp at g;simp [rc];omega
   rw [cR aq g eW];refine ⟨_,?_,rfl⟩;exact ax
  ·have g:rc c e=false:=by
    simp at g;simp [rc];omega
   exact rE ⟨_,by omega,e + 1,rfl,by omega,fun a ha=>by
    rcases iM ha with ha | rfl
    ·exact eW a ha
    ·exact g,rfl⟩ (wkM (wB1 (nxt aq (by omega))))
 ·have aS:e=c.length:=by have:=hL;simp at this;omega
  subst aS;rw [dn eW];refine ⟨_,?_,rfl⟩;exact ax
theorem ab6 {rows:List Nat} {i x a b:Nat} (hi:i < rows.length):aX (rows.set i x) a b=if a=i then x.testBit b else aX rows a b:=by
 unfold aX;simp only [cH];by_cases h:a=i
 ·subst h;rw [du hi,ai rfl];all_goals rfl
 ·rw [List.getElem?_set_ne (Ne.symm h),ah h]
theorem oU {rows:List Nat} {k a b:Nat} (hk:k < rows.length):aX (jQ rows k) a b=(aX rows a b || (decide (a=k) && decide (b=k))):=by
 unfold jQ;rw [ab6 hk];by_cases h:a=k
 ·subst h;rw [ai rfl,iz];simp only [decide_true,Bool.true_and];rw [show decide (a=b)=decide (b=a) from by simp only [eq_comm]];rfl
 ·rw [ah h];simp [h]
theorem LQ {rows:List Nat} {k i a b:Nat} (hi:i < rows.length):aX (pF k rows i) a b=(aX rows a b || (decide (a=i) && (aX rows a k && aX rows k b))):=by
 unfold pF;by_cases h:aX rows i k=true
 ·rw [ai h,ab6 hi];by_cases ha:a=i
  ·subst ha;rw [ai rfl,Nat.testBit_or];simp only [decide_true,Bool.true_and,h];rfl
  ·rw [ah ha];simp [ha]
 ·rw [ah h];by_cases ha:a=i
  ·subst ha;simp only [Bool.not_eq_true] at h;simp [h]
  ·simp [ha]
theorem Am {rows:List Nat} {k:Nat} (hk:k < rows.length):∀ e,e<=rows.length->∀ a b,aX (iB rows k e) a b=(aX (jQ rows k) a b || (decide (a < e) && (aX (jQ rows k) a k && aX (jQ rows k) k b)))
 | 0,_,a,b=>by simp [iB]
 | e + 1,he,a,b=>by
  have ih:=Am hk e (by omega);rw [mX,LQ (by rw [oT];omega),ih a b,ih a k,ih k b];have zM:aX (jQ rows k) k k=true:=by rw [oU hk];simp
  generalize aX (jQ rows k)=s at *;by_cases h1:a=e
  ·subst h1;simp only [Nat.lt_irrefl,decide_false,Bool.false_and,Bool.or_false,decide_true,Bool.true_and,Nat.lt_succ_self,zM];cases s a b<;>cases s a k<;>cases s k b<;>simp
  ·by_cases h2:a < e
   ·have:a < e + 1:=by omega
    simp [h1,h2,this]
   ·have:¬ a < e + 1:=by omega
    simp [h1,h2,this]
inductive vf (p:Nat->Nat->Prop):Nat->Nat->Prop
 | refl (a:Nat):vf p a a
 | step {a b c:Nat}:vf p a b->p b c->vf p a c
theorem vf.trans {p:Nat->Nat->Prop} {a b c:Nat} (h1:vf p a b) (h2:vf p b c):vf p a c:=by
 induction h2 with
 | refl=>exact h1
 | step _ h ih=>exact .step ih h
theorem vf.mono {p q:Nat->Nat->Prop} (h:∀ a b,p a b->vf q a b) {a b:Nat} (h1:vf p a b):vf q a b:=by
 induction h1 with
 | refl=>exact .refl _
 | step _ h2 ih=>exact ih.trans (h _ _ h2)
def wayQ (p:Nat->Nat->Prop):Nat->Nat->Nat->Prop
 | 0,a,b=>a=b∨p a b
 | k + 1,a,b=>wayQ p k a b∨(wayQ p k a k/\wayQ p k k b)
theorem An {p:Nat->Nat->Prop} (a:Nat):∀ k,wayQ p k a a
 | 0=>.inl rfl
 | k + 1=>.inl (An a k)
theorem Ao {p:Nat->Nat->Prop} {a b:Nat} (h:p a b):∀ k,wayQ p k a b
 | 0=>.inr h
 | k + 1=>.inl (Ao h k)
theorem re {p:Nat->Nat->Prop}:∀ k a b,wayQ p k a b->vf p a b
 | 0,a,b,h=>by
  rcases h with rfl | h
  ·exact .refl _
  ·exact .step (.refl _) h
 | k + 1,a,b,h=>by
  rcases h with h | ⟨h1,h2⟩
  ·exact re k a b h
  ·exact (re k a k h1).trans (re k k b h2)
theorem mY {p:Nat->Nat->Prop}:∀ k a m b,m < k->wayQ p k a m->wayQ p k m b->wayQ p k a b
 | 0,_,_,_,h,_,_=>by omega
 | k + 1,a,m,b,hm,h1,h2=>by
  by_cases Xv:m=k
  ·subst Xv
   have uJ:wayQ p m a m:=by
    rcases h1 with h1 | h1
    ·exact h1
    ·exact h1.1
   have Et:wayQ p m m b:=by
    rcases h2 with h2 | h2
    ·exact h2
    ·exact h2.2
   exact .inr ⟨uJ,Et⟩
  ·have nE:m < k:=by omega
   rcases h1 with h1 | ⟨h1,h3⟩
   ·rcases h2 with h2 | ⟨h2,h4⟩
    ·exact .inl (mY k a m b nE h1 h2)
    ·exact .inr ⟨mY k a m k nE h1 h2,h4⟩
   ·rcases h2 with h2 | ⟨h2,h4⟩
    ·exact .inr ⟨h1,mY k k m b nE h3 h2⟩
    ·exact .inr ⟨h1,h4⟩
theorem xa {rows:List Nat}:∀ k,k<=rows.length->∀ a b,a < rows.length->((aX (closeR rows k) a b=true∨a=b)↔wayQ (fun x y=>aX rows x y=true) k a b)/\(a < k->aX (closeR rows k) a a=true)
 | 0,_,a,b,_=>by
  refine ⟨?_,fun h=>by omega⟩;simp only [closeR,List.range_zero,List.foldl_nil,wayQ];exact or_comm
 | k + 1,hk,a,b,ha=>by
  have ih:=xa (rows:=rows) k (by omega);have ir:k < (closeR rows k).length:=by rw [fM];omega
  have hb:∀ a b,a < rows.length->aX (closeR rows (k + 1)) a b=(aX (jQ (closeR rows k) k) a b || (aX (jQ (closeR rows k) k) a k && aX (jQ (closeR rows k) k) k b)):=fun a b ha=>by
   rw [la,Am ir _ (aO _)];simp [fM,ha]
  have xc:∀ a b,(aX (jQ (closeR rows k) k) a b=true∨a=b)↔(aX (closeR rows k) a b=true∨a=b):=fun a b=>by
   rw [oU ir];simp only [Bool.or_eq_true,aD,decide_eq_true_eq];constructor
   ·rintro ((h | ⟨rfl,rfl⟩) | h)
    ·exact .inl h
    ·exact .inr rfl
    ·exact .inr h
   ·rintro (h | h)
    ·exact .inl (.inl h)
    ·exact .inr h
  have zM:aX (jQ (closeR rows k) k) k k=true:=by rw [oU ir];simp
  have key:∀ a b,a < rows.length->((aX (closeR rows (k + 1)) a b=true∨a=b)↔wayQ (fun x y=>aX rows x y=true) (k + 1) a b):=fun a b ha=>by
   rw [hb a b ha];show _↔wayQ _ k a b∨(wayQ _ k a k/\wayQ _ k k b);rw [<- (ih a b ha).1,<- (ih a k ha).1,<- (ih k b (by omega)).1,<- xc a b,<- xc a k,<- xc k b];simp only [Bool.or_eq_true,aD];constructor
   ·rintro ((h | ⟨h1,h2⟩) | h)
    ·exact .inl (.inl h)
    ·exact .inr ⟨.inl h1,.inl h2⟩
    ·exact .inl (.inr h)
   ·rintro ((h | h) | ⟨h1,h2⟩)
    ·exact .inl (.inl h)
    ·exact .inr h
    ·rcases h1 with h1 | rfl
     ·rcases h2 with h2 | rfl
      ·exact .inl (.inr ⟨h1,h2⟩)
      ·exact .inl (.inl h1)
     ·rcases h2 with h2 | rfl
      ·exact .inl (.inl h2)
      ·exact .inr rfl
  refine ⟨key a b ha,fun hak=>?_⟩;rw [hb a a ha];by_cases h:a=k
  ·subst h;rw [zM];all_goals rfl
  ·have:=(ih a a ha).2 (by omega);rw [oU ir,this];all_goals rfl
theorem Hv {rows:List Nat} (hb:∀ a b,a < rows.length->aX rows a b=true->b < rows.length) {a b:Nat} (ha:a < rows.length) (hbl:b < rows.length):aX (closeR rows rows.length) a b=true↔vf (fun x y=>x < rows.length/\aX rows x y=true) a b:=by
 have hw:=xa (rows:=rows) rows.length (aO _) a b ha
 have h1:aX (closeR rows rows.length) a b=true↔wayQ (fun x y=>aX rows x y=true) rows.length a b:=by
  rw [<- hw.1];constructor
  ·exact .inl
  ·rintro (h | rfl)
   ·exact h
   ·exact hw.2 ha
 rw [h1];constructor
 ·intro h
  have aq:∀ {x},vf (fun x y=>aX rows x y=true) a x->vf (fun x y=>x < rows.length/\aX rows x y=true) a x/\x < rows.length:=by
   intro x hx
   induction hx with
   | refl=>exact ⟨.refl _,ha⟩
   | step _ h2 ih=>exact ⟨.step ih.1 ⟨ih.2,h2⟩,hb _ _ ih.2 h2⟩
  exact (aq (re _ _ _ h)).1
 ·intro h
  have:wayQ (fun x y=>aX rows x y=true) rows.length a b/\b < rows.length:=by
   clear h1 hw hbl
   induction h with
   | refl=>exact ⟨An _ _,ha⟩
   | step _ h2 ih=>exact ⟨mY _ _ _ _ ih.2 ih.1 (Ao h2.2 _),hb _ _ h2.1 h2.2⟩
  exact this.1
theorem Pq {rows:List Nat} {p:Nat × Nat} {a b:Nat} (hp:p.1 < rows.length):aX (wX rows p) a b=(aX rows a b || (decide (a=p.1) && decide (b=p.2))):=by
 unfold wX;rw [ab6 hp];by_cases h:a=p.1
 ·subst h;rw [ai rfl,iz];simp only [decide_true,Bool.true_and];rw [show decide (p.2=b)=decide (b=p.2) from by simp only [eq_comm]];rfl
 ·rw [ah h];simp [h]
theorem Ap:∀ (l:List (Nat × Nat)) (rows:List Nat) (a b:Nat),(∀ p∈l,p.1 < rows.length)->(aX (l.foldl wX rows) a b=true↔aX rows a b=true∨(a,b)∈l)
 | [],_,_,_,_=>by simp
 | p :: l,rows,a,b,h=>by
  rw [List.foldl_cons,Ap l _ a b (fun q hq=>by rw [rb];exact h q (by simp [hq])),Pq (h p (by simp))];simp only [Bool.or_eq_true,aD,decide_eq_true_eq,List.mem_cons];constructor
  ·rintro ((h1 | ⟨rfl,rfl⟩) | h1)
   ·exact .inl h1
   ·exact .inr (.inl rfl)
   ·exact .inr (.inr h1)
  ·rintro (h1 | rfl | h1)
   ·exact .inl (.inl h1)
   ·exact .inl (.inr ⟨rfl,rfl⟩)
   ·exact .inr h1
theorem xe {n:Nat} {l:List (Nat × Nat)} (h:∀ p∈l,p.1 < n) (a b:Nat):aX (fL n l) a b=true↔(a,b)∈l:=by
 unfold fL;rw [Ap l _ a b (fun p hp=>by rw [List.length_replicate];exact h p hp)];constructor
 ·rintro (h1 | h1)
  ·unfold aX at h1;rw [cH,List.getElem?_replicate] at h1;split at h1<;>simp at h1
  ·exact h1
 ·exact .inr
def fj (n:Nat) (l:List (Nat × Nat)) (a b:Nat):Bool:=aX (closeR (fL n l) n) a b
def sQ (n:Nat) (l:List (Nat × Nat)):Prop:=∀ p∈l,p.1 < n/\p.2 < n
theorem nZ {n:Nat} {l:List (Nat × Nat)} (h:sQ n l) {a b:Nat} (ha:a < n) (hb:b < n):fj n l a b=true↔vf (fun x y=>(x,y)∈l) a b:=by
 have hlen:(fL n l).length=n:=kA n l;unfold fj
 have:=Hv (rows:=fL n l) (fun a b _ Pk=>by
  rw [xe (fun p hp=>(h p hp).1)] at Pk
  rw [hlen];exact (h _ Pk).2) (a:=a) (b:=b) (by omega) (by omega)
 rw [hlen] at this;rw [this];constructor
 ·exact vf.mono fun x y G1=>.step (.refl _) ((xe (fun p hp=>(h p hp).1) x y).1 G1.2)
 ·exact vf.mono fun x y G1=>.step (.refl _) ⟨(h _ G1).1,(xe (fun p hp=>(h p hp).1) x y).2 G1⟩
theorem sR {n:Nat} {l:List (Nat × Nat)} (h:sQ n l) {a:Nat} (ha:a < n):fj n l a a=true:=(nZ h ha ha).2 (.refl _)
theorem Hw {n:Nat} {l:List (Nat × Nat)} (h:sQ n l) {a b c:Nat} (ha:a < n) (hb:b < n) (hc:c < n) (h1:fj n l a b=true) (h2:fj n l b c=true):fj n l a c=true:=
 (nZ h ha hc).2 (((nZ h ha hb).1 h1).trans ((nZ h hb hc).1 h2))
def ld (n:Nat) (f:Nat->Nat->Bool) (a:Nat):Bool:=(List.range n).any fun b=>decide (a≠b) && (f a b && f b a)
theorem Pr {n:Nat} {l:List (Nat × Nat)} (hn:n<=64) (h:sQ n l) {a:Nat} (ha:a < n):rc (closeR (fL n l) n) a=ld n (fj n l) a:=by
 have hlen:(closeR (fL n l) n).length=n:=by rw [fM,kA]
 unfold rc ld;rw [Po,hlen,Bool.eq_iff_iff,decide_eq_true_eq]
 have haa:(backN (closeR (fL n l) n) a n).testBit a=true:=by
  rw [sP];have:aX (closeR (fL n l) n) a a=true:=sR h ha;simp [ha,this]
 rw [Er _ a haa 64 (by omega)];simp only [List.any_eq_true,List.mem_range,aD,decide_eq_true_eq,sP];constructor
 ·rintro ⟨b,_,aQ,hb,h1,h2⟩;exact ⟨b,hb,fun e=>aQ e.symm,h1,h2⟩
 ·rintro ⟨b,hb,aQ,h1,h2⟩;exact ⟨b,by omega,fun e=>aQ e.symm,hb,h1,h2⟩
theorem Cd {p q:Nat->Bool} {n:Nat} (h:∀ a,a < n->p a=q a):bX p n=bX q n:=by
 unfold bX
 have:∀ (l:List Nat),(∀ a∈l,p a=q a)->l.find? p=l.find? q:=by
  intro l
  induction l with
  | nil=>intro _;rfl
  | cons x r ih=>
   intro hl;rw [List.find?_cons,List.find?_cons,hl x (by simp),ih (fun a ha=>hl a (by simp [ha]))]
 exact this _ fun a ha=>h a (List.mem_range.1 ha)
theorem SY {n:Nat} {l:List (Nat × Nat)} (hn:n<=64) (h:sQ n l):bX (rc (closeR (fL n l) n)) n=bX (ld n (fj n l)) n:=
 Cd fun _ ha=>Pr hn h ha
def iC (r:List Bool) (p:Nat × Nat):List Bool:=if r.getD p.1 false then r.set p.2 true else r
def jo (l:List (Nat × Nat)) (r:List Bool):List Bool:=l.foldl iC r
def di (l:List (Nat × Nat)) (r:List Bool) (k:Nat):List Bool:=(List.range k).foldl (fun r _=>jo l r) r
def uS (n:Nat) (l:List (Nat × Nat)) (a:Nat):List Bool:=di l ((List.replicate n false).set a true) n
theorem fc (l:List (Nat × Nat)) (r:List Bool) (k:Nat):di l r (k + 1)=jo l (di l r k):=by simp [di,List.range_succ]
theorem lW (r:List Bool) (p:Nat × Nat):(iC r p).length=r.length:=by unfold iC;split<;>simp
theorem p9 (l:List (Nat × Nat)):∀ r,(jo l r).length=r.length:=by
 induction l with
 | nil=>intro r;rfl
 | cons p l ih=>intro r;simp only [jo,List.foldl_cons] at ih ⊢;rw [ih,lW]
theorem fN (l:List (Nat × Nat)) (r:List Bool):∀ k,(di l r k).length=r.length
 | 0=>by simp [di]
 | k + 1=>by rw [fc,p9,fN]
theorem rf (n:Nat) (l:List (Nat × Nat)) (a:Nat):(uS n l a).length=n:=by simp [uS,fN]
def SZ (r s:List Bool):Prop:=∀ i:Nat,r.getD i false=true->s.getD i false=true
theorem kB {r:List Bool} {i j:Nat} (hi:i < r.length):(r.set i true).getD j false=(decide (j=i) || r.getD j false):=by
 simp only [cH];by_cases h:j=i
 ·subst h;rw [du hi];simp
 ·rw [List.getElem?_set_ne (Ne.symm h)];simp [h]
theorem Eu {r:List Bool} {p:Nat × Nat} (hp:p.2 < r.length):SZ r (iC r p):=by
 intro i hi;unfold iC;split
 ·rw [kB hp,hi];simp
 ·exact hi
theorem oW:∀ {l:List (Nat × Nat)} {r:List Bool},(∀ p∈l,p.2 < r.length)->SZ r (jo l r)
 | [],r,_,i,hi=>hi
 | p :: l,r,h,i,hi=>by
  have:SZ (iC r p) (jo l (iC r p)):=oW fun q hq=>by rw [lW];exact h q (by simp [hq])
  exact this i (Eu (h p (by simp)) i hi)
def xf (r:List Bool):Nat:=r.countP (fun x=>x)
theorem J9 (r:List Bool):xf r<=r.length:=List.countP_le_length
theorem xg:∀ {r s:List Bool},r.length=s.length->SZ r s->(r=s∨xf r < xf s)/\xf r<=xf s
 | [],[],_,_=>⟨.inl rfl,aO _⟩
 | x :: r,y :: s,hl,h=>by
  have qC:r.length=s.length:=sU hl;have ih:=xg qC (fun i hi=>by simpa using h (i + 1) (sU hi));have h0:x=true->y=true:=fun hx=>by simpa using h 0 (sU hx)
  simp only [xf,List.countP_cons] at ih ⊢;cases x<;>cases y
  ·refine ⟨?_,by simpa using ih.2⟩;rcases ih.1 with h1 | h1
   ·exact .inl (by rw [h1])
   ·exact .inr (sU h1)
  ·have:=ih.2;exact ⟨.inr (by simp;omega),by simp;omega⟩
  ·exact absurd (h0 rfl) (by decide)
  ·refine ⟨?_,by simpa using ih.2⟩;rcases ih.1 with h1 | h1
   ·exact .inl (by rw [h1])
   ·exact .inr (sU h1)
 | [],_ :: _,h,_=>by simp at h
 | _ :: _,[],h,_=>by simp at h
theorem Ew {r s:List Bool} (hl:r.length=s.length) (h1:SZ r s) (h2:SZ s r):r=s:=by
 rcases (xg hl h1).1 with h | h
 ·exact h
 ·have:=(xg hl.symm h2).2;omega
theorem xi:∀ {l:List (Nat × Nat)} {r:List Bool},(∀ p∈l,p.2 < r.length)->jo l r=r->∀ p∈l,r.getD p.1 false=true->r.getD p.2 false=true
 | [],_,_,_,p,hp,_=>by cases hp
 | q :: l,r,h,he,p,hp,h1=>by
  have hq:=h q (by simp);have hl:∀ p∈l,p.2 < (iC r q).length:=fun p hp=>by rw [lW];exact h p (by simp [hp])
  have hs:iC r q=r:=by
   have h2:SZ (iC r q) r:=by
    have:=oW hl;have GB:jo l (iC r q)=r:=he;rw [GB] at this;exact this
   exact (Ew (lW r q).symm (Eu hq) h2).symm
  rcases bp hp with rfl | hp
  ·unfold iC at hs;rw [ai h1] at hs;rw [<- hs,kB hq];simp
  ·have GB:jo l r=r:=by
    have:jo l (iC r q)=r:=he
    rwa [hs] at this
   exact xi (fun p hp=>h p (by simp [hp])) GB p hp h1
theorem uf {l:List (Nat × Nat)} {r:List Bool} (h:∀ p∈l,p.2 < r.length):∀ k,jo l (di l r k)=di l r k∨xf r + k<=xf (di l r k)
 | 0=>.inr (by simp [di])
 | k + 1=>by
  have hk:∀ p∈l,p.2 < (di l r k).length:=fun p hp=>by rw [fN];exact h p hp
  rcases uf h k with h1 | h1
  ·left;rw [fc,h1,h1]
  ·rcases (xg (p9 l _).symm (oW hk)).1 with h2 | h2
   ·left;rw [fc,<- h2,<- h2]
   ·right;rw [fc];omega
theorem LR {l:List (Nat × Nat)} {a:Nat} {r:List Bool} {p:Nat × Nat} (hp:p∈l) (hl:p.2 < r.length) (h:∀ i,r.getD i false=true->vf (fun x y=>(x,y)∈l) a i):∀ i,(iC r p).getD i false=true->vf (fun x y=>(x,y)∈l) a i:=by
 intro i hi;unfold iC at hi;split at hi
 ·rename_i h1;rw [kB hl] at hi;simp only [Bool.or_eq_true,decide_eq_true_eq] at hi;rcases hi with rfl | hi
  ·exact .step (h _ h1) hp
  ·exact h i hi
 ·exact h i hi
theorem xj {l:List (Nat × Nat)} {a:Nat}:∀ (m:List (Nat × Nat)) {r:List Bool},(∀ p∈m,p∈l/\p.2 < r.length)->(∀ i,r.getD i false=true->vf (fun x y=>(x,y)∈l) a i)->∀ i,(jo m r).getD i false=true->vf (fun x y=>(x,y)∈l) a i
 | [],_,_,h=>h
 | p :: m,r,hm,h=>xj m (r:=iC r p) (fun q hq=>by rw [lW];exact hm q (by simp [hq])) (LR (hm p (by simp)).1 (hm p (by simp)).2 h)
theorem ug {l:List (Nat × Nat)} {a:Nat} {r:List Bool} (hl:∀ p∈l,p.2 < r.length) (h:∀ i,r.getD i false=true->vf (fun x y=>(x,y)∈l) a i):∀ k i,(di l r k).getD i false=true->vf (fun x y=>(x,y)∈l) a i
 | 0=>by simpa [di] using h
 | k + 1=>by
  rw [fc];exact xj l (fun p hp=>⟨hp,by rw [fN];exact hl p hp⟩) (ug hl h k)
theorem xm {l:List (Nat × Nat)} {r:List Bool} (hl:∀ p∈l,p.2 < r.length):∀ k,SZ r (di l r k)
 | 0=>by intro i hi;simpa [di] using hi
 | k + 1=>fun i hi=>by
  rw [fc];exact oW (fun p hp=>by rw [fN];exact hl p hp) i (xm hl k i hi)
theorem Ps {n a:Nat} (ha:a < n):1<=xf ((List.replicate n false).set a true):=by
 unfold xf;rw [Nat.succ_le_iff,List.countP_pos_iff];exact ⟨true,List.mem_iff_getElem?.2 ⟨a,by rw [du (by simp [ha])]⟩,rfl⟩
theorem Pt {n:Nat} {l:List (Nat × Nat)} (h:sQ n l) {a b:Nat} (ha:a < n) (hb:b < n):(uS n l a).getD b false=fj n l a b:=by
 have hl:∀ p∈l,p.2 < ((List.replicate n false).set a true).length:=fun p hp=>by simp;exact (h p hp).2
 have vc:a < (List.replicate n false).length:=by simp [ha]
 rw [Bool.eq_iff_iff,nZ h ha hb];constructor
 ·refine ug hl (fun i hi=>?_) n b;rw [kB vc] at hi;simp only [Bool.or_eq_true,decide_eq_true_eq] at hi;rcases hi with rfl | hi
  ·exact .refl _
  ·rw [cH,List.getElem?_replicate] at hi;split at hi<;>simp at hi
 ·have hfix:jo l (uS n l a)=uS n l a:=by
   rcases uf hl n with h1 | h1
   ·exact h1
   ·have h2:=J9 (di l ((List.replicate n false).set a true) n);rw [fN] at h2;have h3:=Ps ha;simp only [List.length_set,List.length_replicate] at h2;omega
  have fY:=xi (fun p hp=>by rw [rf];exact (h p hp).2) hfix;intro hr;have haa:(uS n l a).getD a false=true:=xm hl n a (by rw [kB vc];simp);clear hb
  induction hr with
  | refl=>exact haa
  | step _ h2 ih=>exact fY _ h2 ih
def dW (n:Nat) (f:Nat->Nat->Bool):List (List Bool):=(List.range n).map fun a=>(List.range n).map (f a)
theorem S0 {n:Nat} {l:List (Nat × Nat)} (h:sQ n l) {a:Nat} (ha:a < n):uS n l a=(List.range n).map (fj n l a):=by
 refine List.ext_getElem? fun i=>?_;by_cases hi:i < n
 ·have:=Pt h ha hi;have hl:=rf n l a;rw [cH,gE (by omega)] at this;rw [gE (by omega),List.getElem?_map,List.getElem?_range hi];simpa using this
 ·rw [dA (by rw [rf];omega),dA (by simp;omega)]
theorem Ex {n:Nat} {f:Nat->Nat->Bool} {a:Nat} (ha:a < n):(dW n f)[a]? = some ((List.range n).map (f a)):=by
 simp [dW,List.getElem?_range ha]
theorem LS {l:List Wd} {i:Nat} {x:Wd} (h:l[i]? = some x):aA (l.take (i + 1))=aA (l.take i) ++ [x.s]:=by
 rw [List.take_add_one,h];simp [aA]
theorem Ka (l:List Wd) (s:ByteArray):bN l s=true↔s∈aA l:=by
 simp only [bN,List.any_eq_true,decide_eq_true_eq,aA,List.mem_map]
theorem mZ {l:List Wd} {i:Nat} {x:Wd} (h:l[i]? = some x) (hn:(aA (l.take i)).Nodup):(aA (l.take (i + 1))).Nodup↔bN (l.take i) x.s=false:=by
 rw [LS h,List.nodup_append];constructor
 ·rintro ⟨_,_,h3⟩;cases hb:bN (l.take i) x.s
  ·rfl
  ·exact absurd rfl (h3 x.s ((Ka _ _).1 hb) x.s (by simp))
 ·intro hb;refine ⟨hn,by simp,fun a ha b eO=>?_⟩;simp only [List.mem_singleton] at eO;subst eO;rintro rfl;rw [(Ka _ _).2 ha] at hb;cases hb
theorem Aq {l:List Wd} {i:Nat} {x:Wd} (a:Int) (h:l[i]? = some x) (hn:(aA (l.take i)).Nodup) :
  iu (aA (l.take (i + 1))) x.s a=if aF l i x≠0 then (aF l i x,a) else (0,0):=by
 have hs:=mZ h hn;unfold iu aF;by_cases h1:bd x.s=true
 ·rw [ai h1,ai h1];by_cases h2:bN (l.take i) x.s=true
  ·rw [ai h2,ah (fun hc=>by rw [hs.1 hc] at h2;cases h2)];all_goals rfl
  ·rw [ah h2,ai (hs.2 (sU h2))];all_goals rfl
 ·rw [ah h1,ah h1];all_goals rfl
theorem na {l:List Wd} {i:Nat} {x:Wd} (h:l[i]? = some x) (hn:(aA (l.take i)).Nodup) (hz:aF l i x=0):(aA (l.take (i + 1))).Nodup:=by
 refine (mZ h hn).2 ?_;unfold aF at hz;by_cases h1:bd x.s=true
 ·rw [ai h1] at hz;by_cases h2:bN (l.take i) x.s=true
  ·rw [ai h2] at hz;simp at hz
  ·simpa using h2
 ·rw [ah h1] at hz;simp at hz
theorem Ar (l:List Wd):∀ (d e:Nat),e + d=l.length->(enumP l e)=(0,0)->(aA (l.take e)).Nodup->enumP l l.length=enumL l e (l.drop e)
 | 0,e,hd,hz,hn=>by
  have:e=l.length:=by omega
  subst this;rw [hz,List.drop_length];all_goals rfl
 | d + 1,e,hd,hz,hn=>by
  obtain ⟨x,hx⟩:∃ x,l[e]? = some x:=⟨_,gE (by omega)⟩;have h1:=wR (by rw [hz]) hx;rw [Aq x.a hx hn] at h1;rw [drop_cons hx];simp only [enumL];by_cases hf:aF l e x≠0
  ·rw [ai hf] at h1 ⊢;have aR:=pW (l:=l) (e:=e + 1) (by rw [h1];exact hf) d;rw [show e + 1 + d=l.length by omega] at aR;rw [aR,h1]
  ·rw [ah hf] at h1 ⊢;exact Ar l d (e + 1) (by omega) h1 (na hx hn (sU hf))
theorem Pu (h:Hd):nX h=jj h:=by
 unfold nX jj;by_cases h0:h.af=[]
 ·rw [ai h0,ai (by simp [h0])]
 ·rw [ah h0,ah (sU h0)];by_cases h1:64 < h.af.length
  ·rw [ai h1,ai h1]
  ·rw [ah h1,ah h1];have:=Ar h.af h.af.length 0 (by omega) rfl (by simp [aA]);simpa using this
def n4 (p:Ph):Ph:=⟨p.name,true,[],0,0,0,0,[]⟩
theorem S1 (p:Ph) (t:Ty):dx p t (n4 p) cf=(bR p fJ && sameTy t cf):=by
 have e:bR p (n4 p)=bR p fJ:=rfl;unfold dx;rw [e];have e2:decide (p.name.s=(n4 p).name.s)=true:=decide_eq_true rfl;rw [e2,Bool.true_and]
theorem empty_eq (p:Ph):dx p cf fo cf=(decide (p.name.s=au) && bR p fo):=by
 have e:sameTy cf cf=true:=by simp [cf,OH,sameTy,lA,samePts,sameWds]
 simp only [dx,e,Bool.and_true];rfl
def dq (L:List ByteArray) (s:ByteArray):Option Nat:=bX (fun i=>decide (L[i]? = some s)) L.length
theorem dy {L:List ByteArray} {s:ByteArray} {p:Nat} (h:dq L s=some p):p < L.length/\L[p]? = some s/\∀ j,L[j]? = some s->p<=j:=by
 obtain ⟨h1,h2,h3⟩:=eo h;refine ⟨h1,by simpa using h2,fun j hj=>?_⟩;rcases Nat.lt_or_ge j p with h4 | h4
 ·have:=h3 j h4;simp [hj] at this
 ·exact h4
theorem Ce {L:List ByteArray} {s:ByteArray} {p:Nat} (h1:L[p]? = some s) (h2:∀ j,L[j]? = some s->p<=j):dq L s=some p:=by
 refine cR (gS h1).1 (sU h1) fun a ha=>?_;simp only [decide_eq_false_iff_not];intro h3;have:=h2 a h3;omega
theorem sS {L:List ByteArray} {s:ByteArray} (h:∀ j:Nat,L[j]? ≠ some s):dq L s=none:=dn fun a _=>by simpa using h a
theorem zr {L:List ByteArray} {s:ByteArray}:dq L s=none↔s ∉ L:=by
 constructor
 ·intro h hm;obtain ⟨j,hj⟩:=List.mem_iff_getElem?.1 hm;unfold dq bX at h;rw [List.find?_eq_none] at h;have:=h j (by simpa using (gS hj).1);simp [hj] at this
 ·intro h;exact sS fun j hj=>h (mG hj)
theorem jq (L:List ByteArray) (aE:List Nat) (s:ByteArray) (hT:iR L aE) (hl:aE.length<=1099511627776) :
  EvP prog 115 [.pt (dh L aE) 0,.v (.string s)] (Pp (dq L s)):=by
 by_cases hm:s∈L
 ·obtain ⟨j,hj⟩:=List.mem_iff_getElem?.1 hm;obtain ⟨q,p,hq,hp⟩:=hT.all j s hj;rw [Ce hp fun j' gU=>hT.fst q p j' s hq hp gU];exact find_spec L aE s q p hT hl hq hp
 rw [sS fun j hj=>hm (mG hj)]
 let pr:Nat->Prop:=fun i=>i=aE.length∨∃ p t,aE[i]? = some p/\L[p]? = some t/\zo t s=false
 obtain ⟨m,gy,rZ⟩:=least (p:=pr) ⟨aE.length,.inl rfl⟩;have hmn:m<=aE.length:=rZ _ (.inl rfl);refine eG 47 [.tmp 4,.tmp 5] func115 rfl ntmps115 rfl fun _ _ _ _=>?_
 have fY:∀ i:Nat,i < aE.length->EvP prog 201 [.v (.int .i64 i),.pt [.pt (dh L aE) 0] 0,.pt [.v (.string s)] 0] (.v (.bool (decide (m<=i)))):=by
  intro i hi;obtain ⟨p',qU⟩:∃ p',aE[i]? = some p':=⟨_,gE hi⟩;obtain ⟨t,ht⟩:∃ t,L[p']? = some t:=⟨_,gE (hT.lt i p' qU)⟩;have:=wE L aE s i p' t qU ht
  have e:(!zo t s)=decide (m<=i):=by
   by_cases h:m<=i
   ·have:zo t s=false:=by
     rcases gy with gy | ⟨p,u,h1,h2,h3⟩
     ·omega
     ·rcases Nat.lt_or_eq_of_le h with h4 | h4
      ·have h5:=hT.srt m i p p' u t h4 h1 qU h2 ht;cases h6:zo t s
       ·rfl
       ·have:=gJ h5 h6;unfold zo at h3;rw [this] at h3;cases h3
      ·subst h4;rw [h1] at qU;simp only [oI] at qU;subst qU;rw [h2] at ht;simp only [oI] at ht;subst ht;exact h3
    simp [this,h]
   ·have:zo t s=true:=by
     cases h6:zo t s
     ·exact absurd (rZ i (.inr ⟨p',t,qU,ht,h6⟩)) h
     ·rfl
    simp [this,h]
  rw [e] at this;exact this
 have hS:=tW 201 UT [.pt [.pt (dh L aE) 0] 0,.pt [.v (.string s)] 0] aE.length m hl hmn ax rfl fY;refine BL US hS (qA (bw aE)) rfl ?_;refine dI ?_;refine br ?_ ?_<;>intro h
 ·have aq:m < aE.length:=by
   have:decide ((m:Int)=((dInts aE).length:Int))=false:=sU h;simp [bw] at this;omega
  rcases gy with gy | ⟨p,t,h1,h2,h3⟩
  ·omega
  refine iX (eI h1) ?_;refine iX (fT h2) ?_;refine br ?_ ?_<;>intro h4
  ·exact ⟨_,ax,rfl⟩
  ·exfalso
   have hts:t=s:=by
    simp [ap] at h4;exact h4
   exact hm (hts ▸ mG h2)
 ·exact ⟨_,ax,rfl⟩
def gB (l:List Wd) (o:List (Wd × Wd)):Ft:=
 if l=[] then (15,0)
 else if 32 < l.length then (8,((l[32]?).getD (⟨au,0⟩:Wd)).a)
 else if 256 < o.length then (8,((o[256]?).getD ((⟨au,0⟩,⟨au,0⟩):Wd × Wd)).1.a)
 else (0,0)
theorem LU (l:List Wd) (o:List (Wd × Wd)):EvP prog 103 [.sl 2 (bJ l) none,.sl 4 (nA o) none] (gB l o).d:=by
 refine eG 30 [.cell 4 44] func103 rfl ntmps103 rfl fun _ _ _ _=>?_;refine br ?_ ?_<;>intro h
 ·have h:l=[]:=by simpa [aC] using h
  refine ⟨_,?_,rfl⟩;rw [gB,ai h];exact ax
 have h:¬ l=[]:=by simpa [aC] using h
 refine br ?_ ?_<;>intro h1
 ·have h1:32 < l.length:=by simp [aC] at h1;omega
  obtain ⟨x,hx⟩:∃ x,l[32]? = some x:=⟨_,gE h1⟩;refine ⟨kv x,⟨by omega,aV hx⟩,?_⟩;refine ⟨_,?_,rfl⟩;rw [gB,ah h,ai h1,hx];exact ax
 have h1:¬ 32 < l.length:=by simp [aC] at h1;omega
 refine br ?_ ?_<;>intro h2
 ·have h2:256 < o.length:=by simp [gA] at h2;omega
  obtain ⟨x,hx⟩:∃ x,o[256]? = some x:=⟨_,gE h2⟩;refine ⟨Nv x,⟨by omega,iy hx⟩,?_⟩;refine ⟨_,?_,rfl⟩;rw [gB,ah h,ah h1,ai h2,hx];exact ax
 have h2:¬ 256 < o.length:=by simp [gA] at h2;omega
 refine ⟨_,?_,rfl⟩;rw [gB,ah h,ah h1,ah h2];exact ax
def acu (f:Ft) (L:List ByteArray):DV:=.tup [if f.1=0 then .sl 1 (fh L) none else .v (.slice none 0 0),f.d]
abbrev Vr (l:List Wd) (n e:Nat):St:=
 ⟨[aab 3 0,(4,⟨[],.sl 1 (fh (aA (l.take e))) (some 0)⟩),aad 7 2 (bJ l),aaa 8 ((bJ l).length),aaa 9 e],[[.v (.int .i64 0),.v (.int .i64 0)]],[⟨n,9,1,none⟩]⟩
theorem qa {all:List Wd} {e:Nat} {w:Wd} (h:all[e]? = some w):enumL all e (all.drop e)=if aF all e w≠0 then (aF all e w,w.a) else enumL all (e + 1) (all.drop (e + 1)):=by
 rw [drop_cons h,enumL]
theorem Ey (l:List Wd) (hs:wdsWt l<=1099511627776):EvP prog 104 [.sl 2 (bJ l) none] (acu (enumL l 0 l) (aA l)):=by
 have nz:=bu l;refine eG 36 [.tmp 2,.cell 3 44] func104 rfl ntmps104 rfl fun _ _ _ _=>?_;refine lI (fun j st=>∃ e:Nat,st=Vr l e e/\e<=l.length/\(aA (l.take e)).Nodup/\enumL l 0 l=enumL l e (l.drop e)/\j=l.length - e) ⟨0,rfl,by omega,by simp [aA],rfl,rfl⟩ (fG ⟨0,9,1,none⟩ rfl ⟨_,rfl⟩ rfl wA rfl rfl kr) ?_;rintro j st ⟨e,rfl,he,hnd,aK,rfl⟩;rw [aK];refine br ?_ ?_<;>intro hL
 ·have aq:e < l.length:=by simpa [aC] using hL
  obtain ⟨w,hw⟩:=gX aq;have Vp:=jg (mG hw);have fB:=j4 hw;have aR:=qa hw;have va:=mZ hw hnd;have Pv:=pV (aA (l.take (e + 1))) (by simp [aA];omega);rw [<- fB] at Pv;refine ⟨kv w,⟨by omega,aV hw⟩,?_⟩;refine ⟨by simp [cr,aA];omega,⟨by simp [cr,aA,maxLen];omega,by simp [cr,aA];omega⟩,?_⟩;refine cP wo (ji w.s (by omega)) ?_;refine br ?_ ?_<;>intro hN
  ·have hN:bd w.s=false:=sU hN;have hf:aF l e w=9:=by simp [aF,hN]
   rw [aR,hf,ai (by decide)];refine dS ?_;exact ⟨_,ax,rfl⟩
  ·have hN:bd w.s=true:=sU hN;refine bE Og rfl Pv ax (fun r hr=>?_);obtain ⟨z,rfl,hz⟩:=hr;refine br ?_ ?_<;>intro h2
   ·have h2:0<=z:=sU h2
    have hd:bN (l.take e) w.s=true:=by
     cases hd:bN (l.take e) w.s
     ·exact absurd (va.2 hd) (hz.1 h2)
     ·rfl
    have hf:aF l e w=10:=by simp [aF,hN,hd]
    rw [aR,hf,ai (by decide)];refine dS ?_;exact ⟨_,ax,rfl⟩
   ·have h2:¬ 0<=z:=sU h2;have wh:(aA (l.take (e + 1))).Nodup:=Classical.byContradiction fun hn=>h2 (hz.2 hn);have hf:aF l e w=0:=by simp [aF,hN,va.1 wh]
    rw [hf,ah (by simp)] at aR;refine ⟨Vr l (e + 1) (e + 1),(wkM (gw (nxt aq (by omega)) fB)),l.length - (e + 1),by omega,e + 1,rfl,by omega,wh,aR,rfl⟩
 ·have aS:e=l.length:=by
   have:=hL;simp [aC] at this;omega
  have h0:enumL l e (l.drop e)=(0,0):=by rw [aS,List.drop_length];all_goals rfl
  rw [h0];have ht:l.take e=l:=by rw [aS,List.take_length]
  rw [ht];exact ⟨_,ax,rfl⟩
def numF (L:List ByteArray):List (Wd × Wd)->Ft
 | []=>(0,0)
 | p :: r=>if dq L p.1.s=none then (17,p.1.a) else if dq L p.2.s=none then (17,p.2.a) else numF L r
def Xw (L:List ByteArray) (p:Wd × Wd):Nat × Nat:=((dq L p.1.s).getD 0,(dq L p.2.s).getD 0)
def dF (L:List ByteArray) (o:List (Wd × Wd)):List (Nat × Nat):=o.map (Xw L)
def acv (f:Ft) (l:List (Nat × Nat)):DV:=.tup [if f.1=0 then .sl 2 (mV l) none else .v (.slice none 0 0),f.d]
theorem As {L:List ByteArray} {o:List (Wd × Wd)} {e a b:Nat} {x:Wd × Wd} (h:o[e]? = some x) (ha:dq L x.1.s=some a) (hb:dq L x.2.s=some b):mV (dF L (o.take e)) ++ [[DV.v (.int .i64 (a:Int)),DV.v (.int .i64 (b:Int))]]=mV (dF L (o.take (e + 1))):=by
 rw [List.take_add_one,h];simp [mV,dF,Xw,ha,hb,dNP]
abbrev Vs (L:List ByteArray) (aE:List Nat) (o:List (Wd × Wd)) (n e:Nat):St:=
 ⟨[aam 0 (dh L aE),aab 5 0,(6,⟨[],.sl 2 (mV (dF L (o.take e))) (some 0)⟩),aad 12 4 (nA o),aaa 13 ((nA o).length),aaa 14 e],[[.v (.int .i64 0),.v (.int .i64 0)]],[⟨n,291,2,none⟩]⟩
theorem zt (L:List ByteArray) (aE:List Nat) (hT:iR L aE) (hl:aE.length<=1099511627776) (o:List (Wd × Wd)) (hs:prsWt o<=1099511627776) :
  EvP prog 106 [.pt (dh L aE) 0,.sl 4 (nA o) none] (acv (numF L o) (dF L o)):=by
 have nz:=jl o;refine eG 55 [.tmp 4,.cell 5 44] func106 rfl ntmps106 rfl fun _ _ _ _=>?_;refine lI (fun j st=>∃ e:Nat,st=Vs L aE o e e/\e<=o.length/\numF L o=numF L (o.drop e)/\j=o.length - e) ⟨0,rfl,by omega,rfl,rfl⟩ (fG ⟨0,291,2,none⟩ rfl ⟨_,rfl⟩ rfl wA rfl rfl kr) ?_;rintro j st ⟨e,rfl,he,aK,rfl⟩;rw [aK];refine br ?_ ?_<;>intro hL
 ·have aq:e < o.length:=by simpa [gA] using hL
  obtain ⟨w,hw⟩:=gX aq;have aR:numF L (o.drop e)=if dq L w.1.s=none then (17,w.1.a) else if dq L w.2.s=none then (17,w.2.a) else numF L (o.drop (e + 1)):=by rw [drop_cons hw,numF]
  have zq:=jq L aE w.1.s hT hl;have u6:=jq L aE w.2.s hT hl;refine ⟨Nv w,⟨by omega,iy hw⟩,?_⟩
  cases ha:dq L w.1.s with
  | none=>
   rw [ha] at zq;refine cP nS zq ?_;rw [aR,ai ha];refine dS ?_;exact ⟨_,ax,rfl⟩
  | some a=>
   rw [ha] at zq;refine cP nS zq ?_
   cases hb:dq L w.2.s with
   | none=>
    rw [hb] at u6;refine cP nS u6 ?_;rw [aR,ah (by rw [ha];simp),ai hb];refine dS ?_;exact ⟨_,ax,rfl⟩
   | some b=>
    rw [hb] at u6;refine cP nS u6 ?_;rw [ah (by rw [ha];simp),ah (by rw [hb];simp)] at aR;refine ⟨by simp [iA,dF];omega,⟨by simp [iA,dF,maxLen];omega,by simp [iA,dF];omega⟩,?_⟩;refine ⟨Vs L aE o (e + 1) (e + 1),(wkM (gw (nxt aq (by omega)) (As hw ha hb))),o.length - (e + 1),by omega,e + 1,rfl,by omega,aR,rfl⟩
 ·have aS:e=o.length:=by
   have:=hL;simp [gA] at this;omega
  have h0:numF L (o.drop e)=(0,0):=by rw [aS,List.drop_length];all_goals rfl
  rw [h0];have ht:o.take e=o:=by rw [aS,List.take_length]
  rw [ht];exact ⟨_,ax,rfl⟩
end Go.Proofs.YtgjagnmeonoehaaGreat
