/- Part 3 of the proof: sort.Slice of the table's places, at a call; names.New: the table; names.Twice: does a text stand earlier, too?; Contracts: the reference's words, Plain, Same, Zero, own; Contracts: the reference's Same, Zero, own; Contracts: the reference's Label, listed, names, Size, with, coarse; What is wrong with a type: the plain function; the reference's Wrong and parts return it; The program's checks of types: bad, listed, label, words; The program's checks of types: label, coarse; The program's comparing of names and types; The program's Same; The program's own, empty; The program's empty, enum; kinds.Right, once the checker's check is known; Numbers in tens: the reference's Put; Numbers in tens: the program's Put; The text of a type, plain; the reference's Label and comma; The reference's text of a type: Label, comma, part, Type; The reference's text of a part; The reference's text of a type; The library's strings.Join, laid at this program by the kit's tool (lay-plain; wip/tools/lay.sh); The program's text of a label, of what stands behind a part's type, of lists; The program's text of a type: field, tag, kind; unparse.Type, once the checker's check is known; A type with which nothing is wrong is fine for its text; Readable data as data of the evaluator: what the statement's form reads of an argument is a datum of the evaluator, of the argument's type, no heavier than what was read; What is read of a type, as the plain data; From a contract over data to what a law's statement asks: the arguments are read, the call returns true, all that was there stays; What all laws' frames share: the bulk, the program's closed facts; Types without places: plain, and the program's kinds.Strip; Schemas: plain, as the evaluator has them, without places; What is read of a schema, as the plain data; What the frames of laws over schemas share; The program's closed facts, each by itself (all at once they ask more memory than a Lean process has); Relations as rows of bits: plain, and rel's functions that read; rel.back: who leads to a thing and is led to by it; rel.New: the rows of a list of pairs; rel.Close: the closure, by rows; The number of bits that are set, as the library reckons it; math/bits.OnesCount64; When two bits are set; rel.Loop: the least thing in a loop; The plain law of closeR: its bits are what is led to; The program's and the reference's check of names that must differ; The table's Find, whole; lattice.many, called, numbered. No condition. -/
import Derived.Laws.StructEq
import Derived.Shelf.Strings.OnBuilder
import Derived.Deep.Slices
import Derived.ChangeArms
import Derived.DataReads
import Derived.WalkKit
import Derived.ProofKit
import Derived.OpenShut
import Derived.Carry
import Derived.JoinedCond
import Derived.Test.YtfifjddnnmfeoaaGreatRows
import Derived.Test.YtfifjddnnmfeoaaGreatMo2
set_option linter.all false
set_option maxRecDepth 100000
namespace Go.Proofs.YtfifjddnnmfeoaaGreat
open Go Go.RowKit Dv Tryz
abbrev L4 (p:Nat):Value:=.int .i64 (p:Int)
theorem Ck {E:En}:∀ {ds:List Nat} {arr:List Value},RvL E (dInts ds).flatten arr->arr=ds.map L4
 | [],arr,h=>by simpa [dInts,RvL] using h
 | x :: r,arr,h=>by
  simp only [dInts,List.map_cons,List.flatten_cons,List.cons_append,List.nil_append,RvL] at h;obtain ⟨v,s,rfl,h1,h2⟩:=h;unfold Rv at h1;rw [h1.1,Ck (ds:=r) h2];rfl
theorem uL {E:En}:∀ ds:List Nat,RvC E (dInts ds).flatten (ds.map L4)
 | []=>⟨cj E,by simp⟩
 | x :: r=>by
  have ih:=uL (E:=E) r;refine ⟨?_,?_⟩
  ·simp only [dInts,List.map_cons,List.flatten_cons,List.cons_append,List.nil_append];exact rvL_cons (fj rfl) ih.1
  ·intro v hv;simp only [List.map_cons,List.mem_cons] at hv;rcases hv with rfl | hv
   ·rfl
   ·exact ih.2 v hv
theorem Yq {m:Nat}:∀ ds:List Nat,(∀ p∈ds,p < m + 1)->∃ D:List (Fin (m + 1)),D.map (·.val)=ds
 | [],_=>⟨[],rfl⟩
 | x :: r,h=>by
  obtain ⟨D,hD⟩:=Yq r fun p hp=>h p (List.mem_cons_of_mem _ hp);exact ⟨⟨x,h x (by simp)⟩ :: D,by simp [hD]⟩
theorem uM {α:Type} [Inhabited α] (enc:α->Value) (w:World) (b n:Nat) (dk:Array α) (os:Array Obj) (arr:List Value) (ty:TypeId) (hw:w.heap[b]? = some (.cells arr.toArray ty (0,0))) (hl:arr.length=dk.size) :
  ∀ k,k < w.heap.size->(Sort.grow (Sort.putRow enc (Sort.ahead w n) b 0 dk) os).heap[k]? = (World.cM w b (.cells (dk.toList.map enc).toArray ty (0,0))).heap[k]?:=by
 intro k hk;simp only [Sort.grow,Sort.putRow,Sort.mapBlock,Sort.ahead];rw [Array.getElem?_append_left (by simpa using hk),Array.getElem?_modify];by_cases Jh:b=k
 ·subst Jh;rw [if_pos rfl,hw,dy hw];simp only [Option.map_some,Sort.onCells,oI,Obj.cells.injEq,and_true];apply Array.ext_getElem?;intro j;simp only [Sort.putCells,Array.getElem?_mapIdx];rcases Nat.lt_or_ge j dk.size with hj | hj
  ·have h1:j < arr.length:=by omega
   simp [h1,hj]
  ·have h1:arr.length<=j:=by omega
   simp [h1,hj]
 ·rw [if_neg Jh,cg (Ne.symm Jh)]
theorem L5 {α:Type} {l:List α} {i:Nat} {x:α} (h:l[i]? = some x):l.set i x=l:=by
 apply List.ext_getElem?;intro j;by_cases hj:j=i
 ·subst hj;rw [List.getElem?_set_self (gS h).1,h]
 ·rw [List.getElem?_set_ne (Ne.symm hj)]
theorem Ji {X:Ctx} {st:St} {k:List It} (hP:X.P=Tryz.prog) {i c len:Nat} {ds:List Nat} (hlen:len=ds.length) {lbD:List DV} {d:Nat} (N:Nat) (hN:∀ p∈ds,p < N) (lt:Nat->Nat->Bool) (hO:Sort.SWO lt)
  (lx:st.bx[i]? = some (dInts ds).flatten) (hn:ds.length<=1099511627776) (lbF:List Nat->List DV) (PO:∀ dk:List Nat,dk.length=ds.length->CcL (st.bx.set i (dInts dk).flatten) 0 0 0 (lbF dk) lbD)
  (LZ:∀ dk:List Nat,dk.length=ds.length->(∀ p∈dk,p < N)->∀ i j p q:Nat,dk[i]? = some p->dk[j]? = some q->EvS Tryz.prog 162 (.v (.int .i64 i) :: .v (.int .i64 j) :: lbF dk) [] [] (fun r _ _=>r = .v (.bool (lt p q))))
  (hd:fi X.nt st.sl (some d)=true)
  (hk:∀ TJ:List Nat,TJ.Perm ds->(∀ i j p q:Nat,i < j->TJ[i]? = some p->TJ[j]? = some q->lt q p=false)->go X 4000 k ⟨(d,⟨[],.tup []⟩) :: st.sl,st.bx.set i (dInts TJ).flatten,st.tk⟩)
  (aT:X.still=false:=by exact rfl) (hX:X.bt=[]:=by exact rfl):dL X 161 [.sg 28 (.ms i 1 0 len c),.fn 162 [] lbD] (some d) k st:=by
 subst hlen;refine ⟨?_,aT,fun E a w vs h hv=>?_⟩
 ·rw [hP];exact Xk
 rw [hP];simp only [RvL] at hv;obtain ⟨v1,_,rfl,h1,v2,_,rfl,h2,rfl⟩:=hv;unfold Rv at h1;obtain ⟨z,rfl,h1⟩:=h1;unfold Rv at h1;obtain ⟨b,ad,hb,Vm,rfl,hca⟩:=h1;unfold Rv at h2;obtain ⟨l,r,rfl,hl,hr⟩:=h2;simp only [RvL] at hl;subst hl;obtain ⟨b',ty,arr,dS,hw,n8⟩:=h.env.eu i _ lx;rw [hb] at dS;simp only [oI] at dS;subst dS;have L6:=Ck n8.1;have Tp:=bX hw;by_cases h1:ds.length<=1
 ·refine (Je r.toArray ad ds.length c h1 w).mono ?_;rintro e w' ⟨rfl,os,rfl⟩
  have hh:∀ j,j < w.heap.size->(Sort.grow w os).heap[j]? = w.heap[j]?:=fun j hj=>by
   simp only [Sort.grow];rw [Array.getElem?_append_left hj]
  have cf:Rel X E st a (Sort.grow w os):=di h (Ext.refl E) (h.env.kh hh) h.tk h.nw (h.fr.cm rfl rfl rfl (by simp [Sort.grow]) fun j hj=>.inr (hh j hj)) (nX aT) (.nil hX);have Lt:=hk ds (List.Perm.refl _) (fun i j p q tH _ hj=>by have:=(gS hj).1;omega);rw [L5 lx] at Lt;exact go_sound 4000 _ _ Lt E _ _ (aV cf hd (.tup []) (.tuple #[]) (by unfold Rv;exact ⟨[],rfl,cj E⟩))
 ·have h2:2<=ds.length:=by omega
  have Wl:=hca (by omega);subst Wl
  obtain ⟨m,rfl⟩:∃ m,N=m + 1:=by
   cases hds:ds with
   | nil=>rw [hds] at h2;simp at h2
   | cons x r=>have:=hN x (by rw [hds];simp);exact ⟨N - 1,by omega⟩
  obtain ⟨D,hD⟩:=Yq ds hN;have HF:D.length=ds.length:=by rw [<- hD];simp
  let enc:Fin (m + 1)->Value:=fun x=>L4 x.val
  have hO':Sort.SWO (fun x y:Fin (m + 1)=>lt x.val y.val):=⟨fun x=>hO.irrefl _,fun x y z=>hO.trans _ _ _,fun x y z=>hO.ntrans _ _ _⟩;have Yr:∀ l:List (Fin (m + 1)),l.map enc=(l.map (·.val)).map L4:=fun l=>by simp [enc]
  have hS:=LY enc (fun _=>rfl) hO' r.toArray b c D.toArray (by simpa [HF] using h2) (by simp [HF];omega) w ?_ ?_ Tp
  ·simp only [List.size_toArray,HF] at hS;refine hS.mono ?_;rintro e w' ⟨rfl,d',n,os,hp,hs,rfl⟩;have bE:d'.size=ds.length:=by have:=hp.1;simpa [HF] using this
   have oc:(d'.toList.map (·.val)).Perm ds:=by
    have h3:=hp.2.2;have e1:d'.extract 0 ds.length=d':=Array.extract_eq_self_of_le (by omega);have e2:D.toArray.extract 0 ds.length=D.toArray:=Array.extract_eq_self_of_le (by simp [HF]);rw [e1,e2] at h3;rw [<- hD];exact h3.map _
   have Jj:∀ i j p q:Nat,i < j->(d'.toList.map (·.val))[i]? = some p->(d'.toList.map (·.val))[j]? = some q->lt q p=false:=by
    intro i j p q tH hi hj;have lh:j < d'.size:=by have:=(gS hj).1;simpa using this
    have h3:=hs i j (Nat.zero_le _) tH (by omega);rw [getElem!_pos d' j lh,getElem!_pos d' i (by omega)] at h3;have KL:i < d'.size:=by omega
    simp [KL] at hi;simp [lh] at hj;rw [<- hi,<- hj];exact h3
   have hh:=uM enc w b n d' os arr ty hw (by rw [L6];simp [bE]);have eF:=iZ (ty:=ty) h aT hb (cs':=(dInts (d'.toList.map (·.val))).flatten) (arr':=(d'.toList.map (·.val)).map L4) (uL _) ⟨_,hw⟩;rw [<- Yr] at eF;have jj:(Sort.grow (Sort.putRow enc (Sort.ahead w n) b 0 d') os).heap.size=w.heap.size + os.size:=by simp [Sort.grow,Sort.putRow,Sort.mapBlock,Sort.ahead]
   have cf:=di eF (Ext.refl E) (w':=Sort.grow (Sort.putRow enc (Sort.ahead w n) b 0 d') os) (eF.env.kh fun j hj=>hh j (by rwa [fO] at hj)) eF.tk eF.nw
    (eF.fr.cm rfl rfl rfl (by rw [fO,jj];omega) fun j hj=>.inr (hh j (by rwa [fO] at hj))) (nX aT) (.nil hX)
   exact go_sound 4000 _ _ (hk _ oc Jj) E _ _ (aV cf hd (.tup []) (.tuple #[]) (by unfold Rv;exact ⟨[],rfl,cj E⟩))
  ·intro mm os dk hs i' j' hi hj;have bE:dk.size=ds.length:=by simpa [HF] using hs
   have hh:=uM enc w b mm dk os arr ty hw (by rw [L6];simp [bE]);have hE:=h.env.set hb Tp (ty:=ty) (uL (E:=E) (dk.toList.map (·.val)));rw [<- Yr] at hE;have hE':=hE.kh (w':=Go.Proofs.sortWorld enc w b 0 mm dk os) fun j hj=>hh j (by rwa [fO] at hj);have KL:i' < dk.size:=by rw [bE,<- HF];simpa using hi
   have lh:j' < dk.size:=by rw [bE,<- HF];simpa using hj
   have hLL:(dk.toList.map (·.val)).length=ds.length:=by simpa using bE
   have hc:=LZ (dk.toList.map (·.val)) hLL (fun p hp=>by
    obtain ⟨x,_,rfl⟩:=List.mem_map.1 hp
    exact x.isLt) i' j' (dk[i']!).val (dk[j']!).val (by rw [getElem!_pos dk i' KL];simp [KL]) (by rw [getElem!_pos dk j' lh];simp [lh])
   have hv:RvL E (.v (.int .i64 (i':Int)) :: .v (.int .i64 (j':Int)) :: lbD) (.int .i64 (i':Int) :: .int .i64 (j':Int) :: r):=rvL_cons (fj rfl) (rvL_cons (fj rfl) hr);have hb:=iS hE' hc ⟨_,_,rfl,rfl,_,_,rfl,rfl,PO _ hLL⟩ hv;have hargs:(#[Value.int .i64 (i':Int),Value.int .i64 (j':Int)] ++ r.toArray)=(Value.int .i64 (i':Int) :: Value.int .i64 (j':Int) :: r).toArray:=by simp
   rw [hargs];refine hb.mono ?_;rintro e w' ⟨v,E2,rfl,HG,_,EB⟩;have:=bd HG;subst this;exact ⟨rfl,EB rfl⟩
  ·intro j hj;have lh:j < D.length:=by simpa using hj
   rw [ch hw,Nat.zero_add,L6];refine ⟨?_,?_⟩
   ·rw [getElem!_pos D.toArray j hj,<- hD];simp [lh,enc]
   ·simp [World.frozen?,hw]
theorem yr {n m:Nat} {tk:List TkE}:∀ ds:List Nat,WeL n m tk (dInts ds).flatten (dInts ds).flatten
 | []=>rfl
 | b :: r=>⟨_,_,rfl,ah rfl,yr r⟩
theorem pJ {n m:Nat} {tk:List TkE} {l:List DV} {ds:List Nat} (h:l=(dInts ds).flatten):WeL n m tk l (dInts ds).flatten:=by rw [h];exact yr ds
def gM (n e:Nat):List Nat:=List.range e ++ List.replicate (n - e) 0
theorem Jk {n e:Nat} (h:e<=n):(gM n e).length=n:=by simp [gM];omega
theorem fillA_0 (n:Nat):(List.replicate n [DV.v (.int .i64 0)]).flatten=(dInts (gM n 0)).flatten:=by simp [gM,dInts]
theorem PQ (n:Nat):gM n n=List.range n:=by simp [gM]
theorem nC (ds:List Nat):(dInts ds).flatten=ds.map fun (i:Nat)=>DV.v (.int .i64 (i:Int)):=by
 induction ds with
 | nil=>rfl
 | cons x r ih=>simp only [dInts,List.map_cons,List.flatten_cons] at ih ⊢;rw [ih];all_goals rfl
theorem EW {n e:Nat} (h:e < n):(dInts (gM n e)).flatten.take e ++ [DV.v (.int .i64 (e:Int))] ++ (dInts (gM n e)).flatten.drop (e + 1)=(dInts (gM n (e + 1))).flatten:=by
 simp only [nC,<- List.map_take,<- List.map_drop];have e1:(gM n e).take e=List.range e:=by simp [gM]
 have e2:(gM n e).drop (e + 1)=List.replicate (n - (e + 1)) 0:=by
  simp only [gM,List.drop_append,List.length_range];rw [List.drop_eq_nil_of_le (by simp),List.nil_append,List.drop_replicate];congr 1;omega
 rw [e1,e2];simp [gM,List.range_succ]
abbrev EY (L:List ByteArray) (e:Nat):St:=
 ⟨[(3,⟨[],.loc 1 0⟩),(4,⟨[],.loc 3 0⟩),(16,⟨[],.v (.int .i64 (dF L).length)⟩),(17,⟨[],.v (.int .i64 e)⟩)],
  [[.sl 1 (dF L) (some 0),.v (.slice none 0 0)],[.loc 0 0],(dInts (gM (dF L).length e)).flatten,[.ms 2 1 0 (dF L).length (dF L).length]],[⟨(dF L).length,9,1,none⟩]⟩
def fp (L:List ByteArray) (ds:List Nat) (i:Nat):Bool:=decide (i=0) || !decide (L.getD (ds.getD i 0) al=L.getD (ds.getD (i - 1) 0) al)
def eQ (L:List ByteArray) (ds:List Nat) (e:Nat):List Nat:=((List.range e).filter (fp L ds)).map fun i=>ds.getD i 0
theorem uN (L:List ByteArray) (ds:List Nat) (e:Nat):eQ L ds (e + 1)=eQ L ds e ++ (if fp L ds e=true then [ds.getD e 0] else []):=by
 unfold eQ;rw [List.range_succ,List.filter_append,List.map_append];congr 1;cases h:fp L ds e<;>simp [h]
theorem Jl (L:List ByteArray) (ds:List Nat) (e:Nat):(eQ L ds e).length<=e:=by
 unfold eQ;rw [List.length_map];exact Nat.le_trans (List.length_filter_le _ _) (by simp)
abbrev TL (L:List ByteArray) (ds:List Nat):St:=
 ⟨[(3,⟨[],.loc 1 0⟩),(4,⟨[],.pt [.sl 1 (dInts ds) none] 0⟩),(29,⟨[],.sl 1 (dInts ds) none⟩),(30,⟨[],.v (.int .i64 (dF L).length)⟩),(31,⟨[],.v (.int .i64 0)⟩)],
  [[.sl 1 (dF L) (some 0),.v (.slice none 0 0)],[.loc 0 0]],[⟨(dF L).length,9,1,none⟩]⟩
abbrev Cl (L:List ByteArray) (ds aA:List Nat) (m e:Nat):St:=
 ⟨[(3,⟨[],.loc 1 0⟩),(4,⟨[],.pt [.sl 1 (dInts ds) none] 0⟩),(29,⟨[],.sl 1 (dInts ds) none⟩),(30,⟨[],.v (.int .i64 (dF L).length)⟩),(31,⟨[],.v (.int .i64 e)⟩)],
  [[.sl 1 (dF L) (some 0),.sl 1 (dInts aA) (some 1)],[.loc 0 0]],[⟨(dF L).length,9,1,none⟩,⟨m,3,1,none⟩]⟩
theorem getD_some {α:Type} {l:List α} {i:Nat} {x d:α} (h:l[i]? = some x):l.getD i d=x:=by simp [List.getD_eq_getElem?_getD,h]
theorem re {α:Type} {l:List α} {i:Nat} {d:α} (h:i < l.length):l[i]? = some (l.getD i d):=by
 rw [gE h,List.getD_eq_getElem?_getD,gE h];all_goals rfl
theorem TM {L:List ByteArray} {ds:List Nat} (oc:ds.Perm (List.range L.length)) (Jj:∀ i j p q:Nat,i < j->ds[i]? = some p->ds[j]? = some q->Bt L q p=false):gL L (eQ L ds L.length):=by
 have hlen:ds.length=L.length:=by rw [oc.length_eq,List.length_range]
 let D:Nat->Nat:=fun i=>ds.getD i 0
 let T:Nat->ByteArray:=fun i=>L.getD (D i) al
 have hD:∀ i,i < L.length->ds[i]? = some (D i):=fun i hi=>re (by omega)
 have O8:∀ i,i < L.length->D i < L.length:=fun i hi=>by
  have:=oc.mem_iff.1 (mG (hD i hi));exact List.mem_range.1 this
 have hT:∀ i,i < L.length->L[D i]? = some (T i):=fun i hi=>re (O8 i hi)
 have fQ:∀ i j,i < j->j < L.length->T i=T j∨xE (T i) (T j)=true:=by
  intro i j tH hj;have h:=Jj i j (D i) (D j) tH (hD i (by omega)) (hD j hj);unfold Bt at h;by_cases he:T j=T i
  ·exact .inl he.symm
  ·rw [if_neg he] at h;rcases HC h with h | h
   ·exact absurd h he
   ·exact .inr h
 have RV:∀ i,i < L.length->fp L ds i=true->∀ j,j < i->xE (T j) (T i)=true:=by
  intro i hi hh j O5
  have aN:T i≠T (i - 1):=by
   intro he;unfold fp at hh;have:decide (i=0)=false:=by simp;omega
   rw [this] at hh;simp only [Bool.false_or,Bool.not_eq_true',decide_eq_false_iff_not] at hh;exact hh he
  have h1:xE (T (i - 1)) (T i)=true:=by
   rcases fQ (i - 1) i (by omega) hi with h | h
   ·exact absurd h.symm aN
   ·exact h
  by_cases hj:j=i - 1
  ·rw [hj];exact h1
  ·rcases fQ j (i - 1) (by omega) (by omega) with h | h
   ·rw [h];exact h1
   ·exact fF h h1
 have yb:∀ j,j < L.length->∃ k,k < L.length/\D k=j:=by
  intro j hj;have:=oc.mem_iff.2 (List.mem_range.2 hj);obtain ⟨k,hk⟩:=List.getElem?_of_mem this;have iL:=(gS hk).1;exact ⟨k,by omega,getD_some hk⟩
 let H:=(List.range L.length).filter (fp L ds)
 have hH:∀ (a i:Nat),H[a]? = some i->i < L.length/\fp L ds i=true:=fun a i h=>by
  have:=mG h;simp only [H,List.mem_filter,List.mem_range] at this;exact this
 have Jm:∀ (a p:Nat),(eQ L ds L.length)[a]? = some p->∃ i,H[a]? = some i/\D i=p:=by
  intro a p h;unfold eQ at h;rw [List.getElem?_map] at h
  cases hh:H[a]? with
  | none=>rw [show (List.filter (fp L ds) (List.range L.length))[a]? = none from hh] at h;cases h
  | some i=>
   rw [show (List.filter (fp L ds) (List.range L.length))[a]? = some i from hh] at h;simp only [Option.map_some,oI] at h;exact ⟨i,rfl,h⟩
 have hinc:∀ (a b i k:Nat),a < b->H[a]? = some i->H[b]? = some k->i < k:=by
  intro a b i k oE hi hk;have hp:List.Pairwise (·< ·) H:=List.Pairwise.filter _ List.pairwise_lt_range;obtain ⟨ha,rfl⟩:=List.getElem?_eq_some_iff.1 hi;obtain ⟨hb,rfl⟩:=List.getElem?_eq_some_iff.1 hk;exact List.pairwise_iff_getElem.1 hp a b ha hb oE
 refine ⟨?_,?_,?_,?_⟩
 ·intro a p h;obtain ⟨i,hi,rfl⟩:=Jm a p h;exact O8 i (hH a i hi).1
 ·intro a b p q s t oE hp hq hs ht;obtain ⟨i,hi,rfl⟩:=Jm a p hp;obtain ⟨k,hk,rfl⟩:=Jm b q hq;rw [hT i (hH a i hi).1] at hs;rw [hT k (hH b k hk).1] at ht;simp only [oI] at hs ht;rw [<- hs,<- ht];exact RV k (hH b k hk).1 (hH b k hk).2 i (hinc a b i k oE hi hk)
 ·intro a p j s hp hs hj;obtain ⟨i,hi,rfl⟩:=Jm a p hp;obtain ⟨rf,jU⟩:=hH a i hi;obtain ⟨k,hk,rfl⟩:=yb j (gS hj).1;rw [hT i rf] at hs;rw [hT k hk] at hj;simp only [oI] at hs hj;rcases Nat.lt_trichotomy k i with h | h | h
  ·have:=RV i rf jU k h;rw [hs,hj,xE,kp] at this;cases this
  ·rw [h];exact Nat.le_refl _
  ·have h2:=Jj i k (D i) (D k) h (hD i rf) (hD k hk);unfold Bt at h2
   have he:L.getD (D k) al=L.getD (D i) al:=by
    show T k=T i;rw [hj,hs]
   rw [if_pos he] at h2;simp at h2;omega
 ·intro j s hj;obtain ⟨k,hk,rfl⟩:=yb j (gS hj).1;rw [hT k hk] at hj;simp only [oI] at hj;obtain ⟨i,⟨rf,Ys⟩,hmin⟩:=least (p:=fun i=>i < L.length/\T i=s) ⟨k,hk,hj⟩
  have jU:fp L ds i=true:=by
   unfold fp;by_cases h0:i=0
   ·simp [h0]
   ·have aN:¬ T i=T (i - 1):=fun he=>by
     have:=hmin (i - 1) ⟨by omega,by rw [<- he];exact Ys⟩;omega
    have e1:decide (L.getD (ds.getD i 0) al=L.getD (ds.getD (i - 1) 0) al)=false:=decide_eq_false aN;rw [e1];simp
  have hm:i∈H:=by simp only [H,List.mem_filter,List.mem_range];exact ⟨rf,jU⟩
  obtain ⟨a,ha⟩:=List.getElem?_of_mem hm;refine ⟨a,D i,?_,by rw [hT i rf,Ys]⟩;unfold eQ;rw [List.getElem?_map];rw [show (List.filter (fp L ds) (List.range L.length))[a]? = some i from ha];rfl
theorem uO (L:List ByteArray) (hl:L.length<=1099511627776) :
  Ev Tryz.prog 96 [.sl 1 (dF L) none] [] [] (fun r _ _=>∃ aA,gL L aA/\aA.length<=L.length/\r = .pt (cy L aA) 0):=by
 have hN:=bR L;refine ev_go (P:=Tryz.prog) tt tt_ok 5000 71 [.tmp 2] Tryz.func96 rfl Tryz.ntmps96 rfl (nL rfl) (fun E9 w9 hn9 hm9=>?_);refine ⟨⟨by simp [hN,maxLen];omega,by simp [hN];omega⟩,?_⟩;refine ⟨⟨rfl,by omega,by omega,by omega⟩,?_⟩;refine aq (fun j st=>∃ e:Nat,st=EY L e/\e<=L.length/\j=L.length - e) L.length (EY L 0) (az 4 rfl (by repeat' (first | exact rfl | exact ah rfl | exact pJ (fillA_0 _) | refine ⟨_,_,rfl,?_,?_⟩)) rfl rfl rfl (by repeat' (first | exact trivial | exact ah rfl | exact pJ (fillA_0 _) | refine ⟨⟨_,rfl,?_⟩,?_⟩))) ⟨0,rfl,by omega,rfl⟩ ?_;rintro j st ⟨e,rfl,he,rfl⟩;refine br (fun h=>?_) (fun h=>?_)
 ·have ap:e < (dF L).length:=by simpa using h
  refine ⟨⟨by omega,by omega⟩,?_⟩;have e1:(dInts (gM (dF L).length e)).flatten.length=(dF L).length:=by rw [nC,List.length_map,Jk (by omega)]
  refine ⟨by rw [e1];omega,?_⟩
  have ct:(dInts (gM (dF L).length e)).flatten.set (0 + (e:Int).toNat * 1) (DV.v (.int .i64 (e:Int)))=(dInts (gM (dF L).length (e + 1))).flatten:=by
   rw [show 0 + (e:Int).toNat * 1=e by omega,List.set_eq_take_append_cons_drop,if_pos (by rw [e1];omega),<- EW ap];simp
  refine ⟨EY L (e + 1),(az 4 rfl (by repeat' (first | exact rfl | exact ah rfl | exact pJ ct | exact ak (cx ap (by omega)) | refine ⟨_,_,rfl,?_,?_⟩)) rfl rfl rfl (by repeat' (first | exact trivial | exact ah rfl | exact pJ ct | exact ak (cx ap (by omega)) | refine ⟨⟨_,rfl,?_⟩,?_⟩))),L.length - (e + 1),by omega,e + 1,rfl,by omega,rfl⟩
 ·have aO:e=(dF L).length:=by
   have:¬ e < (dF L).length:=by simpa using h
   omega
  subst aO;rw [PQ]
  have hms:∀ dk:List Nat,dk.length=(List.range (dF L).length).length->∀ bx:List (List DV),bx[2]? = some (dInts dk).flatten->∀ N0 n0 m0:Nat,N0<=2->Cc bx N0 n0 m0 (.sl 1 (dInts dk) none) (.ms 2 1 0 (dF L).length (dF L).length):=by
   intro dk hdk bx hb N0 n0 m0 hN0;simp only [Cc];refine Or.inr (Or.inr (Or.inl ⟨2,0,(dF L).length,_,?_,hN0,hb,?_,?_,?_⟩))
   ·rw [bh,hdk,List.length_range]
   ·rw [List.drop_zero,List.take_of_length_le];rw [nC,List.length_map,bh];omega
   ·intro x hx;simp only [dInts,List.mem_map] at hx;obtain ⟨_,_,rfl⟩:=hx;rfl
   ·intro x hx;rw [nC] at hx;obtain ⟨_,_,rfl⟩:=List.mem_map.1 hx;exact .inl ⟨_,rfl⟩
  refine Ji (ds:=List.range (dF L).length) rfl (by simp) (dF L).length (fun p hp=>List.mem_range.1 hp) (Bt L) (PL L) rfl (by simp [hN];omega)
   (fun dk=>[.pt [.sl 1 (dInts dk) none] 0,.pt [.pt [.sl 1 (dF L) none,.v (.slice none 0 0)] 0] 0])
   (fun dk hdk=>⟨_,_,rfl,Or.inr ⟨3,_,rfl,Nat.zero_le _,rfl,⟨_,_,rfl,hms dk hdk _ rfl 0 0 0 (Nat.zero_le _),rfl⟩⟩,ax⟩)
   (fun dk hdk hp i j p q hi hj=>Jf L dk i j p q hi hj (by have:=hp p (mG hi);omega) (by have:=hp q (mG hj);omega)) rfl (fun ds oc Jj=>?_)
  have cH:ds.length=(dF L).length:=by rw [oc.length_eq,List.length_range]
  have Yt:=hms ds (by rw [cH,List.length_range])
  refine Lv 2 (TL L ds) rfl rfl rfl ⟨_,_,rfl,⟨_,_,rfl,⟨nL rfl,rfl⟩,_,_,rfl,rfl,rfl⟩,_,_,rfl,⟨_,_,rfl,⟨nL rfl,rfl⟩,rfl⟩,rfl⟩
   ⟨⟨_,rfl,⟨nL rfl,rfl⟩⟩,⟨_,rfl,Or.inr ⟨3,_,rfl,by decide,rfl,⟨_,_,rfl,Yt _ rfl 2 0 0 (by decide),rfl⟩⟩⟩,⟨_,rfl,Yt _ rfl 2 2 1 (by decide)⟩,⟨_,rfl,rfl⟩,⟨_,rfl,rfl⟩,trivial⟩ ?_
  refine aq (fun j st=>∃ e m:Nat,st=Cl L ds (eQ L ds e) m e/\m=(eQ L ds e).length/\e<=(dF L).length/\j=(dF L).length - e) (dF L).length (Cl L ds [] 0 0)
   (dj 2 ⟨0,3,1,none⟩ rfl rfl rfl wTA rfl rfl wB) ⟨0,0,rfl,rfl,by omega,by omega⟩ ?_
  rintro j st ⟨e,m,rfl,hm,he,rfl⟩;have ja:=Jl L ds e;refine br (fun h=>?_) (fun h=>?_)
  ·have ap:e < (dF L).length:=by simpa using h
   obtain ⟨p,hp⟩:∃ p,ds[e]? = some p:=⟨_,gE (by omega)⟩
   have hpL:p < L.length:=by
    have:=oc.mem_iff.1 (mG hp);rw [List.mem_range] at this;omega
   obtain ⟨s,hs⟩:∃ s,L[p]? = some s:=⟨_,gE hpL⟩;refine ⟨_,⟨by omega,dO hp⟩,?_⟩;have hgp:ds.getD e 0=p:=by simp [List.getD_eq_getElem?_getD,hp]
   have Ex:L.getD p al=s:=by simp [List.getD_eq_getElem?_getD,hs]
   have dV:fp L ds e=true->eQ L ds (e + 1)=eQ L ds e ++ [p]:=fun hh=>by rw [uN,if_pos hh,hgp]
   have hold:fp L ds e=false->eQ L ds (e + 1)=eQ L ds e:=fun hh=>by rw [uN,if_neg (by rw [hh];decide),List.append_nil]
   have HH:fp L ds e=true->dInts (eQ L ds e) ++ [[DV.v (.int .i64 (p:Int))]]=dInts (eQ L ds (e + 1)):=fun hh=>by rw [dV hh];simp [dInts]
   by_cases h0:e=0
   ·subst h0;have hh:fp L ds 0=true:=by simp [fp]
    refine aE (fun _=>false) mo (by decide +kernel) ?_;refine aP mo (by decide +kernel) ?_;refine ⟨by rw [bh,hm],⟨by simp [bh,maxLen];omega,by simp [bh];omega⟩,?_⟩;refine ⟨Cl L ds (eQ L ds 1) (m + 1) 1,(az 2 rfl (by repeat' (first | exact rfl | exact ah rfl | exact ak (cx ap (by omega)) | exact cP (HH hh) rfl | refine ⟨_,_,rfl,?_,?_⟩)) rfl rfl rfl (by repeat' (first | exact trivial | exact ah rfl | exact ak (cx ap (by omega)) | exact cP (HH hh) rfl | refine ⟨⟨_,rfl,?_⟩,?_⟩))),(dF L).length - 1,by omega,1,m + 1,rfl,by rw [dV hh,List.length_append,hm];rfl,by omega,rfl⟩
   ·obtain ⟨p',pz⟩:∃ p',ds[e - 1]? = some p':=⟨_,gE (by omega)⟩
    have hpL':p' < L.length:=by
     have:=oc.mem_iff.1 (mG pz);rw [List.mem_range] at this;omega
    obtain ⟨s',hs'⟩:∃ s',L[p']? = some s':=⟨_,gE hpL'⟩;have hgp':ds.getD (e - 1) 0=p':=by simp [List.getD_eq_getElem?_getD,pz]
    have hgs':L.getD p' al=s':=by simp [List.getD_eq_getElem?_getD,hs']
    have hhd:fp L ds e = !decide (s=s'):=by
     unfold fp;rw [hgp,hgp',Ex,hgs'];simp [h0]
    have hz:IntKind.i64.wrap ((e:Int) - 1)=((e - 1:Nat):Int):=by rw [wrap64 (by omega) (by omega)];omega
    refine aE (fun _=>false) mo (by decide +kernel) ?_;refine br (fun _=>?_) (fun h=>?_)
    ·refine ⟨_,⟨by omega,eX hs⟩,?_⟩;refine ⟨[.v (.int .i64 (p':Int))],⟨by rw [hz];omega,by rw [hz];exact dO pz⟩,?_⟩;refine ⟨_,⟨by omega,eX hs'⟩,?_⟩;refine br (fun h2=>?_) (fun h2=>?_)
     ·have hh:fp L ds e=true:=by
       rw [hhd];simp [aj,h0] at h2;simpa using h2
      refine aP mo (by decide +kernel) ?_;refine ⟨by rw [bh,hm],⟨by simp [bh,maxLen];omega,by simp [bh];omega⟩,?_⟩;refine ⟨Cl L ds (eQ L ds (e + 1)) (m + 1) (e + 1),(az 2 rfl (by repeat' (first | exact rfl | exact ah rfl | exact ak (cx ap (by omega)) | exact cP (HH hh) rfl | refine ⟨_,_,rfl,?_,?_⟩)) rfl rfl rfl (by repeat' (first | exact trivial | exact ah rfl | exact ak (cx ap (by omega)) | exact cP (HH hh) rfl | refine ⟨⟨_,rfl,?_⟩,?_⟩))),(dF L).length - (e + 1),by omega,e + 1,m + 1,rfl,by rw [dV hh,List.length_append,hm];rfl,by omega,rfl⟩
     ·have hh:fp L ds e=false:=by
       rw [hhd];simp [aj,h0] at h2;simpa using h2
      have aH:dInts (eQ L ds e)=dInts (eQ L ds (e + 1)):=by rw [hold hh]
      refine ⟨Cl L ds (eQ L ds (e + 1)) m (e + 1),(az 2 rfl (yc ap aH) rfl rfl rfl (tg ap aH)),(dF L).length - (e + 1),by omega,e + 1,m,rfl,by rw [hold hh,hm],by omega,rfl⟩
    ·exfalso;have:decide ((e:Int)=0)=true:=by simpa using h
     simp at this;exact h0 this
  ·have aO:e=L.length:=by
    have:¬ e < (dF L).length:=by simpa using h
    omega
   subst aO;exact ⟨.pt (cy L (eQ L ds L.length)) 0,Or.inr ⟨0,_,rfl,Nat.zero_le _,rfl,ax⟩,_,TM (by rw [<- hN];exact oc) Jj,ja,rfl⟩
abbrev TN (L:List ByteArray) (aA:List Nat) (e:Nat):St:=
 ⟨[(3,⟨[],.pt (cy L aA) 0⟩),(10,⟨[],.sl 1 (dF L) none⟩),(11,⟨[],.v (.int .i64 (dF L).length)⟩),(12,⟨[],.v (.int .i64 e)⟩)],[],[]⟩
theorem L7 {α:Type}:∀ {l:List α},(∀ (i j:Nat) (x:α),j < i->l[i]? = some x->l[j]? ≠ some x)->l.Nodup
 | l,h=>by
  rw [List.nodup_iff_pairwise_ne,List.pairwise_iff_getElem];intro i j hi hj tH he;exact h j i l[j] tH (gE hj) (by rw [gE hi,he])
theorem oF (L:List ByteArray) (hl:L.length<=1099511627776) :
  Ev Tryz.prog 103 [.sl 1 (dF L) none] [] [] (fun r _ _=>∃ z:Int,r = .v (.int .i64 z)/\(0<=z↔¬ L.Nodup)):=by
 have hN:=bR L;refine ev_go (P:=Tryz.prog) tt tt_ok 5000 28 [.tmp 2] Tryz.func103 rfl Tryz.ntmps103 rfl (nL rfl) (fun E9 w9 hn9 hm9=>?_);refine bq TD rfl (uO L hl) ax (fun r hr=>?_);obtain ⟨aA,hT,ja,rfl⟩:=hr;refine aq (fun j st=>∃ e:Nat,st=TN L aA e/\e<=L.length/\(∀ (i j:Nat) (x:ByteArray),i < e->j < i->L[i]? = some x->L[j]? ≠ some x)/\j=L.length - e) L.length (TN L aA 0) (weak_mk ⟨_,rfl⟩ wA rfl rfl rfl wB) ⟨0,rfl,by omega,fun i j x hi=>by omega,rfl⟩ ?_;rintro j st ⟨e,rfl,he,hinv,rfl⟩;refine br (fun h=>?_) (fun h=>?_)
 ·have ap:e < L.length:=by simpa [hN] using h
  obtain ⟨s,hs⟩:∃ s,L[e]? = some s:=⟨_,gE ap⟩;obtain ⟨q,p,hq,hp⟩:=hT.all e s hs;have dp:=hT.fst q p e s hq hp hs;refine ⟨_,⟨by omega,eX hs⟩,?_⟩;refine call_p uG (find_spec L aA s q p hT (by omega) hq hp) ax rfl ?_;refine br (fun h2=>?_) (fun h2=>?_)
  ·have h2:p < e:=by simpa using h2
   refine ⟨(e:Int),rfl,⟨fun _ hnd=>?_,fun _=>by omega⟩⟩;rw [List.nodup_iff_pairwise_ne,List.pairwise_iff_getElem] at hnd;obtain ⟨h3,h4⟩:=List.getElem?_eq_some_iff.1 hp;obtain ⟨h5,h6⟩:=List.getElem?_eq_some_iff.1 hs;exact hnd p e h3 h5 h2 (by rw [h4,h6])
  ·have h2:¬ p < e:=by simpa using h2
   refine ⟨TN L aA (e + 1),(weak_mk ⟨_,rfl⟩ wA rfl rfl rfl (wNB ap)),L.length - (e + 1),by omega,e + 1,rfl,by omega,fun i j x hi hj hx hjx=>?_,rfl⟩;by_cases HB:i=e
   ·subst HB;rw [hs] at hx;simp only [oI] at hx;subst hx;have:=hT.fst q p j s hq hp hjx;omega
   ·exact hinv i j x (by omega) hj hx hjx
 ·have aO:e=L.length:=by
   have:¬ e < L.length:=by simpa [hN] using h
   omega
  subst aO;refine ⟨-1,rfl,⟨fun h3=>by omega,fun h3=>?_⟩⟩;exact absurd (L7 fun i j x tH hi hj=>hinv i j x (gS hi).1 tH hi hj) h3
def sameWds:List Wd->List Wd->Bool
 | [],[]=>true
 | x :: r,y :: s=>decide (x.s=y.s) && sameWds r s
 | _,_=>false
theorem sx:∀ {a b:List Wd},a.length≠b.length->sameWds a b=false
 | [],[],h=>(h rfl).elim
 | x :: r,y :: s,h=>by
  have:r.length≠s.length:=by simpa using h
  simp [sameWds,sx this]
 | [],y :: s,_=>rfl
 | x :: r,[],_=>rfl
abbrev zY (a b:List Wd) (e:Nat):St:=
 ⟨[(0,⟨[],.sl 2 (bu a) none⟩),(1,⟨[],.sl 2 (bu b) none⟩),(5,⟨[],.v (.int .i64 e)⟩)],[],[]⟩
theorem lF (a b:List Wd) (hs:a.length<=4611686018427387904) :
  EvP Tryz.prog 292 [.sl 2 (bu a) none,.sl 2 (bu b) none] (.v (.bool (sameWds a b))):=by
 refine ev_go (P:=Tryz.prog) tt tt_ok 5000 28 [.tmp 4] Tryz.func292 rfl Tryz.ntmps292 rfl (nL rfl) (fun E9 w9 hn9 hm9=>?_);refine br (fun h=>?_) (fun h=>?_)
 ·have aN:a.length≠b.length:=by have:=h;simp [aw] at this;omega
  exact congrArg (fun b=>DV.v (.bool b)) (sx aN).symm
 ·have hl:a.length=b.length:=by have:=h;simp [aw] at this;omega
  refine aq (fun j st=>∃ e:Nat,st=zY a b e/\e<=a.length/\sameWds a b=sameWds (a.drop e) (b.drop e)/\j=a.length - e) a.length
   (zY a b 0) (weak_mk ⟨_,rfl⟩ wA rfl rfl rfl wB) ⟨0,rfl,by omega,rfl,by omega⟩ ?_
  rintro j st ⟨e,rfl,he,aH,rfl⟩;refine br (fun h=>?_) (fun h=>?_)
  ·have ap:e < a.length:=by simpa [aw] using h
   obtain ⟨x,hx⟩:∃ x,a[e]? = some x:=⟨_,gE ap⟩;obtain ⟨y,hy⟩:∃ y,b[e]? = some y:=⟨_,gE (hl ▸ ap)⟩;rw [drop_cons hx,drop_cons hy] at aH;refine aE (fun _=>false) mo (by decide +kernel) ?_;refine ⟨jw x,⟨by omega,aK hx⟩,jw y,⟨by omega,aK hy⟩,?_⟩;refine br (fun h=>?_) (fun h=>?_)
   ·have aN:x.s≠y.s:=by simpa using h
    refine (congrArg (fun b=>DV.v (.bool b)) ?_:_=_);rw [aH];simp [sameWds,aN]
   ·have aN:x.s=y.s:=by simpa using h
    refine ⟨zY a b (e + 1),(weak_mk ⟨_,rfl⟩ wA rfl rfl rfl (wNB ap)),a.length - (e + 1),by omega,e + 1,rfl,by omega,?_,rfl⟩;rw [aH];simp [sameWds,aN]
  ·have aO:e=a.length:=by have:=h;simp [aw] at this;omega
   refine (congrArg (fun b=>DV.v (.bool b)) ?_:_=_);rw [aH,aO,hl];simp [sameWds];rw [<- hl];simp [sameWds]
def bA (p q:Ph):Bool:=(p.bare == q.bare) && decide (p.wide=q.wide) && sameWds p.label q.label && decide (p.ck=q.ck) && decide (p.cn=q.cn) && sameWds p.cl q.cl
theorem lG (p q:Ph) (tl tl':List DV) (hs:p.wt<=4611686018427387904) (ht:CcL [] 0 0 0 tl tl) (td:CcL [] 0 0 0 tl' tl') :
  EvP Tryz.prog 276 [.agg (ET p tl),.agg (ET q tl')] (.v (.bool (bA p q))):=by
 refine ev_go (P:=Tryz.prog) tt tt_ok 5000 51 [.tmp 4] Tryz.func276 rfl Tryz.ntmps276 rfl (nL rfl) (fun E9 w9 hn9 hm9=>?_);have h1:=bg p.label;have h2:=bg p.cl;simp only [Ph.wt] at hs;refine br (fun h=>?_) (fun h=>?_)
 ·refine call_p LV (lF p.label q.label (by omega)) ax rfl ?_;refine br (fun h2=>?_) (fun h2=>?_)
  ·refine call_p LV (lF p.cl q.cl (by omega)) ax rfl ?_;refine (congrArg (fun b=>DV.v (.bool b)) ?_:_=_);simp [pickB_and] at h h2;simp [bA,pickB_and,h,h2]
  ·refine (congrArg (fun b=>DV.v (.bool b)) ?_:_=_);simp [pickB_and] at h h2;simp [bA,pickB_and,h]
   grind
 ·refine (congrArg (fun b=>DV.v (.bool b)) ?_:_=_);simp [pickB_and] at h;simp [bA]
  grind
def kr (h k:Hd):Bool:=decide (h.ag=k.ag) && decide (h.lo=k.lo) && decide (h.hi=k.hi) && decide (h.most=k.most) && decide (h.name.s=k.name.s) && sameWds h.af k.af
mutual
def sameTy:Ty->Ty->Bool
 | .mk h ps,.mk k qs=>kr h k && samePts ps qs
def samePts:Pts->Pts->Bool
 | .nil,.nil=>true
 | .cons p t r,.cons q u s=>decide (p.name.s=q.name.s) && bA p q && sameTy t u && samePts r s
 | _,_=>false
end
theorem sy:∀ {a b:Pts},a.len≠b.len->samePts a b=false
 | .nil,.nil,h=>(h rfl).elim
 | .cons p t r,.cons q u s,h=>by
  have:r.len≠s.len:=by simpa [Pts.len] using h
  simp [samePts,sy this]
 | .nil,.cons _ _ _,_=>by simp [samePts]
 | .cons _ _ _,.nil,_=>by simp [samePts]
def iI (h:Hd):Hd:=
 ⟨h.ag,0,if h.ag=2 then h.lo else 0,if h.ag=2 then h.hi else 0,if h.ag=3∨h.ag=5 then h.most else 0,if h.ag=4 then h.af else [],if h.ag=9 then h.name else ⟨al,0⟩⟩
def mask:Ty->Ty
 | .mk h ps=>.mk (iI h) (if 4 < h.ag/\h.ag < 9 then ps else .nil)
theorem yt (bx:List (List DV)) (N n m:Nat) (t:Ty):CcL bx N n m (dK t) (dK t):=by
 obtain ⟨h,ps⟩:=t;simp only [dK,CcL,Cc]
 repeat' (first | exact rfl | exact trivial | exact Or.inr (Or.inl ⟨_,rfl⟩) | refine ⟨_,_,rfl,?_,?_⟩)
abbrev EZ (a b:Ty) (e:Nat):St:=
 ⟨[(2,⟨[],.loc 0 0⟩),(3,⟨[],.loc 1 0⟩),(5,⟨[],.v (.int .i64 e)⟩)],[dK a,dK b],[]⟩
theorem mD:∀ (n:Nat) (a b:Ty),a.wt<=n->a.wt<=4611686018427387904 ->
  EvP Tryz.prog 291 [.agg (dK a),.agg (dK b)] (.v (.bool (sameTy a b)))
 | 0,a,b,hn,_=>by have:=a.de;omega
 | n + 1,.mk h ps,.mk k qs,hn,b9=>by
  simp only [Ty.wt,Hd.wt] at hn b9;have hl:=bg h.af;have iE:=ps.fb;refine ev_go (P:=Tryz.prog) tt tt_ok 5000 98 [.tmp 4] Tryz.func291 rfl Tryz.ntmps291 rfl (nL rfl) (fun E9 w9 hn9 hm9=>?_);refine br (fun hA=>?_) (fun hA=>?_)
  ·simp [aj] at hA;obtain ⟨⟨⟨⟨e1,e2⟩,e3⟩,e4⟩,e5⟩:=hA;refine call_p LV (lF h.af k.af (by omega)) ax rfl ?_;refine br (fun hB=>?_) (fun hB=>?_)
   ·refine (congrArg (fun b=>DV.v (.bool b)) ?_:_=_);simp [aj,e1,e2,e3,e4,e5,aF] at hB;simp only [sameTy,kr];rcases hB with hB | hB
    ·simp [hB]
    ·have:ps.len≠qs.len:=by omega
     simp [sy this]
   ·simp [aj,e1,e2,e3,e4,e5,aF] at hB;obtain ⟨e6,e7⟩:=hB;have e8:ps.len=qs.len:=by omega
    have eh:sameTy (.mk h ps) (.mk k qs)=samePts ps qs:=by simp [sameTy,kr,e1,e2,e3,e4,e5,e6]
    refine aq (fun j st=>∃ e:Nat,st=EZ (.mk h ps) (.mk k qs) e/\e<=ps.len/\samePts ps qs=samePts (ps.drop e) (qs.drop e)/\j=ps.len - e) ps.len
     (EZ (.mk h ps) (.mk k qs) 0) (weak_mk ⟨_,rfl⟩ wA rfl rfl rfl wB) ⟨0,rfl,by omega,rfl,by omega⟩ ?_
    rintro j st ⟨e,rfl,he,aH,rfl⟩;refine br (fun hL=>?_) (fun hL=>?_)
    ·have ap:e < ps.len:=by simpa [aF] using hL
     obtain ⟨p,t,hx⟩:=Pts.ei ap;obtain ⟨q,u,hy⟩:=Pts.ei (e8 ▸ ap);rw [Pts.drop_cons hx,Pts.drop_cons hy] at aH;have Cm:=Pts.fI (mG hx);obtain ⟨t,ts⟩:=t;obtain ⟨u,us⟩:=u;apply nz (fun _=>false) 10 11 [0,1,2,3,4,5,6,7,8,9,10,11,12,13] [0,1,2,3,4,5,6,7,8,9,11,10,12,13] 2 3 mo (by decide +kernel)
     ·refine ⟨_,⟨by omega,bH hx⟩,_,⟨by omega,bH hy⟩,?_⟩;refine (?_:@Eq St _ _);exact rfl
     ·refine ⟨_,⟨by omega,bH hx⟩,_,⟨by omega,bH hy⟩,?_⟩;refine (⟨rfl,rfl,?_⟩:_/\_/\_)
      repeat' (first | exact trivial | refine ⟨rfl,?_⟩)
     ·rfl
     refine br (fun hC=>?_) (fun hC=>?_)
     ·have hC:p.name.s=q.name.s:=by simpa using hC
      refine call_p LR (lG p q (dK (.mk t ts)) (dK (.mk u us)) (by omega) (yt _ _ _ _ _) (yt _ _ _ _ _)) ax rfl ?_;refine br (fun hD=>?_) (fun hD=>?_)
      ·have hD:bA p q=true:=by simpa [aj,hC] using hD
       refine call_p mC (mD n (.mk t ts) (.mk u us) (by omega) (by omega)) ax rfl ?_;refine br (fun hE=>?_) (fun hE=>?_)
       ·refine (congrArg (fun b=>DV.v (.bool b)) ?_:_=_);rw [eh,aH];simp [aj,hC,hD] at hE;simp [samePts,hE]
       ·simp [aj,hC,hD] at hE;refine ⟨EZ (.mk h ps) (.mk k qs) (e + 1),(weak_mk ⟨_,rfl⟩ wA rfl rfl rfl (wNB ap)),ps.len - (e + 1),by omega,e + 1,rfl,by omega,?_,rfl⟩;rw [aH];simp [samePts,hC,hD,hE]
      ·have hD:bA p q=false:=by simpa [aj,hC] using hD
       refine (congrArg (fun b=>DV.v (.bool b)) ?_:_=_);rw [eh,aH];simp [samePts,hD]
     ·have hC:p.name.s≠q.name.s:=by simpa using hC
      refine (congrArg (fun b=>DV.v (.bool b)) ?_:_=_);rw [eh,aH];simp [samePts,hC]
    ·have aO:e=ps.len:=by have:=hL;simp [aF] at this;omega
     refine (congrArg (fun b=>DV.v (.bool b)) ?_:_=_);rw [eh,aH,aO,Pts.cQ,e8,Pts.cQ];simp [samePts]
  ·refine (congrArg (fun b=>DV.v (.bool b)) ?_:_=_);simp [aj] at hA;simp only [sameTy,kr]
   grind
theorem Cn (t:Ty) (b9:t.wt<=4611686018427387904) :
  EvP Tryz.prog 294 [.agg (dK t)] (.v (.bool (sameTy t bK))):=by
 obtain ⟨h,ps⟩:=t;refine ev_go (P:=Tryz.prog) tt tt_ok 5000 6 [.tmp 2] Tryz.func294 rfl Tryz.ntmps294 rfl (nL rfl) (fun E9 w9 hn9 hm9=>?_);refine call_p mC (mD _ (.mk h ps) bK (Nat.le_refl _) b9) ax rfl ?_;exact (rfl:_=_)
theorem E4 (t:Ty) (b9:t.wt<=4611686018427387904) :
  EvP Tryz.prog 274 [.agg (dK t)] (.v (.bool (sameTy t (mask t)))):=by
 obtain ⟨h,ps⟩:=t
 have key:∀ (h':Hd) (ps':Pts),iI h=h' -> (if 4 < h.ag/\h.ag < 9 then ps else .nil)=ps' ->
   EvP Tryz.prog 291 [.agg (dK (.mk h ps)),.agg (dK (.mk h' ps'))] (.v (.bool (sameTy (.mk h ps) (mask (.mk h ps))))):=by
  rintro h' ps' rfl rfl;exact mD _ (.mk h ps) _ (Nat.le_refl _) b9
 obtain ⟨ag,aC,lo,hi,most,af,name⟩:=h;by_cases hr:2<=ag/\ag<=9
 ·obtain hk | hk | hk | hk | hk | hk | hk | hk:ag=2∨ag=3∨ag=4∨ag=5∨ag=6∨ag=7∨ag=8∨ag=9:=by omega
  ·subst hk;refine ev_go (P:=Tryz.prog) tt tt_ok 5000 53 [.tmp 2] Tryz.func274 rfl Tryz.ntmps274 rfl (nL rfl) (fun E9 w9 hn9 hm9=>?_);refine call_p mC (key ⟨2,0,lo,hi,0,[],⟨al,0⟩⟩ .nil (by simp [iI]) (by simp)) ax rfl ?_;exact (rfl:_=_)
  ·subst hk;refine ev_go (P:=Tryz.prog) tt tt_ok 5000 53 [.tmp 2] Tryz.func274 rfl Tryz.ntmps274 rfl (nL rfl) (fun E9 w9 hn9 hm9=>?_);refine call_p mC (key ⟨3,0,0,0,most,[],⟨al,0⟩⟩ .nil (by simp [iI]) (by simp)) ax rfl ?_;exact (rfl:_=_)
  ·subst hk;refine ev_go (P:=Tryz.prog) tt tt_ok 5000 53 [.tmp 2] Tryz.func274 rfl Tryz.ntmps274 rfl (nL rfl) (fun E9 w9 hn9 hm9=>?_);refine call_p mC (key ⟨4,0,0,0,0,af,⟨al,0⟩⟩ .nil (by simp [iI]) (by simp)) ax rfl ?_;exact (rfl:_=_)
  ·subst hk;refine ev_go (P:=Tryz.prog) tt tt_ok 5000 53 [.tmp 2] Tryz.func274 rfl Tryz.ntmps274 rfl (nL rfl) (fun E9 w9 hn9 hm9=>?_);refine call_p mC (key ⟨5,0,0,0,most,[],⟨al,0⟩⟩ ps (by simp [iI]) (by simp)) ax rfl ?_;exact (rfl:_=_)
  ·subst hk;refine ev_go (P:=Tryz.prog) tt tt_ok 5000 53 [.tmp 2] Tryz.func274 rfl Tryz.ntmps274 rfl (nL rfl) (fun E9 w9 hn9 hm9=>?_);refine call_p mC (key ⟨6,0,0,0,0,[],⟨al,0⟩⟩ ps (by simp [iI]) (by simp)) ax rfl ?_;exact (rfl:_=_)
  ·subst hk;refine ev_go (P:=Tryz.prog) tt tt_ok 5000 53 [.tmp 2] Tryz.func274 rfl Tryz.ntmps274 rfl (nL rfl) (fun E9 w9 hn9 hm9=>?_);refine call_p mC (key ⟨7,0,0,0,0,[],⟨al,0⟩⟩ ps (by simp [iI]) (by simp)) ax rfl ?_;exact (rfl:_=_)
  ·subst hk;refine ev_go (P:=Tryz.prog) tt tt_ok 5000 53 [.tmp 2] Tryz.func274 rfl Tryz.ntmps274 rfl (nL rfl) (fun E9 w9 hn9 hm9=>?_);refine call_p mC (key ⟨8,0,0,0,0,[],⟨al,0⟩⟩ ps (by simp [iI]) (by simp)) ax rfl ?_;exact (rfl:_=_)
  ·subst hk;refine ev_go (P:=Tryz.prog) tt tt_ok 5000 53 [.tmp 2] Tryz.func274 rfl Tryz.ntmps274 rfl (nL rfl) (fun E9 w9 hn9 hm9=>?_);refine call_p mC (key ⟨9,0,0,0,0,[],name⟩ .nil (by simp [iI]) (by simp)) ax rfl ?_;exact (rfl:_=_)
 ·refine ev_go (P:=Tryz.prog) tt tt_ok 5000 53 [.tmp 2] Tryz.func274 rfl Tryz.ntmps274 rfl (nL rfl) (fun E9 w9 hn9 hm9=>?_);refine br (fun c=>?_) (fun c1=>?_)
  ·have:ag=2:=of_decide_eq_true c;omega
  refine br (fun c=>?_) (fun c2=>?_)
  ·simp [aj] at c;omega
  refine br (fun c=>?_) (fun c3=>?_)
  ·have:ag=4:=of_decide_eq_true c;omega
  refine br (fun c=>?_) (fun c4=>?_)
  ·simp [pickB_and] at c;omega
  refine br (fun c=>?_) (fun c5=>?_)
  ·have:ag=9:=of_decide_eq_true c;omega
  have e1:¬ ag=2:=of_decide_eq_false c1;have e3:¬ ag=4:=of_decide_eq_false c3;have e5:¬ ag=9:=of_decide_eq_false c5;simp [aj,pickB_and] at c2 c4;refine call_p mC (key ⟨ag,0,0,0,0,[],⟨al,0⟩⟩ .nil (by simp [iI,e1,c2,e3,e5]) (by simp;omega)) ax rfl ?_;exact (rfl:_=_)
abbrev Ft:Type:=Int × Int
def Ft.d (f:Ft):DV:=.agg [.v (.int .i64 f.1),.v (.int .i64 f.2)]
def badWd:List Wd->Ft
 | []=>(0,0)
 | w :: r=>if aY w.s then badWd r else (9,w.a)
def bB (l:List Wd):Ft:=
 if l.length<=32 then badWd l else (8,((l[32]?).getD (⟨al,0⟩:Wd)).a)
abbrev zZ (l:List Wd) (e:Nat):St:=
 ⟨[(0,⟨[],.sl 2 (bu l) none⟩),(2,⟨[],.loc 0 0⟩),(3,⟨[],.v (.int .i64 e)⟩)],[[.v (.int .i64 0),.v (.int .i64 0)]],[]⟩
theorem lH (l:List Wd) (hs:wdsWt l<=4611686018427387904) :
  EvP Tryz.prog 272 [.sl 2 (bu l) none] (bB l).d:=by
 have mb:=bg l;refine ev_go (P:=Tryz.prog) tt tt_ok 5000 32 [.cell 2 54] Tryz.func272 rfl Tryz.ntmps272 rfl (nL rfl) (fun E9 w9 hn9 hm9=>?_);refine br (fun h=>?_) (fun h=>?_)
 ·have ap:32 < l.length:=by simp [aw] at h;omega
  obtain ⟨x,hx⟩:∃ x,l[32]? = some x:=⟨_,gE ap⟩;have:bB l=(8,x.a):=by simp [bB,Nat.not_le.2 ap,hx]
  refine ⟨jw x,⟨by omega,aK hx⟩,_,?_,rfl⟩;rw [this];exact ax
 ·have fQ:l.length<=32:=by simp [aw] at h;omega
  refine aq (fun j st=>∃ e:Nat,st=zZ l e/\e<=l.length/\badWd l=badWd (l.drop e)/\j=l.length - e) l.length
   (zZ l 0) (weak_mk ⟨_,rfl⟩ wA rfl rfl rfl wB) ⟨0,rfl,by omega,rfl,by omega⟩ ?_
  rintro j st ⟨e,rfl,he,aH,rfl⟩;refine br (fun hL=>?_) (fun hL=>?_)
  ·have ap:e < l.length:=by simpa [aw] using hL
   obtain ⟨x,hx⟩:∃ x,l[e]? = some x:=⟨_,gE ap⟩;rw [drop_cons hx] at aH;have oA:=gX (mG hx);refine ⟨jw x,⟨by omega,aK hx⟩,?_⟩;refine call_p Hz (j4 x.s (by omega)) ax rfl ?_;refine br (fun hN=>?_) (fun hN=>?_)
   ·have hN:aY x.s=false:=by simpa using hN
    have:bB l=(9,x.a):=by simp [bB,fQ,aH,badWd,hN]
    refine ⟨jw x,⟨by omega,aK hx⟩,_,?_,rfl⟩;rw [this];exact ax
   ·have hN:aY x.s=true:=by simpa using hN
    refine ⟨zZ l (e + 1),(weak_mk ⟨_,rfl⟩ wA rfl rfl rfl (wNB ap)),l.length - (e + 1),by omega,e + 1,rfl,by omega,?_,rfl⟩;rw [aH];simp [badWd,hN]
  ·have aO:e=l.length:=by simp [aw] at hL;omega
   have:bB l=(0,0):=by simp [bB,fQ,aH,aO,badWd]
   refine ⟨_,?_,rfl⟩;rw [this];exact ax
def bz (l:List Wd) (s:ByteArray):Bool:=l.any fun w=>decide (w.s=s)
def aD (l:List Wd) (i:Nat) (x:Wd):Int:=
 if aY x.s then (if bz (l.take i) x.s then 10 else 0) else 9
abbrev uP (l:List Wd) (i e:Nat):St:=
 ⟨[(0,⟨[],.sl 2 (bu l) none⟩),(1,⟨[],.v (.int .i64 i)⟩),(5,⟨[],.v (.int .i64 e)⟩)],[],[]⟩
theorem od (l:List Wd) (i:Nat) (x:Wd) (hs:wdsWt l<=4611686018427387904) (hx:l[i]? = some x) :
  EvP Tryz.prog 275 [.sl 2 (bu l) none,.v (.int .i64 i)] (.v (.int .i64 (aD l i x))):=by
 have mb:=bg l;have hi:=(gS hx).1;have oA:=gX (mG hx);refine ev_go (P:=Tryz.prog) tt tt_ok 5000 29 [.tmp 4] Tryz.func275 rfl Tryz.ntmps275 rfl (nL rfl) (fun E9 w9 hn9 hm9=>?_);refine ⟨jw x,⟨by omega,aK hx⟩,?_⟩;refine call_p Hz (j4 x.s (by omega)) ax rfl ?_;refine br (fun hN=>?_) (fun hN=>?_)
 ·have hN:aY x.s=false:=by simpa using hN
  refine (congrArg (fun z=>DV.v (.int .i64 z)) ?_:_=_);simp [aD,hN]
 ·have hN:aY x.s=true:=by simpa using hN
  refine aq (fun j st=>∃ e:Nat,st=uP l i e/\e<=i/\bz (l.take e) x.s=false/\j=i - e) i
   (uP l i 0) (weak_mk ⟨_,rfl⟩ wA rfl rfl rfl wB) ⟨0,rfl,by omega,rfl,by omega⟩ ?_
  rintro j st ⟨e,rfl,he,aH,rfl⟩;refine br (fun hL=>?_) (fun hL=>?_)
  ·have ap:e < i:=by simpa using hL
   obtain ⟨y,hy⟩:∃ y,l[e]? = some y:=⟨_,gE (by omega)⟩;refine aE (fun _=>false) mo (by decide +kernel) ?_;refine ⟨jw y,⟨by omega,aK hy⟩,jw x,⟨by omega,aK hx⟩,?_⟩;refine br (fun hE=>?_) (fun hE=>?_)
   ·have hE:y.s=x.s:=by simpa using hE
    refine (congrArg (fun z=>DV.v (.int .i64 z)) ?_:_=_)
    have:bz (l.take i) x.s=true:=by
     simp only [bz,List.any_eq_true];exact ⟨y,List.mem_take_iff_getElem.2 ⟨e,by omega,(gS hy).2⟩,by simpa using hE⟩
    simp [aD,hN,this]
   ·have hE:¬ y.s=x.s:=by simpa using hE
    refine ⟨uP l i (e + 1),(weak_mk ⟨_,rfl⟩ wA rfl rfl rfl (wNB ap)),i - (e + 1),by omega,e + 1,rfl,by omega,?_,rfl⟩;rw [List.take_add_one,hy];simp only [bz,List.any_append] at aH ⊢;simp [aH,hE]
  ·have aO:e=i:=by have:=of_decide_eq_false hL;omega
   refine (congrArg (fun z=>DV.v (.int .i64 z)) ?_:_=_);subst aO;simp [aD,hN,aH]
def pNames:Pts->List Wd
 | .nil=>[]
 | .cons p _ r=>p.name :: pNames r
theorem fJ:∀ ps:Pts,(pNames ps).length=ps.len
 | .nil=>rfl
 | .cons p t r=>by simp [pNames,Pts.len,fJ r]
theorem fK:∀ {ps:Pts} {j:Nat} {p:Ph} {t:Ty},ps.toList[j]? = some (p,t)->(pNames ps)[j]? = some p.name
 | .nil,j,p,t,h=>by simp [Pts.toList] at h
 | .cons q u r,0,p,t,h=>by
  simp only [Pts.toList,List.getElem?_cons_zero,oI,Prod.mk.injEq] at h;obtain ⟨rfl,rfl⟩:=h;simp [pNames]
 | .cons q u r,j + 1,p,t,h=>by
  simp only [Pts.toList,List.getElem?_cons_succ] at h;simp only [pNames,List.getElem?_cons_succ];exact fK h
theorem ri:∀ ps:Pts,wdsWt (pNames ps)<=ps.wt
 | .nil=>Nat.le_refl _
 | .cons p t r=>by
  have:=ri r;simp only [pNames,wdsWt,Pts.wt,Ph.wt] at this ⊢;omega
abbrev z6 (ps:Pts) (l:List Wd) (n e:Nat):St:=
 ⟨[(0,⟨[],.sl 18 (fc ps) none⟩),(3,⟨[],.sl 2 (bu l) (some 0)⟩),(4,⟨[],.v (.int .i64 e)⟩)],[],[⟨n,38,2,none⟩]⟩
theorem z7 (ps:Pts) (hs:ps.wt<=1099511627776):EvP Tryz.prog 293 [.sl 18 (fc ps) none] (.sl 2 (bu (pNames ps)) none):=by
 have iE:=ps.fb;refine ev_go (P:=Tryz.prog) tt tt_ok 5000 20 [.tmp 2] Tryz.func293 rfl Tryz.ntmps293 rfl (nL rfl) (fun E9 w9 hn9 hm9=>?_)
 refine aq (fun j st=>∃ (e:Nat),st=z6 ps ((pNames ps).take e) e e/\e<=ps.len/\j=ps.len - e) ps.len
  (z6 ps [] 0 0) (fk ⟨0,38,2,none⟩ rfl ⟨_,rfl⟩ rfl wA rfl rfl zS) ⟨0,by simp,by omega,by omega⟩ ?_
 rintro j st ⟨e,rfl,he,rfl⟩;refine br (fun hL=>?_) (fun hL=>?_)
 ·have ap:e < ps.len:=by simpa [aF] using hL
  obtain ⟨p,t,hx⟩:=Pts.ei ap;refine ⟨_,⟨by omega,bH hx⟩,?_⟩;refine ⟨by simp [aw,fJ];omega,⟨by simp [aw,fJ,maxLen];omega,by simp [aw,fJ];omega⟩,?_⟩;refine ⟨z6 ps ((pNames ps).take (e + 1)) (e + 1) (e + 1),(weak_mk ⟨_,rfl⟩ wA rfl rfl rfl (by repeat' (first | exact trivial | exact ah rfl | exact ak (cx ap (by omega)) | exact cP (yo (fK hx)) rfl | refine ⟨⟨_,rfl,?_⟩,?_⟩))),ps.len - (e + 1),by omega,e + 1,rfl,by omega,rfl⟩
 ·have aO:e=ps.len:=by simp [aF] at hL;omega
  rw [aO,List.take_of_length_le (by rw [fJ];omega)];exact ⟨_,ax,rfl⟩
mutual
def Ty.cnt:Ty->Nat
 | .mk _ ps=>1 + ps.cnt
def Pts.cnt:Pts->Nat
 | .nil=>0
 | .cons p t r=>(if p.bare then 0 else t.cnt) + r.cnt
end
mutual
def Ty.deep:Ty->Nat
 | .mk _ ps=>ps.deep + 1
def Pts.deep:Pts->Nat
 | .nil=>0
 | .cons p t r=>max (if p.bare then 0 else t.deep) r.deep
end
mutual
theorem Ty.ej:∀ t:Ty,t.cnt<=t.wt
 | .mk h ps=>by have:=Pts.ej ps;simp only [Ty.cnt,Ty.wt,Hd.wt];omega
theorem Pts.ej:∀ ps:Pts,ps.cnt<=ps.wt
 | .nil=>Nat.le_refl _
 | .cons p t r=>by
  have:=Ty.ej t;have:=Pts.ej r;simp only [Pts.cnt,Pts.wt];split<;>omega
end
mutual
theorem Ty.nD:∀ t:Ty,t.deep<=t.wt
 | .mk h ps=>by have:=Pts.nD ps;simp only [Ty.deep,Ty.wt,Hd.wt];omega
theorem Pts.nD:∀ ps:Pts,ps.deep<=ps.wt
 | .nil=>Nat.le_refl _
 | .cons p t r=>by
  have:=Ty.nD t;have:=Pts.nD r;simp only [Pts.deep,Pts.wt];split<;>omega
end
abbrev uQ (t:Ty) (e n d:Nat):St:=
 ⟨[(1,⟨[],.loc 0 0⟩),(4,⟨[],.v (.int .i64 n)⟩),(5,⟨[],.v (.int .i64 d)⟩),(6,⟨[],.v (.int .i64 e)⟩)],[dK t],[]⟩
theorem j5:∀ (k:Nat) (t:Ty),t.wt<=k->t.wt<=1099511627776 ->
  EvP Tryz.prog 42 [.agg (dK t)] (.tup [.v (.int .i64 t.cnt),.v (.int .i64 t.deep)])
 | 0,t,hn,_=>by have:=t.de;omega
 | k + 1,.mk h ps,hn,b9=>by
  simp only [Ty.wt,Hd.wt] at hn b9;have iE:=ps.fb;have hc:=ps.ej;have Yu:=ps.nD;refine ev_go (P:=Tryz.prog) tt tt_ok 5000 42 [.tmp 2,.tmp 3] Tryz.func42 rfl Tryz.ntmps42 rfl (nL rfl) (fun E9 w9 hn9 hm9=>?_)
  refine aq (fun j st=>∃ (e n d:Nat),st=uQ (.mk h ps) e n d/\e<=ps.len/\n + (ps.drop e).cnt=1 + ps.cnt/\max d (ps.drop e).deep=ps.deep/\j=ps.len - e) ps.len
   (uQ (.mk h ps) 0 1 0) (weak_mk ⟨_,rfl⟩ wA rfl rfl rfl wB) ⟨0,1,0,rfl,by omega,rfl,by simp [Pts.drop],by omega⟩ ?_
  rintro j st ⟨e,n,d,rfl,he,aN,Vx,rfl⟩;refine br (fun hL=>?_) (fun hL=>?_)
  ·have ap:e < ps.len:=by simpa [aF] using hL
   obtain ⟨p,t,hx⟩:=Pts.ei ap;have Cm:=Pts.fI (mG hx);rw [Pts.drop_cons hx] at aN Vx;simp only [Pts.cnt,Pts.deep] at aN Vx;have hct:=t.ej;have hdt:=t.nD;refine ⟨_,⟨by omega,bH hx⟩,?_⟩;refine br (fun hB=>?_) (fun hB=>?_)
   ·rw [if_pos hB] at aN Vx;exact ⟨uQ (.mk h ps) (e + 1) n d,(weak_mk ⟨_,rfl⟩ wA rfl rfl rfl (wNB ap)),ps.len - (e + 1),by omega,e + 1,n,d,rfl,by omega,by omega,by omega,rfl⟩
   ·rw [if_neg (by simp [hB])] at aN Vx;obtain ⟨u,us⟩:=t;refine ⟨_,⟨by omega,bH hx⟩,?_⟩;refine call_p PI (j5 k (.mk u us) (by omega) (by omega)) ax rfl ?_;have sA:IntKind.i64.wrap ((n:Int) + (Ty.mk u us).cnt)=((n + (Ty.mk u us).cnt:Nat):Int):=by rw [wrap64 (by omega) (by omega)];omega
    refine br (fun hD=>?_) (fun hD=>?_)
    ·have hD:d < (Ty.mk u us).deep:=by simpa using hD
     exact ⟨uQ (.mk h ps) (e + 1) (n + (Ty.mk u us).cnt) (Ty.mk u us).deep,(weak_mk ⟨_,rfl⟩ wA rfl rfl rfl (by repeat' (first | exact trivial | exact ah rfl | exact ak sA | exact ak (cx ap (by omega)) | refine ⟨⟨_,rfl,?_⟩,?_⟩))),ps.len - (e + 1),by omega,e + 1,_,_,rfl,by omega,by omega,by omega,rfl⟩
    ·have hD:¬ d < (Ty.mk u us).deep:=by simpa using hD
     exact ⟨uQ (.mk h ps) (e + 1) (n + (Ty.mk u us).cnt) d,(weak_mk ⟨_,rfl⟩ wA rfl rfl rfl (by repeat' (first | exact trivial | exact ah rfl | exact ak sA | exact ak (cx ap (by omega)) | refine ⟨⟨_,rfl,?_⟩,?_⟩))),ps.len - (e + 1),by omega,e + 1,_,_,rfl,by omega,by omega,by omega,rfl⟩
  ·have aO:e=ps.len:=by simp [aF] at hL;omega
   rw [aO,Pts.cQ] at aN Vx;simp only [Pts.cnt,Pts.deep] at aN Vx;have e1:IntKind.i64.wrap ((d:Int) + 1)=((Ty.mk h ps).deep:Int):=by rw [wrap64 (by omega) (by omega)];simp only [Ty.deep];omega
   have e2:(n:Int)=((Ty.mk h ps).cnt:Int):=by simp only [Ty.cnt];omega
   refine ⟨_,?_,rfl⟩;rw [<- e1,<- e2];exact ax
def wD (f:Ft) (n:Int):DV:=.agg [.v (.int .i64 f.1),.v (.int .i64 f.2),.v (.int .i64 n)]
theorem dX (f:Ft) (n e a:Int):EvP Tryz.prog 273 [wD f n,.v (.int .i64 e),.v (.int .i64 a)] (wD (e,a) n):=by
 refine ev_go (P:=Tryz.prog) tt tt_ok 5000 13 [.cell 6 320] Tryz.func273 rfl Tryz.ntmps273 rfl (nL rfl) (fun E9 w9 hn9 hm9=>?_);exact ⟨_,ax,rfl⟩
def aS (p:Ph):Ft:=
 if p.ck=0 then (if p.cn=0/\p.cl=[] then (0,0) else (19,p.name.a))
 else if p.ck < 0∨3 < p.ck then (14,p.ca)
 else if (p.ck=1/\p.cn < 1)∨(p.ck=2/\(p.cn < 0∨4096 < p.cn))∨(p.ck=3/\p.cn≠0) then (20,p.ca)
 else bB p.cl
theorem xF (p:Ph) (tl:List DV) (hs:p.wt<=4611686018427387904) :
  EvP Tryz.prog 295 [.agg (ET p tl)] (aS p).d:=by
 simp only [Ph.wt] at hs;refine ev_go (P:=Tryz.prog) tt tt_ok 5000 73 [.cell 2 54] Tryz.func295 rfl Tryz.ntmps295 rfl (nL rfl) (fun E9 w9 hn9 hm9=>?_);refine br (fun h0=>?_) (fun h0=>?_)
 ·have h0:p.ck=0:=by simpa using h0
  refine br (fun h1=>?_) (fun h1=>?_)
  ·have:aS p=(19,p.name.a):=by
    simp [aj,aw] at h1;simp only [aS,h0,if_true];rw [if_neg];rintro ⟨h2,h3⟩;rcases h1 with h1 | h1
    ·exact h1 h2
    ·simp [h3] at h1
   refine ⟨_,?_,rfl⟩;rw [this];exact ax
  ·have:aS p=(0,0):=by
    simp [aj,aw] at h1;simp [aS,h0,h1.1,h1.2]
   refine ⟨_,?_,rfl⟩;rw [this];exact ax
 ·have h0:¬ p.ck=0:=by simpa using h0
  refine br (fun h1=>?_) (fun h1=>?_)
  ·have:aS p=(14,p.ca):=by
    simp [aj] at h1;simp [aS,h0,h1]
   refine ⟨_,?_,rfl⟩;rw [this];exact ax
  ·simp [aj] at h1;refine br (fun h2=>?_) (fun h2=>?_)
   ·have:aS p=(20,p.ca):=by
     simp [aj,pickB_and] at h2;simp only [aS,h0,if_false];rw [if_neg (by omega),if_pos (by omega)]
    refine ⟨_,?_,rfl⟩;rw [this];exact ax
   ·have hc:aS p=bB p.cl:=by
     simp [aj,pickB_and] at h2;simp only [aS,h0,if_false];rw [if_neg (by omega),if_neg (by omega)]
    refine call_p LQ (lH p.cl (by omega)) ax rfl ?_;refine ⟨_,?_,rfl⟩;rw [hc];exact ax
def enumL (all:List Wd):Nat->List Wd->Ft
 | _,[]=>(0,0)
 | i,x :: r=>if aD all i x≠0 then (aD all i x,x.a) else enumL all (i + 1) r
def gZ (h:Hd):Ft:=
 if h.af=[] then (15,h.aC)
 else if 64 < h.af.length then (8,((h.af[64]?).getD (⟨al,0⟩:Wd)).a)
 else enumL h.af 0 h.af
def dr (p:Ph):Ft:=
 if p.wide < 0∨64 < p.wide then (20,p.name.a)
 else if (bB p.label).1≠0 then bB p.label
 else aS p
def tu (t:Ty):Bool:=sameTy t (mask t)
mutual
def wrong:Ty->Int->Int->Ft × Int
 | .mk h ps,depth,m=>
  if 24 < depth then ((6,h.aC),m + 1)
  else if 512 < m + 1 then ((8,h.aC),m + 1)
  else if h.ag < 1∨9 < h.ag then ((14,h.aC),m + 1)
  else if tu (.mk h ps)=false then ((19,h.aC),m + 1)
  else if (h.ag=2/\h.hi < h.lo)∨(h.ag=3/\(h.most < 0∨4096 < h.most)) then ((20,h.aC),m + 1)
  else if h.ag=9/\aY h.name.s=false then ((9,h.name.a),m + 1)
  else if h.ag=4 then (gZ h,m + 1)
  else if h.ag=5∨h.ag=6 then wrongOne h ps depth (m + 1)
  else if h.ag=7∨h.ag=8 then
   if h.ag=8/\ps.len=0 then ((15,h.aC),m + 1)
   else if 64 < ps.len then ((8,(((pNames ps)[64]?).getD (⟨al,0⟩:Wd)).a),m + 1)
   else wrongPts h.ag (pNames ps) 0 ps depth (m + 1)
  else ((0,0),m + 1)
def wrongOne:Hd->Pts->Int->Int->Ft × Int
 | h,.cons p t .nil,depth,m=>
  if p.name.s≠al∨bA p eC=false then ((19,h.aC),m)
  else if h.most < 0∨1024 < h.most then ((20,h.aC),m)
  else wrong t (depth + 1) m
 | h,_,_,m=>((19,h.aC),m)
def wrongPts (ag:Int) (all:List Wd):Nat->Pts->Int->Int->Ft × Int
 | _,.nil,_,m=>((0,0),m)
 | i,.cons p t r,depth,m=>
  if aD all i p.name≠0 then ((aD all i p.name,p.name.a),m)
  else if p.bare=true then
   if ag=7∨sameTy t bK=false∨bA p eP=false then ((19,p.name.a),m) else wrongPts ag all (i + 1) r depth m
  else if (dr p).1≠0 then (dr p,m)
  else if (wrong t (depth + 1) m).1.1≠0 then wrong t (depth + 1) m
  else wrongPts ag all (i + 1) r depth (wrong t (depth + 1) m).2
end
def z8 (k:Nat):Prop:=∀ (t:Ty) (depth m:Int),t.wt<=k->t.wt<=1099511627776->0<=depth->depth<=25->0<=m->m<=512 ->
 EvP Tryz.prog 233 [wD (0,0) m,.agg (dK t),.v (.int .i64 depth)] (wD (wrong t depth m).1 (wrong t depth m).2)
abbrev tJ (t:Ty) (e:Nat) (depth m:Int):St:=
 ⟨[(2,⟨[],.v (.int .i64 depth)⟩),(3,⟨[],.loc 0 0⟩),(4,⟨[],.loc 1 0⟩),(6,⟨[],.loc 2 0⟩),(7,⟨[],.v (.int .i64 e)⟩)],[[.v (.int .i64 0),.v (.int .i64 0),.v (.int .i64 m)],dK t,[.v (.int .i64 0),.v (.int .i64 0),.v (.int .i64 0)]],[]⟩
def eD (h:Hd) (ps:Pts) (depth m:Int):Ft × Int:=
 if h.ag=8/\ps.len=0 then ((15,h.aC),m)
 else if 64 < ps.len then ((8,(((pNames ps)[64]?).getD (⟨al,0⟩:Wd)).a),m)
 else wrongPts h.ag (pNames ps) 0 ps depth m
theorem Co (all:List Wd):∀ (l:List Wd) (i:Nat),(enumL all i l).1=0->enumL all i l=(0,0)
 | [],_,_=>rfl
 | x :: r,i,h=>by
  have ih:=Co all r (i + 1);simp only [enumL] at h ⊢;split at h
  ·rename_i hc;exact (hc h).elim
  ·rename_i hc;rw [if_neg hc];exact ih h
theorem yu (h:Hd) (he:(gZ h).1=0):gZ h=(0,0):=by
 unfold gZ at he ⊢;split at he
 ·simp at he
 ·split at he
  ·simp at he
  ·rename_i h1 h2;rw [if_neg h1,if_neg h2];exact Co _ _ _ he
mutual
theorem pK:∀ (t:Ty) (depth m:Int),0<=m->(wrong t depth m).1.1=0->(wrong t depth m).1=(0,0)/\0<=(wrong t depth m).2/\(wrong t depth m).2<=512
 | .mk h ps,depth,m,hm,he=>by
  have i1:=Cp h ps depth (m + 1) (by omega);have i2:=mE h.ag (pNames ps) ps 0 depth (m + 1) (by omega);have i3:=yu h;simp only [wrong] at he ⊢;by_cases c0:24 < depth
  ·rw [if_pos c0] at he;simp at he
  rw [if_neg c0] at he ⊢;by_cases c1:512 < m + 1
  ·rw [if_pos c1] at he;simp at he
  rw [if_neg c1] at he ⊢;by_cases c2:h.ag < 1∨9 < h.ag
  ·rw [if_pos c2] at he;simp at he
  rw [if_neg c2] at he ⊢;by_cases c3:tu (.mk h ps)=false
  ·rw [if_pos c3] at he;simp at he
  rw [if_neg c3] at he ⊢;by_cases c4:(h.ag=2/\h.hi < h.lo)∨(h.ag=3/\(h.most < 0∨4096 < h.most))
  ·rw [if_pos c4] at he;simp at he
  rw [if_neg c4] at he ⊢;by_cases c5:h.ag=9/\aY h.name.s=false
  ·rw [if_pos c5] at he;simp at he
  rw [if_neg c5] at he ⊢;by_cases k4:h.ag=4
  ·rw [if_pos k4] at he ⊢;exact ⟨i3 he,by simp only;omega,by simp only;omega⟩
  rw [if_neg k4] at he ⊢;by_cases k5:h.ag=5∨h.ag=6
  ·rw [if_pos k5] at he ⊢;exact i1 (by omega) he
  rw [if_neg k5] at he ⊢;by_cases k7:h.ag=7∨h.ag=8
  ·rw [if_pos k7] at he ⊢;by_cases k8:h.ag=8/\ps.len=0
   ·rw [if_pos k8] at he;simp at he
   rw [if_neg k8] at he ⊢;by_cases k9:64 < ps.len
   ·rw [if_pos k9] at he;simp at he
   rw [if_neg k9] at he ⊢;exact i2 (by omega) he
  ·rw [if_neg k7];exact ⟨rfl,by simp only;omega,by simp only;omega⟩
theorem Cp:∀ (h:Hd) (ps:Pts) (depth m:Int),0<=m->m<=512->(wrongOne h ps depth m).1.1=0->(wrongOne h ps depth m).1=(0,0)/\0<=(wrongOne h ps depth m).2/\(wrongOne h ps depth m).2<=512
 | h,.nil,depth,m,hm,_,he=>by simp [wrongOne] at he
 | h,.cons p t .nil,depth,m,hm,h5,he=>by
  have ih:=pK t (depth + 1) m hm;simp only [wrongOne] at he ⊢;split at he
  ·simp at he
  ·split at he
   ·simp at he
   ·rename_i h1 h2;rw [if_neg h1,if_neg h2];exact ih he
 | h,.cons p t (.cons _ _ _),depth,m,hm,_,he=>by simp [wrongOne] at he
theorem mE (ag:Int) (all:List Wd):∀ (ps:Pts) (i:Nat) (depth m:Int),0<=m->m<=512->(wrongPts ag all i ps depth m).1.1=0->(wrongPts ag all i ps depth m).1=(0,0)/\0<=(wrongPts ag all i ps depth m).2/\(wrongPts ag all i ps depth m).2<=512
 | .nil,i,depth,m,hm,h5,he=>by simp only [wrongPts];exact ⟨trivial,hm,h5⟩
 | .cons p t r,i,depth,m,hm,h5,he=>by
  have i1:=pK t (depth + 1) m hm;simp only [wrongPts] at he ⊢;split at he
  ·rename_i h1;exact (h1 he).elim
  ·rename_i h1;rw [if_neg h1];split at he
   ·rename_i h2;rw [if_pos h2];split at he
    ·simp at he
    ·rename_i h3;rw [if_neg h3];exact mE ag all r (i + 1) depth m hm h5 he
   ·rename_i h2;rw [if_neg h2];split at he
    ·rename_i h3;exact (h3 he).elim
    ·rename_i h3;rw [if_neg h3];split at he
     ·rename_i h4;exact (h4 he).elim
     ·rename_i h4;rw [if_neg h4];have i2:=i1 (by simpa using h4);exact mE ag all r (i + 1) depth _ i2.2.1 i2.2.2 he
end
theorem Aa (k:Nat) (ih:z8 k) (h:Hd) (ps:Pts) (depth m:Int) (hk:ps.wt<=k) (b9:(Ty.mk h ps).wt<=1099511627776) (yp:0<=depth) (Ep:depth<=24) (jX:0<=m) (fD:m<=512) :
  EvP Tryz.prog 277 [wD (0,0) m,.agg (dK (.mk h ps)),.v (.int .i64 depth)] (wD (eD h ps depth m).1 (eD h ps depth m).2):=by
 simp only [Ty.wt,Hd.wt] at b9;have iE:=ps.fb;have TO:=ri ps;refine ev_go (P:=Tryz.prog) tt tt_ok 5000 126 [.cell 6 320] Tryz.func277 rfl Tryz.ntmps277 rfl (nL rfl) (fun E9 w9 hn9 hm9=>?_);refine br (fun c1=>?_) (fun c1=>?_)
 ·refine call_p fW (dX (0,0) m 15 h.aC) ax rfl ?_
  have:eD h ps depth m=((15,h.aC),m):=by
   simp [pickB_and,aF] at c1;have:ps.len=0:=by omega
   simp [eD,c1.1,this]
  refine ⟨_,?_,rfl⟩;rw [this];exact ax
 ·have c1':¬ (h.ag=8/\ps.len=0):=by
   simp [pickB_and,aF] at c1;omega
  refine br (fun c2=>?_) (fun c2=>?_)
  ·have ap:64 < ps.len:=by simp [aF] at c2;omega
   obtain ⟨p,t,hx⟩:=Pts.ei ap;refine aE (fun i=>Nat.beq i 8) mo (by decide +kernel) ?_;refine ⟨_,⟨by omega,bH hx⟩,?_⟩;refine ay fW (dX (0,0) m 8 p.name.a) ax rfl ?_
   have:eD h ps depth m=((8,p.name.a),m):=by
    simp only [eD,if_neg c1',if_pos ap,fK hx];rfl
   refine ⟨_,?_,rfl⟩;rw [this];exact ax
  ·have c2':¬ 64 < ps.len:=by simp [aF] at c2;omega
   have hF:eD h ps depth m=wrongPts h.ag (pNames ps) 0 ps depth m:=by simp only [eD,if_neg c1',if_neg c2']
   refine aq (fun j st=>∃ (e:Nat) (m':Int),st=tJ (.mk h ps) e depth m' /\ e<=ps.len/\0<=m' /\ m' <= 512 /\
     wrongPts h.ag (pNames ps) 0 ps depth m=wrongPts h.ag (pNames ps) e (ps.drop e) depth m' /\ j=ps.len - e) ps.len
    (tJ (.mk h ps) 0 depth m) (weak_mk ⟨_,rfl⟩ wA rfl rfl rfl wB) ⟨0,m,rfl,by omega,jX,fD,rfl,by omega⟩ ?_
   rintro j st ⟨e,m',rfl,he,tv,Cq,aH,rfl⟩;refine br (fun hL=>?_) (fun hL=>?_)
   ·have ap:e < ps.len:=by simpa [aF] using hL
    obtain ⟨p,t,hx⟩:=Pts.ei ap;rw [Pts.drop_cons hx] at aH;have Cm:=Pts.fI (mG hx);obtain ⟨u,us⟩:=t;refine ⟨_,⟨by omega,bH hx⟩,?_⟩;refine call_p X5 (z7 ps (by omega)) ax rfl ?_;refine call_p RM (od (pNames ps) e p.name (by omega) (fK hx)) ax rfl ?_;refine br (fun hl=>?_) (fun hl=>?_)
    ·have hl:aD (pNames ps) e p.name≠0:=by simpa using hl
     refine call_p fW (dX (0,0) m' _ p.name.a) ax rfl ?_
     have:eD h ps depth m=((aD (pNames ps) e p.name,p.name.a),m'):=by
      rw [hF,aH];simp only [wrongPts];rw [if_pos hl]
     refine ⟨_,?_,rfl⟩;rw [this];exact ax
    ·have hl:aD (pNames ps) e p.name=0:=by simpa using hl
     simp only [wrongPts] at aH;rw [if_neg (by simp [hl])] at aH;refine br (fun hB=>?_) (fun hB=>?_)
     ·rw [if_pos hB] at aH;refine br (fun k7=>?_) (fun k7=>?_)
      ·have k7:¬ h.ag=7:=by simpa using k7
       refine call_p X6 (Cn (.mk u us) (by omega)) ax rfl ?_;refine br (fun z=>?_) (fun z=>?_)
       ·have z:sameTy (.mk u us) bK=true:=by simpa [aj,k7] using z
        refine call_p LR (lG p eP (dK (.mk u us)) (dK bK) (by omega) (yt _ _ _ _ _) (yt _ _ _ _ _)) ax rfl ?_;refine br (fun q=>?_) (fun q=>?_)
        ·have q:bA p eP=false:=by simpa [aj,k7,z] using q
         refine call_p fW (dX (0,0) m' 19 p.name.a) ax rfl ?_;rw [if_pos (by simp [q])] at aH;refine ⟨_,?_,rfl⟩;rw [hF,aH];exact ax
        ·have q:bA p eP=true:=by simpa [aj,k7,z] using q
         rw [if_neg (by simp [k7,z,q])] at aH;exact ⟨tJ (.mk h ps) (e + 1) depth m',(weak_mk ⟨_,rfl⟩ wA rfl rfl rfl (wNB ap)),ps.len - (e + 1),by omega,e + 1,m',rfl,by omega,tv,Cq,aH,rfl⟩
       ·have z:sameTy (.mk u us) bK=false:=by simpa [aj,k7] using z
        refine call_p fW (dX (0,0) m' 19 p.name.a) ax rfl ?_;rw [if_pos (by simp [z])] at aH;refine ⟨_,?_,rfl⟩;rw [hF,aH];exact ax
      ·have k7:h.ag=7:=by simpa using k7
       refine call_p fW (dX (0,0) m' 19 p.name.a) ax rfl ?_;rw [if_pos (by simp [k7])] at aH;refine ⟨_,?_,rfl⟩;rw [hF,aH];exact ax
     ·rw [if_neg (by simp [hB])] at aH;refine br (fun hw=>?_) (fun hw=>?_)
      ·have hP:dr p=(20,p.name.a):=by
        simp [aj] at hw;simp only [dr,if_pos hw]
       rw [if_pos (by rw [hP];simp),hP] at aH;refine ⟨_,?_,rfl⟩;rw [hF,aH];exact ax
      ·have hw:¬ (p.wide < 0∨64 < p.wide):=by simp [aj] at hw;omega
       have hpw:p.wt<=ps.wt:=by omega
       simp only [Ph.wt] at hpw;refine call_p LQ (lH p.label (by omega)) ax rfl ?_;refine br (fun hb=>?_) (fun hb=>?_)
       ·have hb:(bB p.label).1=0:=by simpa using hb
        have hP:dr p=aS p:=by simp only [dr,if_neg hw,hb,ne_eq,not_true_eq_false,if_false]
        rw [hP] at aH;refine call_p X7 (xF p (dK (.mk u us)) (by omega)) (by repeat' (first | exact rfl | exact trivial | exact Or.inr (Or.inl ⟨_,rfl⟩) | exact Or.inr ⟨_,rfl⟩ | exact Or.inl ⟨rfl,rfl⟩ | exact Or.inl rfl | refine Or.inr ⟨_,_,rfl,Nat.zero_le _,rfl,?_⟩ | refine ⟨_,_,rfl,?_,?_⟩ | refine ⟨_,rfl,?_⟩ | exact congrArg DV.agg rfl| refine Or.inr (Or.inr (Or.inr ⟨_,_,rfl,?_⟩)) | exact Or.inl rfl | refine Or.inr ?_)) rfl ?_;refine br (fun hc=>?_) (fun hc=>?_)
        ·have hc:(aS p).1≠0:=by simpa using hc
         rw [if_pos hc] at aH;refine ⟨_,?_,rfl⟩;rw [hF,aH];exact ax
        ·have hc:(aS p).1=0:=by simpa using hc
         rw [if_neg (by simp [hc])] at aH;have jU:=ih (.mk u us) (depth + 1) m' (by omega) (by omega) (by omega) (by omega) tv Cq;have bG:=pK (.mk u us) (depth + 1) m' tv;generalize wrong (.mk u us) (depth + 1) m'=r at jU bG aH;obtain ⟨⟨fe,fa⟩,many⟩:=r;simp only at jU bG aH;refine call_p LO (jU) (by repeat' (first | exact rfl | exact trivial | exact Or.inr (Or.inl ⟨_,rfl⟩) | exact Or.inr ⟨_,rfl⟩ | exact Or.inl ⟨rfl,rfl⟩ | exact Or.inl rfl | refine Or.inr ⟨_,_,rfl,Nat.zero_le _,rfl,?_⟩ | refine ⟨_,_,rfl,?_,?_⟩ | refine ⟨_,rfl,?_⟩ | exact congrArg (fun z=>DV.v (.int .i64 z)) (wrap64 (by omega) (by omega))| refine Or.inr (Or.inr (Or.inr ⟨_,_,rfl,?_⟩)) | exact Or.inl rfl | refine Or.inr ?_)) rfl ?_;refine br (fun hd=>?_) (fun hd=>?_)
         ·have hd:fe≠0:=by simpa using hd
          rw [if_pos hd] at aH;refine ⟨_,?_,rfl⟩;rw [hF,aH];exact ax
         ·have hd:fe=0:=by simpa using hd
          subst hd;obtain ⟨h1,h2,h3⟩:=bG rfl;simp only [Prod.mk.injEq,true_and] at h1;subst h1;rw [if_neg (by simp)] at aH;exact ⟨tJ (.mk h ps) (e + 1) depth many,(weak_mk ⟨_,rfl⟩ wA rfl rfl rfl (wNB ap)),ps.len - (e + 1),by omega,e + 1,many,rfl,by omega,h2,h3,aH,rfl⟩
       ·have hb:¬ (bB p.label).1=0:=by simpa using hb
        have hP:dr p=bB p.label:=by simp only [dr,if_neg hw];rw [if_pos hb]
        rw [hP,if_pos hb] at aH;refine br (fun hc=>?_) (fun hc=>?_)
        ·refine ⟨_,?_,rfl⟩;rw [hF,aH];exact ax
        ·exact (hb (by simpa using hc)).elim
   ·have aO:e=ps.len:=by simp [aF] at hL;omega
    rw [aO,Pts.cQ] at aH;refine ⟨_,?_,rfl⟩;rw [hF,aH];simp only [wrongPts];exact ax
theorem bi (e a:Int):EvP Tryz.prog 214 [.v (.int .i64 e),.v (.int .i64 a)] (Ft.d (e,a)):=by
 refine ev_go (P:=Tryz.prog) tt tt_ok 5000 8 [.cell 4 54] Tryz.func214 rfl Tryz.ntmps214 rfl (nL rfl) (fun E9 w9 hn9 hm9=>?_);exact ⟨_,ax,rfl⟩
noncomputable def gv (L:List ByteArray) (x:ByteArray) (a:Int):Ft:=if aY x=true then (if L.Nodup then (0,0) else (10,a)) else (9,a)
theorem sB (L:List ByteArray) (x:ByteArray) (a:Int) (hx:L[L.length - 1]? = some x) (hl:L.length<=1099511627776) (oA:x.size<=4611686018427387904) :
  EvP Tryz.prog 260 [.sl 1 (dF L) none,.v (.int .i64 a)] (gv L x a).d:=by
 have hN:=bR L;have ki:=(gS hx).1;have hz:IntKind.i64.wrap (((dF L).length:Int) - 1)=((L.length - 1:Nat):Int):=by rw [hN,wrap64 (by omega) (by omega)];omega
 refine ev_go (P:=Tryz.prog) tt tt_ok 5000 23 [.cell 4 54] Tryz.func260 rfl Tryz.ntmps260 rfl (nL rfl) (fun E9 w9 hn9 hm9=>?_);refine ⟨[.v (.string x)],⟨by rw [hz];omega,by rw [hz];exact eX hx⟩,?_⟩;refine call_p B9 (jx x oA) ax rfl ?_;refine br (fun h=>?_) (fun h=>?_)
 ·have h:aY x=false:=by simpa using h
  refine call_p dN (bi 9 a) ax rfl ?_;refine ⟨_,?_,rfl⟩;rw [gv,if_neg (by rw [h];decide)];exact ax
 ·have h:aY x=true:=by simpa using h
  refine bq LB rfl (oF L hl) ax (fun r hr=>?_);obtain ⟨z,rfl,hz⟩:=hr;refine br (fun h2=>?_) (fun h2=>?_)
  ·have h2:0<=z:=by simpa using h2
   refine call_p dN (bi 10 a) ax rfl ?_;refine ⟨_,?_,rfl⟩;rw [gv,if_pos h,if_neg (hz.1 h2)];exact ax
  ·have h2:¬ 0<=z:=by simpa using h2
   refine ⟨_,?_,rfl⟩;rw [gv,if_pos h,if_pos (Classical.byContradiction fun hn=>h2 (hz.2 hn))];exact ax
theorem E5 {l:List Wd} {e:Nat} {x:Wd} (h:l[e]? = some x):bu ((l.map fun w=>(⟨w.s,0⟩:Wd)).take e) ++ [[.v (.string x.s),.v (.int .i64 0)]]=bu ((l.map fun w=>(⟨w.s,0⟩:Wd)).take (e + 1)):=by
 have h2:(l.map fun w=>(⟨w.s,0⟩:Wd))[e]? = some ⟨x.s,0⟩:=by simp [h]
 exact yo h2
def hY (l:List Wd):List Wd:=l.map fun w=>⟨w.s,0⟩
abbrev L8 (l l':List Wd) (n e:Nat):St:=
 ⟨[(6,⟨[],.sl 2 (bu l) none⟩),(7,⟨[],.v (.int .i64 (bu l).length)⟩),(8,⟨[],.v (.int .i64 e)⟩),(3,⟨[],.sl 2 (bu l') (some 0)⟩)],[],[⟨n,38,2,none⟩]⟩
theorem uR (l:List Wd) (hs:wdsWt l<=1099511627776):EvP Tryz.prog 305 [.sl 2 (bu l) none] (.sl 2 (bu (hY l)) none):=by
 have hl:=bg l;refine ev_go (P:=Tryz.prog) tt tt_ok 5000 20 [.tmp 2] Tryz.func305 rfl Tryz.ntmps305 rfl (nL rfl) (fun E9 w9 hn9 hm9=>?_);refine aq (fun j st=>∃ e:Nat,st=L8 l ((hY l).take e) e e/\e<=l.length/\j=l.length - e) l.length (L8 l [] 0 0) (fk ⟨0,38,2,none⟩ rfl ⟨_,rfl⟩ rfl wA rfl rfl zS) ⟨0,by simp,by omega,by omega⟩ ?_;rintro j st ⟨e,rfl,he,rfl⟩;refine br (fun h=>?_) (fun h=>?_)
 ·have ap:e < l.length:=by simpa [aw] using h
  obtain ⟨w,hw⟩:∃ w,l[e]? = some w:=⟨_,gE ap⟩;refine ⟨jw w,⟨by omega,aK hw⟩,?_⟩;refine ⟨by simp [aw,hY];omega,⟨by simp [aw,hY,maxLen];omega,by simp [aw,hY];omega⟩,?_⟩;refine ⟨L8 l ((hY l).take (e + 1)) (e + 1) (e + 1),(weak_mk ⟨_,rfl⟩ wA rfl rfl rfl (by repeat' (first | exact trivial | exact ah rfl | exact ak (cx ap (by omega)) | exact cP (E5 hw) rfl | refine ⟨⟨_,rfl,?_⟩,?_⟩))),l.length - (e + 1),by omega,e + 1,rfl,by omega,rfl⟩
 ·have aO:e=l.length:=by
   have:=h;simp [aw] at this;omega
  rw [aO,List.take_of_length_le (by simp [hY])];exact ⟨_,ax,rfl⟩
abbrev uS (l:List Wd) (e:Nat):St:=
 ⟨[(13,⟨[],.sl 2 (bu l) none⟩),(14,⟨[],.v (.int .i64 (bu l).length)⟩),(2,⟨[],.loc 0 0⟩),(15,⟨[],.v (.int .i64 e)⟩)],[[.v (.int .i64 0),.v (.int .i64 0)]],[]⟩
theorem iw (l:List Wd) (hs:wdsWt l<=1099511627776) :
  EvP Tryz.prog 288 [.sl 2 (bu l) none] (bB l).d:=by
 have mb:=bg l;refine ev_go (P:=Tryz.prog) tt tt_ok 5000 28 [.cell 2 54] Tryz.func288 rfl Tryz.ntmps288 rfl (nL rfl) (fun E9 w9 hn9 hm9=>?_);refine br (fun h=>?_) (fun h=>?_)
 ·have ap:32 < l.length:=by simp [aw] at h;omega
  obtain ⟨x,hx⟩:∃ x,l[32]? = some x:=⟨_,gE ap⟩;have:bB l=(8,x.a):=by simp [bB,Nat.not_le.2 ap,hx]
  refine ⟨jw x,⟨by omega,aK hx⟩,?_⟩;refine call_p dN (bi 8 x.a) ax rfl ?_;refine ⟨_,?_,rfl⟩;rw [this];exact ax
 ·have fQ:l.length<=32:=by simp [aw] at h;omega
  refine aq (fun j st=>∃ e:Nat,st=uS l e/\e<=l.length/\badWd l=badWd (l.drop e)/\j=l.length - e) l.length
   (uS l 0) (weak_mk ⟨_,rfl⟩ wA rfl rfl rfl wB) ⟨0,rfl,by omega,rfl,by omega⟩ ?_
  rintro j st ⟨e,rfl,he,aH,rfl⟩;refine br (fun hL=>?_) (fun hL=>?_)
  ·have ap:e < l.length:=by simpa [aw] using hL
   obtain ⟨x,hx⟩:∃ x,l[e]? = some x:=⟨_,gE ap⟩;rw [drop_cons hx] at aH;have oA:=gX (mG hx);refine ⟨jw x,⟨by omega,aK hx⟩,?_⟩;refine call_p B9 (jx x.s (by omega)) ax rfl ?_;refine br (fun hN=>?_) (fun hN=>?_)
   ·have hN:aY x.s=false:=by simpa using hN
    have:bB l=(9,x.a):=by simp [bB,fQ,aH,badWd,hN]
    refine call_p dN (bi 9 x.a) ax rfl ?_;refine ⟨_,?_,rfl⟩;rw [this];exact ax
   ·have hN:aY x.s=true:=by simpa using hN
    refine ⟨uS l (e + 1),(weak_mk ⟨_,rfl⟩ wA rfl rfl rfl (wNB ap)),l.length - (e + 1),by omega,e + 1,rfl,by omega,?_,rfl⟩;rw [aH];simp [badWd,hN]
  ·have aO:e=l.length:=by simp [aw] at hL;omega
   have:bB l=(0,0):=by simp [bB,fQ,aH,aO,badWd]
   refine ⟨_,?_,rfl⟩;rw [this];exact ax
theorem Ab (p:Ph) (tl:List DV) (t:Ty) (eJ:tl=dK t) (hs:p.wt<=1099511627776) :
  EvP Tryz.prog 289 [.agg (ET p tl)] (aS p).d:=by
 subst eJ;obtain ⟨u,us⟩:=t;simp only [Ph.wt] at hs;refine ev_go (P:=Tryz.prog) tt tt_ok 5000 55 [.cell 2 54] Tryz.func289 rfl Tryz.ntmps289 rfl (nL rfl) (fun E9 w9 hn9 hm9=>?_);refine br (fun h0=>?_) (fun h0=>?_)
 ·have h0:p.ck=0:=of_decide_eq_true h0;refine br (fun h1=>?_) (fun h1=>?_)
  ·have:aS p=(19,p.name.a):=by
    simp [aj,aw] at h1;simp only [aS,h0,if_true];rw [if_neg];rintro ⟨h2,h3⟩;rcases h1 with h1 | h1
    ·exact h1 h2
    ·simp [h3] at h1
   refine call_p dN (bi 19 p.name.a) ax rfl ?_;refine ⟨_,?_,rfl⟩;rw [this];exact ax
  ·have jT:p.cl=[]:=by
    simp [aj,aw] at h1;exact h1.2
   have:aS p=(0,0):=by
    simp [aj,aw] at h1;simp [aS,h0,h1.1,h1.2]
   have h00:bB p.cl=(0,0):=by rw [jT];simp [bB,badWd]
   refine call_p Ce (iw p.cl (by omega)) ax rfl ?_;refine ⟨_,?_,rfl⟩;rw [this,<- h00];exact ax
 have h0:¬ p.ck=0:=of_decide_eq_false h0;refine br (fun h1=>?_) (fun h1=>?_)
 ·have h1:p.ck=1:=of_decide_eq_true h1;refine br (fun h2=>?_) (fun h2=>?_)
  ·have:aS p=(20,p.ca):=by
    simp [pickB_and] at h2;simp only [aS,h0,if_false];rw [if_neg (by omega),if_pos (by omega)]
   refine call_p dN (bi 20 p.ca) ax rfl ?_;refine ⟨_,?_,rfl⟩;rw [this];exact ax
  ·have:aS p=bB p.cl:=by
    simp [pickB_and] at h2;simp only [aS,h0,if_false];rw [if_neg (by omega),if_neg (by omega)]
   refine call_p Ce (iw p.cl (by omega)) ax rfl ?_;refine ⟨_,?_,rfl⟩;rw [this];exact ax
 have h1:¬ p.ck=1:=of_decide_eq_false h1;refine br (fun h3=>?_) (fun h3=>?_)
 ·have h3:p.ck=2:=of_decide_eq_true h3;refine br (fun h2=>?_) (fun h2=>?_)
  ·have:aS p=(20,p.ca):=by
    simp [pickB_and] at h2;simp only [aS,h0,if_false];rw [if_neg (by omega),if_pos (by omega)]
   refine call_p dN (bi 20 p.ca) ax rfl ?_;refine ⟨_,?_,rfl⟩;rw [this];exact ax
  ·have:aS p=bB p.cl:=by
    simp [pickB_and] at h2;simp only [aS,h0,if_false];rw [if_neg (by omega),if_neg (by omega)]
   refine call_p Ce (iw p.cl (by omega)) ax rfl ?_;refine ⟨_,?_,rfl⟩;rw [this];exact ax
 have h3:¬ p.ck=2:=of_decide_eq_false h3;refine br (fun h4=>?_) (fun h4=>?_)
 ·have h4:p.ck=3:=of_decide_eq_true h4;refine br (fun h2=>?_) (fun h2=>?_)
  ·have:aS p=(20,p.ca):=by
    simp [pickB_and] at h2;simp only [aS,h0,if_false];rw [if_neg (by omega),if_pos (by omega)]
   refine call_p dN (bi 20 p.ca) ax rfl ?_;refine ⟨_,?_,rfl⟩;rw [this];exact ax
  ·have:aS p=bB p.cl:=by
    simp [pickB_and] at h2;simp only [aS,h0,if_false];rw [if_neg (by omega),if_neg (by omega)]
   refine call_p Ce (iw p.cl (by omega)) ax rfl ?_;refine ⟨_,?_,rfl⟩;rw [this];exact ax
 have h4:¬ p.ck=3:=of_decide_eq_false h4
 have:aS p=(14,p.ca):=by
  simp only [aS,h0,if_false];rw [if_pos (by omega)]
 refine call_p dN (bi 14 p.ca) ax rfl ?_;refine ⟨_,?_,rfl⟩;rw [this];exact ax
theorem L9 (w:World) (x y:Operand) (vs vs':Array Value):(eqGuard .neq 38 x y (.agg vs) (.agg vs')).run Tryz.prog w = .ok () w:=by
 have h:Tryz.prog.eqGuardType Tryz.prog.depth 38=false:=by kernel_rfl
 simp [eqGuard,run_program,h]
theorem TP (a b:ByteArray) (p q:Int) (w:World):(binOp .neq 38 (.agg #[.string a,.int .i64 p]) (.agg #[.string b,.int .i64 q])).run Tryz.prog w = .ok (.bool (!(decide (a=b) && decide (p=q)))) w:=by
 have hf:Tryz.prog.underlying 38=some (.struct (Tryz.prog.fieldsOf 38)):=by simp [Program.fieldsOf,Tryz.underlying38]
 have zL:(Tryz.prog.fieldsOf 38).toList=[⟨ "Name",9,0,false, "", "",0⟩,⟨ "At",3,1,false, "", "",16⟩]:=by simp [Program.fieldsOf,Tryz.underlying38]
 have hs:Tryz.prog.stoodInHeld 38=false:=by kernel_rfl
 have hm:∃ d,Op.maxDepth=d + 1 + 1:=⟨Op.maxDepth - 2,by decide⟩;obtain ⟨d,hm⟩:=hm
 have he:(Op.equal 38 (.agg #[.string a,.int .i64 p]) (.agg #[.string b,.int .i64 q])).run Tryz.prog w = .ok (decide (a=b) && decide (p=q)) w:=by
  unfold Op.equal;rw [hm,run_equalIn_struct w (d + 1) 38 _ _ hf hs,zL]
  have e1:(a.toList == b.toList)=decide (a=b):=by
   rw [ByteArray.toList_eq,ByteArray.toList_eq];by_cases h:a=b
   ·subst h;simp
   ·have:¬ a.data=b.data:=fun e=>h (ByteArray.ext e);simp [h,this]
  have q9:∀ cs:Array Value,∀ off v,cs[off]? = some v->(part 9 cs off).run Tryz.prog w = .ok v w:=fun cs off v h=>by
   simp [part,Tryz.isAgg9,h]
  have q3:∀ cs:Array Value,∀ off v,cs[off]? = some v->(part 3 cs off).run Tryz.prog w = .ok v w:=fun cs off v h=>by
   simp [part,Tryz.isAgg3,h]
  simp only [Op.eqFields,ne_eq,String.reduceEq,not_false_eq_true,if_true,Sem.run_bind,q9 #[.string a,.int .i64 p] 0 (.string a) rfl,q9 #[.string b,.int .i64 q] 0 (.string b) rfl,Result.andThen_ok,run_equalIn_string w d 9 a b Tryz.underlying9,e1];by_cases h:a=b
  ·simp only [h,decide_true,Bool.not_true,Bool.false_eq_true,if_false,Sem.run_bind,q3 #[.string b,.int .i64 p] 1 (.int .i64 p) rfl,q3 #[.string b,.int .i64 q] 1 (.int .i64 q) rfl,Result.andThen_ok,run_equalIn_int w d 3 .i64 .i64 p q Tryz.underlying3];by_cases h2:p=q<;>simp [h2,Sem.run_pure]
  ·simp [h,Sem.run_pure]
 show ((do let r <- Op.equal 38 _ _;pure (Value.bool !r)):Sem Value).run Tryz.prog w=_;simp only [Sem.run_bind,he,Result.andThen_ok,Sem.run_pure]
theorem PR (x y:Operand) (a b:Wd):K0 Tryz.prog .neq x y 38 (jw a) (jw b) (!(decide (a.s=b.s) && decide (a.a=b.a))):=
 ⟨[.string a.s,.int .i64 a.a],[.string b.s,.int .i64 b.a],rfl,rfl,fun w=>⟨L9 w x y _ _,TP a.s b.s a.a b.a w⟩⟩
def eqWds:List Wd->List Wd->Bool
 | [],[]=>true
 | x :: r,y :: s=>(decide (x.s=y.s) && decide (x.a=y.a)) && eqWds r s
 | _,_=>false
theorem yv:∀ {a b:List Wd},a.length≠b.length->eqWds a b=false
 | [],[],h=>(h rfl).elim
 | [],_ :: _,_=>rfl
 | _ :: _,[],_=>rfl
 | x :: r,y :: s,h=>by
  simp only [eqWds];rw [yv (a:=r) (b:=s) (by simpa using h),Bool.and_false]
theorem sC:∀ a b:List Wd,eqWds (hY a) (hY b)=sameWds a b
 | [],[]=>rfl
 | [],_ :: _=>rfl
 | _ :: _,[]=>rfl
 | x :: r,y :: s=>by
  have:=sC r s;simp only [hY,List.map_cons,eqWds,sameWds] at this ⊢;rw [this];simp
abbrev Ma (a b:List Wd) (e:Nat):St:=
 ⟨[(0,⟨[],.sl 2 (bu a) none⟩),(1,⟨[],.sl 2 (bu b) none⟩),(12,⟨[],.v (.int .i64 (bu a).length)⟩),(13,⟨[],.v (.int .i64 e)⟩)],[],[]⟩
theorem Cr (a b:List Wd) (hs:a.length<=1099511627776) :
  EvP Tryz.prog 304 [.sl 2 (bu a) none,.sl 2 (bu b) none] (.v (.bool (eqWds a b))):=by
 refine ev_go (P:=Tryz.prog) tt tt_ok 5000 26 [.tmp 4] Tryz.func304 rfl Tryz.ntmps304 rfl (nL rfl) (fun E9 w9 hn9 hm9=>?_);refine br (fun h=>?_) (fun h=>?_)
 ·have aN:a.length≠b.length:=by have:=h;simp [aw] at this;omega
  exact congrArg (fun b=>DV.v (.bool b)) (yv aN).symm
 ·have hl:a.length=b.length:=by have:=h;simp [aw] at this;omega
  refine aq (fun j st=>∃ e:Nat,st=Ma a b e/\e<=a.length/\eqWds a b=eqWds (a.drop e) (b.drop e)/\j=a.length - e) a.length
   (Ma a b 0) (weak_mk ⟨_,rfl⟩ wA rfl rfl rfl wB) ⟨0,rfl,by omega,rfl,by omega⟩ ?_
  rintro j st ⟨e,rfl,he,aH,rfl⟩;refine br (fun h=>?_) (fun h=>?_)
  ·have ap:e < a.length:=by simpa [aw] using h
   obtain ⟨x,hx⟩:∃ x,a[e]? = some x:=⟨_,gE ap⟩;obtain ⟨y,hy⟩:∃ y,b[e]? = some y:=⟨_,gE (hl ▸ ap)⟩;rw [drop_cons hx,drop_cons hy] at aH;refine aE (fun _=>false) mo (by decide +kernel) ?_;refine ⟨jw x,⟨by omega,aK hx⟩,jw y,⟨by omega,aK hy⟩,_,PR _ _ x y,?_⟩;refine br (fun h=>?_) (fun h=>?_)
   ·have aN:(decide (x.s=y.s) && decide (x.a=y.a))=false:=by
     have h:(!(decide (x.s=y.s) && decide (x.a=y.a)))=true:=h
     revert h
     cases (decide (x.s=y.s) && decide (x.a=y.a))<;>decide
    refine (congrArg (fun b=>DV.v (.bool b)) ?_:_=_);rw [aH];simp only [eqWds,aN,Bool.false_and]
   ·have aN:(decide (x.s=y.s) && decide (x.a=y.a))=true:=by
     have h:(!(decide (x.s=y.s) && decide (x.a=y.a)))=false:=h
     revert h
     cases (decide (x.s=y.s) && decide (x.a=y.a))<;>decide
    refine ⟨Ma a b (e + 1),(weak_mk ⟨_,rfl⟩ wA rfl rfl rfl (wNB ap)),a.length - (e + 1),by omega,e + 1,rfl,by omega,?_,rfl⟩;rw [aH];simp only [eqWds,aN,Bool.true_and]
  ·have aO:e=a.length:=by have:=h;simp [aw] at this;omega
   refine (congrArg (fun b=>DV.v (.bool b)) ?_:_=_);rw [aH,aO,hl];simp [eqWds];rw [<- hl];simp [eqWds]
theorem gw (a b:List Wd) (ha:wdsWt a<=1099511627776) (hb:wdsWt b<=1099511627776) :
  EvP Tryz.prog 300 [.sl 2 (bu a) none,.sl 2 (bu b) none] (.v (.bool (sameWds a b))):=by
 have hl:=bg a;refine ev_go (P:=Tryz.prog) tt tt_ok 5000 10 [.tmp 4] Tryz.func300 rfl Tryz.ntmps300 rfl (nL rfl) (fun E9 w9 hn9 hm9=>?_);refine call_p RO (uR a ha) ax rfl ?_;refine call_p RO (uR b hb) ax rfl ?_;refine call_p Ye (Cr (hY a) (hY b) (by simp [hY];omega)) ax rfl ?_;refine (congrArg (fun b=>DV.v (.bool b)) ?_:_=_);exact sC a b
def eqPts (F:Ph->Ty->Ph->Ty->Bool):Pts->Pts->Bool
 | .nil,.nil=>true
 | .cons p t r,.cons q u s=>F p t q u && eqPts F r s
 | _,_=>false
theorem yw {F:Ph->Ty->Ph->Ty->Bool}:∀ {a b:Pts},a.len≠b.len->eqPts F a b=false
 | .nil,.nil,h=>(h rfl).elim
 | .cons p t r,.cons q u s,h=>by
  simp only [eqPts];rw [yw (a:=r) (b:=s) (by simpa [Pts.len] using h),Bool.and_false]
 | .nil,.cons _ _ _,_=>rfl
 | .cons _ _ _,.nil,_=>rfl
def cJ (p:Ph) (t:Ty) (q:Ph) (u:Ty):Bool:=decide (p.name.s=q.name.s) && bA p q && sameTy t u
theorem uT:∀ a b:Pts,eqPts cJ a b=samePts a b
 | .nil,.nil=>by simp [eqPts,samePts]
 | .cons p t r,.cons q u s=>by simp only [eqPts,samePts,cJ,uT r s]
 | .nil,.cons _ _ _=>by simp [eqPts,samePts]
 | .cons _ _ _,.nil=>by simp [eqPts,samePts]
abbrev Mb (a b:Pts) (g e:Nat):St:=
 ⟨[(1,⟨[],.sl 18 (fc b) none⟩),(2,⟨[],.fn g [] []⟩),(15,⟨[],.sl 18 (fc a) none⟩),(16,⟨[],.v (.int .i64 (fc a).length)⟩),(17,⟨[],.v (.int .i64 e)⟩)],[],[]⟩
theorem Cs (g:Nat) (j1:Enters Tryz.prog g) (F:Ph->Ty->Ph->Ty->Bool) (a b:Pts) (hs:a.wt<=1099511627776)
  (hF:∀ (e:Nat) p t q u,a.toList[e]? = some (p,t)->b.toList[e]? = some (q,u)->EvP Tryz.prog g [.agg (ET p (dK t)),.agg (ET q (dK u))] (.v (.bool (F p t q u)))) :
  EvP Tryz.prog 306 [.sl 18 (fc a) none,.sl 18 (fc b) none,.fn g [] []] (.v (.bool (eqPts F a b))):=by
 have Ps:=a.fb;refine ev_go (P:=Tryz.prog) tt tt_ok 5000 32 [.tmp 6] Tryz.func306 rfl Tryz.ntmps306 rfl (nL rfl) (fun E9 w9 hn9 hm9=>?_);refine br (fun h=>?_) (fun h=>?_)
 ·have aN:a.len≠b.len:=by have:=h;simp [aF] at this;omega
  exact congrArg (fun b=>DV.v (.bool b)) (yw aN).symm
 ·have hl:a.len=b.len:=by have:=h;simp [aF] at this;omega
  refine aq (fun j st=>∃ e:Nat,st=Mb a b g e/\e<=a.len/\eqPts F a b=eqPts F (a.drop e) (b.drop e)/\j=a.len - e) a.len
   (Mb a b g 0) (weak_mk ⟨_,rfl⟩ wA rfl rfl rfl wB) ⟨0,rfl,by omega,rfl,by omega⟩ ?_
  rintro j st ⟨e,rfl,he,aH,rfl⟩;refine br (fun h=>?_) (fun h=>?_)
  ·have ap:e < a.len:=by simpa [aF] using h
   obtain ⟨p,t,hx⟩:=Pts.ei ap;obtain ⟨q,u,hy⟩:=Pts.ei (hl ▸ ap);rw [Pts.drop_cons hx,Pts.drop_cons hy] at aH;have hev:=hF e p t q u hx hy;obtain ⟨t,ts⟩:=t;obtain ⟨u,us⟩:=u;refine ⟨_,⟨by omega,bH hx⟩,?_⟩;refine ⟨_,⟨by omega,bH hy⟩,?_⟩;refine call_p j1 hev ax rfl ?_;refine br (fun h=>?_) (fun h=>?_)
   ·have aN:F p (.mk t ts) q (.mk u us)=false:=by simpa using h
    refine (congrArg (fun b=>DV.v (.bool b)) ?_:_=_);rw [aH];simp only [eqPts,aN,Bool.false_and]
   ·have aN:F p (.mk t ts) q (.mk u us)=true:=by simpa using h
    refine ⟨Mb a b g (e + 1),(weak_mk ⟨_,rfl⟩ wA rfl rfl rfl (wNB ap)),a.len - (e + 1),by omega,e + 1,rfl,by omega,?_,rfl⟩;rw [aH];simp only [eqPts,aN,Bool.true_and]
  ·have aO:e=a.len:=by have:=h;simp [aF] at this;omega
   refine (congrArg (fun b=>DV.v (.bool b)) ?_:_=_);rw [aH,aO,Pts.cQ,hl,Pts.cQ];simp [eqPts]
theorem mF (p q:Ph) (t u:Ty) (hp:p.wt<=1099511627776) (hq:q.wt<=1099511627776)
  (ht:EvP Tryz.prog 301 [.agg (dK t),.agg (dK u)] (.v (.bool (sameTy t u)))) :
  EvP Tryz.prog 287 [.agg (ET p (dK t)),.agg (ET q (dK u))] (.v (.bool (cJ p t q u))):=by
 simp only [Ph.wt] at hp hq;obtain ⟨th,tps⟩:=t;obtain ⟨uh,ups⟩:=u;refine ev_go (P:=Tryz.prog) tt tt_ok 5000 71 [.tmp 4] Tryz.func287 rfl Tryz.ntmps287 rfl (nL rfl) (fun E9 w9 hn9 hm9=>?_)
 have e0:cJ p (.mk th tps) q (.mk uh ups)=(((decide (p.name.s=q.name.s) && (p.bare == q.bare)) && decide (p.wide=q.wide)) && sameWds p.label q.label && ((decide (p.ck=q.ck) && decide (p.cn=q.cn)) && sameWds p.cl q.cl) && sameTy (.mk th tps) (.mk uh ups)):=by
  simp only [cJ,bA,Bool.and_assoc]
 rw [e0];refine br (fun hA=>?_) (fun hA=>?_)
 ·simp only [pickB_and] at hA;refine call_p HA (gw p.label q.label (by omega) (by omega)) ax rfl ?_;refine br (fun hB=>?_) (fun hB=>?_)
  ·simp only [pickB_and] at hB;refine call_p HA (gw p.cl q.cl (by omega) (by omega)) ax rfl ?_;refine br (fun hC=>?_) (fun hC=>?_)
   ·refine call_p Yb (ht) ax rfl ?_;refine (congrArg (fun b=>DV.v (.bool b)) ?_:_=_);simp only [pickB_and,Bool.true_and,Bool.and_true] at hC ⊢
    simp_all
   ·refine (congrArg (fun b=>DV.v (.bool b)) ?_:_=_);simp only [pickB_and,Bool.true_and,Bool.and_true] at hC ⊢
    simp_all
  ·simp only [pickB_and] at hB;refine br (fun hC=>?_) (fun hC=>?_)
   ·exfalso;simp [pickB_and] at hC
   ·refine (congrArg (fun b=>DV.v (.bool b)) ?_:_=_)
    simp_all
 ·simp only [pickB_and,beq_true] at hA;refine br (fun hB=>?_) (fun hB=>?_)
  ·refine call_p HA (gw p.cl q.cl (by omega) (by omega)) ax rfl ?_;refine (congrArg (fun b=>DV.v (.bool b)) ?_:_=_);rw [hA];rfl
  ·refine (congrArg (fun b=>DV.v (.bool b)) ?_:_=_);rw [hA];rfl
theorem yx:∀ (n:Nat) (a b:Ty),a.wt<=n->a.wt<=1099511627776->b.wt<=1099511627776 ->
  EvP Tryz.prog 301 [.agg (dK a),.agg (dK b)] (.v (.bool (sameTy a b)))
 | 0,a,b,hn,_,_=>by have:=a.de;omega
 | n + 1,.mk h ps,.mk k qs,hn,b9,Yv=>by
  have ih:=yx n;simp only [Ty.wt,Hd.wt] at hn b9 Yv
  have hE:EvP Tryz.prog 306 [.sl 18 (fc ps) none,.sl 18 (fc qs) none,.fn 287 [] []] (.v (.bool (samePts ps qs))):=by
   rw [<- uT];refine Cs 287 LU cJ ps qs (by omega) fun e p t q u hx hy=>?_;have hw1:=Pts.fI (mG hx);have hw2:=Pts.fI (mG hy);exact mF p q t u (by omega) (by omega) (ih t u (by omega) (by omega) (by omega))
  refine ev_go (P:=Tryz.prog) tt tt_ok 5000 53 [.tmp 4] Tryz.func301 rfl Tryz.ntmps301 rfl (nL rfl) (fun E9 w9 hn9 hm9=>?_);refine br (fun hA=>?_) (fun hA=>?_)
  ·simp [aj] at hA;obtain ⟨⟨⟨⟨e1,e2⟩,e3⟩,e4⟩,e5⟩:=hA;refine call_p HA (gw h.af k.af (by omega) (by omega)) ax rfl ?_;refine br (fun hB=>?_) (fun hB=>?_)
   ·refine (congrArg (fun b=>DV.v (.bool b)) ?_:_=_);simp [aj,e1,e2,e3,e4,e5] at hB;simp [sameTy,kr,hB]
   ·simp [aj,e1,e2,e3,e4,e5] at hB;refine call_p Yf (hE) ax rfl ?_;refine (congrArg (fun b=>DV.v (.bool b)) ?_:_=_);simp [sameTy,kr,e1,e2,e3,e4,e5,hB]
  ·refine (congrArg (fun b=>DV.v (.bool b)) ?_:_=_);simp [aj] at hA;simp only [sameTy,kr]
   grind
theorem uU (a b:Ty) (ha:a.wt<=1099511627776) (hb:b.wt<=1099511627776):EvP Tryz.prog 301 [.agg (dK a),.agg (dK b)] (.v (.bool (sameTy a b))):=yx _ a b (Nat.le_refl _) ha hb
def uV (h:Hd) (ps:Pts):Bool:=
 (((((decide (h.ag=2) || (decide (h.lo=0) && decide (h.hi=0))) && ((decide (h.ag=3) || decide (h.ag=5)) || decide (h.most=0))) && (decide (ps.len=0) || (decide (5<=h.ag) && decide (h.ag<=8)))) &&
  (decide (h.af.length=0) || decide (h.ag=4))) && (decide (h.name.s=al) || decide (h.ag=9)))
theorem Jn (h:Hd) (ps:Pts):EvP Tryz.prog 215 [.agg (dK (.mk h ps))] (.v (.bool (uV h ps))):=by
 have l1:(((fc ps).length:Int)=0)=(ps.len=0):=by rw [aF];exact propext (by omega)
 have l2:(((bu h.af).length:Int)=0)=(h.af.length=0):=by rw [aw];exact propext (by omega)
 have he:(⟨#[]⟩:ByteArray)=al:=rfl;refine ev_go (P:=Tryz.prog) tt tt_ok 5000 67 [.tmp 2] Tryz.func215 rfl Tryz.ntmps215 rfl (nL rfl) (fun E9 w9 hn9 hm9=>?_);refine br (fun k2=>?_) (fun k2=>?_)
 ·have k2:h.ag=2:=of_decide_eq_true k2;refine (congrArg (fun b=>DV.v (.bool b)) ?_:_=_);rw [Bool.eq_iff_iff];simp [pickB_and,aj,uV,aF,aw,k2,he]
 have k2:¬ h.ag=2:=of_decide_eq_false k2;refine br (fun k3=>?_) (fun k3=>?_)
 ·have k3:h.ag=3:=of_decide_eq_true k3;refine br (fun _=>?_) (fun hf=>?_)
  ·refine (congrArg (fun b=>DV.v (.bool b)) ?_:_=_);rw [Bool.eq_iff_iff];simp [pickB_and,aj,uV,aF,aw,k3,he]
  ·exact absurd k3 (of_decide_eq_false hf)
 have k3:¬ h.ag=3:=of_decide_eq_false k3;refine br (fun k5=>?_) (fun k5=>?_)
 ·have k5:h.ag=5:=of_decide_eq_true k5;refine (congrArg (fun b=>DV.v (.bool b)) ?_:_=_);rw [Bool.eq_iff_iff];simp [pickB_and,aj,uV,aF,aw,k5,he]
 have k5:¬ h.ag=5:=of_decide_eq_false k5;refine (congrArg (fun b=>DV.v (.bool b)) ?_:_=_);rw [Bool.eq_iff_iff];simp [pickB_and,aj,uV,aF,aw,k2,k3,k5,he]
theorem Ac:∀ ps:Pts,samePts ps ps=true:=by
 have wr:∀ l:List Wd,sameWds l l=true:=by
  intro l
  induction l with
  | nil=>rfl
  | cons x r ih=>simp [sameWds,ih]
 have key:∀ n,(∀ t:Ty,t.wt<=n->sameTy t t=true)/\(∀ ps:Pts,ps.wt<=n->samePts ps ps=true):=by
  intro n
  induction n using Nat.strongRecOn with
  | _ n ih=>
   have hp:∀ ps:Pts,ps.wt<=n->(∀ t:Ty,t.wt + 256<=n->sameTy t t=true)->samePts ps ps=true:=by
    intro ps
    induction ps using Pts.rec (motive_1:=fun _=>True) with
    | mk=>trivial
    | nil=>intros;simp [samePts]
    | cons p t r _ ihr=>
     intro hw ht;simp only [Pts.wt,Ph.wt] at hw;simp only [samePts];rw [ht t (by omega),ihr (by omega) ht];simp [bA,wr]
   refine ⟨fun t ht=>?_,fun ps Yw=>?_⟩
   ·obtain ⟨h,ps⟩:=t;simp only [Ty.wt,Hd.wt] at ht;simp only [sameTy,kr];rw [(ih ps.wt (by omega)).2 ps (Nat.le_refl _),wr];simp
   ·exact hp ps Yw fun t ht=>(ih t.wt (by omega)).1 t (Nat.le_refl _)
 exact fun ps=>(key ps.wt).2 ps (Nat.le_refl _)
theorem HI (h:Hd) (ps:Pts):uV h ps=sameTy (.mk h ps) (mask (.mk h ps)):=by
 have wr:∀ l:List Wd,sameWds l l=true:=by
  intro l
  induction l with
  | nil=>rfl
  | cons x r ih=>simp [sameWds,ih]
 have wn:∀ l:List Wd,sameWds l []=decide (l.length=0):=by
  intro l;cases l<;>simp [sameWds]
 have pn:∀ l:Pts,samePts l .nil=decide (l.len=0):=by
  intro l;cases l<;>simp [samePts,Pts.len]
 have pr:=Ac ps;simp only [mask,sameTy,kr,iI]
 have e5:samePts ps (if 4 < h.ag/\h.ag < 9 then ps else .nil)=(decide (ps.len=0) || (decide (5<=h.ag) && decide (h.ag<=8))):=by
  split
  ·rename_i hc;rw [pr,decide_eq_true (by omega:5<=h.ag),decide_eq_true (by omega:h.ag<=8)];simp
  ·rename_i hc;rw [pn,Bool.eq_iff_iff];simp;omega
 have e6:sameWds h.af (if h.ag=4 then h.af else [])=(decide (h.af.length=0) || decide (h.ag=4)):=by
  split
  ·rename_i hc;rw [wr];simp [hc]
  ·rename_i hc;rw [wn];simp [hc]
 rw [e5,e6];unfold uV;by_cases k2:h.ag=2
 ·rw [Bool.eq_iff_iff];simp [k2];grind
 ·by_cases k3:h.ag=3∨h.ag=5
  ·by_cases k9:h.ag=9
   ·omega
   ·rw [Bool.eq_iff_iff];simp [k2,k3,k9];grind
  ·by_cases k9:h.ag=9
   ·rw [Bool.eq_iff_iff];simp [k9];grind
   ·rw [Bool.eq_iff_iff];simp [k2,k3,k9];grind
theorem Ct (p:Ph) (t:Ty) (hp:p.wt<=1099511627776):EvP Tryz.prog 261 [.agg (ET p (dK t))] (.v (.bool (cJ p bK eC bK))):=by
 obtain ⟨th,tps⟩:=t;refine ev_go (P:=Tryz.prog) tt tt_ok 5000 8 [.tmp 2] Tryz.func261 rfl Tryz.ntmps261 rfl (nL rfl) (fun E9 w9 hn9 hm9=>?_);refine call_p LU (mF p eC bK bK hp (by decide) (uU bK bK (by decide) (by decide))) ax rfl ?_;exact (rfl:_=_)
def av (l:List Wd):List ByteArray:=l.map fun w=>w.s
noncomputable def enumP (l:List Wd):Nat->Ft
 | 0=>(0,0)
 | e + 1=>
  if (enumP l e).1≠0 then enumP l e
  else match l[e]? with
   | some w=>gv (av (l.take (e + 1))) w.s w.a
   | none=>(0,0)
theorem oG {l:List Wd} {e:Nat} (h:(enumP l e).1≠0):∀ d,enumP l (e + d)=enumP l e
 | 0=>rfl
 | d + 1=>by
  have ih:=oG h d;rw [<- Nat.add_assoc,enumP,ih,if_pos h]
theorem Ad {L:List ByteArray} {x:ByteArray} {a:Int} (h:(gv L x a).1=0):gv L x a=(0,0):=by
 unfold gv at *;split
 ·rename_i h1;rw [if_pos h1] at h;split
  ·rfl
  ·rename_i h2;rw [if_neg h2] at h;simp at h
 ·rename_i h1;rw [if_neg h1] at h;simp at h
theorem E6 {l:List Wd}:∀ {e:Nat},(enumP l e).1=0->enumP l e=(0,0)
 | 0,_=>rfl
 | e + 1,h=>by
  rw [enumP] at h ⊢;split
  ·rename_i h1;rw [if_pos h1] at h;exact absurd h h1
  ·rename_i h1;rw [if_neg h1] at h;split
   ·rename_i w hw;rw [hw] at h;exact Ad h
   ·rfl
theorem uW {l:List Wd} {e:Nat} {w:Wd} (h:(enumP l e).1=0) (hw:l[e]? = some w):enumP l (e + 1)=gv (av (l.take (e + 1))) w.s w.a:=by
 rw [enumP,if_neg (by rw [h];simp),hw]
noncomputable def mH (h:Hd):Ft:=
 if h.af.length=0 then (15,h.aC) else if 64 < h.af.length then (8,((h.af[64]?).getD (⟨al,0⟩:Wd)).a) else enumP h.af h.af.length
abbrev E7 (h:Hd) (ps:Pts) (n e:Nat):St:=
 ⟨[(1,⟨[],.loc 0 0⟩),(2,⟨[],.loc 1 0⟩),(27,⟨[],.sl 2 (bu h.af) none⟩),(28,⟨[],.v (.int .i64 (bu h.af).length)⟩),(29,⟨[],.v (.int .i64 e)⟩),(3,⟨[],.sl 1 (dF (av (h.af.take e))) (some 0)⟩)],
  [dK (.mk h ps),[.v (.int .i64 0),.v (.int .i64 0)]],[⟨n,9,1,none⟩]⟩
theorem jb {l:List Wd} {e:Nat} {w:Wd} (h:l[e]? = some w):dF (av (l.take e)) ++ [[DV.v (.string w.s)]]=dF (av (l.take (e + 1))):=by
 rw [List.take_add_one,h];simp [dF,av]
theorem E8 (h:Hd) (ps:Pts) (hs:wdsWt h.af<=1099511627776):EvP Tryz.prog 216 [.agg (dK (.mk h ps))] (mH h).d:=by
 have hl:=bg h.af;refine ev_go (P:=Tryz.prog) tt tt_ok 5000 48 [.cell 2 54] Tryz.func216 rfl Tryz.ntmps216 rfl (nL rfl) (fun E9 w9 hn9 hm9=>?_);refine br (fun h0=>?_) (fun h0=>?_)
 ·have h0:h.af.length=0:=by have:=h0;simp [aw] at this;simp [this]
  refine call_p dN (bi 15 h.aC) ax rfl ?_;refine ⟨_,?_,rfl⟩;rw [mH,if_pos h0];exact ax
 have h0:¬ h.af.length=0:=by have:=h0;simp [aw] at this;simpa using this
 refine br (fun h1=>?_) (fun h1=>?_)
 ·have h1:64 < h.af.length:=by have:=h1;simp [aw] at this;omega
  obtain ⟨x,hx⟩:∃ x,h.af[64]? = some x:=⟨_,gE h1⟩;refine ⟨jw x,⟨by omega,aK hx⟩,?_⟩;refine call_p dN (bi 8 x.a) ax rfl ?_;refine ⟨_,?_,rfl⟩;rw [mH,if_neg h0,if_pos h1,hx];exact ax
 have h1:¬ 64 < h.af.length:=by have:=h1;simp [aw] at this;omega
 have hk:mH h=enumP h.af h.af.length:=by rw [mH,if_neg h0,if_neg h1]
 rw [hk];refine aq (fun j st=>∃ e:Nat,st=E7 h ps e e/\e<=h.af.length/\(enumP h.af e).1=0/\j=h.af.length - e) h.af.length (E7 h ps 0 0) (fk ⟨0,9,1,none⟩ rfl ⟨_,rfl⟩ rfl wA rfl rfl zS) ⟨0,rfl,by omega,rfl,by omega⟩ ?_;rintro j st ⟨e,rfl,he,hz,rfl⟩;refine br (fun hL=>?_) (fun hL=>?_)
 ·have ap:e < h.af.length:=by simpa [aw] using hL
  obtain ⟨w,hw⟩:∃ w,h.af[e]? = some w:=⟨_,gE ap⟩;have RW:=gX (mG hw);have Cu:=uW hz hw
  have Mc:(av (h.af.take (e + 1)))[(av (h.af.take (e + 1))).length - 1]? = some w.s:=by
   have Bp:(av (h.af.take (e + 1))).length=e + 1:=by simp [av];omega
   rw [Bp];simp [av,hw]
  refine ⟨jw w,⟨by omega,aK hw⟩,?_⟩;refine ⟨by simp [bR,av];omega,⟨by simp [bR,av,maxLen];omega,by simp [bR,av];omega⟩,?_⟩;have eE:=jb hw;have SR:=sB (av (h.af.take (e + 1))) w.s w.a Mc (by simp [av];omega) (by omega);rw [<- eE,<- Cu] at SR;refine call_p RK (SR) ax rfl ?_;refine br (fun hf=>?_) (fun hf=>?_)
  ·have hf:(enumP h.af (e + 1)).1≠0:=by simpa using hf
   refine ⟨_,?_,rfl⟩;have aT:=oG hf (h.af.length - (e + 1));rw [show e + 1 + (h.af.length - (e + 1))=h.af.length by omega] at aT;rw [aT];exact ax
  ·have hf:(enumP h.af (e + 1)).1=0:=by simpa using hf
   refine ⟨E7 h ps (e + 1) (e + 1),(weak_mk ⟨_,rfl⟩ wA rfl rfl rfl (tg ap eE)),h.af.length - (e + 1),by omega,e + 1,rfl,by omega,hf,rfl⟩
 ·have aO:e=h.af.length:=by
   have:=hL;simp [aw] at this;omega
  subst aO;have aT:=E6 hz;refine ⟨_,?_,rfl⟩;rw [aT];exact ax
def Yx (t:Ty) (depth m:Int) (r:DV) (os:List (List DV)) (_:List TkE):Prop:=
 r=(wrong t depth m).1.d/\∃ z:Int,os=[[.v (.int .i64 z)]]/\((wrong t depth m).1.1=0->z=(wrong t depth m).2)
theorem TQ {t:Ty} {depth m:Int}:∀ r os tk,Yx t depth m r os tk->clB 0 0 r=true/\∀ rb∈os,clB.clL 0 0 rb=true:=by
 rintro r os tk ⟨rfl,z,rfl,_⟩;refine ⟨rfl,fun rb h=>?_⟩;simp only [List.mem_singleton] at h;subst h;rfl
theorem Jo (t:Ty) (hc:Ev Tryz.prog 172 [.loc 0 0,.agg (dK t),.v (.int .i64 1)] [[.v (.int .i64 0)]] [] (Yx t 1 0)) :
  EvP Tryz.prog 104 [.agg (dK t)] (wrong t 1 0).1.d:=by
 obtain ⟨h,ps⟩:=t;refine ev_go (P:=Tryz.prog) tt tt_ok 5000 9 [.cell 2 54] Tryz.func104 rfl Tryz.ntmps104 rfl (nL rfl) (fun E9 w9 hn9 hm9=>?_);refine lE LK rfl rfl ax ax hc TQ (fun r rb hr=>?_);obtain ⟨rfl,z,hz,_⟩:=hr;simp only [List.cons.injEq,and_true] at hz;subst hz;exact ⟨_,ax,rfl⟩
def ku (n:Nat):List UInt8:=if n < 10 then [UInt8.ofNat (48 + n)] else ku (n / 10) ++ [UInt8.ofNat (48 + n % 10)]
termination_by n
decreasing_by omega
theorem lI {n:Nat} (h:n < 10):ku n=[UInt8.ofNat (48 + n)]:=by rw [ku,if_pos h]
theorem pL {n:Nat} (h:¬ n < 10):ku n=ku (n / 10) ++ [UInt8.ofNat (48 + n % 10)]:=by rw [ku,if_neg h]
theorem Cv:∀ (k n:Nat),n < 10 ^ (k + 1)->(ku n).length<=k + 1
 | 0,n,h=>by
  have:n < 10:=by simpa using h
  rw [lI this];simp
 | k + 1,n,h=>by
  by_cases hn:n < 10
  ·rw [lI hn];simp
  ·rw [pL hn]
   have h2:n / 10 < 10 ^ (k + 1):=by
    rw [Nat.div_lt_iff_lt_mul (by decide)];rw [Nat.pow_succ] at h;exact h
   have:=Cv k (n / 10) h2;simp only [List.length_append,List.length_cons,List.length_nil];omega
theorem digs_20 {n:Nat} (h:n<=18446744073709551616):(ku n).length<=20:=Cv 19 n (by omega)
def iT (z:Int):List UInt8:=if z < 0 then 45 :: ku z.natAbs else ku z.natAbs
def tw (z:Int):ByteArray:=⟨(iT z).toArray⟩
theorem Cw {z:Int} (h1 : -9223372036854775808<=z) (h2:z<=9223372036854775807):(iT z).length<=21:=by
 have:=digs_20 (n:=z.natAbs) (by omega);unfold iT;split
 ·simp only [List.length_cons];omega
 ·omega
theorem kL {z:Int} (h1 : -9223372036854775808<=z) (h2:z<=9223372036854775807):(tw z).size<=21:=Cw h1 h2
theorem bU (a b:List UInt8):(⟨a.toArray⟩:ByteArray) ++ ⟨b.toArray⟩=⟨(a ++ b).toArray⟩:=by
 apply ByteArray.ext;simp
theorem wr (z:Int) (h1 : -9223372036854775808<=z) (h2:z<=9223372036854775807):IntKind.i64.wrap z=z:=by
 rw [IntKind.wrap_i64];omega
theorem lJ {z:Int} (h:0<=z):iT z=ku z.toNat:=by
 unfold iT;rw [if_neg (by omega)];congr 1;omega
theorem pM:∀ (N:Nat) (z:Int),0<=z->z<=9223372036854775807->z.toNat < N->EvP Tryz.prog 70 [.v (.int .i64 z)] (.v (.string (tw z)))
 | 0,z,_,_,h=>by omega
 | N + 1,z,h0,h1,hN=>by
  have ih:=pM N;refine ev_go (P:=Tryz.prog) tt tt_ok 5000 33 [.tmp 2] Tryz.func70 rfl Tryz.ntmps70 rfl (nL rfl) (fun E9 w9 hn9 hm9=>?_);refine br (fun h=>?_) (fun _=>?_)
  ·have:z < 0:=by simpa using h
   omega
  refine br (fun h=>?_) (fun h=>?_)
  ·have hz:z < 10:=by simpa using h
   have hw:IntKind.i64.wrap (48 + z)=48 + z:=wr _ (by omega) (by omega);refine ⟨[UInt8.ofNat (48 + z.toNat)],?_,?_⟩
   ·simp only [List.flatten_cons,List.flatten_nil,List.append_nil,u8L,List.cons.injEq,and_true];refine congrArg (fun x=>DV.v (.int .u8 x)) ?_;rw [hw,IntKind.wrap_u8]
    have:(UInt8.ofNat (48 + z.toNat)).toNat=48 + z.toNat:=by
     rw [UInt8.toNat_ofNat'];omega
    rw [this];omega
   ·refine (congrArg (fun s=>DV.v (.string s)) ?_:_=_);rw [tw,lJ h0,lI (by omega)]
  ·have hz:¬ z < 10:=by simpa using h
   have hq:IntKind.i64.wrap (z.tdiv 10)=((z.toNat / 10:Nat):Int):=by
    have:z.tdiv 10=z / 10:=Int.tdiv_eq_ediv_of_nonneg h0;rw [this,wr _ (by omega) (by omega)];omega
   have hr:z.tmod 10=((z.toNat % 10:Nat):Int):=by
    rw [Int.tmod_eq_emod_of_nonneg h0];omega
   refine ⟨⟨rfl,by decide⟩,?_⟩;refine call_p B8 (ih (IntKind.i64.wrap (z.tdiv 10)) (by rw [hq];omega) (by rw [hq];omega) (by rw [hq];omega)) ax rfl ?_;refine ⟨⟨rfl,by decide⟩,?_⟩;refine call_p B8 (ih (z.tmod 10) (by rw [hr];omega) (by rw [hr];omega) (by rw [hr];omega)) ax rfl ?_;rw [hq,hr];have l1:=kL (z:=((z.toNat / 10:Nat):Int)) (by omega) (by omega);have l2:=kL (z:=((z.toNat % 10:Nat):Int)) (by omega) (by omega);refine ⟨by omega,?_⟩;refine (congrArg (fun s=>DV.v (.string s)) ?_:_=_);simp only [tw];rw [bU,lJ h0,lJ (by omega),lJ (by omega),pL (n:=z.toNat) (by omega),lI (n:=((z.toNat % 10:Nat):Int).toNat) (by omega)];rfl
theorem pN {z:Int} (h:z < 0):iT z=45 :: ku z.natAbs:=by unfold iT;rw [if_pos h]
theorem Cx:∀ (N:Nat) (z:Int),z < 0 -> -9223372036854775808<=z->z.natAbs < N->EvP Tryz.prog 70 [.v (.int .i64 z)] (.v (.string (tw z)))
 | 0,z,_,_,h=>by omega
 | N + 1,z,h0,h1,hN=>by
  have ih:=Cx N;refine ev_go (P:=Tryz.prog) tt tt_ok 5000 33 [.tmp 2] Tryz.func70 rfl Tryz.ntmps70 rfl (nL rfl) (fun E9 w9 hn9 hm9=>?_);refine br (fun _=>?_) (fun h=>?_)
  ·refine br (fun h=>?_) (fun h=>?_)
   ·have hz : -10 < z:=by simpa using h
    have hw:IntKind.i64.wrap (0 - z) = -z:=by rw [wr _ (by omega) (by omega)];omega
    refine call_p B8 (pM (z.natAbs + 1) (IntKind.i64.wrap (0 - z)) (by rw [hw];omega) (by rw [hw];omega) (by rw [hw];omega)) ax rfl ?_;rw [hw];have l1:=kL (z:=-z) (by omega) (by omega);refine ⟨by show 1 + (tw (-z)).size<=_;omega,?_⟩;refine (congrArg (fun s=>DV.v (.string s)) ?_:_=_);simp only [tw];rw [pN h0,lJ (z:=-z) (by omega),show (-z).toNat=z.natAbs by omega];exact bU [45] _
   ·have hz:¬ -10 < z:=by simpa using h
    have hq:IntKind.i64.wrap (z.tdiv 10) = -((z.natAbs / 10:Nat):Int):=by
     have:z.tdiv 10 = -((z.natAbs / 10:Nat):Int):=by
      have e:z = -(z.natAbs:Int):=by omega
      rw [e,Int.neg_tdiv,Int.natAbs_neg,Int.natAbs_natCast,Int.tdiv_eq_ediv_of_nonneg (by omega)];omega
     rw [this,wr _ (by omega) (by omega)]
    have hr:z.tmod 10 = -((z.natAbs % 10:Nat):Int):=by
     have e:z = -(z.natAbs:Int):=by omega
     rw [e,Int.neg_tmod,Int.natAbs_neg,Int.natAbs_natCast,Int.tmod_eq_emod_of_nonneg (by omega)];omega
    have hw:IntKind.i64.wrap (0 - z.tmod 10)=((z.natAbs % 10:Nat):Int):=by
     rw [hr,wr _ (by omega) (by omega)];omega
    refine ⟨⟨rfl,by decide⟩,?_⟩;refine call_p B8 (ih (IntKind.i64.wrap (z.tdiv 10)) (by rw [hq];omega) (by rw [hq];omega) (by rw [hq];omega)) ax rfl ?_;refine ⟨⟨rfl,by decide⟩,?_⟩;refine call_p B8 (pM 11 (IntKind.i64.wrap (0 - z.tmod 10)) (by rw [hw];omega) (by rw [hw];omega) (by rw [hw];omega)) ax rfl ?_;rw [hq,hw];have l1:=kL (z:=-((z.natAbs / 10:Nat):Int)) (by omega) (by omega);have l2:=kL (z:=((z.natAbs % 10:Nat):Int)) (by omega) (by omega);refine ⟨by omega,?_⟩;refine (congrArg (fun s=>DV.v (.string s)) ?_:_=_);simp only [tw];rw [bU,pN h0,pN (by omega),lJ (by omega),pL (n:=z.natAbs) (by omega),lI (n:=((z.natAbs % 10:Nat):Int).toNat) (by omega),Int.natAbs_neg,Int.natAbs_natCast];rfl
  ·have:¬ z < 0:=by simpa using h
   omega
theorem Fa (z:Int) (h1 : -9223372036854775808<=z) (h2:z<=9223372036854775807):EvP Tryz.prog 70 [.v (.int .i64 z)] (.v (.string (tw z))):=by
 by_cases h:z < 0
 ·exact Cx _ z h h1 (Nat.lt_succ_self _)
 ·exact pM _ z (by omega) h2 (Nat.lt_succ_self _)
theorem pO:∀ bs:List UInt8,u8L bs=bs.map fun b=>DV.v (.int .u8 (b.toNat:Int))
 | []=>rfl
 | b :: r=>by simp [u8L,pO r]
theorem Ae (bs:List UInt8):(u8L bs).length=bs.length:=by simp [pO]
theorem HJ (a b:List UInt8):u8L (a ++ b)=u8L a ++ u8L b:=by simp [pO]
theorem Md (n:Nat) (a:List UInt8):u8L (a.take n)=(u8L a).take n:=by simp [pO,List.map_take]
theorem Cy (n:Nat) (a:List UInt8):u8L (a.drop n)=(u8L a).drop n:=by simp [pO,List.map_drop]
theorem HK {n m:Nat} {tk:List TkE}:∀ bs:List UInt8,WeL n m tk (u8L bs) (u8L bs)
 | []=>rfl
 | b :: r=>⟨_,_,rfl,ah rfl,HK r⟩
theorem rj {n m:Nat} {tk:List TkE} {l:List DV} {bs:List UInt8} (h:l=u8L bs):WeL n m tk l (u8L bs):=by rw [h];exact HK bs
theorem Me (n:Nat):0 < (ku n).length:=by
 rw [ku];split<;>simp
abbrev Cz (m:Bool) (u a:Nat) (bs:List UInt8):St:=⟨[(3,⟨[],.v (.bool m)⟩),(4,⟨[],.v (.int .u64 u)⟩),(5,⟨[],.loc 0 0⟩),(6,⟨[],.v (.int .i64 a)⟩)],[u8L bs],[]⟩
def TR (m:Bool) (N j:Nat) (st:St):Prop:=∃ (u a:Nat) (bs:List UInt8),st=Cz m u a bs/\bs.length=20/\a<=20/\u < 18446744073709551616 /\
 ((a < 20/\u=0/\ku N=bs.drop a)∨((a=20∨0 < u)/\ku N=ku u ++ bs.drop a))/\j=a
theorem putI_0 (m:Bool) (N:Nat) (h:N < 18446744073709551616):TR m N 20 (Cz m N 20 (List.replicate 20 0)):=
 ⟨N,20,_,rfl,by simp,Nat.le_refl _,h,.inr ⟨.inl rfl,by simp⟩,rfl⟩
theorem Mf (z:Int) (h1 : -9223372036854775808<=z) (h2:z<=9223372036854775807):EvP Tryz.prog 67 [.v (.int .i64 z)] (.v (.string (tw z))):=by
 have hN:z.natAbs<=9223372036854775808:=by omega
 refine ev_go (P:=Tryz.prog) tt tt_ok 5000 38 [.tmp 2] Tryz.func67 rfl Tryz.ntmps67 rfl (nL rfl) (fun E9 w9 hn9 hm9=>?_);refine br (fun h=>?_) (fun h=>?_)
 case' refine_1=>
  have hz:z < 0:=by simpa using h
  have hu:IntKind.u64.wrap (0 - IntKind.u64.wrap z)=(z.natAbs:Int):=by
   simp only [IntKind.wrap_u64];omega
  refine aq (TR (decide (z < 0)) z.natAbs) 20 (Cz (decide (z < 0)) z.natAbs 20 (List.replicate 20 0)) (weak_mk ⟨_,rfl⟩ (by repeat' (first | exact rfl | exact ah rfl | exact rj rfl | refine ⟨_,_,rfl,?_,?_⟩)) rfl rfl rfl (by repeat' (first | exact trivial | exact ah rfl | exact ak hu | exact rj rfl | refine ⟨⟨_,rfl,?_⟩,?_⟩))) (putI_0 _ _ (by omega)) ?_
 case' refine_2=>
  have hz:¬ z < 0:=by simpa using h
  have hu:IntKind.u64.wrap z=(z.natAbs:Int):=by
   simp only [IntKind.wrap_u64];omega
  refine aq (TR (decide (z < 0)) z.natAbs) 20 (Cz (decide (z < 0)) z.natAbs 20 (List.replicate 20 0)) (weak_mk ⟨_,rfl⟩ (by repeat' (first | exact rfl | exact ah rfl | exact rj rfl | refine ⟨_,_,rfl,?_,?_⟩)) rfl rfl rfl (by repeat' (first | exact trivial | exact ah rfl | exact ak hu | exact rj rfl | refine ⟨⟨_,rfl,?_⟩,?_⟩))) (putI_0 _ _ (by omega)) ?_
 all_goals
  clear hu hz h;rintro a st ⟨u,j,bs,rfl,hbl,ha,hu64,hinv,rfl⟩;refine br (fun h=>?_) (fun h=>?_)
  ·have hc:a=20∨0 < u:=by
    simp [aj] at h;omega
   have hd:ku z.natAbs=ku u ++ bs.drop a:=by
    rcases hinv with ⟨h3,h4,_⟩ | ⟨_,h3⟩
    ·omega
    ·exact h3
   have hp:0 < a:=by
    have e1:=congrArg List.length hd;have e2:=Me u;have e3:=digs_20 (n:=z.natAbs) (by omega);simp only [List.length_append,List.length_drop,hbl] at e1;omega
   have Yy:IntKind.i64.wrap ((a:Int) - 1)=((a - 1:Nat):Int):=by rw [wr _ (by omega) (by omega)];omega
   have hb:IntKind.u8.wrap (48 + IntKind.u8.wrap ((u:Int).tmod 10))=((UInt8.ofNat (48 + u % 10)).toNat:Int):=by
    rw [Int.tmod_eq_emod_of_nonneg (by omega),UInt8.toNat_ofNat',IntKind.wrap_u8',IntKind.wrap_u8'];omega
   have hq:IntKind.u64.wrap ((u:Int).tdiv 10)=((u / 10:Nat):Int):=by
    rw [Int.tdiv_eq_ediv_of_nonneg (by omega),IntKind.wrap_u64];omega
   refine ⟨⟨rfl,by decide⟩,?_⟩;refine ⟨⟨by rw [Yy];omega,by rw [Yy];omega⟩,?_⟩;have te:0 + (IntKind.i64.wrap ((a:Int) - 1)).toNat * 1=a - 1:=by rw [Yy];omega
   refine ⟨by rw [te,Ae,hbl];omega,?_⟩;refine ⟨⟨rfl,by decide⟩,?_⟩
   have ct:(u8L bs).set (0 + (IntKind.i64.wrap ((a:Int) - 1)).toNat * 1) (DV.v (.int .u8 (IntKind.u8.wrap (48 + IntKind.u8.wrap ((u:Int).tmod 10)))))=u8L (bs.take (a - 1) ++ [UInt8.ofNat (48 + u % 10)] ++ bs.drop a):=by
    rw [te,hb,List.set_eq_take_append_cons_drop,if_pos (by rw [Ae,hbl];omega),HJ,HJ,Md,Cy,show a - 1 + 1=a by omega];simp [u8L]
   refine ⟨Cz (decide (z < 0)) (u / 10) (a - 1) (bs.take (a - 1) ++ [UInt8.ofNat (48 + u % 10)] ++ bs.drop a),(az 1 rfl (by repeat' (first | exact rfl | exact ah rfl | exact rj ct | exact ak Yy | exact ak hq | refine ⟨_,_,rfl,?_,?_⟩)) rfl rfl rfl (by repeat' (first | exact trivial | exact ah rfl | exact rj ct | exact ak Yy | exact ak hq | refine ⟨⟨_,rfl,?_⟩,?_⟩))),a - 1,by omega,u / 10,a - 1,_,rfl,by simp;omega,by omega,by omega,?_,rfl⟩
   have Yz:(bs.take (a - 1) ++ [UInt8.ofNat (48 + u % 10)] ++ bs.drop a).drop (a - 1)=UInt8.ofNat (48 + u % 10) :: bs.drop a:=by
    rw [List.append_assoc,List.drop_append_of_le_length (by simp;omega),List.drop_eq_nil_of_le (by simp;omega)];rfl
   rw [Yz,hd];by_cases pq:u < 10
   ·refine .inl ⟨by omega,by omega,?_⟩;rw [lI pq,Nat.mod_eq_of_lt pq];all_goals rfl
   ·refine .inr ⟨.inr (by omega),?_⟩;rw [pL pq,List.append_assoc];all_goals rfl
  ·have hc:a≠20/\u=0:=by
    simp [aj] at h;omega
   have hd:ku z.natAbs=bs.drop a:=by
    rcases hinv with ⟨_,_,h3⟩ | ⟨h3,_⟩
    ·exact h3
    ·omega
   have hdu:((u8L bs).drop (0 + (a:Int).toNat * 1)).take (((20:Nat):Int).toNat - (a:Int).toNat)=u8L (bs.drop a):=by
    rw [Cy,show 0 + (a:Int).toNat * 1=a by omega];exact List.take_of_length_le (by simp [Ae,hbl])
   have hl:(bs.drop a).length=((20:Nat):Int).toNat - (a:Int).toNat:=by simp [hbl]
   refine br (fun hz=>?_) (fun hz=>?_)
   ·have hz:z < 0:=by simpa using hz
    refine ⟨⟨by omega,by omega,by omega⟩,?_⟩;refine ⟨bs.drop a,hdu,hl,?_⟩;refine ⟨by show 1 + (bs.drop a).length<=_;rw [hl];omega,?_⟩;refine (congrArg (fun s=>DV.v (.string s)) ?_:_=_);rw [<- hd,tw,pN hz];exact bU [45] _
   ·have hz:¬ z < 0:=by simpa using hz
    refine ⟨⟨by omega,by omega,by omega⟩,?_⟩;refine ⟨bs.drop a,hdu,hl,?_⟩;refine (congrArg (fun s=>DV.v (.string s)) ?_:_=_);rw [<- hd,tw,lJ (by omega),show z.toNat=z.natAbs by omega]
abbrev ba (l:List UInt8):ByteArray:=⟨l.toArray⟩
def tx (s:ByteArray):List UInt8:=s.data.toList
theorem rk {s:ByteArray} {l:List UInt8} (h:tx s=l):s=ba l:=by
 subst h;apply ByteArray.ext;simp [tx]
theorem Mg (s t:ByteArray):tx (s ++ t)=tx s ++ tx t:=by simp [tx]
theorem mI (l:List UInt8):tx (ba l)=l:=by simp [tx]
theorem oe (s:ByteArray):ba (tx s)=s:=(rk rfl).symm
theorem bm (s:ByteArray):(tx s).length=s.size:=by simp [tx]
theorem eS (s t:ByteArray):(s ++ t).size=s.size + t.size:=by simp
theorem HL (l:List UInt8):(ba l).size=l.length:=rfl
def uX (z:Int):Prop:=-9223372036854775808<=z/\z<=9223372036854775807
theorem iJ {n m:Nat} {bW:List TkE} {x y:ByteArray} (h:x=y):We n m bW (.v (.string x)) (.v (.string y)):=.inl ⟨by rw [h],rfl⟩
end Go.Proofs.YtfifjddnnmfeoaaGreat
set_option maxRecDepth 100000
namespace Go.Proofs.YtfifjddnnmfeoaaGreat
open Go Go.RowKit Dv Tryz
end Go.Proofs.YtfifjddnnmfeoaaGreat
set_option maxRecDepth 100000
namespace Go.Proofs.YtfifjddnnmfeoaaGreat
open Go Go.RowKit Dv Tryz
end Go.Proofs.YtfifjddnnmfeoaaGreat
set_option maxRecDepth 100000
namespace Go.Proofs
open Go.Shelf
end Go.Proofs
namespace Go.Proofs.YtfifjddnnmfeoaaGreat
open Go Go.RowKit Dv Tryz
theorem Jp {P:Program} {f:FuncId} {args:List DV} {d:DV}
  (h:∀ (E:En) (w:World) (vs:List Value),Env E [] w->RvL E args vs->Calls P f vs.toArray w fun e w'=>∃ v,e = .returned v/\Rv E d v/\Below w.heap.size w w'):EvP P f args d:=by
 intro E w vs hE iH hv;refine (h E w vs hE hv).mono ?_;rintro e w' ⟨v,rfl,hr,hb⟩;exact ⟨v,rfl,⟨hb.os,hb.tape,hb.output,hb.size,fun k hk _=>hb.block k hk⟩,fun hf=>(by cases hf),d,[],E,hE.kh hb.block,rfl,rfl,Nw.refl hE,hr,rfl⟩
def jz (l:List (List UInt8)):List (List DV):=l.map fun x=>[.v (.string (ba x))]
theorem Jq (l:List (List UInt8)):(jz l).length=l.length:=by simp [jz]
end Go.Proofs.YtfifjddnnmfeoaaGreat
set_option maxRecDepth 100000
namespace Go.Proofs.YtfifjddnnmfeoaaGreat
open Go Go.RowKit Dv Tryz
end Go.Proofs.YtfifjddnnmfeoaaGreat
set_option maxRecDepth 100000
namespace Go.Proofs.YtfifjddnnmfeoaaGreat
open Go Go.RowKit Dv Tryz
end Go.Proofs.YtfifjddnnmfeoaaGreat
set_option maxRecDepth 100000
namespace Go.Proofs.YtfifjddnnmfeoaaGreat
open Go Go.RowKit Dv Tryz
end Go.Proofs.YtfifjddnnmfeoaaGreat
set_option maxRecDepth 100000
namespace Go.Proofs.YtfifjddnnmfeoaaGreat
open Go Go.RowKit Dv Tryz
mutual
def rngT:Ty->Prop
 | .mk h ps=>uX h.lo/\uX h.hi/\uX h.most/\rngP ps
def rngP:Pts->Prop
 | .nil=>True
 | .cons p t r=>uX p.wide/\uX p.cn/\rngT t/\rngP r
end
end Go.Proofs.YtfifjddnnmfeoaaGreat
namespace Go.Proofs.YtfifjddnnmfeoaaGreat
namespace Dv
open Go Go.RowKit
def TypFs (f:TypeId->List DV->Prop):List TypeId->List DV->Prop
 | [],ds=>ds=[]
 | t :: r,ds=>∃ a b,ds=a ++ b/\f t a/\TypFs f r b
def Typ (P:Program):Nat->TypeId->List DV->Prop
 | 0,_,_=>False
 | n + 1,t,ds=>
  match P.underlying t with
  | some .bool=>∃ b,ds=[.v (.bool b)]
  | some (.int k)=>∃ z,ds=[.v (.int k z)]/\(Lit.int k z).wf=true
  | some .string=>∃ s:ByteArray,ds=[.v (.string s)]
  | some (.slice e)=>∃ es,ds=[.sl (P.cellsOf e) es none]/\∀ cs∈es,Typ P n e cs
  | some (.struct fs)=>TypFs (Typ P n) (fs.toList.map (·.type)) ds
  | _=>False
mutual
def wgD:DV->Nat
 | .v (.string s)=>s.size + 64
 | .sl _ es _=>64 + wgEs es
 | _=>64
def wgL:List DV->Nat
 | []=>0
 | d :: r=>wgD d + wgL r
def wgEs:List (List DV)->Nat
 | []=>0
 | cs :: r=>wgL cs + wgEs r
end
theorem eT:∀ a b:List DV,wgL (a ++ b)=wgL a + wgL b
 | [],b=>by simp [wgL]
 | d :: r,b=>by simp only [List.cons_append,wgL,eT r b];omega
def laidF (P:Program) (S:List TypeId):Nat->List Field->Nat->Bool
 | off,[],n=>decide (off=n)
 | off,f :: r,n=>decide (f.offset=off) && S.contains f.type && laidF P S (off + P.cellsOf f.type) r n
def lK (P:Program) (S:List TypeId) (t:TypeId):Bool:=
 match P.underlying t with
 | some .bool=>decide (P.cellsOf t=1)
 | some (.int _)=>decide (P.cellsOf t=1)
 | some .string=>decide (P.cellsOf t=1)
 | some (.slice e)=>decide (P.cellsOf t=1) && S.contains e && decide (0 < P.cellsOf e)
 | some (.struct fs)=>laidF P S 0 fs.toList (P.cellsOf t)
 | _=>false
def bkS {H:Type} (bk:DataW H->Nat):List (DataW H)->Nat
 | []=>0
 | d :: r=>bk d + bkS bk r
structure Bk {H:Type} (bk:DataW H->Nat):Prop where
 str:∀ l:List UInt8,l.length + 1<=bk (.lit (.string l))
 lit:∀ l,1<=bk (.lit l)
 nil:1<=bk .nil
 slice:∀ es sp,1 + bkS bk es<=bk (.slice es sp)
 agg:∀ l,bkS bk l<=bk (.agg l)
def Fb (w:World):En:=⟨fun a=>w.cell? a,[],[],[]⟩
theorem PS (w:World):Env (Fb w) [] w where
 len:=rfl
 tl:=rfl
 eu:=by simp
 inj:=List.nodup_nil
 sub:=fun x u hx=>hx
 pc:=by simp [Fb]
 cI:=by simp [Fb]
 iX:=by simp [Fb]
theorem Jr {w:World} {a:Addr} {k:Nat} {v:Value} (h:w.cell? (a.add k)=some v):w.cell? ⟨a.block,a.off + k,none⟩=some v:=by
 unfold Addr.add at h;split at h
 ·rename_i hk;subst hk;unfold World.cell? at h ⊢;split at h
  ·rename_i c e z he;split at h
   ·cases h
   ·simpa [he] using h
  ·cases h
 ·exact h
theorem Js {w:World} {a:Addr} {v:Value} (h:w.cell? a=some v):a.spot=none:=by
 unfold World.cell? at h;split at h
 ·split at h
  ·cases h
  ·rename_i hs;simpa using hs
 ·cases h
theorem uY {E:En} {b:Nat}:∀ {p:Nat} {ds:List DV} {vs:List Value},RvL E.cl ds vs->(∀ (j:Nat) v,vs[j]? = some v->E.c ⟨b,p + j,none⟩=some v/\v.oneCell'=true)->RvAt E.cl b p ds
 | p,[],vs,h,hc=>by simp only [RvAt]
 | p,d :: r,vs,h,hc=>by
  simp only [RvL] at h;obtain ⟨v,s,rfl,h1,h2⟩:=h;simp only [RvAt];obtain ⟨c1,c2⟩:=hc 0 v rfl;refine ⟨⟨v,c1,c2,h1⟩,uY (p:=p + 1) h2 fun j u hj=>?_⟩;have:=hc (j + 1) u hj;rw [show p + 1 + j=p + (j + 1) by omega];exact this
section
variable {H:Type} {enc:TypeId × Value->H} {P:Program} {w:World} {sp:Nat->Bool} {held:Bool} {S:List TypeId} {bk:DataW H->Nat}
def Rd (enc:TypeId × Value->H) (P:Program) (w:World) (bk:DataW H->Nat) (n:Nat) (t:TypeId) (cs:List Value) (d:DataW H):Prop:=
 ∃ ds,RvL (Fb w) ds cs/\(∀ v∈cs,v.oneCell'=true)/\Typ P n t ds/\wgL ds<=64 * bk d/\cs.length=P.cellsOf t
theorem yy {n:Nat} (ih:∀ t cs x,t∈S->DataW.trod enc P w 0 sp held n t cs=some x->Rd enc P w bk n t cs x.1) (cs:List Value) :
  ∀ (fs:List Field) (off:Nat) (xs:List (DataW H × List MemPlace)),laidF P S off fs cs.length=true->xs.length=fs.length ->
   (∀ (i:Nat) f,fs[i]? = some f->DataW.trod enc P w 0 sp held n f.type ((cs.drop f.offset).take (P.cellsOf f.type))=xs[i]?) ->
   ∃ ds,RvL (Fb w) ds (cs.drop off)/\(∀ v∈cs.drop off,v.oneCell'=true)/\TypFs (Typ P n) (fs.map (·.type)) ds/\wgL ds<=64 * bkS bk (xs.map (·.1))
 | [],off,xs,hl,xf,hx=>by
  simp only [laidF,decide_eq_true_eq] at hl;subst hl;simp only [List.length_nil,List.length_eq_zero_iff] at xf;subst xf;exact ⟨[],by simpa using cj _,by simp,by simp [TypFs],by simp [wgL]⟩
 | f :: r,off,xs,hl,xf,hx=>by
  simp only [laidF,Bool.and_eq_true,decide_eq_true_eq] at hl;obtain ⟨⟨Vy,hS⟩,hl⟩:=hl
  match xs,xf with
  | x :: xs,xf=>
   have h0:=hx 0 f rfl;rw [Vy] at h0;simp only [List.getElem?_cons_zero] at h0;obtain ⟨ds0,r1,r2,r3,r4,r5⟩:=ih f.type _ x (by simpa using hS) h0;obtain ⟨ds1,s1,s2,s3,s4⟩:=yy ih cs r (off + P.cellsOf f.type) xs hl (by simpa using xf) (fun i g hg=>by simpa using hx (i + 1) g (by simpa using hg))
   have Mh:cs.drop off=(cs.drop off).take (P.cellsOf f.type) ++ cs.drop (off + P.cellsOf f.type):=by
    rw [<- List.drop_drop,List.take_append_drop]
   refine ⟨ds0 ++ ds1,?_,?_,?_,?_⟩
   ·rw [Mh];exact RvL.append r1 s1
   ·rw [Mh];intro v hv;rcases List.mem_append.1 hv with hv | hv
    ·exact r2 v hv
    ·exact s2 v hv
   ·simp only [List.map_cons,TypFs];exact ⟨ds0,ds1,rfl,r3,s3⟩
   ·rw [eT];simp only [List.map_cons,bkS];omega
theorem CA {n e:Nat} (ih:∀ t cs x,t∈S->DataW.trod enc P w 0 sp held n t cs=some x->Rd enc P w bk n t cs x.1) (he:e∈S) (a:Addr) :
  ∀ (xs:List (DataW H × List MemPlace)) (i0:Nat),(∀ i,i < xs.length->(w.cells? 0 (a.add ((i0 + i) * P.cellsOf e)) (P.cellsOf e)).bind (DataW.trod enc P w 0 sp held n e)=xs[i]?) ->
   ∃ es,es.length=xs.length/\RvEs (Fb w) (P.cellsOf e) a.block (a.off + i0 * P.cellsOf e) es/\(∀ cs∈es,Typ P n e cs)/\wgEs es<=64 * bkS bk (xs.map (·.1))
 | [],i0,hx=>⟨[],rfl,by simp only [RvEs],by simp,by simp [wgEs]⟩
 | x :: xs,i0,hx=>by
  have h0:=hx 0 (by simp);simp only [Nat.add_zero,List.getElem?_cons_zero] at h0;obtain ⟨cs,ct,ht⟩:=Option.bind_eq_some_iff.1 h0;obtain ⟨_,hlen,mB⟩:=World.cells?_some ct;obtain ⟨ds0,r1,r2,r3,r4,r5⟩:=ih e cs x he ht
  obtain ⟨es,s1,s2,s3,s4⟩:=CA ih he a xs (i0 + 1) (fun i hi=>by
   have:=hx (i + 1) (by simpa using hi);simp only [List.getElem?_cons_succ] at this;rw [show i0 + 1 + i=i0 + (i + 1) by omega]
   exact this)
  refine ⟨ds0 :: es,by simp [s1],?_,?_,?_⟩
  ·simp only [RvEs];refine ⟨by rw [<- r1.length,hlen],uY (E:=Fb w) r1 fun j v hj=>⟨?_,r2 v (mG hj)⟩,?_⟩
   ·have lh:j < P.cellsOf e:=by rw [<- hlen];exact (gS hj).1
    have h1:=mB j lh;rw [hj,Deep.add_add] at h1;have h2:=Jr h1;show w.cell? _=_;rw [Nat.add_assoc];exact h2
   ·rw [Nat.add_assoc,show i0 * P.cellsOf e + P.cellsOf e=(i0 + 1) * P.cellsOf e by rw [Nat.add_mul,Nat.one_mul]];exact s2
  ·intro cs' hc;rcases List.mem_cons.1 hc with hc | hc
   ·subst hc;exact r3
   ·exact s3 cs' hc
  ·simp only [wgEs,List.map_cons,bkS];omega
theorem Af (pP:Bk bk) (hS:∀ t∈S,lK P S t=true):∀ (n:Nat) (t:TypeId) (cs:List Value) (x:DataW H × List MemPlace),t∈S->DataW.trod enc P w 0 sp held n t cs=some x->Rd enc P w bk n t cs x.1
 | 0,t,cs,x,_,h=>by simp [DataW.trod] at h
 | n + 1,t,cs,x,ht,h=>by
  have hf:=hS t ht;unfold lK at hf;unfold Rd
  cases hu:P.underlying t with
  | none=>rw [hu] at hf;cases hf
  | some D=>
   rw [hu] at hf
   cases D with
   | bool=>
    simp only [decide_eq_true_eq] at hf;obtain ⟨b,rfl,rfl⟩:=DataW.trod_bool hu h;have:=pP.lit (.bool b);exact ⟨[.v (.bool b)],rvL_one (by unfold Rv;exact ⟨rfl,rfl⟩),by simp [Value.oneCell'],by simp only [Typ,hu];exact ⟨b,rfl⟩,by simp only [wgL,wgD];omega,by simp [hf]⟩
   | int k=>
    simp only [decide_eq_true_eq] at hf;obtain ⟨z,rfl,rfl,hw⟩:=DataW.trod_int hu h;have:=pP.lit (.int k z);exact ⟨[.v (.int k z)],rvL_one (by unfold Rv;exact ⟨rfl,rfl⟩),by simp [Value.oneCell'],by simp only [Typ,hu];exact ⟨z,rfl,hw⟩,by simp only [wgL,wgD];omega,by simp [hf]⟩
   | string=>
    simp only [decide_eq_true_eq] at hf;obtain ⟨s,rfl,rfl,hw⟩:=DataW.trod_string hu h;have:=pP.str s.data.toList;have bE:s.data.toList.length=s.size:=by rw [Array.length_toList];all_goals rfl
    exact ⟨[.v (.string s)],rvL_one (by unfold Rv;exact ⟨rfl,rfl⟩),by simp [Value.oneCell'],by simp only [Typ,hu];exact ⟨s,rfl⟩,by simp only [wgL,wgD];omega,by simp [hf]⟩
   | slice e=>
    simp only [Bool.and_eq_true,decide_eq_true_eq] at hf;obtain ⟨⟨KM,zL⟩,hf3⟩:=hf;rcases DataW.trod_slice hu h with ⟨rfl,rfl⟩ | ⟨a,len,cap,elems,rest,m,hm,rfl,rfl,_,Vm,_,kj,hx,_,_⟩
    ·have:=pP.nil;refine ⟨[.sl (P.cellsOf e) [] none],rvL_one ?_,by simp [Value.oneCell'],by simp only [Typ,hu];exact ⟨[],rfl,by simp⟩,by simp only [wgL,wgD,wgEs];omega,by simp [KM]⟩;unfold Rv;exact ⟨none,0,0,rfl,⟨rfl,Nat.le_refl _⟩,fun hc=>absurd rfl hc,fun k hk=>by cases hk⟩
    ·simp only [Nat.add_right_cancel_iff] at hm;subst hm;obtain ⟨es,s1,s2,s3,s4⟩:=CA (fun t cs x=>Af pP hS n t cs x) (by simpa using zL) a elems 0 (fun i hi=>by simpa using hx i (by omega));have hb:=pP.slice (elems.map (·.1)) (rest.map (·.1));refine ⟨[.sl (P.cellsOf e) es none],rvL_one ?_,by simp [Value.oneCell'],by simp only [Typ,hu];exact ⟨es,rfl,s3⟩,by simp only [wgL,wgD];omega,by simp [KM]⟩;unfold Rv;refine ⟨some a,len,cap,rfl,⟨by omega,Vm⟩,fun aN=>⟨?_,?_⟩,fun k hk=>by cases hk⟩
     ·have ki:0 < len:=by
       rw [<- kj,<- s1];exact List.length_pos_iff.2 aN
      have h0:=hx 0 ki;rw [gE (by omega)] at h0;obtain ⟨cs,ct,_⟩:=Option.bind_eq_some_iff.1 h0;obtain ⟨_,hlen,mB⟩:=World.cells?_some ct;have h1:=mB 0 hf3;rw [gE (by omega),Deep.add_add] at h1;simp only [Nat.zero_mul,Nat.add_zero] at h1;exact Js (a:=a) h1
     ·have s2':RvEs (Fb w) (P.cellsOf e) a.block a.off es:=by simpa using s2
      exact s2'
   | struct fs=>
    obtain ⟨xs,m,hm,rfl,hlen,xf,hx⟩:=DataW.trod_struct hu h;simp only [Nat.add_right_cancel_iff] at hm;subst hm;simp only at hf;obtain ⟨ds,s1,s2,s3,s4⟩:=yy (fun t cs x=>Af pP hS n t cs x) cs fs.toList 0 xs (by rw [hlen];exact hf) (by simpa using xf) (fun i f hi=>hx i f (by simpa using hi));have hb:=pP.agg (xs.map (·.1));refine ⟨ds,by simpa using s1,by simpa using s2,by simp only [Typ,hu];exact s3,by simp only;omega,hlen⟩
   | _=>cases hf
end
theorem HM {P:Program} {n:Nat} {t:TypeId} {k:IntKind} {ds:List DV} (hu:P.underlying t=some (.int k)) (h:Typ P n t ds):∃ z,ds=[.v (.int k z)]/\(Lit.int k z).wf=true:=by
 cases n with
 | zero=>exact h.elim
 | succ n=>simp only [Typ,hu] at h;exact h
theorem Mi {P:Program} {n:Nat} {t:TypeId} {ds:List DV} (hu:P.underlying t=some .bool) (h:Typ P n t ds):∃ b,ds=[.v (.bool b)]:=by
 cases n with
 | zero=>exact h.elim
 | succ n=>simp only [Typ,hu] at h;exact h
theorem HN {P:Program} {n:Nat} {t:TypeId} {ds:List DV} (hu:P.underlying t=some .string) (h:Typ P n t ds):∃ s:ByteArray,ds=[.v (.string s)]:=by
 cases n with
 | zero=>exact h.elim
 | succ n=>simp only [Typ,hu] at h;exact h
theorem uZ {P:Program} {n:Nat} {t e:TypeId} {ds:List DV} (hu:P.underlying t=some (.slice e)) (h:Typ P n t ds):∃ m es,n=m + 1/\ds=[.sl (P.cellsOf e) es none]/\∀ cs∈es,Typ P m e cs:=by
 cases n with
 | zero=>exact h.elim
 | succ n=>
  simp only [Typ,hu] at h;obtain ⟨es,h1,h2⟩:=h;exact ⟨n,es,rfl,h1,h2⟩
theorem lL {P:Program} {n:Nat} {t:TypeId} {fs:Array Field} {ds:List DV} (hu:P.underlying t=some (.struct fs)) (h:Typ P n t ds):∃ m,n=m + 1/\TypFs (Typ P m) (fs.toList.map (·.type)) ds:=by
 cases n with
 | zero=>exact h.elim
 | succ n=>
  simp only [Typ,hu] at h;exact ⟨n,rfl,h⟩
theorem wf_i64 {z:Int} (h:(Lit.int .i64 z).wf=true) : -9223372036854775808<=z/\z<=9223372036854775807:=by
 simpa [Lit.wf,IntKind.min,IntKind.max,IntKind.signed,IntKind.bits] using h
end Dv
end Go.Proofs.YtfifjddnnmfeoaaGreat
set_option maxRecDepth 100000
namespace Go.Proofs.YtfifjddnnmfeoaaGreat
open Go Go.RowKit Dv Tryz
theorem Fc:Tryz.prog.cellsOf 38=2:=by kernel_rfl
theorem Fe:Tryz.prog.cellsOf 144=18:=by kernel_rfl
theorem rm {n:Nat} {ds:List DV} (h:Typ Tryz.prog n 38 ds):∃ w:Wd,ds=jw w/\w.wt<=wgL ds:=by
 obtain ⟨m,_,hf⟩:=lL Tryz.underlying38 h;obtain ⟨a,b,rfl,h1,c,d,rfl,h2,rfl⟩:=hf;obtain ⟨s,rfl⟩:=HN Tryz.underlying9 h1;obtain ⟨z,rfl,_⟩:=HM Tryz.underlying3 h2;exact ⟨⟨s,z⟩,rfl,by simp [wgL,wgD,Wd.wt]⟩
theorem Mj:∀ {m:Nat} {es:List (List DV)},(∀ cs∈es,Typ Tryz.prog m 38 cs)->∃ l:List Wd,es=bu l/\wdsWt l<=wgEs es
 | m,[],h=>⟨[],rfl,by simp [wdsWt,wgEs]⟩
 | m,cs :: r,h=>by
  obtain ⟨w,rfl,hw⟩:=rm (h cs (by simp));obtain ⟨l,rfl,hl⟩:=Mj (m:=m) (es:=r) (fun c hc=>h c (List.mem_cons_of_mem _ hc));exact ⟨w :: l,rfl,by simp only [wdsWt,wgEs];omega⟩
theorem tK {n:Nat} {ds:List DV} (h:Typ Tryz.prog n 33 ds):∃ l:List Wd,ds=[.sl 2 (bu l) none]/\64 + wdsWt l<=wgL ds:=by
 obtain ⟨m,es,_,rfl,he⟩:=uZ Tryz.underlying33 h;obtain ⟨l,rfl,hl⟩:=Mj he;rw [Fc];exact ⟨l,rfl,by simp only [wgL,wgD];omega⟩
theorem kM {n:Nat} {ds:List DV} (h:Typ Tryz.prog n 3 ds):∃ z,ds=[.v (.int .i64 z)]/\uX z:=by
 obtain ⟨z,rfl,hw⟩:=HM Tryz.underlying3 h;exact ⟨z,rfl,wf_i64 hw⟩
theorem Mk {m:Nat} (ih:∀ k,k < m->∀ ds,Typ Tryz.prog k 40 ds->∃ t:Ty,ds=dK t/\rngT t/\t.wt<=wgL ds) :
  ∀ {es:List (List DV)},(∀ cs∈es,Typ Tryz.prog m 144 cs)->∃ ps:Pts,es=fc ps/\rngP ps/\ps.wt<=wgEs es
 | [],h=>⟨.nil,by simp [fc],by simp [rngP],by simp [Pts.wt]⟩
 | cs :: r,h=>by
  obtain ⟨ps,rfl,hr,hl⟩:=Mk ih (es:=r) (fun c hc=>h c (List.mem_cons_of_mem _ hc));obtain ⟨k,rfl,hf⟩:=lL Tryz.underlying144 (h cs (by simp));obtain ⟨a1,b1,rfl,h1,a2,b2,rfl,h2,a3,b3,rfl,h3,a4,b4,rfl,h4,a5,b5,rfl,h5,a6,b6,rfl,h6,rfl⟩:=hf;obtain ⟨nm,rfl,w1⟩:=rm h1;obtain ⟨bare,rfl⟩:=Mi Tryz.underlying4 h2;obtain ⟨lab,rfl,w3⟩:=tK h3;obtain ⟨wide,rfl,r4⟩:=kM h4;obtain ⟨k5,_,hf5⟩:=lL Tryz.underlying142 h5;obtain ⟨c1,d1,rfl,g1,c2,d2,rfl,g2,c3,d3,rfl,g3,c4,d4,rfl,g4,rfl⟩:=hf5;obtain ⟨ck,rfl,_⟩:=kM g1;obtain ⟨cn,rfl,q2⟩:=kM g2;obtain ⟨ca,rfl,_⟩:=kM g3;obtain ⟨cl,rfl,w5⟩:=tK g4;obtain ⟨t,rfl,rt,wt⟩:=ih k (by omega) _ h6;refine ⟨.cons ⟨nm,bare,lab,wide,ck,cn,ca,cl⟩ t ps,?_,by simp only [rngP];exact ⟨r4,q2,rt,hr⟩,?_⟩
  ·simp only [fc,ET,jw,List.cons_append,List.nil_append,List.append_nil]
  ·simp only [Pts.wt,Ph.wt,wgEs,eT,wgL,wgD,jw] at *;simp only [Wd.wt] at *;omega
theorem Ml:∀ (n:Nat) (ds:List DV),Typ Tryz.prog n 40 ds->∃ t:Ty,ds=dK t/\rngT t/\t.wt<=wgL ds:=by
 intro n
 induction n using Nat.strongRecOn with
 | _ n ih=>
  intro ds h;obtain ⟨m,rfl,hf⟩:=lL Tryz.underlying40 h;obtain ⟨a1,b1,rfl,h1,a2,b2,rfl,h2,a3,b3,rfl,h3,a4,b4,rfl,h4,a5,b5,rfl,h5,a6,b6,rfl,h6,a7,b7,rfl,h7,a8,b8,rfl,h8,rfl⟩:=hf;obtain ⟨ag,rfl,_⟩:=kM h1;obtain ⟨aC,rfl,_⟩:=kM h2;obtain ⟨lo,rfl,r3⟩:=kM h3;obtain ⟨hi,rfl,r4⟩:=kM h4;obtain ⟨most,rfl,r5⟩:=kM h5;obtain ⟨af,rfl,w6⟩:=tK h6;obtain ⟨k,es,rfl,rfl,jQ⟩:=uZ Tryz.underlying36 h7;obtain ⟨ps,rfl,rp,wp⟩:=Mk (fun j hj=>ih j (by omega)) jQ;obtain ⟨nm,rfl,w8⟩:=rm h8;rw [Fe];refine ⟨.mk ⟨ag,aC,lo,hi,most,af,nm⟩ ps,?_,by simp only [rngT];exact ⟨r3,r4,r5,rp⟩,?_⟩
  ·simp only [dK,jw,List.cons_append,List.nil_append,List.append_nil]
  ·simp only [Ty.wt,Hd.wt,eT,wgL,wgD,jw] at *;simp only [Wd.wt] at *;omega
end Go.Proofs.YtfifjddnnmfeoaaGreat
namespace Go.Proofs.YtfifjddnnmfeoaaGreat
namespace Dv
open Go Go.RowKit Go.ChangeShapes Go.WideShapes Go.ChangeAt
open Go.ChangeMaps (open_string shut_string)
section
variable {H:Type} {enc:TypeId × Value->H} {P:Program}
theorem og (hl:laidOutB P=true) {W W':World} (hb:Below W.heap.size W W'):∀ {ts:List TypeId} {vs:List Value} {ds:List (DataW H)} {ps:List MemPlace},(∀ t∈ts,P.readableRec t=true/\t < P.types.size) ->
  DataW.TrodAll enc P W 0 (fun _=>true) true ts vs ds ps->(∀ x∈ps,x.block < W.heap.size)->DataW.TrodAll enc P W' 0 (fun b=>decide (b < W.heap.size)) true ts vs ds ps
 | [],[],[],_,_,h,_=>h
 | t :: ts,v :: vs,d :: ds,_,ht,⟨p,q,h1,h2,e⟩,ap=>by
  subst e;obtain ⟨r1,r2⟩:=ht t (by simp);exact ⟨p,q,Below.trod hl r1 r2 h1 hb (fun x hx=>ap x (List.mem_append_left _ hx)),og hl hb (fun t td=>ht t (by simp [td])) h2 (fun x hx=>ap x (List.mem_append_right _ hx)),rfl⟩
theorem law_post {f:Func} {s:ChangeSpec} {tb:TypeId} (hl:laidOutB P=true) (Lg:f.resultTypes = #[tb]) (htb:P.underlying tb=some .bool) (hv:s.vars=[]) (hts:∀ t∈f.params.toList,P.readableRec t=true/\t < P.types.size)
  {W W':World} {args:Array Value} {ds gs:List (DataW H)} {before:List MemPlace} (hW:DataW.Whole enc P f.params.toList s.vars false W args.toList ds gs before) (Bq:s.fn H ds={ results:=[.lit (.bool true)],args:=ds }) (hb:Below W.heap.size W W') :
  s.post enc P f false true false false W args (.bool true) W':=by
 have hW':=hW;obtain ⟨p,q,hA,hV,rfl,hfz,hnd⟩:=hW;rw [hv] at hV;obtain ⟨rfl,rfl⟩:=trodVars_none hV;refine ⟨ds,[],p ++ [],[],p,[],hW',?_,?_,?_,hb.frame _,fun h=>by cases h⟩
 ·rw [List.append_nil,Bq,Lg];exact trodAll_cons_mk (shut_bool htb _) trodAll_mk0
 ·rw [List.append_nil,Bq];exact og hl hb hts hA (fun x hx=>hW'.lt x (List.mem_append_left _ hx))
 ·rw [List.append_nil,Bq,hv];rfl
theorem Ff {w w':World} {Φ:DV->List (List DV)->List TkE->Prop} {v:Value} (h:BC false (Fb w) w Φ v w'):Below w.heap.size w w':=by
 obtain ⟨hm,_⟩:=h;refine ⟨hm.os,hm.tape,hm.output,hm.size,fun k hk=>hm.block k hk ?_⟩;rintro (h1 | ⟨y,h1,_⟩)
 ·simp [Fb] at h1
 ·simp [Fb] at h1
theorem calls_law {f:FuncId} {args:List DV} {vs:List Value} {w:World} (h:EvP P f args (.v (.bool true))) (hv:RvL (Fb w) args vs) :
  Calls P f vs.toArray w fun e w'=>e = .returned (.bool true)/\Below w.heap.size w w':=by
 refine (h (Fb w) w vs (PS w) rfl hv).mono ?_;rintro e w' ⟨v,rfl,he⟩;have hb:=Ff he;obtain ⟨_,_,d,os,E,_,_,_,_,hr,rfl⟩:=he;unfold Rv at hr;rw [hr.1];exact ⟨rfl,hb⟩
variable {W:World} {base:Nat} {S:List TypeId} {bk:DataW H->Nat}
theorem arg_st (pP:Bk bk) (hS:∀ t∈S,lK P S t=true) {t:TypeId} {fs:Array Field} {v:Value} {d:DataW H} {ps:List MemPlace} (ht:t∈S) (hu:P.underlying t=some (.struct fs))
  (hval:Value.okWide P W .any base t v) (h:DataW.Trod enc P W 0 (fun _=>true) true t v d ps):∃ n ds,Rv (Fb W) (.agg ds) v/\Typ P n t ds/\wgL ds<=64 * bk d:=by
 unfold Value.okWide at hval;rw [hu] at hval;obtain ⟨cs,rfl,_,_⟩:=hval;obtain ⟨n,hn⟩:=h;obtain ⟨ds,h1,h2,h3,h4,_⟩:=Af pP hS n t _ _ ht hn;refine ⟨n,ds,?_,h3,h4⟩;unfold Rv;exact ⟨cs.toList,by simp,h1,h2⟩
end
end Dv
end Go.Proofs.YtfifjddnnmfeoaaGreat
namespace Go.Proofs.YtfifjddnnmfeoaaGreat
open Go Go.RowKit Dv
theorem Fg {H:Type}:∀ l:List (DataW H),bkS Rows.uptoBulk l=Rows.uptoBulkAll l
 | []=>by simp [bkS,Rows.uptoBulkAll]
 | d :: r=>by simp only [bkS,Rows.uptoBulkAll,Fg r]
theorem bk_ok {H:Type}:Bk (Rows.uptoBulk (H:=H)) where
 str:=fun l=>by simp [Rows.uptoBulk]
 lit:=fun l=>by cases l<;>simp [Rows.uptoBulk]
 nil:=by simp [Rows.uptoBulk]
 slice:=fun es sp=>by simp only [Rows.uptoBulk,Fg];omega
 agg:=fun l=>by simp only [Rows.uptoBulk,Fg];omega
theorem bulk_le {H:Type} {l:List (DataW H)} (hk:Rows.uptoSmall H l=true):Rows.uptoBulkAll l<=1048576:=of_decide_eq_true hk
theorem laid_out:laidOutB Tryz.prog=true:=by kernel_rfl
theorem own_knob:ownKnob Tryz.prog.godebug=none:=by kernel_rfl
def tyS:List TypeId:=[40,33,38,9,3,36,144,4,142]
end Go.Proofs.YtfifjddnnmfeoaaGreat
set_option maxRecDepth 100000
namespace Go.Proofs.YtfifjddnnmfeoaaGreat
open Go Go.RowKit Dv Tryz
def Pts.take:Nat->Pts->Pts
 | 0,_=>.nil
 | _ + 1,.nil=>.nil
 | e + 1,.cons p t r=>.cons p t (r.take e)
structure Sch where
 ae:List Wd
 order:List (Wd × Wd)
 types:List (Wd × Ty)
 root:Ty
def KN (p:Wd × Wd):List DV:=[.v (.string p.1.s),.v (.int .i64 p.1.a),.v (.string p.2.s),.v (.int .i64 p.2.a)]
def mh (l:List (Wd × Wd)):List (List DV):=l.map KN
def dNm (x:Wd × Ty):List DV:=.v (.string x.1.s) :: .v (.int .i64 x.1.a) :: dK x.2
def dNms (l:List (Wd × Ty)):List (List DV):=l.map dNm
def eK (s:Sch):List DV:=.sl 2 (bu s.ae) none :: .sl 4 (mh s.order) none :: .sl 11 (dNms s.types) none :: dK s.root
def prsWt:List (Wd × Wd)->Nat
 | []=>0
 | p :: r=>p.1.wt + p.2.wt + prsWt r
def nmsWt:List (Wd × Ty)->Nat
 | []=>0
 | p :: r=>p.1.wt + p.2.wt + nmsWt r
def Sch.wt (s:Sch):Nat:=wdsWt s.ae + prsWt s.order + nmsWt s.types + s.root.wt
theorem fq (l:List (Wd × Wd)):(mh l).length=l.length:=by simp [mh]
theorem dA (l:List (Wd × Ty)):(dNms l).length=l.length:=by simp [dNms]
theorem gx {l:List (Wd × Wd)} {j:Nat} {p:Wd × Wd} (h:l[j]? = some p):(mh l)[j]? = some (KN p):=by simp [mh,h]
theorem dNms_get {l:List (Wd × Ty)} {j:Nat} {p:Wd × Ty} (h:l[j]? = some p):(dNms l)[j]? = some (dNm p):=by simp [dNms,h]
theorem hZ:∀ l:List (Wd × Wd),128 * l.length<=prsWt l
 | []=>Nat.le_refl _
 | p :: r=>by have:=hZ r;simp only [List.length_cons,prsWt,Wd.wt];omega
theorem jc:∀ l:List (Wd × Ty),256 * l.length<=nmsWt l
 | []=>Nat.le_refl _
 | p :: r=>by have:=jc r;have:=p.2.de;simp only [List.length_cons,nmsWt,Wd.wt];omega
theorem fX:∀ {l:List (Wd × Ty)} {p:Wd × Ty},p∈l->p.1.wt + p.2.wt<=nmsWt l
 | x :: r,p,h=>by
  rcases List.mem_cons.1 h with h | h
  ·subst h;simp only [nmsWt];omega
  ·have:=fX h;simp only [nmsWt];omega
def PT (s:Sch):Prop:=(∀ x∈s.types,rngT x.2)/\rngT s.root
theorem Fh:Tryz.prog.cellsOf 146=4:=by kernel_rfl
theorem CB:Tryz.prog.cellsOf 109=11:=by kernel_rfl
theorem TS {n:Nat} {ds:List DV} (h:Typ Tryz.prog n 146 ds):∃ p:Wd × Wd,ds=KN p/\p.1.wt + p.2.wt<=wgL ds:=by
 obtain ⟨m,_,hf⟩:=lL Tryz.underlying146 h;obtain ⟨a,b,rfl,h1,c,d,rfl,h2,rfl⟩:=hf;obtain ⟨x,rfl,w1⟩:=rm h1;obtain ⟨y,rfl,w2⟩:=rm h2;exact ⟨(x,y),rfl,by simp only [eT,wgL];omega⟩
theorem TU {n:Nat} {ds:List DV} (h:Typ Tryz.prog n 109 ds):∃ p:Wd × Ty,ds=dNm p/\rngT p.2/\p.1.wt + p.2.wt<=wgL ds:=by
 obtain ⟨m,_,hf⟩:=lL Tryz.underlying109 h;obtain ⟨a,b,rfl,h1,c,d,rfl,h2,rfl⟩:=hf;obtain ⟨x,rfl,w1⟩:=rm h1;obtain ⟨y,rfl,r2,w2⟩:=Ml _ _ h2;exact ⟨(x,y),by simp [dNm,jw],r2,by simp only [eT,wgL];omega⟩
theorem Mm:∀ {m:Nat} {es:List (List DV)},(∀ cs∈es,Typ Tryz.prog m 146 cs)->∃ l:List (Wd × Wd),es=mh l/\prsWt l<=wgEs es
 | m,[],h=>⟨[],rfl,by simp [prsWt,wgEs]⟩
 | m,cs :: r,h=>by
  obtain ⟨w,rfl,hw⟩:=TS (h cs (by simp));obtain ⟨l,rfl,hl⟩:=Mm (m:=m) (es:=r) (fun c hc=>h c (List.mem_cons_of_mem _ hc));exact ⟨w :: l,rfl,by simp only [prsWt,wgEs];omega⟩
theorem Mn:∀ {m:Nat} {es:List (List DV)},(∀ cs∈es,Typ Tryz.prog m 109 cs)->∃ l:List (Wd × Ty),es=dNms l/\(∀ x∈l,rngT x.2)/\nmsWt l<=wgEs es
 | m,[],h=>⟨[],rfl,by simp,by simp [nmsWt,wgEs]⟩
 | m,cs :: r,h=>by
  obtain ⟨w,rfl,hr,hw⟩:=TU (h cs (by simp));obtain ⟨l,rfl,hlr,hl⟩:=Mn (m:=m) (es:=r) (fun c hc=>h c (List.mem_cons_of_mem _ hc));refine ⟨w :: l,rfl,fun x hx=>?_,by simp only [nmsWt,wgEs];omega⟩;rcases List.mem_cons.1 hx with rfl | hx
  ·exact hr
  ·exact hlr x hx
theorem typ_sch {n:Nat} {ds:List DV} (h:Typ Tryz.prog n 42 ds):∃ s:Sch,ds=eK s/\PT s/\s.wt<=wgL ds:=by
 obtain ⟨m,_,hf⟩:=lL Tryz.underlying42 h;obtain ⟨a1,b1,rfl,h1,a2,b2,rfl,h2,a3,b3,rfl,h3,a4,b4,rfl,h4,rfl⟩:=hf;obtain ⟨l1,rfl,w1⟩:=tK h1;obtain ⟨m2,es2,_,rfl,he2⟩:=uZ Tryz.underlying34 h2;obtain ⟨l2,rfl,w2⟩:=Mm he2;obtain ⟨m3,es3,_,rfl,he3⟩:=uZ Tryz.underlying35 h3;obtain ⟨l3,rfl,r3,w3⟩:=Mn he3;obtain ⟨t,rfl,r4,w4⟩:=Ml _ _ h4;rw [Fh,CB];refine ⟨⟨l1,l2,l3,t⟩,by simp [eK],⟨r3,r4⟩,?_⟩;simp only [Sch.wt,eT,wgL,wgD] at *;omega
end Go.Proofs.YtfifjddnnmfeoaaGreat
namespace Go.Proofs.YtfifjddnnmfeoaaGreat
open Go Go.RowKit Dv
def tySS:List TypeId:=42 :: 34 :: 146 :: 35 :: 109 :: tyS
theorem tySS_ok:∀ t∈tySS,lK Tryz.prog tySS t=true:=by
 have h:(tySS.all fun t=>lK Tryz.prog tySS t)=true:=by kernel_rfl
 exact fun t ht=>List.all_eq_true.1 h t ht
set_option maxRecDepth 100000
noncomputable abbrev PP:Program:=Tryz.pinned.checked.prog
def dft:OpenClaim:={ program := "",sum := "",func := "",spec := "" }
theorem and_ok {a b:Bool} (ha:a=true) (hb:b=true):(a && b)=true:=by rw [ha,hb];all_goals rfl
theorem g_laid:laidOutB PP=true:=laid_out
theorem g_maps:mapsRowed PP=true:=by kernel_rfl
theorem g_stops:(PP.stops == [])=true:=by kernel_rfl
theorem g_knobs:(PP.stopKnobs == [])=true:=by kernel_rfl
theorem g_heard:PP.stopsHeard=true:=by kernel_rfl
theorem g_enter:PP.mayEnter=true:=by kernel_rfl
theorem g_lifts:(dft.lifted == PP.liftsFinal)=true:=by kernel_rfl
theorem g_keys:(false == PP.plainKeys)=true:=by kernel_rfl
theorem g_make:(PP.make == some dft.make)=true:=by kernel_rfl
end Go.Proofs.YtfifjddnnmfeoaaGreat
set_option maxRecDepth 100000
namespace Go.Proofs.YtfifjddnnmfeoaaGreat
open Go Go.RowKit Dv Tryz
theorem CD (x b:Nat):(x:Int).fdiv (2 ^ b)=((x / 2 ^ b:Nat):Int):=by
 rw [Int.fdiv_eq_ediv_of_nonneg _ (by exact Int.le_of_lt (Int.pow_pos (by decide)))];simp
theorem ia (m:Nat):BitVec.ofInt 64 (m:Int)=BitVec.ofNat 64 m:=by simp
theorem HO {x b:Nat} (hb:b < 64) (hx:x < 18446744073709551616) :
  decide (IntKind.u64.wrap ((BitVec.ofInt 64 ((x:Int).fdiv (2 ^ (min b 64))) &&& BitVec.ofInt 64 1).toNat:Int)=1)=x.testBit b:=by
 rw [Nat.min_eq_left (by omega),CD,ia,show (BitVec.ofInt 64 1)=BitVec.ofNat 64 1 by decide,BitVec.toNat_and,BitVec.toNat_ofNat,BitVec.toNat_ofNat,Nat.testBit_eq_decide_div_mod_eq];have h1:x / 2 ^ b < 18446744073709551616:=Nat.lt_of_le_of_lt (Nat.div_le_self _ _) hx;rw [Nat.mod_eq_of_lt h1,show (1 % 2 ^ 64:Nat)=1 by decide,Nat.and_one_is_mod];simp only [IntKind.wrap_u64];congr 1;apply propext;omega
theorem Fi {x b:Nat} (hb:b < 64) (hx:x < 18446744073709551616) :
  IntKind.u64.wrap ((BitVec.ofInt 64 (x:Int) ||| BitVec.ofInt 64 (IntKind.u64.wrap (1 * 2 ^ (min b 64)))).toNat:Int)=((x ||| 2 ^ b:Nat):Int):=by
 have h2:2 ^ b < 18446744073709551616:=by
  have:2 ^ b<=2 ^ 63:=Nat.pow_le_pow_right (by decide) (by omega);omega
 have e1:IntKind.u64.wrap (1 * 2 ^ (min b 64))=((2 ^ b:Nat):Int):=by
  rw [Nat.min_eq_left (by omega),Int.one_mul];have:((2:Int) ^ b)=((2 ^ b:Nat):Int):=by simp
  rw [this];generalize 2 ^ b=z at h2;simp only [IntKind.wrap_u64];omega
 rw [e1,ia,ia,BitVec.toNat_or,BitVec.toNat_ofNat,BitVec.toNat_ofNat,Nat.mod_eq_of_lt hx,Nat.mod_eq_of_lt h2];have h3:x ||| 2 ^ b < 18446744073709551616:=Nat.or_lt_two_pow (n:=64) hx h2
 simp only [IntKind.wrap_u64];omega
theorem PU {x y:Nat} (hx:x < 18446744073709551616) (hy:y < 18446744073709551616) :
  IntKind.u64.wrap ((BitVec.ofInt 64 (x:Int) ||| BitVec.ofInt 64 (y:Int)).toNat:Int)=((x ||| y:Nat):Int):=by
 rw [ia,ia,BitVec.toNat_or,BitVec.toNat_ofNat,BitVec.toNat_ofNat,Nat.mod_eq_of_lt hx,Nat.mod_eq_of_lt hy];have h3:x ||| y < 18446744073709551616:=Nat.or_lt_two_pow (n:=64) hx hy
 simp only [IntKind.wrap_u64];omega
theorem gy (x a b:Nat):(x ||| 2 ^ b).testBit a=(x.testBit a || decide (b=a)):=by
 rw [Nat.testBit_or,Nat.testBit_two_pow]
def dU (rows:List Nat):List (List DV):=rows.map fun (x:Nat)=>[DV.v (.int .u64 (x:Int))]
theorem kv (rows:List Nat):(dU rows).length=rows.length:=by simp [dU]
theorem TV {rows:List Nat} {i:Nat} {x:Nat} (h:rows[i]? = some x):(dU rows)[i]? = some [DV.v (.int .u64 (x:Int))]:=by simp [dU,h]
abbrev mi (rows:List Nat):DV:=.pt [.sl 1 (dU rows) none] 0
def dP (rows:List Nat):Prop:=rows.length<=64/\∀ x∈rows,x < 18446744073709551616
def aM (rows:List Nat) (a b:Nat):Bool:=(rows.getD a 0).testBit b
def hasB (rows:List Nat) (a b:Int):Bool:=decide (0<=a) && decide (a < rows.length) && decide (0<=b) && decide (b < rows.length) && aM rows a.toNat b.toNat
theorem yz (rows:List Nat):EvP Tryz.prog 163 [mi rows] (.v (.int .i64 rows.length)):=by
 refine ev_go (P:=Tryz.prog) tt tt_ok 5000 10 [.tmp 2] Tryz.func163 rfl Tryz.ntmps163 rfl (nL rfl) (fun E9 w9 hn9 hm9=>?_);refine (congrArg (fun z=>DV.v (.int .i64 z)) ?_:_=_);rw [kv]
theorem kN (rows:List Nat) (hr:dP rows) (a b:Int):EvP Tryz.prog 156 [mi rows,.v (.int .i64 a),.v (.int .i64 b)] (.v (.bool (hasB rows a b))):=by
 have hl:=yz rows;refine ev_go (P:=Tryz.prog) tt tt_ok 5000 38 [.tmp 6] Tryz.func156 rfl Tryz.ntmps156 rfl (nL rfl) (fun E9 w9 hn9 hm9=>?_);refine br (fun g1=>?_) (fun g1=>?_)
 ·have g1:0<=a:=by simpa using g1
  refine call_p LH (hl) ax rfl ?_;refine br (fun g2=>?_) (fun g2=>?_)
  ·obtain ⟨g2,g3⟩:a < rows.length/\0<=b:=by
    cases h:decide (a < (rows.length:Int))<;>simp [pickB,h] at g2<;>exact ⟨by simpa using h,g2⟩
   refine call_p LH (hl) ax rfl ?_;refine br (fun g4=>?_) (fun g4=>?_)
   ·have g4:b < rows.length:=by simpa [pickB,g2,g3] using g4
    obtain ⟨x,hx⟩:∃ x,rows[a.toNat]? = some x:=⟨_,gE (by omega)⟩;have Ja:=hr.2 x (mG hx);have hr1:=hr.1;refine ⟨_,⟨g1,TV hx⟩,?_⟩;refine ⟨g3,?_⟩;refine (congrArg (fun b=>DV.v (.bool b)) ?_:_=_);have BP:rows.getD a.toNat 0=x:=getD_some hx
    have e1:hasB rows a b=x.testBit b.toNat:=by
     unfold hasB aM;rw [BP];simp [g1,g2,g3,g4]
    rw [e1];exact HO (x:=x) (b:=b.toNat) (by omega) Ja
   ·have g4:¬ b < rows.length:=by simpa [pickB,g2,g3] using g4
    refine (congrArg (fun b=>DV.v (.bool b)) ?_:_=_);simp [pickB,g2,g3,g4,hasB]
  ·have g5:¬ (a < rows.length/\0<=b):=by
    rintro ⟨h1,h2⟩;simp [pickB,h1,h2] at g2
   refine (congrArg (fun b=>DV.v (.bool b)) ?_:_=_);cases h:decide (a < (rows.length:Int))<;>simp [pickB,h,hasB] at g2 ⊢
   intro _ h0;omega
 ·have g1:¬ 0<=a:=by simpa using g1
  refine (congrArg (fun b=>DV.v (.bool b)) ?_:_=_);simp [g1,hasB]
def backN (rows:List Nat) (a:Nat):Nat->Nat
 | 0=>0
 | e + 1=>if aM rows a e && aM rows e a then backN rows a e ||| 2 ^ e else backN rows a e
theorem u0 (rows:List Nat) (a:Nat):∀ e,backN rows a e < 2 ^ e
 | 0=>by simp [backN]
 | e + 1=>by
  have ih:=u0 rows a e;have h2:2 ^ e < 2 ^ (e + 1):=Nat.pow_lt_pow_right (by decide) (by omega);simp only [backN];split
  ·exact Nat.or_lt_two_pow (by omega) h2
  ·omega
theorem rn (rows:List Nat) (a b:Nat):∀ e,(backN rows a e).testBit b=(decide (b < e) && (aM rows a b && aM rows b a))
 | 0=>by simp [backN]
 | e + 1=>by
  have ih:=rn rows a b e;simp only [backN];by_cases BR:b=e
  ·subst BR;cases hx:(aM rows a b && aM rows b a)
   ·simp [ih,hx]
   ·simp [gy]
  ·have h1:decide (b < e + 1)=decide (b < e):=by congr 1;apply propext;omega
   rw [h1,<- ih];split
   ·rw [gy,decide_eq_false (Ne.symm BR),Bool.or_false]
   ·rfl
abbrev u1 (rows:List Nat) (a e:Nat):St:=
 ⟨[(0,⟨[],mi rows⟩),(1,⟨[],.v (.int .i64 a)⟩),(5,⟨[],.v (.int .u64 (backN rows a e:Nat))⟩),(11,⟨[],.v (.int .i64 (dU rows).length)⟩),(12,⟨[],.v (.int .i64 e)⟩)],[],[]⟩
theorem pQ {rows:List Nat} {a b:Nat} (ha:a < rows.length) (hb:b < rows.length):hasB rows a b=aM rows a b:=by
 simp [hasB,ha,hb]
theorem Fj (rows:List Nat) (hr:dP rows) (a:Nat) (ha:a < rows.length):EvP Tryz.prog 165 [mi rows,.v (.int .i64 a)] (.v (.int .u64 (backN rows a rows.length:Nat))):=by
 have hr1:=hr.1;refine ev_go (P:=Tryz.prog) tt tt_ok 5000 31 [.tmp 4] Tryz.func165 rfl Tryz.ntmps165 rfl (nL rfl) (fun E9 w9 hn9 hm9=>?_);refine aq (fun j st=>∃ e:Nat,st=u1 rows a e/\e<=rows.length/\j=rows.length - e) rows.length (u1 rows a 0) (weak_mk ⟨_,rfl⟩ wA rfl rfl rfl wB) ⟨0,rfl,by omega,by omega⟩ ?_;rintro j st ⟨e,rfl,he,rfl⟩;refine br (fun hL=>?_) (fun hL=>?_)
 ·have ap:e < rows.length:=by have:=hL;simp [kv] at this;exact this
  have h1:=kN rows hr a e;have h2:=kN rows hr e a;rw [pQ ha ap] at h1;rw [pQ ap ha] at h2;have hbl:=u0 rows a e
  have TW:backN rows a e < 18446744073709551616:=by
   have:2 ^ e<=2 ^ 64:=Nat.pow_le_pow_right (by decide) (by omega);omega
  have YA:=Fi (x:=backN rows a e) (b:=e) (by omega) TW;have hs:backN rows a (e + 1)=if aM rows a e && aM rows e a then backN rows a e ||| 2 ^ e else backN rows a e:=rfl
  refine call_p Cd (h1) ax rfl ?_;refine br (fun g1=>?_) (fun g1=>?_)
  ·have g1:aM rows a e=true:=by simpa using g1
   refine call_p Cd (h2) ax rfl ?_;refine br (fun g2=>?_) (fun g2=>?_)
   ·have g2:aM rows e a=true:=by simpa [pickB,g1] using g2
    rw [g1,g2] at hs;have hs:backN rows a (e + 1)=backN rows a e ||| 2 ^ e:=hs
    refine ⟨by omega,?_⟩;exact ⟨u1 rows a (e + 1),(weak_mk ⟨_,rfl⟩ wA rfl rfl rfl (by repeat' (first | exact trivial | exact ah rfl | exact ak (cx ap (by omega)) | exact ak (YA.trans (by rw [hs])) | refine ⟨⟨_,rfl,?_⟩,?_⟩))),rows.length - (e + 1),by omega,e + 1,rfl,by omega,rfl⟩
   ·have g2:aM rows e a=false:=by simpa [pickB,g1] using g2
    rw [g1,g2] at hs;have hs:backN rows a (e + 1)=backN rows a e:=hs;exact ⟨u1 rows a (e + 1),(weak_mk ⟨_,rfl⟩ wA rfl rfl rfl (by repeat' (first | exact trivial | exact ah rfl | exact ak (cx ap (by omega)) | exact ak (by rw [hs]) | refine ⟨⟨_,rfl,?_⟩,?_⟩))),rows.length - (e + 1),by omega,e + 1,rfl,by omega,rfl⟩
  ·have g1:aM rows a e=false:=by simpa using g1
   rw [g1] at hs;have hs:backN rows a (e + 1)=backN rows a e:=hs;exact ⟨u1 rows a (e + 1),(weak_mk ⟨_,rfl⟩ wA rfl rfl rfl (by repeat' (first | exact trivial | exact ah rfl | exact ak (cx ap (by omega)) | exact ak (by rw [hs]) | refine ⟨⟨_,rfl,?_⟩,?_⟩))),rows.length - (e + 1),by omega,e + 1,rfl,by omega,rfl⟩
 ·have aO:e=rows.length:=by have:=hL;simp [kv] at this;omega
  subst aO;exact (rfl:_=_)
def cU (rows:List Nat):List DV:=rows.map fun (x:Nat)=>DV.v (.int .u64 (x:Int))
theorem oH (rows:List Nat):(cU rows).length=rows.length:=by simp [cU]
theorem Mo {rows:List Nat} {i x:Nat} (h:rows[i]? = some x):(cU rows)[i]? = some (DV.v (.int .u64 (x:Int))):=by simp [cU,h]
theorem Mp (rows:List Nat) (i x:Nat):(cU rows).set i (DV.v (.int .u64 (x:Int)))=cU (rows.set i x):=by simp [cU,List.map_set]
theorem pS (rows:List Nat):(dU rows).flatten=cU rows:=by
 induction rows with
 | nil=>rfl
 | cons x r ih=>simp only [dU,cU,List.map_cons,List.flatten_cons] at ih ⊢;rw [ih];all_goals rfl
theorem HP {n m:Nat} {tk:List TkE}:∀ l:List Nat,WeL n m tk (cU l) (cU l)
 | []=>rfl
 | b :: r=>⟨_,_,rfl,ah rfl,HP r⟩
theorem Ag {n m:Nat} {tk:List TkE} {l:List DV} {ds:List Nat} (h:l=cU ds):WeL n m tk l (cU ds):=by rw [h];exact HP ds
def dNP (p:Nat × Nat):List DV:=[.v (.int .i64 (p.1:Int)),.v (.int .i64 (p.2:Int))]
def lM (l:List (Nat × Nat)):List (List DV):=l.map dNP
theorem gz (l:List (Nat × Nat)):(lM l).length=l.length:=by simp [lM]
theorem u2 {l:List (Nat × Nat)} {i:Nat} {p:Nat × Nat} (h:l[i]? = some p):(lM l)[i]? = some (dNP p):=by simp [lM,h]
def u3 (rows:List Nat) (p:Nat × Nat):List Nat:=rows.set p.1 (rows.getD p.1 0 ||| 2 ^ p.2)
def eL (n:Nat) (l:List (Nat × Nat)):List Nat:=l.foldl u3 (List.replicate n 0)
theorem Jt (n:Nat) (l:List (Nat × Nat)) (e:Nat) {p:Nat × Nat} (h:l[e]? = some p):eL n (l.take (e + 1))=u3 (eL n (l.take e)) p:=by
 unfold eL;rw [List.take_add_one,h];simp
theorem pT (rows:List Nat) (p:Nat × Nat):(u3 rows p).length=rows.length:=by simp [u3]
theorem jA (n:Nat):∀ (l:List (Nat × Nat)),(eL n l).length=n:=by
 intro l
 have:∀ (l:List (Nat × Nat)) (r:List Nat),(l.foldl u3 r).length=r.length:=by
  intro l
  induction l with
  | nil=>intro r;rfl
  | cons p l ih=>intro r;rw [List.foldl_cons,ih,pT]
 rw [eL,this];simp
theorem PV {rows:List Nat} {p:Nat × Nat} (h:dP rows) (hp:p.1 < rows.length) (hq:p.2 < 64):dP (u3 rows p):=by
 refine ⟨by rw [pT];exact h.1,fun x hx=>?_⟩;rcases List.mem_or_eq_of_mem_set hx with hx | rfl
 ·exact h.2 x hx
 ·refine Nat.or_lt_two_pow (n:=64) ?_ (Nat.pow_lt_pow_right (by decide) hq);rw [List.getD_eq_getElem?_getD,gE hp];exact h.2 _ (List.getElem_mem hp)
theorem Ah {n:Nat} (hn:n<=64):∀ (l:List (Nat × Nat)),(∀ p∈l,p.1 < n/\p.2 < n)->dP (eL n l):=by
 intro l hl
 have:∀ (l:List (Nat × Nat)) (r:List Nat),r.length=n->dP r->(∀ p∈l,p.1 < n/\p.2 < n)->dP (l.foldl u3 r):=by
  intro l
  induction l with
  | nil=>intro r _ h _;exact h
  | cons p l ih=>
   intro r hr h hp;have:=hp p (by simp);exact ih _ (by rw [pT,hr]) (PV h (by omega) (by omega)) (fun q hq=>hp q (by simp [hq]))
 refine this l _ (by simp) ⟨by simp [hn],fun x hx=>?_⟩ hl;rw [List.mem_replicate] at hx;omega
abbrev Fk (n:Nat) (l:List (Nat × Nat)) (rows:List Nat) (e:Nat):St:=
 ⟨[(0,⟨[],.v (.int .i64 n)⟩),(6,⟨[],.loc 1 0⟩),(19,⟨[],.sl 2 (lM l) none⟩),(20,⟨[],.v (.int .i64 (lM l).length)⟩),(21,⟨[],.v (.int .i64 e)⟩)],
  [cU rows,[.ms 0 1 0 n n]],[]⟩
theorem Ju (n:Nat) (hn:n<=64) (l:List (Nat × Nat)) (hl:∀ p∈l,p.1 < n/\p.2 < n) (hb:l.length<=1099511627776) :
  EvP Tryz.prog 98 [.v (.int .i64 n),.sl 2 (lM l) none] (.tup [mi (eL n l),.v (.bool true)]):=by
 refine ev_go (P:=Tryz.prog) tt tt_ok 5000 60 [.tmp 4,.tmp 5] Tryz.func98 rfl Tryz.ntmps98 rfl (nL rfl) (fun E9 w9 hn9 hm9=>?_);refine br (fun g=>?_) (fun g=>?_)
 ·exfalso;simp [aj] at g;omega
 refine ⟨⟨rfl,by omega,by omega,by omega⟩,?_⟩
 have h0:(List.replicate (n:Int).toNat [DV.v (.int .u64 0)]).flatten=cU (eL n (l.take 0)):=by
  simp [eL,cU]
 refine aq (fun j st=>∃ e:Nat,st=Fk n l (eL n (l.take e)) e/\e<=l.length/\j=l.length - e) l.length (Fk n l (eL n (l.take 0)) 0) (az 2 rfl (by repeat' (first | exact rfl | exact ah rfl | exact Ag h0 | refine ⟨_,_,rfl,?_,?_⟩)) rfl rfl rfl (by repeat' (first | exact trivial | exact ah rfl | exact Ag h0 | refine ⟨⟨_,rfl,?_⟩,?_⟩))) ⟨0,rfl,by omega,by omega⟩ ?_;rintro j st ⟨e,rfl,he,rfl⟩;refine br (fun hL=>?_) (fun hL=>?_)
 ·have ap:e < l.length:=by have:=hL;simp [gz] at this;exact this
  obtain ⟨p,hp⟩:∃ p,l[e]? = some p:=⟨_,gE ap⟩;obtain ⟨p1,p2⟩:=hl p (mG hp);refine ⟨_,⟨by omega,u2 hp⟩,?_⟩;refine ⟨⟨by decide,by decide⟩,?_⟩;refine ⟨⟨by decide,by decide⟩,?_⟩;refine br (fun g=>?_) (fun g=>?_)
  ·refine ⟨⟨by decide,by decide⟩,?_⟩;refine ⟨⟨by decide,by decide⟩,?_⟩;refine br (fun g2=>?_) (fun g2=>?_)
   ·exfalso;simp [pickB] at g2;omega
   obtain ⟨x,hx⟩:∃ x,(eL n (l.take e))[p.1]? = some x:=⟨_,gE (by rw [jA];exact p1)⟩;have bG:=Ah hn (l.take e) (fun q hq=>hl q (List.mem_of_mem_take hq));have Ja:=bG.2 x (mG hx);have te:0 + (p.1:Int).toNat * 1=p.1:=by omega
   refine aP mo (by decide +kernel) ?_;refine ⟨⟨by decide,by decide⟩,?_⟩;refine ⟨⟨by omega,by omega⟩,?_⟩;refine ⟨_,(by rw [te];exact Mo hx:(cU (eL n (l.take e)))[0 + (p.1:Int).toNat * 1]? = some _),?_⟩;refine ⟨⟨by decide,by decide⟩,?_⟩;refine ⟨by omega,?_⟩;refine ⟨⟨by omega,by omega⟩,?_⟩;refine ⟨by rw [te,oH,jA];omega,?_⟩
   have ct:(cU (eL n (l.take e))).set (0 + (p.1:Int).toNat * 1) (DV.v (.int .u64 (IntKind.u64.wrap ((BitVec.ofInt 64 (x:Int) ||| BitVec.ofInt 64 (IntKind.u64.wrap (1 * 2 ^ (min (p.2:Int).toNat 64)))).toNat:Int))))=cU (eL n (l.take (e + 1))):=by
    rw [te,show ((p.2:Int).toNat)=p.2 by omega,Fi (by omega) Ja,Mp,Jt n l e hp];simp only [u3];rw [getD_some hx]
   refine ⟨Fk n l (eL n (l.take (e + 1))) (e + 1),(az 2 rfl (by repeat' (first | exact rfl | exact ah rfl | exact Ag ct | exact ak (cx ap (by omega)) | refine ⟨_,_,rfl,?_,?_⟩)) rfl rfl rfl (by repeat' (first | exact trivial | exact ah rfl | exact Ag ct | exact ak (cx ap (by omega)) | refine ⟨⟨_,rfl,?_⟩,?_⟩))),l.length - (e + 1),by omega,e + 1,rfl,by omega,rfl⟩
  ·exfalso;simp [pickB] at g;omega
 ·have aO:e=l.length:=by have:=hL;simp [gz] at this;omega
  subst aO;rw [List.take_length];refine ⟨_,?_,rfl⟩;have hlen:=jA n l;generalize eL n l=rows at hlen ⊢;refine ⟨_,rfl,_,_,rfl,.inr ⟨1,_,rfl,Nat.zero_le _,rfl,_,_,rfl,.inr (.inr (.inl ⟨0,0,n,cU rows,by rw [kv,hlen],Nat.zero_le _,rfl,?_,?_,?_⟩)),rfl⟩,_,_,rfl,rfl,rfl⟩
  ·rw [pS,kv,Nat.mul_one,List.drop_zero,List.take_of_length_le (by rw [oH];omega)]
  ·intro x hx;simp only [dU,List.mem_map] at hx;obtain ⟨y,_,rfl⟩:=hx;rfl
  ·intro x hx;rw [pS] at hx;simp only [cU,List.mem_map] at hx;obtain ⟨y,_,rfl⟩:=hx;exact .inl ⟨_,rfl⟩
def iM (rows:List Nat) (k:Nat):List Nat:=rows.set k (rows.getD k 0 ||| 2 ^ k)
def oh (k:Nat) (rows:List Nat) (a:Nat):List Nat:=if aM rows a k then rows.set a (rows.getD a 0 ||| rows.getD k 0) else rows
def e9 (rows:List Nat) (k e:Nat):List Nat:=(List.range e).foldl (oh k) (iM rows k)
def closeR (rows:List Nat) (e:Nat):List Nat:=(List.range e).foldl (fun r k=>e9 r k r.length) rows
theorem Mq {rows:List Nat} {i x:Nat} (h:dP rows) (hx:x < 18446744073709551616):dP (rows.set i x):=by
 refine ⟨by rw [List.length_set];exact h.1,fun y hy=>?_⟩;rcases List.mem_or_eq_of_mem_set hy with hy | rfl
 ·exact h.2 y hy
 ·exact hx
theorem lN {rows:List Nat} (h:dP rows) (i:Nat):rows.getD i 0 < 18446744073709551616:=by
 rw [List.getD_eq_getElem?_getD]
 cases hx:rows[i]? with
 | none=>simp
 | some x=>exact h.2 x (mG hx)
theorem Mr {rows:List Nat} {k:Nat} (h:dP rows) (hk:k < 64):dP (iM rows k):=
 Mq h (Nat.or_lt_two_pow (n:=64) (lN h k) (Nat.pow_lt_pow_right (by decide) hk))
theorem Jv (rows:List Nat) (k:Nat):(iM rows k).length=rows.length:=by simp [iM]
theorem Ms {rows:List Nat} {k a:Nat} (h:dP rows):dP (oh k rows a):=by
 unfold oh;split
 ·exact Mq h (Nat.or_lt_two_pow (n:=64) (lN h a) (lN h k))
 ·exact h
theorem Jw (rows:List Nat) (k a:Nat):(oh k rows a).length=rows.length:=by
 unfold oh;split<;>simp
theorem lO (rows:List Nat) (k e:Nat):e9 rows k (e + 1)=oh k (e9 rows k e) e:=by simp [e9,List.range_succ]
theorem nE (rows:List Nat) (k:Nat):∀ e,(e9 rows k e).length=rows.length
 | 0=>by simp [e9,Jv]
 | e + 1=>by rw [lO,Jw,nE]
theorem u4 {rows:List Nat} {k:Nat} (h:dP rows) (hk:k < 64):∀ e,dP (e9 rows k e)
 | 0=>by simpa [e9] using Mr h hk
 | e + 1=>by rw [lO];exact Ms (u4 h hk e)
theorem j6 (rows:List Nat) (e:Nat):closeR rows (e + 1)=e9 (closeR rows e) e (closeR rows e).length:=by simp [closeR,List.range_succ]
theorem eU (rows:List Nat):∀ e,(closeR rows e).length=rows.length
 | 0=>by simp [closeR]
 | e + 1=>by rw [j6,nE,eU]
theorem kO {rows:List Nat} (h:dP rows):∀ e,e<=64->dP (closeR rows e)
 | 0,_=>by simpa [closeR] using h
 | e + 1,he=>by rw [j6];exact u4 (kO h e (by omega)) (by omega) _
def spU (m:Nat):List DV:=(List.replicate m (vL [Value.int .u64 0])).flatten
theorem u5 {n m:Nat} {tk:List TkE}:∀ l:List DV,(∀ x∈l,∃ y,x = .v y)->WeL n m tk l l
 | [],_=>rfl
 | b :: r,h=>by
  obtain ⟨y,rfl⟩:=h b (by simp);exact ⟨_,_,rfl,ah rfl,u5 r (fun x hx=>h x (by simp [hx]))⟩
theorem kx {n m:Nat} {tk:List TkE} {l:List DV} {ds:List Nat} {k:Nat} (h:l=cU ds ++ spU k):WeL n m tk l (cU ds ++ spU k):=by
 rw [h];refine u5 _ fun x hx=>?_;rcases List.mem_append.1 hx with hx | hx
 ·simp only [cU,List.mem_map] at hx;obtain ⟨y,_,rfl⟩:=hx;exact ⟨_,rfl⟩
 ·simp only [spU,List.mem_flatten,List.mem_replicate] at hx;obtain ⟨y,⟨_,rfl⟩,hx⟩:=hx;simp [vL] at hx;exact ⟨_,hx⟩
theorem Ai {r:List Nat} {k i x:Nat} (h:r[i]? = some x):(cU r ++ spU k)[0 + (i:Int).toNat * 1]? = some (DV.v (.int .u64 (x:Int))):=by
 rw [show 0 + (i:Int).toNat * 1=i by omega,List.getElem?_append_left (by rw [oH];exact (gS h).1)];exact Mo h
theorem Mt {r:List Nat} {k i x:Nat} (h:i < r.length):(cU r ++ spU k).set (0 + (i:Int).toNat * 1) (DV.v (.int .u64 (x:Int)))=cU (r.set i x) ++ spU k:=by
 rw [show 0 + (i:Int).toNat * 1=i by omega,List.set_append_left _ _ (by rw [oH];exact h),Mp]
theorem Mu {r:List Nat} {k i:Nat} (h:i < r.length):0 + (i:Int).toNat * 1 + 1<=(cU r ++ spU k).length:=by
 rw [List.length_append,oH];omega
abbrev TX (rows:List Nat) (cap:Nat) (r:List Nat) (e:Nat):St:=
 ⟨[(3,⟨[],.loc 1 0⟩),(19,⟨[],.v (.int .i64 (dU rows).length)⟩),(20,⟨[],.v (.int .i64 e)⟩)],[cU r ++ spU (cap - (dU rows).length),[.ms 0 1 0 (dU rows).length cap]],[]⟩
abbrev HQ (rows:List Nat) (cap:Nat) (r:List Nat) (e f:Nat):St:=
 ⟨[(3,⟨[],.loc 1 0⟩),(4,⟨[],.v (.int .i64 e)⟩),(19,⟨[],.v (.int .i64 (dU rows).length)⟩),(20,⟨[],.v (.int .i64 e)⟩),(38,⟨[],.v (.int .i64 (dU rows).length)⟩),(39,⟨[],.v (.int .i64 f)⟩)],[cU r ++ spU (cap - (dU rows).length),[.ms 0 1 0 (dU rows).length cap]],[]⟩
theorem oJ {l:List Nat} {i:Nat} (h:i < l.length):l[i]? = some (l.getD i 0):=re h
theorem sD (rows:List Nat) (hr:dP rows) (h0:rows ≠ []):EvP Tryz.prog 100 [mi rows] (mi (closeR rows rows.length)):=by
 have hr1:=hr.1;have hN:=kv rows;have jS:0 < rows.length:=List.length_pos_iff.2 h0;refine zQ (s:=false) (bt:=[]) (mu:=[12]) (hbt:=fun p hp=>by cases hp) (fr:=false) (P:=Tryz.prog) tt tt_ok 5000 72 [.tmp 2] Tryz.func100 rfl Tryz.ntmps100 rfl (nL rfl) (fun E9 w9 hn9 hm9=>?_);refine ⟨⟨by intro h;exact h0 (by simpa [dU] using h),by rw [kv];simp [maxLen];omega,by rw [kv];omega⟩,fun cap IY=>?_⟩
 have gk:(dU rows).flatten.append (List.replicate (cap - (dU rows).length) (vL [Value.int .u64 0])).flatten=cU (closeR rows 0) ++ spU (cap - (dU rows).length):=by
  show (dU rows).flatten ++ _=_;rw [pS];rfl
 refine aq (fun j st=>∃ e:Nat,st=TX rows cap (closeR rows e) e/\e<=rows.length/\j=rows.length - e) rows.length (TX rows cap (closeR rows 0) 0) (az 2 rfl (by repeat' (first | exact rfl | exact ah rfl | exact kx gk | refine ⟨_,_,rfl,?_,?_⟩)) rfl rfl rfl (by repeat' (first | exact trivial | exact ah rfl | exact kx gk | refine ⟨⟨_,rfl,?_⟩,?_⟩))) ⟨0,rfl,by omega,by omega⟩ ?_;rintro j st ⟨e,rfl,he,rfl⟩;have bG:=kO hr e (by omega);have hlen:=eU rows e;have RX:=j6 rows e;generalize hce:closeR rows e=r at bG hlen RX ⊢;refine br (fun hL=>?_) (fun hL=>?_)
 ·have ap:e < rows.length:=by have:=hL;simp [hN] at this;exact this
  have hx:=oJ (l:=r) (i:=e) (by omega);have YA:=Fi (x:=r.getD e 0) (b:=e) (by omega) (lN bG e);refine aP mo (by decide +kernel) ?_;refine ⟨⟨by omega,by omega⟩,?_⟩;refine ⟨_,Ai hx,?_⟩;refine ⟨by omega,?_⟩;refine ⟨⟨by omega,by omega⟩,?_⟩;refine ⟨Mu (by omega),?_⟩
  have iu:(cU r ++ spU (cap - (dU rows).length)).set (0 + (e:Int).toNat * 1) (DV.v (.int .u64 (IntKind.u64.wrap ((BitVec.ofInt 64 ((r.getD e 0:Nat):Int) ||| BitVec.ofInt 64 (IntKind.u64.wrap (1 * 2 ^ (min (e:Int).toNat 64)))).toNat:Int))))=cU (e9 r e 0) ++ spU (cap - (dU rows).length):=by
   rw [show min (e:Int).toNat 64=min e 64 by omega,YA,Mt (by omega)];rfl
  refine aq (fun j st=>∃ f:Nat,st=HQ rows cap (e9 r e f) e f/\f<=rows.length/\j=rows.length - f) rows.length (HQ rows cap (e9 r e 0) e 0) (az 2 rfl (by repeat' (first | exact rfl | exact ah rfl | exact kx iu | refine ⟨_,_,rfl,?_,?_⟩)) rfl rfl rfl (by repeat' (first | exact trivial | exact ah rfl | exact kx iu | refine ⟨⟨_,rfl,?_⟩,?_⟩))) ⟨0,rfl,by omega,by omega⟩ ?_;rintro j st ⟨f,rfl,hf,rfl⟩;have hpk:=u4 (k:=e) bG (by omega) f;have iE:=nE r e f;have Yw:=lO r e f;have dp:e < (e9 r e f).length:=by rw [iE];omega
  refine br (fun hL=>?_) (fun hL=>?_)
  ·have Bu:f < rows.length:=by have:=hL;simp [hN] at this;exact this
   have hpf:f < (e9 r e f).length:=by rw [iE];omega
   generalize e9 r e f=q at hpk iE Yw dp hpf ⊢;have hy:=oJ hpf;have hz:=oJ dp;have Mv:=HO (x:=q.getD f 0) (b:=e) (by omega) (lN hpk f);have YA:=PU (lN hpk f) (lN hpk e);refine ⟨⟨by omega,by omega⟩,?_⟩;refine ⟨_,Ai hy,?_⟩;refine ⟨by omega,?_⟩;refine br (fun g=>?_) (fun g=>?_)
   ·have g:aM q f e=true:=Mv.symm.trans g;refine aP mo (by decide +kernel) ?_;refine ⟨⟨by omega,by omega⟩,?_⟩;refine ⟨_,Ai hy,?_⟩;refine ⟨⟨by omega,by omega⟩,?_⟩;refine ⟨_,Ai hz,?_⟩;refine ⟨⟨by omega,by omega⟩,?_⟩;refine ⟨Mu hpf,?_⟩
    have fH:(cU q ++ spU (cap - (dU rows).length)).set (0 + (f:Int).toNat * 1) (DV.v (.int .u64 (IntKind.u64.wrap ((BitVec.ofInt 64 ((q.getD f 0:Nat):Int) ||| BitVec.ofInt 64 ((q.getD e 0:Nat):Int)).toNat:Int))))=cU (e9 r e (f + 1)) ++ spU (cap - (dU rows).length):=by
     rw [YA,Mt hpf,Yw,oh,if_pos g]
    exact ⟨HQ rows cap (e9 r e (f + 1)) e (f + 1),(az 2 rfl (by repeat' (first | exact rfl | exact ah rfl | exact kx fH | exact ak (cx Bu (by omega)) | refine ⟨_,_,rfl,?_,?_⟩)) rfl rfl rfl (by repeat' (first | exact trivial | exact ah rfl | exact kx fH | exact ak (cx Bu (by omega)) | refine ⟨⟨_,rfl,?_⟩,?_⟩))),rows.length - (f + 1),by omega,f + 1,rfl,by omega,rfl⟩
   ·have g:aM q f e=false:=Mv.symm.trans g
    have fH:cU q ++ spU (cap - (dU rows).length)=cU (e9 r e (f + 1)) ++ spU (cap - (dU rows).length):=by
     rw [Yw,oh,if_neg (by rw [g];decide)]
    exact ⟨HQ rows cap (e9 r e (f + 1)) e (f + 1),(az 2 rfl (by repeat' (first | exact rfl | exact ah rfl | exact kx fH | exact ak (cx Bu (by omega)) | refine ⟨_,_,rfl,?_,?_⟩)) rfl rfl rfl (by repeat' (first | exact trivial | exact ah rfl | exact kx fH | exact ak (cx Bu (by omega)) | refine ⟨⟨_,rfl,?_⟩,?_⟩))),rows.length - (f + 1),by omega,f + 1,rfl,by omega,rfl⟩
  ·have aO:f=rows.length:=by have:=hL;simp [hN] at this;omega
   subst aO
   have KH:cU (e9 r e rows.length) ++ spU (cap - (dU rows).length)=cU (closeR rows (e + 1)) ++ spU (cap - (dU rows).length):=by
    rw [RX,hlen]
   exact ⟨TX rows cap (closeR rows (e + 1)) (e + 1),(az 2 rfl (by repeat' (first | exact rfl | exact ah rfl | exact kx KH | exact ak (cx ap (by omega)) | refine ⟨_,_,rfl,?_,?_⟩)) rfl rfl rfl (by repeat' (first | exact trivial | exact ah rfl | exact kx KH | exact ak (cx ap (by omega)) | refine ⟨⟨_,rfl,?_⟩,?_⟩))),rows.length - (e + 1),by omega,e + 1,rfl,by omega,rfl⟩
 ·have aO:e=rows.length:=by have:=hL;simp [hN] at this;omega
  subst aO;refine ⟨_,?_,rfl⟩;rw [hce];refine .inr ⟨1,_,rfl,Nat.zero_le _,rfl,_,_,rfl,.inr (.inr (.inl ⟨0,0,cap,cU r ++ spU (cap - (dU rows).length),by rw [kv r,hlen,hN],Nat.zero_le _,rfl,?_,?_,?_⟩)),rfl⟩
  ·rw [pS,kv,Nat.mul_one,List.drop_zero,List.take_append_of_le_length (by rw [oH];omega),List.take_of_length_le (by rw [oH];omega)]
  ·intro x hx;simp only [dU,List.mem_map] at hx;obtain ⟨y,_,rfl⟩:=hx;rfl
  ·intro x hx;rw [pS] at hx;simp only [cU,List.mem_map] at hx;obtain ⟨y,_,rfl⟩:=hx;exact .inl ⟨_,rfl⟩
theorem kP {a b c d:Nat} (ha:a < 256) (hb:b < 256):(a + 256 * c) &&& (b + 256 * d)=(a &&& b) + 256 * (c &&& d):=by
 have h1:a &&& b < 256:=Nat.and_lt_two_pow (n:=8) a hb;apply Nat.eq_of_testBit_eq;intro i
 have e (x y:Nat) (hx:x < 256):(x + 256 * y).testBit i=if i < 8 then x.testBit i else y.testBit (i - 8):=by
  rw [show x + 256 * y=2 ^ 8 * y + x by omega,Nat.testBit_two_pow_mul_add _ (by simpa using hx)]
 rw [Nat.testBit_and,e a c ha,e b d hb,e _ _ h1];split<;>simp [Nat.testBit_and]
def b1 (x:Nat):Nat:=((x / 2) &&& 85) + (x &&& 85)
def b2 (x:Nat):Nat:=((x / 4) &&& 51) + (x &&& 51)
def b3 (x:Nat):Nat:=((x / 16) + x) &&& 15
def pop8 (x:Nat):Nat:=b3 (b2 (b1 x))
theorem HR:∀ x:Fin 256,b1 x.val < 256/\b2 (b1 x.val) < 120/\pop8 x.val<=8/\pop8 x.val=(((((((x.val.testBit 0).toNat + (x.val.testBit 1).toNat) + (x.val.testBit 2).toNat) + (x.val.testBit 3).toNat) + (x.val.testBit 4).toNat) + (x.val.testBit 5).toNat) + (x.val.testBit 6).toNat) + (x.val.testBit 7).toNat:=by decide +kernel
def valB:List Nat->Nat
 | []=>0
 | a :: r=>a + 256 * valB r
def rep (m:Nat):Nat->Nat
 | 0=>0
 | n + 1=>m + 256 * rep m n
theorem m1:∀ (a:Fin 256) (c:Fin 2),(a.val / 2 + 128 * c.val) &&& 85=(a.val / 2) &&& 85:=by decide +kernel
theorem m2:∀ (a:Fin 256) (c:Fin 4),(a.val / 4 + 64 * c.val) &&& 51=(a.val / 4) &&& 51:=by decide +kernel
theorem qN:∀ l:List Nat,(∀ a∈l,a < 256)->((valB l / 2) &&& rep 85 l.length) + (valB l &&& rep 85 l.length)=valB (l.map b1)
 | [],_=>rfl
 | a :: r,h=>by
  have ih:=qN r (fun x hx=>h x (by simp [hx]));have ha:=h a (by simp);have e1:(a + 256 * valB r) / 2=(a / 2 + 128 * (valB r % 2)) + 256 * (valB r / 2):=by omega
  have hm:=m1 ⟨a,ha⟩ ⟨valB r % 2,by omega⟩;simp only at hm;simp only [valB,List.length_cons,rep,List.map_cons,b1];rw [e1,kP (by omega) (by decide),kP ha (by decide),hm,<- ih];omega
theorem I6:∀ l:List Nat,(∀ a∈l,a < 256)->((valB l / 4) &&& rep 51 l.length) + (valB l &&& rep 51 l.length)=valB (l.map b2)
 | [],_=>rfl
 | a :: r,h=>by
  have ih:=I6 r (fun x hx=>h x (by simp [hx]));have ha:=h a (by simp);have e1:(a + 256 * valB r) / 4=(a / 4 + 64 * (valB r % 4)) + 256 * (valB r / 4):=by omega
  have hm:=m2 ⟨a,ha⟩ ⟨valB r % 4,by omega⟩;simp only at hm;simp only [valB,List.length_cons,rep,List.map_cons,b2];rw [e1,kP (by omega) (by decide),kP ha (by decide),hm,<- ih];omega
theorem YB (x y:Nat):(x + 16 * y) &&& 15=x &&& 15:=by
 have h (z:Nat):z &&& 15=z % 16:=Nat.and_two_pow_sub_one_eq_mod z 4;rw [h,h];omega
def CE (a:Nat):Prop:=a < 70/\a % 16<=4
theorem st3:∀ l:List Nat,(∀ a∈l,CE a)->((valB l / 16) + valB l) &&& rep 15 l.length=valB (l.map b3)
 | [],_=>rfl
 | a :: r,h=>by
  have ih:=st3 r (fun x hx=>h x (by simp [hx]));have ha:=h a (by simp)
  have hc:valB r % 16<=4:=by
   cases r with
   | nil=>simp [valB]
   | cons b s=>
    have:=(h b (by simp)).2;simp only [valB];omega
  unfold CE at ha;have e1:(a + 256 * valB r) / 16 + (a + 256 * valB r)=((a / 16 + a) + 16 * (valB r % 16)) + 256 * (valB r / 16 + valB r):=by omega
  simp only [valB,List.length_cons,rep,List.map_cons,b3];rw [e1,kP (by omega) (by decide),YB,ih]
def ek (x:Nat):List Nat:=[x % 256,x / 256 % 256,x / 65536 % 256,x / 16777216 % 256,x / 4294967296 % 256,x / 1099511627776 % 256,x / 281474976710656 % 256,x / 72057594037927936 % 256]
theorem Fl {x:Nat} (h:x < 18446744073709551616):valB (ek x)=x:=by
 simp only [ek,valB];omega
theorem Jx (x:Nat):∀ a∈ek x,a < 256:=by
 intro a ha;simp only [ek,List.mem_cons,List.not_mem_nil,or_false] at ha;omega
def Fm (x:Nat):Nat:=((ek x).map pop8).sum
theorem CF:∀ a:Fin 256,b1 a.val < 256/\b2 (b1 a.val) < 70/\b2 (b1 a.val) % 16<=4:=by decide +kernel
theorem Aj {x m:Nat} (hx:x < 18446744073709551616) (hm:m < 18446744073709551616) :
  IntKind.u64.wrap ((BitVec.ofInt 64 (x:Int) &&& BitVec.ofInt 64 (m:Int)).toNat:Int)=((x &&& m:Nat):Int):=by
 rw [ia,ia,BitVec.toNat_and,BitVec.toNat_ofNat,BitVec.toNat_ofNat,Nat.mod_eq_of_lt hx,Nat.mod_eq_of_lt hm];have h3:x &&& m < 18446744073709551616:=Nat.and_lt_two_pow (n:=64) x hm;simp only [IntKind.wrap_u64];omega
theorem Fo {x:Nat} {k:Int} (hk:k.toNat < 64):(x:Int).fdiv (2 ^ min k.toNat IntKind.u64.bits)=((x / 2 ^ k.toNat:Nat):Int):=by
 rw [show min k.toNat IntKind.u64.bits=k.toNat from Nat.min_eq_left (by show k.toNat<=64;omega),CD]
theorem Ak {y:Nat} (h:y < 18446744073709551616):IntKind.u64.wrap (y:Int)=(y:Int):=by
 simp only [IntKind.wrap_u64];omega
theorem YC {k M:Int} {m x y:Nat} (hk:k.toNat < 64) (hx:x < 18446744073709551616) (hM:M=(m:Int)) (hm:m < 18446744073709551616) (hy:((x / 2 ^ k.toNat) &&& m) + (x &&& m)=y) (mf:y < 18446744073709551616) :
  IntKind.u64.wrap (IntKind.u64.wrap ((BitVec.ofInt IntKind.u64.bits ((x:Int).fdiv (2 ^ min k.toNat IntKind.u64.bits)) &&& BitVec.ofInt IntKind.u64.bits M).toNat:Int) + IntKind.u64.wrap ((BitVec.ofInt IntKind.u64.bits (x:Int) &&& BitVec.ofInt IntKind.u64.bits M).toNat:Int))=(y:Int):=by
 subst hM;have h1:x / 2 ^ k.toNat < 18446744073709551616:=Nat.lt_of_le_of_lt (Nat.div_le_self _ _) hx;have e1:IntKind.u64.wrap ((BitVec.ofInt IntKind.u64.bits ((x / 2 ^ k.toNat:Nat):Int) &&& BitVec.ofInt IntKind.u64.bits (m:Int)).toNat:Int)=_:=Aj h1 hm;have e2:IntKind.u64.wrap ((BitVec.ofInt IntKind.u64.bits (x:Int) &&& BitVec.ofInt IntKind.u64.bits (m:Int)).toNat:Int)=_:=Aj hx hm;rw [Fo hk,e1,e2,<- Int.natCast_add,hy,Ak mf]
theorem stgB {k M:Int} {m x y:Nat} (hk:k.toNat < 64) (hs:x / 2 ^ k.toNat + x < 18446744073709551616) (hM:M=(m:Int)) (hm:m < 18446744073709551616) (hy:((x / 2 ^ k.toNat) + x) &&& m=y) :
  IntKind.u64.wrap ((BitVec.ofInt IntKind.u64.bits (IntKind.u64.wrap ((x:Int).fdiv (2 ^ min k.toNat IntKind.u64.bits) + (x:Int))) &&& BitVec.ofInt IntKind.u64.bits M).toNat:Int)=(y:Int):=by
 subst hM;have e2:IntKind.u64.wrap ((BitVec.ofInt IntKind.u64.bits ((x / 2 ^ k.toNat + x:Nat):Int) &&& BitVec.ofInt IntKind.u64.bits (m:Int)).toNat:Int)=_:=Aj hs hm;rw [Fo hk,<- Int.natCast_add,Ak hs,e2,hy]
theorem TY {k:Int} {x:Nat} (hk:k.toNat < 64) (hs:x + x / 2 ^ k.toNat < 18446744073709551616) :
  IntKind.u64.wrap ((x:Int) + (x:Int).fdiv (2 ^ min k.toNat IntKind.u64.bits))=((x + x / 2 ^ k.toNat:Nat):Int):=by
 rw [Fo hk,<- Int.natCast_add,Ak hs]
theorem HS:∀ l:List Nat,(∀ a∈l,a < 256)->valB l < 256 ^ l.length
 | [],_=>by simp [valB]
 | a :: r,h=>by
  have ih:=HS r (fun x hx=>h x (by simp [hx]));have ha:=h a (by simp);simp only [valB,List.length_cons,Nat.pow_succ];omega
theorem Mw {x:Nat} (hx:x < 18446744073709551616):∃ y1 y2 y3:Nat,((x / 2) &&& 6148914691236517205) + (x &&& 6148914691236517205)=y1/\y1 < 18446744073709551616/\((y1 / 4) &&& 3689348814741910323) + (y1 &&& 3689348814741910323)=y2/\y2 / 16 + y2 < 18446744073709551616/\y2 < 18446744073709551616 /\
  ((y2 / 16) + y2) &&& 1085102592571150095=y3/\∃ p0 p1 p2 p3 p4 p5 p6 p7:Nat,y3=valB [p0,p1,p2,p3,p4,p5,p6,p7]/\(p0<=8/\p1<=8/\p2<=8/\p3<=8/\p4<=8/\p5<=8/\p6<=8/\p7<=8)/\Fm x=p0 + p1 + p2 + p3 + p4 + p5 + p6 + p7:=by
 have hl:=Jx x;have s1:=qN (ek x) hl;rw [Fl hx] at s1
 have l1:∀ a∈(ek x).map b1,a < 256:=by
  intro a ha;obtain ⟨b,hb,rfl⟩:=List.mem_map.1 ha;exact (CF ⟨b,hl b hb⟩).1
 have l2:∀ a∈((ek x).map b1).map b2,CE a:=by
  intro a ha;obtain ⟨c,hc,rfl⟩:=List.mem_map.1 ha;obtain ⟨b,hb,rfl⟩:=List.mem_map.1 hc;exact (CF ⟨b,hl b hb⟩).2
 have s2:=I6 ((ek x).map b1) l1;have s3:=st3 (((ek x).map b1).map b2) l2
 have v1:valB ((ek x).map b1) < 18446744073709551616:=by
  have:=HS _ l1;rw [List.length_map,show (ek x).length=8 from rfl] at this;simpa using this
 rw [show rep 85 (ek x).length=6148914691236517205 from (by decide:rep 85 8=_)] at s1;rw [List.length_map,show rep 51 (ek x).length=3689348814741910323 from (by decide:rep 51 8=_)] at s2;rw [List.length_map,List.length_map,show rep 15 (ek x).length=1085102592571150095 from (by decide:rep 15 8=_)] at s3;refine ⟨_,_,_,s1,v1,s2,?_,?_,s3,_,_,_,_,_,_,_,_,rfl,?_,?_⟩
 ·have:=l2;simp only [ek,List.map_cons,List.map_nil,List.mem_cons,List.not_mem_nil,or_false,forall_eq_or_imp,forall_eq,CE,valB] at this ⊢;omega
 ·have:=l2;simp only [ek,List.map_cons,List.map_nil,List.mem_cons,List.not_mem_nil,or_false,forall_eq_or_imp,forall_eq,CE,valB] at this ⊢;omega
 ·have h (b:Nat) (hb:b < 256):=(HR ⟨b,hb⟩).2.2.1;exact ⟨h _ (by omega),h _ (by omega),h _ (by omega),h _ (by omega),h _ (by omega),h _ (by omega),h _ (by omega),h _ (by omega)⟩
 ·simp only [Fm,ek,List.map_cons,List.map_nil,List.sum_cons,List.sum_nil,pop8];omega
theorem dr1 {a r:Nat} (h:a < 256):(a + 256 * r) / 256=r:=by omega
theorem dr2 {a b r:Nat} (h:a < 256) (h2:b < 256):(a + 256 * (b + 256 * r)) / 65536=r:=by omega
theorem dr4 {a b c d r:Nat} (h:a < 256) (h2:b < 256) (h3:c < 256) (h4:d < 256):(a + 256 * (b + 256 * (c + 256 * (d + 256 * r)))) / 4294967296=r:=by omega
theorem Mx {p0 p1 p2 p3 p4 p5 p6 p7:Nat} (hp:p0<=8/\p1<=8/\p2<=8/\p3<=8/\p4<=8/\p5<=8/\p6<=8/\p7<=8):∃ z1 z2 z3:Nat,
  (p0 + 256 * (p1 + 256 * (p2 + 256 * (p3 + 256 * (p4 + 256 * (p5 + 256 * (p6 + 256 * (p7 + 256 * 0)))))))) + (p0 + 256 * (p1 + 256 * (p2 + 256 * (p3 + 256 * (p4 + 256 * (p5 + 256 * (p6 + 256 * (p7 + 256 * 0)))))))) / 256=z1/\z1 < 18446744073709551616 /\
  z1 + z1 / 65536=z2/\z2 < 18446744073709551616/\z2 + z2 / 4294967296=z3/\z3 < 18446744073709551616/\z3 % 128=p0 + p1 + p2 + p3 + p4 + p5 + p6 + p7:=by
 refine ⟨(p0 + p1) + 256 * ((p1 + p2) + 256 * ((p2 + p3) + 256 * ((p3 + p4) + 256 * ((p4 + p5) + 256 * ((p5 + p6) + 256 * ((p6 + p7) + 256 * p7)))))),
  (p0 + p1 + p2 + p3) + 256 * ((p1 + p2 + p3 + p4) + 256 * ((p2 + p3 + p4 + p5) + 256 * ((p3 + p4 + p5 + p6) + 256 * ((p4 + p5 + p6 + p7) + 256 * ((p5 + p6 + p7) + 256 * ((p6 + p7) + 256 * p7)))))),
  (p0 + p1 + p2 + p3 + p4 + p5 + p6 + p7) + 256 * ((p1 + p2 + p3 + p4 + p5 + p6 + p7) + 256 * ((p2 + p3 + p4 + p5 + p6 + p7) + 256 * ((p3 + p4 + p5 + p6 + p7) + 256 * ((p4 + p5 + p6 + p7) + 256 * ((p5 + p6 + p7) + 256 * ((p6 + p7) + 256 * p7)))))),?_,by omega,?_,by omega,?_,by omega,by omega⟩
 ·rw [dr1 (by omega)];omega
 ·rw [dr2 (by omega) (by omega)];omega
 ·rw [dr4 (by omega) (by omega) (by omega) (by omega)];omega
theorem My {z:Nat} (h:z < 18446744073709551616):IntKind.i64.wrap ((BitVec.ofInt IntKind.i64.bits (IntKind.i64.wrap (z:Int)) &&& BitVec.ofInt IntKind.i64.bits 127).toNat:Int)=((z % 128:Nat):Int):=by
 have e1:BitVec.ofInt 64 (IntKind.i64.wrap (z:Int))=BitVec.ofNat 64 z:=by
  apply BitVec.eq_of_toNat_eq;rw [BitVec.toNat_ofInt,BitVec.toNat_ofNat,IntKind.wrap_i64];omega
 have e2:(BitVec.ofInt 64 (IntKind.i64.wrap (z:Int)) &&& BitVec.ofInt 64 127).toNat=z % 128:=by
  rw [e1,show BitVec.ofInt 64 127=BitVec.ofNat 64 127 by decide,BitVec.toNat_and,BitVec.toNat_ofNat,BitVec.toNat_ofNat,Nat.mod_eq_of_lt h];exact Nat.and_two_pow_sub_one_eq_mod z 7
 have e3:(BitVec.ofInt IntKind.i64.bits (IntKind.i64.wrap (z:Int)) &&& BitVec.ofInt IntKind.i64.bits 127).toNat=z % 128:=e2;rw [e3,IntKind.wrap_i64];omega
theorem Jy (x:Nat) (hx:x < 18446744073709551616):EvP Tryz.prog 164 [.v (.int .u64 x)] (.v (.int .i64 (Fm x:Nat))):=by
 obtain ⟨y1,y2,y3,h1,Q9,h2,h2s,h2b,h3,p0,p1,p2,p3,p4,p5,p6,p7,h4,hp,h5⟩:=Mw hx;rw [h5];simp only [valB] at h4;refine ev_go (P:=Tryz.prog) tt tt_ok 5000 35 [.tmp 2] Tryz.func164 rfl Tryz.ntmps164 rfl (nL rfl) (fun E9 w9 hn9 hm9=>?_);refine ⟨by decide,?_⟩;refine ⟨by decide,?_⟩;refine ⟨by decide,?_⟩;refine ⟨by decide,?_⟩;refine ⟨by decide,?_⟩;refine ⟨by decide,?_⟩;refine (congrArg (fun z=>DV.v (.int .i64 z)) ?_:_=_);rw [YC (k:=1) (M:=6148914691236517205) (by decide) hx rfl (by decide) h1 Q9,YC (k:=2) (M:=3689348814741910323) (by decide) Q9 rfl (by decide) h2 h2b,stgB (k:=4) (M:=1085102592571150095) (by decide) h2s rfl (by decide) h3];obtain ⟨z1,z2,z3,g1,g1b,g2,g2b,g3,g3b,g4⟩:=Mx hp;rw [<- h4] at g1;have k1:y3 + y3 / 2 ^ (8:Int).toNat=z1:=g1;rw [TY (k:=8) (by decide) (by rw [k1];exact g1b),k1];have k2:z1 + z1 / 2 ^ (16:Int).toNat=z2:=g2;rw [TY (k:=16) (by decide) (by rw [k2];exact g2b),k2];have k3:z2 + z2 / 2 ^ (32:Int).toNat=z3:=g3;rw [TY (k:=32) (by decide) (by rw [k3];exact g3b),k3,<- g4];exact My g3b
theorem iy (x k i:Nat) (hi:i < 8):(x / 2 ^ (8 * k) % 256).testBit i=x.testBit (8 * k + i):=by
 rw [show (256:Nat)=2 ^ 8 by decide,Nat.testBit_mod_two_pow,decide_eq_true hi,Bool.true_and,Nat.testBit_div_two_pow,Nat.add_comm]
theorem iz (x k:Nat):pop8 (x / 2 ^ (8 * k) % 256)=(((((((x.testBit (8 * k + 0)).toNat + (x.testBit (8 * k + 1)).toNat) + (x.testBit (8 * k + 2)).toNat) + (x.testBit (8 * k + 3)).toNat) + (x.testBit (8 * k + 4)).toNat) + (x.testBit (8 * k + 5)).toNat) + (x.testBit (8 * k + 6)).toNat) + (x.testBit (8 * k + 7)).toNat:=by
 have h:=(HR ⟨x / 2 ^ (8 * k) % 256,Nat.mod_lt _ (by decide)⟩).2.2.2;simp only at h;rw [h,iy x k 0 (by decide),iy x k 1 (by decide),iy x k 2 (by decide),iy x k 3 (by decide),iy x k 4 (by decide),iy x k 5 (by decide),iy x k 6 (by decide),iy x k 7 (by decide)]
def sumB (x:Nat):Nat->Nat
 | 0=>0
 | n + 1=>sumB x n + (x.testBit n).toNat
theorem Mz (x:Nat):Fm x=sumB x 64:=by
 have h0:=iz x 0;have h1:=iz x 1;have h2:=iz x 2;have h3:=iz x 3;have h4:=iz x 4;have h5:=iz x 5;have h6:=iz x 6;have h7:=iz x 7;simp only [Nat.mul_zero,Nat.pow_zero,Nat.div_one] at h0;simp only [Fm,ek,List.map_cons,List.map_nil,List.sum_cons,List.sum_nil,sumB];rw [h0]
 rw [show x / 256=x / 2 ^ (8 * 1) by rfl,h1,show x / 65536=x / 2 ^ (8 * 2) by rfl,h2,show x / 16777216=x / 2 ^ (8 * 3) by rfl,h3,show x / 4294967296=x / 2 ^ (8 * 4) by rfl,h4,
  show x / 1099511627776=x / 2 ^ (8 * 5) by rfl,h5,show x / 281474976710656=x / 2 ^ (8 * 6) by rfl,h6,show x / 72057594037927936=x / 2 ^ (8 * 7) by rfl,h7]
 simp only [Nat.reduceMul,Nat.reduceAdd];omega
theorem u6 (x:Nat):∀ n,0 < sumB x n↔∃ b,b < n/\x.testBit b=true
 | 0=>by simp [sumB]
 | n + 1=>by
  have ih:=u6 x n;simp only [sumB];cases h:x.testBit n
  ·simp only [Bool.toNat_false,Nat.add_zero,ih]
   exact ⟨fun ⟨b,hb,hx⟩=>⟨b,by omega,hx⟩,fun ⟨b,hb,hx⟩=>⟨b,by
    rcases Nat.lt_succ_iff_lt_or_eq.1 hb with hb | rfl
    ·exact ⟨hb,hx⟩
    ·rw [h] at hx;cases hx⟩⟩
  ·simp only [Bool.toNat_true];exact ⟨fun _=>⟨n,by omega,h⟩,fun _=>by omega⟩
theorem CG (x a:Nat) (ha:x.testBit a=true):∀ n,a < n->(1 < sumB x n↔∃ b,b < n/\b≠a/\x.testBit b=true)
 | 0,h=>by omega
 | n + 1,h=>by
  simp only [sumB];by_cases hn:a=n
  ·subst hn;rw [ha,Bool.toNat_true];have:=u6 x a;constructor
   ·intro h1;obtain ⟨b,hb,hx⟩:=this.1 (by omega);exact ⟨b,by omega,by omega,hx⟩
   ·rintro ⟨b,hb,aN,hx⟩;have:=this.2 ⟨b,by omega,hx⟩;omega
  ·have ih:=CG x a ha n (by omega);have hp:=(u6 x n).2 ⟨a,by omega,ha⟩;cases hb:x.testBit n
   ·simp only [Bool.toNat_false,Nat.add_zero,ih]
    exact ⟨fun ⟨b,h1,h2,h3⟩=>⟨b,by omega,h2,h3⟩,fun ⟨b,h1,h2,h3⟩=>⟨b,by
     rcases Nat.lt_succ_iff_lt_or_eq.1 h1 with h1 | rfl
     ·exact ⟨h1,h2,h3⟩
     ·rw [hb] at h3;cases h3⟩⟩
   ·simp only [Bool.toNat_true];exact ⟨fun _=>⟨n,by omega,fun e=>hn e.symm,hb⟩,fun _=>by omega⟩
def bL (p:Nat->Bool) (n:Nat):Option Nat:=(List.range n).find? p
theorem cC {p:Nat->Bool} {n e:Nat} (he:e < n) (hp:p e=true) (h:∀ a,a < e->p a=false):bL p n=some e:=by
 unfold bL;rw [List.find?_eq_some_iff_getElem];refine ⟨hp,e,by simpa using he,by simp,fun j hj=>?_⟩;simp [h j hj]
theorem cW {p:Nat->Bool} {n:Nat} (h:∀ a,a < n->p a=false):bL p n=none:=by
 unfold bL;rw [List.find?_eq_none];intro x hx;simp [h x (by simpa using hx)]
theorem dY {p:Nat->Bool} {n e:Nat} (h:bL p n=some e):e < n/\p e=true/\∀ a,a < e->p a=false:=by
 unfold bL at h;rw [List.find?_eq_some_iff_getElem] at h;obtain ⟨h1,i,hi,rfl,h3⟩:=h;refine ⟨by simpa using hi,h1,fun a ha=>?_⟩;have:=h3 a (by simpa using ha);simpa using this
def pU (c:List Nat) (a:Nat):Bool:=decide (1 < Fm (backN c a c.length))
def MA:Option Nat->DV
 | some a=>.tup [.v (.int .i64 (a:Int)),.v (.bool true)]
 | none=>.tup [.v (.int .i64 0),.v (.bool false)]
abbrev Al (c:List Nat) (e:Nat):St:=
 ⟨[(4,⟨[],mi c⟩),(9,⟨[],.v (.int .i64 c.length)⟩),(10,⟨[],.v (.int .i64 e)⟩)],[],[]⟩
theorem Fp (rows:List Nat) (hr:dP rows) (h0:rows ≠ []):EvP Tryz.prog 99 [mi rows] (MA (bL (pU (closeR rows rows.length)) rows.length)):=by
 have hc:=sD rows hr h0;have bG:=kO hr rows.length hr.1;have hlen:=eU rows rows.length;have hr1:=hr.1;generalize closeR rows rows.length=c at hc bG hlen ⊢;rw [<- hlen];have hl:=yz c;refine ev_go (P:=Tryz.prog) tt tt_ok 5000 20 [.tmp 2,.tmp 3] Tryz.func99 rfl Tryz.ntmps99 rfl (nL rfl) (fun E9 w9 hn9 hm9=>?_);refine call_p Re (hc) ax rfl ?_;refine call_p LH (hl) ax rfl ?_;refine aq (fun j st=>∃ e:Nat,st=Al c e/\e<=c.length/\(∀ a,a < e->pU c a=false)/\j=c.length - e) c.length (Al c 0) (weak_mk ⟨_,rfl⟩ wA rfl rfl rfl wB) ⟨0,rfl,by omega,fun a h=>by omega,by omega⟩ ?_;rintro j st ⟨e,rfl,he,eI,rfl⟩;refine br (fun hL=>?_) (fun hL=>?_)
 ·have ap:e < c.length:=by have:=hL;simp at this;exact this
  have TW:backN c e c.length < 18446744073709551616:=by
   have h1:=u0 c e c.length;have:2 ^ c.length<=2 ^ 64:=Nat.pow_le_pow_right (by decide) (by omega);omega
  refine call_p Xm (Fj c bG e ap) ax rfl ?_;refine call_p Xl (Jy _ TW) ax rfl ?_;refine br (fun g=>?_) (fun g=>?_)
  ·have g:pU c e=true:=by
    simp at g;simp [pU];omega
   rw [cC ap g eI];refine ⟨_,?_,rfl⟩;exact ax
  ·have g:pU c e=false:=by
    simp at g;simp [pU];omega
   exact ⟨Al c (e + 1),(weak_mk ⟨_,rfl⟩ wA rfl rfl rfl (wNB ap)),c.length - (e + 1),by omega,e + 1,rfl,by omega,fun a ha=>by
    rcases Nat.lt_succ_iff_lt_or_eq.1 ha with ha | rfl
    ·exact eI a ha
    ·exact g,rfl⟩
 ·have aO:e=c.length:=by have:=hL;simp at this;omega
  subst aO;rw [cW eI];refine ⟨_,?_,rfl⟩;exact ax
theorem u7 {rows:List Nat} {i x a b:Nat} (hi:i < rows.length):aM (rows.set i x) a b=if a=i then x.testBit b else aM rows a b:=by
 unfold aM;simp only [List.getD_eq_getElem?_getD];by_cases h:a=i
 ·subst h;rw [List.getElem?_set_self hi,if_pos rfl];all_goals rfl
 ·rw [List.getElem?_set_ne (Ne.symm h),if_neg h]
theorem nF {rows:List Nat} {k a b:Nat} (hk:k < rows.length):aM (iM rows k) a b=(aM rows a b || (decide (a=k) && decide (b=k))):=by
 unfold iM;rw [u7 hk];by_cases h:a=k
 ·subst h;rw [if_pos rfl,gy];simp only [decide_true,Bool.true_and];rw [show decide (a=b)=decide (b=a) from by simp only [eq_comm]];rfl
 ·rw [if_neg h];simp [h]
theorem Jz {rows:List Nat} {k i a b:Nat} (hi:i < rows.length):aM (oh k rows i) a b=(aM rows a b || (decide (a=i) && (aM rows a k && aM rows k b))):=by
 unfold oh;by_cases h:aM rows i k=true
 ·rw [if_pos h,u7 hi];by_cases ha:a=i
  ·subst ha;rw [if_pos rfl,Nat.testBit_or];simp only [decide_true,Bool.true_and,h];rfl
  ·rw [if_neg ha];simp [ha]
 ·rw [if_neg h];by_cases ha:a=i
  ·subst ha;simp only [Bool.not_eq_true] at h;simp [h]
  ·simp [ha]
theorem yA {rows:List Nat} {k:Nat} (hk:k < rows.length):∀ e,e<=rows.length->∀ a b,aM (e9 rows k e) a b=(aM (iM rows k) a b || (decide (a < e) && (aM (iM rows k) a k && aM (iM rows k) k b)))
 | 0,_,a,b=>by simp [e9]
 | e + 1,he,a,b=>by
  have ih:=yA hk e (by omega);rw [lO,Jz (by rw [nE];omega),ih a b,ih a k,ih k b];have Bo:aM (iM rows k) k k=true:=by rw [nF hk];simp
  generalize aM (iM rows k)=s at *;by_cases h1:a=e
  ·subst h1;simp only [Nat.lt_irrefl,decide_false,Bool.false_and,Bool.or_false,decide_true,Bool.true_and,Nat.lt_succ_self,Bo];cases s a b<;>cases s a k<;>cases s k b<;>simp
  ·by_cases h2:a < e
   ·have:a < e + 1:=by omega
    simp [h1,h2,this]
   ·have:¬ a < e + 1:=by omega
    simp [h1,h2,this]
inductive tM (p:Nat->Nat->Prop):Nat->Nat->Prop
 | refl (a:Nat):tM p a a
 | step {a b c:Nat}:tM p a b->p b c->tM p a c
theorem tM.trans {p:Nat->Nat->Prop} {a b c:Nat} (h1:tM p a b) (h2:tM p b c):tM p a c:=by
 induction h2 with
 | refl=>exact h1
 | step _ h ih=>exact .step ih h
theorem tM.mono {p q:Nat->Nat->Prop} (h:∀ a b,p a b->tM q a b) {a b:Nat} (h1:tM p a b):tM q a b:=by
 induction h1 with
 | refl=>exact .refl _
 | step _ h2 ih=>exact ih.trans (h _ _ h2)
def wayQ (p:Nat->Nat->Prop):Nat->Nat->Nat->Prop
 | 0,a,b=>a=b∨p a b
 | k + 1,a,b=>wayQ p k a b∨(wayQ p k a k/\wayQ p k k b)
theorem yB {p:Nat->Nat->Prop} (a:Nat):∀ k,wayQ p k a a
 | 0=>.inl rfl
 | k + 1=>.inl (yB a k)
theorem yC {p:Nat->Nat->Prop} {a b:Nat} (h:p a b):∀ k,wayQ p k a b
 | 0=>.inr h
 | k + 1=>.inl (yC h k)
theorem pV {p:Nat->Nat->Prop}:∀ k a b,wayQ p k a b->tM p a b
 | 0,a,b,h=>by
  rcases h with rfl | h
  ·exact .refl _
  ·exact .step (.refl _) h
 | k + 1,a,b,h=>by
  rcases h with h | ⟨h1,h2⟩
  ·exact pV k a b h
  ·exact (pV k a k h1).trans (pV k k b h2)
theorem lP {p:Nat->Nat->Prop}:∀ k a m b,m < k->wayQ p k a m->wayQ p k m b->wayQ p k a b
 | 0,_,_,_,h,_,_=>by omega
 | k + 1,a,m,b,hm,h1,h2=>by
  by_cases TZ:m=k
  ·subst TZ
   have ta:wayQ p m a m:=by
    rcases h1 with h1 | h1
    ·exact h1
    ·exact h1.1
   have CH:wayQ p m m b:=by
    rcases h2 with h2 | h2
    ·exact h2
    ·exact h2.2
   exact .inr ⟨ta,CH⟩
  ·have ow:m < k:=by omega
   rcases h1 with h1 | ⟨h1,h3⟩
   ·rcases h2 with h2 | ⟨h2,h4⟩
    ·exact .inl (lP k a m b ow h1 h2)
    ·exact .inr ⟨lP k a m k ow h1 h2,h4⟩
   ·rcases h2 with h2 | ⟨h2,h4⟩
    ·exact .inr ⟨h1,lP k k m b ow h3 h2⟩
    ·exact .inr ⟨h1,h4⟩
theorem u9 {rows:List Nat}:∀ k,k<=rows.length->∀ a b,a < rows.length->((aM (closeR rows k) a b=true∨a=b)↔wayQ (fun x y=>aM rows x y=true) k a b)/\(a < k->aM (closeR rows k) a a=true)
 | 0,_,a,b,_=>by
  refine ⟨?_,fun h=>by omega⟩;simp only [closeR,List.range_zero,List.foldl_nil,wayQ];exact or_comm
 | k + 1,hk,a,b,ha=>by
  have ih:=u9 (rows:=rows) k (by omega);have iL:k < (closeR rows k).length:=by rw [eU];omega
  have hb:∀ a b,a < rows.length->aM (closeR rows (k + 1)) a b=(aM (iM (closeR rows k) k) a b || (aM (iM (closeR rows k) k) a k && aM (iM (closeR rows k) k) k b)):=fun a b ha=>by
   rw [j6,yA iL _ (Nat.le_refl _)];simp [eU,ha]
  have va:∀ a b,(aM (iM (closeR rows k) k) a b=true∨a=b)↔(aM (closeR rows k) a b=true∨a=b):=fun a b=>by
   rw [nF iL];simp only [Bool.or_eq_true,Bool.and_eq_true,decide_eq_true_eq];constructor
   ·rintro ((h | ⟨rfl,rfl⟩) | h)
    ·exact .inl h
    ·exact .inr rfl
    ·exact .inr h
   ·rintro (h | h)
    ·exact .inl (.inl h)
    ·exact .inr h
  have Bo:aM (iM (closeR rows k) k) k k=true:=by rw [nF iL];simp
  have key:∀ a b,a < rows.length->((aM (closeR rows (k + 1)) a b=true∨a=b)↔wayQ (fun x y=>aM rows x y=true) (k + 1) a b):=fun a b ha=>by
   rw [hb a b ha];show _↔wayQ _ k a b∨(wayQ _ k a k/\wayQ _ k k b);rw [<- (ih a b ha).1,<- (ih a k ha).1,<- (ih k b (by omega)).1,<- va a b,<- va a k,<- va k b];simp only [Bool.or_eq_true,Bool.and_eq_true];constructor
   ·rintro ((h | ⟨h1,h2⟩) | h)
    ·exact .inl (.inl h)
    ·exact .inr ⟨.inl h1,.inl h2⟩
    ·exact .inl (.inr h)
   ·rintro ((h | h) | ⟨h1,h2⟩)
    ·exact .inl (.inl h)
    ·exact .inr h
    ·rcases h1 with h1 | rfl
     ·rcases h2 with h2 | rfl
      ·exact .inl (.inr ⟨h1,h2⟩)
      ·exact .inl (.inl h1)
     ·rcases h2 with h2 | rfl
      ·exact .inl (.inl h2)
      ·exact .inr rfl
  refine ⟨key a b ha,fun hak=>?_⟩;rw [hb a a ha];by_cases h:a=k
  ·subst h;rw [Bo];all_goals rfl
  ·have:=(ih a a ha).2 (by omega);rw [nF iL,this];all_goals rfl
theorem Fq {rows:List Nat} (hb:∀ a b,a < rows.length->aM rows a b=true->b < rows.length) {a b:Nat} (ha:a < rows.length) (hbl:b < rows.length):aM (closeR rows rows.length) a b=true↔tM (fun x y=>x < rows.length/\aM rows x y=true) a b:=by
 have hw:=u9 (rows:=rows) rows.length (Nat.le_refl _) a b ha
 have h1:aM (closeR rows rows.length) a b=true↔wayQ (fun x y=>aM rows x y=true) rows.length a b:=by
  rw [<- hw.1];constructor
  ·exact .inl
  ·rintro (h | rfl)
   ·exact h
   ·exact hw.2 ha
 rw [h1];constructor
 ·intro h
  have ap:∀ {x},tM (fun x y=>aM rows x y=true) a x->tM (fun x y=>x < rows.length/\aM rows x y=true) a x/\x < rows.length:=by
   intro x hx
   induction hx with
   | refl=>exact ⟨.refl _,ha⟩
   | step _ h2 ih=>exact ⟨.step ih.1 ⟨ih.2,h2⟩,hb _ _ ih.2 h2⟩
  exact (ap (pV _ _ _ h)).1
 ·intro h
  have:wayQ (fun x y=>aM rows x y=true) rows.length a b/\b < rows.length:=by
   clear h1 hw hbl
   induction h with
   | refl=>exact ⟨yB _ _,ha⟩
   | step _ h2 ih=>exact ⟨lP _ _ _ _ ih.2 ih.1 (yC h2.2 _),hb _ _ h2.1 h2.2⟩
  exact this.1
theorem MB {rows:List Nat} {p:Nat × Nat} {a b:Nat} (hp:p.1 < rows.length):aM (u3 rows p) a b=(aM rows a b || (decide (a=p.1) && decide (b=p.2))):=by
 unfold u3;rw [u7 hp];by_cases h:a=p.1
 ·subst h;rw [if_pos rfl,gy];simp only [decide_true,Bool.true_and];rw [show decide (p.2=b)=decide (b=p.2) from by simp only [eq_comm]];rfl
 ·rw [if_neg h];simp [h]
theorem yD:∀ (l:List (Nat × Nat)) (rows:List Nat) (a b:Nat),(∀ p∈l,p.1 < rows.length)->(aM (l.foldl u3 rows) a b=true↔aM rows a b=true∨(a,b)∈l)
 | [],_,_,_,_=>by simp
 | p :: l,rows,a,b,h=>by
  rw [List.foldl_cons,yD l _ a b (fun q hq=>by rw [pT];exact h q (by simp [hq])),MB (h p (by simp))];simp only [Bool.or_eq_true,Bool.and_eq_true,decide_eq_true_eq,List.mem_cons];constructor
  ·rintro ((h1 | ⟨rfl,rfl⟩) | h1)
   ·exact .inl h1
   ·exact .inr (.inl rfl)
   ·exact .inr (.inr h1)
  ·rintro (h1 | rfl | h1)
   ·exact .inl (.inl h1)
   ·exact .inl (.inr ⟨rfl,rfl⟩)
   ·exact .inr h1
theorem vb {n:Nat} {l:List (Nat × Nat)} (h:∀ p∈l,p.1 < n) (a b:Nat):aM (eL n l) a b=true↔(a,b)∈l:=by
 unfold eL;rw [yD l _ a b (fun p hp=>by rw [List.length_replicate];exact h p hp)];constructor
 ·rintro (h1 | h1)
  ·unfold aM at h1;rw [List.getD_eq_getElem?_getD,List.getElem?_replicate] at h1;split at h1<;>simp at h1
  ·exact h1
 ·exact .inr
def ez (n:Nat) (l:List (Nat × Nat)) (a b:Nat):Bool:=aM (closeR (eL n l) n) a b
def rq (n:Nat) (l:List (Nat × Nat)):Prop:=∀ p∈l,p.1 < n/\p.2 < n
theorem mJ {n:Nat} {l:List (Nat × Nat)} (h:rq n l) {a b:Nat} (ha:a < n) (hb:b < n):ez n l a b=true↔tM (fun x y=>(x,y)∈l) a b:=by
 have hlen:(eL n l).length=n:=jA n l;unfold ez
 have:=Fq (rows:=eL n l) (fun a b _ Mv=>by
  rw [vb (fun p hp=>(h p hp).1)] at Mv
  rw [hlen];exact (h _ Mv).2) (a:=a) (b:=b) (by omega) (by omega)
 rw [hlen] at this;rw [this];constructor
 ·exact tM.mono fun x y EO=>.step (.refl _) ((vb (fun p hp=>(h p hp).1) x y).1 EO.2)
 ·exact tM.mono fun x y EO=>.step (.refl _) ⟨(h _ EO).1,(vb (fun p hp=>(h p hp).1) x y).2 EO⟩
theorem rr {n:Nat} {l:List (Nat × Nat)} (h:rq n l) {a:Nat} (ha:a < n):ez n l a a=true:=(mJ h ha ha).2 (.refl _)
theorem Fs {n:Nat} {l:List (Nat × Nat)} (h:rq n l) {a b c:Nat} (ha:a < n) (hb:b < n) (hc:c < n) (h1:ez n l a b=true) (h2:ez n l b c=true):ez n l a c=true:=
 (mJ h ha hc).2 (((mJ h ha hb).1 h1).trans ((mJ h hb hc).1 h2))
def j7 (n:Nat) (f:Nat->Nat->Bool) (a:Nat):Bool:=(List.range n).any fun b=>decide (a≠b) && (f a b && f b a)
theorem MC {n:Nat} {l:List (Nat × Nat)} (hn:n<=64) (h:rq n l) {a:Nat} (ha:a < n):pU (closeR (eL n l) n) a=j7 n (ez n l) a:=by
 have hlen:(closeR (eL n l) n).length=n:=by rw [eU,jA]
 unfold pU j7;rw [Mz,hlen,Bool.eq_iff_iff,decide_eq_true_eq]
 have haa:(backN (closeR (eL n l) n) a n).testBit a=true:=by
  rw [rn];have:aM (closeR (eL n l) n) a a=true:=rr h ha;simp [ha,this]
 rw [CG _ a haa 64 (by omega)];simp only [List.any_eq_true,List.mem_range,Bool.and_eq_true,decide_eq_true_eq,rn];constructor
 ·rintro ⟨b,_,aN,hb,h1,h2⟩;exact ⟨b,hb,fun e=>aN e.symm,h1,h2⟩
 ·rintro ⟨b,hb,aN,h1,h2⟩;exact ⟨b,by omega,fun e=>aN e.symm,hb,h1,h2⟩
theorem Am {p q:Nat->Bool} {n:Nat} (h:∀ a,a < n->p a=q a):bL p n=bL q n:=by
 unfold bL
 have:∀ (l:List Nat),(∀ a∈l,p a=q a)->l.find? p=l.find? q:=by
  intro l
  induction l with
  | nil=>intro _;rfl
  | cons x r ih=>
   intro hl;rw [List.find?_cons,List.find?_cons,hl x (by simp),ih (fun a ha=>hl a (by simp [ha]))]
 exact this _ fun a ha=>h a (List.mem_range.1 ha)
theorem PW {n:Nat} {l:List (Nat × Nat)} (hn:n<=64) (h:rq n l):bL (pU (closeR (eL n l) n)) n=bL (j7 n (ez n l)) n:=
 Am fun _ ha=>MC hn h ha
def gA (r:List Bool) (p:Nat × Nat):List Bool:=if r.getD p.1 false then r.set p.2 true else r
def ib (l:List (Nat × Nat)) (r:List Bool):List Bool:=l.foldl gA r
def cp (l:List (Nat × Nat)) (r:List Bool) (k:Nat):List Bool:=(List.range k).foldl (fun r _=>ib l r) r
def tz (n:Nat) (l:List (Nat × Nat)) (a:Nat):List Bool:=cp l ((List.replicate n false).set a true) n
theorem eo (l:List (Nat × Nat)) (r:List Bool) (k:Nat):cp l r (k + 1)=ib l (cp l r k):=by simp [cp,List.range_succ]
theorem kQ (r:List Bool) (p:Nat × Nat):(gA r p).length=r.length:=by unfold gA;split<;>simp
theorem oK (l:List (Nat × Nat)):∀ r,(ib l r).length=r.length:=by
 induction l with
 | nil=>intro r;rfl
 | cons p l ih=>intro r;simp only [ib,List.foldl_cons] at ih ⊢;rw [ih,kQ]
theorem eV (l:List (Nat × Nat)) (r:List Bool):∀ k,(cp l r k).length=r.length
 | 0=>by simp [cp]
 | k + 1=>by rw [eo,oK,eV]
theorem pW (n:Nat) (l:List (Nat × Nat)) (a:Nat):(tz n l a).length=n:=by simp [tz,eV]
def PX (r s:List Bool):Prop:=∀ i:Nat,r.getD i false=true->s.getD i false=true
theorem jB {r:List Bool} {i j:Nat} (hi:i < r.length):(r.set i true).getD j false=(decide (j=i) || r.getD j false):=by
 simp only [List.getD_eq_getElem?_getD];by_cases h:j=i
 ·subst h;rw [List.getElem?_set_self hi];simp
 ·rw [List.getElem?_set_ne (Ne.symm h)];simp [h]
theorem CI {r:List Bool} {p:Nat × Nat} (hp:p.2 < r.length):PX r (gA r p):=by
 intro i hi;unfold gA;split
 ·rw [jB hp,hi];simp
 ·exact hi
theorem nG:∀ {l:List (Nat × Nat)} {r:List Bool},(∀ p∈l,p.2 < r.length)->PX r (ib l r)
 | [],r,_,i,hi=>hi
 | p :: l,r,h,i,hi=>by
  have:PX (gA r p) (ib l (gA r p)):=nG fun q hq=>by rw [kQ];exact h q (by simp [hq])
  exact this i (CI (h p (by simp)) i hi)
def vc (r:List Bool):Nat:=r.countP (fun x=>x)
theorem HT (r:List Bool):vc r<=r.length:=List.countP_le_length
theorem vd:∀ {r s:List Bool},r.length=s.length->PX r s->(r=s∨vc r < vc s)/\vc r<=vc s
 | [],[],_,_=>⟨.inl rfl,Nat.le_refl _⟩
 | x :: r,y :: s,hl,h=>by
  have q4:r.length=s.length:=by simpa using hl
  have ih:=vd q4 (fun i hi=>by simpa using h (i + 1) (by simpa using hi));have h0:x=true->y=true:=fun hx=>by simpa using h 0 (by simpa using hx)
  simp only [vc,List.countP_cons] at ih ⊢;cases x<;>cases y
  ·refine ⟨?_,by simpa using ih.2⟩;rcases ih.1 with h1 | h1
   ·exact .inl (by rw [h1])
   ·exact .inr (by simpa using h1)
  ·have:=ih.2;exact ⟨.inr (by simp;omega),by simp;omega⟩
  ·exact absurd (h0 rfl) (by decide)
  ·refine ⟨?_,by simpa using ih.2⟩;rcases ih.1 with h1 | h1
   ·exact .inl (by rw [h1])
   ·exact .inr (by simpa using h1)
 | [],_ :: _,h,_=>by simp at h
 | _ :: _,[],h,_=>by simp at h
theorem CJ {r s:List Bool} (hl:r.length=s.length) (h1:PX r s) (h2:PX s r):r=s:=by
 rcases (vd hl h1).1 with h | h
 ·exact h
 ·have:=(vd hl.symm h2).2;omega
theorem ve:∀ {l:List (Nat × Nat)} {r:List Bool},(∀ p∈l,p.2 < r.length)->ib l r=r->∀ p∈l,r.getD p.1 false=true->r.getD p.2 false=true
 | [],_,_,_,p,hp,_=>by cases hp
 | q :: l,r,h,he,p,hp,h1=>by
  have hq:=h q (by simp);have hl:∀ p∈l,p.2 < (gA r q).length:=fun p hp=>by rw [kQ];exact h p (by simp [hp])
  have hs:gA r q=r:=by
   have h2:PX (gA r q) r:=by
    have:=nG hl;have Lp:ib l (gA r q)=r:=he;rw [Lp] at this;exact this
   exact (CJ (kQ r q).symm (CI hq) h2).symm
  rcases List.mem_cons.1 hp with rfl | hp
  ·unfold gA at hs;rw [if_pos h1] at hs;rw [<- hs,jB hq];simp
  ·have Lp:ib l r=r:=by
    have:ib l (gA r q)=r:=he
    rwa [hs] at this
   exact ve (fun p hp=>h p (by simp [hp])) Lp p hp h1
theorem sE {l:List (Nat × Nat)} {r:List Bool} (h:∀ p∈l,p.2 < r.length):∀ k,ib l (cp l r k)=cp l r k∨vc r + k<=vc (cp l r k)
 | 0=>.inr (by simp [cp])
 | k + 1=>by
  have hk:∀ p∈l,p.2 < (cp l r k).length:=fun p hp=>by rw [eV];exact h p hp
  rcases sE h k with h1 | h1
  ·left;rw [eo,h1,h1]
  ·rcases (vd (oK l _).symm (nG hk)).1 with h2 | h2
   ·left;rw [eo,<- h2,<- h2]
   ·right;rw [eo];omega
theorem JA {l:List (Nat × Nat)} {a:Nat} {r:List Bool} {p:Nat × Nat} (hp:p∈l) (hl:p.2 < r.length) (h:∀ i,r.getD i false=true->tM (fun x y=>(x,y)∈l) a i):∀ i,(gA r p).getD i false=true->tM (fun x y=>(x,y)∈l) a i:=by
 intro i hi;unfold gA at hi;split at hi
 ·rename_i h1;rw [jB hl] at hi;simp only [Bool.or_eq_true,decide_eq_true_eq] at hi;rcases hi with rfl | hi
  ·exact .step (h _ h1) hp
  ·exact h i hi
 ·exact h i hi
theorem vf {l:List (Nat × Nat)} {a:Nat}:∀ (m:List (Nat × Nat)) {r:List Bool},(∀ p∈m,p∈l/\p.2 < r.length)->(∀ i,r.getD i false=true->tM (fun x y=>(x,y)∈l) a i)->∀ i,(ib m r).getD i false=true->tM (fun x y=>(x,y)∈l) a i
 | [],_,_,h=>h
 | p :: m,r,hm,h=>vf m (r:=gA r p) (fun q hq=>by rw [kQ];exact hm q (by simp [hq])) (JA (hm p (by simp)).1 (hm p (by simp)).2 h)
theorem sF {l:List (Nat × Nat)} {a:Nat} {r:List Bool} (hl:∀ p∈l,p.2 < r.length) (h:∀ i,r.getD i false=true->tM (fun x y=>(x,y)∈l) a i):∀ k i,(cp l r k).getD i false=true->tM (fun x y=>(x,y)∈l) a i
 | 0=>by simpa [cp] using h
 | k + 1=>by
  rw [eo];exact vf l (fun p hp=>⟨hp,by rw [eV];exact hl p hp⟩) (sF hl h k)
theorem vg {l:List (Nat × Nat)} {r:List Bool} (hl:∀ p∈l,p.2 < r.length):∀ k,PX r (cp l r k)
 | 0=>by intro i hi;simpa [cp] using hi
 | k + 1=>fun i hi=>by
  rw [eo];exact nG (fun p hp=>by rw [eV];exact hl p hp) i (vg hl k i hi)
theorem MD {n a:Nat} (ha:a < n):1<=vc ((List.replicate n false).set a true):=by
 unfold vc;rw [Nat.succ_le_iff,List.countP_pos_iff];exact ⟨true,List.mem_iff_getElem?.2 ⟨a,by rw [List.getElem?_set_self (by simp [ha])]⟩,rfl⟩
theorem ME {n:Nat} {l:List (Nat × Nat)} (h:rq n l) {a b:Nat} (ha:a < n) (hb:b < n):(tz n l a).getD b false=ez n l a b:=by
 have hl:∀ p∈l,p.2 < ((List.replicate n false).set a true).length:=fun p hp=>by simp;exact (h p hp).2
 have rf:a < (List.replicate n false).length:=by simp [ha]
 rw [Bool.eq_iff_iff,mJ h ha hb];constructor
 ·refine sF hl (fun i hi=>?_) n b;rw [jB rf] at hi;simp only [Bool.or_eq_true,decide_eq_true_eq] at hi;rcases hi with rfl | hi
  ·exact .refl _
  ·rw [List.getD_eq_getElem?_getD,List.getElem?_replicate] at hi;split at hi<;>simp at hi
 ·have hfix:ib l (tz n l a)=tz n l a:=by
   rcases sE hl n with h1 | h1
   ·exact h1
   ·have h2:=HT (cp l ((List.replicate n false).set a true) n);rw [eV] at h2;have h3:=MD ha;simp only [List.length_set,List.length_replicate] at h2;omega
  have jT:=ve (fun p hp=>by rw [pW];exact (h p hp).2) hfix;intro hr;have haa:(tz n l a).getD a false=true:=vg hl n a (by rw [jB rf];simp);clear hb
  induction hr with
  | refl=>exact haa
  | step _ h2 ih=>exact jT _ h2 ih
def dm (n:Nat) (f:Nat->Nat->Bool):List (List Bool):=(List.range n).map fun a=>(List.range n).map (f a)
theorem PY {n:Nat} {l:List (Nat × Nat)} (h:rq n l) {a:Nat} (ha:a < n):tz n l a=(List.range n).map (ez n l a):=by
 refine List.ext_getElem? fun i=>?_;by_cases hi:i < n
 ·have:=ME h ha hi;have hl:=pW n l a;rw [List.getD_eq_getElem?_getD,gE (by omega)] at this;rw [gE (by omega),List.getElem?_map,List.getElem?_range hi];simpa using this
 ·rw [List.getElem?_eq_none (by rw [pW];omega),List.getElem?_eq_none (by simp;omega)]
theorem CK {n:Nat} {f:Nat->Nat->Bool} {a:Nat} (ha:a < n):(dm n f)[a]? = some ((List.range n).map (f a)):=by
 simp [dm,List.getElem?_range ha]
theorem JB {l:List Wd} {i:Nat} {x:Wd} (h:l[i]? = some x):av (l.take (i + 1))=av (l.take i) ++ [x.s]:=by
 rw [List.take_add_one,h];simp [av]
theorem HU (l:List Wd) (s:ByteArray):bz l s=true↔s∈av l:=by
 simp only [bz,List.any_eq_true,decide_eq_true_eq,av,List.mem_map]
theorem lQ {l:List Wd} {i:Nat} {x:Wd} (h:l[i]? = some x) (hn:(av (l.take i)).Nodup):(av (l.take (i + 1))).Nodup↔bz (l.take i) x.s=false:=by
 rw [JB h,List.nodup_append];constructor
 ·rintro ⟨_,_,h3⟩;cases hb:bz (l.take i) x.s
  ·rfl
  ·exact absurd rfl (h3 x.s ((HU _ _).1 hb) x.s (by simp))
 ·intro hb;refine ⟨hn,by simp,fun a ha b fH=>?_⟩;simp only [List.mem_singleton] at fH;subst fH;rintro rfl;rw [(HU _ _).2 ha] at hb;cases hb
theorem yE {l:List Wd} {i:Nat} {x:Wd} (a:Int) (h:l[i]? = some x) (hn:(av (l.take i)).Nodup) :
  gv (av (l.take (i + 1))) x.s a=if aD l i x≠0 then (aD l i x,a) else (0,0):=by
 have hs:=lQ h hn;unfold gv aD;by_cases h1:aY x.s=true
 ·rw [if_pos h1,if_pos h1];by_cases h2:bz (l.take i) x.s=true
  ·rw [if_pos h2,if_neg (fun hc=>by rw [hs.1 hc] at h2;cases h2)];all_goals rfl
  ·rw [if_neg h2,if_pos (hs.2 (by simpa using h2))];all_goals rfl
 ·rw [if_neg h1,if_neg h1];all_goals rfl
theorem lR {l:List Wd} {i:Nat} {x:Wd} (h:l[i]? = some x) (hn:(av (l.take i)).Nodup) (hz:aD l i x=0):(av (l.take (i + 1))).Nodup:=by
 refine (lQ h hn).2 ?_;unfold aD at hz;by_cases h1:aY x.s=true
 ·rw [if_pos h1] at hz;by_cases h2:bz (l.take i) x.s=true
  ·rw [if_pos h2] at hz;simp at hz
  ·simpa using h2
 ·rw [if_neg h1] at hz;simp at hz
theorem yF (l:List Wd):∀ (d e:Nat),e + d=l.length->(enumP l e)=(0,0)->(av (l.take e)).Nodup->enumP l l.length=enumL l e (l.drop e)
 | 0,e,hd,hz,hn=>by
  have:e=l.length:=by omega
  subst this;rw [hz,List.drop_length];all_goals rfl
 | d + 1,e,hd,hz,hn=>by
  obtain ⟨x,hx⟩:∃ x,l[e]? = some x:=⟨_,gE (by omega)⟩;have h1:=uW (by rw [hz]) hx;rw [yE x.a hx hn] at h1;rw [drop_cons hx];simp only [enumL];by_cases hf:aD l e x≠0
  ·rw [if_pos hf] at h1 ⊢;have aT:=oG (l:=l) (e:=e + 1) (by rw [h1];exact hf) d;rw [show e + 1 + d=l.length by omega] at aT;rw [aT,h1]
  ·rw [if_neg hf] at h1 ⊢;exact yF l d (e + 1) (by omega) h1 (lR hx hn (by simpa using hf))
theorem MF (h:Hd):mH h=gZ h:=by
 unfold mH gZ;by_cases h0:h.af=[]
 ·rw [if_pos h0,if_pos (by simp [h0])]
 ·rw [if_neg h0,if_neg (by simpa using h0)];by_cases h1:64 < h.af.length
  ·rw [if_pos h1,if_pos h1]
  ·rw [if_neg h1,if_neg h1];have:=yF h.af h.af.length 0 (by omega) rfl (by simp [av]);simpa using this
def mK (p:Ph):Ph:=⟨p.name,true,[],0,0,0,0,[]⟩
theorem PZ (p:Ph) (t:Ty):cJ p t (mK p) bK=(bA p eP && sameTy t bK):=by
 have e:bA p (mK p)=bA p eP:=rfl;unfold cJ;rw [e];have e2:decide (p.name.s=(mK p).name.s)=true:=decide_eq_true rfl;rw [e2,Bool.true_and]
theorem empty_eq (p:Ph):cJ p bK eC bK=(decide (p.name.s=al) && bA p eC):=by
 have e:sameTy bK bK=true:=by simp [bK,LX,sameTy,kr,samePts,sameWds]
 simp only [cJ,e,Bool.and_true];rfl
def cD (L:List ByteArray) (s:ByteArray):Option Nat:=bL (fun i=>decide (L[i]? = some s)) L.length
theorem cK {L:List ByteArray} {s:ByteArray} {p:Nat} (h:cD L s=some p):p < L.length/\L[p]? = some s/\∀ j,L[j]? = some s->p<=j:=by
 obtain ⟨h1,h2,h3⟩:=dY h;refine ⟨h1,by simpa using h2,fun j hj=>?_⟩;rcases Nat.lt_or_ge j p with h4 | h4
 ·have:=h3 j h4;simp [hj] at this
 ·exact h4
theorem An {L:List ByteArray} {s:ByteArray} {p:Nat} (h1:L[p]? = some s) (h2:∀ j,L[j]? = some s->p<=j):cD L s=some p:=by
 refine cC (gS h1).1 (by simpa using h1) fun a ha=>?_;simp only [decide_eq_false_iff_not];intro h3;have:=h2 a h3;omega
theorem ru {L:List ByteArray} {s:ByteArray} (h:∀ j:Nat,L[j]? ≠ some s):cD L s=none:=cW fun a _=>by simpa using h a
theorem xG {L:List ByteArray} {s:ByteArray}:cD L s=none↔s ∉ L:=by
 constructor
 ·intro h hm;obtain ⟨j,hj⟩:=List.mem_iff_getElem?.1 hm;unfold cD bL at h;rw [List.find?_eq_none] at h;have:=h j (by simpa using (gS hj).1);simp [hj] at this
 ·intro h;exact ru fun j hj=>h (mG hj)
theorem ic (L:List ByteArray) (aA:List Nat) (s:ByteArray) (hT:gL L aA) (hl:aA.length<=1099511627776) :
  EvP Tryz.prog 93 [.pt (cy L aA) 0,.v (.string s)] (MA (cD L s)):=by
 by_cases hm:s∈L
 ·obtain ⟨j,hj⟩:=List.mem_iff_getElem?.1 hm;obtain ⟨q,p,hq,hp⟩:=hT.all j s hj;rw [An hp fun j' fT=>hT.fst q p j' s hq hp fT];exact find_spec L aA s q p hT hl hq hp
 rw [ru fun j hj=>hm (mG hj)]
 let pr:Nat->Prop:=fun i=>i=aA.length∨∃ p t,aA[i]? = some p/\L[p]? = some t/\xE t s=false
 obtain ⟨m,fD,qW⟩:=least (p:=pr) ⟨aA.length,.inl rfl⟩;have hmn:m<=aA.length:=qW _ (.inl rfl);refine ev_go (P:=Tryz.prog) tt tt_ok 5000 47 [.tmp 4,.tmp 5] Tryz.func93 rfl Tryz.ntmps93 rfl (nL rfl) (fun E9 w9 hn9 hm9=>?_)
 have jT:∀ i:Nat,i < aA.length->EvP Tryz.prog 160 [.v (.int .i64 i),.pt [.pt (cy L aA) 0] 0,.pt [.v (.string s)] 0] (.v (.bool (decide (m<=i)))):=by
  intro i hi;obtain ⟨p',pz⟩:∃ p',aA[i]? = some p':=⟨_,gE hi⟩;obtain ⟨t,ht⟩:∃ t,L[p']? = some t:=⟨_,gE (hT.lt i p' pz)⟩;have:=uK L aA s i p' t pz ht
  have e:(!xE t s)=decide (m<=i):=by
   by_cases h:m<=i
   ·have:xE t s=false:=by
     rcases fD with fD | ⟨p,u,h1,h2,h3⟩
     ·omega
     ·rcases Nat.lt_or_eq_of_le h with h4 | h4
      ·have h5:=hT.srt m i p p' u t h4 h1 pz h2 ht;cases h6:xE t s
       ·rfl
       ·have:=fF h5 h6;unfold xE at h3;rw [this] at h3;cases h3
      ·subst h4;rw [h1] at pz;simp only [oI] at pz;subst pz;rw [h2] at ht;simp only [oI] at ht;subst ht;exact h3
    simp [this,h]
   ·have:xE t s=true:=by
     cases h6:xE t s
     ·exact absurd (qW i (.inr ⟨p',t,pz,ht,h6⟩)) h
     ·rfl
    simp [this,h]
  rw [e] at this;exact this
 have hS:=sw 160 Ru [.pt [.pt (cy L aA) 0] 0,.pt [.v (.string s)] 0] aA.length m hl hmn ax rfl jT;refine zT Rt hS (by repeat' (first | exact rfl | exact trivial | exact Or.inr (Or.inl ⟨_,rfl⟩) | exact Or.inr ⟨_,rfl⟩ | exact Or.inl ⟨rfl,rfl⟩ | exact Or.inl rfl | refine Or.inr ⟨_,_,rfl,Nat.zero_le _,rfl,?_⟩ | refine ⟨_,_,rfl,?_,?_⟩ | refine ⟨_,rfl,?_⟩ | exact congrArg (fun z=>DV.v (.int .i64 z)) (congrArg Nat.cast (bh aA)) | refine Or.inr (Or.inr (Or.inr ⟨_,_,rfl,?_⟩)) | exact Or.inl rfl | refine Or.inr ?_)) rfl ?_;refine aE (fun _=>false) mo (by decide +kernel) ?_;refine br (fun h=>?_) (fun h=>?_)
 ·have ap:m < aA.length:=by
   have:decide ((m:Int)=((dInts aA).length:Int))=false:=by simpa using h
   simp [bh] at this;omega
  rcases fD with fD | ⟨p,t,h1,h2,h3⟩
  ·omega
  refine ⟨_,⟨by omega,dO h1⟩,?_⟩;refine ⟨_,⟨by omega,eX h2⟩,?_⟩;refine br (fun h4=>?_) (fun h4=>?_)
  ·exact ⟨_,ax,rfl⟩
  ·exfalso
   have hts:t=s:=by
    simp [aj] at h4;exact h4
   exact hm (hts ▸ mG h2)
 ·exact ⟨_,ax,rfl⟩
def fu (l:List Wd) (o:List (Wd × Wd)):Ft:=
 if l=[] then (15,0)
 else if 32 < l.length then (8,((l[32]?).getD (⟨al,0⟩:Wd)).a)
 else if 256 < o.length then (8,((o[256]?).getD ((⟨al,0⟩,⟨al,0⟩):Wd × Wd)).1.a)
 else (0,0)
theorem JC (l:List Wd) (o:List (Wd × Wd)):EvP Tryz.prog 94 [.sl 2 (bu l) none,.sl 4 (mh o) none] (fu l o).d:=by
 refine ev_go (P:=Tryz.prog) tt tt_ok 5000 30 [.cell 4 54] Tryz.func94 rfl Tryz.ntmps94 rfl (nL rfl) (fun E9 w9 hn9 hm9=>?_);refine br (fun h=>?_) (fun h=>?_)
 ·have h:l=[]:=by simpa [aw] using h
  refine ⟨_,?_,rfl⟩;rw [fu,if_pos h];exact ax
 have h:¬ l=[]:=by simpa [aw] using h
 refine br (fun h1=>?_) (fun h1=>?_)
 ·have h1:32 < l.length:=by simp [aw] at h1;omega
  obtain ⟨x,hx⟩:∃ x,l[32]? = some x:=⟨_,gE h1⟩;refine ⟨jw x,⟨by omega,aK hx⟩,?_⟩;refine ⟨_,?_,rfl⟩;rw [fu,if_neg h,if_pos h1,hx];exact ax
 have h1:¬ 32 < l.length:=by simp [aw] at h1;omega
 refine br (fun h2=>?_) (fun h2=>?_)
 ·have h2:256 < o.length:=by simp [fq] at h2;omega
  obtain ⟨x,hx⟩:∃ x,o[256]? = some x:=⟨_,gE h2⟩;refine ⟨KN x,⟨by omega,gx hx⟩,?_⟩;refine ⟨_,?_,rfl⟩;rw [fu,if_neg h,if_neg h1,if_pos h2,hx];exact ax
 have h2:¬ 256 < o.length:=by simp [fq] at h2;omega
 refine ⟨_,?_,rfl⟩;rw [fu,if_neg h,if_neg h1,if_neg h2];exact ax
def YD (f:Ft) (L:List ByteArray):DV:=.tup [if f.1=0 then .sl 1 (dF L) none else .v (.slice none 0 0),f.d]
abbrev MG (l:List Wd) (n e:Nat):St:=
 ⟨[(3,⟨[],.loc 0 0⟩),(4,⟨[],.sl 1 (dF (av (l.take e))) (some 0)⟩),(7,⟨[],.sl 2 (bu l) none⟩),(8,⟨[],.v (.int .i64 (bu l).length)⟩),(9,⟨[],.v (.int .i64 e)⟩)],[[.v (.int .i64 0),.v (.int .i64 0)]],[⟨n,9,1,none⟩]⟩
theorem oL {all:List Wd} {e:Nat} {w:Wd} (h:all[e]? = some w):enumL all e (all.drop e)=if aD all e w≠0 then (aD all e w,w.a) else enumL all (e + 1) (all.drop (e + 1)):=by
 rw [drop_cons h,enumL]
theorem CL (l:List Wd) (hs:wdsWt l<=1099511627776):EvP Tryz.prog 95 [.sl 2 (bu l) none] (YD (enumL l 0 l) (av l)):=by
 have mb:=bg l;refine ev_go (P:=Tryz.prog) tt tt_ok 5000 36 [.tmp 2,.cell 3 54] Tryz.func95 rfl Tryz.ntmps95 rfl (nL rfl) (fun E9 w9 hn9 hm9=>?_);refine aq (fun j st=>∃ e:Nat,st=MG l e e/\e<=l.length/\(av (l.take e)).Nodup/\enumL l 0 l=enumL l e (l.drop e)/\j=l.length - e) l.length (MG l 0 0) (fk ⟨0,9,1,none⟩ rfl ⟨_,rfl⟩ rfl wA rfl rfl zS) ⟨0,rfl,by omega,by simp [av],rfl,by omega⟩ ?_;rintro j st ⟨e,rfl,he,hnd,aH,rfl⟩;rw [aH];refine br (fun hL=>?_) (fun hL=>?_)
 ·have ap:e < l.length:=by simpa [aw] using hL
  obtain ⟨w,hw⟩:∃ w,l[e]? = some w:=⟨_,gE ap⟩;have RW:=gX (mG hw);have eE:=jb hw;have aT:=oL hw;have su:=lQ hw hnd;have MH:=oF (av (l.take (e + 1))) (by simp [av];omega);rw [<- eE] at MH;refine ⟨jw w,⟨by omega,aK hw⟩,?_⟩;refine ⟨by simp [bR,av];omega,⟨by simp [bR,av,maxLen];omega,by simp [bR,av];omega⟩,?_⟩;refine call_p B9 (jx w.s (by omega)) ax rfl ?_;refine br (fun hN=>?_) (fun hN=>?_)
  ·have hN:aY w.s=false:=by simpa using hN
   have hf:aD l e w=9:=by simp [aD,hN]
   rw [aT,hf,if_pos (by decide)];refine aP mo (by decide +kernel) ?_;exact ⟨_,ax,rfl⟩
  ·have hN:aY w.s=true:=by simpa using hN
   refine bq LB rfl MH ax (fun r hr=>?_);obtain ⟨z,rfl,hz⟩:=hr;refine br (fun h2=>?_) (fun h2=>?_)
   ·have h2:0<=z:=by simpa using h2
    have hd:bz (l.take e) w.s=true:=by
     cases hd:bz (l.take e) w.s
     ·exact absurd (su.2 hd) (hz.1 h2)
     ·rfl
    have hf:aD l e w=10:=by simp [aD,hN,hd]
    rw [aT,hf,if_pos (by decide)];refine aP mo (by decide +kernel) ?_;exact ⟨_,ax,rfl⟩
   ·have h2:¬ 0<=z:=by simpa using h2
    have uD:(av (l.take (e + 1))).Nodup:=Classical.byContradiction fun hn=>h2 (hz.2 hn);have hf:aD l e w=0:=by simp [aD,hN,su.1 uD]
    rw [hf,if_neg (by simp)] at aT;refine ⟨MG l (e + 1) (e + 1),(weak_mk ⟨_,rfl⟩ wA rfl rfl rfl (tg ap eE)),l.length - (e + 1),by omega,e + 1,rfl,by omega,uD,aT,rfl⟩
 ·have aO:e=l.length:=by
   have:=hL;simp [aw] at this;omega
  have h0:enumL l e (l.drop e)=(0,0):=by rw [aO,List.drop_length];all_goals rfl
  rw [h0];have ht:l.take e=l:=by rw [aO,List.take_length]
  rw [ht];exact ⟨_,ax,rfl⟩
def numF (L:List ByteArray):List (Wd × Wd)->Ft
 | []=>(0,0)
 | p :: r=>if cD L p.1.s=none then (17,p.1.a) else if cD L p.2.s=none then (17,p.2.a) else numF L r
def T0 (L:List ByteArray) (p:Wd × Wd):Nat × Nat:=((cD L p.1.s).getD 0,(cD L p.2.s).getD 0)
def cT (L:List ByteArray) (o:List (Wd × Wd)):List (Nat × Nat):=o.map (T0 L)
def YE (f:Ft) (l:List (Nat × Nat)):DV:=.tup [if f.1=0 then .sl 2 (lM l) none else .v (.slice none 0 0),f.d]
theorem yG {L:List ByteArray} {o:List (Wd × Wd)} {e a b:Nat} {x:Wd × Wd} (h:o[e]? = some x) (ha:cD L x.1.s=some a) (hb:cD L x.2.s=some b):lM (cT L (o.take e)) ++ [[DV.v (.int .i64 (a:Int)),DV.v (.int .i64 (b:Int))]]=lM (cT L (o.take (e + 1))):=by
 rw [List.take_add_one,h];simp [lM,cT,T0,ha,hb,dNP]
abbrev MI (L:List ByteArray) (aA:List Nat) (o:List (Wd × Wd)) (n e:Nat):St:=
 ⟨[(0,⟨[],.pt (cy L aA) 0⟩),(5,⟨[],.loc 0 0⟩),(6,⟨[],.sl 2 (lM (cT L (o.take e))) (some 0)⟩),(12,⟨[],.sl 4 (mh o) none⟩),(13,⟨[],.v (.int .i64 (mh o).length)⟩),(14,⟨[],.v (.int .i64 e)⟩)],[[.v (.int .i64 0),.v (.int .i64 0)]],[⟨n,257,2,none⟩]⟩
theorem xH (L:List ByteArray) (aA:List Nat) (hT:gL L aA) (hl:aA.length<=1099511627776) (o:List (Wd × Wd)) (hs:prsWt o<=1099511627776) :
  EvP Tryz.prog 97 [.pt (cy L aA) 0,.sl 4 (mh o) none] (YE (numF L o) (cT L o)):=by
 have mb:=hZ o;refine ev_go (P:=Tryz.prog) tt tt_ok 5000 55 [.tmp 4,.cell 5 54] Tryz.func97 rfl Tryz.ntmps97 rfl (nL rfl) (fun E9 w9 hn9 hm9=>?_);refine aq (fun j st=>∃ e:Nat,st=MI L aA o e e/\e<=o.length/\numF L o=numF L (o.drop e)/\j=o.length - e) o.length (MI L aA o 0 0) (fk ⟨0,257,2,none⟩ rfl ⟨_,rfl⟩ rfl wA rfl rfl zS) ⟨0,rfl,by omega,rfl,by omega⟩ ?_;rintro j st ⟨e,rfl,he,aH,rfl⟩;rw [aH];refine br (fun hL=>?_) (fun hL=>?_)
 ·have ap:e < o.length:=by simpa [fq] using hL
  obtain ⟨w,hw⟩:∃ w,o[e]? = some w:=⟨_,gE ap⟩;have aT:numF L (o.drop e)=if cD L w.1.s=none then (17,w.1.a) else if cD L w.2.s=none then (17,w.2.a) else numF L (o.drop (e + 1)):=by rw [drop_cons hw,numF]
  have KM:=ic L aA w.1.s hT hl;have zL:=ic L aA w.2.s hT hl;refine ⟨KN w,⟨by omega,gx hw⟩,?_⟩
  cases ha:cD L w.1.s with
  | none=>
   rw [ha] at KM;refine call_p uG (KM) ax rfl ?_;rw [aT,if_pos ha];refine aP mo (by decide +kernel) ?_;exact ⟨_,ax,rfl⟩
  | some a=>
   rw [ha] at KM;refine call_p uG (KM) ax rfl ?_
   cases hb:cD L w.2.s with
   | none=>
    rw [hb] at zL;refine call_p uG (zL) ax rfl ?_;rw [aT,if_neg (by rw [ha];simp),if_pos hb];refine aP mo (by decide +kernel) ?_;exact ⟨_,ax,rfl⟩
   | some b=>
    rw [hb] at zL;refine call_p uG (zL) ax rfl ?_;rw [if_neg (by rw [ha];simp),if_neg (by rw [hb];simp)] at aT;refine ⟨by simp [gz,cT];omega,⟨by simp [gz,cT,maxLen];omega,by simp [gz,cT];omega⟩,?_⟩;refine ⟨MI L aA o (e + 1) (e + 1),(weak_mk ⟨_,rfl⟩ wA rfl rfl rfl (by repeat' (first | exact trivial | exact ah rfl | exact ak (cx ap (by omega)) | exact cP (yG hw ha hb) rfl | refine ⟨⟨_,rfl,?_⟩,?_⟩))),o.length - (e + 1),by omega,e + 1,rfl,by omega,aT,rfl⟩
 ·have aO:e=o.length:=by
   have:=hL;simp [fq] at this;omega
  have h0:numF L (o.drop e)=(0,0):=by rw [aO,List.drop_length];all_goals rfl
  rw [h0];have ht:o.take e=o:=by rw [aO,List.take_length]
  rw [ht];exact ⟨_,ax,rfl⟩
end Go.Proofs.YtfifjddnnmfeoaaGreat
