/- Part 3 of the proof: names.New: the table; names.Twice: does a text stand earlier, too?; Contracts: the reference's words, Plain, Same, Zero, own; Contracts: the reference's Same, Zero, own; Contracts: the reference's Label, listed, names, Size, with, coarse; What is wrong with a type: the plain function; the reference's Wrong and parts return it; The program's checks of types: bad, listed, label, words; The program's checks of types: label, coarse; The program's comparing of names and types; The program's Same; The program's own, empty; The program's empty, enum; kinds.Right, once the checker's check is known; Numbers in tens: the reference's Put; Numbers in tens: the program's Put; The text of a type, plain; the reference's Label and comma; The reference's text of a type: Label, comma, part, Type; The reference's text of a part; The reference's text of a type; The library's strings.Join, laid at this program by the kit's tool (lay-plain; wip/tools/lay.sh); The program's text of a label, of what stands behind a part's type, of lists; The program's text of a type: field, tag, kind; unparse.Type, once the checker's check is known; A type with which nothing is wrong is fine for its text; Readable data as data of the evaluator: what the statement's form reads of an argument is a datum of the evaluator, of the argument's type, no heavier than what was read; What is read of a type, as the plain data; From a contract over data to what a law's statement asks: the arguments are read, the call returns true, all that was there stays; What all laws' frames share: the bulk, the program's closed facts; Types without places: plain, and the program's kinds.Strip; Schemas: plain, as the evaluator has them, without places; What is read of a schema, as the plain data; What the frames of laws over schemas share; The program's closed facts, each by itself (all at once they ask more memory than a Lean process has); Relations as rows of bits: plain, and rel's functions that read; rel.back: who leads to a thing and is led to by it; rel.New: the rows of a list of pairs; rel.Close: the closure, by rows; The number of bits that are set, as the library reckons it; math/bits.OnesCount64; When two bits are set; rel.Loop: the least thing in a loop; The plain law of closeR: its bits are what is led to; The program's and the reference's check of names that must differ; The table's Find, whole; lattice.many, called, numbered; Rules for the evaluator: a call that is handed the caller's first objects and rows; rows whose cells nobody else knows; lattice.best, and the closures of bounds. No condition. -/
import Derived.Laws.StructEq
import Derived.Shelf.Strings.OnBuilder
import Derived.Deep.Slices
import Derived.ChangeArms
import Derived.DataReads
import Derived.WalkKit
import Derived.ProofKit
import Derived.OpenShut
import Derived.Carry
import Derived.JoinedCond
import Derived.Test.YtadhpeooehkklaaGreatRows
import Derived.Test.YtadhpeooehkklaaGreatMg2
set_option linter.all false
set_option maxRecDepth 100000
namespace Go.Proofs.YtadhpeooehkklaaGreat
open Go Go.RowKit Dv Tryz
theorem weL_ints' {n m:Nat} {tk:List TkE}:∀ ds:List Nat,WeL n m tk (dInts ds).flatten (dInts ds).flatten
 | []=>rfl
 | b :: r=>⟨_,_,rfl,we_rfl rfl,weL_ints' r⟩
theorem weL_ints {n m:Nat} {tk:List TkE} {l:List DV} {ds:List Nat} (h:l=(dInts ds).flatten):WeL n m tk l (dInts ds).flatten:=by rw [h];exact weL_ints' ds
def fillA (n e:Nat):List Nat:=List.range e ++ List.replicate (n - e) 0
theorem fillA_len {n e:Nat} (h:e<=n):(fillA n e).length=n:=by simp [fillA];omega
theorem fillA_0 (n:Nat):(List.replicate n [DV.v (.int .i64 0)]).flatten=(dInts (fillA n 0)).flatten:=by simp [fillA,dInts]
theorem fillA_n (n:Nat):fillA n n=List.range n:=by simp [fillA]
theorem ints_flat (ds:List Nat):(dInts ds).flatten=ds.map fun (i:Nat)=>DV.v (.int .i64 (i:Int)):=by
 induction ds with
 | nil=>rfl
 | cons x r ih=>simp only [dInts,List.map_cons,List.flatten_cons] at ih ⊢;rw [ih];all_goals rfl
theorem fillA_step {n e:Nat} (h:e < n):(dInts (fillA n e)).flatten.take e ++ [DV.v (.int .i64 (e:Int))] ++ (dInts (fillA n e)).flatten.drop (e + 1)=(dInts (fillA n (e + 1))).flatten:=by
 simp only [ints_flat,<- List.map_take,<- List.map_drop];have e1:(fillA n e).take e=List.range e:=by simp [fillA]
 have e2:(fillA n e).drop (e + 1)=List.replicate (n - (e + 1)) 0:=by
  simp only [fillA,List.drop_append,List.length_range];rw [List.drop_eq_nil_of_le (by simp),List.nil_append,List.drop_replicate];congr 1;omega
 rw [e1,e2];simp [fillA,List.range_succ]
abbrev fillSt (L:List ByteArray) (e:Nat):St:=
 ⟨[(3,⟨[],.loc 1 0⟩),(4,⟨[],.loc 3 0⟩),(16,⟨[],.v (.int .i64 (dBs L).length)⟩),(17,⟨[],.v (.int .i64 e)⟩)],
  [[.sl 1 (dBs L) (some 0),.v (.slice none 0 0)],[.loc 0 0],(dInts (fillA (dBs L).length e)).flatten,[.ms 2 1 0 (dBs L).length (dBs L).length]],[⟨(dBs L).length,9,1,none⟩]⟩
def headB (L:List ByteArray) (ds:List Nat) (i:Nat):Bool:=decide (i=0) || !decide (L.getD (ds.getD i 0) emptyB=L.getD (ds.getD (i - 1) 0) emptyB)
def ordTo (L:List ByteArray) (ds:List Nat) (e:Nat):List Nat:=((List.range e).filter (headB L ds)).map fun i=>ds.getD i 0
theorem ordTo_succ (L:List ByteArray) (ds:List Nat) (e:Nat):ordTo L ds (e + 1)=ordTo L ds e ++ (if headB L ds e=true then [ds.getD e 0] else []):=by
 unfold ordTo;rw [List.range_succ,List.filter_append,List.map_append];congr 1;cases h:headB L ds e<;>simp [h]
theorem ordTo_len (L:List ByteArray) (ds:List Nat) (e:Nat):(ordTo L ds e).length<=e:=by
 unfold ordTo;rw [List.length_map];exact Nat.le_trans (List.length_filter_le _ _) (by simp)
abbrev frz1St (L:List ByteArray) (ds:List Nat):St:=
 ⟨[(3,⟨[],.loc 1 0⟩),(4,⟨[],.pt [.sl 1 (dInts ds) none] 0⟩),(29,⟨[],.sl 1 (dInts ds) none⟩),(30,⟨[],.v (.int .i64 (dBs L).length)⟩),(31,⟨[],.v (.int .i64 0)⟩)],
  [[.sl 1 (dBs L) (some 0),.v (.slice none 0 0)],[.loc 0 0]],[⟨(dBs L).length,9,1,none⟩]⟩
abbrev newSt (L:List ByteArray) (ds ord:List Nat) (m e:Nat):St:=
 ⟨[(3,⟨[],.loc 1 0⟩),(4,⟨[],.pt [.sl 1 (dInts ds) none] 0⟩),(29,⟨[],.sl 1 (dInts ds) none⟩),(30,⟨[],.v (.int .i64 (dBs L).length)⟩),(31,⟨[],.v (.int .i64 e)⟩)],
  [[.sl 1 (dBs L) (some 0),.sl 1 (dInts ord) (some 1)],[.loc 0 0]],[⟨(dBs L).length,9,1,none⟩,⟨m,3,1,none⟩]⟩
theorem getD_some {α:Type} {l:List α} {i:Nat} {x d:α} (h:l[i]? = some x):l.getD i d=x:=by simp [List.getD_eq_getElem?_getD,h]
theorem some_getD {α:Type} {l:List α} {i:Nat} {d:α} (h:i < l.length):l[i]? = some (l.getD i d):=by
 rw [gE h,List.getD_eq_getElem?_getD,gE h];all_goals rfl
theorem tbl_ok {L:List ByteArray} {ds:List Nat} (hperm:ds.Perm (List.range L.length)) (hsrt:∀ i j p q:Nat,i < j->ds[i]? = some p->ds[j]? = some q->nLt L q p=false):TblOK L (ordTo L ds L.length):=by
 have hlen:ds.length=L.length:=by rw [hperm.length_eq,List.length_range]
 let D:Nat->Nat:=fun i=>ds.getD i 0
 let T:Nat->ByteArray:=fun i=>L.getD (D i) emptyB
 have hD:∀ i,i < L.length->ds[i]? = some (D i):=fun i hi=>some_getD (by omega)
 have hDn:∀ i,i < L.length->D i < L.length:=fun i hi=>by
  have:=hperm.mem_iff.1 (mG (hD i hi));exact List.mem_range.1 this
 have hT:∀ i,i < L.length->L[D i]? = some (T i):=fun i hi=>some_getD (hDn i hi)
 have hle:∀ i j,i < j->j < L.length->T i=T j∨bLt (T i) (T j)=true:=by
  intro i j hij hj;have h:=hsrt i j (D i) (D j) hij (hD i (by omega)) (hD j hj);unfold nLt at h;by_cases he:T j=T i
  ·exact .inl he.symm
  ·rw [if_neg he] at h;rcases bLt_tot h with h | h
   ·exact absurd h he
   ·exact .inr h
 have hhead:∀ i,i < L.length->headB L ds i=true->∀ j,j < i->bLt (T j) (T i)=true:=by
  intro i hi hh j hji
  have hne:T i≠T (i - 1):=by
   intro he;unfold headB at hh;have:decide (i=0)=false:=by simp;omega
   rw [this] at hh;simp only [Bool.false_or,Bool.not_eq_true',decide_eq_false_iff_not] at hh;exact hh he
  have h1:bLt (T (i - 1)) (T i)=true:=by
   rcases hle (i - 1) i (by omega) hi with h | h
   ·exact absurd h.symm hne
   ·exact h
  by_cases hj:j=i - 1
  ·rw [hj];exact h1
  ·rcases hle j (i - 1) (by omega) (by omega) with h | h
   ·rw [h];exact h1
   ·exact bytesLess_trans h h1
 have hfind:∀ j,j < L.length->∃ k,k < L.length/\D k=j:=by
  intro j hj;have:=hperm.mem_iff.2 (List.mem_range.2 hj);obtain ⟨k,hk⟩:=List.getElem?_of_mem this;have hkl:=(gS hk).1;exact ⟨k,by omega,getD_some hk⟩
 let H:=(List.range L.length).filter (headB L ds)
 have hH:∀ (a i:Nat),H[a]? = some i->i < L.length/\headB L ds i=true:=fun a i h=>by
  have:=mG h;simp only [H,List.mem_filter,List.mem_range] at this;exact this
 have hord:∀ (a p:Nat),(ordTo L ds L.length)[a]? = some p->∃ i,H[a]? = some i/\D i=p:=by
  intro a p h;unfold ordTo at h;rw [List.getElem?_map] at h
  cases hh:H[a]? with
  | none=>rw [show (List.filter (headB L ds) (List.range L.length))[a]? = none from hh] at h;cases h
  | some i=>
   rw [show (List.filter (headB L ds) (List.range L.length))[a]? = some i from hh] at h;simp only [Option.map_some,oI] at h;exact ⟨i,rfl,h⟩
 have hinc:∀ (a b i k:Nat),a < b->H[a]? = some i->H[b]? = some k->i < k:=by
  intro a b i k hab hi hk;have hp:List.Pairwise (·< ·) H:=List.Pairwise.filter _ List.pairwise_lt_range;obtain ⟨ha,rfl⟩:=List.getElem?_eq_some_iff.1 hi;obtain ⟨hb,rfl⟩:=List.getElem?_eq_some_iff.1 hk;exact List.pairwise_iff_getElem.1 hp a b ha hb hab
 refine ⟨?_,?_,?_,?_⟩
 ·intro a p h;obtain ⟨i,hi,rfl⟩:=hord a p h;exact hDn i (hH a i hi).1
 ·intro a b p q s t hab hp hq hs ht;obtain ⟨i,hi,rfl⟩:=hord a p hp;obtain ⟨k,hk,rfl⟩:=hord b q hq;rw [hT i (hH a i hi).1] at hs;rw [hT k (hH b k hk).1] at ht;simp only [oI] at hs ht;rw [<- hs,<- ht];exact hhead k (hH b k hk).1 (hH b k hk).2 i (hinc a b i k hab hi hk)
 ·intro a p j s hp hs hj;obtain ⟨i,hi,rfl⟩:=hord a p hp;obtain ⟨hin,hih⟩:=hH a i hi;obtain ⟨k,hk,rfl⟩:=hfind j (gS hj).1;rw [hT i hin] at hs;rw [hT k hk] at hj;simp only [oI] at hs hj;rcases Nat.lt_trichotomy k i with h | h | h
  ·have:=hhead i hin hih k h;rw [hs,hj,bLt,bytesLess_irr] at this;cases this
  ·rw [h];exact Nat.le_refl _
  ·have h2:=hsrt i k (D i) (D k) h (hD i hin) (hD k hk);unfold nLt at h2
   have he:L.getD (D k) emptyB=L.getD (D i) emptyB:=by
    show T k=T i;rw [hj,hs]
   rw [if_pos he] at h2;simp at h2;omega
 ·intro j s hj;obtain ⟨k,hk,rfl⟩:=hfind j (gS hj).1;rw [hT k hk] at hj;simp only [oI] at hj;obtain ⟨i,⟨hin,his⟩,hmin⟩:=least (p:=fun i=>i < L.length/\T i=s) ⟨k,hk,hj⟩
  have hih:headB L ds i=true:=by
   unfold headB;by_cases h0:i=0
   ·simp [h0]
   ·have hne:¬ T i=T (i - 1):=fun he=>by
     have:=hmin (i - 1) ⟨by omega,by rw [<- he];exact his⟩;omega
    have e1:decide (L.getD (ds.getD i 0) emptyB=L.getD (ds.getD (i - 1) 0) emptyB)=false:=decide_eq_false hne;rw [e1];simp
  have hm:i∈H:=by simp only [H,List.mem_filter,List.mem_range];exact ⟨hin,hih⟩
  obtain ⟨a,ha⟩:=List.getElem?_of_mem hm;refine ⟨a,D i,?_,by rw [hT i hin,his]⟩;unfold ordTo;rw [List.getElem?_map];rw [show (List.filter (headB L ds) (List.range L.length))[a]? = some i from ha];rfl
theorem new_spec (L:List ByteArray) (hl:L.length<=1099511627776) :
  Ev Tryz.prog 88 [.sl 1 (dBs L) none] [] [] (fun r _ _=>∃ ord,TblOK L ord/\ord.length<=L.length/\r = .pt (dTbl L ord) 0):=by
 have hN:=dBs_len L;refine ev_go (P:=Tryz.prog) tt tt_ok 5000 71 [.tmp 2] Tryz.func88 rfl Tryz.ntmps88 rfl (nL rfl) (fun E9 w9 hn9 hm9=>?_);refine ⟨⟨by simp [hN,maxLen];omega,by simp [hN];omega⟩,?_⟩;refine ⟨⟨rfl,by omega,by omega,by omega⟩,?_⟩;refine loop_i (fun j st=>∃ e:Nat,st=fillSt L e/\e<=L.length/\j=L.length - e) L.length (fillSt L 0) (weak_b 4 rfl (by repeat' (first | exact rfl | exact we_rfl rfl | exact weL_ints (fillA_0 _) | refine ⟨_,_,rfl,?_,?_⟩)) rfl rfl rfl (by repeat' (first | exact trivial | exact we_rfl rfl | exact weL_ints (fillA_0 _) | refine ⟨⟨_,rfl,?_⟩,?_⟩))) ⟨0,rfl,by omega,rfl⟩ ?_;rintro j st ⟨e,rfl,he,rfl⟩;refine br (fun h=>?_) (fun h=>?_)
 ·have hlt:e < (dBs L).length:=by simpa using h
  refine ⟨⟨by omega,by omega⟩,?_⟩;have e1:(dInts (fillA (dBs L).length e)).flatten.length=(dBs L).length:=by rw [ints_flat,List.length_map,fillA_len (by omega)]
  refine ⟨by rw [e1];omega,?_⟩
  have hcs:(dInts (fillA (dBs L).length e)).flatten.set (0 + (e:Int).toNat * 1) (DV.v (.int .i64 (e:Int)))=(dInts (fillA (dBs L).length (e + 1))).flatten:=by
   rw [show 0 + (e:Int).toNat * 1=e by omega,List.set_eq_take_append_cons_drop,if_pos (by rw [e1];omega),<- fillA_step hlt];simp
  refine ⟨fillSt L (e + 1),(weak_b 4 rfl (by repeat' (first | exact rfl | exact we_rfl rfl | exact weL_ints hcs | exact we_int (nxt hlt (by omega)) | refine ⟨_,_,rfl,?_,?_⟩)) rfl rfl rfl (by repeat' (first | exact trivial | exact we_rfl rfl | exact weL_ints hcs | exact we_int (nxt hlt (by omega)) | refine ⟨⟨_,rfl,?_⟩,?_⟩))),L.length - (e + 1),by omega,e + 1,rfl,by omega,rfl⟩
 ·have hge:e=(dBs L).length:=by
   have:¬ e < (dBs L).length:=by simpa using h
   omega
  subst hge;rw [fillA_n]
  have hms:∀ dk:List Nat,dk.length=(List.range (dBs L).length).length->∀ bx:List (List DV),bx[2]? = some (dInts dk).flatten->∀ N0 n0 m0:Nat,N0<=2->Cc bx N0 n0 m0 (.sl 1 (dInts dk) none) (.ms 2 1 0 (dBs L).length (dBs L).length):=by
   intro dk hdk bx hb N0 n0 m0 hN0;simp only [Cc];refine Or.inr (Or.inr (Or.inl ⟨2,0,(dBs L).length,_,?_,hN0,hb,?_,?_,?_⟩))
   ·rw [dInts_len,hdk,List.length_range]
   ·rw [List.drop_zero,List.take_of_length_le];rw [ints_flat,List.length_map,dInts_len];omega
   ·intro x hx;simp only [dInts,List.mem_map] at hx;obtain ⟨_,_,rfl⟩:=hx;rfl
   ·intro x hx;rw [ints_flat] at hx;obtain ⟨_,_,rfl⟩:=List.mem_map.1 hx;exact ⟨_,rfl⟩
  refine call_sort (ds:=List.range (dBs L).length) rfl (by simp) (dBs L).length (fun p hp=>List.mem_range.1 hp) (nLt L) (nLt_swo L) rfl (by simp [hN];omega)
   (fun dk=>[.pt [.sl 1 (dInts dk) none] 0,.pt [.pt [.sl 1 (dBs L) none,.v (.slice none 0 0)] 0] 0])
   (fun dk hdk=>⟨_,_,rfl,Or.inr ⟨3,_,rfl,Nat.zero_le _,rfl,⟨_,_,rfl,hms dk hdk _ rfl 0 0 0 (Nat.zero_le _),rfl⟩⟩,ax⟩)
   (fun dk hdk hp i j p q hi hj=>less_spec L dk i j p q hi hj (by have:=hp p (mG hi);omega) (by have:=hp q (mG hj);omega)) rfl (fun ds hperm hsrt=>?_)
  have hdl:ds.length=(dBs L).length:=by rw [hperm.length_eq,List.length_range]
  have hmsd:=hms ds (by rw [hdl,List.length_range])
  refine loop_frz 2 (frz1St L ds) rfl rfl rfl ⟨_,_,rfl,⟨_,_,rfl,⟨nL rfl,rfl⟩,_,_,rfl,rfl,rfl⟩,_,_,rfl,⟨_,_,rfl,⟨nL rfl,rfl⟩,rfl⟩,rfl⟩
   ⟨⟨_,rfl,⟨nL rfl,rfl⟩⟩,⟨_,rfl,Or.inr ⟨3,_,rfl,by decide,rfl,⟨_,_,rfl,hmsd _ rfl 2 0 0 (by decide),rfl⟩⟩⟩,⟨_,rfl,hmsd _ rfl 2 2 1 (by decide)⟩,⟨_,rfl,rfl⟩,⟨_,rfl,rfl⟩,trivial⟩ ?_
  refine loop_i (fun j st=>∃ e m:Nat,st=newSt L ds (ordTo L ds e) m e/\m=(ordTo L ds e).length/\e<=(dBs L).length/\j=(dBs L).length - e) (dBs L).length (newSt L ds [] 0 0)
   (weak_bt 2 ⟨0,3,1,none⟩ rfl rfl rfl wTA rfl rfl wB) ⟨0,0,rfl,rfl,by omega,by omega⟩ ?_
  rintro j st ⟨e,m,rfl,hm,he,rfl⟩;have hol:=ordTo_len L ds e;refine br (fun h=>?_) (fun h=>?_)
  ·have hlt:e < (dBs L).length:=by simpa using h
   obtain ⟨p,hp⟩:∃ p,ds[e]? = some p:=⟨_,gE (by omega)⟩
   have hpL:p < L.length:=by
    have:=hperm.mem_iff.1 (mG hp);rw [List.mem_range] at this;omega
   obtain ⟨s,hs⟩:∃ s,L[p]? = some s:=⟨_,gE hpL⟩;refine ⟨_,⟨by omega,dInts_get hp⟩,?_⟩;have hgp:ds.getD e 0=p:=by simp [List.getD_eq_getElem?_getD,hp]
   have hgs:L.getD p emptyB=s:=by simp [List.getD_eq_getElem?_getD,hs]
   have hnew:headB L ds e=true->ordTo L ds (e + 1)=ordTo L ds e ++ [p]:=fun hh=>by rw [ordTo_succ,if_pos hh,hgp]
   have hold:headB L ds e=false->ordTo L ds (e + 1)=ordTo L ds e:=fun hh=>by rw [ordTo_succ,if_neg (by rw [hh];decide),List.append_nil]
   have hsnoc:headB L ds e=true->dInts (ordTo L ds e) ++ [[DV.v (.int .i64 (p:Int))]]=dInts (ordTo L ds (e + 1)):=fun hh=>by rw [hnew hh];simp [dInts]
   by_cases h0:e=0
   ·subst h0;have hh:headB L ds 0=true:=by simp [headB]
    refine drawG_i (fun _=>false) mo (by decide +kernel) ?_;refine drawG_s mo (by decide +kernel) ?_;refine ⟨by rw [dInts_len,hm],⟨by simp [dInts_len,maxLen];omega,by simp [dInts_len];omega⟩,?_⟩;refine ⟨newSt L ds (ordTo L ds 1) (m + 1) 1,(weak_b 2 rfl (by repeat' (first | exact rfl | exact we_rfl rfl | exact we_int (nxt hlt (by omega)) | exact we_sl (hsnoc hh) rfl | refine ⟨_,_,rfl,?_,?_⟩)) rfl rfl rfl (by repeat' (first | exact trivial | exact we_rfl rfl | exact we_int (nxt hlt (by omega)) | exact we_sl (hsnoc hh) rfl | refine ⟨⟨_,rfl,?_⟩,?_⟩))),(dBs L).length - 1,by omega,1,m + 1,rfl,by rw [hnew hh,List.length_append,hm];rfl,by omega,rfl⟩
   ·obtain ⟨p',hp'⟩:∃ p',ds[e - 1]? = some p':=⟨_,gE (by omega)⟩
    have hpL':p' < L.length:=by
     have:=hperm.mem_iff.1 (mG hp');rw [List.mem_range] at this;omega
    obtain ⟨s',hs'⟩:∃ s',L[p']? = some s':=⟨_,gE hpL'⟩;have hgp':ds.getD (e - 1) 0=p':=by simp [List.getD_eq_getElem?_getD,hp']
    have hgs':L.getD p' emptyB=s':=by simp [List.getD_eq_getElem?_getD,hs']
    have hhd:headB L ds e = !decide (s=s'):=by
     unfold headB;rw [hgp,hgp',hgs,hgs'];simp [h0]
    have hz:IntKind.i64.wrap ((e:Int) - 1)=((e - 1:Nat):Int):=by rw [wrap64 (by omega) (by omega)];omega
    refine drawG_i (fun _=>false) mo (by decide +kernel) ?_;refine br (fun _=>?_) (fun h=>?_)
    ·refine ⟨_,⟨by omega,dBs_get hs⟩,?_⟩;refine ⟨[.v (.int .i64 (p':Int))],⟨by rw [hz];omega,by rw [hz];exact dInts_get hp'⟩,?_⟩;refine ⟨_,⟨by omega,dBs_get hs'⟩,?_⟩;refine br (fun h2=>?_) (fun h2=>?_)
     ·have hh:headB L ds e=true:=by
       rw [hhd];simp [pickB_or,h0] at h2;simpa using h2
      refine drawG_s mo (by decide +kernel) ?_;refine ⟨by rw [dInts_len,hm],⟨by simp [dInts_len,maxLen];omega,by simp [dInts_len];omega⟩,?_⟩;refine ⟨newSt L ds (ordTo L ds (e + 1)) (m + 1) (e + 1),(weak_b 2 rfl (by repeat' (first | exact rfl | exact we_rfl rfl | exact we_int (nxt hlt (by omega)) | exact we_sl (hsnoc hh) rfl | refine ⟨_,_,rfl,?_,?_⟩)) rfl rfl rfl (by repeat' (first | exact trivial | exact we_rfl rfl | exact we_int (nxt hlt (by omega)) | exact we_sl (hsnoc hh) rfl | refine ⟨⟨_,rfl,?_⟩,?_⟩))),(dBs L).length - (e + 1),by omega,e + 1,m + 1,rfl,by rw [hnew hh,List.length_append,hm];rfl,by omega,rfl⟩
     ·have hh:headB L ds e=false:=by
       rw [hhd];simp [pickB_or,h0] at h2;simpa using h2
      have heq:dInts (ordTo L ds e)=dInts (ordTo L ds (e + 1)):=by rw [hold hh]
      refine ⟨newSt L ds (ordTo L ds (e + 1)) m (e + 1),(weak_b 2 rfl (wSA hlt heq) rfl rfl rfl (wSB hlt heq)),(dBs L).length - (e + 1),by omega,e + 1,m,rfl,by rw [hold hh,hm],by omega,rfl⟩
    ·exfalso;have:decide ((e:Int)=0)=true:=by simpa using h
     simp at this;exact h0 this
  ·have hge:e=L.length:=by
    have:¬ e < (dBs L).length:=by simpa using h
    omega
   subst hge;exact ⟨.pt (dTbl L (ordTo L ds L.length)) 0,Or.inr ⟨0,_,rfl,Nat.zero_le _,rfl,ax⟩,_,tbl_ok (by rw [<- hN];exact hperm) hsrt,hol,rfl⟩
abbrev twSt (L:List ByteArray) (ord:List Nat) (e:Nat):St:=
 ⟨[(3,⟨[],.pt (dTbl L ord) 0⟩),(10,⟨[],.sl 1 (dBs L) none⟩),(11,⟨[],.v (.int .i64 (dBs L).length)⟩),(12,⟨[],.v (.int .i64 e)⟩)],[],[]⟩
theorem nodup_of {α:Type}:∀ {l:List α},(∀ (i j:Nat) (x:α),j < i->l[i]? = some x->l[j]? ≠ some x)->l.Nodup
 | l,h=>by
  rw [List.nodup_iff_pairwise_ne,List.pairwise_iff_getElem];intro i j hi hj hij he;exact h j i l[j] hij (gE hj) (by rw [gE hi,he])
theorem twice_spec (L:List ByteArray) (hl:L.length<=1099511627776) :
  Ev Tryz.prog 95 [.sl 1 (dBs L) none] [] [] (fun r _ _=>∃ z:Int,r = .v (.int .i64 z)/\(0<=z↔¬ L.Nodup)):=by
 have hN:=dBs_len L;refine ev_go (P:=Tryz.prog) tt tt_ok 5000 28 [.tmp 2] Tryz.func95 rfl Tryz.ntmps95 rfl (nL rfl) (fun E9 w9 hn9 hm9=>?_);refine call_e en88 rfl (new_spec L hl) ax (fun r hr=>?_);obtain ⟨ord,hT,hol,rfl⟩:=hr;refine loop_i (fun j st=>∃ e:Nat,st=twSt L ord e/\e<=L.length/\(∀ (i j:Nat) (x:ByteArray),i < e->j < i->L[i]? = some x->L[j]? ≠ some x)/\j=L.length - e) L.length (twSt L ord 0) (weak_mk ⟨_,rfl⟩ wA rfl rfl rfl wB) ⟨0,rfl,by omega,fun i j x hi=>by omega,rfl⟩ ?_;rintro j st ⟨e,rfl,he,hinv,rfl⟩;refine br (fun h=>?_) (fun h=>?_)
 ·have hlt:e < L.length:=by simpa [hN] using h
  obtain ⟨s,hs⟩:∃ s,L[e]? = some s:=⟨_,gE hlt⟩;obtain ⟨q,p,hq,hp⟩:=hT.all e s hs;have hpe:=hT.fst q p e s hq hp hs;refine ⟨_,⟨by omega,dBs_get hs⟩,?_⟩;refine call_p en98 (find_spec L ord s q p hT (by omega) hq hp) ax rfl ?_;refine br (fun h2=>?_) (fun h2=>?_)
  ·have h2:p < e:=by simpa using h2
   refine ⟨(e:Int),rfl,⟨fun _ hnd=>?_,fun _=>by omega⟩⟩;rw [List.nodup_iff_pairwise_ne,List.pairwise_iff_getElem] at hnd;obtain ⟨h3,h4⟩:=List.getElem?_eq_some_iff.1 hp;obtain ⟨h5,h6⟩:=List.getElem?_eq_some_iff.1 hs;exact hnd p e h3 h5 h2 (by rw [h4,h6])
  ·have h2:¬ p < e:=by simpa using h2
   refine ⟨twSt L ord (e + 1),(weak_mk ⟨_,rfl⟩ wA rfl rfl rfl (wNB hlt)),L.length - (e + 1),by omega,e + 1,rfl,by omega,fun i j x hi hj hx hjx=>?_,rfl⟩;by_cases hie:i=e
   ·subst hie;rw [hs] at hx;simp only [oI] at hx;subst hx;have:=hT.fst q p j s hq hp hjx;omega
   ·exact hinv i j x (by omega) hj hx hjx
 ·have hge:e=L.length:=by
   have:¬ e < L.length:=by simpa [hN] using h
   omega
  subst hge;refine ⟨-1,rfl,⟨fun h3=>by omega,fun h3=>?_⟩⟩;exact absurd (nodup_of fun i j x hij hi hj=>hinv i j x (gS hi).1 hij hi hj) h3
def sameWds:List Wd->List Wd->Bool
 | [],[]=>true
 | x :: r,y :: s=>decide (x.s=y.s) && sameWds r s
 | _,_=>false
def plainP (p q:Ph):Bool:=(p.bare == q.bare) && decide (p.wide=q.wide) && sameWds p.label q.label && decide (p.ck=q.ck) && decide (p.cn=q.cn) && sameWds p.cl q.cl
def sameHd (h k:Hd):Bool:=decide (h.kind=k.kind) && decide (h.lo=k.lo) && decide (h.hi=k.hi) && decide (h.most=k.most) && decide (h.name.s=k.name.s) && sameWds h.names k.names
mutual
def sameTy:Ty->Ty->Bool
 | .mk h ps,.mk k qs=>sameHd h k && samePts ps qs
def samePts:Pts->Pts->Bool
 | .nil,.nil=>true
 | .cons p t r,.cons q u s=>decide (p.name.s=q.name.s) && plainP p q && sameTy t u && samePts r s
 | _,_=>false
end
def maskHd (h:Hd):Hd:=
 ⟨h.kind,0,if h.kind=2 then h.lo else 0,if h.kind=2 then h.hi else 0,if h.kind=3∨h.kind=5 then h.most else 0,if h.kind=4 then h.names else [],if h.kind=9 then h.name else ⟨emptyB,0⟩⟩
def mask:Ty->Ty
 | .mk h ps=>.mk (maskHd h) (if 4 < h.kind/\h.kind < 9 then ps else .nil)
end Go.Proofs.YtadhpeooehkklaaGreat
set_option maxRecDepth 100000
namespace Go.Proofs.YtadhpeooehkklaaGreat
open Go Go.RowKit Dv Tryz
end Go.Proofs.YtadhpeooehkklaaGreat
set_option maxRecDepth 100000
namespace Go.Proofs.YtadhpeooehkklaaGreat
open Go Go.RowKit Dv Tryz
abbrev Ft:Type:=Int × Int
def Ft.d (f:Ft):DV:=.agg [.v (.int .i64 f.1),.v (.int .i64 f.2)]
def badWd:List Wd->Ft
 | []=>(0,0)
 | w :: r=>if nameOK w.s then badWd r else (9,w.a)
def labelF (l:List Wd):Ft:=
 if l.length<=32 then badWd l else (8,((l[32]?).getD (⟨emptyB,0⟩:Wd)).a)
def dupBefore (l:List Wd) (s:ByteArray):Bool:=l.any fun w=>decide (w.s=s)
def listedF (l:List Wd) (i:Nat) (x:Wd):Int:=
 if nameOK x.s then (if dupBefore (l.take i) x.s then 10 else 0) else 9
def pNames:Pts->List Wd
 | .nil=>[]
 | .cons p _ r=>p.name :: pNames r
theorem pNames_len:∀ ps:Pts,(pNames ps).length=ps.len
 | .nil=>rfl
 | .cons p t r=>by simp [pNames,Pts.len,pNames_len r]
theorem pNames_get:∀ {ps:Pts} {j:Nat} {p:Ph} {t:Ty},ps.toList[j]? = some (p,t)->(pNames ps)[j]? = some p.name
 | .nil,j,p,t,h=>by simp [Pts.toList] at h
 | .cons q u r,0,p,t,h=>by
  simp only [Pts.toList,List.getElem?_cons_zero,oI,Prod.mk.injEq] at h;obtain ⟨rfl,rfl⟩:=h;simp [pNames]
 | .cons q u r,j + 1,p,t,h=>by
  simp only [Pts.toList,List.getElem?_cons_succ] at h;simp only [pNames,List.getElem?_cons_succ];exact pNames_get h
theorem pNames_wt:∀ ps:Pts,wdsWt (pNames ps)<=ps.wt
 | .nil=>Nat.le_refl _
 | .cons p t r=>by
  have:=pNames_wt r;simp only [pNames,wdsWt,Pts.wt,Ph.wt] at this ⊢;omega
mutual
def Ty.cnt:Ty->Nat
 | .mk _ ps=>1 + ps.cnt
def Pts.cnt:Pts->Nat
 | .nil=>0
 | .cons p t r=>(if p.bare then 0 else t.cnt) + r.cnt
end
mutual
def Ty.deep:Ty->Nat
 | .mk _ ps=>ps.deep + 1
def Pts.deep:Pts->Nat
 | .nil=>0
 | .cons p t r=>max (if p.bare then 0 else t.deep) r.deep
end
mutual
theorem Ty.cnt_wt:∀ t:Ty,t.cnt<=t.wt
 | .mk h ps=>by have:=Pts.cnt_wt ps;simp only [Ty.cnt,Ty.wt,Hd.wt];omega
theorem Pts.cnt_wt:∀ ps:Pts,ps.cnt<=ps.wt
 | .nil=>Nat.le_refl _
 | .cons p t r=>by
  have:=Ty.cnt_wt t;have:=Pts.cnt_wt r;simp only [Pts.cnt,Pts.wt];split<;>omega
end
mutual
theorem Ty.deep_wt:∀ t:Ty,t.deep<=t.wt
 | .mk h ps=>by have:=Pts.deep_wt ps;simp only [Ty.deep,Ty.wt,Hd.wt];omega
theorem Pts.deep_wt:∀ ps:Pts,ps.deep<=ps.wt
 | .nil=>Nat.le_refl _
 | .cons p t r=>by
  have:=Ty.deep_wt t;have:=Pts.deep_wt r;simp only [Pts.deep,Pts.wt];split<;>omega
end
abbrev sizeSt (t:Ty) (e n d:Nat):St:=
 ⟨[(1,⟨[],.loc 0 0⟩),(4,⟨[],.v (.int .i64 n)⟩),(5,⟨[],.v (.int .i64 d)⟩),(6,⟨[],.v (.int .i64 e)⟩)],[dTy t],[]⟩
theorem size15_spec:∀ (k:Nat) (t:Ty),t.wt<=k->t.wt<=1099511627776 ->
  EvP Tryz.prog 35 [.agg (dTy t)] (.tup [.v (.int .i64 t.cnt),.v (.int .i64 t.deep)])
 | 0,t,hn,_=>by have:=t.wt_pos;omega
 | k + 1,.mk h ps,hn,hbig=>by
  simp only [Ty.wt,Hd.wt] at hn hbig;have hpl:=ps.wt_len;have hc:=ps.cnt_wt;have hdp:=ps.deep_wt;refine ev_go (P:=Tryz.prog) tt tt_ok 5000 42 [.tmp 2,.tmp 3] Tryz.func35 rfl Tryz.ntmps35 rfl (nL rfl) (fun E9 w9 hn9 hm9=>?_)
  refine loop_i (fun j st=>∃ (e n d:Nat),st=sizeSt (.mk h ps) e n d/\e<=ps.len/\n + (ps.drop e).cnt=1 + ps.cnt/\max d (ps.drop e).deep=ps.deep/\j=ps.len - e) ps.len
   (sizeSt (.mk h ps) 0 1 0) (weak_mk ⟨_,rfl⟩ wA rfl rfl rfl wB) ⟨0,1,0,rfl,by omega,rfl,by simp [Pts.drop],by omega⟩ ?_
  rintro j st ⟨e,n,d,rfl,he,hne,hde,rfl⟩;refine br (fun hL=>?_) (fun hL=>?_)
  ·have hlt:e < ps.len:=by simpa [dPts_len] using hL
   obtain ⟨p,t,hx⟩:=Pts.get_lt hlt;have hwt:=Pts.wt_mem (mG hx);rw [Pts.drop_cons hx] at hne hde;simp only [Pts.cnt,Pts.deep] at hne hde;have hct:=t.cnt_wt;have hdt:=t.deep_wt;refine ⟨_,⟨by omega,dPts_get hx⟩,?_⟩;refine br (fun hB=>?_) (fun hB=>?_)
   ·rw [if_pos hB] at hne hde;exact ⟨sizeSt (.mk h ps) (e + 1) n d,(weak_mk ⟨_,rfl⟩ wA rfl rfl rfl (wNB hlt)),ps.len - (e + 1),by omega,e + 1,n,d,rfl,by omega,by omega,by omega,rfl⟩
   ·rw [if_neg (by simp [hB])] at hne hde;obtain ⟨u,us⟩:=t;refine ⟨_,⟨by omega,dPts_get hx⟩,?_⟩;refine call_p en35 (size15_spec k (.mk u us) (by omega) (by omega)) ax rfl ?_;have hw4:IntKind.i64.wrap ((n:Int) + (Ty.mk u us).cnt)=((n + (Ty.mk u us).cnt:Nat):Int):=by rw [wrap64 (by omega) (by omega)];omega
    refine br (fun hD=>?_) (fun hD=>?_)
    ·have hD:d < (Ty.mk u us).deep:=by simpa using hD
     exact ⟨sizeSt (.mk h ps) (e + 1) (n + (Ty.mk u us).cnt) (Ty.mk u us).deep,(weak_mk ⟨_,rfl⟩ wA rfl rfl rfl (by repeat' (first | exact trivial | exact we_rfl rfl | exact we_int hw4 | exact we_int (nxt hlt (by omega)) | refine ⟨⟨_,rfl,?_⟩,?_⟩))),ps.len - (e + 1),by omega,e + 1,_,_,rfl,by omega,by omega,by omega,rfl⟩
    ·have hD:¬ d < (Ty.mk u us).deep:=by simpa using hD
     exact ⟨sizeSt (.mk h ps) (e + 1) (n + (Ty.mk u us).cnt) d,(weak_mk ⟨_,rfl⟩ wA rfl rfl rfl (by repeat' (first | exact trivial | exact we_rfl rfl | exact we_int hw4 | exact we_int (nxt hlt (by omega)) | refine ⟨⟨_,rfl,?_⟩,?_⟩))),ps.len - (e + 1),by omega,e + 1,_,_,rfl,by omega,by omega,by omega,rfl⟩
  ·have hge:e=ps.len:=by simp [dPts_len] at hL;omega
   rw [hge,Pts.drop_len] at hne hde;simp only [Pts.cnt,Pts.deep] at hne hde;have e1:IntKind.i64.wrap ((d:Int) + 1)=((Ty.mk h ps).deep:Int):=by rw [wrap64 (by omega) (by omega)];simp only [Ty.deep];omega
   have e2:(n:Int)=((Ty.mk h ps).cnt:Int):=by simp only [Ty.cnt];omega
   refine ⟨_,?_,rfl⟩;rw [<- e1,<- e2];exact ax
def coarseF (p:Ph):Ft:=
 if p.ck=0 then (if p.cn=0/\p.cl=[] then (0,0) else (19,p.name.a))
 else if p.ck < 0∨3 < p.ck then (14,p.ca)
 else if (p.ck=1/\p.cn < 1)∨(p.ck=2/\(p.cn < 0∨4096 < p.cn))∨(p.ck=3/\p.cn≠0) then (20,p.ca)
 else labelF p.cl
def enumL (all:List Wd):Nat->List Wd->Ft
 | _,[]=>(0,0)
 | i,x :: r=>if listedF all i x≠0 then (listedF all i x,x.a) else enumL all (i + 1) r
def enumWd (h:Hd):Ft:=
 if h.names=[] then (15,h.at')
 else if 64 < h.names.length then (8,((h.names[64]?).getD (⟨emptyB,0⟩:Wd)).a)
 else enumL h.names 0 h.names
def partWd (p:Ph):Ft:=
 if p.wide < 0∨64 < p.wide then (20,p.name.a)
 else if (labelF p.label).1≠0 then labelF p.label
 else coarseF p
def ownB (t:Ty):Bool:=sameTy t (mask t)
mutual
def wrong:Ty->Int->Int->Ft × Int
 | .mk h ps,depth,m=>
  if 24 < depth then ((6,h.at'),m + 1)
  else if 512 < m + 1 then ((8,h.at'),m + 1)
  else if h.kind < 1∨9 < h.kind then ((14,h.at'),m + 1)
  else if ownB (.mk h ps)=false then ((19,h.at'),m + 1)
  else if (h.kind=2/\h.hi < h.lo)∨(h.kind=3/\(h.most < 0∨4096 < h.most)) then ((20,h.at'),m + 1)
  else if h.kind=9/\nameOK h.name.s=false then ((9,h.name.a),m + 1)
  else if h.kind=4 then (enumWd h,m + 1)
  else if h.kind=5∨h.kind=6 then wrongOne h ps depth (m + 1)
  else if h.kind=7∨h.kind=8 then
   if h.kind=8/\ps.len=0 then ((15,h.at'),m + 1)
   else if 64 < ps.len then ((8,(((pNames ps)[64]?).getD (⟨emptyB,0⟩:Wd)).a),m + 1)
   else wrongPts h.kind (pNames ps) 0 ps depth (m + 1)
  else ((0,0),m + 1)
def wrongOne:Hd->Pts->Int->Int->Ft × Int
 | h,.cons p t .nil,depth,m=>
  if p.name.s≠emptyB∨plainP p zeroPh=false then ((19,h.at'),m)
  else if h.most < 0∨1024 < h.most then ((20,h.at'),m)
  else wrong t (depth + 1) m
 | h,_,_,m=>((19,h.at'),m)
def wrongPts (kind:Int) (all:List Wd):Nat->Pts->Int->Int->Ft × Int
 | _,.nil,_,m=>((0,0),m)
 | i,.cons p t r,depth,m=>
  if listedF all i p.name≠0 then ((listedF all i p.name,p.name.a),m)
  else if p.bare=true then
   if kind=7∨sameTy t zeroTy=false∨plainP p barePh=false then ((19,p.name.a),m) else wrongPts kind all (i + 1) r depth m
  else if (partWd p).1≠0 then (partWd p,m)
  else if (wrong t (depth + 1) m).1.1≠0 then wrong t (depth + 1) m
  else wrongPts kind all (i + 1) r depth (wrong t (depth + 1) m).2
end
def partsF (h:Hd) (ps:Pts) (depth m:Int):Ft × Int:=
 if h.kind=8/\ps.len=0 then ((15,h.at'),m)
 else if 64 < ps.len then ((8,(((pNames ps)[64]?).getD (⟨emptyB,0⟩:Wd)).a),m)
 else wrongPts h.kind (pNames ps) 0 ps depth m
theorem enumL_ok (all:List Wd):∀ (l:List Wd) (i:Nat),(enumL all i l).1=0->enumL all i l=(0,0)
 | [],_,_=>rfl
 | x :: r,i,h=>by
  have ih:=enumL_ok all r (i + 1);simp only [enumL] at h ⊢;split at h
  ·rename_i hc;exact (hc h).elim
  ·rename_i hc;rw [if_neg hc];exact ih h
theorem enumWd_ok (h:Hd) (he:(enumWd h).1=0):enumWd h=(0,0):=by
 unfold enumWd at he ⊢;split at he
 ·simp at he
 ·split at he
  ·simp at he
  ·rename_i h1 h2;rw [if_neg h1,if_neg h2];exact enumL_ok _ _ _ he
mutual
theorem wrong_ok:∀ (t:Ty) (depth m:Int),0<=m->(wrong t depth m).1.1=0->(wrong t depth m).1=(0,0)/\0<=(wrong t depth m).2/\(wrong t depth m).2<=512
 | .mk h ps,depth,m,hm,he=>by
  have i1:=wrongOne_ok h ps depth (m + 1) (by omega);have i2:=wrongPts_ok h.kind (pNames ps) ps 0 depth (m + 1) (by omega);have i3:=enumWd_ok h;simp only [wrong] at he ⊢;by_cases c0:24 < depth
  ·rw [if_pos c0] at he;simp at he
  rw [if_neg c0] at he ⊢;by_cases c1:512 < m + 1
  ·rw [if_pos c1] at he;simp at he
  rw [if_neg c1] at he ⊢;by_cases c2:h.kind < 1∨9 < h.kind
  ·rw [if_pos c2] at he;simp at he
  rw [if_neg c2] at he ⊢;by_cases c3:ownB (.mk h ps)=false
  ·rw [if_pos c3] at he;simp at he
  rw [if_neg c3] at he ⊢;by_cases c4:(h.kind=2/\h.hi < h.lo)∨(h.kind=3/\(h.most < 0∨4096 < h.most))
  ·rw [if_pos c4] at he;simp at he
  rw [if_neg c4] at he ⊢;by_cases c5:h.kind=9/\nameOK h.name.s=false
  ·rw [if_pos c5] at he;simp at he
  rw [if_neg c5] at he ⊢;by_cases k4:h.kind=4
  ·rw [if_pos k4] at he ⊢;exact ⟨i3 he,by simp only;omega,by simp only;omega⟩
  rw [if_neg k4] at he ⊢;by_cases k5:h.kind=5∨h.kind=6
  ·rw [if_pos k5] at he ⊢;exact i1 (by omega) he
  rw [if_neg k5] at he ⊢;by_cases k7:h.kind=7∨h.kind=8
  ·rw [if_pos k7] at he ⊢;by_cases k8:h.kind=8/\ps.len=0
   ·rw [if_pos k8] at he;simp at he
   rw [if_neg k8] at he ⊢;by_cases k9:64 < ps.len
   ·rw [if_pos k9] at he;simp at he
   rw [if_neg k9] at he ⊢;exact i2 (by omega) he
  ·rw [if_neg k7];exact ⟨rfl,by simp only;omega,by simp only;omega⟩
theorem wrongOne_ok:∀ (h:Hd) (ps:Pts) (depth m:Int),0<=m->m<=512->(wrongOne h ps depth m).1.1=0->(wrongOne h ps depth m).1=(0,0)/\0<=(wrongOne h ps depth m).2/\(wrongOne h ps depth m).2<=512
 | h,.nil,depth,m,hm,_,he=>by simp [wrongOne] at he
 | h,.cons p t .nil,depth,m,hm,h5,he=>by
  have ih:=wrong_ok t (depth + 1) m hm;simp only [wrongOne] at he ⊢;split at he
  ·simp at he
  ·split at he
   ·simp at he
   ·rename_i h1 h2;rw [if_neg h1,if_neg h2];exact ih he
 | h,.cons p t (.cons _ _ _),depth,m,hm,_,he=>by simp [wrongOne] at he
theorem wrongPts_ok (kind:Int) (all:List Wd):∀ (ps:Pts) (i:Nat) (depth m:Int),0<=m->m<=512->(wrongPts kind all i ps depth m).1.1=0->(wrongPts kind all i ps depth m).1=(0,0)/\0<=(wrongPts kind all i ps depth m).2/\(wrongPts kind all i ps depth m).2<=512
 | .nil,i,depth,m,hm,h5,he=>by simp only [wrongPts];exact ⟨trivial,hm,h5⟩
 | .cons p t r,i,depth,m,hm,h5,he=>by
  have i1:=wrong_ok t (depth + 1) m hm;simp only [wrongPts] at he ⊢;split at he
  ·rename_i h1;exact (h1 he).elim
  ·rename_i h1;rw [if_neg h1];split at he
   ·rename_i h2;rw [if_pos h2];split at he
    ·simp at he
    ·rename_i h3;rw [if_neg h3];exact wrongPts_ok kind all r (i + 1) depth m hm h5 he
   ·rename_i h2;rw [if_neg h2];split at he
    ·rename_i h3;exact (h3 he).elim
    ·rename_i h3;rw [if_neg h3];split at he
     ·rename_i h4;exact (h4 he).elim
     ·rename_i h4;rw [if_neg h4];have i2:=i1 (by simpa using h4);exact wrongPts_ok kind all r (i + 1) depth _ i2.2.1 i2.2.2 he
end
theorem bad_spec (e a:Int):EvP Tryz.prog 198 [.v (.int .i64 e),.v (.int .i64 a)] (Ft.d (e,a)):=by
 refine ev_go (P:=Tryz.prog) tt tt_ok 5000 8 [.cell 4 45] Tryz.func198 rfl Tryz.ntmps198 rfl (nL rfl) (fun E9 w9 hn9 hm9=>?_);exact ⟨_,ax,rfl⟩
noncomputable def listedP (L:List ByteArray) (x:ByteArray) (a:Int):Ft:=if nameOK x=true then (if L.Nodup then (0,0) else (10,a)) else (9,a)
theorem listed_spec (L:List ByteArray) (x:ByteArray) (a:Int) (hx:L[L.length - 1]? = some x) (hl:L.length<=1099511627776) (hxs:x.size<=4611686018427387904) :
  EvP Tryz.prog 231 [.sl 1 (dBs L) none,.v (.int .i64 a)] (listedP L x a).d:=by
 have hN:=dBs_len L;have hpos:=(gS hx).1;have hz:IntKind.i64.wrap (((dBs L).length:Int) - 1)=((L.length - 1:Nat):Int):=by rw [hN,wrap64 (by omega) (by omega)];omega
 refine ev_go (P:=Tryz.prog) tt tt_ok 5000 23 [.cell 4 45] Tryz.func231 rfl Tryz.ntmps231 rfl (nL rfl) (fun E9 w9 hn9 hm9=>?_);refine ⟨[.v (.string x)],⟨by rw [hz];omega,by rw [hz];exact dBs_get hx⟩,?_⟩;refine call_p en94 (right_spec x hxs) ax rfl ?_;refine br (fun h=>?_) (fun h=>?_)
 ·have h:nameOK x=false:=by simpa using h
  refine call_p en198 (bad_spec 9 a) ax rfl ?_;refine ⟨_,?_,rfl⟩;rw [listedP,if_neg (by rw [h];decide)];exact ax
 ·have h:nameOK x=true:=by simpa using h
  refine call_e en95 rfl (twice_spec L hl) ax (fun r hr=>?_);obtain ⟨z,rfl,hz⟩:=hr;refine br (fun h2=>?_) (fun h2=>?_)
  ·have h2:0<=z:=by simpa using h2
   refine call_p en198 (bad_spec 10 a) ax rfl ?_;refine ⟨_,?_,rfl⟩;rw [listedP,if_pos h,if_neg (hz.1 h2)];exact ax
  ·have h2:¬ 0<=z:=by simpa using h2
   refine ⟨_,?_,rfl⟩;rw [listedP,if_pos h,if_pos (Classical.byContradiction fun hn=>h2 (hz.2 hn))];exact ax
theorem dWds_snoc0 {l:List Wd} {e:Nat} {x:Wd} (h:l[e]? = some x):dWds ((l.map fun w=>(⟨w.s,0⟩:Wd)).take e) ++ [[.v (.string x.s),.v (.int .i64 0)]]=dWds ((l.map fun w=>(⟨w.s,0⟩:Wd)).take (e + 1)):=by
 have h2:(l.map fun w=>(⟨w.s,0⟩:Wd))[e]? = some ⟨x.s,0⟩:=by simp [h]
 exact dWds_snoc h2
def plainW (l:List Wd):List Wd:=l.map fun w=>⟨w.s,0⟩
abbrev wdsSt (l l':List Wd) (n e:Nat):St:=
 ⟨[(6,⟨[],.sl 2 (dWds l) none⟩),(7,⟨[],.v (.int .i64 (dWds l).length)⟩),(8,⟨[],.v (.int .i64 e)⟩),(3,⟨[],.sl 2 (dWds l') (some 0)⟩)],[],[⟨n,27,2,none⟩]⟩
theorem words_spec (l:List Wd) (hs:wdsWt l<=1099511627776):EvP Tryz.prog 246 [.sl 2 (dWds l) none] (.sl 2 (dWds (plainW l)) none):=by
 have hl:=wdsWt_len l;refine ev_go (P:=Tryz.prog) tt tt_ok 5000 20 [.tmp 2] Tryz.func246 rfl Tryz.ntmps246 rfl (nL rfl) (fun E9 w9 hn9 hm9=>?_);refine loop_i (fun j st=>∃ e:Nat,st=wdsSt l ((plainW l).take e) e e/\e<=l.length/\j=l.length - e) l.length (wdsSt l [] 0 0) (weak_tok ⟨0,27,2,none⟩ rfl ⟨_,rfl⟩ rfl wA rfl rfl wTB) ⟨0,by simp,by omega,by omega⟩ ?_;rintro j st ⟨e,rfl,he,rfl⟩;refine br (fun h=>?_) (fun h=>?_)
 ·have hlt:e < l.length:=by simpa [dWds_len] using h
  obtain ⟨w,hw⟩:∃ w,l[e]? = some w:=⟨_,gE hlt⟩;refine ⟨dWd w,⟨by omega,dWds_get hw⟩,?_⟩;refine ⟨by simp [dWds_len,plainW];omega,⟨by simp [dWds_len,plainW,maxLen];omega,by simp [dWds_len,plainW];omega⟩,?_⟩;refine ⟨wdsSt l ((plainW l).take (e + 1)) (e + 1) (e + 1),(weak_mk ⟨_,rfl⟩ wA rfl rfl rfl (by repeat' (first | exact trivial | exact we_rfl rfl | exact we_int (nxt hlt (by omega)) | exact we_sl (dWds_snoc0 hw) rfl | refine ⟨⟨_,rfl,?_⟩,?_⟩))),l.length - (e + 1),by omega,e + 1,rfl,by omega,rfl⟩
 ·have hge:e=l.length:=by
   have:=h;simp [dWds_len] at this;omega
  rw [hge,List.take_of_length_le (by simp [plainW])];exact ⟨_,ax,rfl⟩
abbrev labelPSt (l:List Wd) (e:Nat):St:=
 ⟨[(13,⟨[],.sl 2 (dWds l) none⟩),(14,⟨[],.v (.int .i64 (dWds l).length)⟩),(2,⟨[],.loc 0 0⟩),(15,⟨[],.v (.int .i64 e)⟩)],[[.v (.int .i64 0),.v (.int .i64 0)]],[]⟩
theorem klabel_spec (l:List Wd) (hs:wdsWt l<=1099511627776) :
  EvP Tryz.prog 240 [.sl 2 (dWds l) none] (labelF l).d:=by
 have hsl:=wdsWt_len l;refine ev_go (P:=Tryz.prog) tt tt_ok 5000 28 [.cell 2 45] Tryz.func240 rfl Tryz.ntmps240 rfl (nL rfl) (fun E9 w9 hn9 hm9=>?_);refine br (fun h=>?_) (fun h=>?_)
 ·have hlt:32 < l.length:=by simp [dWds_len] at h;omega
  obtain ⟨x,hx⟩:∃ x,l[32]? = some x:=⟨_,gE hlt⟩;have:labelF l=(8,x.a):=by simp [labelF,Nat.not_le.2 hlt,hx]
  refine ⟨dWd x,⟨by omega,dWds_get hx⟩,?_⟩;refine call_p en198 (bad_spec 8 x.a) ax rfl ?_;refine ⟨_,?_,rfl⟩;rw [this];exact ax
 ·have hle:l.length<=32:=by simp [dWds_len] at h;omega
  refine loop_i (fun j st=>∃ e:Nat,st=labelPSt l e/\e<=l.length/\badWd l=badWd (l.drop e)/\j=l.length - e) l.length
   (labelPSt l 0) (weak_mk ⟨_,rfl⟩ wA rfl rfl rfl wB) ⟨0,rfl,by omega,rfl,by omega⟩ ?_
  rintro j st ⟨e,rfl,he,heq,rfl⟩;refine br (fun hL=>?_) (fun hL=>?_)
  ·have hlt:e < l.length:=by simpa [dWds_len] using hL
   obtain ⟨x,hx⟩:∃ x,l[e]? = some x:=⟨_,gE hlt⟩;rw [drop_cons hx] at heq;have hxs:=wdsWt_mem (mG hx);refine ⟨dWd x,⟨by omega,dWds_get hx⟩,?_⟩;refine call_p en94 (right_spec x.s (by omega)) ax rfl ?_;refine br (fun hN=>?_) (fun hN=>?_)
   ·have hN:nameOK x.s=false:=by simpa using hN
    have:labelF l=(9,x.a):=by simp [labelF,hle,heq,badWd,hN]
    refine call_p en198 (bad_spec 9 x.a) ax rfl ?_;refine ⟨_,?_,rfl⟩;rw [this];exact ax
   ·have hN:nameOK x.s=true:=by simpa using hN
    refine ⟨labelPSt l (e + 1),(weak_mk ⟨_,rfl⟩ wA rfl rfl rfl (wNB hlt)),l.length - (e + 1),by omega,e + 1,rfl,by omega,?_,rfl⟩;rw [heq];simp [badWd,hN]
  ·have hge:e=l.length:=by simp [dWds_len] at hL;omega
   have:labelF l=(0,0):=by simp [labelF,hle,heq,hge,badWd]
   refine ⟨_,?_,rfl⟩;rw [this];exact ax
theorem kcoarse_spec (p:Ph) (tl:List DV) (t:Ty) (htl:tl=dTy t) (hs:p.wt<=1099511627776) :
  EvP Tryz.prog 241 [.agg (dPh p tl)] (coarseF p).d:=by
 subst htl;obtain ⟨u,us⟩:=t;simp only [Ph.wt] at hs;refine ev_go (P:=Tryz.prog) tt tt_ok 5000 55 [.cell 2 45] Tryz.func241 rfl Tryz.ntmps241 rfl (nL rfl) (fun E9 w9 hn9 hm9=>?_);refine br (fun h0=>?_) (fun h0=>?_)
 ·have h0:p.ck=0:=of_decide_eq_true h0;refine br (fun h1=>?_) (fun h1=>?_)
  ·have:coarseF p=(19,p.name.a):=by
    simp [pickB_or,dWds_len] at h1;simp only [coarseF,h0,if_true];rw [if_neg];rintro ⟨h2,h3⟩;rcases h1 with h1 | h1
    ·exact h1 h2
    ·simp [h3] at h1
   refine call_p en198 (bad_spec 19 p.name.a) ax rfl ?_;refine ⟨_,?_,rfl⟩;rw [this];exact ax
  ·have hcl:p.cl=[]:=by
    simp [pickB_or,dWds_len] at h1;exact h1.2
   have:coarseF p=(0,0):=by
    simp [pickB_or,dWds_len] at h1;simp [coarseF,h0,h1.1,h1.2]
   have h00:labelF p.cl=(0,0):=by rw [hcl];simp [labelF,badWd]
   refine call_p en240 (klabel_spec p.cl (by omega)) ax rfl ?_;refine ⟨_,?_,rfl⟩;rw [this,<- h00];exact ax
 have h0:¬ p.ck=0:=of_decide_eq_false h0;refine br (fun h1=>?_) (fun h1=>?_)
 ·have h1:p.ck=1:=of_decide_eq_true h1;refine br (fun h2=>?_) (fun h2=>?_)
  ·have:coarseF p=(20,p.ca):=by
    simp [pickB_and] at h2;simp only [coarseF,h0,if_false];rw [if_neg (by omega),if_pos (by omega)]
   refine call_p en198 (bad_spec 20 p.ca) ax rfl ?_;refine ⟨_,?_,rfl⟩;rw [this];exact ax
  ·have:coarseF p=labelF p.cl:=by
    simp [pickB_and] at h2;simp only [coarseF,h0,if_false];rw [if_neg (by omega),if_neg (by omega)]
   refine call_p en240 (klabel_spec p.cl (by omega)) ax rfl ?_;refine ⟨_,?_,rfl⟩;rw [this];exact ax
 have h1:¬ p.ck=1:=of_decide_eq_false h1;refine br (fun h3=>?_) (fun h3=>?_)
 ·have h3:p.ck=2:=of_decide_eq_true h3;refine br (fun h2=>?_) (fun h2=>?_)
  ·have:coarseF p=(20,p.ca):=by
    simp [pickB_and] at h2;simp only [coarseF,h0,if_false];rw [if_neg (by omega),if_pos (by omega)]
   refine call_p en198 (bad_spec 20 p.ca) ax rfl ?_;refine ⟨_,?_,rfl⟩;rw [this];exact ax
  ·have:coarseF p=labelF p.cl:=by
    simp [pickB_and] at h2;simp only [coarseF,h0,if_false];rw [if_neg (by omega),if_neg (by omega)]
   refine call_p en240 (klabel_spec p.cl (by omega)) ax rfl ?_;refine ⟨_,?_,rfl⟩;rw [this];exact ax
 have h3:¬ p.ck=2:=of_decide_eq_false h3;refine br (fun h4=>?_) (fun h4=>?_)
 ·have h4:p.ck=3:=of_decide_eq_true h4;refine br (fun h2=>?_) (fun h2=>?_)
  ·have:coarseF p=(20,p.ca):=by
    simp [pickB_and] at h2;simp only [coarseF,h0,if_false];rw [if_neg (by omega),if_pos (by omega)]
   refine call_p en198 (bad_spec 20 p.ca) ax rfl ?_;refine ⟨_,?_,rfl⟩;rw [this];exact ax
  ·have:coarseF p=labelF p.cl:=by
    simp [pickB_and] at h2;simp only [coarseF,h0,if_false];rw [if_neg (by omega),if_neg (by omega)]
   refine call_p en240 (klabel_spec p.cl (by omega)) ax rfl ?_;refine ⟨_,?_,rfl⟩;rw [this];exact ax
 have h4:¬ p.ck=3:=of_decide_eq_false h4
 have:coarseF p=(14,p.ca):=by
  simp only [coarseF,h0,if_false];rw [if_pos (by omega)]
 refine call_p en198 (bad_spec 14 p.ca) ax rfl ?_;refine ⟨_,?_,rfl⟩;rw [this];exact ax
theorem wd_guard (w:World) (x y:Operand) (vs vs':Array Value):(eqGuard .neq 27 x y (.agg vs) (.agg vs')).run Tryz.prog w = .ok () w:=by
 have h:Tryz.prog.eqGuardType Tryz.prog.depth 27=false:=by kernel_rfl
 simp [eqGuard,run_program,h]
theorem wd_neq (a b:ByteArray) (p q:Int) (w:World):(binOp .neq 27 (.agg #[.string a,.int .i64 p]) (.agg #[.string b,.int .i64 q])).run Tryz.prog w = .ok (.bool (!(decide (a=b) && decide (p=q)))) w:=by
 have hf:Tryz.prog.underlying 27=some (.struct (Tryz.prog.fieldsOf 27)):=by simp [Program.fieldsOf,Tryz.underlying27]
 have hf2:(Tryz.prog.fieldsOf 27).toList=[⟨ "Name",9,0,false, "", "",0⟩,⟨ "At",3,1,false, "", "",16⟩]:=by simp [Program.fieldsOf,Tryz.underlying27]
 have hs:Tryz.prog.stoodInHeld 27=false:=by kernel_rfl
 have hm:∃ d,Op.maxDepth=d + 1 + 1:=⟨Op.maxDepth - 2,by decide⟩;obtain ⟨d,hm⟩:=hm
 have he:(Op.equal 27 (.agg #[.string a,.int .i64 p]) (.agg #[.string b,.int .i64 q])).run Tryz.prog w = .ok (decide (a=b) && decide (p=q)) w:=by
  unfold Op.equal;rw [hm,run_equalIn_struct w (d + 1) 27 _ _ hf hs,hf2]
  have e1:(a.toList == b.toList)=decide (a=b):=by
   rw [ByteArray.toList_eq,ByteArray.toList_eq];by_cases h:a=b
   ·subst h;simp
   ·have:¬ a.data=b.data:=fun e=>h (ByteArray.ext e);simp [h,this]
  have q9:∀ cs:Array Value,∀ off v,cs[off]? = some v->(part 9 cs off).run Tryz.prog w = .ok v w:=fun cs off v h=>by
   simp [part,Tryz.isAgg9,h]
  have q3:∀ cs:Array Value,∀ off v,cs[off]? = some v->(part 3 cs off).run Tryz.prog w = .ok v w:=fun cs off v h=>by
   simp [part,Tryz.isAgg3,h]
  simp only [Op.eqFields,ne_eq,String.reduceEq,not_false_eq_true,if_true,Sem.run_bind,q9 #[.string a,.int .i64 p] 0 (.string a) rfl,q9 #[.string b,.int .i64 q] 0 (.string b) rfl,Result.andThen_ok,run_equalIn_string w d 9 a b Tryz.underlying9,e1];by_cases h:a=b
  ·simp only [h,decide_true,Bool.not_true,Bool.false_eq_true,if_false,Sem.run_bind,q3 #[.string b,.int .i64 p] 1 (.int .i64 p) rfl,q3 #[.string b,.int .i64 q] 1 (.int .i64 q) rfl,Result.andThen_ok,run_equalIn_int w d 3 .i64 .i64 p q Tryz.underlying3];by_cases h2:p=q<;>simp [h2,Sem.run_pure]
  ·simp [h,Sem.run_pure]
 show ((do let r <- Op.equal 27 _ _;pure (Value.bool !r)):Sem Value).run Tryz.prog w=_;simp only [Sem.run_bind,he,Result.andThen_ok,Sem.run_pure]
theorem weq_cmp (x y:Operand) (a b:Wd):AggCmp Tryz.prog .neq x y 27 (dWd a) (dWd b) (!(decide (a.s=b.s) && decide (a.a=b.a))):=
 ⟨[.string a.s,.int .i64 a.a],[.string b.s,.int .i64 b.a],rfl,rfl,fun w=>⟨wd_guard w x y _ _,wd_neq a.s b.s a.a b.a w⟩⟩
def eqWds:List Wd->List Wd->Bool
 | [],[]=>true
 | x :: r,y :: s=>(decide (x.s=y.s) && decide (x.a=y.a)) && eqWds r s
 | _,_=>false
theorem eqWds_len:∀ {a b:List Wd},a.length≠b.length->eqWds a b=false
 | [],[],h=>(h rfl).elim
 | [],_ :: _,_=>rfl
 | _ :: _,[],_=>rfl
 | x :: r,y :: s,h=>by
  simp only [eqWds];rw [eqWds_len (a:=r) (b:=s) (by simpa using h),Bool.and_false]
theorem eqWds_plain:∀ a b:List Wd,eqWds (plainW a) (plainW b)=sameWds a b
 | [],[]=>rfl
 | [],_ :: _=>rfl
 | _ :: _,[]=>rfl
 | x :: r,y :: s=>by
  have:=eqWds_plain r s;simp only [plainW,List.map_cons,eqWds,sameWds] at this ⊢;rw [this];simp
abbrev eqwSt (a b:List Wd) (e:Nat):St:=
 ⟨[(0,⟨[],.sl 2 (dWds a) none⟩),(1,⟨[],.sl 2 (dWds b) none⟩),(12,⟨[],.v (.int .i64 (dWds a).length)⟩),(13,⟨[],.v (.int .i64 e)⟩)],[],[]⟩
theorem equalW_spec (a b:List Wd) (hs:a.length<=1099511627776) :
  EvP Tryz.prog 245 [.sl 2 (dWds a) none,.sl 2 (dWds b) none] (.v (.bool (eqWds a b))):=by
 refine ev_go (P:=Tryz.prog) tt tt_ok 5000 26 [.tmp 4] Tryz.func245 rfl Tryz.ntmps245 rfl (nL rfl) (fun E9 w9 hn9 hm9=>?_);refine br (fun h=>?_) (fun h=>?_)
 ·have hne:a.length≠b.length:=by have:=h;simp [dWds_len] at this;omega
  exact congrArg (fun b=>DV.v (.bool b)) (eqWds_len hne).symm
 ·have hl:a.length=b.length:=by have:=h;simp [dWds_len] at this;omega
  refine loop_i (fun j st=>∃ e:Nat,st=eqwSt a b e/\e<=a.length/\eqWds a b=eqWds (a.drop e) (b.drop e)/\j=a.length - e) a.length
   (eqwSt a b 0) (weak_mk ⟨_,rfl⟩ wA rfl rfl rfl wB) ⟨0,rfl,by omega,rfl,by omega⟩ ?_
  rintro j st ⟨e,rfl,he,heq,rfl⟩;refine br (fun h=>?_) (fun h=>?_)
  ·have hlt:e < a.length:=by simpa [dWds_len] using h
   obtain ⟨x,hx⟩:∃ x,a[e]? = some x:=⟨_,gE hlt⟩;obtain ⟨y,hy⟩:∃ y,b[e]? = some y:=⟨_,gE (hl ▸ hlt)⟩;rw [drop_cons hx,drop_cons hy] at heq;refine drawG_i (fun _=>false) mo (by decide +kernel) ?_;refine ⟨dWd x,⟨by omega,dWds_get hx⟩,dWd y,⟨by omega,dWds_get hy⟩,_,weq_cmp _ _ x y,?_⟩;refine br (fun h=>?_) (fun h=>?_)
   ·have hne:(decide (x.s=y.s) && decide (x.a=y.a))=false:=by
     have h:(!(decide (x.s=y.s) && decide (x.a=y.a)))=true:=h
     revert h
     cases (decide (x.s=y.s) && decide (x.a=y.a))<;>decide
    refine (congrArg (fun b=>DV.v (.bool b)) ?_:_=_);rw [heq];simp only [eqWds,hne,Bool.false_and]
   ·have hne:(decide (x.s=y.s) && decide (x.a=y.a))=true:=by
     have h:(!(decide (x.s=y.s) && decide (x.a=y.a)))=false:=h
     revert h
     cases (decide (x.s=y.s) && decide (x.a=y.a))<;>decide
    refine ⟨eqwSt a b (e + 1),(weak_mk ⟨_,rfl⟩ wA rfl rfl rfl (wNB hlt)),a.length - (e + 1),by omega,e + 1,rfl,by omega,?_,rfl⟩;rw [heq];simp only [eqWds,hne,Bool.true_and]
  ·have hge:e=a.length:=by have:=h;simp [dWds_len] at this;omega
   refine (congrArg (fun b=>DV.v (.bool b)) ?_:_=_);rw [heq,hge,hl];simp [eqWds];rw [<- hl];simp [eqWds]
theorem sameWords_spec (a b:List Wd) (ha:wdsWt a<=1099511627776) (hb:wdsWt b<=1099511627776) :
  EvP Tryz.prog 243 [.sl 2 (dWds a) none,.sl 2 (dWds b) none] (.v (.bool (sameWds a b))):=by
 have hl:=wdsWt_len a;refine ev_go (P:=Tryz.prog) tt tt_ok 5000 10 [.tmp 4] Tryz.func243 rfl Tryz.ntmps243 rfl (nL rfl) (fun E9 w9 hn9 hm9=>?_);refine call_p en246 (words_spec a ha) ax rfl ?_;refine call_p en246 (words_spec b hb) ax rfl ?_;refine call_p en245 (equalW_spec (plainW a) (plainW b) (by simp [plainW];omega)) ax rfl ?_;refine (congrArg (fun b=>DV.v (.bool b)) ?_:_=_);exact eqWds_plain a b
def eqPts (F:Ph->Ty->Ph->Ty->Bool):Pts->Pts->Bool
 | .nil,.nil=>true
 | .cons p t r,.cons q u s=>F p t q u && eqPts F r s
 | _,_=>false
theorem eqPts_len {F:Ph->Ty->Ph->Ty->Bool}:∀ {a b:Pts},a.len≠b.len->eqPts F a b=false
 | .nil,.nil,h=>(h rfl).elim
 | .cons p t r,.cons q u s,h=>by
  simp only [eqPts];rw [eqPts_len (a:=r) (b:=s) (by simpa [Pts.len] using h),Bool.and_false]
 | .nil,.cons _ _ _,_=>rfl
 | .cons _ _ _,.nil,_=>rfl
def samePartB (p:Ph) (t:Ty) (q:Ph) (u:Ty):Bool:=decide (p.name.s=q.name.s) && plainP p q && sameTy t u
theorem eqPts_same:∀ a b:Pts,eqPts samePartB a b=samePts a b
 | .nil,.nil=>by simp [eqPts,samePts]
 | .cons p t r,.cons q u s=>by simp only [eqPts,samePts,samePartB,eqPts_same r s]
 | .nil,.cons _ _ _=>by simp [eqPts,samePts]
 | .cons _ _ _,.nil=>by simp [eqPts,samePts]
abbrev eqpSt (a b:Pts) (g e:Nat):St:=
 ⟨[(1,⟨[],.sl 18 (dPts b) none⟩),(2,⟨[],.fn g [] []⟩),(15,⟨[],.sl 18 (dPts a) none⟩),(16,⟨[],.v (.int .i64 (dPts a).length)⟩),(17,⟨[],.v (.int .i64 e)⟩)],[],[]⟩
theorem equalP_spec (g:Nat) (hen:Enters Tryz.prog g) (F:Ph->Ty->Ph->Ty->Bool) (a b:Pts) (hs:a.wt<=1099511627776)
  (hF:∀ (e:Nat) p t q u,a.toList[e]? = some (p,t)->b.toList[e]? = some (q,u)->EvP Tryz.prog g [.agg (dPh p (dTy t)),.agg (dPh q (dTy u))] (.v (.bool (F p t q u)))) :
  EvP Tryz.prog 247 [.sl 18 (dPts a) none,.sl 18 (dPts b) none,.fn g [] []] (.v (.bool (eqPts F a b))):=by
 have hal:=a.wt_len;refine ev_go (P:=Tryz.prog) tt tt_ok 5000 32 [.tmp 6] Tryz.func247 rfl Tryz.ntmps247 rfl (nL rfl) (fun E9 w9 hn9 hm9=>?_);refine br (fun h=>?_) (fun h=>?_)
 ·have hne:a.len≠b.len:=by have:=h;simp [dPts_len] at this;omega
  exact congrArg (fun b=>DV.v (.bool b)) (eqPts_len hne).symm
 ·have hl:a.len=b.len:=by have:=h;simp [dPts_len] at this;omega
  refine loop_i (fun j st=>∃ e:Nat,st=eqpSt a b g e/\e<=a.len/\eqPts F a b=eqPts F (a.drop e) (b.drop e)/\j=a.len - e) a.len
   (eqpSt a b g 0) (weak_mk ⟨_,rfl⟩ wA rfl rfl rfl wB) ⟨0,rfl,by omega,rfl,by omega⟩ ?_
  rintro j st ⟨e,rfl,he,heq,rfl⟩;refine br (fun h=>?_) (fun h=>?_)
  ·have hlt:e < a.len:=by simpa [dPts_len] using h
   obtain ⟨p,t,hx⟩:=Pts.get_lt hlt;obtain ⟨q,u,hy⟩:=Pts.get_lt (hl ▸ hlt);rw [Pts.drop_cons hx,Pts.drop_cons hy] at heq;have hev:=hF e p t q u hx hy;obtain ⟨t,ts⟩:=t;obtain ⟨u,us⟩:=u;refine ⟨_,⟨by omega,dPts_get hx⟩,?_⟩;refine ⟨_,⟨by omega,dPts_get hy⟩,?_⟩;refine call_p hen hev ax rfl ?_;refine br (fun h=>?_) (fun h=>?_)
   ·have hne:F p (.mk t ts) q (.mk u us)=false:=by simpa using h
    refine (congrArg (fun b=>DV.v (.bool b)) ?_:_=_);rw [heq];simp only [eqPts,hne,Bool.false_and]
   ·have hne:F p (.mk t ts) q (.mk u us)=true:=by simpa using h
    refine ⟨eqpSt a b g (e + 1),(weak_mk ⟨_,rfl⟩ wA rfl rfl rfl (wNB hlt)),a.len - (e + 1),by omega,e + 1,rfl,by omega,?_,rfl⟩;rw [heq];simp only [eqPts,hne,Bool.true_and]
  ·have hge:e=a.len:=by have:=h;simp [dPts_len] at this;omega
   refine (congrArg (fun b=>DV.v (.bool b)) ?_:_=_);rw [heq,hge,Pts.drop_len,hl,Pts.drop_len];simp [eqPts]
theorem samePart_of (p q:Ph) (t u:Ty) (hp:p.wt<=1099511627776) (hq:q.wt<=1099511627776)
  (ht:EvP Tryz.prog 244 [.agg (dTy t),.agg (dTy u)] (.v (.bool (sameTy t u)))) :
  EvP Tryz.prog 239 [.agg (dPh p (dTy t)),.agg (dPh q (dTy u))] (.v (.bool (samePartB p t q u))):=by
 simp only [Ph.wt] at hp hq;obtain ⟨th,tps⟩:=t;obtain ⟨uh,ups⟩:=u;refine ev_go (P:=Tryz.prog) tt tt_ok 5000 71 [.tmp 4] Tryz.func239 rfl Tryz.ntmps239 rfl (nL rfl) (fun E9 w9 hn9 hm9=>?_)
 have e0:samePartB p (.mk th tps) q (.mk uh ups)=(((decide (p.name.s=q.name.s) && (p.bare == q.bare)) && decide (p.wide=q.wide)) && sameWds p.label q.label && ((decide (p.ck=q.ck) && decide (p.cn=q.cn)) && sameWds p.cl q.cl) && sameTy (.mk th tps) (.mk uh ups)):=by
  simp only [samePartB,plainP,Bool.and_assoc]
 rw [e0];refine br (fun hA=>?_) (fun hA=>?_)
 ·simp only [pickB_and] at hA;refine call_p en243 (sameWords_spec p.label q.label (by omega) (by omega)) ax rfl ?_;refine br (fun hB=>?_) (fun hB=>?_)
  ·simp only [pickB_and] at hB;refine call_p en243 (sameWords_spec p.cl q.cl (by omega) (by omega)) ax rfl ?_;refine br (fun hC=>?_) (fun hC=>?_)
   ·refine call_p en244 (ht) ax rfl ?_;refine (congrArg (fun b=>DV.v (.bool b)) ?_:_=_);simp only [pickB_and,Bool.true_and,Bool.and_true] at hC ⊢
    simp_all
   ·refine (congrArg (fun b=>DV.v (.bool b)) ?_:_=_);simp only [pickB_and,Bool.true_and,Bool.and_true] at hC ⊢
    simp_all
  ·simp only [pickB_and] at hB;refine br (fun hC=>?_) (fun hC=>?_)
   ·exfalso;simp [pickB_and] at hC
   ·refine (congrArg (fun b=>DV.v (.bool b)) ?_:_=_)
    simp_all
 ·simp only [pickB_and,beq_true] at hA;refine br (fun hB=>?_) (fun hB=>?_)
  ·refine call_p en243 (sameWords_spec p.cl q.cl (by omega) (by omega)) ax rfl ?_;refine (congrArg (fun b=>DV.v (.bool b)) ?_:_=_);rw [hA];rfl
  ·refine (congrArg (fun b=>DV.v (.bool b)) ?_:_=_);rw [hA];rfl
theorem ksame_any:∀ (n:Nat) (a b:Ty),a.wt<=n->a.wt<=1099511627776->b.wt<=1099511627776 ->
  EvP Tryz.prog 244 [.agg (dTy a),.agg (dTy b)] (.v (.bool (sameTy a b)))
 | 0,a,b,hn,_,_=>by have:=a.wt_pos;omega
 | n + 1,.mk h ps,.mk k qs,hn,hbig,hbig2=>by
  have ih:=ksame_any n;simp only [Ty.wt,Hd.wt] at hn hbig hbig2
  have hE:EvP Tryz.prog 247 [.sl 18 (dPts ps) none,.sl 18 (dPts qs) none,.fn 239 [] []] (.v (.bool (samePts ps qs))):=by
   rw [<- eqPts_same];refine equalP_spec 239 en239 samePartB ps qs (by omega) fun e p t q u hx hy=>?_;have hw1:=Pts.wt_mem (mG hx);have hw2:=Pts.wt_mem (mG hy);exact samePart_of p q t u (by omega) (by omega) (ih t u (by omega) (by omega) (by omega))
  refine ev_go (P:=Tryz.prog) tt tt_ok 5000 53 [.tmp 4] Tryz.func244 rfl Tryz.ntmps244 rfl (nL rfl) (fun E9 w9 hn9 hm9=>?_);refine br (fun hA=>?_) (fun hA=>?_)
  ·simp [pickB_or] at hA;obtain ⟨⟨⟨⟨e1,e2⟩,e3⟩,e4⟩,e5⟩:=hA;refine call_p en243 (sameWords_spec h.names k.names (by omega) (by omega)) ax rfl ?_;refine br (fun hB=>?_) (fun hB=>?_)
   ·refine (congrArg (fun b=>DV.v (.bool b)) ?_:_=_);simp [pickB_or,e1,e2,e3,e4,e5] at hB;simp [sameTy,sameHd,hB]
   ·simp [pickB_or,e1,e2,e3,e4,e5] at hB;refine call_p en247 (hE) ax rfl ?_;refine (congrArg (fun b=>DV.v (.bool b)) ?_:_=_);simp [sameTy,sameHd,e1,e2,e3,e4,e5,hB]
  ·refine (congrArg (fun b=>DV.v (.bool b)) ?_:_=_);simp [pickB_or] at hA;simp only [sameTy,sameHd]
   grind
theorem ksame_spec (a b:Ty) (ha:a.wt<=1099511627776) (hb:b.wt<=1099511627776):EvP Tryz.prog 244 [.agg (dTy a),.agg (dTy b)] (.v (.bool (sameTy a b))):=ksame_any _ a b (Nat.le_refl _) ha hb
def ownF (h:Hd) (ps:Pts):Bool:=
 (((((decide (h.kind=2) || (decide (h.lo=0) && decide (h.hi=0))) && ((decide (h.kind=3) || decide (h.kind=5)) || decide (h.most=0))) && (decide (ps.len=0) || (decide (5<=h.kind) && decide (h.kind<=8)))) &&
  (decide (h.names.length=0) || decide (h.kind=4))) && (decide (h.name.s=emptyB) || decide (h.kind=9)))
theorem kown_spec (h:Hd) (ps:Pts):EvP Tryz.prog 199 [.agg (dTy (.mk h ps))] (.v (.bool (ownF h ps))):=by
 have l1:(((dPts ps).length:Int)=0)=(ps.len=0):=by rw [dPts_len];exact propext (by omega)
 have l2:(((dWds h.names).length:Int)=0)=(h.names.length=0):=by rw [dWds_len];exact propext (by omega)
 have he:(⟨#[]⟩:ByteArray)=emptyB:=rfl;refine ev_go (P:=Tryz.prog) tt tt_ok 5000 67 [.tmp 2] Tryz.func199 rfl Tryz.ntmps199 rfl (nL rfl) (fun E9 w9 hn9 hm9=>?_);refine br (fun k2=>?_) (fun k2=>?_)
 ·have k2:h.kind=2:=of_decide_eq_true k2;refine (congrArg (fun b=>DV.v (.bool b)) ?_:_=_);rw [Bool.eq_iff_iff];simp [pickB_and,pickB_or,ownF,dPts_len,dWds_len,k2,he]
 have k2:¬ h.kind=2:=of_decide_eq_false k2;refine br (fun k3=>?_) (fun k3=>?_)
 ·have k3:h.kind=3:=of_decide_eq_true k3;refine br (fun _=>?_) (fun hf=>?_)
  ·refine (congrArg (fun b=>DV.v (.bool b)) ?_:_=_);rw [Bool.eq_iff_iff];simp [pickB_and,pickB_or,ownF,dPts_len,dWds_len,k3,he]
  ·exact absurd k3 (of_decide_eq_false hf)
 have k3:¬ h.kind=3:=of_decide_eq_false k3;refine br (fun k5=>?_) (fun k5=>?_)
 ·have k5:h.kind=5:=of_decide_eq_true k5;refine (congrArg (fun b=>DV.v (.bool b)) ?_:_=_);rw [Bool.eq_iff_iff];simp [pickB_and,pickB_or,ownF,dPts_len,dWds_len,k5,he]
 have k5:¬ h.kind=5:=of_decide_eq_false k5;refine (congrArg (fun b=>DV.v (.bool b)) ?_:_=_);rw [Bool.eq_iff_iff];simp [pickB_and,pickB_or,ownF,dPts_len,dWds_len,k2,k3,k5,he]
theorem samePts_refl:∀ ps:Pts,samePts ps ps=true:=by
 have wr:∀ l:List Wd,sameWds l l=true:=by
  intro l
  induction l with
  | nil=>rfl
  | cons x r ih=>simp [sameWds,ih]
 have key:∀ n,(∀ t:Ty,t.wt<=n->sameTy t t=true)/\(∀ ps:Pts,ps.wt<=n->samePts ps ps=true):=by
  intro n
  induction n using Nat.strongRecOn with
  | _ n ih=>
   have hp:∀ ps:Pts,ps.wt<=n->(∀ t:Ty,t.wt + 256<=n->sameTy t t=true)->samePts ps ps=true:=by
    intro ps
    induction ps using Pts.rec (motive_1:=fun _=>True) with
    | mk=>trivial
    | nil=>intros;simp [samePts]
    | cons p t r _ ihr=>
     intro hw ht;simp only [Pts.wt,Ph.wt] at hw;simp only [samePts];rw [ht t (by omega),ihr (by omega) ht];simp [plainP,wr]
   refine ⟨fun t ht=>?_,fun ps hps=>?_⟩
   ·obtain ⟨h,ps⟩:=t;simp only [Ty.wt,Hd.wt] at ht;simp only [sameTy,sameHd];rw [(ih ps.wt (by omega)).2 ps (Nat.le_refl _),wr];simp
   ·exact hp ps hps fun t ht=>(ih t.wt (by omega)).1 t (Nat.le_refl _)
 exact fun ps=>(key ps.wt).2 ps (Nat.le_refl _)
theorem ownF_eq (h:Hd) (ps:Pts):ownF h ps=sameTy (.mk h ps) (mask (.mk h ps)):=by
 have wr:∀ l:List Wd,sameWds l l=true:=by
  intro l
  induction l with
  | nil=>rfl
  | cons x r ih=>simp [sameWds,ih]
 have wn:∀ l:List Wd,sameWds l []=decide (l.length=0):=by
  intro l;cases l<;>simp [sameWds]
 have pn:∀ l:Pts,samePts l .nil=decide (l.len=0):=by
  intro l;cases l<;>simp [samePts,Pts.len]
 have pr:=samePts_refl ps;simp only [mask,sameTy,sameHd,maskHd]
 have e5:samePts ps (if 4 < h.kind/\h.kind < 9 then ps else .nil)=(decide (ps.len=0) || (decide (5<=h.kind) && decide (h.kind<=8))):=by
  split
  ·rename_i hc;rw [pr,decide_eq_true (by omega:5<=h.kind),decide_eq_true (by omega:h.kind<=8)];simp
  ·rename_i hc;rw [pn,Bool.eq_iff_iff];simp;omega
 have e6:sameWds h.names (if h.kind=4 then h.names else [])=(decide (h.names.length=0) || decide (h.kind=4)):=by
  split
  ·rename_i hc;rw [wr];simp [hc]
  ·rename_i hc;rw [wn];simp [hc]
 rw [e5,e6];unfold ownF;by_cases k2:h.kind=2
 ·rw [Bool.eq_iff_iff];simp [k2];grind
 ·by_cases k3:h.kind=3∨h.kind=5
  ·by_cases k9:h.kind=9
   ·omega
   ·rw [Bool.eq_iff_iff];simp [k2,k3,k9];grind
  ·by_cases k9:h.kind=9
   ·rw [Bool.eq_iff_iff];simp [k9];grind
   ·rw [Bool.eq_iff_iff];simp [k2,k3,k9];grind
theorem kempty_spec (p:Ph) (t:Ty) (hp:p.wt<=1099511627776):EvP Tryz.prog 232 [.agg (dPh p (dTy t))] (.v (.bool (samePartB p zeroTy zeroPh zeroTy))):=by
 obtain ⟨th,tps⟩:=t;refine ev_go (P:=Tryz.prog) tt tt_ok 5000 8 [.tmp 2] Tryz.func232 rfl Tryz.ntmps232 rfl (nL rfl) (fun E9 w9 hn9 hm9=>?_);refine call_p en239 (samePart_of p zeroPh zeroTy zeroTy hp (by decide) (ksame_spec zeroTy zeroTy (by decide) (by decide))) ax rfl ?_;exact (rfl:_=_)
def nmTx (l:List Wd):List ByteArray:=l.map fun w=>w.s
noncomputable def enumP (l:List Wd):Nat->Ft
 | 0=>(0,0)
 | e + 1=>
  if (enumP l e).1≠0 then enumP l e
  else match l[e]? with
   | some w=>listedP (nmTx (l.take (e + 1))) w.s w.a
   | none=>(0,0)
theorem enumP_stay {l:List Wd} {e:Nat} (h:(enumP l e).1≠0):∀ d,enumP l (e + d)=enumP l e
 | 0=>rfl
 | d + 1=>by
  have ih:=enumP_stay h d;rw [<- Nat.add_assoc,enumP,ih,if_pos h]
theorem listedP_zero {L:List ByteArray} {x:ByteArray} {a:Int} (h:(listedP L x a).1=0):listedP L x a=(0,0):=by
 unfold listedP at *;split
 ·rename_i h1;rw [if_pos h1] at h;split
  ·rfl
  ·rename_i h2;rw [if_neg h2] at h;simp at h
 ·rename_i h1;rw [if_neg h1] at h;simp at h
theorem enumP_zero {l:List Wd}:∀ {e:Nat},(enumP l e).1=0->enumP l e=(0,0)
 | 0,_=>rfl
 | e + 1,h=>by
  rw [enumP] at h ⊢;split
  ·rename_i h1;rw [if_pos h1] at h;exact absurd h h1
  ·rename_i h1;rw [if_neg h1] at h;split
   ·rename_i w hw;rw [hw] at h;exact listedP_zero h
   ·rfl
theorem enumP_step {l:List Wd} {e:Nat} {w:Wd} (h:(enumP l e).1=0) (hw:l[e]? = some w):enumP l (e + 1)=listedP (nmTx (l.take (e + 1))) w.s w.a:=by
 rw [enumP,if_neg (by rw [h];simp),hw]
noncomputable def kenumF (h:Hd):Ft:=
 if h.names.length=0 then (15,h.at') else if 64 < h.names.length then (8,((h.names[64]?).getD (⟨emptyB,0⟩:Wd)).a) else enumP h.names h.names.length
abbrev enumSt (h:Hd) (ps:Pts) (n e:Nat):St:=
 ⟨[(1,⟨[],.loc 0 0⟩),(2,⟨[],.loc 1 0⟩),(27,⟨[],.sl 2 (dWds h.names) none⟩),(28,⟨[],.v (.int .i64 (dWds h.names).length)⟩),(29,⟨[],.v (.int .i64 e)⟩),(3,⟨[],.sl 1 (dBs (nmTx (h.names.take e))) (some 0)⟩)],
  [dTy (.mk h ps),[.v (.int .i64 0),.v (.int .i64 0)]],[⟨n,9,1,none⟩]⟩
theorem nmTx_snoc {l:List Wd} {e:Nat} {w:Wd} (h:l[e]? = some w):dBs (nmTx (l.take e)) ++ [[DV.v (.string w.s)]]=dBs (nmTx (l.take (e + 1))):=by
 rw [List.take_add_one,h];simp [dBs,nmTx]
theorem kenum_spec (h:Hd) (ps:Pts) (hs:wdsWt h.names<=1099511627776):EvP Tryz.prog 200 [.agg (dTy (.mk h ps))] (kenumF h).d:=by
 have hl:=wdsWt_len h.names;refine ev_go (P:=Tryz.prog) tt tt_ok 5000 48 [.cell 2 45] Tryz.func200 rfl Tryz.ntmps200 rfl (nL rfl) (fun E9 w9 hn9 hm9=>?_);refine br (fun h0=>?_) (fun h0=>?_)
 ·have h0:h.names.length=0:=by have:=h0;simp [dWds_len] at this;simp [this]
  refine call_p en198 (bad_spec 15 h.at') ax rfl ?_;refine ⟨_,?_,rfl⟩;rw [kenumF,if_pos h0];exact ax
 have h0:¬ h.names.length=0:=by have:=h0;simp [dWds_len] at this;simpa using this
 refine br (fun h1=>?_) (fun h1=>?_)
 ·have h1:64 < h.names.length:=by have:=h1;simp [dWds_len] at this;omega
  obtain ⟨x,hx⟩:∃ x,h.names[64]? = some x:=⟨_,gE h1⟩;refine ⟨dWd x,⟨by omega,dWds_get hx⟩,?_⟩;refine call_p en198 (bad_spec 8 x.a) ax rfl ?_;refine ⟨_,?_,rfl⟩;rw [kenumF,if_neg h0,if_pos h1,hx];exact ax
 have h1:¬ 64 < h.names.length:=by have:=h1;simp [dWds_len] at this;omega
 have hk:kenumF h=enumP h.names h.names.length:=by rw [kenumF,if_neg h0,if_neg h1]
 rw [hk];refine loop_i (fun j st=>∃ e:Nat,st=enumSt h ps e e/\e<=h.names.length/\(enumP h.names e).1=0/\j=h.names.length - e) h.names.length (enumSt h ps 0 0) (weak_tok ⟨0,9,1,none⟩ rfl ⟨_,rfl⟩ rfl wA rfl rfl wTB) ⟨0,rfl,by omega,rfl,by omega⟩ ?_;rintro j st ⟨e,rfl,he,hz,rfl⟩;refine br (fun hL=>?_) (fun hL=>?_)
 ·have hlt:e < h.names.length:=by simpa [dWds_len] using hL
  obtain ⟨w,hw⟩:∃ w,h.names[e]? = some w:=⟨_,gE hlt⟩;have hws:=wdsWt_mem (mG hw);have hstep:=enumP_step hz hw
  have hlast:(nmTx (h.names.take (e + 1)))[(nmTx (h.names.take (e + 1))).length - 1]? = some w.s:=by
   have hl1:(nmTx (h.names.take (e + 1))).length=e + 1:=by simp [nmTx];omega
   rw [hl1];simp [nmTx,hw]
  refine ⟨dWd w,⟨by omega,dWds_get hw⟩,?_⟩;refine ⟨by simp [dBs_len,nmTx];omega,⟨by simp [dBs_len,nmTx,maxLen];omega,by simp [dBs_len,nmTx];omega⟩,?_⟩;have hsn:=nmTx_snoc hw;have hsp:=listed_spec (nmTx (h.names.take (e + 1))) w.s w.a hlast (by simp [nmTx];omega) (by omega);rw [<- hsn,<- hstep] at hsp;refine call_p en231 (hsp) ax rfl ?_;refine br (fun hf=>?_) (fun hf=>?_)
  ·have hf:(enumP h.names (e + 1)).1≠0:=by simpa using hf
   refine ⟨_,?_,rfl⟩;have hst:=enumP_stay hf (h.names.length - (e + 1));rw [show e + 1 + (h.names.length - (e + 1))=h.names.length by omega] at hst;rw [hst];exact ax
  ·have hf:(enumP h.names (e + 1)).1=0:=by simpa using hf
   refine ⟨enumSt h ps (e + 1) (e + 1),(weak_mk ⟨_,rfl⟩ wA rfl rfl rfl (wSB hlt hsn)),h.names.length - (e + 1),by omega,e + 1,rfl,by omega,hf,rfl⟩
 ·have hge:e=h.names.length:=by
   have:=hL;simp [dWds_len] at this;omega
  subst hge;have hst:=enumP_zero hz;refine ⟨_,?_,rfl⟩;rw [hst];exact ax
def ChkΦ (t:Ty) (depth m:Int) (r:DV) (os:List (List DV)) (_:List TkE):Prop:=
 r=(wrong t depth m).1.d/\∃ z:Int,os=[[.v (.int .i64 z)]]/\((wrong t depth m).1.1=0->z=(wrong t depth m).2)
theorem chk_cl {t:Ty} {depth m:Int}:∀ r os tk,ChkΦ t depth m r os tk->clB 0 0 r=true/\∀ cs2∈os,clB.clL 0 0 cs2=true:=by
 rintro r os tk ⟨rfl,z,rfl,_⟩;refine ⟨rfl,fun cs2 h=>?_⟩;simp only [List.mem_singleton] at h;subst h;rfl
theorem kright_of (t:Ty) (hc:Ev Tryz.prog 160 [.loc 0 0,.agg (dTy t),.v (.int .i64 1)] [[.v (.int .i64 0)]] [] (ChkΦ t 1 0)) :
  EvP Tryz.prog 96 [.agg (dTy t)] (wrong t 1 0).1.d:=by
 obtain ⟨h,ps⟩:=t;refine ev_go (P:=Tryz.prog) tt tt_ok 5000 9 [.cell 2 45] Tryz.func96 rfl Tryz.ntmps96 rfl (nL rfl) (fun E9 w9 hn9 hm9=>?_);refine call_o en160 rfl rfl ax ax hc chk_cl (fun r cs2 hr=>?_);obtain ⟨rfl,z,hz,_⟩:=hr;simp only [List.cons.injEq,and_true] at hz;subst hz;exact ⟨_,ax,rfl⟩
theorem wr (z:Int) (h1 : -9223372036854775808<=z) (h2:z<=9223372036854775807):IntKind.i64.wrap z=z:=by
 rw [IntKind.wrap_i64];omega
end Go.Proofs.YtadhpeooehkklaaGreat
set_option maxRecDepth 100000
namespace Go.Proofs.YtadhpeooehkklaaGreat
open Go Go.RowKit Dv Tryz
end Go.Proofs.YtadhpeooehkklaaGreat
set_option maxRecDepth 100000
namespace Go.Proofs.YtadhpeooehkklaaGreat
open Go Go.RowKit Dv Tryz
def I64 (z:Int):Prop:=-9223372036854775808<=z/\z<=9223372036854775807
end Go.Proofs.YtadhpeooehkklaaGreat
set_option maxRecDepth 100000
namespace Go.Proofs.YtadhpeooehkklaaGreat
open Go Go.RowKit Dv Tryz
end Go.Proofs.YtadhpeooehkklaaGreat
set_option maxRecDepth 100000
namespace Go.Proofs.YtadhpeooehkklaaGreat
open Go Go.RowKit Dv Tryz
end Go.Proofs.YtadhpeooehkklaaGreat
set_option maxRecDepth 100000
namespace Go.Proofs.YtadhpeooehkklaaGreat
open Go Go.RowKit Dv Tryz
end Go.Proofs.YtadhpeooehkklaaGreat
set_option maxRecDepth 100000
namespace Go.Proofs
open Go.Shelf
end Go.Proofs
namespace Go.Proofs.YtadhpeooehkklaaGreat
open Go Go.RowKit Dv Tryz
end Go.Proofs.YtadhpeooehkklaaGreat
set_option maxRecDepth 100000
namespace Go.Proofs.YtadhpeooehkklaaGreat
open Go Go.RowKit Dv Tryz
end Go.Proofs.YtadhpeooehkklaaGreat
set_option maxRecDepth 100000
namespace Go.Proofs.YtadhpeooehkklaaGreat
open Go Go.RowKit Dv Tryz
end Go.Proofs.YtadhpeooehkklaaGreat
set_option maxRecDepth 100000
namespace Go.Proofs.YtadhpeooehkklaaGreat
open Go Go.RowKit Dv Tryz
end Go.Proofs.YtadhpeooehkklaaGreat
set_option maxRecDepth 100000
namespace Go.Proofs.YtadhpeooehkklaaGreat
open Go Go.RowKit Dv Tryz
mutual
def rngT:Ty->Prop
 | .mk h ps=>I64 h.lo/\I64 h.hi/\I64 h.most/\rngP ps
def rngP:Pts->Prop
 | .nil=>True
 | .cons p t r=>I64 p.wide/\I64 p.cn/\rngT t/\rngP r
end
end Go.Proofs.YtadhpeooehkklaaGreat
namespace Go.Proofs.YtadhpeooehkklaaGreat
namespace Dv
open Go Go.RowKit
def TypFs (f:TypeId->List DV->Prop):List TypeId->List DV->Prop
 | [],ds=>ds=[]
 | t :: r,ds=>∃ a b,ds=a ++ b/\f t a/\TypFs f r b
def Typ (P:Program):Nat->TypeId->List DV->Prop
 | 0,_,_=>False
 | n + 1,t,ds=>
  match P.underlying t with
  | some .bool=>∃ b,ds=[.v (.bool b)]
  | some (.int k)=>∃ z,ds=[.v (.int k z)]/\(Lit.int k z).wf=true
  | some .string=>∃ s:ByteArray,ds=[.v (.string s)]
  | some (.slice e)=>∃ es,ds=[.sl (P.cellsOf e) es none]/\∀ cs∈es,Typ P n e cs
  | some (.struct fs)=>TypFs (Typ P n) (fs.toList.map (·.type)) ds
  | _=>False
mutual
def wgD:DV->Nat
 | .v (.string s)=>s.size + 64
 | .sl _ es _=>64 + wgEs es
 | _=>64
def wgL:List DV->Nat
 | []=>0
 | d :: r=>wgD d + wgL r
def wgEs:List (List DV)->Nat
 | []=>0
 | cs :: r=>wgL cs + wgEs r
end
theorem wgL_append:∀ a b:List DV,wgL (a ++ b)=wgL a + wgL b
 | [],b=>by simp [wgL]
 | d :: r,b=>by simp only [List.cons_append,wgL,wgL_append r b];omega
def laidF (P:Program) (S:List TypeId):Nat->List Field->Nat->Bool
 | off,[],n=>decide (off=n)
 | off,f :: r,n=>decide (f.offset=off) && S.contains f.type && laidF P S (off + P.cellsOf f.type) r n
def flatOK (P:Program) (S:List TypeId) (t:TypeId):Bool:=
 match P.underlying t with
 | some .bool=>decide (P.cellsOf t=1)
 | some (.int _)=>decide (P.cellsOf t=1)
 | some .string=>decide (P.cellsOf t=1)
 | some (.slice e)=>decide (P.cellsOf t=1) && S.contains e && decide (0 < P.cellsOf e)
 | some (.struct fs)=>laidF P S 0 fs.toList (P.cellsOf t)
 | _=>false
def bkS {H:Type} (bk:DataW H->Nat):List (DataW H)->Nat
 | []=>0
 | d :: r=>bk d + bkS bk r
structure Bk {H:Type} (bk:DataW H->Nat):Prop where
 str:∀ l:List UInt8,l.length + 1<=bk (.lit (.string l))
 lit:∀ l,1<=bk (.lit l)
 nil:1<=bk .nil
 slice:∀ es sp,1 + bkS bk es<=bk (.slice es sp)
 agg:∀ l,bkS bk l<=bk (.agg l)
def enW (w:World):En:=⟨fun a=>w.cell? a,[],[],[]⟩
theorem enW_env (w:World):Env (enW w) [] w where
 len:=rfl
 tl:=rfl
 bxs:=by simp
 inj:=List.nodup_nil
 sub:=fun x u hx=>hx
 pc:=by simp [enW]
 tks:=by simp [enW]
 tkd:=by simp [enW]
theorem cell_spot {w:World} {a:Addr} {k:Nat} {v:Value} (h:w.cell? (a.add k)=some v):w.cell? ⟨a.block,a.off + k,none⟩=some v:=by
 unfold Addr.add at h;split at h
 ·rename_i hk;subst hk;unfold World.cell? at h ⊢;split at h
  ·rename_i c e z he;split at h
   ·cases h
   ·simpa [he] using h
  ·cases h
 ·exact h
theorem spot_none {w:World} {a:Addr} {v:Value} (h:w.cell? a=some v):a.spot=none:=by
 unfold World.cell? at h;split at h
 ·split at h
  ·cases h
  ·rename_i hs;simpa using hs
 ·cases h
theorem rvAt_cells {E:En} {b:Nat}:∀ {p:Nat} {ds:List DV} {vs:List Value},RvL E.cl ds vs->(∀ (j:Nat) v,vs[j]? = some v->E.c ⟨b,p + j,none⟩=some v/\v.oneCell'=true)->RvAt E.cl b p ds
 | p,[],vs,h,hc=>by simp only [RvAt]
 | p,d :: r,vs,h,hc=>by
  simp only [RvL] at h;obtain ⟨v,s,rfl,h1,h2⟩:=h;simp only [RvAt];obtain ⟨c1,c2⟩:=hc 0 v rfl;refine ⟨⟨v,c1,c2,h1⟩,rvAt_cells (p:=p + 1) h2 fun j u hj=>?_⟩;have:=hc (j + 1) u hj;rw [show p + 1 + j=p + (j + 1) by omega];exact this
section
variable {H:Type} {enc:TypeId × Value->H} {P:Program} {w:World} {sp:Nat->Bool} {held:Bool} {S:List TypeId} {bk:DataW H->Nat}
def Rd (enc:TypeId × Value->H) (P:Program) (w:World) (bk:DataW H->Nat) (n:Nat) (t:TypeId) (cs:List Value) (d:DataW H):Prop:=
 ∃ ds,RvL (enW w) ds cs/\(∀ v∈cs,v.oneCell'=true)/\Typ P n t ds/\wgL ds<=64 * bk d/\cs.length=P.cellsOf t
theorem rd_fields {n:Nat} (ih:∀ t cs x,t∈S->DataW.trod enc P w 0 sp held n t cs=some x->Rd enc P w bk n t cs x.1) (cs:List Value) :
  ∀ (fs:List Field) (off:Nat) (xs:List (DataW H × List MemPlace)),laidF P S off fs cs.length=true->xs.length=fs.length ->
   (∀ (i:Nat) f,fs[i]? = some f->DataW.trod enc P w 0 sp held n f.type ((cs.drop f.offset).take (P.cellsOf f.type))=xs[i]?) ->
   ∃ ds,RvL (enW w) ds (cs.drop off)/\(∀ v∈cs.drop off,v.oneCell'=true)/\TypFs (Typ P n) (fs.map (·.type)) ds/\wgL ds<=64 * bkS bk (xs.map (·.1))
 | [],off,xs,hl,hxl,hx=>by
  simp only [laidF,decide_eq_true_eq] at hl;subst hl;simp only [List.length_nil,List.length_eq_zero_iff] at hxl;subst hxl;exact ⟨[],by simpa using rvL_nil _,by simp,by simp [TypFs],by simp [wgL]⟩
 | f :: r,off,xs,hl,hxl,hx=>by
  simp only [laidF,Bool.and_eq_true,decide_eq_true_eq] at hl;obtain ⟨⟨hof,hS⟩,hl⟩:=hl
  match xs,hxl with
  | x :: xs,hxl=>
   have h0:=hx 0 f rfl;rw [hof] at h0;simp only [List.getElem?_cons_zero] at h0;obtain ⟨ds0,r1,r2,r3,r4,r5⟩:=ih f.type _ x (by simpa using hS) h0;obtain ⟨ds1,s1,s2,s3,s4⟩:=rd_fields ih cs r (off + P.cellsOf f.type) xs hl (by simpa using hxl) (fun i g hg=>by simpa using hx (i + 1) g (by simpa using hg))
   have hsplit:cs.drop off=(cs.drop off).take (P.cellsOf f.type) ++ cs.drop (off + P.cellsOf f.type):=by
    rw [<- List.drop_drop,List.take_append_drop]
   refine ⟨ds0 ++ ds1,?_,?_,?_,?_⟩
   ·rw [hsplit];exact RvL.append r1 s1
   ·rw [hsplit];intro v hv;rcases List.mem_append.1 hv with hv | hv
    ·exact r2 v hv
    ·exact s2 v hv
   ·simp only [List.map_cons,TypFs];exact ⟨ds0,ds1,rfl,r3,s3⟩
   ·rw [wgL_append];simp only [List.map_cons,bkS];omega
theorem rd_elems {n e:Nat} (ih:∀ t cs x,t∈S->DataW.trod enc P w 0 sp held n t cs=some x->Rd enc P w bk n t cs x.1) (he:e∈S) (a:Addr) :
  ∀ (xs:List (DataW H × List MemPlace)) (i0:Nat),(∀ i,i < xs.length->(w.cells? 0 (a.add ((i0 + i) * P.cellsOf e)) (P.cellsOf e)).bind (DataW.trod enc P w 0 sp held n e)=xs[i]?) ->
   ∃ es,es.length=xs.length/\RvEs (enW w) (P.cellsOf e) a.block (a.off + i0 * P.cellsOf e) es/\(∀ cs∈es,Typ P n e cs)/\wgEs es<=64 * bkS bk (xs.map (·.1))
 | [],i0,hx=>⟨[],rfl,by simp only [RvEs],by simp,by simp [wgEs]⟩
 | x :: xs,i0,hx=>by
  have h0:=hx 0 (by simp);simp only [Nat.add_zero,List.getElem?_cons_zero] at h0;obtain ⟨cs,hcs,ht⟩:=Option.bind_eq_some_iff.1 h0;obtain ⟨_,hlen,hcell⟩:=World.cells?_some hcs;obtain ⟨ds0,r1,r2,r3,r4,r5⟩:=ih e cs x he ht
  obtain ⟨es,s1,s2,s3,s4⟩:=rd_elems ih he a xs (i0 + 1) (fun i hi=>by
   have:=hx (i + 1) (by simpa using hi);simp only [List.getElem?_cons_succ] at this;rw [show i0 + 1 + i=i0 + (i + 1) by omega]
   exact this)
  refine ⟨ds0 :: es,by simp [s1],?_,?_,?_⟩
  ·simp only [RvEs];refine ⟨by rw [<- r1.length,hlen],rvAt_cells (E:=enW w) r1 fun j v hj=>⟨?_,r2 v (mG hj)⟩,?_⟩
   ·have hjl:j < P.cellsOf e:=by rw [<- hlen];exact (gS hj).1
    have h1:=hcell j hjl;rw [hj,Deep.add_add] at h1;have h2:=cell_spot h1;show w.cell? _=_;rw [Nat.add_assoc];exact h2
   ·rw [Nat.add_assoc,show i0 * P.cellsOf e + P.cellsOf e=(i0 + 1) * P.cellsOf e by rw [Nat.add_mul,Nat.one_mul]];exact s2
  ·intro cs' hc;rcases List.mem_cons.1 hc with hc | hc
   ·subst hc;exact r3
   ·exact s3 cs' hc
  ·simp only [wgEs,List.map_cons,bkS];omega
theorem rd_trod (hbk:Bk bk) (hS:∀ t∈S,flatOK P S t=true):∀ (n:Nat) (t:TypeId) (cs:List Value) (x:DataW H × List MemPlace),t∈S->DataW.trod enc P w 0 sp held n t cs=some x->Rd enc P w bk n t cs x.1
 | 0,t,cs,x,_,h=>by simp [DataW.trod] at h
 | n + 1,t,cs,x,ht,h=>by
  have hf:=hS t ht;unfold flatOK at hf;unfold Rd
  cases hu:P.underlying t with
  | none=>rw [hu] at hf;cases hf
  | some D=>
   rw [hu] at hf
   cases D with
   | bool=>
    simp only [decide_eq_true_eq] at hf;obtain ⟨b,rfl,rfl⟩:=DataW.trod_bool hu h;have:=hbk.lit (.bool b);exact ⟨[.v (.bool b)],rvL_one (by unfold Rv;exact ⟨rfl,rfl⟩),by simp [Value.oneCell'],by simp only [Typ,hu];exact ⟨b,rfl⟩,by simp only [wgL,wgD];omega,by simp [hf]⟩
   | int k=>
    simp only [decide_eq_true_eq] at hf;obtain ⟨z,rfl,rfl,hw⟩:=DataW.trod_int hu h;have:=hbk.lit (.int k z);exact ⟨[.v (.int k z)],rvL_one (by unfold Rv;exact ⟨rfl,rfl⟩),by simp [Value.oneCell'],by simp only [Typ,hu];exact ⟨z,rfl,hw⟩,by simp only [wgL,wgD];omega,by simp [hf]⟩
   | string=>
    simp only [decide_eq_true_eq] at hf;obtain ⟨s,rfl,rfl,hw⟩:=DataW.trod_string hu h;have:=hbk.str s.data.toList;have hsz:s.data.toList.length=s.size:=by rw [Array.length_toList];all_goals rfl
    exact ⟨[.v (.string s)],rvL_one (by unfold Rv;exact ⟨rfl,rfl⟩),by simp [Value.oneCell'],by simp only [Typ,hu];exact ⟨s,rfl⟩,by simp only [wgL,wgD];omega,by simp [hf]⟩
   | slice e=>
    simp only [Bool.and_eq_true,decide_eq_true_eq] at hf;obtain ⟨⟨hf1,hf2⟩,hf3⟩:=hf;rcases DataW.trod_slice hu h with ⟨rfl,rfl⟩ | ⟨a,len,cap,elems,rest,m,hm,rfl,rfl,_,hlc,_,hel,hx,_,_⟩
    ·have:=hbk.nil;refine ⟨[.sl (P.cellsOf e) [] none],rvL_one ?_,by simp [Value.oneCell'],by simp only [Typ,hu];exact ⟨[],rfl,by simp⟩,by simp only [wgL,wgD,wgEs];omega,by simp [hf1]⟩;unfold Rv;exact ⟨none,0,0,rfl,⟨rfl,Nat.le_refl _⟩,fun hc=>absurd rfl hc,fun k hk=>by cases hk⟩
    ·simp only [Nat.add_right_cancel_iff] at hm;subst hm;obtain ⟨es,s1,s2,s3,s4⟩:=rd_elems (fun t cs x=>rd_trod hbk hS n t cs x) (by simpa using hf2) a elems 0 (fun i hi=>by simpa using hx i (by omega));have hb:=hbk.slice (elems.map (·.1)) (rest.map (·.1));refine ⟨[.sl (P.cellsOf e) es none],rvL_one ?_,by simp [Value.oneCell'],by simp only [Typ,hu];exact ⟨es,rfl,s3⟩,by simp only [wgL,wgD];omega,by simp [hf1]⟩;unfold Rv;refine ⟨some a,len,cap,rfl,⟨by omega,hlc⟩,fun hne=>⟨?_,?_⟩,fun k hk=>by cases hk⟩
     ·have hpos:0 < len:=by
       rw [<- hel,<- s1];exact List.length_pos_iff.2 hne
      have h0:=hx 0 hpos;rw [gE (by omega)] at h0;obtain ⟨cs,hcs,_⟩:=Option.bind_eq_some_iff.1 h0;obtain ⟨_,hlen,hcell⟩:=World.cells?_some hcs;have h1:=hcell 0 hf3;rw [gE (by omega),Deep.add_add] at h1;simp only [Nat.zero_mul,Nat.add_zero] at h1;exact spot_none (a:=a) h1
     ·have s2':RvEs (enW w) (P.cellsOf e) a.block a.off es:=by simpa using s2
      exact s2'
   | struct fs=>
    obtain ⟨xs,m,hm,rfl,hlen,hxl,hx⟩:=DataW.trod_struct hu h;simp only [Nat.add_right_cancel_iff] at hm;subst hm;simp only at hf;obtain ⟨ds,s1,s2,s3,s4⟩:=rd_fields (fun t cs x=>rd_trod hbk hS n t cs x) cs fs.toList 0 xs (by rw [hlen];exact hf) (by simpa using hxl) (fun i f hi=>hx i f (by simpa using hi));have hb:=hbk.agg (xs.map (·.1));refine ⟨ds,by simpa using s1,by simpa using s2,by simp only [Typ,hu];exact s3,by simp only;omega,hlen⟩
   | _=>cases hf
end
theorem typ_int {P:Program} {n:Nat} {t:TypeId} {k:IntKind} {ds:List DV} (hu:P.underlying t=some (.int k)) (h:Typ P n t ds):∃ z,ds=[.v (.int k z)]/\(Lit.int k z).wf=true:=by
 cases n with
 | zero=>exact h.elim
 | succ n=>simp only [Typ,hu] at h;exact h
theorem typ_bool {P:Program} {n:Nat} {t:TypeId} {ds:List DV} (hu:P.underlying t=some .bool) (h:Typ P n t ds):∃ b,ds=[.v (.bool b)]:=by
 cases n with
 | zero=>exact h.elim
 | succ n=>simp only [Typ,hu] at h;exact h
theorem typ_str {P:Program} {n:Nat} {t:TypeId} {ds:List DV} (hu:P.underlying t=some .string) (h:Typ P n t ds):∃ s:ByteArray,ds=[.v (.string s)]:=by
 cases n with
 | zero=>exact h.elim
 | succ n=>simp only [Typ,hu] at h;exact h
theorem typ_sl {P:Program} {n:Nat} {t e:TypeId} {ds:List DV} (hu:P.underlying t=some (.slice e)) (h:Typ P n t ds):∃ m es,n=m + 1/\ds=[.sl (P.cellsOf e) es none]/\∀ cs∈es,Typ P m e cs:=by
 cases n with
 | zero=>exact h.elim
 | succ n=>
  simp only [Typ,hu] at h;obtain ⟨es,h1,h2⟩:=h;exact ⟨n,es,rfl,h1,h2⟩
theorem typ_st {P:Program} {n:Nat} {t:TypeId} {fs:Array Field} {ds:List DV} (hu:P.underlying t=some (.struct fs)) (h:Typ P n t ds):∃ m,n=m + 1/\TypFs (Typ P m) (fs.toList.map (·.type)) ds:=by
 cases n with
 | zero=>exact h.elim
 | succ n=>
  simp only [Typ,hu] at h;exact ⟨n,rfl,h⟩
theorem wf_i64 {z:Int} (h:(Lit.int .i64 z).wf=true) : -9223372036854775808<=z/\z<=9223372036854775807:=by
 simpa [Lit.wf,IntKind.min,IntKind.max,IntKind.signed,IntKind.bits] using h
end Dv
end Go.Proofs.YtadhpeooehkklaaGreat
set_option maxRecDepth 100000
namespace Go.Proofs.YtadhpeooehkklaaGreat
open Go Go.RowKit Dv Tryz
theorem cells_word:Tryz.prog.cellsOf 27=2:=by kernel_rfl
theorem cells_part:Tryz.prog.cellsOf 153=18:=by kernel_rfl
theorem typ_wd {n:Nat} {ds:List DV} (h:Typ Tryz.prog n 27 ds):∃ w:Wd,ds=dWd w/\w.wt<=wgL ds:=by
 obtain ⟨m,_,hf⟩:=typ_st Tryz.underlying27 h;obtain ⟨a,b,rfl,h1,c,d,rfl,h2,rfl⟩:=hf;obtain ⟨s,rfl⟩:=typ_str Tryz.underlying9 h1;obtain ⟨z,rfl,_⟩:=typ_int Tryz.underlying3 h2;exact ⟨⟨s,z⟩,rfl,by simp [wgL,wgD,Wd.wt]⟩
theorem es_wds:∀ {m:Nat} {es:List (List DV)},(∀ cs∈es,Typ Tryz.prog m 27 cs)->∃ l:List Wd,es=dWds l/\wdsWt l<=wgEs es
 | m,[],h=>⟨[],rfl,by simp [wdsWt,wgEs]⟩
 | m,cs :: r,h=>by
  obtain ⟨w,rfl,hw⟩:=typ_wd (h cs (by simp));obtain ⟨l,rfl,hl⟩:=es_wds (m:=m) (es:=r) (fun c hc=>h c (List.mem_cons_of_mem _ hc));exact ⟨w :: l,rfl,by simp only [wdsWt,wgEs];omega⟩
theorem typ_wds {n:Nat} {ds:List DV} (h:Typ Tryz.prog n 22 ds):∃ l:List Wd,ds=[.sl 2 (dWds l) none]/\64 + wdsWt l<=wgL ds:=by
 obtain ⟨m,es,_,rfl,he⟩:=typ_sl Tryz.underlying22 h;obtain ⟨l,rfl,hl⟩:=es_wds he;rw [cells_word];exact ⟨l,rfl,by simp only [wgL,wgD];omega⟩
theorem typ_i {n:Nat} {ds:List DV} (h:Typ Tryz.prog n 3 ds):∃ z,ds=[.v (.int .i64 z)]/\I64 z:=by
 obtain ⟨z,rfl,hw⟩:=typ_int Tryz.underlying3 h;exact ⟨z,rfl,wf_i64 hw⟩
theorem es_pts {m:Nat} (ih:∀ k,k < m->∀ ds,Typ Tryz.prog k 29 ds->∃ t:Ty,ds=dTy t/\rngT t/\t.wt<=wgL ds) :
  ∀ {es:List (List DV)},(∀ cs∈es,Typ Tryz.prog m 153 cs)->∃ ps:Pts,es=dPts ps/\rngP ps/\ps.wt<=wgEs es
 | [],h=>⟨.nil,by simp [dPts],by simp [rngP],by simp [Pts.wt]⟩
 | cs :: r,h=>by
  obtain ⟨ps,rfl,hr,hl⟩:=es_pts ih (es:=r) (fun c hc=>h c (List.mem_cons_of_mem _ hc));obtain ⟨k,rfl,hf⟩:=typ_st Tryz.underlying153 (h cs (by simp));obtain ⟨a1,b1,rfl,h1,a2,b2,rfl,h2,a3,b3,rfl,h3,a4,b4,rfl,h4,a5,b5,rfl,h5,a6,b6,rfl,h6,rfl⟩:=hf;obtain ⟨nm,rfl,w1⟩:=typ_wd h1;obtain ⟨bare,rfl⟩:=typ_bool Tryz.underlying4 h2;obtain ⟨lab,rfl,w3⟩:=typ_wds h3;obtain ⟨wide,rfl,r4⟩:=typ_i h4;obtain ⟨k5,_,hf5⟩:=typ_st Tryz.underlying151 h5;obtain ⟨c1,d1,rfl,g1,c2,d2,rfl,g2,c3,d3,rfl,g3,c4,d4,rfl,g4,rfl⟩:=hf5;obtain ⟨ck,rfl,_⟩:=typ_i g1;obtain ⟨cn,rfl,q2⟩:=typ_i g2;obtain ⟨ca,rfl,_⟩:=typ_i g3;obtain ⟨cl,rfl,w5⟩:=typ_wds g4;obtain ⟨t,rfl,rt,wt⟩:=ih k (by omega) _ h6;refine ⟨.cons ⟨nm,bare,lab,wide,ck,cn,ca,cl⟩ t ps,?_,by simp only [rngP];exact ⟨r4,q2,rt,hr⟩,?_⟩
  ·simp only [dPts,dPh,dWd,List.cons_append,List.nil_append,List.append_nil]
  ·simp only [Pts.wt,Ph.wt,wgEs,wgL_append,wgL,wgD,dWd] at *;simp only [Wd.wt] at *;omega
theorem typ_ty:∀ (n:Nat) (ds:List DV),Typ Tryz.prog n 29 ds->∃ t:Ty,ds=dTy t/\rngT t/\t.wt<=wgL ds:=by
 intro n
 induction n using Nat.strongRecOn with
 | _ n ih=>
  intro ds h;obtain ⟨m,rfl,hf⟩:=typ_st Tryz.underlying29 h;obtain ⟨a1,b1,rfl,h1,a2,b2,rfl,h2,a3,b3,rfl,h3,a4,b4,rfl,h4,a5,b5,rfl,h5,a6,b6,rfl,h6,a7,b7,rfl,h7,a8,b8,rfl,h8,rfl⟩:=hf;obtain ⟨kind,rfl,_⟩:=typ_i h1;obtain ⟨at',rfl,_⟩:=typ_i h2;obtain ⟨lo,rfl,r3⟩:=typ_i h3;obtain ⟨hi,rfl,r4⟩:=typ_i h4;obtain ⟨most,rfl,r5⟩:=typ_i h5;obtain ⟨names,rfl,w6⟩:=typ_wds h6;obtain ⟨k,es,rfl,rfl,hes⟩:=typ_sl Tryz.underlying25 h7;obtain ⟨ps,rfl,rp,wp⟩:=es_pts (fun j hj=>ih j (by omega)) hes;obtain ⟨nm,rfl,w8⟩:=typ_wd h8;rw [cells_part];refine ⟨.mk ⟨kind,at',lo,hi,most,names,nm⟩ ps,?_,by simp only [rngT];exact ⟨r3,r4,r5,rp⟩,?_⟩
  ·simp only [dTy,dWd,List.cons_append,List.nil_append,List.append_nil]
  ·simp only [Ty.wt,Hd.wt,wgL_append,wgL,wgD,dWd] at *;simp only [Wd.wt] at *;omega
end Go.Proofs.YtadhpeooehkklaaGreat
namespace Go.Proofs.YtadhpeooehkklaaGreat
namespace Dv
open Go Go.RowKit Go.ChangeShapes Go.WideShapes Go.ChangeAt
open Go.ChangeMaps (open_string shut_string)
section
variable {H:Type} {enc:TypeId × Value->H} {P:Program}
theorem trodAll_stays (hl:laidOutB P=true) {W W':World} (hb:Below W.heap.size W W'):∀ {ts:List TypeId} {vs:List Value} {ds:List (DataW H)} {ps:List MemPlace},(∀ t∈ts,P.readableRec t=true/\t < P.types.size) ->
  DataW.TrodAll enc P W 0 (fun _=>true) true ts vs ds ps->(∀ x∈ps,x.block < W.heap.size)->DataW.TrodAll enc P W' 0 (fun b=>decide (b < W.heap.size)) true ts vs ds ps
 | [],[],[],_,_,h,_=>h
 | t :: ts,v :: vs,d :: ds,_,ht,⟨p,q,h1,h2,e⟩,hlt=>by
  subst e;obtain ⟨r1,r2⟩:=ht t (by simp);exact ⟨p,q,Below.trod hl r1 r2 h1 hb (fun x hx=>hlt x (List.mem_append_left _ hx)),trodAll_stays hl hb (fun t ht'=>ht t (by simp [ht'])) h2 (fun x hx=>hlt x (List.mem_append_right _ hx)),rfl⟩
theorem law_post {f:Func} {s:ChangeSpec} {tb:TypeId} (hl:laidOutB P=true) (hres:f.resultTypes = #[tb]) (htb:P.underlying tb=some .bool) (hv:s.vars=[]) (hts:∀ t∈f.params.toList,P.readableRec t=true/\t < P.types.size)
  {W W':World} {args:Array Value} {ds gs:List (DataW H)} {before:List MemPlace} (hW:DataW.Whole enc P f.params.toList s.vars false W args.toList ds gs before) (hfn:s.fn H ds={ results:=[.lit (.bool true)],args:=ds }) (hb:Below W.heap.size W W') :
  s.post enc P f false true false false W args (.bool true) W':=by
 have hW':=hW;obtain ⟨p,q,hA,hV,rfl,hfz,hnd⟩:=hW;rw [hv] at hV;obtain ⟨rfl,rfl⟩:=trodVars_none hV;refine ⟨ds,[],p ++ [],[],p,[],hW',?_,?_,?_,hb.frame _,fun h=>by cases h⟩
 ·rw [List.append_nil,hfn,hres];exact trodAll_cons_mk (shut_bool htb _) trodAll_mk0
 ·rw [List.append_nil,hfn];exact trodAll_stays hl hb hts hA (fun x hx=>hW'.lt x (List.mem_append_left _ hx))
 ·rw [List.append_nil,hfn,hv];rfl
theorem endd_below {w w':World} {Φ:DV->List (List DV)->List TkE->Prop} {v:Value} (h:Endd false (enW w) w Φ v w'):Below w.heap.size w w':=by
 obtain ⟨hm,_⟩:=h;refine ⟨hm.os,hm.tape,hm.output,hm.size,fun k hk=>hm.block k hk ?_⟩;rintro (h1 | ⟨y,h1,_⟩)
 ·simp [enW] at h1
 ·simp [enW] at h1
theorem calls_law {f:FuncId} {args:List DV} {vs:List Value} {w:World} (h:EvP P f args (.v (.bool true))) (hv:RvL (enW w) args vs) :
  Calls P f vs.toArray w fun e w'=>e = .returned (.bool true)/\Below w.heap.size w w':=by
 refine (h (enW w) w vs (enW_env w) rfl hv).mono ?_;rintro e w' ⟨v,rfl,he⟩;have hb:=endd_below he;obtain ⟨_,_,d,os,E,_,_,_,_,hr,rfl⟩:=he;unfold Rv at hr;rw [hr.1];exact ⟨rfl,hb⟩
variable {W:World} {base:Nat} {S:List TypeId} {bk:DataW H->Nat}
theorem arg_st (hbk:Bk bk) (hS:∀ t∈S,flatOK P S t=true) {t:TypeId} {fs:Array Field} {v:Value} {d:DataW H} {ps:List MemPlace} (ht:t∈S) (hu:P.underlying t=some (.struct fs))
  (hval:Value.okWide P W .any base t v) (h:DataW.Trod enc P W 0 (fun _=>true) true t v d ps):∃ n ds,Rv (enW W) (.agg ds) v/\Typ P n t ds/\wgL ds<=64 * bk d:=by
 unfold Value.okWide at hval;rw [hu] at hval;obtain ⟨cs,rfl,_,_⟩:=hval;obtain ⟨n,hn⟩:=h;obtain ⟨ds,h1,h2,h3,h4,_⟩:=rd_trod hbk hS n t _ _ ht hn;refine ⟨n,ds,?_,h3,h4⟩;unfold Rv;exact ⟨cs.toList,by simp,h1,h2⟩
end
end Dv
end Go.Proofs.YtadhpeooehkklaaGreat
namespace Go.Proofs.YtadhpeooehkklaaGreat
open Go Go.RowKit Dv
theorem bk_all {H:Type}:∀ l:List (DataW H),bkS Rows.uptoBulk l=Rows.uptoBulkAll l
 | []=>by simp [bkS,Rows.uptoBulkAll]
 | d :: r=>by simp only [bkS,Rows.uptoBulkAll,bk_all r]
theorem bk_ok {H:Type}:Bk (Rows.uptoBulk (H:=H)) where
 str:=fun l=>by simp [Rows.uptoBulk]
 lit:=fun l=>by cases l<;>simp [Rows.uptoBulk]
 nil:=by simp [Rows.uptoBulk]
 slice:=fun es sp=>by simp only [Rows.uptoBulk,bk_all];omega
 agg:=fun l=>by simp only [Rows.uptoBulk,bk_all];omega
theorem bulk_le {H:Type} {l:List (DataW H)} (hk:Rows.uptoSmall H l=true):Rows.uptoBulkAll l<=1048576:=of_decide_eq_true hk
theorem laid_out:laidOutB Tryz.prog=true:=by kernel_rfl
theorem own_knob:ownKnob Tryz.prog.godebug=none:=by kernel_rfl
def tyS:List TypeId:=[29,22,27,9,3,25,153,4,151]
end Go.Proofs.YtadhpeooehkklaaGreat
set_option maxRecDepth 100000
namespace Go.Proofs.YtadhpeooehkklaaGreat
open Go Go.RowKit Dv Tryz
def Pts.take:Nat->Pts->Pts
 | 0,_=>.nil
 | _ + 1,.nil=>.nil
 | e + 1,.cons p t r=>.cons p t (r.take e)
structure Sch where
 levels:List Wd
 order:List (Wd × Wd)
 types:List (Wd × Ty)
 root:Ty
def dPr (p:Wd × Wd):List DV:=[.v (.string p.1.s),.v (.int .i64 p.1.a),.v (.string p.2.s),.v (.int .i64 p.2.a)]
def dPrs (l:List (Wd × Wd)):List (List DV):=l.map dPr
def dNm (x:Wd × Ty):List DV:=.v (.string x.1.s) :: .v (.int .i64 x.1.a) :: dTy x.2
def dNms (l:List (Wd × Ty)):List (List DV):=l.map dNm
def dSch (s:Sch):List DV:=.sl 2 (dWds s.levels) none :: .sl 4 (dPrs s.order) none :: .sl 11 (dNms s.types) none :: dTy s.root
def prsWt:List (Wd × Wd)->Nat
 | []=>0
 | p :: r=>p.1.wt + p.2.wt + prsWt r
def nmsWt:List (Wd × Ty)->Nat
 | []=>0
 | p :: r=>p.1.wt + p.2.wt + nmsWt r
def Sch.wt (s:Sch):Nat:=wdsWt s.levels + prsWt s.order + nmsWt s.types + s.root.wt
theorem dPrs_len (l:List (Wd × Wd)):(dPrs l).length=l.length:=by simp [dPrs]
theorem dNms_len (l:List (Wd × Ty)):(dNms l).length=l.length:=by simp [dNms]
theorem dPrs_get {l:List (Wd × Wd)} {j:Nat} {p:Wd × Wd} (h:l[j]? = some p):(dPrs l)[j]? = some (dPr p):=by simp [dPrs,h]
theorem dNms_get {l:List (Wd × Ty)} {j:Nat} {p:Wd × Ty} (h:l[j]? = some p):(dNms l)[j]? = some (dNm p):=by simp [dNms,h]
theorem prsWt_len:∀ l:List (Wd × Wd),128 * l.length<=prsWt l
 | []=>Nat.le_refl _
 | p :: r=>by have:=prsWt_len r;simp only [List.length_cons,prsWt,Wd.wt];omega
theorem nmsWt_len:∀ l:List (Wd × Ty),256 * l.length<=nmsWt l
 | []=>Nat.le_refl _
 | p :: r=>by have:=nmsWt_len r;have:=p.2.wt_pos;simp only [List.length_cons,nmsWt,Wd.wt];omega
theorem nmsWt_mem:∀ {l:List (Wd × Ty)} {p:Wd × Ty},p∈l->p.1.wt + p.2.wt<=nmsWt l
 | x :: r,p,h=>by
  rcases List.mem_cons.1 h with h | h
  ·subst h;simp only [nmsWt];omega
  ·have:=nmsWt_mem h;simp only [nmsWt];omega
def rngS (s:Sch):Prop:=(∀ x∈s.types,rngT x.2)/\rngT s.root
theorem cells_pair:Tryz.prog.cellsOf 220=4:=by kernel_rfl
theorem cells_named:Tryz.prog.cellsOf 87=11:=by kernel_rfl
theorem typ_pr {n:Nat} {ds:List DV} (h:Typ Tryz.prog n 220 ds):∃ p:Wd × Wd,ds=dPr p/\p.1.wt + p.2.wt<=wgL ds:=by
 obtain ⟨m,_,hf⟩:=typ_st Tryz.underlying220 h;obtain ⟨a,b,rfl,h1,c,d,rfl,h2,rfl⟩:=hf;obtain ⟨x,rfl,w1⟩:=typ_wd h1;obtain ⟨y,rfl,w2⟩:=typ_wd h2;exact ⟨(x,y),rfl,by simp only [wgL_append,wgL];omega⟩
theorem typ_nm {n:Nat} {ds:List DV} (h:Typ Tryz.prog n 87 ds):∃ p:Wd × Ty,ds=dNm p/\rngT p.2/\p.1.wt + p.2.wt<=wgL ds:=by
 obtain ⟨m,_,hf⟩:=typ_st Tryz.underlying87 h;obtain ⟨a,b,rfl,h1,c,d,rfl,h2,rfl⟩:=hf;obtain ⟨x,rfl,w1⟩:=typ_wd h1;obtain ⟨y,rfl,r2,w2⟩:=typ_ty _ _ h2;exact ⟨(x,y),by simp [dNm,dWd],r2,by simp only [wgL_append,wgL];omega⟩
theorem es_prs:∀ {m:Nat} {es:List (List DV)},(∀ cs∈es,Typ Tryz.prog m 220 cs)->∃ l:List (Wd × Wd),es=dPrs l/\prsWt l<=wgEs es
 | m,[],h=>⟨[],rfl,by simp [prsWt,wgEs]⟩
 | m,cs :: r,h=>by
  obtain ⟨w,rfl,hw⟩:=typ_pr (h cs (by simp));obtain ⟨l,rfl,hl⟩:=es_prs (m:=m) (es:=r) (fun c hc=>h c (List.mem_cons_of_mem _ hc));exact ⟨w :: l,rfl,by simp only [prsWt,wgEs];omega⟩
theorem es_nms:∀ {m:Nat} {es:List (List DV)},(∀ cs∈es,Typ Tryz.prog m 87 cs)->∃ l:List (Wd × Ty),es=dNms l/\(∀ x∈l,rngT x.2)/\nmsWt l<=wgEs es
 | m,[],h=>⟨[],rfl,by simp,by simp [nmsWt,wgEs]⟩
 | m,cs :: r,h=>by
  obtain ⟨w,rfl,hr,hw⟩:=typ_nm (h cs (by simp));obtain ⟨l,rfl,hlr,hl⟩:=es_nms (m:=m) (es:=r) (fun c hc=>h c (List.mem_cons_of_mem _ hc));refine ⟨w :: l,rfl,fun x hx=>?_,by simp only [nmsWt,wgEs];omega⟩;rcases List.mem_cons.1 hx with rfl | hx
  ·exact hr
  ·exact hlr x hx
theorem typ_sch {n:Nat} {ds:List DV} (h:Typ Tryz.prog n 31 ds):∃ s:Sch,ds=dSch s/\rngS s/\s.wt<=wgL ds:=by
 obtain ⟨m,_,hf⟩:=typ_st Tryz.underlying31 h;obtain ⟨a1,b1,rfl,h1,a2,b2,rfl,h2,a3,b3,rfl,h3,a4,b4,rfl,h4,rfl⟩:=hf;obtain ⟨l1,rfl,w1⟩:=typ_wds h1;obtain ⟨m2,es2,_,rfl,he2⟩:=typ_sl Tryz.underlying23 h2;obtain ⟨l2,rfl,w2⟩:=es_prs he2;obtain ⟨m3,es3,_,rfl,he3⟩:=typ_sl Tryz.underlying24 h3;obtain ⟨l3,rfl,r3,w3⟩:=es_nms he3;obtain ⟨t,rfl,r4,w4⟩:=typ_ty _ _ h4;rw [cells_pair,cells_named];refine ⟨⟨l1,l2,l3,t⟩,by simp [dSch],⟨r3,r4⟩,?_⟩;simp only [Sch.wt,wgL_append,wgL,wgD] at *;omega
end Go.Proofs.YtadhpeooehkklaaGreat
namespace Go.Proofs.YtadhpeooehkklaaGreat
open Go Go.RowKit Dv
def tySS:List TypeId:=31 :: 23 :: 220 :: 24 :: 87 :: tyS
theorem tySS_ok:∀ t∈tySS,flatOK Tryz.prog tySS t=true:=by
 have h:(tySS.all fun t=>flatOK Tryz.prog tySS t)=true:=by kernel_rfl
 exact fun t ht=>List.all_eq_true.1 h t ht
set_option maxRecDepth 100000
noncomputable abbrev PP:Program:=Tryz.pinned.checked.prog
def dft:OpenClaim:={ program := "",sum := "",func := "",spec := "" }
theorem and_ok {a b:Bool} (ha:a=true) (hb:b=true):(a && b)=true:=by rw [ha,hb];all_goals rfl
theorem g_laid:laidOutB PP=true:=laid_out
theorem g_maps:mapsRowed PP=true:=by kernel_rfl
theorem g_stops:(PP.stops == [])=true:=by kernel_rfl
theorem g_knobs:(PP.stopKnobs == [])=true:=by kernel_rfl
theorem g_heard:PP.stopsHeard=true:=by kernel_rfl
theorem g_enter:PP.mayEnter=true:=by kernel_rfl
theorem g_lifts:(dft.lifted == PP.liftsFinal)=true:=by kernel_rfl
theorem g_keys:(true == PP.plainKeys)=true:=by kernel_rfl
theorem g_make:(PP.make == some dft.make)=true:=by kernel_rfl
end Go.Proofs.YtadhpeooehkklaaGreat
set_option maxRecDepth 100000
namespace Go.Proofs.YtadhpeooehkklaaGreat
open Go Go.RowKit Dv Tryz
theorem fdiv_nat (x b:Nat):(x:Int).fdiv (2 ^ b)=((x / 2 ^ b:Nat):Int):=by
 rw [Int.fdiv_eq_ediv_of_nonneg _ (by exact Int.le_of_lt (Int.pow_pos (by decide)))];simp
theorem ofInt_nat (m:Nat):BitVec.ofInt 64 (m:Int)=BitVec.ofNat 64 m:=by simp
theorem bit_has {x b:Nat} (hb:b < 64) (hx:x < 18446744073709551616) :
  decide (IntKind.u64.wrap ((BitVec.ofInt 64 ((x:Int).fdiv (2 ^ (min b 64))) &&& BitVec.ofInt 64 1).toNat:Int)=1)=x.testBit b:=by
 rw [Nat.min_eq_left (by omega),fdiv_nat,ofInt_nat,show (BitVec.ofInt 64 1)=BitVec.ofNat 64 1 by decide,BitVec.toNat_and,BitVec.toNat_ofNat,BitVec.toNat_ofNat,Nat.testBit_eq_decide_div_mod_eq];have h1:x / 2 ^ b < 18446744073709551616:=Nat.lt_of_le_of_lt (Nat.div_le_self _ _) hx;rw [Nat.mod_eq_of_lt h1,show (1 % 2 ^ 64:Nat)=1 by decide,Nat.and_one_is_mod];simp only [IntKind.wrap_u64];congr 1;apply propext;omega
theorem bit_or {x b:Nat} (hb:b < 64) (hx:x < 18446744073709551616) :
  IntKind.u64.wrap ((BitVec.ofInt 64 (x:Int) ||| BitVec.ofInt 64 (IntKind.u64.wrap (1 * 2 ^ (min b 64)))).toNat:Int)=((x ||| 2 ^ b:Nat):Int):=by
 have h2:2 ^ b < 18446744073709551616:=by
  have:2 ^ b<=2 ^ 63:=Nat.pow_le_pow_right (by decide) (by omega);omega
 have e1:IntKind.u64.wrap (1 * 2 ^ (min b 64))=((2 ^ b:Nat):Int):=by
  rw [Nat.min_eq_left (by omega),Int.one_mul];have:((2:Int) ^ b)=((2 ^ b:Nat):Int):=by simp
  rw [this];generalize 2 ^ b=z at h2;simp only [IntKind.wrap_u64];omega
 rw [e1,ofInt_nat,ofInt_nat,BitVec.toNat_or,BitVec.toNat_ofNat,BitVec.toNat_ofNat,Nat.mod_eq_of_lt hx,Nat.mod_eq_of_lt h2];have h3:x ||| 2 ^ b < 18446744073709551616:=Nat.or_lt_two_pow (n:=64) hx h2
 simp only [IntKind.wrap_u64];omega
theorem bits_or {x y:Nat} (hx:x < 18446744073709551616) (hy:y < 18446744073709551616) :
  IntKind.u64.wrap ((BitVec.ofInt 64 (x:Int) ||| BitVec.ofInt 64 (y:Int)).toNat:Int)=((x ||| y:Nat):Int):=by
 rw [ofInt_nat,ofInt_nat,BitVec.toNat_or,BitVec.toNat_ofNat,BitVec.toNat_ofNat,Nat.mod_eq_of_lt hx,Nat.mod_eq_of_lt hy];have h3:x ||| y < 18446744073709551616:=Nat.or_lt_two_pow (n:=64) hx hy
 simp only [IntKind.wrap_u64];omega
theorem testBit_or_pow (x a b:Nat):(x ||| 2 ^ b).testBit a=(x.testBit a || decide (b=a)):=by
 rw [Nat.testBit_or,Nat.testBit_two_pow]
def dU (rows:List Nat):List (List DV):=rows.map fun (x:Nat)=>[DV.v (.int .u64 (x:Int))]
theorem dU_len (rows:List Nat):(dU rows).length=rows.length:=by simp [dU]
theorem dU_get {rows:List Nat} {i:Nat} {x:Nat} (h:rows[i]? = some x):(dU rows)[i]? = some [DV.v (.int .u64 (x:Int))]:=by simp [dU,h]
abbrev dRel (rows:List Nat):DV:=.pt [.sl 1 (dU rows) none] 0
def RelOK (rows:List Nat):Prop:=rows.length<=64/\∀ x∈rows,x < 18446744073709551616
def bitB (rows:List Nat) (a b:Nat):Bool:=(rows.getD a 0).testBit b
def hasB (rows:List Nat) (a b:Int):Bool:=decide (0<=a) && decide (a < rows.length) && decide (0<=b) && decide (b < rows.length) && bitB rows a.toNat b.toNat
theorem rlen_spec (rows:List Nat):EvP Tryz.prog 150 [dRel rows] (.v (.int .i64 rows.length)):=by
 refine ev_go (P:=Tryz.prog) tt tt_ok 5000 10 [.tmp 2] Tryz.func150 rfl Tryz.ntmps150 rfl (nL rfl) (fun E9 w9 hn9 hm9=>?_);refine (congrArg (fun z=>DV.v (.int .i64 z)) ?_:_=_);rw [dU_len]
theorem rhas_spec (rows:List Nat) (hr:RelOK rows) (a b:Int):EvP Tryz.prog 154 [dRel rows,.v (.int .i64 a),.v (.int .i64 b)] (.v (.bool (hasB rows a b))):=by
 have hl:=rlen_spec rows;refine ev_go (P:=Tryz.prog) tt tt_ok 5000 38 [.tmp 6] Tryz.func154 rfl Tryz.ntmps154 rfl (nL rfl) (fun E9 w9 hn9 hm9=>?_);refine br (fun g1=>?_) (fun g1=>?_)
 ·have g1:0<=a:=by simpa using g1
  refine call_p en150 (hl) ax rfl ?_;refine br (fun g2=>?_) (fun g2=>?_)
  ·obtain ⟨g2,g3⟩:a < rows.length/\0<=b:=by
    cases h:decide (a < (rows.length:Int))<;>simp [pickB,h] at g2<;>exact ⟨by simpa using h,g2⟩
   refine call_p en150 (hl) ax rfl ?_;refine br (fun g4=>?_) (fun g4=>?_)
   ·have g4:b < rows.length:=by simpa [pickB,g2,g3] using g4
    obtain ⟨x,hx⟩:∃ x,rows[a.toNat]? = some x:=⟨_,gE (by omega)⟩;have hx2:=hr.2 x (mG hx);have hr1:=hr.1;refine ⟨_,⟨g1,dU_get hx⟩,?_⟩;refine ⟨g3,?_⟩;refine (congrArg (fun b=>DV.v (.bool b)) ?_:_=_);have hgd:rows.getD a.toNat 0=x:=getD_some hx
    have e1:hasB rows a b=x.testBit b.toNat:=by
     unfold hasB bitB;rw [hgd];simp [g1,g2,g3,g4]
    rw [e1];exact bit_has (x:=x) (b:=b.toNat) (by omega) hx2
   ·have g4:¬ b < rows.length:=by simpa [pickB,g2,g3] using g4
    refine (congrArg (fun b=>DV.v (.bool b)) ?_:_=_);simp [pickB,g2,g3,g4,hasB]
  ·have g5:¬ (a < rows.length/\0<=b):=by
    rintro ⟨h1,h2⟩;simp [pickB,h1,h2] at g2
   refine (congrArg (fun b=>DV.v (.bool b)) ?_:_=_);cases h:decide (a < (rows.length:Int))<;>simp [pickB,h,hasB] at g2 ⊢
   intro _ h0;omega
 ·have g1:¬ 0<=a:=by simpa using g1
  refine (congrArg (fun b=>DV.v (.bool b)) ?_:_=_);simp [g1,hasB]
def backN (rows:List Nat) (a:Nat):Nat->Nat
 | 0=>0
 | e + 1=>if bitB rows a e && bitB rows e a then backN rows a e ||| 2 ^ e else backN rows a e
theorem backN_lt (rows:List Nat) (a:Nat):∀ e,backN rows a e < 2 ^ e
 | 0=>by simp [backN]
 | e + 1=>by
  have ih:=backN_lt rows a e;have h2:2 ^ e < 2 ^ (e + 1):=Nat.pow_lt_pow_right (by decide) (by omega);simp only [backN];split
  ·exact Nat.or_lt_two_pow (by omega) h2
  ·omega
theorem backN_bit (rows:List Nat) (a b:Nat):∀ e,(backN rows a e).testBit b=(decide (b < e) && (bitB rows a b && bitB rows b a))
 | 0=>by simp [backN]
 | e + 1=>by
  have ih:=backN_bit rows a b e;simp only [backN];by_cases hbe:b=e
  ·subst hbe;cases hx:(bitB rows a b && bitB rows b a)
   ·simp [ih,hx]
   ·simp [testBit_or_pow]
  ·have h1:decide (b < e + 1)=decide (b < e):=by congr 1;apply propext;omega
   rw [h1,<- ih];split
   ·rw [testBit_or_pow,decide_eq_false (Ne.symm hbe),Bool.or_false]
   ·rfl
abbrev backSt (rows:List Nat) (a e:Nat):St:=
 ⟨[(0,⟨[],dRel rows⟩),(1,⟨[],.v (.int .i64 a)⟩),(5,⟨[],.v (.int .u64 (backN rows a e:Nat))⟩),(11,⟨[],.v (.int .i64 (dU rows).length)⟩),(12,⟨[],.v (.int .i64 e)⟩)],[],[]⟩
theorem hasB_nat {rows:List Nat} {a b:Nat} (ha:a < rows.length) (hb:b < rows.length):hasB rows a b=bitB rows a b:=by
 simp [hasB,ha,hb]
theorem rback_spec (rows:List Nat) (hr:RelOK rows) (a:Nat) (ha:a < rows.length):EvP Tryz.prog 152 [dRel rows,.v (.int .i64 a)] (.v (.int .u64 (backN rows a rows.length:Nat))):=by
 have hr1:=hr.1;refine ev_go (P:=Tryz.prog) tt tt_ok 5000 31 [.tmp 4] Tryz.func152 rfl Tryz.ntmps152 rfl (nL rfl) (fun E9 w9 hn9 hm9=>?_);refine loop_i (fun j st=>∃ e:Nat,st=backSt rows a e/\e<=rows.length/\j=rows.length - e) rows.length (backSt rows a 0) (weak_mk ⟨_,rfl⟩ wA rfl rfl rfl wB) ⟨0,rfl,by omega,by omega⟩ ?_;rintro j st ⟨e,rfl,he,rfl⟩;refine br (fun hL=>?_) (fun hL=>?_)
 ·have hlt:e < rows.length:=by have:=hL;simp [dU_len] at this;exact this
  have h1:=rhas_spec rows hr a e;have h2:=rhas_spec rows hr e a;rw [hasB_nat ha hlt] at h1;rw [hasB_nat hlt ha] at h2;have hbl:=backN_lt rows a e
  have hb64:backN rows a e < 18446744073709551616:=by
   have:2 ^ e<=2 ^ 64:=Nat.pow_le_pow_right (by decide) (by omega);omega
  have hor:=bit_or (x:=backN rows a e) (b:=e) (by omega) hb64;have hs:backN rows a (e + 1)=if bitB rows a e && bitB rows e a then backN rows a e ||| 2 ^ e else backN rows a e:=rfl
  refine call_p en154 (h1) ax rfl ?_;refine br (fun g1=>?_) (fun g1=>?_)
  ·have g1:bitB rows a e=true:=by simpa using g1
   refine call_p en154 (h2) ax rfl ?_;refine br (fun g2=>?_) (fun g2=>?_)
   ·have g2:bitB rows e a=true:=by simpa [pickB,g1] using g2
    rw [g1,g2] at hs;have hs:backN rows a (e + 1)=backN rows a e ||| 2 ^ e:=hs
    refine ⟨by omega,?_⟩;exact ⟨backSt rows a (e + 1),(weak_mk ⟨_,rfl⟩ wA rfl rfl rfl (by repeat' (first | exact trivial | exact we_rfl rfl | exact we_int (nxt hlt (by omega)) | exact we_int (hor.trans (by rw [hs])) | refine ⟨⟨_,rfl,?_⟩,?_⟩))),rows.length - (e + 1),by omega,e + 1,rfl,by omega,rfl⟩
   ·have g2:bitB rows e a=false:=by simpa [pickB,g1] using g2
    rw [g1,g2] at hs;have hs:backN rows a (e + 1)=backN rows a e:=hs;exact ⟨backSt rows a (e + 1),(weak_mk ⟨_,rfl⟩ wA rfl rfl rfl (by repeat' (first | exact trivial | exact we_rfl rfl | exact we_int (nxt hlt (by omega)) | exact we_int (by rw [hs]) | refine ⟨⟨_,rfl,?_⟩,?_⟩))),rows.length - (e + 1),by omega,e + 1,rfl,by omega,rfl⟩
  ·have g1:bitB rows a e=false:=by simpa using g1
   rw [g1] at hs;have hs:backN rows a (e + 1)=backN rows a e:=hs;exact ⟨backSt rows a (e + 1),(weak_mk ⟨_,rfl⟩ wA rfl rfl rfl (by repeat' (first | exact trivial | exact we_rfl rfl | exact we_int (nxt hlt (by omega)) | exact we_int (by rw [hs]) | refine ⟨⟨_,rfl,?_⟩,?_⟩))),rows.length - (e + 1),by omega,e + 1,rfl,by omega,rfl⟩
 ·have hge:e=rows.length:=by have:=hL;simp [dU_len] at this;omega
  subst hge;exact (rfl:_=_)
def cU (rows:List Nat):List DV:=rows.map fun (x:Nat)=>DV.v (.int .u64 (x:Int))
theorem cU_len (rows:List Nat):(cU rows).length=rows.length:=by simp [cU]
theorem cU_get {rows:List Nat} {i x:Nat} (h:rows[i]? = some x):(cU rows)[i]? = some (DV.v (.int .u64 (x:Int))):=by simp [cU,h]
theorem cU_set (rows:List Nat) (i x:Nat):(cU rows).set i (DV.v (.int .u64 (x:Int)))=cU (rows.set i x):=by simp [cU,List.map_set]
theorem dU_flat (rows:List Nat):(dU rows).flatten=cU rows:=by
 induction rows with
 | nil=>rfl
 | cons x r ih=>simp only [dU,cU,List.map_cons,List.flatten_cons] at ih ⊢;rw [ih];all_goals rfl
theorem weL_cU' {n m:Nat} {tk:List TkE}:∀ l:List Nat,WeL n m tk (cU l) (cU l)
 | []=>rfl
 | b :: r=>⟨_,_,rfl,we_rfl rfl,weL_cU' r⟩
theorem weL_cU {n m:Nat} {tk:List TkE} {l:List DV} {ds:List Nat} (h:l=cU ds):WeL n m tk l (cU ds):=by rw [h];exact weL_cU' ds
def dNP (p:Nat × Nat):List DV:=[.v (.int .i64 (p.1:Int)),.v (.int .i64 (p.2:Int))]
def dNPs (l:List (Nat × Nat)):List (List DV):=l.map dNP
theorem dNPs_len (l:List (Nat × Nat)):(dNPs l).length=l.length:=by simp [dNPs]
theorem dNPs_get {l:List (Nat × Nat)} {i:Nat} {p:Nat × Nat} (h:l[i]? = some p):(dNPs l)[i]? = some (dNP p):=by simp [dNPs,h]
def addP (rows:List Nat) (p:Nat × Nat):List Nat:=rows.set p.1 (rows.getD p.1 0 ||| 2 ^ p.2)
def relN (n:Nat) (l:List (Nat × Nat)):List Nat:=l.foldl addP (List.replicate n 0)
theorem relN_snoc (n:Nat) (l:List (Nat × Nat)) (e:Nat) {p:Nat × Nat} (h:l[e]? = some p):relN n (l.take (e + 1))=addP (relN n (l.take e)) p:=by
 unfold relN;rw [List.take_add_one,h];simp
theorem addP_len (rows:List Nat) (p:Nat × Nat):(addP rows p).length=rows.length:=by simp [addP]
theorem relN_len (n:Nat):∀ (l:List (Nat × Nat)),(relN n l).length=n:=by
 intro l
 have:∀ (l:List (Nat × Nat)) (r:List Nat),(l.foldl addP r).length=r.length:=by
  intro l
  induction l with
  | nil=>intro r;rfl
  | cons p l ih=>intro r;rw [List.foldl_cons,ih,addP_len]
 rw [relN,this];simp
theorem addP_ok {rows:List Nat} {p:Nat × Nat} (h:RelOK rows) (hp:p.1 < rows.length) (hq:p.2 < 64):RelOK (addP rows p):=by
 refine ⟨by rw [addP_len];exact h.1,fun x hx=>?_⟩;rcases List.mem_or_eq_of_mem_set hx with hx | rfl
 ·exact h.2 x hx
 ·refine Nat.or_lt_two_pow (n:=64) ?_ (Nat.pow_lt_pow_right (by decide) hq);rw [List.getD_eq_getElem?_getD,gE hp];exact h.2 _ (List.getElem_mem hp)
theorem relN_ok {n:Nat} (hn:n<=64):∀ (l:List (Nat × Nat)),(∀ p∈l,p.1 < n/\p.2 < n)->RelOK (relN n l):=by
 intro l hl
 have:∀ (l:List (Nat × Nat)) (r:List Nat),r.length=n->RelOK r->(∀ p∈l,p.1 < n/\p.2 < n)->RelOK (l.foldl addP r):=by
  intro l
  induction l with
  | nil=>intro r _ h _;exact h
  | cons p l ih=>
   intro r hr h hp;have:=hp p (by simp);exact ih _ (by rw [addP_len,hr]) (addP_ok h (by omega) (by omega)) (fun q hq=>hp q (by simp [hq]))
 refine this l _ (by simp) ⟨by simp [hn],fun x hx=>?_⟩ hl;rw [List.mem_replicate] at hx;omega
abbrev rnewSt (n:Nat) (l:List (Nat × Nat)) (rows:List Nat) (e:Nat):St:=
 ⟨[(0,⟨[],.v (.int .i64 n)⟩),(6,⟨[],.loc 1 0⟩),(19,⟨[],.sl 2 (dNPs l) none⟩),(20,⟨[],.v (.int .i64 (dNPs l).length)⟩),(21,⟨[],.v (.int .i64 e)⟩)],
  [cU rows,[.ms 0 1 0 n n]],[]⟩
theorem rnew_spec (n:Nat) (hn:n<=64) (l:List (Nat × Nat)) (hl:∀ p∈l,p.1 < n/\p.2 < n) (hb:l.length<=1099511627776) :
  EvP Tryz.prog 90 [.v (.int .i64 n),.sl 2 (dNPs l) none] (.tup [dRel (relN n l),.v (.bool true)]):=by
 refine ev_go (P:=Tryz.prog) tt tt_ok 5000 60 [.tmp 4,.tmp 5] Tryz.func90 rfl Tryz.ntmps90 rfl (nL rfl) (fun E9 w9 hn9 hm9=>?_);refine br (fun g=>?_) (fun g=>?_)
 ·exfalso;simp [pickB_or] at g;omega
 refine ⟨⟨rfl,by omega,by omega,by omega⟩,?_⟩
 have h0:(List.replicate (n:Int).toNat [DV.v (.int .u64 0)]).flatten=cU (relN n (l.take 0)):=by
  simp [relN,cU]
 refine loop_i (fun j st=>∃ e:Nat,st=rnewSt n l (relN n (l.take e)) e/\e<=l.length/\j=l.length - e) l.length (rnewSt n l (relN n (l.take 0)) 0) (weak_b 2 rfl (by repeat' (first | exact rfl | exact we_rfl rfl | exact weL_cU h0 | refine ⟨_,_,rfl,?_,?_⟩)) rfl rfl rfl (by repeat' (first | exact trivial | exact we_rfl rfl | exact weL_cU h0 | refine ⟨⟨_,rfl,?_⟩,?_⟩))) ⟨0,rfl,by omega,by omega⟩ ?_;rintro j st ⟨e,rfl,he,rfl⟩;refine br (fun hL=>?_) (fun hL=>?_)
 ·have hlt:e < l.length:=by have:=hL;simp [dNPs_len] at this;exact this
  obtain ⟨p,hp⟩:∃ p,l[e]? = some p:=⟨_,gE hlt⟩;obtain ⟨p1,p2⟩:=hl p (mG hp);refine ⟨_,⟨by omega,dNPs_get hp⟩,?_⟩;refine ⟨⟨by decide,by decide⟩,?_⟩;refine ⟨⟨by decide,by decide⟩,?_⟩;refine br (fun g=>?_) (fun g=>?_)
  ·refine ⟨⟨by decide,by decide⟩,?_⟩;refine ⟨⟨by decide,by decide⟩,?_⟩;refine br (fun g2=>?_) (fun g2=>?_)
   ·exfalso;simp [pickB] at g2;omega
   obtain ⟨x,hx⟩:∃ x,(relN n (l.take e))[p.1]? = some x:=⟨_,gE (by rw [relN_len];exact p1)⟩;have hok:=relN_ok hn (l.take e) (fun q hq=>hl q (List.mem_of_mem_take hq));have hx2:=hok.2 x (mG hx);have hoff:0 + (p.1:Int).toNat * 1=p.1:=by omega
   refine drawG_s mo (by decide +kernel) ?_;refine ⟨⟨by decide,by decide⟩,?_⟩;refine ⟨⟨by omega,by omega⟩,?_⟩;refine ⟨_,(by rw [hoff];exact cU_get hx:(cU (relN n (l.take e)))[0 + (p.1:Int).toNat * 1]? = some _),?_⟩;refine ⟨⟨by decide,by decide⟩,?_⟩;refine ⟨by omega,?_⟩;refine ⟨⟨by omega,by omega⟩,?_⟩;refine ⟨by rw [hoff,cU_len,relN_len];omega,?_⟩
   have hcs:(cU (relN n (l.take e))).set (0 + (p.1:Int).toNat * 1) (DV.v (.int .u64 (IntKind.u64.wrap ((BitVec.ofInt 64 (x:Int) ||| BitVec.ofInt 64 (IntKind.u64.wrap (1 * 2 ^ (min (p.2:Int).toNat 64)))).toNat:Int))))=cU (relN n (l.take (e + 1))):=by
    rw [hoff,show ((p.2:Int).toNat)=p.2 by omega,bit_or (by omega) hx2,cU_set,relN_snoc n l e hp];simp only [addP];rw [getD_some hx]
   refine ⟨rnewSt n l (relN n (l.take (e + 1))) (e + 1),(weak_b 2 rfl (by repeat' (first | exact rfl | exact we_rfl rfl | exact weL_cU hcs | exact we_int (nxt hlt (by omega)) | refine ⟨_,_,rfl,?_,?_⟩)) rfl rfl rfl (by repeat' (first | exact trivial | exact we_rfl rfl | exact weL_cU hcs | exact we_int (nxt hlt (by omega)) | refine ⟨⟨_,rfl,?_⟩,?_⟩))),l.length - (e + 1),by omega,e + 1,rfl,by omega,rfl⟩
  ·exfalso;simp [pickB] at g;omega
 ·have hge:e=l.length:=by have:=hL;simp [dNPs_len] at this;omega
  subst hge;rw [List.take_length];refine ⟨_,?_,rfl⟩;have hlen:=relN_len n l;generalize relN n l=rows at hlen ⊢;refine ⟨_,rfl,_,_,rfl,.inr ⟨1,_,rfl,Nat.zero_le _,rfl,_,_,rfl,.inr (.inr (.inl ⟨0,0,n,cU rows,by rw [dU_len,hlen],Nat.zero_le _,rfl,?_,?_,?_⟩)),rfl⟩,_,_,rfl,rfl,rfl⟩
  ·rw [dU_flat,dU_len,Nat.mul_one,List.drop_zero,List.take_of_length_le (by rw [cU_len];omega)]
  ·intro x hx;simp only [dU,List.mem_map] at hx;obtain ⟨y,_,rfl⟩:=hx;rfl
  ·intro x hx;rw [dU_flat] at hx;simp only [cU,List.mem_map] at hx;obtain ⟨y,_,rfl⟩:=hx;exact ⟨_,rfl⟩
def selfR (rows:List Nat) (k:Nat):List Nat:=rows.set k (rows.getD k 0 ||| 2 ^ k)
def stepR (k:Nat) (rows:List Nat) (a:Nat):List Nat:=if bitB rows a k then rows.set a (rows.getD a 0 ||| rows.getD k 0) else rows
def passR (rows:List Nat) (k e:Nat):List Nat:=(List.range e).foldl (stepR k) (selfR rows k)
def closeR (rows:List Nat) (e:Nat):List Nat:=(List.range e).foldl (fun r k=>passR r k r.length) rows
theorem set_ok {rows:List Nat} {i x:Nat} (h:RelOK rows) (hx:x < 18446744073709551616):RelOK (rows.set i x):=by
 refine ⟨by rw [List.length_set];exact h.1,fun y hy=>?_⟩;rcases List.mem_or_eq_of_mem_set hy with hy | rfl
 ·exact h.2 y hy
 ·exact hx
theorem getD_lt {rows:List Nat} (h:RelOK rows) (i:Nat):rows.getD i 0 < 18446744073709551616:=by
 rw [List.getD_eq_getElem?_getD]
 cases hx:rows[i]? with
 | none=>simp
 | some x=>exact h.2 x (mG hx)
theorem selfR_ok {rows:List Nat} {k:Nat} (h:RelOK rows) (hk:k < 64):RelOK (selfR rows k):=
 set_ok h (Nat.or_lt_two_pow (n:=64) (getD_lt h k) (Nat.pow_lt_pow_right (by decide) hk))
theorem selfR_len (rows:List Nat) (k:Nat):(selfR rows k).length=rows.length:=by simp [selfR]
theorem stepR_ok {rows:List Nat} {k a:Nat} (h:RelOK rows):RelOK (stepR k rows a):=by
 unfold stepR;split
 ·exact set_ok h (Nat.or_lt_two_pow (n:=64) (getD_lt h a) (getD_lt h k))
 ·exact h
theorem stepR_len (rows:List Nat) (k a:Nat):(stepR k rows a).length=rows.length:=by
 unfold stepR;split<;>simp
theorem passR_succ (rows:List Nat) (k e:Nat):passR rows k (e + 1)=stepR k (passR rows k e) e:=by simp [passR,List.range_succ]
theorem passR_len (rows:List Nat) (k:Nat):∀ e,(passR rows k e).length=rows.length
 | 0=>by simp [passR,selfR_len]
 | e + 1=>by rw [passR_succ,stepR_len,passR_len]
theorem passR_ok {rows:List Nat} {k:Nat} (h:RelOK rows) (hk:k < 64):∀ e,RelOK (passR rows k e)
 | 0=>by simpa [passR] using selfR_ok h hk
 | e + 1=>by rw [passR_succ];exact stepR_ok (passR_ok h hk e)
theorem closeR_succ (rows:List Nat) (e:Nat):closeR rows (e + 1)=passR (closeR rows e) e (closeR rows e).length:=by simp [closeR,List.range_succ]
theorem closeR_len (rows:List Nat):∀ e,(closeR rows e).length=rows.length
 | 0=>by simp [closeR]
 | e + 1=>by rw [closeR_succ,passR_len,closeR_len]
theorem closeR_ok {rows:List Nat} (h:RelOK rows):∀ e,e<=64->RelOK (closeR rows e)
 | 0,_=>by simpa [closeR] using h
 | e + 1,he=>by rw [closeR_succ];exact passR_ok (closeR_ok h e (by omega)) (by omega) _
def spU (m:Nat):List DV:=(List.replicate m (vL [Value.int .u64 0])).flatten
theorem weL_sc {n m:Nat} {tk:List TkE}:∀ l:List DV,(∀ x∈l,∃ y,x = .v y)->WeL n m tk l l
 | [],_=>rfl
 | b :: r,h=>by
  obtain ⟨y,rfl⟩:=h b (by simp);exact ⟨_,_,rfl,we_rfl rfl,weL_sc r (fun x hx=>h x (by simp [hx]))⟩
theorem weL_cs {n m:Nat} {tk:List TkE} {l:List DV} {ds:List Nat} {k:Nat} (h:l=cU ds ++ spU k):WeL n m tk l (cU ds ++ spU k):=by
 rw [h];refine weL_sc _ fun x hx=>?_;rcases List.mem_append.1 hx with hx | hx
 ·simp only [cU,List.mem_map] at hx;obtain ⟨y,_,rfl⟩:=hx;exact ⟨_,rfl⟩
 ·simp only [spU,List.mem_flatten,List.mem_replicate] at hx;obtain ⟨y,⟨_,rfl⟩,hx⟩:=hx;simp [vL] at hx;exact ⟨_,hx⟩
theorem cs_get {r:List Nat} {k i x:Nat} (h:r[i]? = some x):(cU r ++ spU k)[0 + (i:Int).toNat * 1]? = some (DV.v (.int .u64 (x:Int))):=by
 rw [show 0 + (i:Int).toNat * 1=i by omega,List.getElem?_append_left (by rw [cU_len];exact (gS h).1)];exact cU_get h
theorem cs_set {r:List Nat} {k i x:Nat} (h:i < r.length):(cU r ++ spU k).set (0 + (i:Int).toNat * 1) (DV.v (.int .u64 (x:Int)))=cU (r.set i x) ++ spU k:=by
 rw [show 0 + (i:Int).toNat * 1=i by omega,List.set_append_left _ _ (by rw [cU_len];exact h),cU_set]
theorem cs_len {r:List Nat} {k i:Nat} (h:i < r.length):0 + (i:Int).toNat * 1 + 1<=(cU r ++ spU k).length:=by
 rw [List.length_append,cU_len];omega
abbrev clSt (rows:List Nat) (cap:Nat) (r:List Nat) (e:Nat):St:=
 ⟨[(3,⟨[],.loc 1 0⟩),(19,⟨[],.v (.int .i64 (dU rows).length)⟩),(20,⟨[],.v (.int .i64 e)⟩)],[cU r ++ spU (cap - (dU rows).length),[.ms 0 1 0 (dU rows).length cap]],[]⟩
abbrev cl2St (rows:List Nat) (cap:Nat) (r:List Nat) (e f:Nat):St:=
 ⟨[(3,⟨[],.loc 1 0⟩),(4,⟨[],.v (.int .i64 e)⟩),(19,⟨[],.v (.int .i64 (dU rows).length)⟩),(20,⟨[],.v (.int .i64 e)⟩),(38,⟨[],.v (.int .i64 (dU rows).length)⟩),(39,⟨[],.v (.int .i64 f)⟩)],[cU r ++ spU (cap - (dU rows).length),[.ms 0 1 0 (dU rows).length cap]],[]⟩
theorem some_getD' {l:List Nat} {i:Nat} (h:i < l.length):l[i]? = some (l.getD i 0):=some_getD h
theorem rclose_spec (rows:List Nat) (hr:RelOK rows) (h0:rows ≠ []):EvP Tryz.prog 92 [dRel rows] (dRel (closeR rows rows.length)):=by
 have hr1:=hr.1;have hN:=dU_len rows;have hn0:0 < rows.length:=List.length_pos_iff.2 h0;refine evB_gom (s:=false) (bt:=[]) (mu:=[12]) (hbt:=fun p hp=>by cases hp) (fr:=false) (P:=Tryz.prog) tt tt_ok 5000 72 [.tmp 2] Tryz.func92 rfl Tryz.ntmps92 rfl (nL rfl) (fun E9 w9 hn9 hm9=>?_);refine ⟨⟨by intro h;exact h0 (by simpa [dU] using h),by rw [dU_len];simp [maxLen];omega,by rw [dU_len];omega⟩,fun cap hcap=>?_⟩
 have hb0:(dU rows).flatten.append (List.replicate (cap - (dU rows).length) (vL [Value.int .u64 0])).flatten=cU (closeR rows 0) ++ spU (cap - (dU rows).length):=by
  show (dU rows).flatten ++ _=_;rw [dU_flat];rfl
 refine loop_i (fun j st=>∃ e:Nat,st=clSt rows cap (closeR rows e) e/\e<=rows.length/\j=rows.length - e) rows.length (clSt rows cap (closeR rows 0) 0) (weak_b 2 rfl (by repeat' (first | exact rfl | exact we_rfl rfl | exact weL_cs hb0 | refine ⟨_,_,rfl,?_,?_⟩)) rfl rfl rfl (by repeat' (first | exact trivial | exact we_rfl rfl | exact weL_cs hb0 | refine ⟨⟨_,rfl,?_⟩,?_⟩))) ⟨0,rfl,by omega,by omega⟩ ?_;rintro j st ⟨e,rfl,he,rfl⟩;have hok:=closeR_ok hr e (by omega);have hlen:=closeR_len rows e;have hsucc:=closeR_succ rows e;generalize hce:closeR rows e=r at hok hlen hsucc ⊢;refine br (fun hL=>?_) (fun hL=>?_)
 ·have hlt:e < rows.length:=by have:=hL;simp [hN] at this;exact this
  have hx:=some_getD' (l:=r) (i:=e) (by omega);have hor:=bit_or (x:=r.getD e 0) (b:=e) (by omega) (getD_lt hok e);refine drawG_s mo (by decide +kernel) ?_;refine ⟨⟨by omega,by omega⟩,?_⟩;refine ⟨_,cs_get hx,?_⟩;refine ⟨by omega,?_⟩;refine ⟨⟨by omega,by omega⟩,?_⟩;refine ⟨cs_len (by omega),?_⟩
  have hb1:(cU r ++ spU (cap - (dU rows).length)).set (0 + (e:Int).toNat * 1) (DV.v (.int .u64 (IntKind.u64.wrap ((BitVec.ofInt 64 ((r.getD e 0:Nat):Int) ||| BitVec.ofInt 64 (IntKind.u64.wrap (1 * 2 ^ (min (e:Int).toNat 64)))).toNat:Int))))=cU (passR r e 0) ++ spU (cap - (dU rows).length):=by
   rw [show min (e:Int).toNat 64=min e 64 by omega,hor,cs_set (by omega)];rfl
  refine loop_i (fun j st=>∃ f:Nat,st=cl2St rows cap (passR r e f) e f/\f<=rows.length/\j=rows.length - f) rows.length (cl2St rows cap (passR r e 0) e 0) (weak_b 2 rfl (by repeat' (first | exact rfl | exact we_rfl rfl | exact weL_cs hb1 | refine ⟨_,_,rfl,?_,?_⟩)) rfl rfl rfl (by repeat' (first | exact trivial | exact we_rfl rfl | exact weL_cs hb1 | refine ⟨⟨_,rfl,?_⟩,?_⟩))) ⟨0,rfl,by omega,by omega⟩ ?_;rintro j st ⟨f,rfl,hf,rfl⟩;have hpk:=passR_ok (k:=e) hok (by omega) f;have hpl:=passR_len r e f;have hps:=passR_succ r e f;have hpe:e < (passR r e f).length:=by rw [hpl];omega
  refine br (fun hL=>?_) (fun hL=>?_)
  ·have hlf:f < rows.length:=by have:=hL;simp [hN] at this;exact this
   have hpf:f < (passR r e f).length:=by rw [hpl];omega
   generalize passR r e f=q at hpk hpl hps hpe hpf ⊢;have hy:=some_getD' hpf;have hz:=some_getD' hpe;have hbit:=bit_has (x:=q.getD f 0) (b:=e) (by omega) (getD_lt hpk f);have hor:=bits_or (getD_lt hpk f) (getD_lt hpk e);refine ⟨⟨by omega,by omega⟩,?_⟩;refine ⟨_,cs_get hy,?_⟩;refine ⟨by omega,?_⟩;refine br (fun g=>?_) (fun g=>?_)
   ·have g:bitB q f e=true:=hbit.symm.trans g;refine drawG_s mo (by decide +kernel) ?_;refine ⟨⟨by omega,by omega⟩,?_⟩;refine ⟨_,cs_get hy,?_⟩;refine ⟨⟨by omega,by omega⟩,?_⟩;refine ⟨_,cs_get hz,?_⟩;refine ⟨⟨by omega,by omega⟩,?_⟩;refine ⟨cs_len hpf,?_⟩
    have hb2:(cU q ++ spU (cap - (dU rows).length)).set (0 + (f:Int).toNat * 1) (DV.v (.int .u64 (IntKind.u64.wrap ((BitVec.ofInt 64 ((q.getD f 0:Nat):Int) ||| BitVec.ofInt 64 ((q.getD e 0:Nat):Int)).toNat:Int))))=cU (passR r e (f + 1)) ++ spU (cap - (dU rows).length):=by
     rw [hor,cs_set hpf,hps,stepR,if_pos g]
    exact ⟨cl2St rows cap (passR r e (f + 1)) e (f + 1),(weak_b 2 rfl (by repeat' (first | exact rfl | exact we_rfl rfl | exact weL_cs hb2 | exact we_int (nxt hlf (by omega)) | refine ⟨_,_,rfl,?_,?_⟩)) rfl rfl rfl (by repeat' (first | exact trivial | exact we_rfl rfl | exact weL_cs hb2 | exact we_int (nxt hlf (by omega)) | refine ⟨⟨_,rfl,?_⟩,?_⟩))),rows.length - (f + 1),by omega,f + 1,rfl,by omega,rfl⟩
   ·have g:bitB q f e=false:=hbit.symm.trans g
    have hb2:cU q ++ spU (cap - (dU rows).length)=cU (passR r e (f + 1)) ++ spU (cap - (dU rows).length):=by
     rw [hps,stepR,if_neg (by rw [g];decide)]
    exact ⟨cl2St rows cap (passR r e (f + 1)) e (f + 1),(weak_b 2 rfl (by repeat' (first | exact rfl | exact we_rfl rfl | exact weL_cs hb2 | exact we_int (nxt hlf (by omega)) | refine ⟨_,_,rfl,?_,?_⟩)) rfl rfl rfl (by repeat' (first | exact trivial | exact we_rfl rfl | exact weL_cs hb2 | exact we_int (nxt hlf (by omega)) | refine ⟨⟨_,rfl,?_⟩,?_⟩))),rows.length - (f + 1),by omega,f + 1,rfl,by omega,rfl⟩
  ·have hge:f=rows.length:=by have:=hL;simp [hN] at this;omega
   subst hge
   have hb3:cU (passR r e rows.length) ++ spU (cap - (dU rows).length)=cU (closeR rows (e + 1)) ++ spU (cap - (dU rows).length):=by
    rw [hsucc,hlen]
   exact ⟨clSt rows cap (closeR rows (e + 1)) (e + 1),(weak_b 2 rfl (by repeat' (first | exact rfl | exact we_rfl rfl | exact weL_cs hb3 | exact we_int (nxt hlt (by omega)) | refine ⟨_,_,rfl,?_,?_⟩)) rfl rfl rfl (by repeat' (first | exact trivial | exact we_rfl rfl | exact weL_cs hb3 | exact we_int (nxt hlt (by omega)) | refine ⟨⟨_,rfl,?_⟩,?_⟩))),rows.length - (e + 1),by omega,e + 1,rfl,by omega,rfl⟩
 ·have hge:e=rows.length:=by have:=hL;simp [hN] at this;omega
  subst hge;refine ⟨_,?_,rfl⟩;rw [hce];refine .inr ⟨1,_,rfl,Nat.zero_le _,rfl,_,_,rfl,.inr (.inr (.inl ⟨0,0,cap,cU r ++ spU (cap - (dU rows).length),by rw [dU_len r,hlen,hN],Nat.zero_le _,rfl,?_,?_,?_⟩)),rfl⟩
  ·rw [dU_flat,dU_len,Nat.mul_one,List.drop_zero,List.take_append_of_le_length (by rw [cU_len];omega),List.take_of_length_le (by rw [cU_len];omega)]
  ·intro x hx;simp only [dU,List.mem_map] at hx;obtain ⟨y,_,rfl⟩:=hx;rfl
  ·intro x hx;rw [dU_flat] at hx;simp only [cU,List.mem_map] at hx;obtain ⟨y,_,rfl⟩:=hx;exact ⟨_,rfl⟩
theorem and_split {a b c d:Nat} (ha:a < 256) (hb:b < 256):(a + 256 * c) &&& (b + 256 * d)=(a &&& b) + 256 * (c &&& d):=by
 have h1:a &&& b < 256:=Nat.and_lt_two_pow (n:=8) a hb;apply Nat.eq_of_testBit_eq;intro i
 have e (x y:Nat) (hx:x < 256):(x + 256 * y).testBit i=if i < 8 then x.testBit i else y.testBit (i - 8):=by
  rw [show x + 256 * y=2 ^ 8 * y + x by omega,Nat.testBit_two_pow_mul_add _ (by simpa using hx)]
 rw [Nat.testBit_and,e a c ha,e b d hb,e _ _ h1];split<;>simp [Nat.testBit_and]
def b1 (x:Nat):Nat:=((x / 2) &&& 85) + (x &&& 85)
def b2 (x:Nat):Nat:=((x / 4) &&& 51) + (x &&& 51)
def b3 (x:Nat):Nat:=((x / 16) + x) &&& 15
def pop8 (x:Nat):Nat:=b3 (b2 (b1 x))
theorem pop8_le:∀ x:Fin 256,b1 x.val < 256/\b2 (b1 x.val) < 120/\pop8 x.val<=8/\pop8 x.val=(((((((x.val.testBit 0).toNat + (x.val.testBit 1).toNat) + (x.val.testBit 2).toNat) + (x.val.testBit 3).toNat) + (x.val.testBit 4).toNat) + (x.val.testBit 5).toNat) + (x.val.testBit 6).toNat) + (x.val.testBit 7).toNat:=by decide +kernel
def valB:List Nat->Nat
 | []=>0
 | a :: r=>a + 256 * valB r
def rep (m:Nat):Nat->Nat
 | 0=>0
 | n + 1=>m + 256 * rep m n
theorem m1:∀ (a:Fin 256) (c:Fin 2),(a.val / 2 + 128 * c.val) &&& 85=(a.val / 2) &&& 85:=by decide +kernel
theorem m2:∀ (a:Fin 256) (c:Fin 4),(a.val / 4 + 64 * c.val) &&& 51=(a.val / 4) &&& 51:=by decide +kernel
theorem st1:∀ l:List Nat,(∀ a∈l,a < 256)->((valB l / 2) &&& rep 85 l.length) + (valB l &&& rep 85 l.length)=valB (l.map b1)
 | [],_=>rfl
 | a :: r,h=>by
  have ih:=st1 r (fun x hx=>h x (by simp [hx]));have ha:=h a (by simp);have e1:(a + 256 * valB r) / 2=(a / 2 + 128 * (valB r % 2)) + 256 * (valB r / 2):=by omega
  have hm:=m1 ⟨a,ha⟩ ⟨valB r % 2,by omega⟩;simp only at hm;simp only [valB,List.length_cons,rep,List.map_cons,b1];rw [e1,and_split (by omega) (by decide),and_split ha (by decide),hm,<- ih];omega
theorem st2:∀ l:List Nat,(∀ a∈l,a < 256)->((valB l / 4) &&& rep 51 l.length) + (valB l &&& rep 51 l.length)=valB (l.map b2)
 | [],_=>rfl
 | a :: r,h=>by
  have ih:=st2 r (fun x hx=>h x (by simp [hx]));have ha:=h a (by simp);have e1:(a + 256 * valB r) / 4=(a / 4 + 64 * (valB r % 4)) + 256 * (valB r / 4):=by omega
  have hm:=m2 ⟨a,ha⟩ ⟨valB r % 4,by omega⟩;simp only at hm;simp only [valB,List.length_cons,rep,List.map_cons,b2];rw [e1,and_split (by omega) (by decide),and_split ha (by decide),hm,<- ih];omega
theorem and15 (x y:Nat):(x + 16 * y) &&& 15=x &&& 15:=by
 have h (z:Nat):z &&& 15=z % 16:=Nat.and_two_pow_sub_one_eq_mod z 4;rw [h,h];omega
def half4 (a:Nat):Prop:=a < 70/\a % 16<=4
theorem st3:∀ l:List Nat,(∀ a∈l,half4 a)->((valB l / 16) + valB l) &&& rep 15 l.length=valB (l.map b3)
 | [],_=>rfl
 | a :: r,h=>by
  have ih:=st3 r (fun x hx=>h x (by simp [hx]));have ha:=h a (by simp)
  have hc:valB r % 16<=4:=by
   cases r with
   | nil=>simp [valB]
   | cons b s=>
    have:=(h b (by simp)).2;simp only [valB];omega
  unfold half4 at ha;have e1:(a + 256 * valB r) / 16 + (a + 256 * valB r)=((a / 16 + a) + 16 * (valB r % 16)) + 256 * (valB r / 16 + valB r):=by omega
  simp only [valB,List.length_cons,rep,List.map_cons,b3];rw [e1,and_split (by omega) (by decide),and15,ih]
def bytes8 (x:Nat):List Nat:=[x % 256,x / 256 % 256,x / 65536 % 256,x / 16777216 % 256,x / 4294967296 % 256,x / 1099511627776 % 256,x / 281474976710656 % 256,x / 72057594037927936 % 256]
theorem bytes8_val {x:Nat} (h:x < 18446744073709551616):valB (bytes8 x)=x:=by
 simp only [bytes8,valB];omega
theorem bytes8_lt (x:Nat):∀ a∈bytes8 x,a < 256:=by
 intro a ha;simp only [bytes8,List.mem_cons,List.not_mem_nil,or_false] at ha;omega
def ones (x:Nat):Nat:=((bytes8 x).map pop8).sum
theorem b12_half:∀ a:Fin 256,b1 a.val < 256/\b2 (b1 a.val) < 70/\b2 (b1 a.val) % 16<=4:=by decide +kernel
theorem and_nat {x m:Nat} (hx:x < 18446744073709551616) (hm:m < 18446744073709551616) :
  IntKind.u64.wrap ((BitVec.ofInt 64 (x:Int) &&& BitVec.ofInt 64 (m:Int)).toNat:Int)=((x &&& m:Nat):Int):=by
 rw [ofInt_nat,ofInt_nat,BitVec.toNat_and,BitVec.toNat_ofNat,BitVec.toNat_ofNat,Nat.mod_eq_of_lt hx,Nat.mod_eq_of_lt hm];have h3:x &&& m < 18446744073709551616:=Nat.and_lt_two_pow (n:=64) x hm;simp only [IntKind.wrap_u64];omega
theorem fdiv_k {x:Nat} {k:Int} (hk:k.toNat < 64):(x:Int).fdiv (2 ^ min k.toNat IntKind.u64.bits)=((x / 2 ^ k.toNat:Nat):Int):=by
 rw [show min k.toNat IntKind.u64.bits=k.toNat from Nat.min_eq_left (by show k.toNat<=64;omega),fdiv_nat]
theorem u64_nat {y:Nat} (h:y < 18446744073709551616):IntKind.u64.wrap (y:Int)=(y:Int):=by
 simp only [IntKind.wrap_u64];omega
theorem stgA {k M:Int} {m x y:Nat} (hk:k.toNat < 64) (hx:x < 18446744073709551616) (hM:M=(m:Int)) (hm:m < 18446744073709551616) (hy:((x / 2 ^ k.toNat) &&& m) + (x &&& m)=y) (hy2:y < 18446744073709551616) :
  IntKind.u64.wrap (IntKind.u64.wrap ((BitVec.ofInt IntKind.u64.bits ((x:Int).fdiv (2 ^ min k.toNat IntKind.u64.bits)) &&& BitVec.ofInt IntKind.u64.bits M).toNat:Int) + IntKind.u64.wrap ((BitVec.ofInt IntKind.u64.bits (x:Int) &&& BitVec.ofInt IntKind.u64.bits M).toNat:Int))=(y:Int):=by
 subst hM;have h1:x / 2 ^ k.toNat < 18446744073709551616:=Nat.lt_of_le_of_lt (Nat.div_le_self _ _) hx;have e1:IntKind.u64.wrap ((BitVec.ofInt IntKind.u64.bits ((x / 2 ^ k.toNat:Nat):Int) &&& BitVec.ofInt IntKind.u64.bits (m:Int)).toNat:Int)=_:=and_nat h1 hm;have e2:IntKind.u64.wrap ((BitVec.ofInt IntKind.u64.bits (x:Int) &&& BitVec.ofInt IntKind.u64.bits (m:Int)).toNat:Int)=_:=and_nat hx hm;rw [fdiv_k hk,e1,e2,<- Int.natCast_add,hy,u64_nat hy2]
theorem stgB {k M:Int} {m x y:Nat} (hk:k.toNat < 64) (hs:x / 2 ^ k.toNat + x < 18446744073709551616) (hM:M=(m:Int)) (hm:m < 18446744073709551616) (hy:((x / 2 ^ k.toNat) + x) &&& m=y) :
  IntKind.u64.wrap ((BitVec.ofInt IntKind.u64.bits (IntKind.u64.wrap ((x:Int).fdiv (2 ^ min k.toNat IntKind.u64.bits) + (x:Int))) &&& BitVec.ofInt IntKind.u64.bits M).toNat:Int)=(y:Int):=by
 subst hM;have e2:IntKind.u64.wrap ((BitVec.ofInt IntKind.u64.bits ((x / 2 ^ k.toNat + x:Nat):Int) &&& BitVec.ofInt IntKind.u64.bits (m:Int)).toNat:Int)=_:=and_nat hs hm;rw [fdiv_k hk,<- Int.natCast_add,u64_nat hs,e2,hy]
theorem stgC {k:Int} {x:Nat} (hk:k.toNat < 64) (hs:x + x / 2 ^ k.toNat < 18446744073709551616) :
  IntKind.u64.wrap ((x:Int) + (x:Int).fdiv (2 ^ min k.toNat IntKind.u64.bits))=((x + x / 2 ^ k.toNat:Nat):Int):=by
 rw [fdiv_k hk,<- Int.natCast_add,u64_nat hs]
theorem valB_lt:∀ l:List Nat,(∀ a∈l,a < 256)->valB l < 256 ^ l.length
 | [],_=>by simp [valB]
 | a :: r,h=>by
  have ih:=valB_lt r (fun x hx=>h x (by simp [hx]));have ha:=h a (by simp);simp only [valB,List.length_cons,Nat.pow_succ];omega
theorem ones_law {x:Nat} (hx:x < 18446744073709551616):∃ y1 y2 y3:Nat,((x / 2) &&& 6148914691236517205) + (x &&& 6148914691236517205)=y1/\y1 < 18446744073709551616/\((y1 / 4) &&& 3689348814741910323) + (y1 &&& 3689348814741910323)=y2/\y2 / 16 + y2 < 18446744073709551616/\y2 < 18446744073709551616 /\
  ((y2 / 16) + y2) &&& 1085102592571150095=y3/\∃ p0 p1 p2 p3 p4 p5 p6 p7:Nat,y3=valB [p0,p1,p2,p3,p4,p5,p6,p7]/\(p0<=8/\p1<=8/\p2<=8/\p3<=8/\p4<=8/\p5<=8/\p6<=8/\p7<=8)/\ones x=p0 + p1 + p2 + p3 + p4 + p5 + p6 + p7:=by
 have hl:=bytes8_lt x;have s1:=st1 (bytes8 x) hl;rw [bytes8_val hx] at s1
 have l1:∀ a∈(bytes8 x).map b1,a < 256:=by
  intro a ha;obtain ⟨b,hb,rfl⟩:=List.mem_map.1 ha;exact (b12_half ⟨b,hl b hb⟩).1
 have l2:∀ a∈((bytes8 x).map b1).map b2,half4 a:=by
  intro a ha;obtain ⟨c,hc,rfl⟩:=List.mem_map.1 ha;obtain ⟨b,hb,rfl⟩:=List.mem_map.1 hc;exact (b12_half ⟨b,hl b hb⟩).2
 have s2:=st2 ((bytes8 x).map b1) l1;have s3:=st3 (((bytes8 x).map b1).map b2) l2
 have v1:valB ((bytes8 x).map b1) < 18446744073709551616:=by
  have:=valB_lt _ l1;rw [List.length_map,show (bytes8 x).length=8 from rfl] at this;simpa using this
 rw [show rep 85 (bytes8 x).length=6148914691236517205 from (by decide:rep 85 8=_)] at s1;rw [List.length_map,show rep 51 (bytes8 x).length=3689348814741910323 from (by decide:rep 51 8=_)] at s2;rw [List.length_map,List.length_map,show rep 15 (bytes8 x).length=1085102592571150095 from (by decide:rep 15 8=_)] at s3;refine ⟨_,_,_,s1,v1,s2,?_,?_,s3,_,_,_,_,_,_,_,_,rfl,?_,?_⟩
 ·have:=l2;simp only [bytes8,List.map_cons,List.map_nil,List.mem_cons,List.not_mem_nil,or_false,forall_eq_or_imp,forall_eq,half4,valB] at this ⊢;omega
 ·have:=l2;simp only [bytes8,List.map_cons,List.map_nil,List.mem_cons,List.not_mem_nil,or_false,forall_eq_or_imp,forall_eq,half4,valB] at this ⊢;omega
 ·have h (b:Nat) (hb:b < 256):=(pop8_le ⟨b,hb⟩).2.2.1;exact ⟨h _ (by omega),h _ (by omega),h _ (by omega),h _ (by omega),h _ (by omega),h _ (by omega),h _ (by omega),h _ (by omega)⟩
 ·simp only [ones,bytes8,List.map_cons,List.map_nil,List.sum_cons,List.sum_nil,pop8];omega
theorem dr1 {a r:Nat} (h:a < 256):(a + 256 * r) / 256=r:=by omega
theorem dr2 {a b r:Nat} (h:a < 256) (h2:b < 256):(a + 256 * (b + 256 * r)) / 65536=r:=by omega
theorem dr4 {a b c d r:Nat} (h:a < 256) (h2:b < 256) (h3:c < 256) (h4:d < 256):(a + 256 * (b + 256 * (c + 256 * (d + 256 * r)))) / 4294967296=r:=by omega
theorem fold_law {p0 p1 p2 p3 p4 p5 p6 p7:Nat} (hp:p0<=8/\p1<=8/\p2<=8/\p3<=8/\p4<=8/\p5<=8/\p6<=8/\p7<=8):∃ z1 z2 z3:Nat,
  (p0 + 256 * (p1 + 256 * (p2 + 256 * (p3 + 256 * (p4 + 256 * (p5 + 256 * (p6 + 256 * (p7 + 256 * 0)))))))) + (p0 + 256 * (p1 + 256 * (p2 + 256 * (p3 + 256 * (p4 + 256 * (p5 + 256 * (p6 + 256 * (p7 + 256 * 0)))))))) / 256=z1/\z1 < 18446744073709551616 /\
  z1 + z1 / 65536=z2/\z2 < 18446744073709551616/\z2 + z2 / 4294967296=z3/\z3 < 18446744073709551616/\z3 % 128=p0 + p1 + p2 + p3 + p4 + p5 + p6 + p7:=by
 refine ⟨(p0 + p1) + 256 * ((p1 + p2) + 256 * ((p2 + p3) + 256 * ((p3 + p4) + 256 * ((p4 + p5) + 256 * ((p5 + p6) + 256 * ((p6 + p7) + 256 * p7)))))),
  (p0 + p1 + p2 + p3) + 256 * ((p1 + p2 + p3 + p4) + 256 * ((p2 + p3 + p4 + p5) + 256 * ((p3 + p4 + p5 + p6) + 256 * ((p4 + p5 + p6 + p7) + 256 * ((p5 + p6 + p7) + 256 * ((p6 + p7) + 256 * p7)))))),
  (p0 + p1 + p2 + p3 + p4 + p5 + p6 + p7) + 256 * ((p1 + p2 + p3 + p4 + p5 + p6 + p7) + 256 * ((p2 + p3 + p4 + p5 + p6 + p7) + 256 * ((p3 + p4 + p5 + p6 + p7) + 256 * ((p4 + p5 + p6 + p7) + 256 * ((p5 + p6 + p7) + 256 * ((p6 + p7) + 256 * p7)))))),?_,by omega,?_,by omega,?_,by omega,by omega⟩
 ·rw [dr1 (by omega)];omega
 ·rw [dr2 (by omega) (by omega)];omega
 ·rw [dr4 (by omega) (by omega) (by omega) (by omega)];omega
theorem last_law {z:Nat} (h:z < 18446744073709551616):IntKind.i64.wrap ((BitVec.ofInt IntKind.i64.bits (IntKind.i64.wrap (z:Int)) &&& BitVec.ofInt IntKind.i64.bits 127).toNat:Int)=((z % 128:Nat):Int):=by
 have e1:BitVec.ofInt 64 (IntKind.i64.wrap (z:Int))=BitVec.ofNat 64 z:=by
  apply BitVec.eq_of_toNat_eq;rw [BitVec.toNat_ofInt,BitVec.toNat_ofNat,IntKind.wrap_i64];omega
 have e2:(BitVec.ofInt 64 (IntKind.i64.wrap (z:Int)) &&& BitVec.ofInt 64 127).toNat=z % 128:=by
  rw [e1,show BitVec.ofInt 64 127=BitVec.ofNat 64 127 by decide,BitVec.toNat_and,BitVec.toNat_ofNat,BitVec.toNat_ofNat,Nat.mod_eq_of_lt h];exact Nat.and_two_pow_sub_one_eq_mod z 7
 have e3:(BitVec.ofInt IntKind.i64.bits (IntKind.i64.wrap (z:Int)) &&& BitVec.ofInt IntKind.i64.bits 127).toNat=z % 128:=e2;rw [e3,IntKind.wrap_i64];omega
theorem ones_spec (x:Nat) (hx:x < 18446744073709551616):EvP Tryz.prog 151 [.v (.int .u64 x)] (.v (.int .i64 (ones x:Nat))):=by
 obtain ⟨y1,y2,y3,h1,h1b,h2,h2s,h2b,h3,p0,p1,p2,p3,p4,p5,p6,p7,h4,hp,h5⟩:=ones_law hx;rw [h5];simp only [valB] at h4;refine ev_go (P:=Tryz.prog) tt tt_ok 5000 35 [.tmp 2] Tryz.func151 rfl Tryz.ntmps151 rfl (nL rfl) (fun E9 w9 hn9 hm9=>?_);refine ⟨by decide,?_⟩;refine ⟨by decide,?_⟩;refine ⟨by decide,?_⟩;refine ⟨by decide,?_⟩;refine ⟨by decide,?_⟩;refine ⟨by decide,?_⟩;refine (congrArg (fun z=>DV.v (.int .i64 z)) ?_:_=_);rw [stgA (k:=1) (M:=6148914691236517205) (by decide) hx rfl (by decide) h1 h1b,stgA (k:=2) (M:=3689348814741910323) (by decide) h1b rfl (by decide) h2 h2b,stgB (k:=4) (M:=1085102592571150095) (by decide) h2s rfl (by decide) h3];obtain ⟨z1,z2,z3,g1,g1b,g2,g2b,g3,g3b,g4⟩:=fold_law hp;rw [<- h4] at g1;have k1:y3 + y3 / 2 ^ (8:Int).toNat=z1:=g1;rw [stgC (k:=8) (by decide) (by rw [k1];exact g1b),k1];have k2:z1 + z1 / 2 ^ (16:Int).toNat=z2:=g2;rw [stgC (k:=16) (by decide) (by rw [k2];exact g2b),k2];have k3:z2 + z2 / 2 ^ (32:Int).toNat=z3:=g3;rw [stgC (k:=32) (by decide) (by rw [k3];exact g3b),k3,<- g4];exact last_law g3b
theorem byte_bit (x k i:Nat) (hi:i < 8):(x / 2 ^ (8 * k) % 256).testBit i=x.testBit (8 * k + i):=by
 rw [show (256:Nat)=2 ^ 8 by decide,Nat.testBit_mod_two_pow,decide_eq_true hi,Bool.true_and,Nat.testBit_div_two_pow,Nat.add_comm]
theorem byte_pop (x k:Nat):pop8 (x / 2 ^ (8 * k) % 256)=(((((((x.testBit (8 * k + 0)).toNat + (x.testBit (8 * k + 1)).toNat) + (x.testBit (8 * k + 2)).toNat) + (x.testBit (8 * k + 3)).toNat) + (x.testBit (8 * k + 4)).toNat) + (x.testBit (8 * k + 5)).toNat) + (x.testBit (8 * k + 6)).toNat) + (x.testBit (8 * k + 7)).toNat:=by
 have h:=(pop8_le ⟨x / 2 ^ (8 * k) % 256,Nat.mod_lt _ (by decide)⟩).2.2.2;simp only at h;rw [h,byte_bit x k 0 (by decide),byte_bit x k 1 (by decide),byte_bit x k 2 (by decide),byte_bit x k 3 (by decide),byte_bit x k 4 (by decide),byte_bit x k 5 (by decide),byte_bit x k 6 (by decide),byte_bit x k 7 (by decide)]
def sumB (x:Nat):Nat->Nat
 | 0=>0
 | n + 1=>sumB x n + (x.testBit n).toNat
theorem ones_sum (x:Nat):ones x=sumB x 64:=by
 have h0:=byte_pop x 0;have h1:=byte_pop x 1;have h2:=byte_pop x 2;have h3:=byte_pop x 3;have h4:=byte_pop x 4;have h5:=byte_pop x 5;have h6:=byte_pop x 6;have h7:=byte_pop x 7;simp only [Nat.mul_zero,Nat.pow_zero,Nat.div_one] at h0;simp only [ones,bytes8,List.map_cons,List.map_nil,List.sum_cons,List.sum_nil,sumB];rw [h0]
 rw [show x / 256=x / 2 ^ (8 * 1) by rfl,h1,show x / 65536=x / 2 ^ (8 * 2) by rfl,h2,show x / 16777216=x / 2 ^ (8 * 3) by rfl,h3,show x / 4294967296=x / 2 ^ (8 * 4) by rfl,h4,
  show x / 1099511627776=x / 2 ^ (8 * 5) by rfl,h5,show x / 281474976710656=x / 2 ^ (8 * 6) by rfl,h6,show x / 72057594037927936=x / 2 ^ (8 * 7) by rfl,h7]
 simp only [Nat.reduceMul,Nat.reduceAdd];omega
theorem sumB_pos (x:Nat):∀ n,0 < sumB x n↔∃ b,b < n/\x.testBit b=true
 | 0=>by simp [sumB]
 | n + 1=>by
  have ih:=sumB_pos x n;simp only [sumB];cases h:x.testBit n
  ·simp only [Bool.toNat_false,Nat.add_zero,ih]
   exact ⟨fun ⟨b,hb,hx⟩=>⟨b,by omega,hx⟩,fun ⟨b,hb,hx⟩=>⟨b,by
    rcases Nat.lt_succ_iff_lt_or_eq.1 hb with hb | rfl
    ·exact ⟨hb,hx⟩
    ·rw [h] at hx;cases hx⟩⟩
  ·simp only [Bool.toNat_true];exact ⟨fun _=>⟨n,by omega,h⟩,fun _=>by omega⟩
theorem sumB_two (x a:Nat) (ha:x.testBit a=true):∀ n,a < n->(1 < sumB x n↔∃ b,b < n/\b≠a/\x.testBit b=true)
 | 0,h=>by omega
 | n + 1,h=>by
  simp only [sumB];by_cases hn:a=n
  ·subst hn;rw [ha,Bool.toNat_true];have:=sumB_pos x a;constructor
   ·intro h1;obtain ⟨b,hb,hx⟩:=this.1 (by omega);exact ⟨b,by omega,by omega,hx⟩
   ·rintro ⟨b,hb,hne,hx⟩;have:=this.2 ⟨b,by omega,hx⟩;omega
  ·have ih:=sumB_two x a ha n (by omega);have hp:=(sumB_pos x n).2 ⟨a,by omega,ha⟩;cases hb:x.testBit n
   ·simp only [Bool.toNat_false,Nat.add_zero,ih]
    exact ⟨fun ⟨b,h1,h2,h3⟩=>⟨b,by omega,h2,h3⟩,fun ⟨b,h1,h2,h3⟩=>⟨b,by
     rcases Nat.lt_succ_iff_lt_or_eq.1 h1 with h1 | rfl
     ·exact ⟨h1,h2,h3⟩
     ·rw [hb] at h3;cases h3⟩⟩
   ·simp only [Bool.toNat_true];exact ⟨fun _=>⟨n,by omega,fun e=>hn e.symm,hb⟩,fun _=>by omega⟩
def firstN (p:Nat->Bool) (n:Nat):Option Nat:=(List.range n).find? p
theorem firstN_some {p:Nat->Bool} {n e:Nat} (he:e < n) (hp:p e=true) (h:∀ a,a < e->p a=false):firstN p n=some e:=by
 unfold firstN;rw [List.find?_eq_some_iff_getElem];refine ⟨hp,e,by simpa using he,by simp,fun j hj=>?_⟩;simp [h j hj]
theorem firstN_none {p:Nat->Bool} {n:Nat} (h:∀ a,a < n->p a=false):firstN p n=none:=by
 unfold firstN;rw [List.find?_eq_none];intro x hx;simp [h x (by simpa using hx)]
theorem firstN_spec {p:Nat->Bool} {n e:Nat} (h:firstN p n=some e):e < n/\p e=true/\∀ a,a < e->p a=false:=by
 unfold firstN at h;rw [List.find?_eq_some_iff_getElem] at h;obtain ⟨h1,i,hi,rfl,h3⟩:=h;refine ⟨by simpa using hi,h1,fun a ha=>?_⟩;have:=h3 a (by simpa using ha);simpa using this
def loopB (c:List Nat) (a:Nat):Bool:=decide (1 < ones (backN c a c.length))
def optD2:Option Nat->DV
 | some a=>.tup [.v (.int .i64 (a:Int)),.v (.bool true)]
 | none=>.tup [.v (.int .i64 0),.v (.bool false)]
abbrev rloopSt (c:List Nat) (e:Nat):St:=
 ⟨[(4,⟨[],dRel c⟩),(9,⟨[],.v (.int .i64 c.length)⟩),(10,⟨[],.v (.int .i64 e)⟩)],[],[]⟩
theorem rloop_spec (rows:List Nat) (hr:RelOK rows) (h0:rows ≠ []):EvP Tryz.prog 91 [dRel rows] (optD2 (firstN (loopB (closeR rows rows.length)) rows.length)):=by
 have hc:=rclose_spec rows hr h0;have hok:=closeR_ok hr rows.length hr.1;have hlen:=closeR_len rows rows.length;have hr1:=hr.1;generalize closeR rows rows.length=c at hc hok hlen ⊢;rw [<- hlen];have hl:=rlen_spec c;refine ev_go (P:=Tryz.prog) tt tt_ok 5000 20 [.tmp 2,.tmp 3] Tryz.func91 rfl Tryz.ntmps91 rfl (nL rfl) (fun E9 w9 hn9 hm9=>?_);refine call_p en92 (hc) ax rfl ?_;refine call_p en150 (hl) ax rfl ?_;refine loop_i (fun j st=>∃ e:Nat,st=rloopSt c e/\e<=c.length/\(∀ a,a < e->loopB c a=false)/\j=c.length - e) c.length (rloopSt c 0) (weak_mk ⟨_,rfl⟩ wA rfl rfl rfl wB) ⟨0,rfl,by omega,fun a h=>by omega,by omega⟩ ?_;rintro j st ⟨e,rfl,he,hno,rfl⟩;refine br (fun hL=>?_) (fun hL=>?_)
 ·have hlt:e < c.length:=by have:=hL;simp at this;exact this
  have hb64:backN c e c.length < 18446744073709551616:=by
   have h1:=backN_lt c e c.length;have:2 ^ c.length<=2 ^ 64:=Nat.pow_le_pow_right (by decide) (by omega);omega
  refine call_p en152 (rback_spec c hok e hlt) ax rfl ?_;refine call_p en151 (ones_spec _ hb64) ax rfl ?_;refine br (fun g=>?_) (fun g=>?_)
  ·have g:loopB c e=true:=by
    simp at g;simp [loopB];omega
   rw [firstN_some hlt g hno];refine ⟨_,?_,rfl⟩;exact ax
  ·have g:loopB c e=false:=by
    simp at g;simp [loopB];omega
   exact ⟨rloopSt c (e + 1),(weak_mk ⟨_,rfl⟩ wA rfl rfl rfl (wNB hlt)),c.length - (e + 1),by omega,e + 1,rfl,by omega,fun a ha=>by
    rcases Nat.lt_succ_iff_lt_or_eq.1 ha with ha | rfl
    ·exact hno a ha
    ·exact g,rfl⟩
 ·have hge:e=c.length:=by have:=hL;simp at this;omega
  subst hge;rw [firstN_none hno];refine ⟨_,?_,rfl⟩;exact ax
theorem bitB_set {rows:List Nat} {i x a b:Nat} (hi:i < rows.length):bitB (rows.set i x) a b=if a=i then x.testBit b else bitB rows a b:=by
 unfold bitB;simp only [List.getD_eq_getElem?_getD];by_cases h:a=i
 ·subst h;rw [List.getElem?_set_self hi,if_pos rfl];all_goals rfl
 ·rw [List.getElem?_set_ne (Ne.symm h),if_neg h]
theorem selfR_bit {rows:List Nat} {k a b:Nat} (hk:k < rows.length):bitB (selfR rows k) a b=(bitB rows a b || (decide (a=k) && decide (b=k))):=by
 unfold selfR;rw [bitB_set hk];by_cases h:a=k
 ·subst h;rw [if_pos rfl,testBit_or_pow];simp only [decide_true,Bool.true_and];rw [show decide (a=b)=decide (b=a) from by simp only [eq_comm]];rfl
 ·rw [if_neg h];simp [h]
theorem stepR_bit {rows:List Nat} {k i a b:Nat} (hi:i < rows.length):bitB (stepR k rows i) a b=(bitB rows a b || (decide (a=i) && (bitB rows a k && bitB rows k b))):=by
 unfold stepR;by_cases h:bitB rows i k=true
 ·rw [if_pos h,bitB_set hi];by_cases ha:a=i
  ·subst ha;rw [if_pos rfl,Nat.testBit_or];simp only [decide_true,Bool.true_and,h];rfl
  ·rw [if_neg ha];simp [ha]
 ·rw [if_neg h];by_cases ha:a=i
  ·subst ha;simp only [Bool.not_eq_true] at h;simp [h]
  ·simp [ha]
theorem passR_bit {rows:List Nat} {k:Nat} (hk:k < rows.length):∀ e,e<=rows.length->∀ a b,bitB (passR rows k e) a b=(bitB (selfR rows k) a b || (decide (a < e) && (bitB (selfR rows k) a k && bitB (selfR rows k) k b)))
 | 0,_,a,b=>by simp [passR]
 | e + 1,he,a,b=>by
  have ih:=passR_bit hk e (by omega);rw [passR_succ,stepR_bit (by rw [passR_len];omega),ih a b,ih a k,ih k b];have hkk:bitB (selfR rows k) k k=true:=by rw [selfR_bit hk];simp
  generalize bitB (selfR rows k)=s at *;by_cases h1:a=e
  ·subst h1;simp only [Nat.lt_irrefl,decide_false,Bool.false_and,Bool.or_false,decide_true,Bool.true_and,Nat.lt_succ_self,hkk];cases s a b<;>cases s a k<;>cases s k b<;>simp
  ·by_cases h2:a < e
   ·have:a < e + 1:=by omega
    simp [h1,h2,this]
   ·have:¬ a < e + 1:=by omega
    simp [h1,h2,this]
inductive Rch (p:Nat->Nat->Prop):Nat->Nat->Prop
 | refl (a:Nat):Rch p a a
 | step {a b c:Nat}:Rch p a b->p b c->Rch p a c
theorem Rch.trans {p:Nat->Nat->Prop} {a b c:Nat} (h1:Rch p a b) (h2:Rch p b c):Rch p a c:=by
 induction h2 with
 | refl=>exact h1
 | step _ h ih=>exact .step ih h
theorem Rch.mono {p q:Nat->Nat->Prop} (h:∀ a b,p a b->Rch q a b) {a b:Nat} (h1:Rch p a b):Rch q a b:=by
 induction h1 with
 | refl=>exact .refl _
 | step _ h2 ih=>exact ih.trans (h _ _ h2)
def wayQ (p:Nat->Nat->Prop):Nat->Nat->Nat->Prop
 | 0,a,b=>a=b∨p a b
 | k + 1,a,b=>wayQ p k a b∨(wayQ p k a k/\wayQ p k k b)
theorem wayQ_refl {p:Nat->Nat->Prop} (a:Nat):∀ k,wayQ p k a a
 | 0=>.inl rfl
 | k + 1=>.inl (wayQ_refl a k)
theorem wayQ_base {p:Nat->Nat->Prop} {a b:Nat} (h:p a b):∀ k,wayQ p k a b
 | 0=>.inr h
 | k + 1=>.inl (wayQ_base h k)
theorem wayQ_rch {p:Nat->Nat->Prop}:∀ k a b,wayQ p k a b->Rch p a b
 | 0,a,b,h=>by
  rcases h with rfl | h
  ·exact .refl _
  ·exact .step (.refl _) h
 | k + 1,a,b,h=>by
  rcases h with h | ⟨h1,h2⟩
  ·exact wayQ_rch k a b h
  ·exact (wayQ_rch k a k h1).trans (wayQ_rch k k b h2)
theorem wayQ_trans {p:Nat->Nat->Prop}:∀ k a m b,m < k->wayQ p k a m->wayQ p k m b->wayQ p k a b
 | 0,_,_,_,h,_,_=>by omega
 | k + 1,a,m,b,hm,h1,h2=>by
  by_cases hmk:m=k
  ·subst hmk
   have h1':wayQ p m a m:=by
    rcases h1 with h1 | h1
    ·exact h1
    ·exact h1.1
   have h2':wayQ p m m b:=by
    rcases h2 with h2 | h2
    ·exact h2
    ·exact h2.2
   exact .inr ⟨h1',h2'⟩
  ·have hm':m < k:=by omega
   rcases h1 with h1 | ⟨h1,h3⟩
   ·rcases h2 with h2 | ⟨h2,h4⟩
    ·exact .inl (wayQ_trans k a m b hm' h1 h2)
    ·exact .inr ⟨wayQ_trans k a m k hm' h1 h2,h4⟩
   ·rcases h2 with h2 | ⟨h2,h4⟩
    ·exact .inr ⟨h1,wayQ_trans k k m b hm' h3 h2⟩
    ·exact .inr ⟨h1,h4⟩
theorem closeR_way {rows:List Nat}:∀ k,k<=rows.length->∀ a b,a < rows.length->((bitB (closeR rows k) a b=true∨a=b)↔wayQ (fun x y=>bitB rows x y=true) k a b)/\(a < k->bitB (closeR rows k) a a=true)
 | 0,_,a,b,_=>by
  refine ⟨?_,fun h=>by omega⟩;simp only [closeR,List.range_zero,List.foldl_nil,wayQ];exact or_comm
 | k + 1,hk,a,b,ha=>by
  have ih:=closeR_way (rows:=rows) k (by omega);have hkl:k < (closeR rows k).length:=by rw [closeR_len];omega
  have hb:∀ a b,a < rows.length->bitB (closeR rows (k + 1)) a b=(bitB (selfR (closeR rows k) k) a b || (bitB (selfR (closeR rows k) k) a k && bitB (selfR (closeR rows k) k) k b)):=fun a b ha=>by
   rw [closeR_succ,passR_bit hkl _ (Nat.le_refl _)];simp [closeR_len,ha]
  have hself:∀ a b,(bitB (selfR (closeR rows k) k) a b=true∨a=b)↔(bitB (closeR rows k) a b=true∨a=b):=fun a b=>by
   rw [selfR_bit hkl];simp only [Bool.or_eq_true,Bool.and_eq_true,decide_eq_true_eq];constructor
   ·rintro ((h | ⟨rfl,rfl⟩) | h)
    ·exact .inl h
    ·exact .inr rfl
    ·exact .inr h
   ·rintro (h | h)
    ·exact .inl (.inl h)
    ·exact .inr h
  have hkk:bitB (selfR (closeR rows k) k) k k=true:=by rw [selfR_bit hkl];simp
  have key:∀ a b,a < rows.length->((bitB (closeR rows (k + 1)) a b=true∨a=b)↔wayQ (fun x y=>bitB rows x y=true) (k + 1) a b):=fun a b ha=>by
   rw [hb a b ha];show _↔wayQ _ k a b∨(wayQ _ k a k/\wayQ _ k k b);rw [<- (ih a b ha).1,<- (ih a k ha).1,<- (ih k b (by omega)).1,<- hself a b,<- hself a k,<- hself k b];simp only [Bool.or_eq_true,Bool.and_eq_true];constructor
   ·rintro ((h | ⟨h1,h2⟩) | h)
    ·exact .inl (.inl h)
    ·exact .inr ⟨.inl h1,.inl h2⟩
    ·exact .inl (.inr h)
   ·rintro ((h | h) | ⟨h1,h2⟩)
    ·exact .inl (.inl h)
    ·exact .inr h
    ·rcases h1 with h1 | rfl
     ·rcases h2 with h2 | rfl
      ·exact .inl (.inr ⟨h1,h2⟩)
      ·exact .inl (.inl h1)
     ·rcases h2 with h2 | rfl
      ·exact .inl (.inl h2)
      ·exact .inr rfl
  refine ⟨key a b ha,fun hak=>?_⟩;rw [hb a a ha];by_cases h:a=k
  ·subst h;rw [hkk];all_goals rfl
  ·have:=(ih a a ha).2 (by omega);rw [selfR_bit hkl,this];all_goals rfl
theorem closeR_rch {rows:List Nat} (hb:∀ a b,a < rows.length->bitB rows a b=true->b < rows.length) {a b:Nat} (ha:a < rows.length) (hbl:b < rows.length):bitB (closeR rows rows.length) a b=true↔Rch (fun x y=>x < rows.length/\bitB rows x y=true) a b:=by
 have hw:=closeR_way (rows:=rows) rows.length (Nat.le_refl _) a b ha
 have h1:bitB (closeR rows rows.length) a b=true↔wayQ (fun x y=>bitB rows x y=true) rows.length a b:=by
  rw [<- hw.1];constructor
  ·exact .inl
  ·rintro (h | rfl)
   ·exact h
   ·exact hw.2 ha
 rw [h1];constructor
 ·intro h
  have hlt:∀ {x},Rch (fun x y=>bitB rows x y=true) a x->Rch (fun x y=>x < rows.length/\bitB rows x y=true) a x/\x < rows.length:=by
   intro x hx
   induction hx with
   | refl=>exact ⟨.refl _,ha⟩
   | step _ h2 ih=>exact ⟨.step ih.1 ⟨ih.2,h2⟩,hb _ _ ih.2 h2⟩
  exact (hlt (wayQ_rch _ _ _ h)).1
 ·intro h
  have:wayQ (fun x y=>bitB rows x y=true) rows.length a b/\b < rows.length:=by
   clear h1 hw hbl
   induction h with
   | refl=>exact ⟨wayQ_refl _ _,ha⟩
   | step _ h2 ih=>exact ⟨wayQ_trans _ _ _ _ ih.2 ih.1 (wayQ_base h2.2 _),hb _ _ h2.1 h2.2⟩
  exact this.1
theorem addP_bit {rows:List Nat} {p:Nat × Nat} {a b:Nat} (hp:p.1 < rows.length):bitB (addP rows p) a b=(bitB rows a b || (decide (a=p.1) && decide (b=p.2))):=by
 unfold addP;rw [bitB_set hp];by_cases h:a=p.1
 ·subst h;rw [if_pos rfl,testBit_or_pow];simp only [decide_true,Bool.true_and];rw [show decide (p.2=b)=decide (b=p.2) from by simp only [eq_comm]];rfl
 ·rw [if_neg h];simp [h]
theorem foldP_bit:∀ (l:List (Nat × Nat)) (rows:List Nat) (a b:Nat),(∀ p∈l,p.1 < rows.length)->(bitB (l.foldl addP rows) a b=true↔bitB rows a b=true∨(a,b)∈l)
 | [],_,_,_,_=>by simp
 | p :: l,rows,a,b,h=>by
  rw [List.foldl_cons,foldP_bit l _ a b (fun q hq=>by rw [addP_len];exact h q (by simp [hq])),addP_bit (h p (by simp))];simp only [Bool.or_eq_true,Bool.and_eq_true,decide_eq_true_eq,List.mem_cons];constructor
  ·rintro ((h1 | ⟨rfl,rfl⟩) | h1)
   ·exact .inl h1
   ·exact .inr (.inl rfl)
   ·exact .inr (.inr h1)
  ·rintro (h1 | rfl | h1)
   ·exact .inl (.inl h1)
   ·exact .inl (.inr ⟨rfl,rfl⟩)
   ·exact .inr h1
theorem relN_bit {n:Nat} {l:List (Nat × Nat)} (h:∀ p∈l,p.1 < n) (a b:Nat):bitB (relN n l) a b=true↔(a,b)∈l:=by
 unfold relN;rw [foldP_bit l _ a b (fun p hp=>by rw [List.length_replicate];exact h p hp)];constructor
 ·rintro (h1 | h1)
  ·unfold bitB at h1;rw [List.getD_eq_getElem?_getD,List.getElem?_replicate] at h1;split at h1<;>simp at h1
  ·exact h1
 ·exact .inr
def leqN (n:Nat) (l:List (Nat × Nat)) (a b:Nat):Bool:=bitB (closeR (relN n l) n) a b
def PrOK (n:Nat) (l:List (Nat × Nat)):Prop:=∀ p∈l,p.1 < n/\p.2 < n
theorem leqN_rch {n:Nat} {l:List (Nat × Nat)} (h:PrOK n l) {a b:Nat} (ha:a < n) (hb:b < n):leqN n l a b=true↔Rch (fun x y=>(x,y)∈l) a b:=by
 have hlen:(relN n l).length=n:=relN_len n l;unfold leqN
 have:=closeR_rch (rows:=relN n l) (fun a b _ hbit=>by
  rw [relN_bit (fun p hp=>(h p hp).1)] at hbit
  rw [hlen];exact (h _ hbit).2) (a:=a) (b:=b) (by omega) (by omega)
 rw [hlen] at this;rw [this];constructor
 ·exact Rch.mono fun x y hxy=>.step (.refl _) ((relN_bit (fun p hp=>(h p hp).1) x y).1 hxy.2)
 ·exact Rch.mono fun x y hxy=>.step (.refl _) ⟨(h _ hxy).1,(relN_bit (fun p hp=>(h p hp).1) x y).2 hxy⟩
theorem leqN_refl {n:Nat} {l:List (Nat × Nat)} (h:PrOK n l) {a:Nat} (ha:a < n):leqN n l a a=true:=(leqN_rch h ha ha).2 (.refl _)
theorem leqN_trans {n:Nat} {l:List (Nat × Nat)} (h:PrOK n l) {a b c:Nat} (ha:a < n) (hb:b < n) (hc:c < n) (h1:leqN n l a b=true) (h2:leqN n l b c=true):leqN n l a c=true:=
 (leqN_rch h ha hc).2 (((leqN_rch h ha hb).1 h1).trans ((leqN_rch h hb hc).1 h2))
def loopP (n:Nat) (f:Nat->Nat->Bool) (a:Nat):Bool:=(List.range n).any fun b=>decide (a≠b) && (f a b && f b a)
theorem loopB_eq {n:Nat} {l:List (Nat × Nat)} (hn:n<=64) (h:PrOK n l) {a:Nat} (ha:a < n):loopB (closeR (relN n l) n) a=loopP n (leqN n l) a:=by
 have hlen:(closeR (relN n l) n).length=n:=by rw [closeR_len,relN_len]
 unfold loopB loopP;rw [ones_sum,hlen,Bool.eq_iff_iff,decide_eq_true_eq]
 have haa:(backN (closeR (relN n l) n) a n).testBit a=true:=by
  rw [backN_bit];have:bitB (closeR (relN n l) n) a a=true:=leqN_refl h ha;simp [ha,this]
 rw [sumB_two _ a haa 64 (by omega)];simp only [List.any_eq_true,List.mem_range,Bool.and_eq_true,decide_eq_true_eq,backN_bit];constructor
 ·rintro ⟨b,_,hne,hb,h1,h2⟩;exact ⟨b,hb,fun e=>hne e.symm,h1,h2⟩
 ·rintro ⟨b,hb,hne,h1,h2⟩;exact ⟨b,by omega,fun e=>hne e.symm,hb,h1,h2⟩
theorem firstN_congr {p q:Nat->Bool} {n:Nat} (h:∀ a,a < n->p a=q a):firstN p n=firstN q n:=by
 unfold firstN
 have:∀ (l:List Nat),(∀ a∈l,p a=q a)->l.find? p=l.find? q:=by
  intro l
  induction l with
  | nil=>intro _;rfl
  | cons x r ih=>
   intro hl;rw [List.find?_cons,List.find?_cons,hl x (by simp),ih (fun a ha=>hl a (by simp [ha]))]
 exact this _ fun a ha=>h a (List.mem_range.1 ha)
theorem loop_eq {n:Nat} {l:List (Nat × Nat)} (hn:n<=64) (h:PrOK n l):firstN (loopB (closeR (relN n l) n)) n=firstN (loopP n (leqN n l)) n:=
 firstN_congr fun _ ha=>loopB_eq hn h ha
def LeB (r s:List Bool):Prop:=∀ i:Nat,r.getD i false=true->s.getD i false=true
def cntB (r:List Bool):Nat:=r.countP (fun x=>x)
theorem cntB_le (r:List Bool):cntB r<=r.length:=List.countP_le_length
theorem leB_eq:∀ {r s:List Bool},r.length=s.length->LeB r s->(r=s∨cntB r < cntB s)/\cntB r<=cntB s
 | [],[],_,_=>⟨.inl rfl,Nat.le_refl _⟩
 | x :: r,y :: s,hl,h=>by
  have hl':r.length=s.length:=by simpa using hl
  have ih:=leB_eq hl' (fun i hi=>by simpa using h (i + 1) (by simpa using hi));have h0:x=true->y=true:=fun hx=>by simpa using h 0 (by simpa using hx)
  simp only [cntB,List.countP_cons] at ih ⊢;cases x<;>cases y
  ·refine ⟨?_,by simpa using ih.2⟩;rcases ih.1 with h1 | h1
   ·exact .inl (by rw [h1])
   ·exact .inr (by simpa using h1)
  ·have:=ih.2;exact ⟨.inr (by simp;omega),by simp;omega⟩
  ·exact absurd (h0 rfl) (by decide)
  ·refine ⟨?_,by simpa using ih.2⟩;rcases ih.1 with h1 | h1
   ·exact .inl (by rw [h1])
   ·exact .inr (by simpa using h1)
 | [],_ :: _,h,_=>by simp at h
 | _ :: _,[],h,_=>by simp at h
theorem leB_anti {r s:List Bool} (hl:r.length=s.length) (h1:LeB r s) (h2:LeB s r):r=s:=by
 rcases (leB_eq hl h1).1 with h | h
 ·exact h
 ·have:=(leB_eq hl.symm h2).2;omega
theorem nmTx_succ {l:List Wd} {i:Nat} {x:Wd} (h:l[i]? = some x):nmTx (l.take (i + 1))=nmTx (l.take i) ++ [x.s]:=by
 rw [List.take_add_one,h];simp [nmTx]
theorem dup_mem (l:List Wd) (s:ByteArray):dupBefore l s=true↔s∈nmTx l:=by
 simp only [dupBefore,List.any_eq_true,decide_eq_true_eq,nmTx,List.mem_map]
theorem nodup_succ {l:List Wd} {i:Nat} {x:Wd} (h:l[i]? = some x) (hn:(nmTx (l.take i)).Nodup):(nmTx (l.take (i + 1))).Nodup↔dupBefore (l.take i) x.s=false:=by
 rw [nmTx_succ h,List.nodup_append];constructor
 ·rintro ⟨_,_,h3⟩;cases hb:dupBefore (l.take i) x.s
  ·rfl
  ·exact absurd rfl (h3 x.s ((dup_mem _ _).1 hb) x.s (by simp))
 ·intro hb;refine ⟨hn,by simp,fun a ha b hb2=>?_⟩;simp only [List.mem_singleton] at hb2;subst hb2;rintro rfl;rw [(dup_mem _ _).2 ha] at hb;cases hb
theorem listed_eq {l:List Wd} {i:Nat} {x:Wd} (a:Int) (h:l[i]? = some x) (hn:(nmTx (l.take i)).Nodup) :
  listedP (nmTx (l.take (i + 1))) x.s a=if listedF l i x≠0 then (listedF l i x,a) else (0,0):=by
 have hs:=nodup_succ h hn;unfold listedP listedF;by_cases h1:nameOK x.s=true
 ·rw [if_pos h1,if_pos h1];by_cases h2:dupBefore (l.take i) x.s=true
  ·rw [if_pos h2,if_neg (fun hc=>by rw [hs.1 hc] at h2;cases h2)];all_goals rfl
  ·rw [if_neg h2,if_pos (hs.2 (by simpa using h2))];all_goals rfl
 ·rw [if_neg h1,if_neg h1];all_goals rfl
theorem listed_nodup {l:List Wd} {i:Nat} {x:Wd} (h:l[i]? = some x) (hn:(nmTx (l.take i)).Nodup) (hz:listedF l i x=0):(nmTx (l.take (i + 1))).Nodup:=by
 refine (nodup_succ h hn).2 ?_;unfold listedF at hz;by_cases h1:nameOK x.s=true
 ·rw [if_pos h1] at hz;by_cases h2:dupBefore (l.take i) x.s=true
  ·rw [if_pos h2] at hz;simp at hz
  ·simpa using h2
 ·rw [if_neg h1] at hz;simp at hz
theorem enum_from (l:List Wd):∀ (d e:Nat),e + d=l.length->(enumP l e)=(0,0)->(nmTx (l.take e)).Nodup->enumP l l.length=enumL l e (l.drop e)
 | 0,e,hd,hz,hn=>by
  have:e=l.length:=by omega
  subst this;rw [hz,List.drop_length];all_goals rfl
 | d + 1,e,hd,hz,hn=>by
  obtain ⟨x,hx⟩:∃ x,l[e]? = some x:=⟨_,gE (by omega)⟩;have h1:=enumP_step (by rw [hz]) hx;rw [listed_eq x.a hx hn] at h1;rw [drop_cons hx];simp only [enumL];by_cases hf:listedF l e x≠0
  ·rw [if_pos hf] at h1 ⊢;have hst:=enumP_stay (l:=l) (e:=e + 1) (by rw [h1];exact hf) d;rw [show e + 1 + d=l.length by omega] at hst;rw [hst,h1]
  ·rw [if_neg hf] at h1 ⊢;exact enum_from l d (e + 1) (by omega) h1 (listed_nodup hx hn (by simpa using hf))
theorem kenum_eq (h:Hd):kenumF h=enumWd h:=by
 unfold kenumF enumWd;by_cases h0:h.names=[]
 ·rw [if_pos h0,if_pos (by simp [h0])]
 ·rw [if_neg h0,if_neg (by simpa using h0)];by_cases h1:64 < h.names.length
  ·rw [if_pos h1,if_pos h1]
  ·rw [if_neg h1,if_neg h1];have:=enum_from h.names h.names.length 0 (by omega) rfl (by simp [nmTx]);simpa using this
def bareOf (p:Ph):Ph:=⟨p.name,true,[],0,0,0,0,[]⟩
theorem bare_eq (p:Ph) (t:Ty):samePartB p t (bareOf p) zeroTy=(plainP p barePh && sameTy t zeroTy):=by
 have e:plainP p (bareOf p)=plainP p barePh:=rfl;unfold samePartB;rw [e];have e2:decide (p.name.s=(bareOf p).name.s)=true:=decide_eq_true rfl;rw [e2,Bool.true_and]
theorem empty_eq (p:Ph):samePartB p zeroTy zeroPh zeroTy=(decide (p.name.s=emptyB) && plainP p zeroPh):=by
 have e:sameTy zeroTy zeroTy=true:=by simp [zeroTy,zeroHd,sameTy,sameHd,samePts,sameWds]
 simp only [samePartB,e,Bool.and_true];rfl
def ixOf (L:List ByteArray) (s:ByteArray):Option Nat:=firstN (fun i=>decide (L[i]? = some s)) L.length
theorem ixOf_some {L:List ByteArray} {s:ByteArray} {p:Nat} (h:ixOf L s=some p):p < L.length/\L[p]? = some s/\∀ j,L[j]? = some s->p<=j:=by
 obtain ⟨h1,h2,h3⟩:=firstN_spec h;refine ⟨h1,by simpa using h2,fun j hj=>?_⟩;rcases Nat.lt_or_ge j p with h4 | h4
 ·have:=h3 j h4;simp [hj] at this
 ·exact h4
theorem ixOf_eq {L:List ByteArray} {s:ByteArray} {p:Nat} (h1:L[p]? = some s) (h2:∀ j,L[j]? = some s->p<=j):ixOf L s=some p:=by
 refine firstN_some (gS h1).1 (by simpa using h1) fun a ha=>?_;simp only [decide_eq_false_iff_not];intro h3;have:=h2 a h3;omega
theorem ixOf_none {L:List ByteArray} {s:ByteArray} (h:∀ j:Nat,L[j]? ≠ some s):ixOf L s=none:=firstN_none fun a _=>by simpa using h a
theorem tfind_spec (L:List ByteArray) (ord:List Nat) (s:ByteArray) (hT:TblOK L ord) (hl:ord.length<=1099511627776) :
  EvP Tryz.prog 98 [.pt (dTbl L ord) 0,.v (.string s)] (optD2 (ixOf L s)):=by
 by_cases hm:s∈L
 ·obtain ⟨j,hj⟩:=List.mem_iff_getElem?.1 hm;obtain ⟨q,p,hq,hp⟩:=hT.all j s hj;rw [ixOf_eq hp fun j' hj'=>hT.fst q p j' s hq hp hj'];exact find_spec L ord s q p hT hl hq hp
 rw [ixOf_none fun j hj=>hm (mG hj)]
 let pr:Nat->Prop:=fun i=>i=ord.length∨∃ p t,ord[i]? = some p/\L[p]? = some t/\bLt t s=false
 obtain ⟨m,hm1,hm2⟩:=least (p:=pr) ⟨ord.length,.inl rfl⟩;have hmn:m<=ord.length:=hm2 _ (.inl rfl);refine ev_go (P:=Tryz.prog) tt tt_ok 5000 47 [.tmp 4,.tmp 5] Tryz.func98 rfl Tryz.ntmps98 rfl (nL rfl) (fun E9 w9 hn9 hm9=>?_)
 have hcl:∀ i:Nat,i < ord.length->EvP Tryz.prog 162 [.v (.int .i64 i),.pt [.pt (dTbl L ord) 0] 0,.pt [.v (.string s)] 0] (.v (.bool (decide (m<=i)))):=by
  intro i hi;obtain ⟨p',hp'⟩:∃ p',ord[i]? = some p':=⟨_,gE hi⟩;obtain ⟨t,ht⟩:∃ t,L[p']? = some t:=⟨_,gE (hT.lt i p' hp')⟩;have:=find1_spec L ord s i p' t hp' ht
  have e:(!bLt t s)=decide (m<=i):=by
   by_cases h:m<=i
   ·have:bLt t s=false:=by
     rcases hm1 with hm1 | ⟨p,u,h1,h2,h3⟩
     ·omega
     ·rcases Nat.lt_or_eq_of_le h with h4 | h4
      ·have h5:=hT.srt m i p p' u t h4 h1 hp' h2 ht;cases h6:bLt t s
       ·rfl
       ·have:=bytesLess_trans h5 h6;unfold bLt at h3;rw [this] at h3;cases h3
      ·subst h4;rw [h1] at hp';simp only [oI] at hp';subst hp';rw [h2] at ht;simp only [oI] at ht;subst ht;exact h3
    simp [this,h]
   ·have:bLt t s=true:=by
     cases h6:bLt t s
     ·exact absurd (hm2 i (.inr ⟨p',t,hp',ht,h6⟩)) h
     ·rfl
    simp [this,h]
  rw [e] at this;exact this
 have hS:=search_spec 162 en162 [.pt [.pt (dTbl L ord) 0] 0,.pt [.v (.string s)] 0] ord.length m hl hmn ax rfl hcl;refine call_b en161 hS (by repeat' (first | exact rfl | exact trivial | exact Or.inr (Or.inl ⟨_,rfl⟩) | exact Or.inr ⟨_,rfl⟩ | exact Or.inl ⟨rfl,rfl⟩ | exact Or.inl rfl | refine Or.inr ⟨_,_,rfl,Nat.zero_le _,rfl,?_⟩ | refine ⟨_,_,rfl,?_,?_⟩ | refine ⟨_,rfl,?_⟩ | exact congrArg (fun z=>DV.v (.int .i64 z)) (congrArg Nat.cast (dInts_len ord)) | refine Or.inr (Or.inr (Or.inr ⟨_,_,rfl,?_⟩)) | exact Or.inl rfl | refine Or.inr ?_)) rfl ?_;refine drawG_i (fun _=>false) mo (by decide +kernel) ?_;refine br (fun h=>?_) (fun h=>?_)
 ·have hlt:m < ord.length:=by
   have:decide ((m:Int)=((dInts ord).length:Int))=false:=by simpa using h
   simp [dInts_len] at this;omega
  rcases hm1 with hm1 | ⟨p,t,h1,h2,h3⟩
  ·omega
  refine ⟨_,⟨by omega,dInts_get h1⟩,?_⟩;refine ⟨_,⟨by omega,dBs_get h2⟩,?_⟩;refine br (fun h4=>?_) (fun h4=>?_)
  ·exact ⟨_,ax,rfl⟩
  ·exfalso
   have hts:t=s:=by
    simp [pickB_or] at h4;exact h4
   exact hm (hts ▸ mG h2)
 ·exact ⟨_,ax,rfl⟩
def manyF (l:List Wd) (o:List (Wd × Wd)):Ft:=
 if l=[] then (15,0)
 else if 32 < l.length then (8,((l[32]?).getD (⟨emptyB,0⟩:Wd)).a)
 else if 256 < o.length then (8,((o[256]?).getD ((⟨emptyB,0⟩,⟨emptyB,0⟩):Wd × Wd)).1.a)
 else (0,0)
theorem many_spec (l:List Wd) (o:List (Wd × Wd)):EvP Tryz.prog 86 [.sl 2 (dWds l) none,.sl 4 (dPrs o) none] (manyF l o).d:=by
 refine ev_go (P:=Tryz.prog) tt tt_ok 5000 30 [.cell 4 45] Tryz.func86 rfl Tryz.ntmps86 rfl (nL rfl) (fun E9 w9 hn9 hm9=>?_);refine br (fun h=>?_) (fun h=>?_)
 ·have h:l=[]:=by simpa [dWds_len] using h
  refine ⟨_,?_,rfl⟩;rw [manyF,if_pos h];exact ax
 have h:¬ l=[]:=by simpa [dWds_len] using h
 refine br (fun h1=>?_) (fun h1=>?_)
 ·have h1:32 < l.length:=by simp [dWds_len] at h1;omega
  obtain ⟨x,hx⟩:∃ x,l[32]? = some x:=⟨_,gE h1⟩;refine ⟨dWd x,⟨by omega,dWds_get hx⟩,?_⟩;refine ⟨_,?_,rfl⟩;rw [manyF,if_neg h,if_pos h1,hx];exact ax
 have h1:¬ 32 < l.length:=by simp [dWds_len] at h1;omega
 refine br (fun h2=>?_) (fun h2=>?_)
 ·have h2:256 < o.length:=by simp [dPrs_len] at h2;omega
  obtain ⟨x,hx⟩:∃ x,o[256]? = some x:=⟨_,gE h2⟩;refine ⟨dPr x,⟨by omega,dPrs_get hx⟩,?_⟩;refine ⟨_,?_,rfl⟩;rw [manyF,if_neg h,if_neg h1,if_pos h2,hx];exact ax
 have h2:¬ 256 < o.length:=by simp [dPrs_len] at h2;omega
 refine ⟨_,?_,rfl⟩;rw [manyF,if_neg h,if_neg h1,if_neg h2];exact ax
def calD (f:Ft) (L:List ByteArray):DV:=.tup [if f.1=0 then .sl 1 (dBs L) none else .v (.slice none 0 0),f.d]
abbrev calSt (l:List Wd) (n e:Nat):St:=
 ⟨[(3,⟨[],.loc 0 0⟩),(4,⟨[],.sl 1 (dBs (nmTx (l.take e))) (some 0)⟩),(7,⟨[],.sl 2 (dWds l) none⟩),(8,⟨[],.v (.int .i64 (dWds l).length)⟩),(9,⟨[],.v (.int .i64 e)⟩)],[[.v (.int .i64 0),.v (.int .i64 0)]],[⟨n,9,1,none⟩]⟩
theorem enumL_drop {all:List Wd} {e:Nat} {w:Wd} (h:all[e]? = some w):enumL all e (all.drop e)=if listedF all e w≠0 then (listedF all e w,w.a) else enumL all (e + 1) (all.drop (e + 1)):=by
 rw [drop_cons h,enumL]
theorem called_spec (l:List Wd) (hs:wdsWt l<=1099511627776):EvP Tryz.prog 87 [.sl 2 (dWds l) none] (calD (enumL l 0 l) (nmTx l)):=by
 have hsl:=wdsWt_len l;refine ev_go (P:=Tryz.prog) tt tt_ok 5000 36 [.tmp 2,.cell 3 45] Tryz.func87 rfl Tryz.ntmps87 rfl (nL rfl) (fun E9 w9 hn9 hm9=>?_);refine loop_i (fun j st=>∃ e:Nat,st=calSt l e e/\e<=l.length/\(nmTx (l.take e)).Nodup/\enumL l 0 l=enumL l e (l.drop e)/\j=l.length - e) l.length (calSt l 0 0) (weak_tok ⟨0,9,1,none⟩ rfl ⟨_,rfl⟩ rfl wA rfl rfl wTB) ⟨0,rfl,by omega,by simp [nmTx],rfl,by omega⟩ ?_;rintro j st ⟨e,rfl,he,hnd,heq,rfl⟩;rw [heq];refine br (fun hL=>?_) (fun hL=>?_)
 ·have hlt:e < l.length:=by simpa [dWds_len] using hL
  obtain ⟨w,hw⟩:∃ w,l[e]? = some w:=⟨_,gE hlt⟩;have hws:=wdsWt_mem (mG hw);have hsn:=nmTx_snoc hw;have hst:=enumL_drop hw;have hns:=nodup_succ hw hnd;have htw:=twice_spec (nmTx (l.take (e + 1))) (by simp [nmTx];omega);rw [<- hsn] at htw;refine ⟨dWd w,⟨by omega,dWds_get hw⟩,?_⟩;refine ⟨by simp [dBs_len,nmTx];omega,⟨by simp [dBs_len,nmTx,maxLen];omega,by simp [dBs_len,nmTx];omega⟩,?_⟩;refine call_p en94 (right_spec w.s (by omega)) ax rfl ?_;refine br (fun hN=>?_) (fun hN=>?_)
  ·have hN:nameOK w.s=false:=by simpa using hN
   have hf:listedF l e w=9:=by simp [listedF,hN]
   rw [hst,hf,if_pos (by decide)];refine drawG_s mo (by decide +kernel) ?_;exact ⟨_,ax,rfl⟩
  ·have hN:nameOK w.s=true:=by simpa using hN
   refine call_e en95 rfl htw ax (fun r hr=>?_);obtain ⟨z,rfl,hz⟩:=hr;refine br (fun h2=>?_) (fun h2=>?_)
   ·have h2:0<=z:=by simpa using h2
    have hd:dupBefore (l.take e) w.s=true:=by
     cases hd:dupBefore (l.take e) w.s
     ·exact absurd (hns.2 hd) (hz.1 h2)
     ·rfl
    have hf:listedF l e w=10:=by simp [listedF,hN,hd]
    rw [hst,hf,if_pos (by decide)];refine drawG_s mo (by decide +kernel) ?_;exact ⟨_,ax,rfl⟩
   ·have h2:¬ 0<=z:=by simpa using h2
    have hnd2:(nmTx (l.take (e + 1))).Nodup:=Classical.byContradiction fun hn=>h2 (hz.2 hn);have hf:listedF l e w=0:=by simp [listedF,hN,hns.1 hnd2]
    rw [hf,if_neg (by simp)] at hst;refine ⟨calSt l (e + 1) (e + 1),(weak_mk ⟨_,rfl⟩ wA rfl rfl rfl (wSB hlt hsn)),l.length - (e + 1),by omega,e + 1,rfl,by omega,hnd2,hst,rfl⟩
 ·have hge:e=l.length:=by
   have:=hL;simp [dWds_len] at this;omega
  have h0:enumL l e (l.drop e)=(0,0):=by rw [hge,List.drop_length];all_goals rfl
  rw [h0];have ht:l.take e=l:=by rw [hge,List.take_length]
  rw [ht];exact ⟨_,ax,rfl⟩
def numF (L:List ByteArray):List (Wd × Wd)->Ft
 | []=>(0,0)
 | p :: r=>if ixOf L p.1.s=none then (17,p.1.a) else if ixOf L p.2.s=none then (17,p.2.a) else numF L r
def numP (L:List ByteArray) (p:Wd × Wd):Nat × Nat:=((ixOf L p.1.s).getD 0,(ixOf L p.2.s).getD 0)
def numL (L:List ByteArray) (o:List (Wd × Wd)):List (Nat × Nat):=o.map (numP L)
def numD (f:Ft) (l:List (Nat × Nat)):DV:=.tup [if f.1=0 then .sl 2 (dNPs l) none else .v (.slice none 0 0),f.d]
theorem numL_snoc {L:List ByteArray} {o:List (Wd × Wd)} {e a b:Nat} {x:Wd × Wd} (h:o[e]? = some x) (ha:ixOf L x.1.s=some a) (hb:ixOf L x.2.s=some b):dNPs (numL L (o.take e)) ++ [[DV.v (.int .i64 (a:Int)),DV.v (.int .i64 (b:Int))]]=dNPs (numL L (o.take (e + 1))):=by
 rw [List.take_add_one,h];simp [dNPs,numL,numP,ha,hb,dNP]
abbrev numSt (L:List ByteArray) (ord:List Nat) (o:List (Wd × Wd)) (n e:Nat):St:=
 ⟨[(0,⟨[],.pt (dTbl L ord) 0⟩),(5,⟨[],.loc 0 0⟩),(6,⟨[],.sl 2 (dNPs (numL L (o.take e))) (some 0)⟩),(12,⟨[],.sl 4 (dPrs o) none⟩),(13,⟨[],.v (.int .i64 (dPrs o).length)⟩),(14,⟨[],.v (.int .i64 e)⟩)],[[.v (.int .i64 0),.v (.int .i64 0)]],[⟨n,225,2,none⟩]⟩
theorem numbered_spec (L:List ByteArray) (ord:List Nat) (hT:TblOK L ord) (hl:ord.length<=1099511627776) (o:List (Wd × Wd)) (hs:prsWt o<=1099511627776) :
  EvP Tryz.prog 89 [.pt (dTbl L ord) 0,.sl 4 (dPrs o) none] (numD (numF L o) (numL L o)):=by
 have hsl:=prsWt_len o;refine ev_go (P:=Tryz.prog) tt tt_ok 5000 55 [.tmp 4,.cell 5 45] Tryz.func89 rfl Tryz.ntmps89 rfl (nL rfl) (fun E9 w9 hn9 hm9=>?_);refine loop_i (fun j st=>∃ e:Nat,st=numSt L ord o e e/\e<=o.length/\numF L o=numF L (o.drop e)/\j=o.length - e) o.length (numSt L ord o 0 0) (weak_tok ⟨0,225,2,none⟩ rfl ⟨_,rfl⟩ rfl wA rfl rfl wTB) ⟨0,rfl,by omega,rfl,by omega⟩ ?_;rintro j st ⟨e,rfl,he,heq,rfl⟩;rw [heq];refine br (fun hL=>?_) (fun hL=>?_)
 ·have hlt:e < o.length:=by simpa [dPrs_len] using hL
  obtain ⟨w,hw⟩:∃ w,o[e]? = some w:=⟨_,gE hlt⟩;have hst:numF L (o.drop e)=if ixOf L w.1.s=none then (17,w.1.a) else if ixOf L w.2.s=none then (17,w.2.a) else numF L (o.drop (e + 1)):=by rw [drop_cons hw,numF]
  have hf1:=tfind_spec L ord w.1.s hT hl;have hf2:=tfind_spec L ord w.2.s hT hl;refine ⟨dPr w,⟨by omega,dPrs_get hw⟩,?_⟩
  cases ha:ixOf L w.1.s with
  | none=>
   rw [ha] at hf1;refine call_p en98 (hf1) ax rfl ?_;rw [hst,if_pos ha];refine drawG_s mo (by decide +kernel) ?_;exact ⟨_,ax,rfl⟩
  | some a=>
   rw [ha] at hf1;refine call_p en98 (hf1) ax rfl ?_
   cases hb:ixOf L w.2.s with
   | none=>
    rw [hb] at hf2;refine call_p en98 (hf2) ax rfl ?_;rw [hst,if_neg (by rw [ha];simp),if_pos hb];refine drawG_s mo (by decide +kernel) ?_;exact ⟨_,ax,rfl⟩
   | some b=>
    rw [hb] at hf2;refine call_p en98 (hf2) ax rfl ?_;rw [if_neg (by rw [ha];simp),if_neg (by rw [hb];simp)] at hst;refine ⟨by simp [dNPs_len,numL];omega,⟨by simp [dNPs_len,numL,maxLen];omega,by simp [dNPs_len,numL];omega⟩,?_⟩;refine ⟨numSt L ord o (e + 1) (e + 1),(weak_mk ⟨_,rfl⟩ wA rfl rfl rfl (by repeat' (first | exact trivial | exact we_rfl rfl | exact we_int (nxt hlt (by omega)) | exact we_sl (numL_snoc hw ha hb) rfl | refine ⟨⟨_,rfl,?_⟩,?_⟩))),o.length - (e + 1),by omega,e + 1,rfl,by omega,hst,rfl⟩
 ·have hge:e=o.length:=by
   have:=hL;simp [dPrs_len] at this;omega
  have h0:numF L (o.drop e)=(0,0):=by rw [hge,List.drop_length];all_goals rfl
  rw [h0];have ht:o.take e=o:=by rw [hge,List.take_length]
  rw [ht];exact ⟨_,ax,rfl⟩
end Go.Proofs.YtadhpeooehkklaaGreat
namespace Go.Proofs.YtadhpeooehkklaaGreat
namespace Dv
open Go Go.RowKit
section
variable {X:Ctx} {st:St} {k:List It} {E:En} {a:Act} {w:World}
def Wk (X:Ctx) (st st':St):Prop:=∀ E a w,Rel X E st a w->∃ E',Rel X E' st' a w
theorem Wk.refl (X:Ctx) (st:St):Wk X st st:=fun E _ _ h=>⟨E,h⟩
theorem Wk.trans {X:Ctx} {s1 s2 s3:St} (h1:Wk X s1 s2) (h2:Wk X s2 s3):Wk X s1 s3:=fun _ _ _ h=>by
 obtain ⟨E1,h3⟩:=h1 _ _ _ h;exact h2 _ _ _ h3
theorem Wk.weak {X:Ctx} {s1 s2:St} (h:Weak X.n0 X.m0 s1 s2):Wk X s1 s2:=fun _ _ _ hr=>weak_rel hr h
theorem calls_os {f:FuncId} {args args':List DV} {os:List (List DV)} (n1 m1:Nat) (hn1:Nat.ble n1 st.bx.length=true) (hm1:Nat.ble m1 st.tk.length=true)
  (hos:CcLL [] n1 n1 m1 os (st.bx.take n1)) (ha:CcL [] n1 n1 m1 args' args)
  {Φ:DV->List (List DV)->List TkE->Prop} (hc:Ev X.P f args' os (st.tk.take m1) Φ) (hst:X.still=false) (hX:X.bt=[]) {vs:List Value} (h:Rel X E st a w) (hv:RvL E args vs) :
  Calls X.P f vs.toArray w fun e w'=>∃ v r os' tk' E',e = .returned v/\Φ r os' tk' /\ os'.length=n1/\tk'.length=m1/\Rel X E' ⟨st.sl,os' ++ st.bx.drop n1,tk' ++ st.tk.drop m1⟩ a w' /\ Rv E' r v/\Ext E E' /\ E'.β=E.β /\
   ∀ (i:Nat) b,n1<=i->E.β[i]? = some b->w'.heap[b]? = w.heap[b]?:=by
 have hn1:=nL hn1;have hm1:=nL hm1;have hlen:=h.env.len;have htl:=h.env.tl;have htk:=h.tk;have htkl:E.tk.length=st.tk.length:=by rw [htk]
 let E1:En:=⟨E.c,E.β.take n1,E.tk.take m1,E.τ.take m1⟩
 have hfz:Frz E E1 [] n1:=⟨fun _ _ h=>h,fun i cs _ hi=>by simp at hi⟩
 have hlow:Low E E1 n1 m1:={
  β:=fun i b hi hb=>by show (E.β.take n1)[i]? = _;rw [List.getElem?_take,if_pos hi];exact hb
  tk:=fun k hk=>⟨by show (E.tk.take m1)[k]? = _;rw [List.getElem?_take,if_pos hk],by show (E.τ.take m1)[k]? = _;rw [List.getElem?_take,if_pos hk]⟩ }
 obtain ⟨hol,hog⟩:=hos.get;have hosl:os.length=n1:=by rw [hol,List.length_take];omega
 have hτg:∀ (j:Nat) y,(E.τ.take m1)[j]? = some y->j < m1/\E.τ[j]? = some y:=fun j y hy=>by
  rw [List.getElem?_take] at hy;split at hy
  ·rename_i hj;exact ⟨hj,hy⟩
  ·cases hy
 have hkg:∀ (j:Nat) q,(E.tk.take m1)[j]? = some q->j < m1/\E.tk[j]? = some q:=fun j y hy=>by
  rw [List.getElem?_take] at hy;split at hy
  ·rename_i hj;exact ⟨hj,hy⟩
  ·cases hy
 have hE1:Env E1 os w:={
  len:=by show (E.β.take n1).length=_;rw [List.length_take,hosl];omega
  tl:=by show (E.τ.take m1).length=(E.tk.take m1).length;rw [List.length_take,List.length_take,htl]
  bxs:=fun i cs' hi=>by
   obtain ⟨cs,hcs,hcc⟩:=hog i cs' hi;rw [List.getElem?_take] at hcs;split at hcs
   ·rename_i hlt;obtain ⟨b,ty,arr,hb,hw,hc⟩:=h.env.bxs i cs hcs;exact ⟨b,ty,arr,hlow.β i b hlt hb,hw,CcL.sound hfz hlow hcc hc.1,hc.2⟩
   ·cases hcs
  inj:=h.env.inj.sublist (List.take_sublist _ _)
  sub:=h.env.sub
  pc:=fun x v hx hm=>h.env.pc x v hx (List.mem_of_mem_take hm)
  tks:=fun j q y hq hy=>by
   obtain ⟨_,hq⟩:=hkg j q hq;obtain ⟨_,hy⟩:=hτg j y hy;rcases h.env.tks j q y hq hy with h1 | ⟨g,cap,cur,rfl,h1,h2,h3,h4,h5,h6⟩
   ·exact .inl h1
   ·exact .inr ⟨g,cap,cur,rfl,h1,h2,h3,h4,fun hm=>h5 (List.mem_of_mem_take hm),h6⟩
  tkd:=fun j j' y y' g hjj hy hy'=>h.env.tkd j j' y y' g hjj (hτg j y hy).2 (hτg j' y' hy').2 }
 refine (hc E1 w _ hE1 (by show E.tk.take m1=_;rw [htk]) (CcL.sound hfz hlow ha hv)).mono ?_;rintro e w' ⟨v,rfl,hm,_,r,os',E2,he,hβ,htk2,hn,hvd,hΦ⟩;have htk2:E2.tk.length=E1.tk.length:=htk2;have hE1t:E1.tk.length=m1:=by show (E.tk.take m1).length=_;rw [List.length_take];omega
 have hE1τ:E1.τ.length=m1:=by show (E.τ.take m1).length=_;rw [List.length_take];omega
 have hE1β:E1.β.length=n1:=by show (E.β.take n1).length=_;rw [List.length_take];omega
 rw [hE1t] at htk2;have hτ2:E2.τ.length=m1:=by rw [he.tl,htk2]
 have hos':os'.length=n1:=by rw [<- he.len,hβ,hE1β]
 have hS:∀ j,E1.S j->j∈E.β.take n1∨∃ i y,i < m1/\E.τ[i]? = some y/\y.ownBlock=some j:=fun j hj=>by
  rcases hj with h1 | ⟨y,h1,h2⟩
  ·exact .inl h1
  ·obtain ⟨i,hi,he⟩:=List.getElem_of_mem h1;have hi':E1.τ[i]? = some y:=by rw [gE hi,he]
   obtain ⟨h3,h4⟩:=hτg i y hi';exact .inr ⟨i,y,h3,h4,h2⟩
 have hh:∀ j,j < w.heap.size->¬ E1.S j->w'.heap[j]? = w.heap[j]?:=fun j hj hne=>hm.block j hj hne;have hown:∀ (i:Nat) y g,E.τ[i]? = some y->y.ownBlock=some g->g < w.heap.size/\g ∉ E.β:=fun i y g hy hg=>h.env.own (mG hy) hg
 have hnew:∀ x v,E2.c x=some v->E.c x=some v∨w.heap.size<=x.block∨∃ i y,i < m1/\E.τ[i]? = some y/\y.ownBlock=some x.block:=fun x v hx=>by
  rcases hn.cn x v hx with h1 | h1 | ⟨y,h1,h2⟩
  ·exact .inl h1
  ·exact .inr (.inl h1)
  ·obtain ⟨i,hi,he⟩:=List.getElem_of_mem h1;have hi':E1.τ[i]? = some y:=by rw [gE hi,he]
   obtain ⟨h3,h4⟩:=hτg i y hi';exact .inr (.inr ⟨i,y,h3,h4,h2⟩)
 have hrow:∀ (j:Nat) q,j < m1->E.tk[j]? = some q->∃ y q' y',E.τ[j]? = some y/\E2.tk[j]? = some q' /\ E2.τ[j]? = some y' /\ q.ty=q'.ty/\q.e=q'.e/\((q'.n=q.n/\y'=y)∨q.n < q'.n)/\(y'.ownBlock=y.ownBlock∨∀ g,y'.ownBlock=some g->w.heap.size<=g):=fun j q hj hq=>by
  have hjl:j < E.τ.length:=by rw [htl];omega
  obtain ⟨q',y',h1,h2,h3⟩:=hn.tk j q E.τ[j] (by show (E.tk.take m1)[j]? = _;rw [List.getElem?_take,if_pos hj];exact hq) (by show (E.τ.take m1)[j]? = _;rw [List.getElem?_take,if_pos hj,gE hjl]);exact ⟨_,q',y',gE hjl,h1,h2,h3⟩
 have hrow2:∀ (j:Nat) y',j < m1->E2.τ[j]? = some y' -> ∃ y,E.τ[j]? = some y/\(y'.ownBlock=y.ownBlock∨∀ g,y'.ownBlock=some g->w.heap.size<=g):=fun j y' hj hy=>by
  have hjl:j < E.tk.length:=by omega
  obtain ⟨y,q1,y1,h1,_,h3,_,_,_,h7⟩:=hrow j _ hj (gE hjl);rw [hy] at h3;simp only [oI] at h3;subst h3;exact ⟨y,h1,h7⟩
 let E':En:=⟨E2.c,E.β,E2.tk ++ E.tk.drop m1,E2.τ ++ E.τ.drop m1⟩
 have hk':∀ (j:Nat),m1<=j->E'.tk[j]? = E.tk[j]?:=fun j hj=>by
  show (E2.tk ++ E.tk.drop m1)[j]? = _;rw [List.getElem?_append_right (by omega),List.getElem?_drop,htk2];congr 1;omega
 have hτ':∀ (j:Nat),m1<=j->E'.τ[j]? = E.τ[j]?:=fun j hj=>by
  show (E2.τ ++ E.τ.drop m1)[j]? = _;rw [List.getElem?_append_right (by omega),List.getElem?_drop,hτ2];congr 1;omega
 have hk2:∀ (j:Nat),j < m1->E'.tk[j]? = E2.tk[j]?:=fun j hj=>by
  show (E2.tk ++ E.tk.drop m1)[j]? = _;rw [List.getElem?_append_left (by omega)]
 have hτ3:∀ (j:Nat),j < m1->E'.τ[j]? = E2.τ[j]?:=fun j hj=>by
  show (E2.τ ++ E.τ.drop m1)[j]? = _;rw [List.getElem?_append_left (by omega)]
 have hx:Ext E E':=⟨hn.c,fun _ _ h=>h,fun j q hq=>by
  rcases Nat.lt_or_ge j m1 with hj | hj
  ·obtain ⟨y,q',y',h1,h2,h3,_,_,h6,_⟩:=hrow j q hj hq;refine ⟨q',by rw [hk2 j hj];exact h2,?_⟩;rcases h6 with ⟨h6,rfl⟩ | h6
   ·exact .inl ⟨h6,by rw [hτ3 j hj,h3,h1]⟩
   ·exact .inr h6
  ·exact ⟨q,by rw [hk' j hj];exact hq,.inl ⟨rfl,hτ' j hj⟩⟩⟩
 have hx2:Ext E2 E':={
  c:=fun _ _ h=>h
  β:=fun j b hj=>by
   rw [hβ] at hj;have hj:(E.β.take n1)[j]? = some b:=hj;rw [List.getElem?_take] at hj;split at hj
   ·exact hj
   ·cases hj
  tk:=fun j q hq=>by
   have hj:j < m1:=by have:=(gS hq).1;omega
   exact ⟨q,by rw [hk2 j hj];exact hq,.inl ⟨rfl,hτ3 j hj⟩⟩ }
 have hrel:Rel X E' ⟨st.sl,os' ++ st.bx.drop n1,E2.tk ++ st.tk.drop m1⟩ a w':=by
  refine rel_env h hx ?_ (by show E2.tk ++ E.tk.drop m1=_;rw [htk]) ?_ (h.fr.trans_keep hm.os hm.tape hm.output hm.size fun j hj=>?_) (noSt hst) (.nil hX)
  ·exact {
    len:=by show E.β.length=_;rw [List.length_append,List.length_drop,hos',hlen];omega
    tl:=by show (E2.τ ++ E.τ.drop m1).length=(E2.tk ++ E.tk.drop m1).length;simp only [List.length_append,List.length_drop,hτ2,htk2,htl]
    bxs:=fun i cs0 hi=>by
     rcases Nat.lt_or_ge i n1 with hin | hin
     ·rw [List.getElem?_append_left (by omega)] at hi;obtain ⟨b2,ty2,arr2,hb2,hw2,hc2⟩:=he.bxs i cs0 hi;exact ⟨b2,ty2,arr2,hx2.β i b2 hb2,hw2,hc2.mono hx2⟩
     ·rw [List.getElem?_append_right (by omega),List.getElem?_drop,hos'] at hi;rw [show n1 + (i - n1)=i by omega] at hi;obtain ⟨bj,tyj,arrj,hbj,hwj,hcj⟩:=h.env.bxs i cs0 hi;refine ⟨bj,tyj,arrj,hbj,(hh bj (lt_of_blk hwj) ?_).trans hwj,hcj.mono hx⟩;intro hs;rcases hS bj hs with h1 | ⟨i',y,_,h2,h3⟩
      ·obtain ⟨i',hi',he'⟩:=List.getElem_of_mem h1;have h4:(E.β.take n1)[i']? = some bj:=by rw [gE hi',he']
       rw [List.getElem?_take] at h4;split at h4
       ·rename_i hlt;have:=(List.getElem?_inj (gS hbj).1 h.env.inj).1 (hbj.trans h4.symm);omega
       ·cases h4
      ·exact (hown i' y bj h2 h3).2 (mG hbj)
    inj:=h.env.inj
    sub:=he.sub
    pc:=fun x v hc hm'=>by
     rcases hnew x v hc with h1 | h1 | ⟨i,y,_,h2,h3⟩
     ·exact h.env.pc x v h1 hm'
     ·have:=h.env.block_lt hm';omega
     ·exact (hown i y _ h2 h3).2 hm'
    tks:=fun j q y hq hy=>by
     rcases Nat.lt_or_ge j m1 with hj | hj
     ·rw [hk2 j hj] at hq;rw [hτ3 j hj] at hy;rcases he.tks j q y hq hy with h1 | ⟨g,cap,cur,rfl,h1,h2,h3,h4,h5,h6⟩
      ·exact .inl h1
      ·refine .inr ⟨g,cap,cur,rfl,h1,h2,h3,h4,fun hm'=>?_,h6⟩;obtain ⟨y0,h7,h8⟩:=hrow2 j _ hj hy;rcases h8 with h8 | h8
       ·exact (hown j y0 g h7 (by rw [<- h8];rfl)).2 hm'
       ·have:=h8 g rfl;have:=h.env.block_lt hm';omega
     ·rw [hk' j hj] at hq;rw [hτ' j hj] at hy;rcases h.env.tks j q y hq hy with h1 | ⟨g,cap,cur,rfl,h1,h2,h3,h4,h5,h6⟩
      ·exact .inl h1
      ·have hne:∀ i y',i < m1->E.τ[i]? = some y' -> y'.ownBlock≠some g:=fun i y' hi hy'=>h.env.tkd j i _ y' g (by omega) hy hy' rfl
       have hns:¬ E1.S g:=fun hs=>by
        rcases hS g hs with h7 | ⟨i,y',h7,h8,h9⟩
        ·exact h5 (List.mem_of_mem_take h7)
        ·exact hne i y' h7 h8 h9
       refine .inr ⟨g,cap,cur,rfl,by rw [hh g (lt_of_blk h1) hns];exact h1,⟨h2.1,h2.2.mono hn.c⟩,h3,h4,h5,fun x v hc hg=>?_⟩
       ·rcases hnew x v hc with h7 | h7 | ⟨i,y',h7,h8,h9⟩
        ·exact h6 x v h7 hg
        ·have:=lt_of_blk h1;omega
        ·exact (hne i y' h7 h8 (by rw [h9,hg])).elim
    tkd:=fun j j' y y' g hjj hy hy' hg hg'=>by
     rcases Nat.lt_or_ge j m1 with hj | hj
     ·rw [hτ3 j hj] at hy;obtain ⟨y0,h7,h8⟩:=hrow2 j _ hj hy;rcases Nat.lt_or_ge j' m1 with hj' | hj'
      ·rw [hτ3 j' hj'] at hy';exact he.tkd j j' y y' g hjj hy hy' hg hg'
      ·rw [hτ' j' hj'] at hy';rcases h8 with h8 | h8
       ·exact h.env.tkd j j' y0 y' g hjj h7 hy' (by rw [<- h8];exact hg) hg'
       ·have:=h8 g hg;have:=(hown j' y' g hy' hg').1;omega
     ·rw [hτ' j hj] at hy;rcases Nat.lt_or_ge j' m1 with hj' | hj'
      ·rw [hτ3 j' hj'] at hy';obtain ⟨y0,h7,h8⟩:=hrow2 j' _ hj' hy';rcases h8 with h8 | h8
       ·exact h.env.tkd j j' y y0 g hjj hy h7 hg (by rw [<- h8];exact hg')
       ·have:=h8 g hg';have:=(hown j y g hy hg).1;omega
      ·rw [hτ' j' hj'] at hy'
       exact h.env.tkd j j' y y' g hjj hy hy' hg hg' }
  ·exact {
    c:=fun x v hc=>hn.c x v (h.nw.c x v hc)
    cn:=fun x v hc=>by
     rcases hnew x v hc with h1 | h1 | ⟨i,y,_,h2,h3⟩
     ·exact h.nw.cn x v h1
     ·have:=h.fr.size;exact .inr (.inl (by omega))
     ·rcases h.nw.own h2 h3 with h4 | h4
      ·exact .inr (.inr h4)
      ·exact .inr (.inl h4)
    β:=h.nw.β
    tk:=fun j q0 y0 hq0 hy0=>by
     obtain ⟨q1,y1,h1,h2,h3,h4,h5,h6⟩:=h.nw.tk j q0 y0 hq0 hy0;rcases Nat.lt_or_ge j m1 with hj | hj
     ·obtain ⟨y,q',y',g1,g2,g3,g4,g5,g6,g7⟩:=hrow j q1 hj h1;rw [h2] at g1;simp only [oI] at g1;subst g1;refine ⟨q',y',by rw [hk2 j hj];exact g2,by rw [hτ3 j hj];exact g3,h3.trans g4,h4.trans g5,?_,?_⟩
      ·rcases g6 with ⟨g6,rfl⟩ | g6
       ·rcases h5 with ⟨h5,rfl⟩ | h5
        ·exact .inl ⟨by omega,rfl⟩
        ·exact .inr (by omega)
       ·rcases h5 with ⟨h5,_⟩ | h5
        ·exact .inr (by omega)
        ·exact .inr (by omega)
      ·rcases g7 with g7 | g7
       ·rcases h6 with h6 | h6
        ·exact .inl (g7.trans h6)
        ·exact .inr fun g hg=>h6 g (by rw [<- g7];exact hg)
       ·refine .inr fun g hg=>?_;have:=g7 g hg;have:=h.fr.size;omega
     ·exact ⟨q1,y1,by rw [hk' j hj];exact h1,by rw [hτ' j hj];exact h2,h3,h4,h5,h6⟩
    tn:=fun j y g hj0 hy hg=>by
     rcases Nat.lt_or_ge j m1 with hj | hj
     ·rw [hτ3 j hj] at hy;obtain ⟨y0,h7,h8⟩:=hrow2 j _ hj hy;rcases h8 with h8 | h8
      ·exact h.nw.tn j y0 g hj0 h7 (by rw [<- h8];exact hg)
      ·have:=h8 g hg;have:=h.fr.size;omega
     ·rw [hτ' j hj] at hy;exact h.nw.tn j y g hj0 hy hg
    l0:=h.nw.l0 }
  ·by_cases hjs:E1.S j
   ·left;rcases hS j hjs with h1 | ⟨i,y,_,h2,h3⟩
    ·have hbm:=List.mem_of_mem_take h1;obtain ⟨r0,hr0,hl0⟩:=h.nw.β;rw [hr0] at hbm;rcases List.mem_append.1 hbm with hbm | hbm
     ·exact .inl (.inl hbm)
     ·exact .inr (hl0 j hbm)
    ·rcases h.nw.own h2 h3 with h4 | h4
     ·exact .inl (.inr h4)
     ·exact .inr h4
   ·exact .inr (hh j hj hjs)
 refine ⟨v,r,os',E2.tk,E',rfl,hΦ,hos',htk2,hrel,Rv.mono hx2 hvd,hx,rfl,fun i b hi hb=>?_⟩;refine hh b (h.env.block_lt (mG hb)) fun hs=>?_;rcases hS b hs with h1 | ⟨i',y,_,h2,h3⟩
 ·obtain ⟨i',hi',he'⟩:=List.getElem_of_mem h1;have h4:(E.β.take n1)[i']? = some b:=by rw [gE hi',he']
  rw [List.getElem?_take] at h4;split at h4
  ·rename_i hlt;have:=(List.getElem?_inj (gS hb).1 h.env.inj).1 (hb.trans h4.symm);omega
  ·cases h4
 ·exact (hown i' y b h2 h3).2 (mG hb)
theorem call_osw {f:FuncId} {args args':List DV} {os:List (List DV)} {d:Nat} (n1 m1:Nat) (hen:Enters X.P f) (hd:okD X.nt st.sl (some d)=true) (hn1:Nat.ble n1 st.bx.length=true) (hm1:Nat.ble m1 st.tk.length=true)
  (hos:CcLL [] n1 n1 m1 os (st.bx.take n1)) (ha:CcL [] n1 n1 m1 args' args)
  {Φ:DV->List (List DV)->List TkE->Prop} (hc:Ev X.P f args' os (st.tk.take m1) Φ)
  (hk:∀ r os' tk',Φ r os' tk' -> os'.length=n1->tk'.length=m1->∃ st',Wk X ⟨(d,⟨[],r⟩) :: st.sl,os' ++ st.bx.drop n1,tk' ++ st.tk.drop m1⟩ st' /\ go X 4000 k st') (hst:X.still=false:=by exact rfl) (hX:X.bt=[]:=by exact rfl):CallG X f args (some d) k st:=by
 refine ⟨hen,hst,fun E a w vs h hv=>(calls_os n1 m1 hn1 hm1 hos ha hc hst hX h hv).mono ?_⟩;rintro e w' ⟨v,r,os',tk',E',rfl,hΦ,hos',htk2,hrel,hrv,_,_,_⟩;obtain ⟨st',hwk,hgo⟩:=hk r os' tk' hΦ hos' htk2;obtain ⟨E3,hr3⟩:=hwk _ _ _ (put_rel hrel hd r v hrv);exact go_sound 4000 _ _ hgo E3 _ w' hr3
theorem call_os {f:FuncId} {args args':List DV} {os:List (List DV)} {d:Nat} (n1 m1:Nat) (hen:Enters X.P f) (hd:okD X.nt st.sl (some d)=true) (hn1:Nat.ble n1 st.bx.length=true) (hm1:Nat.ble m1 st.tk.length=true)
  (hos:CcLL [] n1 n1 m1 os (st.bx.take n1)) (ha:CcL [] n1 n1 m1 args' args)
  {Φ:DV->List (List DV)->List TkE->Prop} (hc:Ev X.P f args' os (st.tk.take m1) Φ)
  (hk:∀ r os' tk',Φ r os' tk' -> os'.length=n1->tk'.length=m1->go X 4000 k ⟨(d,⟨[],r⟩) :: st.sl,os' ++ st.bx.drop n1,tk' ++ st.tk.drop m1⟩) (hst:X.still=false:=by exact rfl) (hX:X.bt=[]:=by exact rfl):CallG X f args (some d) k st:=
 call_osw n1 m1 hen hd hn1 hm1 hos ha hc (fun r os' tk' h1 h2 h3=>⟨_,Wk.refl _ _,hk r os' tk' h1 h2 h3⟩) hst hX
theorem own_store {all:Array Oper} {o1 o2 o3:Oper} {r:List Oper} {d1 d2 kt t sT f off ft ty et e by' m ety nn:Nat} {bb:Bool} {zz:List Value} {z:Int} {kd:IntKind} {es:List (List DV)} {cs:List DV} {s ix x:Operand} {dv dv':DV}
  (h1:o1.op = .indexAddr t s ix/\o1.dst=some d1) (h2:o2.op = .fieldAddr sT (.tmp d1) f/\o2.dst=some d2/\o2.guard=none) (h3:o3.op = .store ty (.tmp d2) x/\o3.dst=none/\o3.guard=none)
  (hd1:okD X.nt st.sl (some d1)=true) (hd2:okD X.nt ((d1,⟨[],.pt [] 0⟩) :: st.sl) (some d2)=true)
  (hs:rv st [] s=some (.sl 0 es (some kt))) (hi:rv st [] ix=some (.v (.int kd z))) (hx:rv ⟨(d2,⟨[],.pt [] 0⟩) :: (d1,⟨[],.pt [] 0⟩) :: st.sl,st.bx,st.tk⟩ [] x=some dv) (hdv:eraD dv=some dv') (hdc:dv.cells=[dv])
  (hT:X.T.find t=some ⟨nn,bb,.sl et e by',zz⟩) (hoff:X.T.off sT f=some (off,ft)) (hsz:X.T.sz ty=some 1)
  (hq:st.tk[kt]? = some ⟨m,ety,e,some cs⟩) (hes:es.length=m) (hz:0<=z/\z < m) (hfit:off + 1<=e)
  (hk:go X 4000 (.ops all r :: k) ⟨(d2,⟨[],.pt [] 0⟩) :: (d1,⟨[],.pt [] 0⟩) :: st.sl,st.bx,st.tk.set kt ⟨m,ety,e,some (cs.set (z.toNat * e + off) dv')⟩⟩)
  (hst:X.still=false:=by exact rfl):OpG X o1 (.ops all (o2 :: o3 :: r) :: k) st:=by
 intro E a w h;have hrl:=h.rl;have e1:=sl_val hrl hs;have e2:=rv_int_eq (sl_val hrl hi);unfold Rv at e1;obtain ⟨bs,ns,caps,e1,⟨hns,hsc⟩,hsr,hstk⟩:=e1;subst hns;obtain ⟨q',hq',_,hτk⟩:=hstk kt rfl;have hq2:E.tk[kt]? = some ⟨m,ety,e,some cs⟩:=by rw [h.tk];exact hq
 rw [hq2] at hq';simp only [oI] at hq';subst hq';have hy:=hτk hes;rw [e1,hes] at hy;rw [hes] at e1;have hot:=h.env.tks kt _ _ hq2 hy;rcases hot with ⟨hv0,hn0,_⟩ | ⟨g,cap,cur,hv0,hw0,⟨hs0,hown0⟩,hnc0,hcm0,hb0,hc0⟩
 ·simp only at hn0;omega
 injection hv0 with i1 i2 i3
 subst i1 i3;obtain ⟨hu,ii,zv,hi2,_,hsz2,_,_⟩:=und_sl X.hT hT;have hsz':szOf X.P et=some e:=by rw [size_of_info hi2,hsz2]
 have hrun1:(execOp a.eval o1).run X.P w = .ok (.value (.pointer (some ⟨g,z.toNat * e,none⟩))) w:=by
  have hrun:(Instr.indexAt t (.slice (some ⟨g,0,none⟩) m caps) (.int kd z)).run X.P w = .ok (.pointer (some ⟨g,z.toNat * e,none⟩)) w:=by
   simp [Instr.indexAt,asIntOf,run_underlying hu,hz.1,hz.2,run_sizeOf' hsz',Addr.add_lit]
  simp only [execOp,h1.1,e1,e2,Sem.run_bind,hrun,Result.andThen_ok,Sem.run_pure]
 refine wp_value hrun1 ?_;rw [h1.2];have hr1:Rel X E ⟨(d1,⟨[],.pt [] 0⟩) :: st.sl,st.bx,st.tk⟩ (a.put (some d1) (.pointer (some ⟨g,z.toNat * e,none⟩))) w:=put_rel h hd1 (.pt [] 0) _ (by unfold Rv;exact ⟨g,z.toNat * e,rfl,by simp only [RvAt]⟩);generalize ha1:a.put (some d1) (.pointer (some ⟨g,z.toNat * e,none⟩))=a1 at hr1
 have ht1:a1.eval (.tmp d1) = .pointer (some ⟨g,z.toNat * e,none⟩):=by
  subst ha1;simp only [okD,Bool.and_eq_true,Nat.blt_eq] at hd1;simp [Act.eval,Act.put,h.sz,hd1.1]
 show kq X (.ops all (o2 :: o3 :: r) :: k) .normal a1 w;simp only [kq,wpList,Region.wanted,h2.2.2,h3.2.2,if_true];refine .inl (wp_value (v:=.pointer (some ⟨g,z.toNat * e + off,none⟩)) (w':=w) ?_ ?_)
 ·simp only [execOp,h2.1,ht1,Sem.run_bind,run_fieldAt' (off_ok X.hT hoff),Result.andThen_ok,Sem.run_pure]
 rw [h2.2.1];have hr2:Rel X E ⟨(d2,⟨[],.pt [] 0⟩) :: (d1,⟨[],.pt [] 0⟩) :: st.sl,st.bx,st.tk⟩ (a1.put (some d2) (.pointer (some ⟨g,z.toNat * e + off,none⟩))) w:=put_rel hr1 hd2 (.pt [] 0) _ (by unfold Rv;exact ⟨g,z.toNat * e + off,rfl,by simp only [RvAt]⟩);generalize ha2:a1.put (some d2) (.pointer (some ⟨g,z.toNat * e + off,none⟩))=a2 at hr2
 have ht2:a2.eval (.tmp d2) = .pointer (some ⟨g,z.toNat * e + off,none⟩):=by
  subst ha2;simp only [okD,Bool.and_eq_true,Nat.blt_eq] at hd2;simp [Act.eval,Act.put,hr1.sz,hd2.1]
 have e3:=sl_val hr2.rl hx
 have hcl:RvC E [dv] (a2.eval x).cells.toList:=by
  have:=e3.cells (fills_len (n:=1) (by rw [hdc];rfl) (by omega))
  rwa [hdc] at this
 have hvl:(a2.eval x).cells.toList.length=1:=by rw [hcl.1.length];all_goals rfl
 obtain ⟨xv,hxv⟩:∃ xv,(a2.eval x).cells.toList=[xv]:=by
  match hh:(a2.eval x).cells.toList,hvl with
  | [y],_=>exact ⟨y,rfl⟩
 obtain ⟨h5,h6⟩:=hown0 cs rfl;simp only at h5 h6 hs0 hw0 hnc0;have hcurl:cur.toList.length=caps * e:=by simpa using hs0
 have hme:m * e<=caps * e:=Nat.mul_le_mul_right _ hnc0
 have hpos:z.toNat * e + off + 1<=m * e:=by
  have:(z.toNat + 1) * e<=m * e:=Nat.mul_le_mul_right _ (by omega);rw [Nat.add_mul] at this;omega
 have hsv:=storeVar_blk (P:=X.P) (t:=ty) (off:=z.toNat * e + off) (n:=1) hw0 (sz_ok X.hT hsz) hvl (by rw [hs0];omega) (List.all_eq_true.2 hcl.2);refine .inl (wp_unit (w':=World.setBlk w g (.cells ((cur.toList.take (z.toNat * e + off) ++ (a2.eval x).cells.toList ++ cur.toList.drop (z.toNat * e + off + 1)).toArray) ety (0,0))) ?_ ?_)
 ·simp only [execOp,h3.1,ht2,Instr.storeAt,Instr.sureAddr,Sem.run_bind,Sem.run_pure,Result.andThen_ok,hsv]
 rw [h3.2.1]
 have hset:cur.toList.take (z.toNat * e + off) ++ (a2.eval x).cells.toList ++ cur.toList.drop (z.toNat * e + off + 1)=cur.toList.set (z.toNat * e + off) xv:=by
  rw [hxv,List.set_eq_take_append_cons_drop,if_pos (by omega)];simp
 rw [hset]
 have hx1:RvC E.cl [dv'] [xv]:=by
  rw [hxv] at hcl;have h7:=hcl.1;simp only [RvL] at h7;obtain ⟨v,s',h8,h9,h10⟩:=h7;simp only [List.cons.injEq] at h8;obtain ⟨rfl,rfl⟩:=h8;exact ⟨rvL_cons (eraD_sound hdv h9) (by simp only [RvL]),hcl.2⟩
 have hat:TkAt (World.setBlk w g (.cells (cur.toList.set (z.toNat * e + off) xv).toArray ety (0,0))) E.c E.β ⟨m,ety,e,some (cs.set (z.toNat * e + off) dv')⟩ (.slice (some ⟨g,0,none⟩) m caps):=by
  refine .inr ⟨g,caps,_,rfl,setBlk_same hw0,⟨by simpa using hcurl,fun cs' hc'=>?_⟩,hnc0,hcm0,hb0,hc0⟩;simp only [oI] at hc';subst hc';simp only;refine ⟨by rw [List.length_set];exact h5,?_⟩;rw [List.take_set];have hlt:z.toNat * e + off < (cur.toList.take (m * e)).length:=by rw [List.length_take];omega
  rw [List.set_eq_take_append_cons_drop,if_pos (by omega),List.set_eq_take_append_cons_drop,if_pos hlt];have h8:=(RvC.take (z.toNat * e + off) h6).append (RvC.append hx1 (RvC.drop (z.toNat * e + off + 1) h6));simpa using h8
 have hso:some g≠some g->False:=fun h=>h rfl
 obtain ⟨hrel,hext⟩:=own_rel (q':=⟨m,ety,e,some (cs.set (z.toNat * e + off) dv')⟩) (w':=World.setBlk w g (.cells (cur.toList.set (z.toNat * e + off) xv).toArray ety (0,0))) hr2 hst hq2 hy rfl rfl rfl (.inl ⟨rfl,rfl⟩) hat (.inl rfl) rfl rfl rfl (by rw [setBlk_size];exact Nat.le_refl _) (fun j _ hne=>setBlk_other (by
  rintro rfl
  exact hne rfl))
 exact go_sound 4000 _ _ hk _ _ _ hrel
open Classical in
noncomputable def ownC (E:En) (w:World) (y:Value) (n:Nat):Addr->Option Value:=
 fun x=>if y.ownBlock=some x.block/\x.spot=none/\x.off < n then w.cell? x else E.c x
theorem ownC_cases {y:Value} {n:Nat} {x:Addr} {v:Value} (h:ownC E w y n x=some v):(y.ownBlock=some x.block/\x.spot=none/\x.off < n/\w.cell? x=some v)∨E.c x=some v:=by
 unfold ownC at h;split at h
 ·rename_i hc;exact .inl ⟨hc.1,hc.2.1,hc.2.2,h⟩
 ·exact .inr h
theorem own_frz (h:Rel X E st a w) {k n ty e:Nat} {cs:List DV} {ns:List (List DV)} (hq:st.tk[k]? = some ⟨n,ty,e,some cs⟩) (hcs:cs=ns.flatten) (hns:∀ x∈ns,x.length=e) (hnl:ns.length=n) :
  ∃ E',Rel X E' ⟨st.sl,st.bx,st.tk.set k ⟨n,ty,e,none⟩⟩ a w/\Ext E E' /\ ∀ es y,es.length=n->Rv E (.sl 0 es (some k)) y->Rv E' (.sl e ns (some k)) y:=by
 subst hcs;have hq2:E.tk[k]? = some ⟨n,ty,e,some ns.flatten⟩:=by rw [h.tk];exact hq
 have hkt:=(gS hq2).1;have hkτ:k < E.τ.length:=by rw [h.env.tl];exact hkt
 have hv:E.τ[k]? = some E.τ[k]:=gE hkτ;generalize E.τ[k]=v at hv;have hot:=h.env.tks k _ v hq2 hv
 have hle:∀ x u,E.c x=some u->ownC E w v (n * e) x=some u:=fun x u hx=>by
  unfold ownC;split
  ·exact h.env.sub x u hx
  ·exact hx
 have hext:Ext E ⟨ownC E w v (n * e),E.β,E.tk.set k ⟨n,ty,e,none⟩,E.τ⟩:=⟨hle,fun _ _ h=>h,fun j q hqj=>by
  by_cases hj:j=k
  ·subst hj;rw [hq2] at hqj;simp only [oI] at hqj;subst hqj;exact ⟨_,List.getElem?_set_self hkt,.inl ⟨rfl,rfl⟩⟩
  ·exact ⟨q,by rw [List.getElem?_set_ne (Ne.symm hj)];exact hqj,.inl ⟨rfl,rfl⟩⟩⟩
 refine ⟨⟨ownC E w v (n * e),E.β,E.tk.set k ⟨n,ty,e,none⟩,E.τ⟩,rel_env h hext ?_ (by rw [h.tk]) ?_ h.fr h.sh h.bt,hext,?_⟩
 ·exact {
   len:=h.env.len
   tl:=by simp only [List.length_set];exact h.env.tl
   bxs:=fun i cs hi=>by
    obtain ⟨b,t,arr,hb,hw,hc⟩:=h.env.bxs i cs hi;exact ⟨b,t,arr,hb,hw,hc.mono hext⟩
   inj:=h.env.inj
   sub:=fun x u hx=>by
    rcases ownC_cases hx with ⟨_,_,_,h1⟩ | h1
    ·exact h1
    ·exact h.env.sub x u h1
   pc:=fun x u hx hm=>by
    rcases ownC_cases hx with ⟨h1,_⟩ | h1
    ·exact (own_at hot h1).2 hm
    ·exact h.env.pc x u h1 hm
   tks:=fun j q y hj hy=>by
    by_cases hjk:j=k
    ·subst hjk;have hj':(E.tk.set j ⟨n,ty,e,none⟩)[j]? = some q:=hj;rw [List.getElem?_set_self hkt] at hj';have hy':E.τ[j]? = some y:=hy;rw [hv] at hy';simp only [oI] at hj' hy';subst hj' hy';rcases hot with ⟨h1,h2,_⟩ | ⟨g,cap,cur,rfl,h1,h2,h3,h4,h5,h6⟩
     ·exact .inl ⟨h1,h2,fun cs hc=>by cases hc⟩
     ·refine .inr ⟨g,cap,cur,rfl,h1,⟨h2.1,OwnAt.none rfl⟩,h3,h4,h5,fun x u hx hxg=>?_⟩;rcases ownC_cases hx with ⟨_,_,h7,_⟩ | h7
      ·exact h7
      ·have:=h6 x u h7 hxg;simp only [TkE.kn] at this;omega
    ·have hj':E.tk[j]? = some q:=by
      have:(E.tk.set k ⟨n,ty,e,none⟩)[j]? = some q:=hj
      rwa [List.getElem?_set_ne (Ne.symm hjk)] at this
     rcases h.env.tks j q y hj' hy with h1 | ⟨g,cap,cur,rfl,h1,h2,h3,h4,h5,h6⟩
     ·exact .inl h1
     ·refine .inr ⟨g,cap,cur,rfl,h1,⟨h2.1,h2.2.mono hle⟩,h3,h4,h5,fun x u hx hxg=>?_⟩;rcases ownC_cases hx with ⟨h7,_⟩ | h7
      ·exact (h.env.tkd j k _ v g hjk hy hv rfl (by rw [h7,hxg])).elim
      ·exact h6 x u h7 hxg
   tkd:=h.env.tkd }
 ·exact {
   c:=fun x u hx=>hle x u (h.nw.c x u hx)
   cn:=fun x u hx=>by
    rcases ownC_cases hx with ⟨h1,_⟩ | h1
    ·rcases h.nw.own hv h1 with h2 | h2
     ·exact .inr (.inr h2)
     ·exact .inr (.inl h2)
    ·exact h.nw.cn x u h1
   β:=h.nw.β
   tk:=fun j q0 y0 hq0 hy0=>by
    obtain ⟨q1,y1,h1,h2,h3,h4,h5,h6⟩:=h.nw.tk j q0 y0 hq0 hy0;by_cases hj:j=k
    ·subst hj;rw [hq2] at h1;simp only [oI] at h1;subst h1;exact ⟨_,y1,List.getElem?_set_self hkt,h2,h3,h4,h5,h6⟩
    ·exact ⟨q1,y1,by rw [List.getElem?_set_ne (Ne.symm hj)];exact h1,h2,h3,h4,h5,h6⟩
   tn:=fun j y g hj hy=>h.nw.tn j y g hj hy
   l0:=h.nw.l0 }
 ·intro es y hes hy;unfold Rv at hy ⊢;obtain ⟨b,m,cap,rfl,⟨rfl,hmc⟩,hr,hst⟩:=hy;obtain ⟨q',hq',_,hτ⟩:=hst k rfl;rw [hq2] at hq';simp only [oI] at hq';subst hq';have hy:=hτ hes;rw [hv] at hy;simp only [oI] at hy;subst hy;refine ⟨b,es.length,cap,rfl,⟨by omega,hmc⟩,fun hne=>?_,fun k' hk'=>?_⟩
  ·rcases hot with ⟨h1,h2,h3⟩ | ⟨g,cap',cur,h0,h1,h2,h3,h4,h5,h6⟩
   ·simp only at h2;exact (hne (List.eq_nil_of_length_eq_zero (by omega))).elim
   ·injection h0 with i1 i2 i3
    subst i1;refine ⟨rfl,?_⟩;obtain ⟨h7,h8⟩:=h2.2 _ rfl;refine rvEs_flat (h8.mono (E:=⟨E.c,[],[],[]⟩) ⟨hle,fun _ _ h=>by simp at h,fun _ _ h=>by simp at h⟩) hns fun j u hj=>?_;rw [List.getElem?_take] at hj;split at hj
    ·rename_i hjl;show ownC E w _ (n * e) _=_;unfold ownC;rw [if_pos ⟨rfl,rfl,by simpa [ao] using hjl⟩];simp only [ab,ao,Nat.zero_add];rw [cell_blk h1];simpa using hj
    ·cases hj
  ·cases hk';exact ⟨_,List.getElem?_set_self hkt,by simp only;omega,fun _=>hv⟩
theorem wk_own {j o k n ty e:Nat} {ocs:List DV} {es ns:List (List DV)} (hq:st.tk[k]? = some ⟨n,ty,e,some ns.flatten⟩) (hns:∀ x∈ns,x.length=e) (hnl:ns.length=n) (hj:st.bx[j]? = some ocs) (ho:ocs[o]? = some (.sl 0 es (some k))) (hes:es.length=n) :
  Wk X st ⟨st.sl,st.bx.set j (ocs.set o (.sl e ns none)),st.tk.set k ⟨n,ty,e,none⟩⟩:=by
 intro E a w h;obtain ⟨E',hr,hx,hrow⟩:=own_frz h hq rfl hns hnl;refine ⟨E',{ hr with env:=?_ }⟩
 exact { hr.env with
  len:=by simp only [List.length_set];exact hr.env.len
  bxs:=fun i cs' hi=>by
   by_cases hij:i=j
   ·subst hij;have hlt:=(gS hj).1;have hi':(st.bx.set i (ocs.set o (.sl e ns none)))[i]? = some cs':=hi;rw [List.getElem?_set_self hlt] at hi';simp only [oI] at hi';subst hi';obtain ⟨b,t,arr,hb,hw,hc⟩:=hr.env.bxs i ocs hj;obtain ⟨b0,t0,arr0,hb0,hw0,hc0⟩:=h.env.bxs i ocs hj;have hb1:=hx.β i b0 hb0;rw [hb] at hb1;simp only [oI] at hb1;subst hb1;rw [hw] at hw0;simp only [oI,Obj.cells.injEq] at hw0
    have harr:arr=arr0:=by
     have:=hw0.1;simpa using this
    subst harr;refine ⟨b,t,arr,hb,hw,?_,hc.2⟩;obtain ⟨v,hv1,hv2⟩:=hc0.1.get ho;have hrv:=hrow es v hes hv2;have hol:=(gS ho).1;have hal:arr.length=ocs.length:=hc.1.length
    have h1:=(RvL.take o hc.1).append (rvL_cons (d:=.sl e ns none) (v:=v) (by
     unfold Rv at hrv ⊢;obtain ⟨b,n,cap,g1,g2,g3,_⟩:=hrv
     exact ⟨b,n,cap,g1,g2,g3,fun k hk=>by cases hk⟩) (RvL.drop (o + 1) hc.1))
    rw [List.set_eq_take_append_cons_drop,if_pos hol]
    have h2:arr.take o ++ v :: arr.drop (o + 1)=arr:=by
     have hoa:o < arr.length:=by omega
     have:arr[o]=v:=by
      rw [gE hoa] at hv1;simpa using hv1
     rw [<- this];simp
    rwa [h2] at h1
   ·have hi':(st.bx.set j (ocs.set o (.sl e ns none)))[i]? = some cs':=hi;rw [List.getElem?_set_ne (Ne.symm hij)] at hi'
    exact hr.env.bxs i cs' hi' }
theorem Wk.ren (i j:Nat) (S S':St) (he:S'=renSt i j S) (hi0:Nat.ble X.n0 i=true) (hj0:Nat.ble X.n0 j=true) (hi:Nat.blt i S.bx.length=true) (hj:Nat.blt j S.bx.length=true) (hX:X.bt=[]:=by exact rfl):Wk X S' S:=fun E a w h=>by
 subst he;simp only [Nat.blt_eq] at hi hj;exact ren_rel hX h (nL hi0) (nL hj0) hi hj
theorem loop_w {c:Code} (I:Nat->St->Prop) (j0:Nat) (st0:St) (hw:Wk X st st0) (h0:I j0 st0)
  (hr:∀ j s,I j s->go X 4000 (.code c :: .rnd (fun s'=>∃ s'',Wk X s' s'' /\ ∃ j',j' < j/\I j' s'') :: k) s):LoopG X c k st:=by
 intro E a w h;obtain ⟨E0,hr0⟩:=hw _ _ _ h
 classical
 let Inv:Act->World->Prop:=fun a w=>∃ j s E,Rel X E s a w/\I j s
 let μ:Act->World->Nat:=fun a w=>if hI:Inv a w then Classical.choose (least hI) else 0
 refine wp_loop Inv μ ⟨j0,st0,E0,hr0,h0⟩ ?_;intro a1 w1 hI;have hfind:=(Classical.choose_spec (least hI)).1;obtain ⟨s,E1,hrel,hIs⟩:=hfind;have hs:=go_sound 4000 _ _ (hr _ s hIs) E1 a1 w1 hrel;rw [kq_code_normal] at hs;refine wp_mono hs ?_;intro e a2 w2 hq
 cases e with
 | normal=>
  obtain ⟨s',E2,hrel2,s'',hwk,j',hj',hI'⟩:=hq;obtain ⟨E3,hrel3⟩:=hwk _ _ _ hrel2;have hI2:Inv a2 w2:=⟨j',s'',E3,hrel3,hI'⟩;refine ⟨hI2,?_⟩;simp only [μ,dif_pos hI,dif_pos hI2];exact Nat.lt_of_le_of_lt ((Classical.choose_spec (least hI2)).2 j' ⟨s'',E3,hrel3,hI'⟩) hj'
 | exit id=>exact hq
 | goto l=>exact hq
 | ret=>exact hq
 | panic c=>exact hq
 | outgrown=>exact hq
mutual
def flatD:DV->Bool
 | .v _=>true
 | .agg l=>flatL l
 | .tup l=>flatL l
 | _=>false
def flatL:List DV->Bool
 | []=>true
 | d :: r=>flatD d && flatL r
end
mutual
theorem Rv.flat {E E':En}:∀ {d:DV} {v:Value},flatD d=true->Rv E d v->Rv E' d v
 | .v x,v,_,h=>by unfold Rv at h ⊢;exact h
 | .agg l,v,hf,h=>by
  simp only [flatD] at hf;simp only [Rv] at h ⊢;obtain ⟨vs,h1,h2,h3⟩:=h;exact ⟨vs,h1,RvL.flat hf h2,h3⟩
 | .tup l,v,hf,h=>by
  simp only [flatD] at hf;simp only [Rv] at h ⊢;obtain ⟨vs,h1,h2⟩:=h;exact ⟨vs,h1,RvL.flat hf h2⟩
 | .ud,_,hf,_=>by simp [flatD] at hf
 | .sl _ _ _,_,hf,_=>by simp [flatD] at hf
 | .pt _ _,_,hf,_=>by simp [flatD] at hf
 | .loc _ _,_,hf,_=>by simp [flatD] at hf
 | .el _ _,_,hf,_=>by simp [flatD] at hf
 | .ms _ _ _ _ _,_,hf,_=>by simp [flatD] at hf
 | .fn _ _ _,_,hf,_=>by simp [flatD] at hf
 | .ifc _ _,_,hf,_=>by simp [flatD] at hf
theorem RvL.flat {E E':En}:∀ {l:List DV} {vs:List Value},flatL l=true->RvL E l vs->RvL E' l vs
 | [],vs,_,h=>by simpa only [RvL] using h
 | d :: r,vs,hf,h=>by
  simp only [flatL,Bool.and_eq_true] at hf;simp only [RvL] at h ⊢;obtain ⟨v,s,h1,h2,h3⟩:=h;exact ⟨v,s,h1,Rv.flat hf.1 h2,RvL.flat hf.2 h3⟩
end
theorem call_bf {f:FuncId} {args args':List DV} {d:Nat} {y:DV} (hen:Enters X.P f) (hc:EvP X.P f args' y) (ha:CcL st.bx 0 0 0 args' args) (hy:flatD y=true) (hd:okD X.nt st.sl (some d)=true)
  (hk:go X 4000 k ⟨(d,⟨[],y⟩) :: st.sl,st.bx,st.tk⟩) (hst:X.still=false:=by exact rfl):CallG X f args (some d) k st:=by
 refine ⟨hen,hst,fun E a w vs h hv=>(calls_borrow h.env hc ha hv).mono ?_⟩;rintro e w' ⟨v,E2,rfl,hr,hm,_⟩;have hh:∀ i,i < w.heap.size->w'.heap[i]? = w.heap[i]?:=fun i hi=>hm.block i hi (fun h=>h);have hrel:Rel X E st a w':=rel_env h (Ext.refl E) (h.env.keep hh) h.tk h.nw (h.fr.trans_keep hm.os hm.tape hm.output hm.size fun i hi=>.inr (hh i hi)) (noSt hst) (h.bt.keep fun b hb=>hh b (h.env.block_lt hb));exact go_sound 4000 _ _ hk E _ w' (put_rel hrel hd y v (Rv.flat hy hr))
theorem callD_b {D:Dr} {c:Bool} {i:Nat} {s0:List (Nat × Sl)} {f:FuncId} {args args':List DV} {d:Nat} {y:DV} {r:List (Nat × Oper)} (hen:Enters X.P f) (hc:EvP X.P f args' y) (ha:CcL st.bx 0 0 0 args' args) (hy:flatD y=true) (hd:(okD X.nt st.sl (some d) && okD X.nt s0 (some d))=true)
  (hk:put2 s0 st (some d) true [] y (goD X D 3000 c r)) (hst:X.still=false:=by exact rfl):CallD X D c i r f args (some d) s0 st:=by
 refine ⟨hen,fun hl E0 wr hD E a w vs h hv=>(calls_borrow h.rel.env hc ha hv).mono ?_⟩;rintro e w' ⟨v,E2,rfl,hr,hm,_⟩;have hh:∀ i,i < w.heap.size->w'.heap[i]? = w.heap[i]?:=fun i hi=>hm.block i hi (fun h=>h);have hrel:Rel X E st a w':=rel_env h.rel (Ext.refl E) (h.rel.env.keep hh) h.rel.tk h.rel.nw (h.rel.fr.trans_keep hm.os hm.tape hm.output hm.size fun i hi=>.inr (hh i hi)) (noSt hst) (h.rel.bt.keep fun b hb=>hh b (h.rel.env.block_lt hb));have hs:Stp none E w E w':=⟨Ext.refl E,⟨[],by simp⟩,fun j b hb _=>hh b (h.rel.env.block_lt (mG hb))⟩;have hC:=stp_C h hs hrel (fun j hj=>by cases hj);refine ⟨v,rfl,fun _=>hC,?_⟩;have hrelD:RelD X ⟨D,E0,wr⟩ c E s0 st (a.put none v) w':=stp_relD h hs hrel (fun h1=>hC (h.cc h1)) (fun i x hx=>.inr ⟨hx,fun d hd=>by cases hd⟩) rfl;obtain ⟨s1,st1,hk1,hrel1⟩:=put2_rel hrelD hd true [] y v (fun _ _ p hp=>by cases hp) (fun _=>Rv.flat hy hr) (fun _ _=>Rv.flat hy hr) (fun hn=>(hn (holds_nil _)).elim) hk;exact goD_sound (D:=⟨D,E0,wr⟩) hD 3000 c r _ _ hk1 hl E _ w' hrel1
theorem CallG.ren {S:St} {f:FuncId} {args args':List DV} {dst:Option Nat} (i j:Nat) (hS:st=renSt i j S) (ha:args=renL (swp i j) args') (hi0:Nat.ble X.n0 i=true) (hj0:Nat.ble X.n0 j=true) (hi:Nat.blt i S.bx.length=true) (hj:Nat.blt j S.bx.length=true)
  (h:CallG X f args' dst k S) (hX:X.bt=[]:=by exact rfl):CallG X f args dst k st:=by
 subst hS ha;simp only [Nat.blt_eq] at hi hj;refine ⟨h.1,h.2.1,fun E a w vs hr hv=>?_⟩
 have hlen:E.β.length=S.bx.length:=by
  rw [hr.env.len];simp only [renSt,swL_length,renO_length]
 exact h.2.2 _ a w vs (ren_relE hX hr (nL hi0) (nL hj0) hi hj) (RvL.ren (by rw [hlen];exact hi) (by rw [hlen];exact hj) hv)
end
end Dv
end Go.Proofs.YtadhpeooehkklaaGreat
set_option maxRecDepth 100000
namespace Go.Proofs.YtadhpeooehkklaaGreat
open Go Go.RowKit Dv Tryz
def cZ (l:List Int):List DV:=l.map fun z=>DV.v (.int .i64 z)
def dLt (names:List ByteArray) (tb lq:DV) (js:List Int):List DV:=.sl 1 (dBs names) none :: tb :: lq :: cZ js
def oz:Option Nat->Int
 | none=>-1
 | some k=>(k:Int)
def bestC (pb:Nat->Nat->Bool) (e:Nat):Option Nat->Bool
 | none=>true
 | some o=>pb e o
def bestA (pin:Nat->Bool) (pb:Nat->Nat->Bool):Nat->Option Nat
 | 0=>none
 | e + 1=>if pin e && bestC pb e (bestA pin pb e) then some e else bestA pin pb e
def bestN (pin:Nat->Bool) (pb:Nat->Nat->Bool) (n:Nat):Option Nat:=
 match bestA pin pb n with
 | none=>none
 | some o=>if (List.range n).any (fun c=>pin c && !pb o c) then none else some o
theorem bestA_lt {pin:Nat->Bool} {pb:Nat->Nat->Bool}:∀ {e k:Nat},bestA pin pb e=some k->k < e
 | 0,k,h=>by cases h
 | e + 1,k,h=>by
  rw [bestA] at h;split at h
  ·simp only [oI] at h;omega
  ·have:=bestA_lt h;omega
theorem bnd1_spec (names:List ByteArray) (tb:DV) (rows:List Nat) (js:List Int) (hr:RelOK rows) (a b:Nat) (ha:a < rows.length) (hb:b < rows.length) :
  EvP Tryz.prog 153 [.v (.int .i64 a),.v (.int .i64 b),.pt [.pt (dLt names tb (dRel rows) js) 0] 0] (.v (.bool (bitB rows a b))):=by
 have h1:=rhas_spec rows hr a b;rw [hasB_nat ha hb] at h1;refine ev_go (P:=Tryz.prog) tt tt_ok 5000 13 [.tmp 5] Tryz.func153 rfl Tryz.ntmps153 rfl (nL rfl) (fun E9 w9 hn9 hm9=>?_);refine call_p en154 (h1) ax rfl ?_;exact (rfl:_=_)
theorem bnd2_spec (names:List ByteArray) (tb:DV) (rows:List Nat) (js:List Int) (hr:RelOK rows) (a b:Nat) (ha:a < rows.length) (hb:b < rows.length) :
  EvP Tryz.prog 155 [.v (.int .i64 a),.v (.int .i64 b),.pt [.pt (dLt names tb (dRel rows) js) 0] 0] (.v (.bool (bitB rows b a))):=by
 have h1:=rhas_spec rows hr b a;rw [hasB_nat hb ha] at h1;refine ev_go (P:=Tryz.prog) tt tt_ok 5000 13 [.tmp 5] Tryz.func155 rfl Tryz.ntmps155 rfl (nL rfl) (fun E9 w9 hn9 hm9=>?_);refine call_p en154 (h1) ax rfl ?_;exact (rfl:_=_)
abbrev bnd1F (L:List DV):DV:=.fn 153 [] [.pt [.pt L 0] 0]
abbrev bnd2F (L:List DV):DV:=.fn 155 [] [.pt [.pt L 0] 0]
theorem bnd3_spec (names:List ByteArray) (tb:DV) (rows:List Nat) (js:List Int) (hr:RelOK rows) (a b c:Nat) (ha:a < rows.length) (hb:b < rows.length) (hc:c < rows.length) :
  EvP Tryz.prog 157 [.v (.int .i64 c),.pt [bnd1F (dLt names tb (dRel rows) js)] 0,.pt [.v (.int .i64 a)] 0,.pt [.v (.int .i64 b)] 0] (.v (.bool (bitB rows a c && bitB rows b c))):=by
 have h1:=bnd1_spec names tb rows js hr a c ha hc;have h2:=bnd1_spec names tb rows js hr b c hb hc;refine ev_go (P:=Tryz.prog) tt tt_ok 5000 16 [.tmp 5] Tryz.func157 rfl Tryz.ntmps157 rfl (nL rfl) (fun E9 w9 hn9 hm9=>?_);refine call_p en153 (h1) ax rfl ?_;refine br (fun g=>?_) (fun g=>?_)
 ·have g:bitB rows a c=true:=by simpa using g
  refine call_p en153 (h2) ax rfl ?_;refine (congrArg (fun b=>DV.v (.bool b)) ?_:_=_);simp [g,pickB]
 ·have g:bitB rows a c=false:=by simpa using g
  refine (congrArg (fun b=>DV.v (.bool b)) ?_:_=_);simp [g,pickB]
theorem bnd4_spec (names:List ByteArray) (tb:DV) (rows:List Nat) (js:List Int) (hr:RelOK rows) (a b c:Nat) (ha:a < rows.length) (hb:b < rows.length) (hc:c < rows.length) :
  EvP Tryz.prog 158 [.v (.int .i64 c),.pt [bnd2F (dLt names tb (dRel rows) js)] 0,.pt [.v (.int .i64 a)] 0,.pt [.v (.int .i64 b)] 0] (.v (.bool (bitB rows c a && bitB rows c b))):=by
 have h1:=bnd2_spec names tb rows js hr a c ha hc;have h2:=bnd2_spec names tb rows js hr b c hb hc;refine ev_go (P:=Tryz.prog) tt tt_ok 5000 16 [.tmp 5] Tryz.func158 rfl Tryz.ntmps158 rfl (nL rfl) (fun E9 w9 hn9 hm9=>?_);refine call_p en155 (h1) ax rfl ?_;refine br (fun g=>?_) (fun g=>?_)
 ·have g:bitB rows c a=true:=by simpa using g
  refine call_p en155 (h2) ax rfl ?_;refine (congrArg (fun b=>DV.v (.bool b)) ?_:_=_);simp [g,pickB]
 ·have g:bitB rows c a=false:=by simpa using g
  refine (congrArg (fun b=>DV.v (.bool b)) ?_:_=_);simp [g,pickB]
abbrev bestSt (L:List DV) (gi gb:Nat) (ci cb:List DV) (n:Nat) (o:Int) (e:Nat):St:=
 ⟨[(0,⟨[],.pt L 0⟩),(1,⟨[],.fn gi [] ci⟩),(2,⟨[],.fn gb [] cb⟩),(7,⟨[],.v (.int .i64 o)⟩),(14,⟨[],.v (.int .i64 n)⟩),(15,⟨[],.v (.int .i64 e)⟩)],[],[]⟩
abbrev best2St (L:List DV) (gi gb:Nat) (ci cb:List DV) (n:Nat) (o:Int) (e:Nat):St:=
 ⟨[(0,⟨[],.pt L 0⟩),(1,⟨[],.fn gi [] ci⟩),(2,⟨[],.fn gb [] cb⟩),(7,⟨[],.v (.int .i64 o)⟩),(37,⟨[],.v (.int .i64 n)⟩),(38,⟨[],.v (.int .i64 e)⟩)],[],[]⟩
theorem best_spec (names:List ByteArray) (tb lq:DV) (js:List Int) (gi gb:Nat) (hei:Enters Tryz.prog gi) (heb:Enters Tryz.prog gb) (ci cb:List DV) (pin:Nat->Bool) (pb:Nat->Nat->Bool)
  (hcci:CcL [] 0 0 0 ci ci) (hccb:CcL [] 0 0 0 cb cb) (hcli:clB.clL 0 0 ci=true) (hclb:clB.clL 0 0 cb=true) (hn:names.length<=64)
  (hin:∀ c:Nat,c < names.length->EvP Tryz.prog gi (.v (.int .i64 c) :: ci) (.v (.bool (pin c))))
  (hpb:∀ a b:Nat,a < names.length->b < names.length->EvP Tryz.prog gb (.v (.int .i64 a) :: .v (.int .i64 b) :: cb) (.v (.bool (pb a b)))) :
  EvP Tryz.prog 156 [.pt (dLt names tb lq js) 0,.fn gi [] ci,.fn gb [] cb] (.v (.int .i64 (oz (bestN pin pb names.length)))):=by
 have hN:=dBs_len names;have hfi:clB 0 0 (.fn gi [] ci)=true:=by simp only [clB,Bool.and_eq_true];exact ⟨rfl,hcli⟩
 have hfb:clB 0 0 (.fn gb [] cb)=true:=by simp only [clB,Bool.and_eq_true];exact ⟨rfl,hclb⟩
 refine ev_go (P:=Tryz.prog) tt tt_ok 5000 57 [.tmp 6] Tryz.func156 rfl Tryz.ntmps156 rfl (nL rfl) (fun E9 w9 hn9 hm9=>?_);refine loop_i (fun j st=>∃ e:Nat,st=bestSt (dLt names tb lq js) gi gb ci cb (dBs names).length (oz (bestA pin pb e)) e/\e<=names.length/\j=names.length - e) names.length (bestSt (dLt names tb lq js) gi gb ci cb (dBs names).length (oz (bestA pin pb 0)) 0) (weak_mk ⟨_,rfl⟩ wA rfl rfl rfl (by repeat' (first | exact trivial | exact we_rfl rfl | exact we_rfl hfi | exact we_rfl hfb | refine ⟨⟨_,rfl,?_⟩,?_⟩))) ⟨0,rfl,by omega,by omega⟩ ?_;rintro j st ⟨e,rfl,he,rfl⟩;refine br (fun hL=>?_) (fun hL=>?_)
 ·have hlt:e < names.length:=by have:=hL;simp [hN] at this;exact this
  have hs:bestA pin pb (e + 1)=if pin e && bestC pb e (bestA pin pb e) then some e else bestA pin pb e:=rfl
  refine call_p hei (hin e hlt) ⟨_,_,rfl,rfl,hcci⟩ rfl ?_
  cases hA:bestA pin pb e with
  | none=>
   rw [hA] at hs;refine br (fun g=>?_) (fun g=>?_)
   ·have g:pin e=true:=by simpa [lastG] using g
    have hz:(e:Int)=oz (bestA pin pb (e + 1)):=by rw [hs,g];all_goals rfl
    exact ⟨bestSt (dLt names tb lq js) gi gb ci cb (dBs names).length (oz (bestA pin pb (e + 1))) (e + 1),(weak_mk ⟨_,rfl⟩ wA rfl rfl rfl (by repeat' (first | exact trivial | exact we_rfl rfl | exact we_rfl hfi | exact we_rfl hfb | exact we_int (nxt hlt (by omega)) | exact we_int hz | refine ⟨⟨_,rfl,?_⟩,?_⟩))),names.length - (e + 1),by omega,e + 1,rfl,by omega,rfl⟩
   ·have g:pin e=false:=by simpa [lastG] using g
    have hz:oz none=oz (bestA pin pb (e + 1)):=by rw [hs,g];all_goals rfl
    exact ⟨bestSt (dLt names tb lq js) gi gb ci cb (dBs names).length (oz (bestA pin pb (e + 1))) (e + 1),(weak_mk ⟨_,rfl⟩ wA rfl rfl rfl (by repeat' (first | exact trivial | exact we_rfl rfl | exact we_rfl hfi | exact we_rfl hfb | exact we_int (nxt hlt (by omega)) | exact we_int hz | refine ⟨⟨_,rfl,?_⟩,?_⟩))),names.length - (e + 1),by omega,e + 1,rfl,by omega,rfl⟩
  | some k=>
   rw [hA] at hs;have hk:=bestA_lt hA;refine br (fun g=>?_) (fun g=>?_)
   ·have g:pin e=true:=by simpa [lastG] using g
    refine call_p heb (hpb e k hlt (by omega)) ⟨_,_,rfl,rfl,_,_,rfl,rfl,hccb⟩ rfl ?_;refine br (fun g2=>?_) (fun g2=>?_)
    ·have g2:pb e k=true:=by simpa [pickB,g,lastG] using g2
     have hz:(e:Int)=oz (bestA pin pb (e + 1)):=by rw [hs,g,bestC,g2];all_goals rfl
     exact ⟨bestSt (dLt names tb lq js) gi gb ci cb (dBs names).length (oz (bestA pin pb (e + 1))) (e + 1),(weak_mk ⟨_,rfl⟩ wA rfl rfl rfl (by repeat' (first | exact trivial | exact we_rfl rfl | exact we_rfl hfi | exact we_rfl hfb | exact we_int (nxt hlt (by omega)) | exact we_int hz | refine ⟨⟨_,rfl,?_⟩,?_⟩))),names.length - (e + 1),by omega,e + 1,rfl,by omega,rfl⟩
    ·have g2:pb e k=false:=by simpa [pickB,g,lastG] using g2
     have hz:oz (some k)=oz (bestA pin pb (e + 1)):=by rw [hs,g,bestC,g2];all_goals rfl
     exact ⟨bestSt (dLt names tb lq js) gi gb ci cb (dBs names).length (oz (bestA pin pb (e + 1))) (e + 1),(weak_mk ⟨_,rfl⟩ wA rfl rfl rfl (by repeat' (first | exact trivial | exact we_rfl rfl | exact we_rfl hfi | exact we_rfl hfb | exact we_int (nxt hlt (by omega)) | exact we_int hz | refine ⟨⟨_,rfl,?_⟩,?_⟩))),names.length - (e + 1),by omega,e + 1,rfl,by omega,rfl⟩
   ·have g:pin e=false:=by simpa [lastG] using g
    have hz:oz (some k)=oz (bestA pin pb (e + 1)):=by rw [hs,g];all_goals rfl
    exact ⟨bestSt (dLt names tb lq js) gi gb ci cb (dBs names).length (oz (bestA pin pb (e + 1))) (e + 1),(weak_mk ⟨_,rfl⟩ wA rfl rfl rfl (by repeat' (first | exact trivial | exact we_rfl rfl | exact we_rfl hfi | exact we_rfl hfb | exact we_int (nxt hlt (by omega)) | exact we_int hz | refine ⟨⟨_,rfl,?_⟩,?_⟩))),names.length - (e + 1),by omega,e + 1,rfl,by omega,rfl⟩
 ·have hge:e=names.length:=by have:=hL;simp [hN] at this;omega
  subst hge;refine loop_i (fun j st=>∃ e:Nat,st=best2St (dLt names tb lq js) gi gb ci cb (dBs names).length (oz (bestA pin pb names.length)) e/\e<=names.length/\(∀ o,bestA pin pb names.length=some o->∀ c,c < e->(pin c && !pb o c)=false)/\j=names.length - e) names.length (best2St (dLt names tb lq js) gi gb ci cb (dBs names).length (oz (bestA pin pb names.length)) 0) (weak_mk ⟨_,rfl⟩ wA rfl rfl rfl (by repeat' (first | exact trivial | exact we_rfl rfl | exact we_rfl hfi | exact we_rfl hfb | refine ⟨⟨_,rfl,?_⟩,?_⟩))) ⟨0,rfl,by omega,fun _ _ c hc=>by omega,by omega⟩ ?_;rintro j st ⟨e,rfl,he,hno,rfl⟩;refine br (fun hL=>?_) (fun hL=>?_)
  ·have hlt:e < names.length:=by have:=hL;simp [hN] at this;exact this
   cases hA:bestA pin pb names.length with
   | none=>
    exact ⟨best2St (dLt names tb lq js) gi gb ci cb (dBs names).length (oz none) (e + 1),(weak_mk ⟨_,rfl⟩ wA rfl rfl rfl (by repeat' (first | exact trivial | exact we_rfl rfl | exact we_rfl hfi | exact we_rfl hfb | exact we_int (nxt hlt (by omega)) | refine ⟨⟨_,rfl,?_⟩,?_⟩))),names.length - (e + 1),by omega,e + 1,rfl,by omega,(fun _ h=>by cases h),rfl⟩
   | some o=>
    have ho:=bestA_lt hA;have hno:=hno o hA;refine call_p hei (hin e hlt) ⟨_,_,rfl,rfl,hcci⟩ rfl ?_;refine br (fun g=>?_) (fun g=>?_)
    ·have g:pin e=true:=by simpa [pickB] using g
     refine call_p heb (hpb o e ho hlt) ⟨_,_,rfl,rfl,_,_,rfl,rfl,hccb⟩ rfl ?_;refine br (fun g2=>?_) (fun g2=>?_)
     ·have g2:pb o e=false:=by simpa [pickB,g,lastG] using g2
      have:bestN pin pb names.length=none:=by
       rw [bestN,hA];simp only;rw [if_pos];rw [List.any_eq_true];exact ⟨e,by simpa using hlt,by simp [g,g2]⟩
      rw [this];exact (rfl:_=_)
     ·have g2:pb o e=true:=by simpa [pickB,g,lastG] using g2
      exact ⟨best2St (dLt names tb lq js) gi gb ci cb (dBs names).length (oz (some o)) (e + 1),(weak_mk ⟨_,rfl⟩ wA rfl rfl rfl (by repeat' (first | exact trivial | exact we_rfl rfl | exact we_rfl hfi | exact we_rfl hfb | exact we_int (nxt hlt (by omega)) | refine ⟨⟨_,rfl,?_⟩,?_⟩))),names.length - (e + 1),by omega,e + 1,rfl,by omega,fun o' ho' c hc=>by
       cases ho';rcases Nat.lt_succ_iff_lt_or_eq.1 hc with hc | rfl
       ·exact hno c hc
       ·simp [g2],rfl⟩
    ·have g:pin e=false:=by simpa [pickB] using g
     exact ⟨best2St (dLt names tb lq js) gi gb ci cb (dBs names).length (oz (some o)) (e + 1),(weak_mk ⟨_,rfl⟩ wA rfl rfl rfl (by repeat' (first | exact trivial | exact we_rfl rfl | exact we_rfl hfi | exact we_rfl hfb | exact we_int (nxt hlt (by omega)) | refine ⟨⟨_,rfl,?_⟩,?_⟩))),names.length - (e + 1),by omega,e + 1,rfl,by omega,fun o' ho' c hc=>by
       cases ho';rcases Nat.lt_succ_iff_lt_or_eq.1 hc with hc | rfl
       ·exact hno c hc
       ·simp [g],rfl⟩
  ·have hge:e=names.length:=by have:=hL;simp [hN] at this;omega
   subst hge
   have:bestN pin pb names.length=bestA pin pb names.length:=by
    cases hA:bestA pin pb names.length with
    | none=>rw [bestN,hA]
    | some o=>
     rw [bestN,hA];simp only;rw [if_neg];rw [List.any_eq_true];rintro ⟨c,hc,h2⟩;rw [hno o hA c (by simpa using hc)] at h2;cases h2
   rw [this];exact (rfl:_=_)
end Go.Proofs.YtadhpeooehkklaaGreat
