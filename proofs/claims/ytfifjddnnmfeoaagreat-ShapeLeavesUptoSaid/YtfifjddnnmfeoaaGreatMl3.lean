/- Part 3 of the proof: names.New: the table; names.Twice: does a text stand earlier, too?; Contracts: the reference's words, Plain, Same, Zero, own; Contracts: the reference's Same, Zero, own; Contracts: the reference's Label, listed, names, Size, with, coarse; What is wrong with a type: the plain function; the reference's Wrong and parts return it; The program's checks of types: bad, listed, label, words; The program's checks of types: label, coarse; The program's comparing of names and types; The program's Same; The program's own, empty; The program's empty, enum; kinds.Right, once the checker's check is known; Numbers in tens: the reference's Put; Numbers in tens: the program's Put; The text of a type, plain; the reference's Label and comma; The reference's text of a type: Label, comma, part, Type; The reference's text of a part; The reference's text of a type; The library's strings.Join, laid at this program by the kit's tool (lay-plain; wip/tools/lay.sh); The program's text of a label, of what stands behind a part's type, of lists; The program's text of a type: field, tag, kind; unparse.Type, once the checker's check is known; A type with which nothing is wrong is fine for its text; Readable data as data of the evaluator: what the statement's form reads of an argument is a datum of the evaluator, of the argument's type, no heavier than what was read; What is read of a type, as the plain data; From a contract over data to what a law's statement asks: the arguments are read, the call returns true, all that was there stays; What all laws' frames share: the bulk, the program's closed facts; Types without places: plain, and the program's kinds.Strip; Schemas: plain, as the evaluator has them, without places; What is read of a schema, as the plain data; What the frames of laws over schemas share; The program's closed facts, each by itself (all at once they ask more memory than a Lean process has); Relations as rows of bits: plain, and rel's functions that read; rel.back: who leads to a thing and is led to by it; rel.New: the rows of a list of pairs; rel.Close: the closure, by rows; The number of bits that are set, as the library reckons it; math/bits.OnesCount64; When two bits are set; rel.Loop: the least thing in a loop; The plain law of closeR: its bits are what is led to; The program's and the reference's check of names that must differ; The table's Find, whole; lattice.many, called, numbered; Rules for the evaluator: a call that is handed the caller's first objects and rows; rows whose cells nobody else knows; lattice.best, and the closures of bounds. No condition. -/
import Derived.Laws.StructEq
import Derived.Shelf.Strings.OnBuilder
import Derived.Deep.Slices
import Derived.ChangeArms
import Derived.DataReads
import Derived.WalkKit
import Derived.ProofKit
import Derived.OpenShut
import Derived.Carry
import Derived.JoinedCond
import Derived.Test.YtfifjddnnmfeoaaGreatRows
import Derived.Test.YtfifjddnnmfeoaaGreatMl2
set_option linter.all false
set_option maxRecDepth 100000
namespace Go.Proofs.YtfifjddnnmfeoaaGreat
open Go Go.RowKit Dv Tryz
theorem rL {n m:Nat} {tk:List TkE}:∀ ds:List Nat,WeL n m tk (dInts ds).flatten (dInts ds).flatten
 | []=>rfl
 | b :: r=>⟨_,_,rfl,ai rfl,rL r⟩
theorem lJ {n m:Nat} {tk:List TkE} {l:List DV} {ds:List Nat} (h:l=(dInts ds).flatten):WeL n m tk l (dInts ds).flatten:=by rw [h];exact rL ds
def dZ (n e:Nat):List Nat:=List.range e ++ List.replicate (n - e) 0
theorem Bp {n e:Nat} (h:e<=n):(dZ n e).length=n:=by simp [dZ];omega
theorem fillA_0 (n:Nat):(List.replicate n [DV.v (.int .i64 0)]).flatten=(dInts (dZ n 0)).flatten:=by simp [dZ,dInts]
theorem Hq (n:Nat):dZ n n=List.range n:=by simp [dZ]
theorem jX (ds:List Nat):(dInts ds).flatten=ds.map fun (i:Nat)=>DV.v (.int .i64 (i:Int)):=by
 induction ds with
 | nil=>rfl
 | cons x r ih=>simp only [dInts,List.map_cons,List.flatten_cons] at ih ⊢;rw [ih];all_goals rfl
theorem x7 {n e:Nat} (h:e < n):(dInts (dZ n e)).flatten.take e ++ [DV.v (.int .i64 (e:Int))] ++ (dInts (dZ n e)).flatten.drop (e + 1)=(dInts (dZ n (e + 1))).flatten:=by
 simp only [jX,<- List.map_take,<- List.map_drop];have e1:(dZ n e).take e=List.range e:=by simp [dZ]
 have e2:(dZ n e).drop (e + 1)=List.replicate (n - (e + 1)) 0:=by
  simp only [dZ,List.drop_append,List.length_range];rw [List.drop_eq_nil_of_le (by simp),List.nil_append,List.drop_replicate];congr 1;omega
 rw [e1,e2];simp [dZ,List.range_succ]
abbrev x8 (L:List ByteArray) (e:Nat):St:=
 ⟨[(3,⟨[],.loc 1 0⟩),(4,⟨[],.loc 3 0⟩),(16,⟨[],.v (.int .i64 (cD L).length)⟩),(17,⟨[],.v (.int .i64 e)⟩)],
  [[.sl 1 (cD L) (some 0),.v (.slice none 0 0)],[.loc 0 0],(dInts (dZ (cD L).length e)).flatten,[.ms 2 1 0 (cD L).length (cD L).length]],[⟨(cD L).length,9,1,none⟩]⟩
def dm (L:List ByteArray) (ds:List Nat) (i:Nat):Bool:=decide (i=0) || !decide (L.getD (ds.getD i 0) al=L.getD (ds.getD (i - 1) 0) al)
def cW (L:List ByteArray) (ds:List Nat) (e:Nat):List Nat:=((List.range e).filter (dm L ds)).map fun i=>ds.getD i 0
theorem pq (L:List ByteArray) (ds:List Nat) (e:Nat):cW L ds (e + 1)=cW L ds e ++ (if dm L ds e=true then [ds.getD e 0] else []):=by
 unfold cW;rw [List.range_succ,List.filter_append,List.map_append];congr 1;cases h:dm L ds e<;>simp [h]
theorem Bq (L:List ByteArray) (ds:List Nat) (e:Nat):(cW L ds e).length<=e:=by
 unfold cW;rw [List.length_map];exact Nat.le_trans (List.length_filter_le _ _) (by simp)
abbrev KP (L:List ByteArray) (ds:List Nat):St:=
 ⟨[(3,⟨[],.loc 1 0⟩),(4,⟨[],.pt [.sl 1 (dInts ds) none] 0⟩),(29,⟨[],.sl 1 (dInts ds) none⟩),(30,⟨[],.v (.int .i64 (cD L).length)⟩),(31,⟨[],.v (.int .i64 0)⟩)],
  [[.sl 1 (cD L) (some 0),.v (.slice none 0 0)],[.loc 0 0]],[⟨(cD L).length,9,1,none⟩]⟩
abbrev vt (L:List ByteArray) (ds ap:List Nat) (m e:Nat):St:=
 ⟨[(3,⟨[],.loc 1 0⟩),(4,⟨[],.pt [.sl 1 (dInts ds) none] 0⟩),(29,⟨[],.sl 1 (dInts ds) none⟩),(30,⟨[],.v (.int .i64 (cD L).length)⟩),(31,⟨[],.v (.int .i64 e)⟩)],
  [[.sl 1 (cD L) (some 0),.sl 1 (dInts ap) (some 1)],[.loc 0 0]],[⟨(cD L).length,9,1,none⟩,⟨m,3,1,none⟩]⟩
theorem getD_some {α:Type} {l:List α} {i:Nat} {x d:α} (h:l[i]? = some x):l.getD i d=x:=by simp [List.getD_eq_getElem?_getD,h]
theorem mN {α:Type} {l:List α} {i:Nat} {d:α} (h:i < l.length):l[i]? = some (l.getD i d):=by
 rw [gE h,List.getD_eq_getElem?_getD,gE h];all_goals rfl
theorem KQ {L:List ByteArray} {ds:List Nat} (ko:ds.Perm (List.range L.length)) (Bn:∀ i j p q:Nat,i < j->ds[i]? = some p->ds[j]? = some q->uD L q p=false):dY L (cW L ds L.length):=by
 have hlen:ds.length=L.length:=by rw [ko.length_eq,List.length_range]
 let D:Nat->Nat:=fun i=>ds.getD i 0
 let T:Nat->ByteArray:=fun i=>L.getD (D i) al
 have hD:∀ i,i < L.length->ds[i]? = some (D i):=fun i hi=>mN (by omega)
 have T9:∀ i,i < L.length->D i < L.length:=fun i hi=>by
  have:=ko.mem_iff.1 (mG (hD i hi));exact List.mem_range.1 this
 have hT:∀ i,i < L.length->L[D i]? = some (T i):=fun i hi=>mN (T9 i hi)
 have iO:∀ i j,i < j->j < L.length->T i=T j∨qX (T i) (T j)=true:=by
  intro i j om hj;have h:=Bn i j (D i) (D j) om (hD i (by omega)) (hD j hj);unfold uD at h;by_cases he:T j=T i
  ·exact .inl he.symm
  ·rw [if_neg he] at h;rcases zY h with h | h
   ·exact absurd h he
   ·exact .inr h
 have Jo:∀ i,i < L.length->dm L ds i=true->∀ j,j < i->qX (T j) (T i)=true:=by
  intro i hi hh j J9
  have aM:T i≠T (i - 1):=by
   intro he;unfold dm at hh;have:decide (i=0)=false:=by simp;omega
   rw [this] at hh;simp only [Bool.false_or,Bool.not_eq_true',decide_eq_false_iff_not] at hh;exact hh he
  have h1:qX (T (i - 1)) (T i)=true:=by
   rcases iO (i - 1) i (by omega) hi with h | h
   ·exact absurd h.symm aM
   ·exact h
  by_cases hj:j=i - 1
  ·rw [hj];exact h1
  ·rcases iO j (i - 1) (by omega) (by omega) with h | h
   ·rw [h];exact h1
   ·exact dt h h1
 have rC:∀ j,j < L.length->∃ k,k < L.length/\D k=j:=by
  intro j hj;have:=ko.mem_iff.2 (List.mem_range.2 hj);obtain ⟨k,hk⟩:=List.getElem?_of_mem this;have mn:=(gS hk).1;exact ⟨k,by omega,getD_some hk⟩
 let H:=(List.range L.length).filter (dm L ds)
 have hH:∀ (a i:Nat),H[a]? = some i->i < L.length/\dm L ds i=true:=fun a i h=>by
  have:=mG h;simp only [H,List.mem_filter,List.mem_range] at this;exact this
 have Bs:∀ (a p:Nat),(cW L ds L.length)[a]? = some p->∃ i,H[a]? = some i/\D i=p:=by
  intro a p h;unfold cW at h;rw [List.getElem?_map] at h
  cases hh:H[a]? with
  | none=>rw [show (List.filter (dm L ds) (List.range L.length))[a]? = none from hh] at h;cases h
  | some i=>
   rw [show (List.filter (dm L ds) (List.range L.length))[a]? = some i from hh] at h;simp only [Option.map_some,oI] at h;exact ⟨i,rfl,h⟩
 have RW:∀ (a b i k:Nat),a < b->H[a]? = some i->H[b]? = some k->i < k:=by
  intro a b i k kH hi hk;have hp:List.Pairwise (·< ·) H:=List.Pairwise.filter _ List.pairwise_lt_range;obtain ⟨ha,rfl⟩:=List.getElem?_eq_some_iff.1 hi;obtain ⟨hb,rfl⟩:=List.getElem?_eq_some_iff.1 hk;exact List.pairwise_iff_getElem.1 hp a b ha hb kH
 refine ⟨?_,?_,?_,?_⟩
 ·intro a p h;obtain ⟨i,hi,rfl⟩:=Bs a p h;exact T9 i (hH a i hi).1
 ·intro a b p q s t kH hp hq hs ht;obtain ⟨i,hi,rfl⟩:=Bs a p hp;obtain ⟨k,hk,rfl⟩:=Bs b q hq;rw [hT i (hH a i hi).1] at hs;rw [hT k (hH b k hk).1] at ht;simp only [oI] at hs ht;rw [<- hs,<- ht];exact Jo k (hH b k hk).1 (hH b k hk).2 i (RW a b i k kH hi hk)
 ·intro a p j s hp hs hj;obtain ⟨i,hi,rfl⟩:=Bs a p hp;obtain ⟨rM,qQ⟩:=hH a i hi;obtain ⟨k,hk,rfl⟩:=rC j (gS hj).1;rw [hT i rM] at hs;rw [hT k hk] at hj;simp only [oI] at hs hj;rcases Nat.lt_trichotomy k i with h | h | h
  ·have:=Jo i rM qQ k h;rw [hs,hj,qX,gz] at this;cases this
  ·rw [h];exact Nat.le_refl _
  ·have h2:=Bn i k (D i) (D k) h (hD i rM) (hD k hk);unfold uD at h2
   have he:L.getD (D k) al=L.getD (D i) al:=by
    show T k=T i;rw [hj,hs]
   rw [if_pos he] at h2;simp at h2;omega
 ·intro j s hj;obtain ⟨k,hk,rfl⟩:=rC j (gS hj).1;rw [hT k hk] at hj;simp only [oI] at hj;obtain ⟨i,⟨rM,Ua⟩,RX⟩:=least (p:=fun i=>i < L.length/\T i=s) ⟨k,hk,hj⟩
  have qQ:dm L ds i=true:=by
   unfold dm;by_cases h0:i=0
   ·simp [h0]
   ·have aM:¬ T i=T (i - 1):=fun he=>by
     have:=RX (i - 1) ⟨by omega,by rw [<- he];exact Ua⟩;omega
    have e1:decide (L.getD (ds.getD i 0) al=L.getD (ds.getD (i - 1) 0) al)=false:=decide_eq_false aM;rw [e1];simp
  have hm:i∈H:=by simp only [H,List.mem_filter,List.mem_range];exact ⟨rM,qQ⟩
  obtain ⟨a,ha⟩:=List.getElem?_of_mem hm;refine ⟨a,D i,?_,by rw [hT i rM,Ua]⟩;unfold cW;rw [List.getElem?_map];rw [show (List.filter (dm L ds) (List.range L.length))[a]? = some i from ha];rfl
theorem pu (L:List ByteArray) (hl:L.length<=1099511627776) :
  Ev Tryz.prog 96 [.sl 1 (cD L) none] [] [] (fun r _ _=>∃ ap,dY L ap/\ap.length<=L.length/\r = .pt (bK L ap) 0):=by
 have hN:=bl L;refine ev_go (P:=Tryz.prog) tt tt_ok 5000 71 [.tmp 2] Tryz.func96 rfl Tryz.ntmps96 rfl (nL rfl) (fun E9 w9 hn9 hm9=>?_);refine ⟨⟨by simp [hN,maxLen];omega,by simp [hN];omega⟩,?_⟩;refine ⟨⟨rfl,by omega,by omega,by omega⟩,?_⟩;refine aw (fun j st=>∃ e:Nat,st=x8 L e/\e<=L.length/\j=L.length - e) L.length (x8 L 0) (aH 4 rfl (by repeat' (first | exact rfl | exact ai rfl | exact lJ (fillA_0 _) | refine ⟨_,_,rfl,?_,?_⟩)) rfl rfl rfl (by repeat' (first | exact trivial | exact ai rfl | exact lJ (fillA_0 _) | refine ⟨⟨_,rfl,?_⟩,?_⟩))) ⟨0,rfl,by omega,rfl⟩ ?_;rintro j st ⟨e,rfl,he,rfl⟩;refine br (fun h=>?_) (fun h=>?_)
 ·have aq:e < (cD L).length:=by simpa using h
  refine ⟨⟨by omega,by omega⟩,?_⟩;have e1:(dInts (dZ (cD L).length e)).flatten.length=(cD L).length:=by rw [jX,List.length_map,Bp (by omega)]
  refine ⟨by rw [e1];omega,?_⟩
  have bE:(dInts (dZ (cD L).length e)).flatten.set (0 + (e:Int).toNat * 1) (DV.v (.int .i64 (e:Int)))=(dInts (dZ (cD L).length (e + 1))).flatten:=by
   rw [show 0 + (e:Int).toNat * 1=e by omega,List.set_eq_take_append_cons_drop,if_pos (by rw [e1];omega),<- x7 aq];simp
  refine ⟨x8 L (e + 1),(aH 4 rfl (by repeat' (first | exact rfl | exact ai rfl | exact lJ bE | exact aj (ej aq (by omega)) | refine ⟨_,_,rfl,?_,?_⟩)) rfl rfl rfl (by repeat' (first | exact trivial | exact ai rfl | exact lJ bE | exact aj (ej aq (by omega)) | refine ⟨⟨_,rfl,?_⟩,?_⟩))),L.length - (e + 1),by omega,e + 1,rfl,by omega,rfl⟩
 ·have bJ:e=(cD L).length:=by
   have:¬ e < (cD L).length:=by simpa using h
   omega
  subst bJ;rw [Hq]
  have Ub:∀ dk:List Nat,dk.length=(List.range (cD L).length).length->∀ bx:List (List DV),bx[2]? = some (dInts dk).flatten->∀ N0 n0 m0:Nat,N0<=2->Cc bx N0 n0 m0 (.sl 1 (dInts dk) none) (.ms 2 1 0 (cD L).length (cD L).length):=by
   intro dk Qp bx hb N0 n0 m0 hN0;simp only [Cc];refine Or.inr (Or.inr (Or.inl ⟨2,0,(cD L).length,_,?_,hN0,hb,?_,?_,?_⟩))
   ·rw [bw,Qp,List.length_range]
   ·rw [List.drop_zero,List.take_of_length_le];rw [jX,List.length_map,bw];omega
   ·intro x hx;simp only [dInts,List.mem_map] at hx;obtain ⟨_,_,rfl⟩:=hx;rfl
   ·intro x hx;rw [jX] at hx;obtain ⟨_,_,rfl⟩:=List.mem_map.1 hx;exact .inl ⟨_,rfl⟩
  refine Bm (ds:=List.range (cD L).length) rfl (by simp) (cD L).length (fun p hp=>List.mem_range.1 hp) (uD L) (Hn L) rfl (by simp [hN];omega)
   (fun dk=>[.pt [.sl 1 (dInts dk) none] 0,.pt [.pt [.sl 1 (cD L) none,.v (.slice none 0 0)] 0] 0])
   (fun dk Qp=>⟨_,_,rfl,Or.inr ⟨3,_,rfl,Nat.zero_le _,rfl,⟨_,_,rfl,Ub dk Qp _ rfl 0 0 0 (Nat.zero_le _),rfl⟩⟩,ax⟩)
   (fun dk Qp hp i j p q hi hj=>Bl L dk i j p q hi hj (by have:=hp p (mG hi);omega) (by have:=hp q (mG hj);omega)) rfl (fun ds ko Bn=>?_)
  have iS:ds.length=(cD L).length:=by rw [ko.length_eq,List.length_range]
  have OG:=Ub ds (by rw [iS,List.length_range])
  refine Dz 2 (KP L ds) rfl rfl rfl ⟨_,_,rfl,⟨_,_,rfl,⟨nL rfl,rfl⟩,_,_,rfl,rfl,rfl⟩,_,_,rfl,⟨_,_,rfl,⟨nL rfl,rfl⟩,rfl⟩,rfl⟩
   ⟨⟨_,rfl,⟨nL rfl,rfl⟩⟩,⟨_,rfl,Or.inr ⟨3,_,rfl,by decide,rfl,⟨_,_,rfl,OG _ rfl 2 0 0 (by decide),rfl⟩⟩⟩,⟨_,rfl,OG _ rfl 2 2 1 (by decide)⟩,⟨_,rfl,rfl⟩,⟨_,rfl,rfl⟩,trivial⟩ ?_
  refine aw (fun j st=>∃ e m:Nat,st=vt L ds (cW L ds e) m e/\m=(cW L ds e).length/\e<=(cD L).length/\j=(cD L).length - e) (cD L).length (vt L ds [] 0 0)
   (dI 2 ⟨0,3,1,none⟩ rfl rfl rfl wTA rfl rfl wB) ⟨0,0,rfl,rfl,by omega,by omega⟩ ?_
  rintro j st ⟨e,m,rfl,hm,he,rfl⟩;have gJ:=Bq L ds e;refine br (fun h=>?_) (fun h=>?_)
  ·have aq:e < (cD L).length:=by simpa using h
   obtain ⟨p,hp⟩:∃ p,ds[e]? = some p:=⟨_,gE (by omega)⟩
   have hpL:p < L.length:=by
    have:=ko.mem_iff.1 (mG hp);rw [List.mem_range] at this;omega
   obtain ⟨s,hs⟩:∃ s,L[p]? = some s:=⟨_,gE hpL⟩;refine ⟨_,⟨by omega,dc hp⟩,?_⟩;have Uc:ds.getD e 0=p:=by simp [List.getD_eq_getElem?_getD,hp]
   have xJ:L.getD p al=s:=by simp [List.getD_eq_getElem?_getD,hs]
   have cC:dm L ds e=true->cW L ds (e + 1)=cW L ds e ++ [p]:=fun hh=>by rw [pq,if_pos hh,Uc]
   have hold:dm L ds e=false->cW L ds (e + 1)=cW L ds e:=fun hh=>by rw [pq,if_neg (by rw [hh];decide),List.append_nil]
   have z6:dm L ds e=true->dInts (cW L ds e) ++ [[DV.v (.int .i64 (p:Int))]]=dInts (cW L ds (e + 1)):=fun hh=>by rw [cC hh];simp [dInts]
   by_cases h0:e=0
   ·subst h0;have hh:dm L ds 0=true:=by simp [dm]
    refine aR (fun _=>false) mo (by decide +kernel) ?_;refine aZ mo (by decide +kernel) ?_;refine ⟨by rw [bw,hm],⟨by simp [bw,maxLen];omega,by simp [bw];omega⟩,?_⟩;refine ⟨vt L ds (cW L ds 1) (m + 1) 1,(aH 2 rfl (by repeat' (first | exact rfl | exact ai rfl | exact aj (ej aq (by omega)) | exact iQ (z6 hh) rfl | refine ⟨_,_,rfl,?_,?_⟩)) rfl rfl rfl (by repeat' (first | exact trivial | exact ai rfl | exact aj (ej aq (by omega)) | exact iQ (z6 hh) rfl | refine ⟨⟨_,rfl,?_⟩,?_⟩))),(cD L).length - 1,by omega,1,m + 1,rfl,by rw [cC hh,List.length_append,hm];rfl,by omega,rfl⟩
   ·obtain ⟨p',lD⟩:∃ p',ds[e - 1]? = some p':=⟨_,gE (by omega)⟩
    have RY:p' < L.length:=by
     have:=ko.mem_iff.1 (mG lD);rw [List.mem_range] at this;omega
    obtain ⟨s',Ud⟩:∃ s',L[p']? = some s':=⟨_,gE RY⟩;have RZ:ds.getD (e - 1) 0=p':=by simp [List.getD_eq_getElem?_getD,lD]
    have R0:L.getD p' al=s':=by simp [List.getD_eq_getElem?_getD,Ud]
    have Ue:dm L ds e = !decide (s=s'):=by
     unfold dm;rw [Uc,RZ,xJ,R0];simp [h0]
    have hz:IntKind.i64.wrap ((e:Int) - 1)=((e - 1:Nat):Int):=by rw [wrap64 (by omega) (by omega)];omega
    refine aR (fun _=>false) mo (by decide +kernel) ?_;refine br (fun _=>?_) (fun h=>?_)
    ·refine ⟨_,⟨by omega,dr hs⟩,?_⟩;refine ⟨[.v (.int .i64 (p':Int))],⟨by rw [hz];omega,by rw [hz];exact dc lD⟩,?_⟩;refine ⟨_,⟨by omega,dr Ud⟩,?_⟩;refine br (fun h2=>?_) (fun h2=>?_)
     ·have hh:dm L ds e=true:=by
       rw [Ue];simp [ak,h0] at h2;simpa using h2
      refine aZ mo (by decide +kernel) ?_;refine ⟨by rw [bw,hm],⟨by simp [bw,maxLen];omega,by simp [bw];omega⟩,?_⟩;refine ⟨vt L ds (cW L ds (e + 1)) (m + 1) (e + 1),(aH 2 rfl (by repeat' (first | exact rfl | exact ai rfl | exact aj (ej aq (by omega)) | exact iQ (z6 hh) rfl | refine ⟨_,_,rfl,?_,?_⟩)) rfl rfl rfl (by repeat' (first | exact trivial | exact ai rfl | exact aj (ej aq (by omega)) | exact iQ (z6 hh) rfl | refine ⟨⟨_,rfl,?_⟩,?_⟩))),(cD L).length - (e + 1),by omega,e + 1,m + 1,rfl,by rw [cC hh,List.length_append,hm];rfl,by omega,rfl⟩
     ·have hh:dm L ds e=false:=by
       rw [Ue];simp [ak,h0] at h2;simpa using h2
      have bd:dInts (cW L ds e)=dInts (cW L ds (e + 1)):=by rw [hold hh]
      refine ⟨vt L ds (cW L ds (e + 1)) m (e + 1),(aH 2 rfl (Gu aq bd) rfl rfl rfl (A8 aq bd)),(cD L).length - (e + 1),by omega,e + 1,m,rfl,by rw [hold hh,hm],by omega,rfl⟩
    ·exfalso;have:decide ((e:Int)=0)=true:=by simpa using h
     simp at this;exact h0 this
  ·have bJ:e=L.length:=by
    have:¬ e < (cD L).length:=by simpa using h
    omega
   subst bJ;exact ⟨.pt (bK L (cW L ds L.length)) 0,Or.inr ⟨0,_,rfl,Nat.zero_le _,rfl,ax⟩,_,KQ (by rw [<- hN];exact ko) Bn,gJ,rfl⟩
abbrev KR (L:List ByteArray) (ap:List Nat) (e:Nat):St:=
 ⟨[(3,⟨[],.pt (bK L ap) 0⟩),(10,⟨[],.sl 1 (cD L) none⟩),(11,⟨[],.v (.int .i64 (cD L).length)⟩),(12,⟨[],.v (.int .i64 e)⟩)],[],[]⟩
theorem DY {α:Type}:∀ {l:List α},(∀ (i j:Nat) (x:α),j < i->l[i]? = some x->l[j]? ≠ some x)->l.Nodup
 | l,h=>by
  rw [List.nodup_iff_pairwise_ne,List.pairwise_iff_getElem];intro i j hi hj om he;exact h j i l[j] om (gE hj) (by rw [gE hi,he])
theorem kI (L:List ByteArray) (hl:L.length<=1099511627776) :
  Ev Tryz.prog 103 [.sl 1 (cD L) none] [] [] (fun r _ _=>∃ z:Int,r = .v (.int .i64 z)/\(0<=z↔¬ L.Nodup)):=by
 have hN:=bl L;refine ev_go (P:=Tryz.prog) tt tt_ok 5000 28 [.tmp 2] Tryz.func103 rfl Tryz.ntmps103 rfl (nL rfl) (fun E9 w9 hn9 hm9=>?_);refine bP KI rfl (pu L hl) ax (fun r hr=>?_);obtain ⟨ap,hT,gJ,rfl⟩:=hr;refine aw (fun j st=>∃ e:Nat,st=KR L ap e/\e<=L.length/\(∀ (i j:Nat) (x:ByteArray),i < e->j < i->L[i]? = some x->L[j]? ≠ some x)/\j=L.length - e) L.length (KR L ap 0) (weak_mk ⟨_,rfl⟩ wA rfl rfl rfl wB) ⟨0,rfl,by omega,fun i j x hi=>by omega,rfl⟩ ?_;rintro j st ⟨e,rfl,he,hinv,rfl⟩;refine br (fun h=>?_) (fun h=>?_)
 ·have aq:e < L.length:=by simpa [hN] using h
  obtain ⟨s,hs⟩:∃ s,L[e]? = some s:=⟨_,gE aq⟩;obtain ⟨q,p,hq,hp⟩:=hT.all e s hs;have b9:=hT.fst q p e s hq hp hs;refine ⟨_,⟨by omega,dr hs⟩,?_⟩;refine call_p pg (find_spec L ap s q p hT (by omega) hq hp) ax rfl ?_;refine br (fun h2=>?_) (fun h2=>?_)
  ·have h2:p < e:=by simpa using h2
   refine ⟨(e:Int),rfl,⟨fun _ hnd=>?_,fun _=>by omega⟩⟩;rw [List.nodup_iff_pairwise_ne,List.pairwise_iff_getElem] at hnd;obtain ⟨h3,h4⟩:=List.getElem?_eq_some_iff.1 hp;obtain ⟨h5,h6⟩:=List.getElem?_eq_some_iff.1 hs;exact hnd p e h3 h5 h2 (by rw [h4,h6])
  ·have h2:¬ p < e:=by simpa using h2
   refine ⟨KR L ap (e + 1),(weak_mk ⟨_,rfl⟩ wA rfl rfl rfl (wNB aq)),L.length - (e + 1),by omega,e + 1,rfl,by omega,fun i j x hi hj hx Uf=>?_,rfl⟩;by_cases Oq:i=e
   ·subst Oq;rw [hs] at hx;simp only [oI] at hx;subst hx;have:=hT.fst q p j s hq hp Uf;omega
   ·exact hinv i j x (by omega) hj hx Uf
 ·have bJ:e=L.length:=by
   have:¬ e < L.length:=by simpa [hN] using h
   omega
  subst bJ;refine ⟨-1,rfl,⟨fun h3=>by omega,fun h3=>?_⟩⟩;exact absurd (DY fun i j x om hi hj=>hinv i j x (gS hi).1 om hi hj) h3
def sameWds:List Wd->List Wd->Bool
 | [],[]=>true
 | x :: r,y :: s=>decide (x.s=y.s) && sameWds r s
 | _,_=>false
def bL (p q:Ph):Bool:=(p.bare == q.bare) && decide (p.wide=q.wide) && sameWds p.label q.label && decide (p.ck=q.ck) && decide (p.cn=q.cn) && sameWds p.cl q.cl
def kJ (h k:Hd):Bool:=decide (h.ag=k.ag) && decide (h.lo=k.lo) && decide (h.hi=k.hi) && decide (h.most=k.most) && decide (h.name.s=k.name.s) && sameWds h.ae k.ae
mutual
def sameTy:Ty->Ty->Bool
 | .mk h ps,.mk k qs=>kJ h k && samePts ps qs
def samePts:Pts->Pts->Bool
 | .nil,.nil=>true
 | .cons p t r,.cons q u s=>decide (p.name.s=q.name.s) && bL p q && sameTy t u && samePts r s
 | _,_=>false
end
def DZ (h:Hd):Hd:=
 ⟨h.ag,0,if h.ag=2 then h.lo else 0,if h.ag=2 then h.hi else 0,if h.ag=3∨h.ag=5 then h.most else 0,if h.ag=4 then h.ae else [],if h.ag=9 then h.name else ⟨al,0⟩⟩
def mask:Ty->Ty
 | .mk h ps=>.mk (DZ h) (if 4 < h.ag/\h.ag < 9 then ps else .nil)
end Go.Proofs.YtfifjddnnmfeoaaGreat
set_option maxRecDepth 100000
namespace Go.Proofs.YtfifjddnnmfeoaaGreat
open Go Go.RowKit Dv Tryz
end Go.Proofs.YtfifjddnnmfeoaaGreat
set_option maxRecDepth 100000
namespace Go.Proofs.YtfifjddnnmfeoaaGreat
open Go Go.RowKit Dv Tryz
abbrev Ft:Type:=Int × Int
def Ft.d (f:Ft):DV:=.agg [.v (.int .i64 f.1),.v (.int .i64 f.2)]
def badWd:List Wd->Ft
 | []=>(0,0)
 | w :: r=>if a7 w.s then badWd r else (9,w.a)
def cy (l:List Wd):Ft:=
 if l.length<=32 then badWd l else (8,((l[32]?).getD (⟨al,0⟩:Wd)).a)
def cz (l:List Wd) (s:ByteArray):Bool:=l.any fun w=>decide (w.s=s)
def aF (l:List Wd) (i:Nat) (x:Wd):Int:=
 if a7 x.s then (if cz (l.take i) x.s then 10 else 0) else 9
def pNames:Pts->List Wd
 | .nil=>[]
 | .cons p _ r=>p.name :: pNames r
theorem kK:∀ ps:Pts,(pNames ps).length=ps.len
 | .nil=>rfl
 | .cons p t r=>by simp [pNames,Pts.len,kK r]
theorem iA:∀ {ps:Pts} {j:Nat} {p:Ph} {t:Ty},ps.toList[j]? = some (p,t)->(pNames ps)[j]? = some p.name
 | .nil,j,p,t,h=>by simp [Pts.toList] at h
 | .cons q u r,0,p,t,h=>by
  simp only [Pts.toList,List.getElem?_cons_zero,oI,Prod.mk.injEq] at h;obtain ⟨rfl,rfl⟩:=h;simp [pNames]
 | .cons q u r,j + 1,p,t,h=>by
  simp only [Pts.toList,List.getElem?_cons_succ] at h;simp only [pNames,List.getElem?_cons_succ];exact iA h
theorem rN:∀ ps:Pts,wdsWt (pNames ps)<=ps.wt
 | .nil=>Nat.le_refl _
 | .cons p t r=>by
  have:=rN r;simp only [pNames,wdsWt,Pts.wt,Ph.wt] at this ⊢;omega
mutual
def Ty.cnt:Ty->Nat
 | .mk _ ps=>1 + ps.cnt
def Pts.cnt:Pts->Nat
 | .nil=>0
 | .cons p t r=>(if p.bare then 0 else t.cnt) + r.cnt
end
mutual
theorem Ty.eo:∀ t:Ty,t.cnt<=t.wt
 | .mk h ps=>by have:=Pts.eo ps;simp only [Ty.cnt,Ty.wt,Hd.wt];omega
theorem Pts.eo:∀ ps:Pts,ps.cnt<=ps.wt
 | .nil=>Nat.le_refl _
 | .cons p t r=>by
  have:=Ty.eo t;have:=Pts.eo r;simp only [Pts.cnt,Pts.wt];split<;>omega
end
def aW (p:Ph):Ft:=
 if p.ck=0 then (if p.cn=0/\p.cl=[] then (0,0) else (19,p.name.a))
 else if p.ck < 0∨3 < p.ck then (14,p.ca)
 else if (p.ck=1/\p.cn < 1)∨(p.ck=2/\(p.cn < 0∨4096 < p.cn))∨(p.ck=3/\p.cn≠0) then (20,p.ca)
 else cy p.cl
def enumL (all:List Wd):Nat->List Wd->Ft
 | _,[]=>(0,0)
 | i,x :: r=>if aF all i x≠0 then (aF all i x,x.a) else enumL all (i + 1) r
def iB (h:Hd):Ft:=
 if h.ae=[] then (15,h.aC)
 else if 64 < h.ae.length then (8,((h.ae[64]?).getD (⟨al,0⟩:Wd)).a)
 else enumL h.ae 0 h.ae
def dg (p:Ph):Ft:=
 if p.wide < 0∨64 < p.wide then (20,p.name.a)
 else if (cy p.label).1≠0 then cy p.label
 else aW p
def vu (t:Ty):Bool:=sameTy t (mask t)
mutual
def wrong:Ty->Int->Int->Ft × Int
 | .mk h ps,depth,m=>
  if 24 < depth then ((6,h.aC),m + 1)
  else if 512 < m + 1 then ((8,h.aC),m + 1)
  else if h.ag < 1∨9 < h.ag then ((14,h.aC),m + 1)
  else if vu (.mk h ps)=false then ((19,h.aC),m + 1)
  else if (h.ag=2/\h.hi < h.lo)∨(h.ag=3/\(h.most < 0∨4096 < h.most)) then ((20,h.aC),m + 1)
  else if h.ag=9/\a7 h.name.s=false then ((9,h.name.a),m + 1)
  else if h.ag=4 then (iB h,m + 1)
  else if h.ag=5∨h.ag=6 then wrongOne h ps depth (m + 1)
  else if h.ag=7∨h.ag=8 then
   if h.ag=8/\ps.len=0 then ((15,h.aC),m + 1)
   else if 64 < ps.len then ((8,(((pNames ps)[64]?).getD (⟨al,0⟩:Wd)).a),m + 1)
   else wrongPts h.ag (pNames ps) 0 ps depth (m + 1)
  else ((0,0),m + 1)
def wrongOne:Hd->Pts->Int->Int->Ft × Int
 | h,.cons p t .nil,depth,m=>
  if p.name.s≠al∨bL p du=false then ((19,h.aC),m)
  else if h.most < 0∨1024 < h.most then ((20,h.aC),m)
  else wrong t (depth + 1) m
 | h,_,_,m=>((19,h.aC),m)
def wrongPts (ag:Int) (all:List Wd):Nat->Pts->Int->Int->Ft × Int
 | _,.nil,_,m=>((0,0),m)
 | i,.cons p t r,depth,m=>
  if aF all i p.name≠0 then ((aF all i p.name,p.name.a),m)
  else if p.bare=true then
   if ag=7∨sameTy t bG=false∨bL p dK=false then ((19,p.name.a),m) else wrongPts ag all (i + 1) r depth m
  else if (dg p).1≠0 then (dg p,m)
  else if (wrong t (depth + 1) m).1.1≠0 then wrong t (depth + 1) m
  else wrongPts ag all (i + 1) r depth (wrong t (depth + 1) m).2
end
def jr (h:Hd) (ps:Pts) (depth m:Int):Ft × Int:=
 if h.ag=8/\ps.len=0 then ((15,h.aC),m)
 else if 64 < ps.len then ((8,(((pNames ps)[64]?).getD (⟨al,0⟩:Wd)).a),m)
 else wrongPts h.ag (pNames ps) 0 ps depth m
theorem vv (all:List Wd):∀ (l:List Wd) (i:Nat),(enumL all i l).1=0->enumL all i l=(0,0)
 | [],_,_=>rfl
 | x :: r,i,h=>by
  have ih:=vv all r (i + 1);simp only [enumL] at h ⊢;split at h
  ·rename_i hc;exact (hc h).elim
  ·rename_i hc;rw [if_neg hc];exact ih h
theorem rO (h:Hd) (he:(iB h).1=0):iB h=(0,0):=by
 unfold iB at he ⊢;split at he
 ·simp at he
 ·split at he
  ·simp at he
  ·rename_i h1 h2;rw [if_neg h1,if_neg h2];exact vv _ _ _ he
mutual
theorem pw:∀ (t:Ty) (depth m:Int),0<=m->(wrong t depth m).1.1=0->(wrong t depth m).1=(0,0)/\0<=(wrong t depth m).2/\(wrong t depth m).2<=512
 | .mk h ps,depth,m,hm,he=>by
  have i1:=vw h ps depth (m + 1) (by omega);have i2:=jt h.ag (pNames ps) ps 0 depth (m + 1) (by omega);have i3:=rO h;simp only [wrong] at he ⊢;by_cases c0:24 < depth
  ·rw [if_pos c0] at he;simp at he
  rw [if_neg c0] at he ⊢;by_cases c1:512 < m + 1
  ·rw [if_pos c1] at he;simp at he
  rw [if_neg c1] at he ⊢;by_cases c2:h.ag < 1∨9 < h.ag
  ·rw [if_pos c2] at he;simp at he
  rw [if_neg c2] at he ⊢;by_cases c3:vu (.mk h ps)=false
  ·rw [if_pos c3] at he;simp at he
  rw [if_neg c3] at he ⊢;by_cases c4:(h.ag=2/\h.hi < h.lo)∨(h.ag=3/\(h.most < 0∨4096 < h.most))
  ·rw [if_pos c4] at he;simp at he
  rw [if_neg c4] at he ⊢;by_cases c5:h.ag=9/\a7 h.name.s=false
  ·rw [if_pos c5] at he;simp at he
  rw [if_neg c5] at he ⊢;by_cases k4:h.ag=4
  ·rw [if_pos k4] at he ⊢;exact ⟨i3 he,by simp only;omega,by simp only;omega⟩
  rw [if_neg k4] at he ⊢;by_cases k5:h.ag=5∨h.ag=6
  ·rw [if_pos k5] at he ⊢;exact i1 (by omega) he
  rw [if_neg k5] at he ⊢;by_cases k7:h.ag=7∨h.ag=8
  ·rw [if_pos k7] at he ⊢;by_cases k8:h.ag=8/\ps.len=0
   ·rw [if_pos k8] at he;simp at he
   rw [if_neg k8] at he ⊢;by_cases k9:64 < ps.len
   ·rw [if_pos k9] at he;simp at he
   rw [if_neg k9] at he ⊢;exact i2 (by omega) he
  ·rw [if_neg k7];exact ⟨rfl,by simp only;omega,by simp only;omega⟩
theorem vw:∀ (h:Hd) (ps:Pts) (depth m:Int),0<=m->m<=512->(wrongOne h ps depth m).1.1=0->(wrongOne h ps depth m).1=(0,0)/\0<=(wrongOne h ps depth m).2/\(wrongOne h ps depth m).2<=512
 | h,.nil,depth,m,hm,_,he=>by simp [wrongOne] at he
 | h,.cons p t .nil,depth,m,hm,h5,he=>by
  have ih:=pw t (depth + 1) m hm;simp only [wrongOne] at he ⊢;split at he
  ·simp at he
  ·split at he
   ·simp at he
   ·rename_i h1 h2;rw [if_neg h1,if_neg h2];exact ih he
 | h,.cons p t (.cons _ _ _),depth,m,hm,_,he=>by simp [wrongOne] at he
theorem jt (ag:Int) (all:List Wd):∀ (ps:Pts) (i:Nat) (depth m:Int),0<=m->m<=512->(wrongPts ag all i ps depth m).1.1=0->(wrongPts ag all i ps depth m).1=(0,0)/\0<=(wrongPts ag all i ps depth m).2/\(wrongPts ag all i ps depth m).2<=512
 | .nil,i,depth,m,hm,h5,he=>by simp only [wrongPts];exact ⟨trivial,hm,h5⟩
 | .cons p t r,i,depth,m,hm,h5,he=>by
  have i1:=pw t (depth + 1) m hm;simp only [wrongPts] at he ⊢;split at he
  ·rename_i h1;exact (h1 he).elim
  ·rename_i h1;rw [if_neg h1];split at he
   ·rename_i h2;rw [if_pos h2];split at he
    ·simp at he
    ·rename_i h3;rw [if_neg h3];exact jt ag all r (i + 1) depth m hm h5 he
   ·rename_i h2;rw [if_neg h2];split at he
    ·rename_i h3;exact (h3 he).elim
    ·rename_i h3;rw [if_neg h3];split at he
     ·rename_i h4;exact (h4 he).elim
     ·rename_i h4;rw [if_neg h4];have i2:=i1 (by simpa using h4);exact jt ag all r (i + 1) depth _ i2.2.1 i2.2.2 he
end
theorem aQ (e a:Int):EvP Tryz.prog 214 [.v (.int .i64 e),.v (.int .i64 a)] (Ft.d (e,a)):=by
 refine ev_go (P:=Tryz.prog) tt tt_ok 5000 8 [.cell 4 54] Tryz.func214 rfl Tryz.ntmps214 rfl (nL rfl) (fun E9 w9 hn9 hm9=>?_);exact ⟨_,ax,rfl⟩
noncomputable def dL (L:List ByteArray) (x:ByteArray) (a:Int):Ft:=if a7 x=true then (if L.Nodup then (0,0) else (10,a)) else (9,a)
theorem nC (L:List ByteArray) (x:ByteArray) (a:Int) (hx:L[L.length - 1]? = some x) (hl:L.length<=1099511627776) (A2:x.size<=4611686018427387904) :
  EvP Tryz.prog 260 [.sl 1 (cD L) none,.v (.int .i64 a)] (dL L x a).d:=by
 have hN:=bl L;have ke:=(gS hx).1;have hz:IntKind.i64.wrap (((cD L).length:Int) - 1)=((L.length - 1:Nat):Int):=by rw [hN,wrap64 (by omega) (by omega)];omega
 refine ev_go (P:=Tryz.prog) tt tt_ok 5000 23 [.cell 4 54] Tryz.func260 rfl Tryz.ntmps260 rfl (nL rfl) (fun E9 w9 hn9 hm9=>?_);refine ⟨[.v (.string x)],⟨by rw [hz];omega,by rw [hz];exact dr hx⟩,?_⟩;refine call_p vg (fK x A2) ax rfl ?_;refine br (fun h=>?_) (fun h=>?_)
 ·have h:a7 x=false:=by simpa using h
  refine call_p cu (aQ 9 a) ax rfl ?_;refine ⟨_,?_,rfl⟩;rw [dL,if_neg (by rw [h];decide)];exact ax
 ·have h:a7 x=true:=by simpa using h
  refine bP DC rfl (kI L hl) ax (fun r hr=>?_);obtain ⟨z,rfl,hz⟩:=hr;refine br (fun h2=>?_) (fun h2=>?_)
  ·have h2:0<=z:=by simpa using h2
   refine call_p cu (aQ 10 a) ax rfl ?_;refine ⟨_,?_,rfl⟩;rw [dL,if_pos h,if_neg (hz.1 h2)];exact ax
  ·have h2:¬ 0<=z:=by simpa using h2
   refine ⟨_,?_,rfl⟩;rw [dL,if_pos h,if_pos (Classical.byContradiction fun hn=>h2 (hz.2 hn))];exact ax
theorem x9 {l:List Wd} {e:Nat} {x:Wd} (h:l[e]? = some x):bY ((l.map fun w=>(⟨w.s,0⟩:Wd)).take e) ++ [[.v (.string x.s),.v (.int .i64 0)]]=bY ((l.map fun w=>(⟨w.s,0⟩:Wd)).take (e + 1)):=by
 have h2:(l.map fun w=>(⟨w.s,0⟩:Wd))[e]? = some ⟨x.s,0⟩:=by simp [h]
 exact Bf h2
def ep (l:List Wd):List Wd:=l.map fun w=>⟨w.s,0⟩
abbrev D0 (l l':List Wd) (n e:Nat):St:=
 ⟨[(6,⟨[],.sl 2 (bY l) none⟩),(7,⟨[],.v (.int .i64 (bY l).length)⟩),(8,⟨[],.v (.int .i64 e)⟩),(3,⟨[],.sl 2 (bY l') (some 0)⟩)],[],[⟨n,38,2,none⟩]⟩
theorem px (l:List Wd) (hs:wdsWt l<=1099511627776):EvP Tryz.prog 305 [.sl 2 (bY l) none] (.sl 2 (bY (ep l)) none):=by
 have hl:=cw l;refine ev_go (P:=Tryz.prog) tt tt_ok 5000 20 [.tmp 2] Tryz.func305 rfl Tryz.ntmps305 rfl (nL rfl) (fun E9 w9 hn9 hm9=>?_);refine aw (fun j st=>∃ e:Nat,st=D0 l ((ep l).take e) e e/\e<=l.length/\j=l.length - e) l.length (D0 l [] 0 0) (jj ⟨0,38,2,none⟩ rfl ⟨_,rfl⟩ rfl wA rfl rfl Gv) ⟨0,by simp,by omega,by omega⟩ ?_;rintro j st ⟨e,rfl,he,rfl⟩;refine br (fun h=>?_) (fun h=>?_)
 ·have aq:e < l.length:=by simpa [aA] using h
  obtain ⟨w,hw⟩:∃ w,l[e]? = some w:=⟨_,gE aq⟩;refine ⟨uC w,⟨by omega,cx hw⟩,?_⟩;refine ⟨by simp [aA,ep];omega,⟨by simp [aA,ep,maxLen];omega,by simp [aA,ep];omega⟩,?_⟩;refine ⟨D0 l ((ep l).take (e + 1)) (e + 1) (e + 1),(weak_mk ⟨_,rfl⟩ wA rfl rfl rfl (by repeat' (first | exact trivial | exact ai rfl | exact aj (ej aq (by omega)) | exact iQ (x9 hw) rfl | refine ⟨⟨_,rfl,?_⟩,?_⟩))),l.length - (e + 1),by omega,e + 1,rfl,by omega,rfl⟩
 ·have bJ:e=l.length:=by
   have:=h;simp [aA] at this;omega
  rw [bJ,List.take_of_length_le (by simp [ep])];exact ⟨_,ax,rfl⟩
abbrev pz (l:List Wd) (e:Nat):St:=
 ⟨[(13,⟨[],.sl 2 (bY l) none⟩),(14,⟨[],.v (.int .i64 (bY l).length)⟩),(2,⟨[],.loc 0 0⟩),(15,⟨[],.v (.int .i64 e)⟩)],[[.v (.int .i64 0),.v (.int .i64 0)]],[]⟩
theorem eH (l:List Wd) (hs:wdsWt l<=1099511627776) :
  EvP Tryz.prog 288 [.sl 2 (bY l) none] (cy l).d:=by
 have oN:=cw l;refine ev_go (P:=Tryz.prog) tt tt_ok 5000 28 [.cell 2 54] Tryz.func288 rfl Tryz.ntmps288 rfl (nL rfl) (fun E9 w9 hn9 hm9=>?_);refine br (fun h=>?_) (fun h=>?_)
 ·have aq:32 < l.length:=by simp [aA] at h;omega
  obtain ⟨x,hx⟩:∃ x,l[32]? = some x:=⟨_,gE aq⟩;have:cy l=(8,x.a):=by simp [cy,Nat.not_le.2 aq,hx]
  refine ⟨uC x,⟨by omega,cx hx⟩,?_⟩;refine call_p cu (aQ 8 x.a) ax rfl ?_;refine ⟨_,?_,rfl⟩;rw [this];exact ax
 ·have iO:l.length<=32:=by simp [aA] at h;omega
  refine aw (fun j st=>∃ e:Nat,st=pz l e/\e<=l.length/\badWd l=badWd (l.drop e)/\j=l.length - e) l.length
   (pz l 0) (weak_mk ⟨_,rfl⟩ wA rfl rfl rfl wB) ⟨0,rfl,by omega,rfl,by omega⟩ ?_
  rintro j st ⟨e,rfl,he,bd,rfl⟩;refine br (fun hL=>?_) (fun hL=>?_)
  ·have aq:e < l.length:=by simpa [aA] using hL
   obtain ⟨x,hx⟩:∃ x,l[e]? = some x:=⟨_,gE aq⟩;rw [drop_cons hx] at bd;have A2:=jU (mG hx);refine ⟨uC x,⟨by omega,cx hx⟩,?_⟩;refine call_p vg (fK x.s (by omega)) ax rfl ?_;refine br (fun hN=>?_) (fun hN=>?_)
   ·have hN:a7 x.s=false:=by simpa using hN
    have:cy l=(9,x.a):=by simp [cy,iO,bd,badWd,hN]
    refine call_p cu (aQ 9 x.a) ax rfl ?_;refine ⟨_,?_,rfl⟩;rw [this];exact ax
   ·have hN:a7 x.s=true:=by simpa using hN
    refine ⟨pz l (e + 1),(weak_mk ⟨_,rfl⟩ wA rfl rfl rfl (wNB aq)),l.length - (e + 1),by omega,e + 1,rfl,by omega,?_,rfl⟩;rw [bd];simp [badWd,hN]
  ·have bJ:e=l.length:=by simp [aA] at hL;omega
   have:cy l=(0,0):=by simp [cy,iO,bd,bJ,badWd]
   refine ⟨_,?_,rfl⟩;rw [this];exact ax
theorem tp (p:Ph) (tl:List DV) (t:Ty) (ic:tl=gn t) (hs:p.wt<=1099511627776) :
  EvP Tryz.prog 289 [.agg (DN p tl)] (aW p).d:=by
 subst ic;obtain ⟨u,us⟩:=t;simp only [Ph.wt] at hs;refine ev_go (P:=Tryz.prog) tt tt_ok 5000 55 [.cell 2 54] Tryz.func289 rfl Tryz.ntmps289 rfl (nL rfl) (fun E9 w9 hn9 hm9=>?_);refine br (fun h0=>?_) (fun h0=>?_)
 ·have h0:p.ck=0:=of_decide_eq_true h0;refine br (fun h1=>?_) (fun h1=>?_)
  ·have:aW p=(19,p.name.a):=by
    simp [ak,aA] at h1;simp only [aW,h0,if_true];rw [if_neg];rintro ⟨h2,h3⟩;rcases h1 with h1 | h1
    ·exact h1 h2
    ·simp [h3] at h1
   refine call_p cu (aQ 19 p.name.a) ax rfl ?_;refine ⟨_,?_,rfl⟩;rw [this];exact ax
  ·have ia:p.cl=[]:=by
    simp [ak,aA] at h1;exact h1.2
   have:aW p=(0,0):=by
    simp [ak,aA] at h1;simp [aW,h0,h1.1,h1.2]
   have h00:cy p.cl=(0,0):=by rw [ia];simp [cy,badWd]
   refine call_p vl (eH p.cl (by omega)) ax rfl ?_;refine ⟨_,?_,rfl⟩;rw [this,<- h00];exact ax
 have h0:¬ p.ck=0:=of_decide_eq_false h0;refine br (fun h1=>?_) (fun h1=>?_)
 ·have h1:p.ck=1:=of_decide_eq_true h1;refine br (fun h2=>?_) (fun h2=>?_)
  ·have:aW p=(20,p.ca):=by
    simp [pickB_and] at h2;simp only [aW,h0,if_false];rw [if_neg (by omega),if_pos (by omega)]
   refine call_p cu (aQ 20 p.ca) ax rfl ?_;refine ⟨_,?_,rfl⟩;rw [this];exact ax
  ·have:aW p=cy p.cl:=by
    simp [pickB_and] at h2;simp only [aW,h0,if_false];rw [if_neg (by omega),if_neg (by omega)]
   refine call_p vl (eH p.cl (by omega)) ax rfl ?_;refine ⟨_,?_,rfl⟩;rw [this];exact ax
 have h1:¬ p.ck=1:=of_decide_eq_false h1;refine br (fun h3=>?_) (fun h3=>?_)
 ·have h3:p.ck=2:=of_decide_eq_true h3;refine br (fun h2=>?_) (fun h2=>?_)
  ·have:aW p=(20,p.ca):=by
    simp [pickB_and] at h2;simp only [aW,h0,if_false];rw [if_neg (by omega),if_pos (by omega)]
   refine call_p cu (aQ 20 p.ca) ax rfl ?_;refine ⟨_,?_,rfl⟩;rw [this];exact ax
  ·have:aW p=cy p.cl:=by
    simp [pickB_and] at h2;simp only [aW,h0,if_false];rw [if_neg (by omega),if_neg (by omega)]
   refine call_p vl (eH p.cl (by omega)) ax rfl ?_;refine ⟨_,?_,rfl⟩;rw [this];exact ax
 have h3:¬ p.ck=2:=of_decide_eq_false h3;refine br (fun h4=>?_) (fun h4=>?_)
 ·have h4:p.ck=3:=of_decide_eq_true h4;refine br (fun h2=>?_) (fun h2=>?_)
  ·have:aW p=(20,p.ca):=by
    simp [pickB_and] at h2;simp only [aW,h0,if_false];rw [if_neg (by omega),if_pos (by omega)]
   refine call_p cu (aQ 20 p.ca) ax rfl ?_;refine ⟨_,?_,rfl⟩;rw [this];exact ax
  ·have:aW p=cy p.cl:=by
    simp [pickB_and] at h2;simp only [aW,h0,if_false];rw [if_neg (by omega),if_neg (by omega)]
   refine call_p vl (eH p.cl (by omega)) ax rfl ?_;refine ⟨_,?_,rfl⟩;rw [this];exact ax
 have h4:¬ p.ck=3:=of_decide_eq_false h4
 have:aW p=(14,p.ca):=by
  simp only [aW,h0,if_false];rw [if_pos (by omega)]
 refine call_p cu (aQ 14 p.ca) ax rfl ?_;refine ⟨_,?_,rfl⟩;rw [this];exact ax
theorem D1 (w:World) (x y:Operand) (vs vs':Array Value):(eqGuard .neq 38 x y (.agg vs) (.agg vs')).run Tryz.prog w = .ok () w:=by
 have h:Tryz.prog.eqGuardType Tryz.prog.depth 38=false:=by kernel_rfl
 simp [eqGuard,run_program,h]
theorem KT (a b:ByteArray) (p q:Int) (w:World):(binOp .neq 38 (.agg #[.string a,.int .i64 p]) (.agg #[.string b,.int .i64 q])).run Tryz.prog w = .ok (.bool (!(decide (a=b) && decide (p=q)))) w:=by
 have hf:Tryz.prog.underlying 38=some (.struct (Tryz.prog.fieldsOf 38)):=by simp [Program.fieldsOf,Tryz.underlying38]
 have xC:(Tryz.prog.fieldsOf 38).toList=[⟨ "Name",9,0,false, "", "",0⟩,⟨ "At",3,1,false, "", "",16⟩]:=by simp [Program.fieldsOf,Tryz.underlying38]
 have hs:Tryz.prog.stoodInHeld 38=false:=by kernel_rfl
 have hm:∃ d,Op.maxDepth=d + 1 + 1:=⟨Op.maxDepth - 2,by decide⟩;obtain ⟨d,hm⟩:=hm
 have he:(Op.equal 38 (.agg #[.string a,.int .i64 p]) (.agg #[.string b,.int .i64 q])).run Tryz.prog w = .ok (decide (a=b) && decide (p=q)) w:=by
  unfold Op.equal;rw [hm,run_equalIn_struct w (d + 1) 38 _ _ hf hs,xC]
  have e1:(a.toList == b.toList)=decide (a=b):=by
   rw [ByteArray.toList_eq,ByteArray.toList_eq];by_cases h:a=b
   ·subst h;simp
   ·have:¬ a.data=b.data:=fun e=>h (ByteArray.ext e);simp [h,this]
  have q9:∀ cs:Array Value,∀ off v,cs[off]? = some v->(part 9 cs off).run Tryz.prog w = .ok v w:=fun cs off v h=>by
   simp [part,Tryz.isAgg9,h]
  have q3:∀ cs:Array Value,∀ off v,cs[off]? = some v->(part 3 cs off).run Tryz.prog w = .ok v w:=fun cs off v h=>by
   simp [part,Tryz.isAgg3,h]
  simp only [Op.eqFields,ne_eq,String.reduceEq,not_false_eq_true,if_true,Sem.run_bind,q9 #[.string a,.int .i64 p] 0 (.string a) rfl,q9 #[.string b,.int .i64 q] 0 (.string b) rfl,Result.andThen_ok,run_equalIn_string w d 9 a b Tryz.underlying9,e1];by_cases h:a=b
  ·simp only [h,decide_true,Bool.not_true,Bool.false_eq_true,if_false,Sem.run_bind,q3 #[.string b,.int .i64 p] 1 (.int .i64 p) rfl,q3 #[.string b,.int .i64 q] 1 (.int .i64 q) rfl,Result.andThen_ok,run_equalIn_int w d 3 .i64 .i64 p q Tryz.underlying3];by_cases h2:p=q<;>simp [h2,Sem.run_pure]
  ·simp [h,Sem.run_pure]
 show ((do let r <- Op.equal 38 _ _;pure (Value.bool !r)):Sem Value).run Tryz.prog w=_;simp only [Sem.run_bind,he,Result.andThen_ok,Sem.run_pure]
theorem Hr (x y:Operand) (a b:Wd):CW Tryz.prog .neq x y 38 (uC a) (uC b) (!(decide (a.s=b.s) && decide (a.a=b.a))):=
 ⟨[.string a.s,.int .i64 a.a],[.string b.s,.int .i64 b.a],rfl,rfl,fun w=>⟨D1 w x y _ _,KT a.s b.s a.a b.a w⟩⟩
def eqWds:List Wd->List Wd->Bool
 | [],[]=>true
 | x :: r,y :: s=>(decide (x.s=y.s) && decide (x.a=y.a)) && eqWds r s
 | _,_=>false
theorem rP:∀ {a b:List Wd},a.length≠b.length->eqWds a b=false
 | [],[],h=>(h rfl).elim
 | [],_ :: _,_=>rfl
 | _ :: _,[],_=>rfl
 | x :: r,y :: s,h=>by
  simp only [eqWds];rw [rP (a:=r) (b:=s) (by simpa using h),Bool.and_false]
theorem nD:∀ a b:List Wd,eqWds (ep a) (ep b)=sameWds a b
 | [],[]=>rfl
 | [],_ :: _=>rfl
 | _ :: _,[]=>rfl
 | x :: r,y :: s=>by
  have:=nD r s;simp only [ep,List.map_cons,eqWds,sameWds] at this ⊢;rw [this];simp
abbrev D2 (a b:List Wd) (e:Nat):St:=
 ⟨[(0,⟨[],.sl 2 (bY a) none⟩),(1,⟨[],.sl 2 (bY b) none⟩),(12,⟨[],.v (.int .i64 (bY a).length)⟩),(13,⟨[],.v (.int .i64 e)⟩)],[],[]⟩
theorem vx (a b:List Wd) (hs:a.length<=1099511627776) :
  EvP Tryz.prog 304 [.sl 2 (bY a) none,.sl 2 (bY b) none] (.v (.bool (eqWds a b))):=by
 refine ev_go (P:=Tryz.prog) tt tt_ok 5000 26 [.tmp 4] Tryz.func304 rfl Tryz.ntmps304 rfl (nL rfl) (fun E9 w9 hn9 hm9=>?_);refine br (fun h=>?_) (fun h=>?_)
 ·have aM:a.length≠b.length:=by have:=h;simp [aA] at this;omega
  exact congrArg (fun b=>DV.v (.bool b)) (rP aM).symm
 ·have hl:a.length=b.length:=by have:=h;simp [aA] at this;omega
  refine aw (fun j st=>∃ e:Nat,st=D2 a b e/\e<=a.length/\eqWds a b=eqWds (a.drop e) (b.drop e)/\j=a.length - e) a.length
   (D2 a b 0) (weak_mk ⟨_,rfl⟩ wA rfl rfl rfl wB) ⟨0,rfl,by omega,rfl,by omega⟩ ?_
  rintro j st ⟨e,rfl,he,bd,rfl⟩;refine br (fun h=>?_) (fun h=>?_)
  ·have aq:e < a.length:=by simpa [aA] using h
   obtain ⟨x,hx⟩:∃ x,a[e]? = some x:=⟨_,gE aq⟩;obtain ⟨y,hy⟩:∃ y,b[e]? = some y:=⟨_,gE (hl ▸ aq)⟩;rw [drop_cons hx,drop_cons hy] at bd;refine aR (fun _=>false) mo (by decide +kernel) ?_;refine ⟨uC x,⟨by omega,cx hx⟩,uC y,⟨by omega,cx hy⟩,_,Hr _ _ x y,?_⟩;refine br (fun h=>?_) (fun h=>?_)
   ·have aM:(decide (x.s=y.s) && decide (x.a=y.a))=false:=by
     have h:(!(decide (x.s=y.s) && decide (x.a=y.a)))=true:=h
     revert h
     cases (decide (x.s=y.s) && decide (x.a=y.a))<;>decide
    refine (congrArg (fun b=>DV.v (.bool b)) ?_:_=_);rw [bd];simp only [eqWds,aM,Bool.false_and]
   ·have aM:(decide (x.s=y.s) && decide (x.a=y.a))=true:=by
     have h:(!(decide (x.s=y.s) && decide (x.a=y.a)))=false:=h
     revert h
     cases (decide (x.s=y.s) && decide (x.a=y.a))<;>decide
    refine ⟨D2 a b (e + 1),(weak_mk ⟨_,rfl⟩ wA rfl rfl rfl (wNB aq)),a.length - (e + 1),by omega,e + 1,rfl,by omega,?_,rfl⟩;rw [bd];simp only [eqWds,aM,Bool.true_and]
  ·have bJ:e=a.length:=by have:=h;simp [aA] at this;omega
   refine (congrArg (fun b=>DV.v (.bool b)) ?_:_=_);rw [bd,bJ,hl];simp [eqWds];rw [<- hl];simp [eqWds]
theorem dM (a b:List Wd) (ha:wdsWt a<=1099511627776) (hb:wdsWt b<=1099511627776) :
  EvP Tryz.prog 300 [.sl 2 (bY a) none,.sl 2 (bY b) none] (.v (.bool (sameWds a b))):=by
 have hl:=cw a;refine ev_go (P:=Tryz.prog) tt tt_ok 5000 10 [.tmp 4] Tryz.func300 rfl Tryz.ntmps300 rfl (nL rfl) (fun E9 w9 hn9 hm9=>?_);refine call_p Jf (px a ha) ax rfl ?_;refine call_p Jf (px b hb) ax rfl ?_;refine call_p Ol (vx (ep a) (ep b) (by simp [ep];omega)) ax rfl ?_;refine (congrArg (fun b=>DV.v (.bool b)) ?_:_=_);exact nD a b
def eqPts (F:Ph->Ty->Ph->Ty->Bool):Pts->Pts->Bool
 | .nil,.nil=>true
 | .cons p t r,.cons q u s=>F p t q u && eqPts F r s
 | _,_=>false
theorem rQ {F:Ph->Ty->Ph->Ty->Bool}:∀ {a b:Pts},a.len≠b.len->eqPts F a b=false
 | .nil,.nil,h=>(h rfl).elim
 | .cons p t r,.cons q u s,h=>by
  simp only [eqPts];rw [rQ (a:=r) (b:=s) (by simpa [Pts.len] using h),Bool.and_false]
 | .nil,.cons _ _ _,_=>rfl
 | .cons _ _ _,.nil,_=>rfl
def bM (p:Ph) (t:Ty) (q:Ph) (u:Ty):Bool:=decide (p.name.s=q.name.s) && bL p q && sameTy t u
theorem pA:∀ a b:Pts,eqPts bM a b=samePts a b
 | .nil,.nil=>by simp [eqPts,samePts]
 | .cons p t r,.cons q u s=>by simp only [eqPts,samePts,bM,pA r s]
 | .nil,.cons _ _ _=>by simp [eqPts,samePts]
 | .cons _ _ _,.nil=>by simp [eqPts,samePts]
abbrev D3 (a b:Pts) (g e:Nat):St:=
 ⟨[(1,⟨[],.sl 18 (dV b) none⟩),(2,⟨[],.fn g [] []⟩),(15,⟨[],.sl 18 (dV a) none⟩),(16,⟨[],.v (.int .i64 (dV a).length)⟩),(17,⟨[],.v (.int .i64 e)⟩)],[],[]⟩
theorem vy (g:Nat) (iP:Enters Tryz.prog g) (F:Ph->Ty->Ph->Ty->Bool) (a b:Pts) (hs:a.wt<=1099511627776)
  (hF:∀ (e:Nat) p t q u,a.toList[e]? = some (p,t)->b.toList[e]? = some (q,u)->EvP Tryz.prog g [.agg (DN p (gn t)),.agg (DN q (gn u))] (.v (.bool (F p t q u)))) :
  EvP Tryz.prog 306 [.sl 18 (dV a) none,.sl 18 (dV b) none,.fn g [] []] (.v (.bool (eqPts F a b))):=by
 have MI:=a.jq;refine ev_go (P:=Tryz.prog) tt tt_ok 5000 32 [.tmp 6] Tryz.func306 rfl Tryz.ntmps306 rfl (nL rfl) (fun E9 w9 hn9 hm9=>?_);refine br (fun h=>?_) (fun h=>?_)
 ·have aM:a.len≠b.len:=by have:=h;simp [aS] at this;omega
  exact congrArg (fun b=>DV.v (.bool b)) (rQ aM).symm
 ·have hl:a.len=b.len:=by have:=h;simp [aS] at this;omega
  refine aw (fun j st=>∃ e:Nat,st=D3 a b g e/\e<=a.len/\eqPts F a b=eqPts F (a.drop e) (b.drop e)/\j=a.len - e) a.len
   (D3 a b g 0) (weak_mk ⟨_,rfl⟩ wA rfl rfl rfl wB) ⟨0,rfl,by omega,rfl,by omega⟩ ?_
  rintro j st ⟨e,rfl,he,bd,rfl⟩;refine br (fun h=>?_) (fun h=>?_)
  ·have aq:e < a.len:=by simpa [aS] using h
   obtain ⟨p,t,hx⟩:=Pts.gy aq;obtain ⟨q,u,hy⟩:=Pts.gy (hl ▸ aq);rw [Pts.drop_cons hx,Pts.drop_cons hy] at bd;have Q4:=hF e p t q u hx hy;obtain ⟨t,ts⟩:=t;obtain ⟨u,us⟩:=u;refine ⟨_,⟨by omega,dj hx⟩,?_⟩;refine ⟨_,⟨by omega,dj hy⟩,?_⟩;refine call_p iP Q4 ax rfl ?_;refine br (fun h=>?_) (fun h=>?_)
   ·have aM:F p (.mk t ts) q (.mk u us)=false:=by simpa using h
    refine (congrArg (fun b=>DV.v (.bool b)) ?_:_=_);rw [bd];simp only [eqPts,aM,Bool.false_and]
   ·have aM:F p (.mk t ts) q (.mk u us)=true:=by simpa using h
    refine ⟨D3 a b g (e + 1),(weak_mk ⟨_,rfl⟩ wA rfl rfl rfl (wNB aq)),a.len - (e + 1),by omega,e + 1,rfl,by omega,?_,rfl⟩;rw [bd];simp only [eqPts,aM,Bool.true_and]
  ·have bJ:e=a.len:=by have:=h;simp [aS] at this;omega
   refine (congrArg (fun b=>DV.v (.bool b)) ?_:_=_);rw [bd,bJ,Pts.dJ,hl,Pts.dJ];simp [eqPts]
theorem ju (p q:Ph) (t u:Ty) (hp:p.wt<=1099511627776) (hq:q.wt<=1099511627776)
  (ht:EvP Tryz.prog 301 [.agg (gn t),.agg (gn u)] (.v (.bool (sameTy t u)))) :
  EvP Tryz.prog 287 [.agg (DN p (gn t)),.agg (DN q (gn u))] (.v (.bool (bM p t q u))):=by
 simp only [Ph.wt] at hp hq;obtain ⟨th,R4⟩:=t;obtain ⟨uh,Ug⟩:=u;refine ev_go (P:=Tryz.prog) tt tt_ok 5000 71 [.tmp 4] Tryz.func287 rfl Tryz.ntmps287 rfl (nL rfl) (fun E9 w9 hn9 hm9=>?_)
 have e0:bM p (.mk th R4) q (.mk uh Ug)=(((decide (p.name.s=q.name.s) && (p.bare == q.bare)) && decide (p.wide=q.wide)) && sameWds p.label q.label && ((decide (p.ck=q.ck) && decide (p.cn=q.cn)) && sameWds p.cl q.cl) && sameTy (.mk th R4) (.mk uh Ug)):=by
  simp only [bM,bL,Bool.and_assoc]
 rw [e0];refine br (fun hA=>?_) (fun hA=>?_)
 ·simp only [pickB_and] at hA;refine call_p zX (dM p.label q.label (by omega) (by omega)) ax rfl ?_;refine br (fun hB=>?_) (fun hB=>?_)
  ·simp only [pickB_and] at hB;refine call_p zX (dM p.cl q.cl (by omega) (by omega)) ax rfl ?_;refine br (fun hC=>?_) (fun hC=>?_)
   ·refine call_p Oh (ht) ax rfl ?_;refine (congrArg (fun b=>DV.v (.bool b)) ?_:_=_);simp only [pickB_and,Bool.true_and,Bool.and_true] at hC ⊢
    simp_all
   ·refine (congrArg (fun b=>DV.v (.bool b)) ?_:_=_);simp only [pickB_and,Bool.true_and,Bool.and_true] at hC ⊢
    simp_all
  ·simp only [pickB_and] at hB;refine br (fun hC=>?_) (fun hC=>?_)
   ·exfalso;simp [pickB_and] at hC
   ·refine (congrArg (fun b=>DV.v (.bool b)) ?_:_=_)
    simp_all
 ·simp only [pickB_and,beq_true] at hA;refine br (fun hB=>?_) (fun hB=>?_)
  ·refine call_p zX (dM p.cl q.cl (by omega) (by omega)) ax rfl ?_;refine (congrArg (fun b=>DV.v (.bool b)) ?_:_=_);rw [hA];rfl
  ·refine (congrArg (fun b=>DV.v (.bool b)) ?_:_=_);rw [hA];rfl
theorem rR:∀ (n:Nat) (a b:Ty),a.wt<=n->a.wt<=1099511627776->b.wt<=1099511627776 ->
  EvP Tryz.prog 301 [.agg (gn a),.agg (gn b)] (.v (.bool (sameTy a b)))
 | 0,a,b,hn,_,_=>by have:=a.eX;omega
 | n + 1,.mk h ps,.mk k qs,hn,cM,OH=>by
  have ih:=rR n;simp only [Ty.wt,Hd.wt] at hn cM OH
  have hE:EvP Tryz.prog 306 [.sl 18 (dV ps) none,.sl 18 (dV qs) none,.fn 287 [] []] (.v (.bool (samePts ps qs))):=by
   rw [<- pA];refine vy 287 DL bM ps qs (by omega) fun e p t q u hx hy=>?_;have Jp:=Pts.iy (mG hx);have ml:=Pts.iy (mG hy);exact ju p q t u (by omega) (by omega) (ih t u (by omega) (by omega) (by omega))
  refine ev_go (P:=Tryz.prog) tt tt_ok 5000 53 [.tmp 4] Tryz.func301 rfl Tryz.ntmps301 rfl (nL rfl) (fun E9 w9 hn9 hm9=>?_);refine br (fun hA=>?_) (fun hA=>?_)
  ·simp [ak] at hA;obtain ⟨⟨⟨⟨e1,e2⟩,e3⟩,e4⟩,e5⟩:=hA;refine call_p zX (dM h.ae k.ae (by omega) (by omega)) ax rfl ?_;refine br (fun hB=>?_) (fun hB=>?_)
   ·refine (congrArg (fun b=>DV.v (.bool b)) ?_:_=_);simp [ak,e1,e2,e3,e4,e5] at hB;simp [sameTy,kJ,hB]
   ·simp [ak,e1,e2,e3,e4,e5] at hB;refine call_p Om (hE) ax rfl ?_;refine (congrArg (fun b=>DV.v (.bool b)) ?_:_=_);simp [sameTy,kJ,e1,e2,e3,e4,e5,hB]
  ·refine (congrArg (fun b=>DV.v (.bool b)) ?_:_=_);simp [ak] at hA;simp only [sameTy,kJ]
   grind
theorem pB (a b:Ty) (ha:a.wt<=1099511627776) (hb:b.wt<=1099511627776):EvP Tryz.prog 301 [.agg (gn a),.agg (gn b)] (.v (.bool (sameTy a b))):=rR _ a b (Nat.le_refl _) ha hb
def pD (h:Hd) (ps:Pts):Bool:=
 (((((decide (h.ag=2) || (decide (h.lo=0) && decide (h.hi=0))) && ((decide (h.ag=3) || decide (h.ag=5)) || decide (h.most=0))) && (decide (ps.len=0) || (decide (5<=h.ag) && decide (h.ag<=8)))) &&
  (decide (h.ae.length=0) || decide (h.ag=4))) && (decide (h.name.s=al) || decide (h.ag=9)))
theorem Bt (h:Hd) (ps:Pts):EvP Tryz.prog 215 [.agg (gn (.mk h ps))] (.v (.bool (pD h ps))):=by
 have l1:(((dV ps).length:Int)=0)=(ps.len=0):=by rw [aS];exact propext (by omega)
 have l2:(((bY h.ae).length:Int)=0)=(h.ae.length=0):=by rw [aA];exact propext (by omega)
 have he:(⟨#[]⟩:ByteArray)=al:=rfl;refine ev_go (P:=Tryz.prog) tt tt_ok 5000 67 [.tmp 2] Tryz.func215 rfl Tryz.ntmps215 rfl (nL rfl) (fun E9 w9 hn9 hm9=>?_);refine br (fun k2=>?_) (fun k2=>?_)
 ·have k2:h.ag=2:=of_decide_eq_true k2;refine (congrArg (fun b=>DV.v (.bool b)) ?_:_=_);rw [Bool.eq_iff_iff];simp [pickB_and,ak,pD,aS,aA,k2,he]
 have k2:¬ h.ag=2:=of_decide_eq_false k2;refine br (fun k3=>?_) (fun k3=>?_)
 ·have k3:h.ag=3:=of_decide_eq_true k3;refine br (fun _=>?_) (fun hf=>?_)
  ·refine (congrArg (fun b=>DV.v (.bool b)) ?_:_=_);rw [Bool.eq_iff_iff];simp [pickB_and,ak,pD,aS,aA,k3,he]
  ·exact absurd k3 (of_decide_eq_false hf)
 have k3:¬ h.ag=3:=of_decide_eq_false k3;refine br (fun k5=>?_) (fun k5=>?_)
 ·have k5:h.ag=5:=of_decide_eq_true k5;refine (congrArg (fun b=>DV.v (.bool b)) ?_:_=_);rw [Bool.eq_iff_iff];simp [pickB_and,ak,pD,aS,aA,k5,he]
 have k5:¬ h.ag=5:=of_decide_eq_false k5;refine (congrArg (fun b=>DV.v (.bool b)) ?_:_=_);rw [Bool.eq_iff_iff];simp [pickB_and,ak,pD,aS,aA,k2,k3,k5,he]
theorem tq:∀ ps:Pts,samePts ps ps=true:=by
 have wr:∀ l:List Wd,sameWds l l=true:=by
  intro l
  induction l with
  | nil=>rfl
  | cons x r ih=>simp [sameWds,ih]
 have key:∀ n,(∀ t:Ty,t.wt<=n->sameTy t t=true)/\(∀ ps:Pts,ps.wt<=n->samePts ps ps=true):=by
  intro n
  induction n using Nat.strongRecOn with
  | _ n ih=>
   have hp:∀ ps:Pts,ps.wt<=n->(∀ t:Ty,t.wt + 256<=n->sameTy t t=true)->samePts ps ps=true:=by
    intro ps
    induction ps using Pts.rec (motive_1:=fun _=>True) with
    | mk=>trivial
    | nil=>intros;simp [samePts]
    | cons p t r _ ihr=>
     intro hw ht;simp only [Pts.wt,Ph.wt] at hw;simp only [samePts];rw [ht t (by omega),ihr (by omega) ht];simp [bL,wr]
   refine ⟨fun t ht=>?_,fun ps OI=>?_⟩
   ·obtain ⟨h,ps⟩:=t;simp only [Ty.wt,Hd.wt] at ht;simp only [sameTy,kJ];rw [(ih ps.wt (by omega)).2 ps (Nat.le_refl _),wr];simp
   ·exact hp ps OI fun t ht=>(ih t.wt (by omega)).1 t (Nat.le_refl _)
 exact fun ps=>(key ps.wt).2 ps (Nat.le_refl _)
theorem z7 (h:Hd) (ps:Pts):pD h ps=sameTy (.mk h ps) (mask (.mk h ps)):=by
 have wr:∀ l:List Wd,sameWds l l=true:=by
  intro l
  induction l with
  | nil=>rfl
  | cons x r ih=>simp [sameWds,ih]
 have wn:∀ l:List Wd,sameWds l []=decide (l.length=0):=by
  intro l;cases l<;>simp [sameWds]
 have pn:∀ l:Pts,samePts l .nil=decide (l.len=0):=by
  intro l;cases l<;>simp [samePts,Pts.len]
 have pr:=tq ps;simp only [mask,sameTy,kJ,DZ]
 have e5:samePts ps (if 4 < h.ag/\h.ag < 9 then ps else .nil)=(decide (ps.len=0) || (decide (5<=h.ag) && decide (h.ag<=8))):=by
  split
  ·rename_i hc;rw [pr,decide_eq_true (by omega:5<=h.ag),decide_eq_true (by omega:h.ag<=8)];simp
  ·rename_i hc;rw [pn,Bool.eq_iff_iff];simp;omega
 have e6:sameWds h.ae (if h.ag=4 then h.ae else [])=(decide (h.ae.length=0) || decide (h.ag=4)):=by
  split
  ·rename_i hc;rw [wr];simp [hc]
  ·rename_i hc;rw [wn];simp [hc]
 rw [e5,e6];unfold pD;by_cases k2:h.ag=2
 ·rw [Bool.eq_iff_iff];simp [k2];grind
 ·by_cases k3:h.ag=3∨h.ag=5
  ·by_cases k9:h.ag=9
   ·omega
   ·rw [Bool.eq_iff_iff];simp [k2,k3,k9];grind
  ·by_cases k9:h.ag=9
   ·rw [Bool.eq_iff_iff];simp [k9];grind
   ·rw [Bool.eq_iff_iff];simp [k2,k3,k9];grind
theorem vz (p:Ph) (t:Ty) (hp:p.wt<=1099511627776):EvP Tryz.prog 261 [.agg (DN p (gn t))] (.v (.bool (bM p bG du bG))):=by
 obtain ⟨th,R4⟩:=t;refine ev_go (P:=Tryz.prog) tt tt_ok 5000 8 [.tmp 2] Tryz.func261 rfl Tryz.ntmps261 rfl (nL rfl) (fun E9 w9 hn9 hm9=>?_);refine call_p DL (ju p du bG bG hp (by decide) (pB bG bG (by decide) (by decide))) ax rfl ?_;exact (rfl:_=_)
def au (l:List Wd):List ByteArray:=l.map fun w=>w.s
noncomputable def enumP (l:List Wd):Nat->Ft
 | 0=>(0,0)
 | e + 1=>
  if (enumP l e).1≠0 then enumP l e
  else match l[e]? with
   | some w=>dL (au (l.take (e + 1))) w.s w.a
   | none=>(0,0)
theorem kL {l:List Wd} {e:Nat} (h:(enumP l e).1≠0):∀ d,enumP l (e + d)=enumP l e
 | 0=>rfl
 | d + 1=>by
  have ih:=kL h d;rw [<- Nat.add_assoc,enumP,ih,if_pos h]
theorem tu {L:List ByteArray} {x:ByteArray} {a:Int} (h:(dL L x a).1=0):dL L x a=(0,0):=by
 unfold dL at *;split
 ·rename_i h1;rw [if_pos h1] at h;split
  ·rfl
  ·rename_i h2;rw [if_neg h2] at h;simp at h
 ·rename_i h1;rw [if_neg h1] at h;simp at h
theorem ya {l:List Wd}:∀ {e:Nat},(enumP l e).1=0->enumP l e=(0,0)
 | 0,_=>rfl
 | e + 1,h=>by
  rw [enumP] at h ⊢;split
  ·rename_i h1;rw [if_pos h1] at h;exact absurd h h1
  ·rename_i h1;rw [if_neg h1] at h;split
   ·rename_i w hw;rw [hw] at h;exact tu h
   ·rfl
theorem pE {l:List Wd} {e:Nat} {w:Wd} (h:(enumP l e).1=0) (hw:l[e]? = some w):enumP l (e + 1)=dL (au (l.take (e + 1))) w.s w.a:=by
 rw [enumP,if_neg (by rw [h];simp),hw]
noncomputable def jv (h:Hd):Ft:=
 if h.ae.length=0 then (15,h.aC) else if 64 < h.ae.length then (8,((h.ae[64]?).getD (⟨al,0⟩:Wd)).a) else enumP h.ae h.ae.length
abbrev yb (h:Hd) (ps:Pts) (n e:Nat):St:=
 ⟨[(1,⟨[],.loc 0 0⟩),(2,⟨[],.loc 1 0⟩),(27,⟨[],.sl 2 (bY h.ae) none⟩),(28,⟨[],.v (.int .i64 (bY h.ae).length)⟩),(29,⟨[],.v (.int .i64 e)⟩),(3,⟨[],.sl 1 (cD (au (h.ae.take e))) (some 0)⟩)],
  [gn (.mk h ps),[.v (.int .i64 0),.v (.int .i64 0)]],[⟨n,9,1,none⟩]⟩
theorem gM {l:List Wd} {e:Nat} {w:Wd} (h:l[e]? = some w):cD (au (l.take e)) ++ [[DV.v (.string w.s)]]=cD (au (l.take (e + 1))):=by
 rw [List.take_add_one,h];simp [cD,au]
theorem yc (h:Hd) (ps:Pts) (hs:wdsWt h.ae<=1099511627776):EvP Tryz.prog 216 [.agg (gn (.mk h ps))] (jv h).d:=by
 have hl:=cw h.ae;refine ev_go (P:=Tryz.prog) tt tt_ok 5000 48 [.cell 2 54] Tryz.func216 rfl Tryz.ntmps216 rfl (nL rfl) (fun E9 w9 hn9 hm9=>?_);refine br (fun h0=>?_) (fun h0=>?_)
 ·have h0:h.ae.length=0:=by have:=h0;simp [aA] at this;simp [this]
  refine call_p cu (aQ 15 h.aC) ax rfl ?_;refine ⟨_,?_,rfl⟩;rw [jv,if_pos h0];exact ax
 have h0:¬ h.ae.length=0:=by have:=h0;simp [aA] at this;simpa using this
 refine br (fun h1=>?_) (fun h1=>?_)
 ·have h1:64 < h.ae.length:=by have:=h1;simp [aA] at this;omega
  obtain ⟨x,hx⟩:∃ x,h.ae[64]? = some x:=⟨_,gE h1⟩;refine ⟨uC x,⟨by omega,cx hx⟩,?_⟩;refine call_p cu (aQ 8 x.a) ax rfl ?_;refine ⟨_,?_,rfl⟩;rw [jv,if_neg h0,if_pos h1,hx];exact ax
 have h1:¬ 64 < h.ae.length:=by have:=h1;simp [aA] at this;omega
 have hk:jv h=enumP h.ae h.ae.length:=by rw [jv,if_neg h0,if_neg h1]
 rw [hk];refine aw (fun j st=>∃ e:Nat,st=yb h ps e e/\e<=h.ae.length/\(enumP h.ae e).1=0/\j=h.ae.length - e) h.ae.length (yb h ps 0 0) (jj ⟨0,9,1,none⟩ rfl ⟨_,rfl⟩ rfl wA rfl rfl Gv) ⟨0,rfl,by omega,rfl,by omega⟩ ?_;rintro j st ⟨e,rfl,he,hz,rfl⟩;refine br (fun hL=>?_) (fun hL=>?_)
 ·have aq:e < h.ae.length:=by simpa [aA] using hL
  obtain ⟨w,hw⟩:∃ w,h.ae[e]? = some w:=⟨_,gE aq⟩;have R5:=jU (mG hw);have OJ:=pE hz hw
  have D4:(au (h.ae.take (e + 1)))[(au (h.ae.take (e + 1))).length - 1]? = some w.s:=by
   have zL:(au (h.ae.take (e + 1))).length=e + 1:=by simp [au];omega
   rw [zL];simp [au,hw]
  refine ⟨uC w,⟨by omega,cx hw⟩,?_⟩;refine ⟨by simp [bl,au];omega,⟨by simp [bl,au,maxLen];omega,by simp [bl,au];omega⟩,?_⟩;have iY:=gM hw;have J5:=nC (au (h.ae.take (e + 1))) w.s w.a D4 (by simp [au];omega) (by omega);rw [<- iY,<- OJ] at J5;refine call_p Jd (J5) ax rfl ?_;refine br (fun hf=>?_) (fun hf=>?_)
  ·have hf:(enumP h.ae (e + 1)).1≠0:=by simpa using hf
   refine ⟨_,?_,rfl⟩;have aX:=kL hf (h.ae.length - (e + 1));rw [show e + 1 + (h.ae.length - (e + 1))=h.ae.length by omega] at aX;rw [aX];exact ax
  ·have hf:(enumP h.ae (e + 1)).1=0:=by simpa using hf
   refine ⟨yb h ps (e + 1) (e + 1),(weak_mk ⟨_,rfl⟩ wA rfl rfl rfl (A8 aq iY)),h.ae.length - (e + 1),by omega,e + 1,rfl,by omega,hf,rfl⟩
 ·have bJ:e=h.ae.length:=by
   have:=hL;simp [aA] at this;omega
  subst bJ;have aX:=ya hz;refine ⟨_,?_,rfl⟩;rw [aX];exact ax
def OL (t:Ty) (depth m:Int) (r:DV) (os:List (List DV)) (_:List TkE):Prop:=
 r=(wrong t depth m).1.d/\∃ z:Int,os=[[.v (.int .i64 z)]]/\((wrong t depth m).1.1=0->z=(wrong t depth m).2)
theorem KU {t:Ty} {depth m:Int}:∀ r os tk,OL t depth m r os tk->clB 0 0 r=true/\∀ mM∈os,clB.clL 0 0 mM=true:=by
 rintro r os tk ⟨rfl,z,rfl,_⟩;refine ⟨rfl,fun mM h=>?_⟩;simp only [List.mem_singleton] at h;subst h;rfl
theorem Bu (t:Ty) (hc:Ev Tryz.prog 172 [.loc 0 0,.agg (gn t),.v (.int .i64 1)] [[.v (.int .i64 0)]] [] (OL t 1 0)) :
  EvP Tryz.prog 104 [.agg (gn t)] (wrong t 1 0).1.d:=by
 obtain ⟨h,ps⟩:=t;refine ev_go (P:=Tryz.prog) tt tt_ok 5000 9 [.cell 2 54] Tryz.func104 rfl Tryz.ntmps104 rfl (nL rfl) (fun E9 w9 hn9 hm9=>?_);refine iw DG rfl rfl ax ax hc KU (fun r mM hr=>?_);obtain ⟨rfl,z,hz,_⟩:=hr;simp only [List.cons.injEq,and_true] at hz;subst hz;exact ⟨_,ax,rfl⟩
def gA (n:Nat):List UInt8:=if n < 10 then [UInt8.ofNat (48 + n)] else gA (n / 10) ++ [UInt8.ofNat (48 + n % 10)]
termination_by n
decreasing_by omega
theorem iC {n:Nat} (h:n < 10):gA n=[UInt8.ofNat (48 + n)]:=by rw [gA,if_pos h]
theorem lK {n:Nat} (h:¬ n < 10):gA n=gA (n / 10) ++ [UInt8.ofNat (48 + n % 10)]:=by rw [gA,if_neg h]
theorem vA:∀ (k n:Nat),n < 10 ^ (k + 1)->(gA n).length<=k + 1
 | 0,n,h=>by
  have:n < 10:=by simpa using h
  rw [iC this];simp
 | k + 1,n,h=>by
  by_cases hn:n < 10
  ·rw [iC hn];simp
  ·rw [lK hn]
   have h2:n / 10 < 10 ^ (k + 1):=by
    rw [Nat.div_lt_iff_lt_mul (by decide)];rw [Nat.pow_succ] at h;exact h
   have:=vA k (n / 10) h2;simp only [List.length_append,List.length_cons,List.length_nil];omega
theorem digs_20 {n:Nat} (h:n<=18446744073709551616):(gA n).length<=20:=vA 19 n (by omega)
def fi (z:Int):List UInt8:=if z < 0 then 45 :: gA z.natAbs else gA z.natAbs
def nZ (z:Int):ByteArray:=⟨(fi z).toArray⟩
theorem vB {z:Int} (h1 : -9223372036854775808<=z) (h2:z<=9223372036854775807):(fi z).length<=21:=by
 have:=digs_20 (n:=z.natAbs) (by omega);unfold fi;split
 ·simp only [List.length_cons];omega
 ·omega
theorem gN {z:Int} (h1 : -9223372036854775808<=z) (h2:z<=9223372036854775807):(nZ z).size<=21:=vB h1 h2
theorem cN (a b:List UInt8):(⟨a.toArray⟩:ByteArray) ++ ⟨b.toArray⟩=⟨(a ++ b).toArray⟩:=by
 apply ByteArray.ext;simp
theorem wr (z:Int) (h1 : -9223372036854775808<=z) (h2:z<=9223372036854775807):IntKind.i64.wrap z=z:=by
 rw [IntKind.wrap_i64];omega
theorem iD {z:Int} (h:0<=z):fi z=gA z.toNat:=by
 unfold fi;rw [if_neg (by omega)];congr 1;omega
theorem lL:∀ (N:Nat) (z:Int),0<=z->z<=9223372036854775807->z.toNat < N->EvP Tryz.prog 70 [.v (.int .i64 z)] (.v (.string (nZ z)))
 | 0,z,_,_,h=>by omega
 | N + 1,z,h0,h1,hN=>by
  have ih:=lL N;refine ev_go (P:=Tryz.prog) tt tt_ok 5000 33 [.tmp 2] Tryz.func70 rfl Tryz.ntmps70 rfl (nL rfl) (fun E9 w9 hn9 hm9=>?_);refine br (fun h=>?_) (fun _=>?_)
  ·have:z < 0:=by simpa using h
   omega
  refine br (fun h=>?_) (fun h=>?_)
  ·have hz:z < 10:=by simpa using h
   have hw:IntKind.i64.wrap (48 + z)=48 + z:=wr _ (by omega) (by omega);refine ⟨[UInt8.ofNat (48 + z.toNat)],?_,?_⟩
   ·simp only [List.flatten_cons,List.flatten_nil,List.append_nil,u8L,List.cons.injEq,and_true];refine congrArg (fun x=>DV.v (.int .u8 x)) ?_;rw [hw,IntKind.wrap_u8]
    have:(UInt8.ofNat (48 + z.toNat)).toNat=48 + z.toNat:=by
     rw [UInt8.toNat_ofNat'];omega
    rw [this];omega
   ·refine (congrArg (fun s=>DV.v (.string s)) ?_:_=_);rw [nZ,iD h0,iC (by omega)]
  ·have hz:¬ z < 10:=by simpa using h
   have hq:IntKind.i64.wrap (z.tdiv 10)=((z.toNat / 10:Nat):Int):=by
    have:z.tdiv 10=z / 10:=Int.tdiv_eq_ediv_of_nonneg h0;rw [this,wr _ (by omega) (by omega)];omega
   have hr:z.tmod 10=((z.toNat % 10:Nat):Int):=by
    rw [Int.tmod_eq_emod_of_nonneg h0];omega
   refine ⟨⟨rfl,by decide⟩,?_⟩;refine call_p vf (ih (IntKind.i64.wrap (z.tdiv 10)) (by rw [hq];omega) (by rw [hq];omega) (by rw [hq];omega)) ax rfl ?_;refine ⟨⟨rfl,by decide⟩,?_⟩;refine call_p vf (ih (z.tmod 10) (by rw [hr];omega) (by rw [hr];omega) (by rw [hr];omega)) ax rfl ?_;rw [hq,hr];have l1:=gN (z:=((z.toNat / 10:Nat):Int)) (by omega) (by omega);have l2:=gN (z:=((z.toNat % 10:Nat):Int)) (by omega) (by omega);refine ⟨by omega,?_⟩;refine (congrArg (fun s=>DV.v (.string s)) ?_:_=_);simp only [nZ];rw [cN,iD h0,iD (by omega),iD (by omega),lK (n:=z.toNat) (by omega),iC (n:=((z.toNat % 10:Nat):Int).toNat) (by omega)];rfl
theorem lM {z:Int} (h:z < 0):fi z=45 :: gA z.natAbs:=by unfold fi;rw [if_pos h]
theorem vC:∀ (N:Nat) (z:Int),z < 0 -> -9223372036854775808<=z->z.natAbs < N->EvP Tryz.prog 70 [.v (.int .i64 z)] (.v (.string (nZ z)))
 | 0,z,_,_,h=>by omega
 | N + 1,z,h0,h1,hN=>by
  have ih:=vC N;refine ev_go (P:=Tryz.prog) tt tt_ok 5000 33 [.tmp 2] Tryz.func70 rfl Tryz.ntmps70 rfl (nL rfl) (fun E9 w9 hn9 hm9=>?_);refine br (fun _=>?_) (fun h=>?_)
  ·refine br (fun h=>?_) (fun h=>?_)
   ·have hz : -10 < z:=by simpa using h
    have hw:IntKind.i64.wrap (0 - z) = -z:=by rw [wr _ (by omega) (by omega)];omega
    refine call_p vf (lL (z.natAbs + 1) (IntKind.i64.wrap (0 - z)) (by rw [hw];omega) (by rw [hw];omega) (by rw [hw];omega)) ax rfl ?_;rw [hw];have l1:=gN (z:=-z) (by omega) (by omega);refine ⟨by show 1 + (nZ (-z)).size<=_;omega,?_⟩;refine (congrArg (fun s=>DV.v (.string s)) ?_:_=_);simp only [nZ];rw [lM h0,iD (z:=-z) (by omega),show (-z).toNat=z.natAbs by omega];exact cN [45] _
   ·have hz:¬ -10 < z:=by simpa using h
    have hq:IntKind.i64.wrap (z.tdiv 10) = -((z.natAbs / 10:Nat):Int):=by
     have:z.tdiv 10 = -((z.natAbs / 10:Nat):Int):=by
      have e:z = -(z.natAbs:Int):=by omega
      rw [e,Int.neg_tdiv,Int.natAbs_neg,Int.natAbs_natCast,Int.tdiv_eq_ediv_of_nonneg (by omega)];omega
     rw [this,wr _ (by omega) (by omega)]
    have hr:z.tmod 10 = -((z.natAbs % 10:Nat):Int):=by
     have e:z = -(z.natAbs:Int):=by omega
     rw [e,Int.neg_tmod,Int.natAbs_neg,Int.natAbs_natCast,Int.tmod_eq_emod_of_nonneg (by omega)];omega
    have hw:IntKind.i64.wrap (0 - z.tmod 10)=((z.natAbs % 10:Nat):Int):=by
     rw [hr,wr _ (by omega) (by omega)];omega
    refine ⟨⟨rfl,by decide⟩,?_⟩;refine call_p vf (ih (IntKind.i64.wrap (z.tdiv 10)) (by rw [hq];omega) (by rw [hq];omega) (by rw [hq];omega)) ax rfl ?_;refine ⟨⟨rfl,by decide⟩,?_⟩;refine call_p vf (lL 11 (IntKind.i64.wrap (0 - z.tmod 10)) (by rw [hw];omega) (by rw [hw];omega) (by rw [hw];omega)) ax rfl ?_;rw [hq,hw];have l1:=gN (z:=-((z.natAbs / 10:Nat):Int)) (by omega) (by omega);have l2:=gN (z:=((z.natAbs % 10:Nat):Int)) (by omega) (by omega);refine ⟨by omega,?_⟩;refine (congrArg (fun s=>DV.v (.string s)) ?_:_=_);simp only [nZ];rw [cN,lM h0,lM (by omega),iD (by omega),lK (n:=z.natAbs) (by omega),iC (n:=((z.natAbs % 10:Nat):Int).toNat) (by omega),Int.natAbs_neg,Int.natAbs_natCast];rfl
  ·have:¬ z < 0:=by simpa using h
   omega
theorem yd (z:Int) (h1 : -9223372036854775808<=z) (h2:z<=9223372036854775807):EvP Tryz.prog 70 [.v (.int .i64 z)] (.v (.string (nZ z))):=by
 by_cases h:z < 0
 ·exact vC _ z h h1 (Nat.lt_succ_self _)
 ·exact lL _ z (by omega) h2 (Nat.lt_succ_self _)
theorem lN:∀ bs:List UInt8,u8L bs=bs.map fun b=>DV.v (.int .u8 (b.toNat:Int))
 | []=>rfl
 | b :: r=>by simp [u8L,lN r]
theorem tv (bs:List UInt8):(u8L bs).length=bs.length:=by simp [lN]
theorem z8 (a b:List UInt8):u8L (a ++ b)=u8L a ++ u8L b:=by simp [lN]
theorem D5 (n:Nat) (a:List UInt8):u8L (a.take n)=(u8L a).take n:=by simp [lN,List.map_take]
theorem vD (n:Nat) (a:List UInt8):u8L (a.drop n)=(u8L a).drop n:=by simp [lN,List.map_drop]
theorem Aa {n m:Nat} {tk:List TkE}:∀ bs:List UInt8,WeL n m tk (u8L bs) (u8L bs)
 | []=>rfl
 | b :: r=>⟨_,_,rfl,ai rfl,Aa r⟩
theorem mO {n m:Nat} {tk:List TkE} {l:List DV} {bs:List UInt8} (h:l=u8L bs):WeL n m tk l (u8L bs):=by rw [h];exact Aa bs
theorem D6 (n:Nat):0 < (gA n).length:=by
 rw [gA];split<;>simp
abbrev vE (m:Bool) (u a:Nat) (bs:List UInt8):St:=⟨[(3,⟨[],.v (.bool m)⟩),(4,⟨[],.v (.int .u64 u)⟩),(5,⟨[],.loc 0 0⟩),(6,⟨[],.v (.int .i64 a)⟩)],[u8L bs],[]⟩
def KV (m:Bool) (N j:Nat) (st:St):Prop:=∃ (u a:Nat) (bs:List UInt8),st=vE m u a bs/\bs.length=20/\a<=20/\u < 18446744073709551616 /\
 ((a < 20/\u=0/\gA N=bs.drop a)∨((a=20∨0 < u)/\gA N=gA u ++ bs.drop a))/\j=a
theorem putI_0 (m:Bool) (N:Nat) (h:N < 18446744073709551616):KV m N 20 (vE m N 20 (List.replicate 20 0)):=
 ⟨N,20,_,rfl,by simp,Nat.le_refl _,h,.inr ⟨.inl rfl,by simp⟩,rfl⟩
theorem D7 (z:Int) (h1 : -9223372036854775808<=z) (h2:z<=9223372036854775807):EvP Tryz.prog 67 [.v (.int .i64 z)] (.v (.string (nZ z))):=by
 have hN:z.natAbs<=9223372036854775808:=by omega
 refine ev_go (P:=Tryz.prog) tt tt_ok 5000 38 [.tmp 2] Tryz.func67 rfl Tryz.ntmps67 rfl (nL rfl) (fun E9 w9 hn9 hm9=>?_);refine br (fun h=>?_) (fun h=>?_)
 case' refine_1=>
  have hz:z < 0:=by simpa using h
  have hu:IntKind.u64.wrap (0 - IntKind.u64.wrap z)=(z.natAbs:Int):=by
   simp only [IntKind.wrap_u64];omega
  refine aw (KV (decide (z < 0)) z.natAbs) 20 (vE (decide (z < 0)) z.natAbs 20 (List.replicate 20 0)) (weak_mk ⟨_,rfl⟩ (by repeat' (first | exact rfl | exact ai rfl | exact mO rfl | refine ⟨_,_,rfl,?_,?_⟩)) rfl rfl rfl (by repeat' (first | exact trivial | exact ai rfl | exact aj hu | exact mO rfl | refine ⟨⟨_,rfl,?_⟩,?_⟩))) (putI_0 _ _ (by omega)) ?_
 case' refine_2=>
  have hz:¬ z < 0:=by simpa using h
  have hu:IntKind.u64.wrap z=(z.natAbs:Int):=by
   simp only [IntKind.wrap_u64];omega
  refine aw (KV (decide (z < 0)) z.natAbs) 20 (vE (decide (z < 0)) z.natAbs 20 (List.replicate 20 0)) (weak_mk ⟨_,rfl⟩ (by repeat' (first | exact rfl | exact ai rfl | exact mO rfl | refine ⟨_,_,rfl,?_,?_⟩)) rfl rfl rfl (by repeat' (first | exact trivial | exact ai rfl | exact aj hu | exact mO rfl | refine ⟨⟨_,rfl,?_⟩,?_⟩))) (putI_0 _ _ (by omega)) ?_
 all_goals
  clear hu hz h;rintro a st ⟨u,j,bs,rfl,hbl,ha,hu64,hinv,rfl⟩;refine br (fun h=>?_) (fun h=>?_)
  ·have hc:a=20∨0 < u:=by
    simp [ak] at h;omega
   have hd:gA z.natAbs=gA u ++ bs.drop a:=by
    rcases hinv with ⟨h3,h4,_⟩ | ⟨_,h3⟩
    ·omega
    ·exact h3
   have hp:0 < a:=by
    have e1:=congrArg List.length hd;have e2:=D6 u;have e3:=digs_20 (n:=z.natAbs) (by omega);simp only [List.length_append,List.length_drop,hbl] at e1;omega
   have OM:IntKind.i64.wrap ((a:Int) - 1)=((a - 1:Nat):Int):=by rw [wr _ (by omega) (by omega)];omega
   have hb:IntKind.u8.wrap (48 + IntKind.u8.wrap ((u:Int).tmod 10))=((UInt8.ofNat (48 + u % 10)).toNat:Int):=by
    rw [Int.tmod_eq_emod_of_nonneg (by omega),UInt8.toNat_ofNat',IntKind.wrap_u8',IntKind.wrap_u8'];omega
   have hq:IntKind.u64.wrap ((u:Int).tdiv 10)=((u / 10:Nat):Int):=by
    rw [Int.tdiv_eq_ediv_of_nonneg (by omega),IntKind.wrap_u64];omega
   refine ⟨⟨rfl,by decide⟩,?_⟩;refine ⟨⟨by rw [OM];omega,by rw [OM];omega⟩,?_⟩;have nU:0 + (IntKind.i64.wrap ((a:Int) - 1)).toNat * 1=a - 1:=by rw [OM];omega
   refine ⟨by rw [nU,tv,hbl];omega,?_⟩;refine ⟨⟨rfl,by decide⟩,?_⟩
   have bE:(u8L bs).set (0 + (IntKind.i64.wrap ((a:Int) - 1)).toNat * 1) (DV.v (.int .u8 (IntKind.u8.wrap (48 + IntKind.u8.wrap ((u:Int).tmod 10)))))=u8L (bs.take (a - 1) ++ [UInt8.ofNat (48 + u % 10)] ++ bs.drop a):=by
    rw [nU,hb,List.set_eq_take_append_cons_drop,if_pos (by rw [tv,hbl];omega),z8,z8,D5,vD,show a - 1 + 1=a by omega];simp [u8L]
   refine ⟨vE (decide (z < 0)) (u / 10) (a - 1) (bs.take (a - 1) ++ [UInt8.ofNat (48 + u % 10)] ++ bs.drop a),(aH 1 rfl (by repeat' (first | exact rfl | exact ai rfl | exact mO bE | exact aj OM | exact aj hq | refine ⟨_,_,rfl,?_,?_⟩)) rfl rfl rfl (by repeat' (first | exact trivial | exact ai rfl | exact mO bE | exact aj OM | exact aj hq | refine ⟨⟨_,rfl,?_⟩,?_⟩))),a - 1,by omega,u / 10,a - 1,_,rfl,by simp;omega,by omega,by omega,?_,rfl⟩
   have ON:(bs.take (a - 1) ++ [UInt8.ofNat (48 + u % 10)] ++ bs.drop a).drop (a - 1)=UInt8.ofNat (48 + u % 10) :: bs.drop a:=by
    rw [List.append_assoc,List.drop_append_of_le_length (by simp;omega),List.drop_eq_nil_of_le (by simp;omega)];rfl
   rw [ON,hd];by_cases ly:u < 10
   ·refine .inl ⟨by omega,by omega,?_⟩;rw [iC ly,Nat.mod_eq_of_lt ly];all_goals rfl
   ·refine .inr ⟨.inr (by omega),?_⟩;rw [lK ly,List.append_assoc];all_goals rfl
  ·have hc:a≠20/\u=0:=by
    simp [ak] at h;omega
   have hd:gA z.natAbs=bs.drop a:=by
    rcases hinv with ⟨_,_,h3⟩ | ⟨h3,_⟩
    ·exact h3
    ·omega
   have Uh:((u8L bs).drop (0 + (a:Int).toNat * 1)).take (((20:Nat):Int).toNat - (a:Int).toNat)=u8L (bs.drop a):=by
    rw [vD,show 0 + (a:Int).toNat * 1=a by omega];exact List.take_of_length_le (by simp [tv,hbl])
   have hl:(bs.drop a).length=((20:Nat):Int).toNat - (a:Int).toNat:=by simp [hbl]
   refine br (fun hz=>?_) (fun hz=>?_)
   ·have hz:z < 0:=by simpa using hz
    refine ⟨⟨by omega,by omega,by omega⟩,?_⟩;refine ⟨bs.drop a,Uh,hl,?_⟩;refine ⟨by show 1 + (bs.drop a).length<=_;rw [hl];omega,?_⟩;refine (congrArg (fun s=>DV.v (.string s)) ?_:_=_);rw [<- hd,nZ,lM hz];exact cN [45] _
   ·have hz:¬ z < 0:=by simpa using hz
    refine ⟨⟨by omega,by omega,by omega⟩,?_⟩;refine ⟨bs.drop a,Uh,hl,?_⟩;refine (congrArg (fun s=>DV.v (.string s)) ?_:_=_);rw [<- hd,nZ,iD (by omega),show z.toNat=z.natAbs by omega]
abbrev ba (l:List UInt8):ByteArray:=⟨l.toArray⟩
def tx (s:ByteArray):List UInt8:=s.data.toList
theorem pF {s:ByteArray} {l:List UInt8} (h:tx s=l):s=ba l:=by
 subst h;apply ByteArray.ext;simp [tx]
theorem KW (s t:ByteArray):tx (s ++ t)=tx s ++ tx t:=by simp [tx]
theorem rS (l:List UInt8):tx (ba l)=l:=by simp [tx]
theorem Ab (s:ByteArray):ba (tx s)=s:=(pF rfl).symm
theorem bc (s:ByteArray):(tx s).length=s.size:=by simp [tx]
theorem fM (s t:ByteArray):(s ++ t).size=s.size + t.size:=by simp
theorem Ac (l:List UInt8):(ba l).size=l.length:=rfl
def qS (z:Int):Prop:=-9223372036854775808<=z/\z<=9223372036854775807
theorem tw {n m:Nat} {bi:List TkE} {x y:ByteArray} (h:x=y):We n m bi (.v (.string x)) (.v (.string y)):=.inl ⟨by rw [h],rfl⟩
end Go.Proofs.YtfifjddnnmfeoaaGreat
set_option maxRecDepth 100000
namespace Go.Proofs.YtfifjddnnmfeoaaGreat
open Go Go.RowKit Dv Tryz
end Go.Proofs.YtfifjddnnmfeoaaGreat
set_option maxRecDepth 100000
namespace Go.Proofs.YtfifjddnnmfeoaaGreat
open Go Go.RowKit Dv Tryz
end Go.Proofs.YtfifjddnnmfeoaaGreat
set_option maxRecDepth 100000
namespace Go.Proofs
open Go.Shelf
end Go.Proofs
namespace Go.Proofs.YtfifjddnnmfeoaaGreat
open Go Go.RowKit Dv Tryz
theorem Bv {P:Program} {f:FuncId} {args:List DV} {d:DV}
  (h:∀ (E:En) (w:World) (vs:List Value),Env E [] w->RvL E args vs->Calls P f vs.toArray w fun e w'=>∃ v,e = .returned v/\Rv E d v/\Below w.heap.size w w'):EvP P f args d:=by
 intro E w vs hE ib hv;refine (h E w vs hE hv).mono ?_;rintro e w' ⟨v,rfl,hr,hb⟩;exact ⟨v,rfl,⟨hb.os,hb.tape,hb.output,hb.size,fun k hk _=>hb.block k hk⟩,fun hf=>(by cases hf),d,[],E,hE.gw hb.block,rfl,rfl,Nw.refl hE,hr,rfl⟩
def iT (l:List (List UInt8)):List (List DV):=l.map fun x=>[.v (.string (ba x))]
theorem Bw (l:List (List UInt8)):(iT l).length=l.length:=by simp [iT]
end Go.Proofs.YtfifjddnnmfeoaaGreat
set_option maxRecDepth 100000
namespace Go.Proofs.YtfifjddnnmfeoaaGreat
open Go Go.RowKit Dv Tryz
end Go.Proofs.YtfifjddnnmfeoaaGreat
set_option maxRecDepth 100000
namespace Go.Proofs.YtfifjddnnmfeoaaGreat
open Go Go.RowKit Dv Tryz
end Go.Proofs.YtfifjddnnmfeoaaGreat
set_option maxRecDepth 100000
namespace Go.Proofs.YtfifjddnnmfeoaaGreat
open Go Go.RowKit Dv Tryz
end Go.Proofs.YtfifjddnnmfeoaaGreat
set_option maxRecDepth 100000
namespace Go.Proofs.YtfifjddnnmfeoaaGreat
open Go Go.RowKit Dv Tryz
mutual
def rngT:Ty->Prop
 | .mk h ps=>qS h.lo/\qS h.hi/\qS h.most/\rngP ps
def rngP:Pts->Prop
 | .nil=>True
 | .cons p t r=>qS p.wide/\qS p.cn/\rngT t/\rngP r
end
end Go.Proofs.YtfifjddnnmfeoaaGreat
namespace Go.Proofs.YtfifjddnnmfeoaaGreat
namespace Dv
open Go Go.RowKit
def TypFs (f:TypeId->List DV->Prop):List TypeId->List DV->Prop
 | [],ds=>ds=[]
 | t :: r,ds=>∃ a b,ds=a ++ b/\f t a/\TypFs f r b
def Typ (P:Program):Nat->TypeId->List DV->Prop
 | 0,_,_=>False
 | n + 1,t,ds=>
  match P.underlying t with
  | some .bool=>∃ b,ds=[.v (.bool b)]
  | some (.int k)=>∃ z,ds=[.v (.int k z)]/\(Lit.int k z).wf=true
  | some .string=>∃ s:ByteArray,ds=[.v (.string s)]
  | some (.slice e)=>∃ es,ds=[.sl (P.cellsOf e) es none]/\∀ cs∈es,Typ P n e cs
  | some (.struct fs)=>TypFs (Typ P n) (fs.toList.map (·.type)) ds
  | _=>False
mutual
def wgD:DV->Nat
 | .v (.string s)=>s.size + 64
 | .sl _ es _=>64 + wgEs es
 | _=>64
def wgL:List DV->Nat
 | []=>0
 | d :: r=>wgD d + wgL r
def wgEs:List (List DV)->Nat
 | []=>0
 | cs :: r=>wgL cs + wgEs r
end
theorem kM:∀ a b:List DV,wgL (a ++ b)=wgL a + wgL b
 | [],b=>by simp [wgL]
 | d :: r,b=>by simp only [List.cons_append,wgL,kM r b];omega
def laidF (P:Program) (S:List TypeId):Nat->List Field->Nat->Bool
 | off,[],n=>decide (off=n)
 | off,f :: r,n=>decide (f.offset=off) && S.contains f.type && laidF P S (off + P.cellsOf f.type) r n
def pG (P:Program) (S:List TypeId) (t:TypeId):Bool:=
 match P.underlying t with
 | some .bool=>decide (P.cellsOf t=1)
 | some (.int _)=>decide (P.cellsOf t=1)
 | some .string=>decide (P.cellsOf t=1)
 | some (.slice e)=>decide (P.cellsOf t=1) && S.contains e && decide (0 < P.cellsOf e)
 | some (.struct fs)=>laidF P S 0 fs.toList (P.cellsOf t)
 | _=>false
def bkS {H:Type} (bk:DataW H->Nat):List (DataW H)->Nat
 | []=>0
 | d :: r=>bk d + bkS bk r
structure Bk {H:Type} (bk:DataW H->Nat):Prop where
 str:∀ l:List UInt8,l.length + 1<=bk (.lit (.string l))
 lit:∀ l,1<=bk (.lit l)
 nil:1<=bk .nil
 slice:∀ es sp,1 + bkS bk es<=bk (.slice es sp)
 agg:∀ l,bkS bk l<=bk (.agg l)
def ye (w:World):En:=⟨fun a=>w.cell? a,[],[],[]⟩
theorem Hs (w:World):Env (ye w) [] w where
 len:=rfl
 tl:=rfl
 cL:=by simp
 inj:=List.nodup_nil
 sub:=fun x u hx=>hx
 pc:=by simp [ye]
 bQ:=by simp [ye]
 gf:=by simp [ye]
theorem Bz {w:World} {a:Addr} {k:Nat} {v:Value} (h:w.cell? (a.add k)=some v):w.cell? ⟨a.block,a.off + k,none⟩=some v:=by
 unfold Addr.add at h;split at h
 ·rename_i hk;subst hk;unfold World.cell? at h ⊢;split at h
  ·rename_i c e z he;split at h
   ·cases h
   ·simpa [he] using h
  ·cases h
 ·exact h
theorem BA {w:World} {a:Addr} {v:Value} (h:w.cell? a=some v):a.spot=none:=by
 unfold World.cell? at h;split at h
 ·split at h
  ·cases h
  ·rename_i hs;simpa using hs
 ·cases h
theorem pH {E:En} {b:Nat}:∀ {p:Nat} {ds:List DV} {vs:List Value},RvL E.cl ds vs->(∀ (j:Nat) v,vs[j]? = some v->E.c ⟨b,p + j,none⟩=some v/\v.oneCell'=true)->RvAt E.cl b p ds
 | p,[],vs,h,hc=>by simp only [RvAt]
 | p,d :: r,vs,h,hc=>by
  simp only [RvL] at h;obtain ⟨v,s,rfl,h1,h2⟩:=h;simp only [RvAt];obtain ⟨c1,c2⟩:=hc 0 v rfl;refine ⟨⟨v,c1,c2,h1⟩,pH (p:=p + 1) h2 fun j u hj=>?_⟩;have:=hc (j + 1) u hj;rw [show p + 1 + j=p + (j + 1) by omega];exact this
section
variable {H:Type} {enc:TypeId × Value->H} {P:Program} {w:World} {sp:Nat->Bool} {held:Bool} {S:List TypeId} {bk:DataW H->Nat}
def Rd (enc:TypeId × Value->H) (P:Program) (w:World) (bk:DataW H->Nat) (n:Nat) (t:TypeId) (cs:List Value) (d:DataW H):Prop:=
 ∃ ds,RvL (ye w) ds cs/\(∀ v∈cs,v.oneCell'=true)/\Typ P n t ds/\wgL ds<=64 * bk d/\cs.length=P.cellsOf t
theorem rT {n:Nat} (ih:∀ t cs x,t∈S->DataW.trod enc P w 0 sp held n t cs=some x->Rd enc P w bk n t cs x.1) (cs:List Value) :
  ∀ (fs:List Field) (off:Nat) (xs:List (DataW H × List MemPlace)),laidF P S off fs cs.length=true->xs.length=fs.length ->
   (∀ (i:Nat) f,fs[i]? = some f->DataW.trod enc P w 0 sp held n f.type ((cs.drop f.offset).take (P.cellsOf f.type))=xs[i]?) ->
   ∃ ds,RvL (ye w) ds (cs.drop off)/\(∀ v∈cs.drop off,v.oneCell'=true)/\TypFs (Typ P n) (fs.map (·.type)) ds/\wgL ds<=64 * bkS bk (xs.map (·.1))
 | [],off,xs,hl,ru,hx=>by
  simp only [laidF,decide_eq_true_eq] at hl;subst hl;simp only [List.length_nil,List.length_eq_zero_iff] at ru;subst ru;exact ⟨[],by simpa using bn _,by simp,by simp [TypFs],by simp [wgL]⟩
 | f :: r,off,xs,hl,ru,hx=>by
  simp only [laidF,Bool.and_eq_true,decide_eq_true_eq] at hl;obtain ⟨⟨R6,hS⟩,hl⟩:=hl
  match xs,ru with
  | x :: xs,ru=>
   have h0:=hx 0 f rfl;rw [R6] at h0;simp only [List.getElem?_cons_zero] at h0;obtain ⟨ds0,r1,r2,r3,r4,r5⟩:=ih f.type _ x (by simpa using hS) h0;obtain ⟨Ui,s1,s2,s3,s4⟩:=rT ih cs r (off + P.cellsOf f.type) xs hl (by simpa using ru) (fun i g hg=>by simpa using hx (i + 1) g (by simpa using hg))
   have D8:cs.drop off=(cs.drop off).take (P.cellsOf f.type) ++ cs.drop (off + P.cellsOf f.type):=by
    rw [<- List.drop_drop,List.take_append_drop]
   refine ⟨ds0 ++ Ui,?_,?_,?_,?_⟩
   ·rw [D8];exact RvL.append r1 s1
   ·rw [D8];intro v hv;rcases List.mem_append.1 hv with hv | hv
    ·exact r2 v hv
    ·exact s2 v hv
   ·simp only [List.map_cons,TypFs];exact ⟨ds0,Ui,rfl,r3,s3⟩
   ·rw [kM];simp only [List.map_cons,bkS];omega
theorem vF {n e:Nat} (ih:∀ t cs x,t∈S->DataW.trod enc P w 0 sp held n t cs=some x->Rd enc P w bk n t cs x.1) (he:e∈S) (a:Addr) :
  ∀ (xs:List (DataW H × List MemPlace)) (i0:Nat),(∀ i,i < xs.length->(w.cells? 0 (a.add ((i0 + i) * P.cellsOf e)) (P.cellsOf e)).bind (DataW.trod enc P w 0 sp held n e)=xs[i]?) ->
   ∃ es,es.length=xs.length/\RvEs (ye w) (P.cellsOf e) a.block (a.off + i0 * P.cellsOf e) es/\(∀ cs∈es,Typ P n e cs)/\wgEs es<=64 * bkS bk (xs.map (·.1))
 | [],i0,hx=>⟨[],rfl,by simp only [RvEs],by simp,by simp [wgEs]⟩
 | x :: xs,i0,hx=>by
  have h0:=hx 0 (by simp);simp only [Nat.add_zero,List.getElem?_cons_zero] at h0;obtain ⟨cs,bE,ht⟩:=Option.bind_eq_some_iff.1 h0;obtain ⟨_,hlen,ji⟩:=World.cells?_some bE;obtain ⟨ds0,r1,r2,r3,r4,r5⟩:=ih e cs x he ht
  obtain ⟨es,s1,s2,s3,s4⟩:=vF ih he a xs (i0 + 1) (fun i hi=>by
   have:=hx (i + 1) (by simpa using hi);simp only [List.getElem?_cons_succ] at this;rw [show i0 + 1 + i=i0 + (i + 1) by omega]
   exact this)
  refine ⟨ds0 :: es,by simp [s1],?_,?_,?_⟩
  ·simp only [RvEs];refine ⟨by rw [<- r1.length,hlen],pH (E:=ye w) r1 fun j v hj=>⟨?_,r2 v (mG hj)⟩,?_⟩
   ·have qN:j < P.cellsOf e:=by rw [<- hlen];exact (gS hj).1
    have h1:=ji j qN;rw [hj,Deep.add_add] at h1;have h2:=Bz h1;show w.cell? _=_;rw [Nat.add_assoc];exact h2
   ·rw [Nat.add_assoc,show i0 * P.cellsOf e + P.cellsOf e=(i0 + 1) * P.cellsOf e by rw [Nat.add_mul,Nat.one_mul]];exact s2
  ·intro cs' hc;rcases List.mem_cons.1 hc with hc | hc
   ·subst hc;exact r3
   ·exact s3 cs' hc
  ·simp only [wgEs,List.map_cons,bkS];omega
theorem tz (lO:Bk bk) (hS:∀ t∈S,pG P S t=true):∀ (n:Nat) (t:TypeId) (cs:List Value) (x:DataW H × List MemPlace),t∈S->DataW.trod enc P w 0 sp held n t cs=some x->Rd enc P w bk n t cs x.1
 | 0,t,cs,x,_,h=>by simp [DataW.trod] at h
 | n + 1,t,cs,x,ht,h=>by
  have hf:=hS t ht;unfold pG at hf;unfold Rd
  cases hu:P.underlying t with
  | none=>rw [hu] at hf;cases hf
  | some D=>
   rw [hu] at hf
   cases D with
   | bool=>
    simp only [decide_eq_true_eq] at hf;obtain ⟨b,rfl,rfl⟩:=DataW.trod_bool hu h;have:=lO.lit (.bool b);exact ⟨[.v (.bool b)],rvL_one (by unfold Rv;exact ⟨rfl,rfl⟩),by simp [Value.oneCell'],by simp only [Typ,hu];exact ⟨b,rfl⟩,by simp only [wgL,wgD];omega,by simp [hf]⟩
   | int k=>
    simp only [decide_eq_true_eq] at hf;obtain ⟨z,rfl,rfl,hw⟩:=DataW.trod_int hu h;have:=lO.lit (.int k z);exact ⟨[.v (.int k z)],rvL_one (by unfold Rv;exact ⟨rfl,rfl⟩),by simp [Value.oneCell'],by simp only [Typ,hu];exact ⟨z,rfl,hw⟩,by simp only [wgL,wgD];omega,by simp [hf]⟩
   | string=>
    simp only [decide_eq_true_eq] at hf;obtain ⟨s,rfl,rfl,hw⟩:=DataW.trod_string hu h;have:=lO.str s.data.toList;have bI:s.data.toList.length=s.size:=by rw [Array.length_toList];all_goals rfl
    exact ⟨[.v (.string s)],rvL_one (by unfold Rv;exact ⟨rfl,rfl⟩),by simp [Value.oneCell'],by simp only [Typ,hu];exact ⟨s,rfl⟩,by simp only [wgL,wgD];omega,by simp [hf]⟩
   | slice e=>
    simp only [Bool.and_eq_true,decide_eq_true_eq] at hf;obtain ⟨⟨Ht,xC⟩,hf3⟩:=hf;rcases DataW.trod_slice hu h with ⟨rfl,rfl⟩ | ⟨a,len,cap,elems,rest,m,hm,rfl,rfl,_,L5,_,rr,hx,_,_⟩
    ·have:=lO.nil;refine ⟨[.sl (P.cellsOf e) [] none],rvL_one ?_,by simp [Value.oneCell'],by simp only [Typ,hu];exact ⟨[],rfl,by simp⟩,by simp only [wgL,wgD,wgEs];omega,by simp [Ht]⟩;unfold Rv;exact ⟨none,0,0,rfl,⟨rfl,Nat.le_refl _⟩,fun hc=>absurd rfl hc,fun k hk=>by cases hk⟩
    ·simp only [Nat.add_right_cancel_iff] at hm;subst hm;obtain ⟨es,s1,s2,s3,s4⟩:=vF (fun t cs x=>tz lO hS n t cs x) (by simpa using xC) a elems 0 (fun i hi=>by simpa using hx i (by omega));have hb:=lO.slice (elems.map (·.1)) (rest.map (·.1));refine ⟨[.sl (P.cellsOf e) es none],rvL_one ?_,by simp [Value.oneCell'],by simp only [Typ,hu];exact ⟨es,rfl,s3⟩,by simp only [wgL,wgD];omega,by simp [Ht]⟩;unfold Rv;refine ⟨some a,len,cap,rfl,⟨by omega,L5⟩,fun aM=>⟨?_,?_⟩,fun k hk=>by cases hk⟩
     ·have ke:0 < len:=by
       rw [<- rr,<- s1];exact List.length_pos_iff.2 aM
      have h0:=hx 0 ke;rw [gE (by omega)] at h0;obtain ⟨cs,bE,_⟩:=Option.bind_eq_some_iff.1 h0;obtain ⟨_,hlen,ji⟩:=World.cells?_some bE;have h1:=ji 0 hf3;rw [gE (by omega),Deep.add_add] at h1;simp only [Nat.zero_mul,Nat.add_zero] at h1;exact BA (a:=a) h1
     ·have s2':RvEs (ye w) (P.cellsOf e) a.block a.off es:=by simpa using s2
      exact s2'
   | struct fs=>
    obtain ⟨xs,m,hm,rfl,hlen,ru,hx⟩:=DataW.trod_struct hu h;simp only [Nat.add_right_cancel_iff] at hm;subst hm;simp only at hf;obtain ⟨ds,s1,s2,s3,s4⟩:=rT (fun t cs x=>tz lO hS n t cs x) cs fs.toList 0 xs (by rw [hlen];exact hf) (by simpa using ru) (fun i f hi=>hx i f (by simpa using hi));have hb:=lO.agg (xs.map (·.1));refine ⟨ds,by simpa using s1,by simpa using s2,by simp only [Typ,hu];exact s3,by simp only;omega,hlen⟩
   | _=>cases hf
end
theorem Hu {P:Program} {n:Nat} {t:TypeId} {k:IntKind} {ds:List DV} (hu:P.underlying t=some (.int k)) (h:Typ P n t ds):∃ z,ds=[.v (.int k z)]/\(Lit.int k z).wf=true:=by
 cases n with
 | zero=>exact h.elim
 | succ n=>simp only [Typ,hu] at h;exact h
theorem Hv {P:Program} {n:Nat} {t:TypeId} {ds:List DV} (hu:P.underlying t=some .string) (h:Typ P n t ds):∃ s:ByteArray,ds=[.v (.string s)]:=by
 cases n with
 | zero=>exact h.elim
 | succ n=>simp only [Typ,hu] at h;exact h
theorem KX {P:Program} {n:Nat} {t e:TypeId} {ds:List DV} (hu:P.underlying t=some (.slice e)) (h:Typ P n t ds):∃ m es,n=m + 1/\ds=[.sl (P.cellsOf e) es none]/\∀ cs∈es,Typ P m e cs:=by
 cases n with
 | zero=>exact h.elim
 | succ n=>
  simp only [Typ,hu] at h;obtain ⟨es,h1,h2⟩:=h;exact ⟨n,es,rfl,h1,h2⟩
theorem KY {P:Program} {n:Nat} {t:TypeId} {fs:Array Field} {ds:List DV} (hu:P.underlying t=some (.struct fs)) (h:Typ P n t ds):∃ m,n=m + 1/\TypFs (Typ P m) (fs.toList.map (·.type)) ds:=by
 cases n with
 | zero=>exact h.elim
 | succ n=>
  simp only [Typ,hu] at h;exact ⟨n,rfl,h⟩
theorem wf_i64 {z:Int} (h:(Lit.int .i64 z).wf=true) : -9223372036854775808<=z/\z<=9223372036854775807:=by
 simpa [Lit.wf,IntKind.min,IntKind.max,IntKind.signed,IntKind.bits] using h
end Dv
end Go.Proofs.YtfifjddnnmfeoaaGreat
set_option maxRecDepth 100000
namespace Go.Proofs.YtfifjddnnmfeoaaGreat
open Go Go.RowKit Dv Tryz
theorem Jq {n:Nat} {ds:List DV} (h:Typ Tryz.prog n 3 ds):∃ z,ds=[.v (.int .i64 z)]/\qS z:=by
 obtain ⟨z,rfl,hw⟩:=Hu Tryz.underlying3 h;exact ⟨z,rfl,wf_i64 hw⟩
end Go.Proofs.YtfifjddnnmfeoaaGreat
namespace Go.Proofs.YtfifjddnnmfeoaaGreat
namespace Dv
open Go Go.RowKit Go.ChangeShapes Go.WideShapes Go.ChangeAt
open Go.ChangeMaps (open_string shut_string)
section
variable {H:Type} {enc:TypeId × Value->H} {P:Program}
theorem kp (hl:laidOutB P=true) {W W':World} (hb:Below W.heap.size W W'):∀ {ts:List TypeId} {vs:List Value} {ds:List (DataW H)} {ps:List MemPlace},(∀ t∈ts,P.readableRec t=true/\t < P.types.size) ->
  DataW.TrodAll enc P W 0 (fun _=>true) true ts vs ds ps->(∀ x∈ps,x.block < W.heap.size)->DataW.TrodAll enc P W' 0 (fun b=>decide (b < W.heap.size)) true ts vs ds ps
 | [],[],[],_,_,h,_=>h
 | t :: ts,v :: vs,d :: ds,_,ht,⟨p,q,h1,h2,e⟩,aq=>by
  subst e;obtain ⟨r1,r2⟩:=ht t (by simp);exact ⟨p,q,Below.trod hl r1 r2 h1 hb (fun x hx=>aq x (List.mem_append_left _ hx)),kp hl hb (fun t oo=>ht t (by simp [oo])) h2 (fun x hx=>aq x (List.mem_append_right _ hx)),rfl⟩
theorem law_post {f:Func} {s:ChangeSpec} {tb:TypeId} (hl:laidOutB P=true) (Dd:f.resultTypes = #[tb]) (htb:P.underlying tb=some .bool) (hv:s.vars=[]) (hts:∀ t∈f.params.toList,P.readableRec t=true/\t < P.types.size)
  {W W':World} {args:Array Value} {ds gs:List (DataW H)} {before:List MemPlace} (hW:DataW.Whole enc P f.params.toList s.vars false W args.toList ds gs before) (xE:s.fn H ds={ results:=[.lit (.bool true)],args:=ds }) (hb:Below W.heap.size W W') :
  s.post enc P f false true false false W args (.bool true) W':=by
 have hW':=hW;obtain ⟨p,q,hA,hV,rfl,hfz,hnd⟩:=hW;rw [hv] at hV;obtain ⟨rfl,rfl⟩:=trodVars_none hV;refine ⟨ds,[],p ++ [],[],p,[],hW',?_,?_,?_,hb.frame _,fun h=>by cases h⟩
 ·rw [List.append_nil,xE,Dd];exact trodAll_cons_mk (shut_bool htb _) trodAll_mk0
 ·rw [List.append_nil,xE];exact kp hl hb hts hA (fun x hx=>hW'.lt x (List.mem_append_left _ hx))
 ·rw [List.append_nil,xE,hv];rfl
theorem yf {w w':World} {Φ:DV->List (List DV)->List TkE->Prop} {v:Value} (h:uO false (ye w) w Φ v w'):Below w.heap.size w w':=by
 obtain ⟨hm,_⟩:=h;refine ⟨hm.os,hm.tape,hm.output,hm.size,fun k hk=>hm.block k hk ?_⟩;rintro (h1 | ⟨y,h1,_⟩)
 ·simp [ye] at h1
 ·simp [ye] at h1
theorem calls_law {f:FuncId} {args:List DV} {vs:List Value} {w:World} (h:EvP P f args (.v (.bool true))) (hv:RvL (ye w) args vs) :
  Calls P f vs.toArray w fun e w'=>e = .returned (.bool true)/\Below w.heap.size w w':=by
 refine (h (ye w) w vs (Hs w) rfl hv).mono ?_;rintro e w' ⟨v,rfl,he⟩;have hb:=yf he;obtain ⟨_,_,d,os,E,_,_,_,_,hr,rfl⟩:=he;unfold Rv at hr;rw [hr.1];exact ⟨rfl,hb⟩
variable {W:World} {base:Nat} {S:List TypeId} {bk:DataW H->Nat}
theorem arg_st (lO:Bk bk) (hS:∀ t∈S,pG P S t=true) {t:TypeId} {fs:Array Field} {v:Value} {d:DataW H} {ps:List MemPlace} (ht:t∈S) (hu:P.underlying t=some (.struct fs))
  (hval:Value.okWide P W .any base t v) (h:DataW.Trod enc P W 0 (fun _=>true) true t v d ps):∃ n ds,Rv (ye W) (.agg ds) v/\Typ P n t ds/\wgL ds<=64 * bk d:=by
 unfold Value.okWide at hval;rw [hu] at hval;obtain ⟨cs,rfl,_,_⟩:=hval;obtain ⟨n,hn⟩:=h;obtain ⟨ds,h1,h2,h3,h4,_⟩:=tz lO hS n t _ _ ht hn;refine ⟨n,ds,?_,h3,h4⟩;unfold Rv;exact ⟨cs.toList,by simp,h1,h2⟩
end
end Dv
end Go.Proofs.YtfifjddnnmfeoaaGreat
namespace Go.Proofs.YtfifjddnnmfeoaaGreat
open Go Go.RowKit Dv
theorem yg {H:Type}:∀ l:List (DataW H),bkS Rows.uptoBulk l=Rows.uptoBulkAll l
 | []=>by simp [bkS,Rows.uptoBulkAll]
 | d :: r=>by simp only [bkS,Rows.uptoBulkAll,yg r]
theorem bk_ok {H:Type}:Bk (Rows.uptoBulk (H:=H)) where
 str:=fun l=>by simp [Rows.uptoBulk]
 lit:=fun l=>by cases l<;>simp [Rows.uptoBulk]
 nil:=by simp [Rows.uptoBulk]
 slice:=fun es sp=>by simp only [Rows.uptoBulk,yg];omega
 agg:=fun l=>by simp only [Rows.uptoBulk,yg];omega
theorem bulk_le {H:Type} {l:List (DataW H)} (hk:Rows.uptoSmall H l=true):Rows.uptoBulkAll l<=1048576:=of_decide_eq_true hk
theorem laid_out:laidOutB Tryz.prog=true:=by kernel_rfl
theorem own_knob:ownKnob Tryz.prog.godebug=none:=by kernel_rfl
end Go.Proofs.YtfifjddnnmfeoaaGreat
set_option maxRecDepth 100000
namespace Go.Proofs.YtfifjddnnmfeoaaGreat
open Go Go.RowKit Dv Tryz
def Pts.take:Nat->Pts->Pts
 | 0,_=>.nil
 | _ + 1,.nil=>.nil
 | e + 1,.cons p t r=>.cons p t (r.take e)
structure Sch where
 af:List Wd
 order:List (Wd × Wd)
 types:List (Wd × Ty)
 root:Ty
def Qq (p:Wd × Wd):List DV:=[.v (.string p.1.s),.v (.int .i64 p.1.a),.v (.string p.2.s),.v (.int .i64 p.2.a)]
def pI (l:List (Wd × Wd)):List (List DV):=l.map Qq
def Uj (x:Wd × Ty):List DV:=.v (.string x.1.s) :: .v (.int .i64 x.1.a) :: gn x.2
def dNms (l:List (Wd × Ty)):List (List DV):=l.map Uj
def OO (s:Sch):List DV:=.sl 2 (bY s.af) none :: .sl 4 (pI s.order) none :: .sl 11 (dNms s.types) none :: gn s.root
def prsWt:List (Wd × Wd)->Nat
 | []=>0
 | p :: r=>p.1.wt + p.2.wt + prsWt r
def nmsWt:List (Wd × Ty)->Nat
 | []=>0
 | p :: r=>p.1.wt + p.2.wt + nmsWt r
def Sch.wt (s:Sch):Nat:=wdsWt s.af + prsWt s.order + nmsWt s.types + s.root.wt
theorem lP (l:List (Wd × Wd)):(pI l).length=l.length:=by simp [pI]
theorem fN (l:List (Wd × Ty)):(dNms l).length=l.length:=by simp [dNms]
theorem vG {l:List (Wd × Wd)} {j:Nat} {p:Wd × Wd} (h:l[j]? = some p):(pI l)[j]? = some (Qq p):=by simp [pI,h]
theorem dNms_get {l:List (Wd × Ty)} {j:Nat} {p:Wd × Ty} (h:l[j]? = some p):(dNms l)[j]? = some (Uj p):=by simp [dNms,h]
theorem mP:∀ l:List (Wd × Wd),128 * l.length<=prsWt l
 | []=>Nat.le_refl _
 | p :: r=>by have:=mP r;simp only [List.length_cons,prsWt,Wd.wt];omega
theorem mQ:∀ l:List (Wd × Ty),256 * l.length<=nmsWt l
 | []=>Nat.le_refl _
 | p :: r=>by have:=mQ r;have:=p.2.eX;simp only [List.length_cons,nmsWt,Wd.wt];omega
theorem gO:∀ {l:List (Wd × Ty)} {p:Wd × Ty},p∈l->p.1.wt + p.2.wt<=nmsWt l
 | x :: r,p,h=>by
  rcases List.mem_cons.1 h with h | h
  ·subst h;simp only [nmsWt];omega
  ·have:=gO h;simp only [nmsWt];omega
def OP (s:Sch):Prop:=(∀ x∈s.types,rngT x.2)/\rngT s.root
end Go.Proofs.YtfifjddnnmfeoaaGreat
namespace Go.Proofs.YtfifjddnnmfeoaaGreat
open Go Go.RowKit Dv
end Go.Proofs.YtfifjddnnmfeoaaGreat
namespace Go.Proofs.YtfifjddnnmfeoaaGreat
open Go Go.RowKit Dv
set_option maxRecDepth 100000
noncomputable abbrev PP:Program:=Tryz.pinned.checked.prog
def Uk:OpenClaim:={ program := "",sum := "",func := "",spec := "" }
theorem and_ok {a b:Bool} (ha:a=true) (hb:b=true):(a && b)=true:=by rw [ha,hb];all_goals rfl
theorem g_laid:laidOutB PP=true:=laid_out
theorem g_maps:mapsRowed PP=true:=by kernel_rfl
theorem g_stops:(PP.stops == [])=true:=by kernel_rfl
theorem g_knobs:(PP.stopKnobs == [])=true:=by kernel_rfl
theorem g_heard:PP.stopsHeard=true:=by kernel_rfl
theorem g_enter:PP.mayEnter=true:=by kernel_rfl
theorem g_lifts:(Uk.lifted == PP.liftsFinal)=true:=by kernel_rfl
theorem g_keys:(false == PP.plainKeys)=true:=by kernel_rfl
theorem g_make:(PP.make == some Uk.make)=true:=by kernel_rfl
end Go.Proofs.YtfifjddnnmfeoaaGreat
set_option maxRecDepth 100000
namespace Go.Proofs.YtfifjddnnmfeoaaGreat
open Go Go.RowKit Dv Tryz
theorem vH (x b:Nat):(x:Int).fdiv (2 ^ b)=((x / 2 ^ b:Nat):Int):=by
 rw [Int.fdiv_eq_ediv_of_nonneg _ (by exact Int.le_of_lt (Int.pow_pos (by decide)))];simp
theorem er (m:Nat):BitVec.ofInt 64 (m:Int)=BitVec.ofNat 64 m:=by simp
theorem Ad {x b:Nat} (hb:b < 64) (hx:x < 18446744073709551616) :
  decide (IntKind.u64.wrap ((BitVec.ofInt 64 ((x:Int).fdiv (2 ^ (min b 64))) &&& BitVec.ofInt 64 1).toNat:Int)=1)=x.testBit b:=by
 rw [Nat.min_eq_left (by omega),vH,er,show (BitVec.ofInt 64 1)=BitVec.ofNat 64 1 by decide,BitVec.toNat_and,BitVec.toNat_ofNat,BitVec.toNat_ofNat,Nat.testBit_eq_decide_div_mod_eq];have h1:x / 2 ^ b < 18446744073709551616:=Nat.lt_of_le_of_lt (Nat.div_le_self _ _) hx;rw [Nat.mod_eq_of_lt h1,show (1 % 2 ^ 64:Nat)=1 by decide,Nat.and_one_is_mod];simp only [IntKind.wrap_u64];congr 1;apply propext;omega
theorem yh {x b:Nat} (hb:b < 64) (hx:x < 18446744073709551616) :
  IntKind.u64.wrap ((BitVec.ofInt 64 (x:Int) ||| BitVec.ofInt 64 (IntKind.u64.wrap (1 * 2 ^ (min b 64)))).toNat:Int)=((x ||| 2 ^ b:Nat):Int):=by
 have h2:2 ^ b < 18446744073709551616:=by
  have:2 ^ b<=2 ^ 63:=Nat.pow_le_pow_right (by decide) (by omega);omega
 have e1:IntKind.u64.wrap (1 * 2 ^ (min b 64))=((2 ^ b:Nat):Int):=by
  rw [Nat.min_eq_left (by omega),Int.one_mul];have:((2:Int) ^ b)=((2 ^ b:Nat):Int):=by simp
  rw [this];generalize 2 ^ b=z at h2;simp only [IntKind.wrap_u64];omega
 rw [e1,er,er,BitVec.toNat_or,BitVec.toNat_ofNat,BitVec.toNat_ofNat,Nat.mod_eq_of_lt hx,Nat.mod_eq_of_lt h2];have h3:x ||| 2 ^ b < 18446744073709551616:=Nat.or_lt_two_pow (n:=64) hx h2
 simp only [IntKind.wrap_u64];omega
theorem Hw {x y:Nat} (hx:x < 18446744073709551616) (hy:y < 18446744073709551616) :
  IntKind.u64.wrap ((BitVec.ofInt 64 (x:Int) ||| BitVec.ofInt 64 (y:Int)).toNat:Int)=((x ||| y:Nat):Int):=by
 rw [er,er,BitVec.toNat_or,BitVec.toNat_ofNat,BitVec.toNat_ofNat,Nat.mod_eq_of_lt hx,Nat.mod_eq_of_lt hy];have h3:x ||| y < 18446744073709551616:=Nat.or_lt_two_pow (n:=64) hx hy
 simp only [IntKind.wrap_u64];omega
theorem dN (x a b:Nat):(x ||| 2 ^ b).testBit a=(x.testBit a || decide (b=a)):=by
 rw [Nat.testBit_or,Nat.testBit_two_pow]
def dU (rows:List Nat):List (List DV):=rows.map fun (x:Nat)=>[DV.v (.int .u64 (x:Int))]
theorem gB (rows:List Nat):(dU rows).length=rows.length:=by simp [dU]
theorem KZ {rows:List Nat} {i:Nat} {x:Nat} (h:rows[i]? = some x):(dU rows)[i]? = some [DV.v (.int .u64 (x:Int))]:=by simp [dU,h]
abbrev iZ (rows:List Nat):DV:=.pt [.sl 1 (dU rows) none] 0
def cA (rows:List Nat):Prop:=rows.length<=64/\∀ x∈rows,x < 18446744073709551616
def aD (rows:List Nat) (a b:Nat):Bool:=(rows.getD a 0).testBit b
def hasB (rows:List Nat) (a b:Int):Bool:=decide (0<=a) && decide (a < rows.length) && decide (0<=b) && decide (b < rows.length) && aD rows a.toNat b.toNat
theorem rU (rows:List Nat):EvP Tryz.prog 163 [iZ rows] (.v (.int .i64 rows.length)):=by
 refine ev_go (P:=Tryz.prog) tt tt_ok 5000 10 [.tmp 2] Tryz.func163 rfl Tryz.ntmps163 rfl (nL rfl) (fun E9 w9 hn9 hm9=>?_);refine (congrArg (fun z=>DV.v (.int .i64 z)) ?_:_=_);rw [gB]
theorem gP (rows:List Nat) (hr:cA rows) (a b:Int):EvP Tryz.prog 156 [iZ rows,.v (.int .i64 a),.v (.int .i64 b)] (.v (.bool (hasB rows a b))):=by
 have hl:=rU rows;refine ev_go (P:=Tryz.prog) tt tt_ok 5000 38 [.tmp 6] Tryz.func156 rfl Tryz.ntmps156 rfl (nL rfl) (fun E9 w9 hn9 hm9=>?_);refine br (fun g1=>?_) (fun g1=>?_)
 ·have g1:0<=a:=by simpa using g1
  refine call_p DD (hl) ax rfl ?_;refine br (fun g2=>?_) (fun g2=>?_)
  ·obtain ⟨g2,g3⟩:a < rows.length/\0<=b:=by
    cases h:decide (a < (rows.length:Int))<;>simp [pickB,h] at g2<;>exact ⟨by simpa using h,g2⟩
   refine call_p DD (hl) ax rfl ?_;refine br (fun g4=>?_) (fun g4=>?_)
   ·have g4:b < rows.length:=by simpa [pickB,g2,g3] using g4
    obtain ⟨x,hx⟩:∃ x,rows[a.toNat]? = some x:=⟨_,gE (by omega)⟩;have Bd:=hr.2 x (mG hx);have hr1:=hr.1;refine ⟨_,⟨g1,KZ hx⟩,?_⟩;refine ⟨g3,?_⟩;refine (congrArg (fun b=>DV.v (.bool b)) ?_:_=_);have De:rows.getD a.toNat 0=x:=getD_some hx
    have e1:hasB rows a b=x.testBit b.toNat:=by
     unfold hasB aD;rw [De];simp [g1,g2,g3,g4]
    rw [e1];exact Ad (x:=x) (b:=b.toNat) (by omega) Bd
   ·have g4:¬ b < rows.length:=by simpa [pickB,g2,g3] using g4
    refine (congrArg (fun b=>DV.v (.bool b)) ?_:_=_);simp [pickB,g2,g3,g4,hasB]
  ·have g5:¬ (a < rows.length/\0<=b):=by
    rintro ⟨h1,h2⟩;simp [pickB,h1,h2] at g2
   refine (congrArg (fun b=>DV.v (.bool b)) ?_:_=_);cases h:decide (a < (rows.length:Int))<;>simp [pickB,h,hasB] at g2 ⊢
   intro _ h0;omega
 ·have g1:¬ 0<=a:=by simpa using g1
  refine (congrArg (fun b=>DV.v (.bool b)) ?_:_=_);simp [g1,hasB]
def backN (rows:List Nat) (a:Nat):Nat->Nat
 | 0=>0
 | e + 1=>if aD rows a e && aD rows e a then backN rows a e ||| 2 ^ e else backN rows a e
theorem pJ (rows:List Nat) (a:Nat):∀ e,backN rows a e < 2 ^ e
 | 0=>by simp [backN]
 | e + 1=>by
  have ih:=pJ rows a e;have h2:2 ^ e < 2 ^ (e + 1):=Nat.pow_lt_pow_right (by decide) (by omega);simp only [backN];split
  ·exact Nat.or_lt_two_pow (by omega) h2
  ·omega
theorem mR (rows:List Nat) (a b:Nat):∀ e,(backN rows a e).testBit b=(decide (b < e) && (aD rows a b && aD rows b a))
 | 0=>by simp [backN]
 | e + 1=>by
  have ih:=mR rows a b e;simp only [backN];by_cases Gt:b=e
  ·subst Gt;cases hx:(aD rows a b && aD rows b a)
   ·simp [ih,hx]
   ·simp [dN]
  ·have h1:decide (b < e + 1)=decide (b < e):=by congr 1;apply propext;omega
   rw [h1,<- ih];split
   ·rw [dN,decide_eq_false (Ne.symm Gt),Bool.or_false]
   ·rfl
abbrev pK (rows:List Nat) (a e:Nat):St:=
 ⟨[(0,⟨[],iZ rows⟩),(1,⟨[],.v (.int .i64 a)⟩),(5,⟨[],.v (.int .u64 (backN rows a e:Nat))⟩),(11,⟨[],.v (.int .i64 (dU rows).length)⟩),(12,⟨[],.v (.int .i64 e)⟩)],[],[]⟩
theorem lQ {rows:List Nat} {a b:Nat} (ha:a < rows.length) (hb:b < rows.length):hasB rows a b=aD rows a b:=by
 simp [hasB,ha,hb]
theorem yi (rows:List Nat) (hr:cA rows) (a:Nat) (ha:a < rows.length):EvP Tryz.prog 165 [iZ rows,.v (.int .i64 a)] (.v (.int .u64 (backN rows a rows.length:Nat))):=by
 have hr1:=hr.1;refine ev_go (P:=Tryz.prog) tt tt_ok 5000 31 [.tmp 4] Tryz.func165 rfl Tryz.ntmps165 rfl (nL rfl) (fun E9 w9 hn9 hm9=>?_);refine aw (fun j st=>∃ e:Nat,st=pK rows a e/\e<=rows.length/\j=rows.length - e) rows.length (pK rows a 0) (weak_mk ⟨_,rfl⟩ wA rfl rfl rfl wB) ⟨0,rfl,by omega,by omega⟩ ?_;rintro j st ⟨e,rfl,he,rfl⟩;refine br (fun hL=>?_) (fun hL=>?_)
 ·have aq:e < rows.length:=by have:=hL;simp [gB] at this;exact this
  have h1:=gP rows hr a e;have h2:=gP rows hr e a;rw [lQ ha aq] at h1;rw [lQ aq ha] at h2;have hbl:=pJ rows a e
  have K0:backN rows a e < 18446744073709551616:=by
   have:2 ^ e<=2 ^ 64:=Nat.pow_le_pow_right (by decide) (by omega);omega
  have OQ:=yh (x:=backN rows a e) (b:=e) (by omega) K0;have hs:backN rows a (e + 1)=if aD rows a e && aD rows e a then backN rows a e ||| 2 ^ e else backN rows a e:=rfl
  refine call_p vj (h1) ax rfl ?_;refine br (fun g1=>?_) (fun g1=>?_)
  ·have g1:aD rows a e=true:=by simpa using g1
   refine call_p vj (h2) ax rfl ?_;refine br (fun g2=>?_) (fun g2=>?_)
   ·have g2:aD rows e a=true:=by simpa [pickB,g1] using g2
    rw [g1,g2] at hs;have hs:backN rows a (e + 1)=backN rows a e ||| 2 ^ e:=hs
    refine ⟨by omega,?_⟩;exact ⟨pK rows a (e + 1),(weak_mk ⟨_,rfl⟩ wA rfl rfl rfl (by repeat' (first | exact trivial | exact ai rfl | exact aj (ej aq (by omega)) | exact aj (OQ.trans (by rw [hs])) | refine ⟨⟨_,rfl,?_⟩,?_⟩))),rows.length - (e + 1),by omega,e + 1,rfl,by omega,rfl⟩
   ·have g2:aD rows e a=false:=by simpa [pickB,g1] using g2
    rw [g1,g2] at hs;have hs:backN rows a (e + 1)=backN rows a e:=hs;exact ⟨pK rows a (e + 1),(weak_mk ⟨_,rfl⟩ wA rfl rfl rfl (by repeat' (first | exact trivial | exact ai rfl | exact aj (ej aq (by omega)) | exact aj (by rw [hs]) | refine ⟨⟨_,rfl,?_⟩,?_⟩))),rows.length - (e + 1),by omega,e + 1,rfl,by omega,rfl⟩
  ·have g1:aD rows a e=false:=by simpa using g1
   rw [g1] at hs;have hs:backN rows a (e + 1)=backN rows a e:=hs;exact ⟨pK rows a (e + 1),(weak_mk ⟨_,rfl⟩ wA rfl rfl rfl (by repeat' (first | exact trivial | exact ai rfl | exact aj (ej aq (by omega)) | exact aj (by rw [hs]) | refine ⟨⟨_,rfl,?_⟩,?_⟩))),rows.length - (e + 1),by omega,e + 1,rfl,by omega,rfl⟩
 ·have bJ:e=rows.length:=by have:=hL;simp [gB] at this;omega
  subst bJ;exact (rfl:_=_)
def cU (rows:List Nat):List DV:=rows.map fun (x:Nat)=>DV.v (.int .u64 (x:Int))
theorem kN (rows:List Nat):(cU rows).length=rows.length:=by simp [cU]
theorem D9 {rows:List Nat} {i x:Nat} (h:rows[i]? = some x):(cU rows)[i]? = some (DV.v (.int .u64 (x:Int))):=by simp [cU,h]
theorem Ea (rows:List Nat) (i x:Nat):(cU rows).set i (DV.v (.int .u64 (x:Int)))=cU (rows.set i x):=by simp [cU,List.map_set]
theorem lR (rows:List Nat):(dU rows).flatten=cU rows:=by
 induction rows with
 | nil=>rfl
 | cons x r ih=>simp only [dU,cU,List.map_cons,List.flatten_cons] at ih ⊢;rw [ih];all_goals rfl
theorem Ae {n m:Nat} {tk:List TkE}:∀ l:List Nat,WeL n m tk (cU l) (cU l)
 | []=>rfl
 | b :: r=>⟨_,_,rfl,ai rfl,Ae r⟩
theorem tA {n m:Nat} {tk:List TkE} {l:List DV} {ds:List Nat} (h:l=cU ds):WeL n m tk l (cU ds):=by rw [h];exact Ae ds
def R7 (p:Nat × Nat):List DV:=[.v (.int .i64 (p.1:Int)),.v (.int .i64 (p.2:Int))]
def n4 (l:List (Nat × Nat)):List (List DV):=l.map R7
theorem jw (l:List (Nat × Nat)):(n4 l).length=l.length:=by simp [n4]
theorem Eb {l:List (Nat × Nat)} {i:Nat} {p:Nat × Nat} (h:l[i]? = some p):(n4 l)[i]? = some (R7 p):=by simp [n4,h]
def pL (rows:List Nat) (p:Nat × Nat):List Nat:=rows.set p.1 (rows.getD p.1 0 ||| 2 ^ p.2)
def cR (n:Nat) (l:List (Nat × Nat)):List Nat:=l.foldl pL (List.replicate n 0)
theorem BB (n:Nat) (l:List (Nat × Nat)) (e:Nat) {p:Nat × Nat} (h:l[e]? = some p):cR n (l.take (e + 1))=pL (cR n (l.take e)) p:=by
 unfold cR;rw [List.take_add_one,h];simp
theorem lS (rows:List Nat) (p:Nat × Nat):(pL rows p).length=rows.length:=by simp [pL]
theorem fO (n:Nat):∀ (l:List (Nat × Nat)),(cR n l).length=n:=by
 intro l
 have:∀ (l:List (Nat × Nat)) (r:List Nat),(l.foldl pL r).length=r.length:=by
  intro l
  induction l with
  | nil=>intro r;rfl
  | cons p l ih=>intro r;rw [List.foldl_cons,ih,lS]
 rw [cR,this];simp
theorem Hx {rows:List Nat} {p:Nat × Nat} (h:cA rows) (hp:p.1 < rows.length) (hq:p.2 < 64):cA (pL rows p):=by
 refine ⟨by rw [lS];exact h.1,fun x hx=>?_⟩;rcases List.mem_or_eq_of_mem_set hx with hx | rfl
 ·exact h.2 x hx
 ·refine Nat.or_lt_two_pow (n:=64) ?_ (Nat.pow_lt_pow_right (by decide) hq);rw [List.getD_eq_getElem?_getD,gE hp];exact h.2 _ (List.getElem_mem hp)
theorem tB {n:Nat} (hn:n<=64):∀ (l:List (Nat × Nat)),(∀ p∈l,p.1 < n/\p.2 < n)->cA (cR n l):=by
 intro l hl
 have:∀ (l:List (Nat × Nat)) (r:List Nat),r.length=n->cA r->(∀ p∈l,p.1 < n/\p.2 < n)->cA (l.foldl pL r):=by
  intro l
  induction l with
  | nil=>intro r _ h _;exact h
  | cons p l ih=>
   intro r hr h hp;have:=hp p (by simp);exact ih _ (by rw [lS,hr]) (Hx h (by omega) (by omega)) (fun q hq=>hp q (by simp [hq]))
 refine this l _ (by simp) ⟨by simp [hn],fun x hx=>?_⟩ hl;rw [List.mem_replicate] at hx;omega
abbrev yj (n:Nat) (l:List (Nat × Nat)) (rows:List Nat) (e:Nat):St:=
 ⟨[(0,⟨[],.v (.int .i64 n)⟩),(6,⟨[],.loc 1 0⟩),(19,⟨[],.sl 2 (n4 l) none⟩),(20,⟨[],.v (.int .i64 (n4 l).length)⟩),(21,⟨[],.v (.int .i64 e)⟩)],
  [cU rows,[.ms 0 1 0 n n]],[]⟩
theorem BC (n:Nat) (hn:n<=64) (l:List (Nat × Nat)) (hl:∀ p∈l,p.1 < n/\p.2 < n) (hb:l.length<=1099511627776) :
  EvP Tryz.prog 98 [.v (.int .i64 n),.sl 2 (n4 l) none] (.tup [iZ (cR n l),.v (.bool true)]):=by
 refine ev_go (P:=Tryz.prog) tt tt_ok 5000 60 [.tmp 4,.tmp 5] Tryz.func98 rfl Tryz.ntmps98 rfl (nL rfl) (fun E9 w9 hn9 hm9=>?_);refine br (fun g=>?_) (fun g=>?_)
 ·exfalso;simp [ak] at g;omega
 refine ⟨⟨rfl,by omega,by omega,by omega⟩,?_⟩
 have h0:(List.replicate (n:Int).toNat [DV.v (.int .u64 0)]).flatten=cU (cR n (l.take 0)):=by
  simp [cR,cU]
 refine aw (fun j st=>∃ e:Nat,st=yj n l (cR n (l.take e)) e/\e<=l.length/\j=l.length - e) l.length (yj n l (cR n (l.take 0)) 0) (aH 2 rfl (by repeat' (first | exact rfl | exact ai rfl | exact tA h0 | refine ⟨_,_,rfl,?_,?_⟩)) rfl rfl rfl (by repeat' (first | exact trivial | exact ai rfl | exact tA h0 | refine ⟨⟨_,rfl,?_⟩,?_⟩))) ⟨0,rfl,by omega,by omega⟩ ?_;rintro j st ⟨e,rfl,he,rfl⟩;refine br (fun hL=>?_) (fun hL=>?_)
 ·have aq:e < l.length:=by have:=hL;simp [jw] at this;exact this
  obtain ⟨p,hp⟩:∃ p,l[e]? = some p:=⟨_,gE aq⟩;obtain ⟨p1,p2⟩:=hl p (mG hp);refine ⟨_,⟨by omega,Eb hp⟩,?_⟩;refine ⟨⟨by decide,by decide⟩,?_⟩;refine ⟨⟨by decide,by decide⟩,?_⟩;refine br (fun g=>?_) (fun g=>?_)
  ·refine ⟨⟨by decide,by decide⟩,?_⟩;refine ⟨⟨by decide,by decide⟩,?_⟩;refine br (fun g2=>?_) (fun g2=>?_)
   ·exfalso;simp [pickB] at g2;omega
   obtain ⟨x,hx⟩:∃ x,(cR n (l.take e))[p.1]? = some x:=⟨_,gE (by rw [fO];exact p1)⟩;have cj:=tB hn (l.take e) (fun q hq=>hl q (List.mem_of_mem_take hq));have Bd:=cj.2 x (mG hx);have nU:0 + (p.1:Int).toNat * 1=p.1:=by omega
   refine aZ mo (by decide +kernel) ?_;refine ⟨⟨by decide,by decide⟩,?_⟩;refine ⟨⟨by omega,by omega⟩,?_⟩;refine ⟨_,(by rw [nU];exact D9 hx:(cU (cR n (l.take e)))[0 + (p.1:Int).toNat * 1]? = some _),?_⟩;refine ⟨⟨by decide,by decide⟩,?_⟩;refine ⟨by omega,?_⟩;refine ⟨⟨by omega,by omega⟩,?_⟩;refine ⟨by rw [nU,kN,fO];omega,?_⟩
   have bE:(cU (cR n (l.take e))).set (0 + (p.1:Int).toNat * 1) (DV.v (.int .u64 (IntKind.u64.wrap ((BitVec.ofInt 64 (x:Int) ||| BitVec.ofInt 64 (IntKind.u64.wrap (1 * 2 ^ (min (p.2:Int).toNat 64)))).toNat:Int))))=cU (cR n (l.take (e + 1))):=by
    rw [nU,show ((p.2:Int).toNat)=p.2 by omega,yh (by omega) Bd,Ea,BB n l e hp];simp only [pL];rw [getD_some hx]
   refine ⟨yj n l (cR n (l.take (e + 1))) (e + 1),(aH 2 rfl (by repeat' (first | exact rfl | exact ai rfl | exact tA bE | exact aj (ej aq (by omega)) | refine ⟨_,_,rfl,?_,?_⟩)) rfl rfl rfl (by repeat' (first | exact trivial | exact ai rfl | exact tA bE | exact aj (ej aq (by omega)) | refine ⟨⟨_,rfl,?_⟩,?_⟩))),l.length - (e + 1),by omega,e + 1,rfl,by omega,rfl⟩
  ·exfalso;simp [pickB] at g;omega
 ·have bJ:e=l.length:=by have:=hL;simp [jw] at this;omega
  subst bJ;rw [List.take_length];refine ⟨_,?_,rfl⟩;have hlen:=fO n l;generalize cR n l=rows at hlen ⊢;refine ⟨_,rfl,_,_,rfl,.inr ⟨1,_,rfl,Nat.zero_le _,rfl,_,_,rfl,.inr (.inr (.inl ⟨0,0,n,cU rows,by rw [gB,hlen],Nat.zero_le _,rfl,?_,?_,?_⟩)),rfl⟩,_,_,rfl,rfl,rfl⟩
  ·rw [lR,gB,Nat.mul_one,List.drop_zero,List.take_of_length_le (by rw [kN];omega)]
  ·intro x hx;simp only [dU,List.mem_map] at hx;obtain ⟨y,_,rfl⟩:=hx;rfl
  ·intro x hx;rw [lR] at hx;simp only [cU,List.mem_map] at hx;obtain ⟨y,_,rfl⟩:=hx;exact .inl ⟨_,rfl⟩
def e8 (rows:List Nat) (k:Nat):List Nat:=rows.set k (rows.getD k 0 ||| 2 ^ k)
def kr (k:Nat) (rows:List Nat) (a:Nat):List Nat:=if aD rows a k then rows.set a (rows.getD a 0 ||| rows.getD k 0) else rows
def de (rows:List Nat) (k e:Nat):List Nat:=(List.range e).foldl (kr k) (e8 rows k)
def closeR (rows:List Nat) (e:Nat):List Nat:=(List.range e).foldl (fun r k=>de r k r.length) rows
theorem Ec {rows:List Nat} {i x:Nat} (h:cA rows) (hx:x < 18446744073709551616):cA (rows.set i x):=by
 refine ⟨by rw [List.length_set];exact h.1,fun y hy=>?_⟩;rcases List.mem_or_eq_of_mem_set hy with hy | rfl
 ·exact h.2 y hy
 ·exact hx
theorem iE {rows:List Nat} (h:cA rows) (i:Nat):rows.getD i 0 < 18446744073709551616:=by
 rw [List.getD_eq_getElem?_getD]
 cases hx:rows[i]? with
 | none=>simp
 | some x=>exact h.2 x (mG hx)
theorem Ee {rows:List Nat} {k:Nat} (h:cA rows) (hk:k < 64):cA (e8 rows k):=
 Ec h (Nat.or_lt_two_pow (n:=64) (iE h k) (Nat.pow_lt_pow_right (by decide) hk))
theorem BD (rows:List Nat) (k:Nat):(e8 rows k).length=rows.length:=by simp [e8]
theorem Ef {rows:List Nat} {k a:Nat} (h:cA rows):cA (kr k rows a):=by
 unfold kr;split
 ·exact Ec h (Nat.or_lt_two_pow (n:=64) (iE h a) (iE h k))
 ·exact h
theorem BE (rows:List Nat) (k a:Nat):(kr k rows a).length=rows.length:=by
 unfold kr;split<;>simp
theorem iF (rows:List Nat) (k e:Nat):de rows k (e + 1)=kr k (de rows k e) e:=by simp [de,List.range_succ]
theorem jY (rows:List Nat) (k:Nat):∀ e,(de rows k e).length=rows.length
 | 0=>by simp [de,BD]
 | e + 1=>by rw [iF,BE,jY]
theorem pM {rows:List Nat} {k:Nat} (h:cA rows) (hk:k < 64):∀ e,cA (de rows k e)
 | 0=>by simpa [de] using Ee h hk
 | e + 1=>by rw [iF];exact Ef (pM h hk e)
theorem gp (rows:List Nat) (e:Nat):closeR rows (e + 1)=de (closeR rows e) e (closeR rows e).length:=by simp [closeR,List.range_succ]
theorem cX (rows:List Nat):∀ e,(closeR rows e).length=rows.length
 | 0=>by simp [closeR]
 | e + 1=>by rw [gp,jY,cX]
theorem gQ {rows:List Nat} (h:cA rows):∀ e,e<=64->cA (closeR rows e)
 | 0,_=>by simpa [closeR] using h
 | e + 1,he=>by rw [gp];exact pM (gQ h e (by omega)) (by omega) _
def spU (m:Nat):List DV:=(List.replicate m (vL [Value.int .u64 0])).flatten
theorem ym {n m:Nat} {tk:List TkE}:∀ l:List DV,(∀ x∈l,∃ y,x = .v y)->WeL n m tk l l
 | [],_=>rfl
 | b :: r,h=>by
  obtain ⟨y,rfl⟩:=h b (by simp);exact ⟨_,_,rfl,ai rfl,ym r (fun x hx=>h x (by simp [hx]))⟩
theorem gC {n m:Nat} {tk:List TkE} {l:List DV} {ds:List Nat} {k:Nat} (h:l=cU ds ++ spU k):WeL n m tk l (cU ds ++ spU k):=by
 rw [h];refine ym _ fun x hx=>?_;rcases List.mem_append.1 hx with hx | hx
 ·simp only [cU,List.mem_map] at hx;obtain ⟨y,_,rfl⟩:=hx;exact ⟨_,rfl⟩
 ·simp only [spU,List.mem_flatten,List.mem_replicate] at hx;obtain ⟨y,⟨_,rfl⟩,hx⟩:=hx;simp [vL] at hx;exact ⟨_,hx⟩
theorem tC {r:List Nat} {k i x:Nat} (h:r[i]? = some x):(cU r ++ spU k)[0 + (i:Int).toNat * 1]? = some (DV.v (.int .u64 (x:Int))):=by
 rw [show 0 + (i:Int).toNat * 1=i by omega,List.getElem?_append_left (by rw [kN];exact (gS h).1)];exact D9 h
theorem Eg {r:List Nat} {k i x:Nat} (h:i < r.length):(cU r ++ spU k).set (0 + (i:Int).toNat * 1) (DV.v (.int .u64 (x:Int)))=cU (r.set i x) ++ spU k:=by
 rw [show 0 + (i:Int).toNat * 1=i by omega,List.set_append_left _ _ (by rw [kN];exact h),Ea]
theorem Eh {r:List Nat} {k i:Nat} (h:i < r.length):0 + (i:Int).toNat * 1 + 1<=(cU r ++ spU k).length:=by
 rw [List.length_append,kN];omega
abbrev K1 (rows:List Nat) (cap:Nat) (r:List Nat) (e:Nat):St:=
 ⟨[(3,⟨[],.loc 1 0⟩),(19,⟨[],.v (.int .i64 (dU rows).length)⟩),(20,⟨[],.v (.int .i64 e)⟩)],[cU r ++ spU (cap - (dU rows).length),[.ms 0 1 0 (dU rows).length cap]],[]⟩
abbrev Af (rows:List Nat) (cap:Nat) (r:List Nat) (e f:Nat):St:=
 ⟨[(3,⟨[],.loc 1 0⟩),(4,⟨[],.v (.int .i64 e)⟩),(19,⟨[],.v (.int .i64 (dU rows).length)⟩),(20,⟨[],.v (.int .i64 e)⟩),(38,⟨[],.v (.int .i64 (dU rows).length)⟩),(39,⟨[],.v (.int .i64 f)⟩)],[cU r ++ spU (cap - (dU rows).length),[.ms 0 1 0 (dU rows).length cap]],[]⟩
theorem kO {l:List Nat} {i:Nat} (h:i < l.length):l[i]? = some (l.getD i 0):=mN h
theorem nE (rows:List Nat) (hr:cA rows) (h0:rows ≠ []):EvP Tryz.prog 100 [iZ rows] (iZ (closeR rows rows.length)):=by
 have hr1:=hr.1;have hN:=gB rows;have gI:0 < rows.length:=List.length_pos_iff.2 h0;refine zM (s:=false) (bt:=[]) (mu:=[12]) (hbt:=fun p hp=>by cases hp) (fr:=false) (P:=Tryz.prog) tt tt_ok 5000 72 [.tmp 2] Tryz.func100 rfl Tryz.ntmps100 rfl (nL rfl) (fun E9 w9 hn9 hm9=>?_);refine ⟨⟨by intro h;exact h0 (by simpa [dU] using h),by rw [gB];simp [maxLen];omega,by rw [gB];omega⟩,fun cap GS=>?_⟩
 have eG:(dU rows).flatten.append (List.replicate (cap - (dU rows).length) (vL [Value.int .u64 0])).flatten=cU (closeR rows 0) ++ spU (cap - (dU rows).length):=by
  show (dU rows).flatten ++ _=_;rw [lR];rfl
 refine aw (fun j st=>∃ e:Nat,st=K1 rows cap (closeR rows e) e/\e<=rows.length/\j=rows.length - e) rows.length (K1 rows cap (closeR rows 0) 0) (aH 2 rfl (by repeat' (first | exact rfl | exact ai rfl | exact gC eG | refine ⟨_,_,rfl,?_,?_⟩)) rfl rfl rfl (by repeat' (first | exact trivial | exact ai rfl | exact gC eG | refine ⟨⟨_,rfl,?_⟩,?_⟩))) ⟨0,rfl,by omega,by omega⟩ ?_;rintro j st ⟨e,rfl,he,rfl⟩;have cj:=gQ hr e (by omega);have hlen:=cX rows e;have Jr:=gp rows e;generalize hce:closeR rows e=r at cj hlen Jr ⊢;refine br (fun hL=>?_) (fun hL=>?_)
 ·have aq:e < rows.length:=by have:=hL;simp [hN] at this;exact this
  have hx:=kO (l:=r) (i:=e) (by omega);have OQ:=yh (x:=r.getD e 0) (b:=e) (by omega) (iE cj e);refine aZ mo (by decide +kernel) ?_;refine ⟨⟨by omega,by omega⟩,?_⟩;refine ⟨_,tC hx,?_⟩;refine ⟨by omega,?_⟩;refine ⟨⟨by omega,by omega⟩,?_⟩;refine ⟨Eh (by omega),?_⟩
  have fD:(cU r ++ spU (cap - (dU rows).length)).set (0 + (e:Int).toNat * 1) (DV.v (.int .u64 (IntKind.u64.wrap ((BitVec.ofInt 64 ((r.getD e 0:Nat):Int) ||| BitVec.ofInt 64 (IntKind.u64.wrap (1 * 2 ^ (min (e:Int).toNat 64)))).toNat:Int))))=cU (de r e 0) ++ spU (cap - (dU rows).length):=by
   rw [show min (e:Int).toNat 64=min e 64 by omega,OQ,Eg (by omega)];rfl
  refine aw (fun j st=>∃ f:Nat,st=Af rows cap (de r e f) e f/\f<=rows.length/\j=rows.length - f) rows.length (Af rows cap (de r e 0) e 0) (aH 2 rfl (by repeat' (first | exact rfl | exact ai rfl | exact gC fD | refine ⟨_,_,rfl,?_,?_⟩)) rfl rfl rfl (by repeat' (first | exact trivial | exact ai rfl | exact gC fD | refine ⟨⟨_,rfl,?_⟩,?_⟩))) ⟨0,rfl,by omega,by omega⟩ ?_;rintro j st ⟨f,rfl,hf,rfl⟩;have Qr:=pM (k:=e) cj (by omega) f;have lm:=jY r e f;have OI:=iF r e f;have b9:e < (de r e f).length:=by rw [lm];omega
  refine br (fun hL=>?_) (fun hL=>?_)
  ·have Ei:f < rows.length:=by have:=hL;simp [hN] at this;exact this
   have Qs:f < (de r e f).length:=by rw [lm];omega
   generalize de r e f=q at Qr lm OI b9 Qs ⊢;have hy:=kO Qs;have hz:=kO b9;have Ej:=Ad (x:=q.getD f 0) (b:=e) (by omega) (iE Qr f);have OQ:=Hw (iE Qr f) (iE Qr e);refine ⟨⟨by omega,by omega⟩,?_⟩;refine ⟨_,tC hy,?_⟩;refine ⟨by omega,?_⟩;refine br (fun g=>?_) (fun g=>?_)
   ·have g:aD q f e=true:=Ej.symm.trans g;refine aZ mo (by decide +kernel) ?_;refine ⟨⟨by omega,by omega⟩,?_⟩;refine ⟨_,tC hy,?_⟩;refine ⟨⟨by omega,by omega⟩,?_⟩;refine ⟨_,tC hz,?_⟩;refine ⟨⟨by omega,by omega⟩,?_⟩;refine ⟨Eh Qs,?_⟩
    have eF:(cU q ++ spU (cap - (dU rows).length)).set (0 + (f:Int).toNat * 1) (DV.v (.int .u64 (IntKind.u64.wrap ((BitVec.ofInt 64 ((q.getD f 0:Nat):Int) ||| BitVec.ofInt 64 ((q.getD e 0:Nat):Int)).toNat:Int))))=cU (de r e (f + 1)) ++ spU (cap - (dU rows).length):=by
     rw [OQ,Eg Qs,OI,kr,if_pos g]
    exact ⟨Af rows cap (de r e (f + 1)) e (f + 1),(aH 2 rfl (by repeat' (first | exact rfl | exact ai rfl | exact gC eF | exact aj (ej Ei (by omega)) | refine ⟨_,_,rfl,?_,?_⟩)) rfl rfl rfl (by repeat' (first | exact trivial | exact ai rfl | exact gC eF | exact aj (ej Ei (by omega)) | refine ⟨⟨_,rfl,?_⟩,?_⟩))),rows.length - (f + 1),by omega,f + 1,rfl,by omega,rfl⟩
   ·have g:aD q f e=false:=Ej.symm.trans g
    have eF:cU q ++ spU (cap - (dU rows).length)=cU (de r e (f + 1)) ++ spU (cap - (dU rows).length):=by
     rw [OI,kr,if_neg (by rw [g];decide)]
    exact ⟨Af rows cap (de r e (f + 1)) e (f + 1),(aH 2 rfl (by repeat' (first | exact rfl | exact ai rfl | exact gC eF | exact aj (ej Ei (by omega)) | refine ⟨_,_,rfl,?_,?_⟩)) rfl rfl rfl (by repeat' (first | exact trivial | exact ai rfl | exact gC eF | exact aj (ej Ei (by omega)) | refine ⟨⟨_,rfl,?_⟩,?_⟩))),rows.length - (f + 1),by omega,f + 1,rfl,by omega,rfl⟩
  ·have bJ:f=rows.length:=by have:=hL;simp [hN] at this;omega
   subst bJ
   have CJ:cU (de r e rows.length) ++ spU (cap - (dU rows).length)=cU (closeR rows (e + 1)) ++ spU (cap - (dU rows).length):=by
    rw [Jr,hlen]
   exact ⟨K1 rows cap (closeR rows (e + 1)) (e + 1),(aH 2 rfl (by repeat' (first | exact rfl | exact ai rfl | exact gC CJ | exact aj (ej aq (by omega)) | refine ⟨_,_,rfl,?_,?_⟩)) rfl rfl rfl (by repeat' (first | exact trivial | exact ai rfl | exact gC CJ | exact aj (ej aq (by omega)) | refine ⟨⟨_,rfl,?_⟩,?_⟩))),rows.length - (e + 1),by omega,e + 1,rfl,by omega,rfl⟩
 ·have bJ:e=rows.length:=by have:=hL;simp [hN] at this;omega
  subst bJ;refine ⟨_,?_,rfl⟩;rw [hce];refine .inr ⟨1,_,rfl,Nat.zero_le _,rfl,_,_,rfl,.inr (.inr (.inl ⟨0,0,cap,cU r ++ spU (cap - (dU rows).length),by rw [gB r,hlen,hN],Nat.zero_le _,rfl,?_,?_,?_⟩)),rfl⟩
  ·rw [lR,gB,Nat.mul_one,List.drop_zero,List.take_append_of_le_length (by rw [kN];omega),List.take_of_length_le (by rw [kN];omega)]
  ·intro x hx;simp only [dU,List.mem_map] at hx;obtain ⟨y,_,rfl⟩:=hx;rfl
  ·intro x hx;rw [lR] at hx;simp only [cU,List.mem_map] at hx;obtain ⟨y,_,rfl⟩:=hx;exact .inl ⟨_,rfl⟩
theorem gR {a b c d:Nat} (ha:a < 256) (hb:b < 256):(a + 256 * c) &&& (b + 256 * d)=(a &&& b) + 256 * (c &&& d):=by
 have h1:a &&& b < 256:=Nat.and_lt_two_pow (n:=8) a hb;apply Nat.eq_of_testBit_eq;intro i
 have e (x y:Nat) (hx:x < 256):(x + 256 * y).testBit i=if i < 8 then x.testBit i else y.testBit (i - 8):=by
  rw [show x + 256 * y=2 ^ 8 * y + x by omega,Nat.testBit_two_pow_mul_add _ (by simpa using hx)]
 rw [Nat.testBit_and,e a c ha,e b d hb,e _ _ h1];split<;>simp [Nat.testBit_and]
def b1 (x:Nat):Nat:=((x / 2) &&& 85) + (x &&& 85)
def b2 (x:Nat):Nat:=((x / 4) &&& 51) + (x &&& 51)
def b3 (x:Nat):Nat:=((x / 16) + x) &&& 15
def pop8 (x:Nat):Nat:=b3 (b2 (b1 x))
theorem Ag:∀ x:Fin 256,b1 x.val < 256/\b2 (b1 x.val) < 120/\pop8 x.val<=8/\pop8 x.val=(((((((x.val.testBit 0).toNat + (x.val.testBit 1).toNat) + (x.val.testBit 2).toNat) + (x.val.testBit 3).toNat) + (x.val.testBit 4).toNat) + (x.val.testBit 5).toNat) + (x.val.testBit 6).toNat) + (x.val.testBit 7).toNat:=by decide +kernel
def valB:List Nat->Nat
 | []=>0
 | a :: r=>a + 256 * valB r
def rep (m:Nat):Nat->Nat
 | 0=>0
 | n + 1=>m + 256 * rep m n
theorem m1:∀ (a:Fin 256) (c:Fin 2),(a.val / 2 + 128 * c.val) &&& 85=(a.val / 2) &&& 85:=by decide +kernel
theorem m2:∀ (a:Fin 256) (c:Fin 4),(a.val / 4 + 64 * c.val) &&& 51=(a.val / 4) &&& 51:=by decide +kernel
theorem mH:∀ l:List Nat,(∀ a∈l,a < 256)->((valB l / 2) &&& rep 85 l.length) + (valB l &&& rep 85 l.length)=valB (l.map b1)
 | [],_=>rfl
 | a :: r,h=>by
  have ih:=mH r (fun x hx=>h x (by simp [hx]));have ha:=h a (by simp);have e1:(a + 256 * valB r) / 2=(a / 2 + 128 * (valB r % 2)) + 256 * (valB r / 2):=by omega
  have hm:=m1 ⟨a,ha⟩ ⟨valB r % 2,by omega⟩;simp only at hm;simp only [valB,List.length_cons,rep,List.map_cons,b1];rw [e1,gR (by omega) (by decide),gR ha (by decide),hm,<- ih];omega
theorem CN:∀ l:List Nat,(∀ a∈l,a < 256)->((valB l / 4) &&& rep 51 l.length) + (valB l &&& rep 51 l.length)=valB (l.map b2)
 | [],_=>rfl
 | a :: r,h=>by
  have ih:=CN r (fun x hx=>h x (by simp [hx]));have ha:=h a (by simp);have e1:(a + 256 * valB r) / 4=(a / 4 + 64 * (valB r % 4)) + 256 * (valB r / 4):=by omega
  have hm:=m2 ⟨a,ha⟩ ⟨valB r % 4,by omega⟩;simp only at hm;simp only [valB,List.length_cons,rep,List.map_cons,b2];rw [e1,gR (by omega) (by decide),gR ha (by decide),hm,<- ih];omega
theorem OR (x y:Nat):(x + 16 * y) &&& 15=x &&& 15:=by
 have h (z:Nat):z &&& 15=z % 16:=Nat.and_two_pow_sub_one_eq_mod z 4;rw [h,h];omega
def vI (a:Nat):Prop:=a < 70/\a % 16<=4
theorem Ul:∀ l:List Nat,(∀ a∈l,vI a)->((valB l / 16) + valB l) &&& rep 15 l.length=valB (l.map b3)
 | [],_=>rfl
 | a :: r,h=>by
  have ih:=Ul r (fun x hx=>h x (by simp [hx]));have ha:=h a (by simp)
  have hc:valB r % 16<=4:=by
   cases r with
   | nil=>simp [valB]
   | cons b s=>
    have:=(h b (by simp)).2;simp only [valB];omega
  unfold vI at ha;have e1:(a + 256 * valB r) / 16 + (a + 256 * valB r)=((a / 16 + a) + 16 * (valB r % 16)) + 256 * (valB r / 16 + valB r):=by omega
  simp only [valB,List.length_cons,rep,List.map_cons,b3];rw [e1,gR (by omega) (by decide),OR,ih]
def cG (x:Nat):List Nat:=[x % 256,x / 256 % 256,x / 65536 % 256,x / 16777216 % 256,x / 4294967296 % 256,x / 1099511627776 % 256,x / 281474976710656 % 256,x / 72057594037927936 % 256]
theorem yo {x:Nat} (h:x < 18446744073709551616):valB (cG x)=x:=by
 simp only [cG,valB];omega
theorem BF (x:Nat):∀ a∈cG x,a < 256:=by
 intro a ha;simp only [cG,List.mem_cons,List.not_mem_nil,or_false] at ha;omega
def yp (x:Nat):Nat:=((cG x).map pop8).sum
theorem vJ:∀ a:Fin 256,b1 a.val < 256/\b2 (b1 a.val) < 70/\b2 (b1 a.val) % 16<=4:=by decide +kernel
theorem tD {x m:Nat} (hx:x < 18446744073709551616) (hm:m < 18446744073709551616) :
  IntKind.u64.wrap ((BitVec.ofInt 64 (x:Int) &&& BitVec.ofInt 64 (m:Int)).toNat:Int)=((x &&& m:Nat):Int):=by
 rw [er,er,BitVec.toNat_and,BitVec.toNat_ofNat,BitVec.toNat_ofNat,Nat.mod_eq_of_lt hx,Nat.mod_eq_of_lt hm];have h3:x &&& m < 18446744073709551616:=Nat.and_lt_two_pow (n:=64) x hm;simp only [IntKind.wrap_u64];omega
theorem yq {x:Nat} {k:Int} (hk:k.toNat < 64):(x:Int).fdiv (2 ^ min k.toNat IntKind.u64.bits)=((x / 2 ^ k.toNat:Nat):Int):=by
 rw [show min k.toNat IntKind.u64.bits=k.toNat from Nat.min_eq_left (by show k.toNat<=64;omega),vH]
theorem tE {y:Nat} (h:y < 18446744073709551616):IntKind.u64.wrap (y:Int)=(y:Int):=by
 simp only [IntKind.wrap_u64];omega
theorem OS {k M:Int} {m x y:Nat} (hk:k.toNat < 64) (hx:x < 18446744073709551616) (hM:M=(m:Int)) (hm:m < 18446744073709551616) (hy:((x / 2 ^ k.toNat) &&& m) + (x &&& m)=y) (j9:y < 18446744073709551616) :
  IntKind.u64.wrap (IntKind.u64.wrap ((BitVec.ofInt IntKind.u64.bits ((x:Int).fdiv (2 ^ min k.toNat IntKind.u64.bits)) &&& BitVec.ofInt IntKind.u64.bits M).toNat:Int) + IntKind.u64.wrap ((BitVec.ofInt IntKind.u64.bits (x:Int) &&& BitVec.ofInt IntKind.u64.bits M).toNat:Int))=(y:Int):=by
 subst hM;have h1:x / 2 ^ k.toNat < 18446744073709551616:=Nat.lt_of_le_of_lt (Nat.div_le_self _ _) hx;have e1:IntKind.u64.wrap ((BitVec.ofInt IntKind.u64.bits ((x / 2 ^ k.toNat:Nat):Int) &&& BitVec.ofInt IntKind.u64.bits (m:Int)).toNat:Int)=_:=tD h1 hm;have e2:IntKind.u64.wrap ((BitVec.ofInt IntKind.u64.bits (x:Int) &&& BitVec.ofInt IntKind.u64.bits (m:Int)).toNat:Int)=_:=tD hx hm;rw [yq hk,e1,e2,<- Int.natCast_add,hy,tE j9]
theorem R8 {k M:Int} {m x y:Nat} (hk:k.toNat < 64) (hs:x / 2 ^ k.toNat + x < 18446744073709551616) (hM:M=(m:Int)) (hm:m < 18446744073709551616) (hy:((x / 2 ^ k.toNat) + x) &&& m=y) :
  IntKind.u64.wrap ((BitVec.ofInt IntKind.u64.bits (IntKind.u64.wrap ((x:Int).fdiv (2 ^ min k.toNat IntKind.u64.bits) + (x:Int))) &&& BitVec.ofInt IntKind.u64.bits M).toNat:Int)=(y:Int):=by
 subst hM;have e2:IntKind.u64.wrap ((BitVec.ofInt IntKind.u64.bits ((x / 2 ^ k.toNat + x:Nat):Int) &&& BitVec.ofInt IntKind.u64.bits (m:Int)).toNat:Int)=_:=tD hs hm;rw [yq hk,<- Int.natCast_add,tE hs,e2,hy]
theorem K2 {k:Int} {x:Nat} (hk:k.toNat < 64) (hs:x + x / 2 ^ k.toNat < 18446744073709551616) :
  IntKind.u64.wrap ((x:Int) + (x:Int).fdiv (2 ^ min k.toNat IntKind.u64.bits))=((x + x / 2 ^ k.toNat:Nat):Int):=by
 rw [yq hk,<- Int.natCast_add,tE hs]
theorem Ah:∀ l:List Nat,(∀ a∈l,a < 256)->valB l < 256 ^ l.length
 | [],_=>by simp [valB]
 | a :: r,h=>by
  have ih:=Ah r (fun x hx=>h x (by simp [hx]));have ha:=h a (by simp);simp only [valB,List.length_cons,Nat.pow_succ];omega
theorem Ek {x:Nat} (hx:x < 18446744073709551616):∃ y1 y2 y3:Nat,((x / 2) &&& 6148914691236517205) + (x &&& 6148914691236517205)=y1/\y1 < 18446744073709551616/\((y1 / 4) &&& 3689348814741910323) + (y1 &&& 3689348814741910323)=y2/\y2 / 16 + y2 < 18446744073709551616/\y2 < 18446744073709551616 /\
  ((y2 / 16) + y2) &&& 1085102592571150095=y3/\∃ p0 p1 p2 p3 p4 p5 p6 p7:Nat,y3=valB [p0,p1,p2,p3,p4,p5,p6,p7]/\(p0<=8/\p1<=8/\p2<=8/\p3<=8/\p4<=8/\p5<=8/\p6<=8/\p7<=8)/\yp x=p0 + p1 + p2 + p3 + p4 + p5 + p6 + p7:=by
 have hl:=BF x;have s1:=mH (cG x) hl;rw [yo hx] at s1
 have l1:∀ a∈(cG x).map b1,a < 256:=by
  intro a ha;obtain ⟨b,hb,rfl⟩:=List.mem_map.1 ha;exact (vJ ⟨b,hl b hb⟩).1
 have l2:∀ a∈((cG x).map b1).map b2,vI a:=by
  intro a ha;obtain ⟨c,hc,rfl⟩:=List.mem_map.1 ha;obtain ⟨b,hb,rfl⟩:=List.mem_map.1 hc;exact (vJ ⟨b,hl b hb⟩).2
 have s2:=CN ((cG x).map b1) l1;have s3:=Ul (((cG x).map b1).map b2) l2
 have v1:valB ((cG x).map b1) < 18446744073709551616:=by
  have:=Ah _ l1;rw [List.length_map,show (cG x).length=8 from rfl] at this;simpa using this
 rw [show rep 85 (cG x).length=6148914691236517205 from (by decide:rep 85 8=_)] at s1;rw [List.length_map,show rep 51 (cG x).length=3689348814741910323 from (by decide:rep 51 8=_)] at s2;rw [List.length_map,List.length_map,show rep 15 (cG x).length=1085102592571150095 from (by decide:rep 15 8=_)] at s3;refine ⟨_,_,_,s1,v1,s2,?_,?_,s3,_,_,_,_,_,_,_,_,rfl,?_,?_⟩
 ·have:=l2;simp only [cG,List.map_cons,List.map_nil,List.mem_cons,List.not_mem_nil,or_false,forall_eq_or_imp,forall_eq,vI,valB] at this ⊢;omega
 ·have:=l2;simp only [cG,List.map_cons,List.map_nil,List.mem_cons,List.not_mem_nil,or_false,forall_eq_or_imp,forall_eq,vI,valB] at this ⊢;omega
 ·have h (b:Nat) (hb:b < 256):=(Ag ⟨b,hb⟩).2.2.1;exact ⟨h _ (by omega),h _ (by omega),h _ (by omega),h _ (by omega),h _ (by omega),h _ (by omega),h _ (by omega),h _ (by omega)⟩
 ·simp only [yp,cG,List.map_cons,List.map_nil,List.sum_cons,List.sum_nil,pop8];omega
theorem dr1 {a r:Nat} (h:a < 256):(a + 256 * r) / 256=r:=by omega
theorem dr2 {a b r:Nat} (h:a < 256) (h2:b < 256):(a + 256 * (b + 256 * r)) / 65536=r:=by omega
theorem dr4 {a b c d r:Nat} (h:a < 256) (h2:b < 256) (h3:c < 256) (h4:d < 256):(a + 256 * (b + 256 * (c + 256 * (d + 256 * r)))) / 4294967296=r:=by omega
theorem El {p0 p1 p2 p3 p4 p5 p6 p7:Nat} (hp:p0<=8/\p1<=8/\p2<=8/\p3<=8/\p4<=8/\p5<=8/\p6<=8/\p7<=8):∃ z1 z2 z3:Nat,
  (p0 + 256 * (p1 + 256 * (p2 + 256 * (p3 + 256 * (p4 + 256 * (p5 + 256 * (p6 + 256 * (p7 + 256 * 0)))))))) + (p0 + 256 * (p1 + 256 * (p2 + 256 * (p3 + 256 * (p4 + 256 * (p5 + 256 * (p6 + 256 * (p7 + 256 * 0)))))))) / 256=z1/\z1 < 18446744073709551616 /\
  z1 + z1 / 65536=z2/\z2 < 18446744073709551616/\z2 + z2 / 4294967296=z3/\z3 < 18446744073709551616/\z3 % 128=p0 + p1 + p2 + p3 + p4 + p5 + p6 + p7:=by
 refine ⟨(p0 + p1) + 256 * ((p1 + p2) + 256 * ((p2 + p3) + 256 * ((p3 + p4) + 256 * ((p4 + p5) + 256 * ((p5 + p6) + 256 * ((p6 + p7) + 256 * p7)))))),
  (p0 + p1 + p2 + p3) + 256 * ((p1 + p2 + p3 + p4) + 256 * ((p2 + p3 + p4 + p5) + 256 * ((p3 + p4 + p5 + p6) + 256 * ((p4 + p5 + p6 + p7) + 256 * ((p5 + p6 + p7) + 256 * ((p6 + p7) + 256 * p7)))))),
  (p0 + p1 + p2 + p3 + p4 + p5 + p6 + p7) + 256 * ((p1 + p2 + p3 + p4 + p5 + p6 + p7) + 256 * ((p2 + p3 + p4 + p5 + p6 + p7) + 256 * ((p3 + p4 + p5 + p6 + p7) + 256 * ((p4 + p5 + p6 + p7) + 256 * ((p5 + p6 + p7) + 256 * ((p6 + p7) + 256 * p7)))))),?_,by omega,?_,by omega,?_,by omega,by omega⟩
 ·rw [dr1 (by omega)];omega
 ·rw [dr2 (by omega) (by omega)];omega
 ·rw [dr4 (by omega) (by omega) (by omega) (by omega)];omega
theorem Em {z:Nat} (h:z < 18446744073709551616):IntKind.i64.wrap ((BitVec.ofInt IntKind.i64.bits (IntKind.i64.wrap (z:Int)) &&& BitVec.ofInt IntKind.i64.bits 127).toNat:Int)=((z % 128:Nat):Int):=by
 have e1:BitVec.ofInt 64 (IntKind.i64.wrap (z:Int))=BitVec.ofNat 64 z:=by
  apply BitVec.eq_of_toNat_eq;rw [BitVec.toNat_ofInt,BitVec.toNat_ofNat,IntKind.wrap_i64];omega
 have e2:(BitVec.ofInt 64 (IntKind.i64.wrap (z:Int)) &&& BitVec.ofInt 64 127).toNat=z % 128:=by
  rw [e1,show BitVec.ofInt 64 127=BitVec.ofNat 64 127 by decide,BitVec.toNat_and,BitVec.toNat_ofNat,BitVec.toNat_ofNat,Nat.mod_eq_of_lt h];exact Nat.and_two_pow_sub_one_eq_mod z 7
 have e3:(BitVec.ofInt IntKind.i64.bits (IntKind.i64.wrap (z:Int)) &&& BitVec.ofInt IntKind.i64.bits 127).toNat=z % 128:=e2;rw [e3,IntKind.wrap_i64];omega
theorem BG (x:Nat) (hx:x < 18446744073709551616):EvP Tryz.prog 164 [.v (.int .u64 x)] (.v (.int .i64 (yp x:Nat))):=by
 obtain ⟨y1,y2,y3,h1,Md,h2,h2s,Ro,h3,p0,p1,p2,p3,p4,p5,p6,p7,h4,hp,h5⟩:=Ek hx;rw [h5];simp only [valB] at h4;refine ev_go (P:=Tryz.prog) tt tt_ok 5000 35 [.tmp 2] Tryz.func164 rfl Tryz.ntmps164 rfl (nL rfl) (fun E9 w9 hn9 hm9=>?_);refine ⟨by decide,?_⟩;refine ⟨by decide,?_⟩;refine ⟨by decide,?_⟩;refine ⟨by decide,?_⟩;refine ⟨by decide,?_⟩;refine ⟨by decide,?_⟩;refine (congrArg (fun z=>DV.v (.int .i64 z)) ?_:_=_);rw [OS (k:=1) (M:=6148914691236517205) (by decide) hx rfl (by decide) h1 Md,OS (k:=2) (M:=3689348814741910323) (by decide) Md rfl (by decide) h2 Ro,R8 (k:=4) (M:=1085102592571150095) (by decide) h2s rfl (by decide) h3];obtain ⟨z1,z2,z3,g1,g1b,g2,g2b,g3,Um,g4⟩:=El hp;rw [<- h4] at g1;have k1:y3 + y3 / 2 ^ (8:Int).toNat=z1:=g1;rw [K2 (k:=8) (by decide) (by rw [k1];exact g1b),k1];have k2:z1 + z1 / 2 ^ (16:Int).toNat=z2:=g2;rw [K2 (k:=16) (by decide) (by rw [k2];exact g2b),k2];have k3:z2 + z2 / 2 ^ (32:Int).toNat=z3:=g3;rw [K2 (k:=32) (by decide) (by rw [k3];exact Um),k3,<- g4];exact Em Um
theorem eI (x k i:Nat) (hi:i < 8):(x / 2 ^ (8 * k) % 256).testBit i=x.testBit (8 * k + i):=by
 rw [show (256:Nat)=2 ^ 8 by decide,Nat.testBit_mod_two_pow,decide_eq_true hi,Bool.true_and,Nat.testBit_div_two_pow,Nat.add_comm]
theorem eJ (x k:Nat):pop8 (x / 2 ^ (8 * k) % 256)=(((((((x.testBit (8 * k + 0)).toNat + (x.testBit (8 * k + 1)).toNat) + (x.testBit (8 * k + 2)).toNat) + (x.testBit (8 * k + 3)).toNat) + (x.testBit (8 * k + 4)).toNat) + (x.testBit (8 * k + 5)).toNat) + (x.testBit (8 * k + 6)).toNat) + (x.testBit (8 * k + 7)).toNat:=by
 have h:=(Ag ⟨x / 2 ^ (8 * k) % 256,Nat.mod_lt _ (by decide)⟩).2.2.2;simp only at h;rw [h,eI x k 0 (by decide),eI x k 1 (by decide),eI x k 2 (by decide),eI x k 3 (by decide),eI x k 4 (by decide),eI x k 5 (by decide),eI x k 6 (by decide),eI x k 7 (by decide)]
def sumB (x:Nat):Nat->Nat
 | 0=>0
 | n + 1=>sumB x n + (x.testBit n).toNat
theorem Eo (x:Nat):yp x=sumB x 64:=by
 have h0:=eJ x 0;have h1:=eJ x 1;have h2:=eJ x 2;have h3:=eJ x 3;have h4:=eJ x 4;have h5:=eJ x 5;have h6:=eJ x 6;have h7:=eJ x 7;simp only [Nat.mul_zero,Nat.pow_zero,Nat.div_one] at h0;simp only [yp,cG,List.map_cons,List.map_nil,List.sum_cons,List.sum_nil,sumB];rw [h0]
 rw [show x / 256=x / 2 ^ (8 * 1) by rfl,h1,show x / 65536=x / 2 ^ (8 * 2) by rfl,h2,show x / 16777216=x / 2 ^ (8 * 3) by rfl,h3,show x / 4294967296=x / 2 ^ (8 * 4) by rfl,h4,
  show x / 1099511627776=x / 2 ^ (8 * 5) by rfl,h5,show x / 281474976710656=x / 2 ^ (8 * 6) by rfl,h6,show x / 72057594037927936=x / 2 ^ (8 * 7) by rfl,h7]
 simp only [Nat.reduceMul,Nat.reduceAdd];omega
theorem pN (x:Nat):∀ n,0 < sumB x n↔∃ b,b < n/\x.testBit b=true
 | 0=>by simp [sumB]
 | n + 1=>by
  have ih:=pN x n;simp only [sumB];cases h:x.testBit n
  ·simp only [Bool.toNat_false,Nat.add_zero,ih]
   exact ⟨fun ⟨b,hb,hx⟩=>⟨b,by omega,hx⟩,fun ⟨b,hb,hx⟩=>⟨b,by
    rcases Nat.lt_succ_iff_lt_or_eq.1 hb with hb | rfl
    ·exact ⟨hb,hx⟩
    ·rw [h] at hx;cases hx⟩⟩
  ·simp only [Bool.toNat_true];exact ⟨fun _=>⟨n,by omega,h⟩,fun _=>by omega⟩
theorem vK (x a:Nat) (ha:x.testBit a=true):∀ n,a < n->(1 < sumB x n↔∃ b,b < n/\b≠a/\x.testBit b=true)
 | 0,h=>by omega
 | n + 1,h=>by
  simp only [sumB];by_cases hn:a=n
  ·subst hn;rw [ha,Bool.toNat_true];have:=pN x a;constructor
   ·intro h1;obtain ⟨b,hb,hx⟩:=this.1 (by omega);exact ⟨b,by omega,by omega,hx⟩
   ·rintro ⟨b,hb,aM,hx⟩;have:=this.2 ⟨b,by omega,hx⟩;omega
  ·have ih:=vK x a ha n (by omega);have hp:=(pN x n).2 ⟨a,by omega,ha⟩;cases hb:x.testBit n
   ·simp only [Bool.toNat_false,Nat.add_zero,ih]
    exact ⟨fun ⟨b,h1,h2,h3⟩=>⟨b,by omega,h2,h3⟩,fun ⟨b,h1,h2,h3⟩=>⟨b,by
     rcases Nat.lt_succ_iff_lt_or_eq.1 h1 with h1 | rfl
     ·exact ⟨h1,h2,h3⟩
     ·rw [hb] at h3;cases h3⟩⟩
   ·simp only [Bool.toNat_true];exact ⟨fun _=>⟨n,by omega,fun e=>hn e.symm,hb⟩,fun _=>by omega⟩
def bH (p:Nat->Bool) (n:Nat):Option Nat:=(List.range n).find? p
theorem eK {p:Nat->Bool} {n e:Nat} (he:e < n) (hp:p e=true) (h:∀ a,a < e->p a=false):bH p n=some e:=by
 unfold bH;rw [List.find?_eq_some_iff_getElem];refine ⟨hp,e,by simpa using he,by simp,fun j hj=>?_⟩;simp [h j hj]
theorem gq {p:Nat->Bool} {n:Nat} (h:∀ a,a < n->p a=false):bH p n=none:=by
 unfold bH;rw [List.find?_eq_none];intro x hx;simp [h x (by simpa using hx)]
theorem eL {p:Nat->Bool} {n e:Nat} (h:bH p n=some e):e < n/\p e=true/\∀ a,a < e->p a=false:=by
 unfold bH at h;rw [List.find?_eq_some_iff_getElem] at h;obtain ⟨h1,i,hi,rfl,h3⟩:=h;refine ⟨by simpa using hi,h1,fun a ha=>?_⟩;have:=h3 a (by simpa using ha);simpa using this
def lT (c:List Nat) (a:Nat):Bool:=decide (1 < yp (backN c a c.length))
def Ep:Option Nat->DV
 | some a=>.tup [.v (.int .i64 (a:Int)),.v (.bool true)]
 | none=>.tup [.v (.int .i64 0),.v (.bool false)]
abbrev tF (c:List Nat) (e:Nat):St:=
 ⟨[(4,⟨[],iZ c⟩),(9,⟨[],.v (.int .i64 c.length)⟩),(10,⟨[],.v (.int .i64 e)⟩)],[],[]⟩
theorem yr (rows:List Nat) (hr:cA rows) (h0:rows ≠ []):EvP Tryz.prog 99 [iZ rows] (Ep (bH (lT (closeR rows rows.length)) rows.length)):=by
 have hc:=nE rows hr h0;have cj:=gQ hr rows.length hr.1;have hlen:=cX rows rows.length;have hr1:=hr.1;generalize closeR rows rows.length=c at hc cj hlen ⊢;rw [<- hlen];have hl:=rU c;refine ev_go (P:=Tryz.prog) tt tt_ok 5000 20 [.tmp 2,.tmp 3] Tryz.func99 rfl Tryz.ntmps99 rfl (nL rfl) (fun E9 w9 hn9 hm9=>?_);refine call_p IL (hc) ax rfl ?_;refine call_p DD (hl) ax rfl ?_;refine aw (fun j st=>∃ e:Nat,st=tF c e/\e<=c.length/\(∀ a,a < e->lT c a=false)/\j=c.length - e) c.length (tF c 0) (weak_mk ⟨_,rfl⟩ wA rfl rfl rfl wB) ⟨0,rfl,by omega,fun a h=>by omega,by omega⟩ ?_;rintro j st ⟨e,rfl,he,mq,rfl⟩;refine br (fun hL=>?_) (fun hL=>?_)
 ·have aq:e < c.length:=by have:=hL;simp at this;exact this
  have K0:backN c e c.length < 18446744073709551616:=by
   have h1:=pJ c e c.length;have:2 ^ c.length<=2 ^ 64:=Nat.pow_le_pow_right (by decide) (by omega);omega
  refine call_p NI (yi c cj e aq) ax rfl ?_;refine call_p NH (BG _ K0) ax rfl ?_;refine br (fun g=>?_) (fun g=>?_)
  ·have g:lT c e=true:=by
    simp at g;simp [lT];omega
   rw [eK aq g mq];refine ⟨_,?_,rfl⟩;exact ax
  ·have g:lT c e=false:=by
    simp at g;simp [lT];omega
   exact ⟨tF c (e + 1),(weak_mk ⟨_,rfl⟩ wA rfl rfl rfl (wNB aq)),c.length - (e + 1),by omega,e + 1,rfl,by omega,fun a ha=>by
    rcases Nat.lt_succ_iff_lt_or_eq.1 ha with ha | rfl
    ·exact mq a ha
    ·exact g,rfl⟩
 ·have bJ:e=c.length:=by have:=hL;simp at this;omega
  subst bJ;rw [gq mq];refine ⟨_,?_,rfl⟩;exact ax
theorem pO {rows:List Nat} {i x a b:Nat} (hi:i < rows.length):aD (rows.set i x) a b=if a=i then x.testBit b else aD rows a b:=by
 unfold aD;simp only [List.getD_eq_getElem?_getD];by_cases h:a=i
 ·subst h;rw [List.getElem?_set_self hi,if_pos rfl];all_goals rfl
 ·rw [List.getElem?_set_ne (Ne.symm h),if_neg h]
theorem jZ {rows:List Nat} {k a b:Nat} (hk:k < rows.length):aD (e8 rows k) a b=(aD rows a b || (decide (a=k) && decide (b=k))):=by
 unfold e8;rw [pO hk];by_cases h:a=k
 ·subst h;rw [if_pos rfl,dN];simp only [decide_true,Bool.true_and];rw [show decide (a=b)=decide (b=a) from by simp only [eq_comm]];rfl
 ·rw [if_neg h];simp [h]
theorem BH {rows:List Nat} {k i a b:Nat} (hi:i < rows.length):aD (kr k rows i) a b=(aD rows a b || (decide (a=i) && (aD rows a k && aD rows k b))):=by
 unfold kr;by_cases h:aD rows i k=true
 ·rw [if_pos h,pO hi];by_cases ha:a=i
  ·subst ha;rw [if_pos rfl,Nat.testBit_or];simp only [decide_true,Bool.true_and,h];rfl
  ·rw [if_neg ha];simp [ha]
 ·rw [if_neg h];by_cases ha:a=i
  ·subst ha;simp only [Bool.not_eq_true] at h;simp [h]
  ·simp [ha]
theorem rV {rows:List Nat} {k:Nat} (hk:k < rows.length):∀ e,e<=rows.length->∀ a b,aD (de rows k e) a b=(aD (e8 rows k) a b || (decide (a < e) && (aD (e8 rows k) a k && aD (e8 rows k) k b)))
 | 0,_,a,b=>by simp [de]
 | e + 1,he,a,b=>by
  have ih:=rV hk e (by omega);rw [iF,BH (by rw [jY];omega),ih a b,ih a k,ih k b];have zE:aD (e8 rows k) k k=true:=by rw [jZ hk];simp
  generalize aD (e8 rows k)=s at *;by_cases h1:a=e
  ·subst h1;simp only [Nat.lt_irrefl,decide_false,Bool.false_and,Bool.or_false,decide_true,Bool.true_and,Nat.lt_succ_self,zE];cases s a b<;>cases s a k<;>cases s k b<;>simp
  ·by_cases h2:a < e
   ·have:a < e + 1:=by omega
    simp [h1,h2,this]
   ·have:¬ a < e + 1:=by omega
    simp [h1,h2,this]
inductive uE (p:Nat->Nat->Prop):Nat->Nat->Prop
 | refl (a:Nat):uE p a a
 | step {a b c:Nat}:uE p a b->p b c->uE p a c
theorem uE.trans {p:Nat->Nat->Prop} {a b c:Nat} (h1:uE p a b) (h2:uE p b c):uE p a c:=by
 induction h2 with
 | refl=>exact h1
 | step _ h ih=>exact .step ih h
theorem uE.mono {p q:Nat->Nat->Prop} (h:∀ a b,p a b->uE q a b) {a b:Nat} (h1:uE p a b):uE q a b:=by
 induction h1 with
 | refl=>exact .refl _
 | step _ h2 ih=>exact ih.trans (h _ _ h2)
def wayQ (p:Nat->Nat->Prop):Nat->Nat->Nat->Prop
 | 0,a,b=>a=b∨p a b
 | k + 1,a,b=>wayQ p k a b∨(wayQ p k a k/\wayQ p k k b)
theorem rW {p:Nat->Nat->Prop} (a:Nat):∀ k,wayQ p k a a
 | 0=>.inl rfl
 | k + 1=>.inl (rW a k)
theorem rX {p:Nat->Nat->Prop} {a b:Nat} (h:p a b):∀ k,wayQ p k a b
 | 0=>.inr h
 | k + 1=>.inl (rX h k)
theorem lU {p:Nat->Nat->Prop}:∀ k a b,wayQ p k a b->uE p a b
 | 0,a,b,h=>by
  rcases h with rfl | h
  ·exact .refl _
  ·exact .step (.refl _) h
 | k + 1,a,b,h=>by
  rcases h with h | ⟨h1,h2⟩
  ·exact lU k a b h
  ·exact (lU k a k h1).trans (lU k k b h2)
theorem iG {p:Nat->Nat->Prop}:∀ k a m b,m < k->wayQ p k a m->wayQ p k m b->wayQ p k a b
 | 0,_,_,_,h,_,_=>by omega
 | k + 1,a,m,b,hm,h1,h2=>by
  by_cases hmk:m=k
  ·subst hmk
   have qM:wayQ p m a m:=by
    rcases h1 with h1 | h1
    ·exact h1
    ·exact h1.1
   have R9:wayQ p m m b:=by
    rcases h2 with h2 | h2
    ·exact h2
    ·exact h2.2
   exact .inr ⟨qM,R9⟩
  ·have nv:m < k:=by omega
   rcases h1 with h1 | ⟨h1,h3⟩
   ·rcases h2 with h2 | ⟨h2,h4⟩
    ·exact .inl (iG k a m b nv h1 h2)
    ·exact .inr ⟨iG k a m k nv h1 h2,h4⟩
   ·rcases h2 with h2 | ⟨h2,h4⟩
    ·exact .inr ⟨h1,iG k k m b nv h3 h2⟩
    ·exact .inr ⟨h1,h4⟩
theorem pP {rows:List Nat}:∀ k,k<=rows.length->∀ a b,a < rows.length->((aD (closeR rows k) a b=true∨a=b)↔wayQ (fun x y=>aD rows x y=true) k a b)/\(a < k->aD (closeR rows k) a a=true)
 | 0,_,a,b,_=>by
  refine ⟨?_,fun h=>by omega⟩;simp only [closeR,List.range_zero,List.foldl_nil,wayQ];exact or_comm
 | k + 1,hk,a,b,ha=>by
  have ih:=pP (rows:=rows) k (by omega);have mn:k < (closeR rows k).length:=by rw [cX];omega
  have hb:∀ a b,a < rows.length->aD (closeR rows (k + 1)) a b=(aD (e8 (closeR rows k) k) a b || (aD (e8 (closeR rows k) k) a k && aD (e8 (closeR rows k) k) k b)):=fun a b ha=>by
   rw [gp,rV mn _ (Nat.le_refl _)];simp [cX,ha]
  have pQ:∀ a b,(aD (e8 (closeR rows k) k) a b=true∨a=b)↔(aD (closeR rows k) a b=true∨a=b):=fun a b=>by
   rw [jZ mn];simp only [Bool.or_eq_true,Bool.and_eq_true,decide_eq_true_eq];constructor
   ·rintro ((h | ⟨rfl,rfl⟩) | h)
    ·exact .inl h
    ·exact .inr rfl
    ·exact .inr h
   ·rintro (h | h)
    ·exact .inl (.inl h)
    ·exact .inr h
  have zE:aD (e8 (closeR rows k) k) k k=true:=by rw [jZ mn];simp
  have key:∀ a b,a < rows.length->((aD (closeR rows (k + 1)) a b=true∨a=b)↔wayQ (fun x y=>aD rows x y=true) (k + 1) a b):=fun a b ha=>by
   rw [hb a b ha];show _↔wayQ _ k a b∨(wayQ _ k a k/\wayQ _ k k b);rw [<- (ih a b ha).1,<- (ih a k ha).1,<- (ih k b (by omega)).1,<- pQ a b,<- pQ a k,<- pQ k b];simp only [Bool.or_eq_true,Bool.and_eq_true];constructor
   ·rintro ((h | ⟨h1,h2⟩) | h)
    ·exact .inl (.inl h)
    ·exact .inr ⟨.inl h1,.inl h2⟩
    ·exact .inl (.inr h)
   ·rintro ((h | h) | ⟨h1,h2⟩)
    ·exact .inl (.inl h)
    ·exact .inr h
    ·rcases h1 with h1 | rfl
     ·rcases h2 with h2 | rfl
      ·exact .inl (.inr ⟨h1,h2⟩)
      ·exact .inl (.inl h1)
     ·rcases h2 with h2 | rfl
      ·exact .inl (.inl h2)
      ·exact .inr rfl
  refine ⟨key a b ha,fun hak=>?_⟩;rw [hb a a ha];by_cases h:a=k
  ·subst h;rw [zE];all_goals rfl
  ·have:=(ih a a ha).2 (by omega);rw [jZ mn,this];all_goals rfl
theorem yt {rows:List Nat} (hb:∀ a b,a < rows.length->aD rows a b=true->b < rows.length) {a b:Nat} (ha:a < rows.length) (hbl:b < rows.length):aD (closeR rows rows.length) a b=true↔uE (fun x y=>x < rows.length/\aD rows x y=true) a b:=by
 have hw:=pP (rows:=rows) rows.length (Nat.le_refl _) a b ha
 have h1:aD (closeR rows rows.length) a b=true↔wayQ (fun x y=>aD rows x y=true) rows.length a b:=by
  rw [<- hw.1];constructor
  ·exact .inl
  ·rintro (h | rfl)
   ·exact h
   ·exact hw.2 ha
 rw [h1];constructor
 ·intro h
  have aq:∀ {x},uE (fun x y=>aD rows x y=true) a x->uE (fun x y=>x < rows.length/\aD rows x y=true) a x/\x < rows.length:=by
   intro x hx
   induction hx with
   | refl=>exact ⟨.refl _,ha⟩
   | step _ h2 ih=>exact ⟨.step ih.1 ⟨ih.2,h2⟩,hb _ _ ih.2 h2⟩
  exact (aq (lU _ _ _ h)).1
 ·intro h
  have:wayQ (fun x y=>aD rows x y=true) rows.length a b/\b < rows.length:=by
   clear h1 hw hbl
   induction h with
   | refl=>exact ⟨rW _ _,ha⟩
   | step _ h2 ih=>exact ⟨iG _ _ _ _ ih.2 ih.1 (rX h2.2 _),hb _ _ h2.1 h2.2⟩
  exact this.1
theorem Er {rows:List Nat} {p:Nat × Nat} {a b:Nat} (hp:p.1 < rows.length):aD (pL rows p) a b=(aD rows a b || (decide (a=p.1) && decide (b=p.2))):=by
 unfold pL;rw [pO hp];by_cases h:a=p.1
 ·subst h;rw [if_pos rfl,dN];simp only [decide_true,Bool.true_and];rw [show decide (p.2=b)=decide (b=p.2) from by simp only [eq_comm]];rfl
 ·rw [if_neg h];simp [h]
theorem rY:∀ (l:List (Nat × Nat)) (rows:List Nat) (a b:Nat),(∀ p∈l,p.1 < rows.length)->(aD (l.foldl pL rows) a b=true↔aD rows a b=true∨(a,b)∈l)
 | [],_,_,_,_=>by simp
 | p :: l,rows,a,b,h=>by
  rw [List.foldl_cons,rY l _ a b (fun q hq=>by rw [lS];exact h q (by simp [hq])),Er (h p (by simp))];simp only [Bool.or_eq_true,Bool.and_eq_true,decide_eq_true_eq,List.mem_cons];constructor
  ·rintro ((h1 | ⟨rfl,rfl⟩) | h1)
   ·exact .inl h1
   ·exact .inr (.inl rfl)
   ·exact .inr (.inr h1)
  ·rintro (h1 | rfl | h1)
   ·exact .inl (.inl h1)
   ·exact .inl (.inr ⟨rfl,rfl⟩)
   ·exact .inr h1
theorem pS {n:Nat} {l:List (Nat × Nat)} (h:∀ p∈l,p.1 < n) (a b:Nat):aD (cR n l) a b=true↔(a,b)∈l:=by
 unfold cR;rw [rY l _ a b (fun p hp=>by rw [List.length_replicate];exact h p hp)];constructor
 ·rintro (h1 | h1)
  ·unfold aD at h1;rw [List.getD_eq_getElem?_getD,List.getElem?_replicate] at h1;split at h1<;>simp at h1
  ·exact h1
 ·exact .inr
def fQ (n:Nat) (l:List (Nat × Nat)) (a b:Nat):Bool:=aD (closeR (cR n l) n) a b
def BI (n:Nat) (l:List (Nat × Nat)):Prop:=∀ p∈l,p.1 < n/\p.2 < n
theorem lV {n:Nat} {l:List (Nat × Nat)} (h:BI n l) {a b:Nat} (ha:a < n) (hb:b < n):fQ n l a b=true↔uE (fun x y=>(x,y)∈l) a b:=by
 have hlen:(cR n l).length=n:=fO n l;unfold fQ
 have:=yt (rows:=cR n l) (fun a b _ Ej=>by
  rw [pS (fun p hp=>(h p hp).1)] at Ej
  rw [hlen];exact (h _ Ej).2) (a:=a) (b:=b) (by omega) (by omega)
 rw [hlen] at this;rw [this];constructor
 ·exact uE.mono fun x y xY=>.step (.refl _) ((pS (fun p hp=>(h p hp).1) x y).1 xY.2)
 ·exact uE.mono fun x y xY=>.step (.refl _) ⟨(h _ xY).1,(pS (fun p hp=>(h p hp).1) x y).2 xY⟩
theorem rZ {n:Nat} {l:List (Nat × Nat)} (h:BI n l) {a:Nat} (ha:a < n):fQ n l a a=true:=(lV h ha ha).2 (.refl _)
theorem yu {n:Nat} {l:List (Nat × Nat)} (h:BI n l) {a b c:Nat} (ha:a < n) (hb:b < n) (hc:c < n) (h1:fQ n l a b=true) (h2:fQ n l b c=true):fQ n l a c=true:=
 (lV h ha hc).2 (((lV h ha hb).1 h1).trans ((lV h hb hc).1 h2))
def pT (n:Nat) (f:Nat->Nat->Bool) (a:Nat):Bool:=(List.range n).any fun b=>decide (a≠b) && (f a b && f b a)
theorem Et {n:Nat} {l:List (Nat × Nat)} (hn:n<=64) (h:BI n l) {a:Nat} (ha:a < n):lT (closeR (cR n l) n) a=pT n (fQ n l) a:=by
 have hlen:(closeR (cR n l) n).length=n:=by rw [cX,fO]
 unfold lT pT;rw [Eo,hlen,Bool.eq_iff_iff,decide_eq_true_eq]
 have haa:(backN (closeR (cR n l) n) a n).testBit a=true:=by
  rw [mR];have:aD (closeR (cR n l) n) a a=true:=rZ h ha;simp [ha,this]
 rw [vK _ a haa 64 (by omega)];simp only [List.any_eq_true,List.mem_range,Bool.and_eq_true,decide_eq_true_eq,mR];constructor
 ·rintro ⟨b,_,aM,hb,h1,h2⟩;exact ⟨b,hb,fun e=>aM e.symm,h1,h2⟩
 ·rintro ⟨b,hb,aM,h1,h2⟩;exact ⟨b,by omega,fun e=>aM e.symm,hb,h1,h2⟩
theorem tG {p q:Nat->Bool} {n:Nat} (h:∀ a,a < n->p a=q a):bH p n=bH q n:=by
 unfold bH
 have:∀ (l:List Nat),(∀ a∈l,p a=q a)->l.find? p=l.find? q:=by
  intro l
  induction l with
  | nil=>intro _;rfl
  | cons x r ih=>
   intro hl;rw [List.find?_cons,List.find?_cons,hl x (by simp),ih (fun a ha=>hl a (by simp [ha]))]
 exact this _ fun a ha=>h a (List.mem_range.1 ha)
theorem Hy {n:Nat} {l:List (Nat × Nat)} (hn:n<=64) (h:BI n l):bH (lT (closeR (cR n l) n)) n=bH (pT n (fQ n l)) n:=
 tG fun _ ha=>Et hn h ha
theorem BJ {l:List Wd} {i:Nat} {x:Wd} (h:l[i]? = some x):au (l.take (i + 1))=au (l.take i) ++ [x.s]:=by
 rw [List.take_add_one,h];simp [au]
theorem Ai (l:List Wd) (s:ByteArray):cz l s=true↔s∈au l:=by
 simp only [cz,List.any_eq_true,decide_eq_true_eq,au,List.mem_map]
theorem iH {l:List Wd} {i:Nat} {x:Wd} (h:l[i]? = some x) (hn:(au (l.take i)).Nodup):(au (l.take (i + 1))).Nodup↔cz (l.take i) x.s=false:=by
 rw [BJ h,List.nodup_append];constructor
 ·rintro ⟨_,_,h3⟩;cases hb:cz (l.take i) x.s
  ·rfl
  ·exact absurd rfl (h3 x.s ((Ai _ _).1 hb) x.s (by simp))
 ·intro hb;refine ⟨hn,by simp,fun a ha b eF=>?_⟩;simp only [List.mem_singleton] at eF;subst eF;rintro rfl;rw [(Ai _ _).2 ha] at hb;cases hb
theorem r6 {l:List Wd} {i:Nat} {x:Wd} (a:Int) (h:l[i]? = some x) (hn:(au (l.take i)).Nodup) :
  dL (au (l.take (i + 1))) x.s a=if aF l i x≠0 then (aF l i x,a) else (0,0):=by
 have hs:=iH h hn;unfold dL aF;by_cases h1:a7 x.s=true
 ·rw [if_pos h1,if_pos h1];by_cases h2:cz (l.take i) x.s=true
  ·rw [if_pos h2,if_neg (fun hc=>by rw [hs.1 hc] at h2;cases h2)];all_goals rfl
  ·rw [if_neg h2,if_pos (hs.2 (by simpa using h2))];all_goals rfl
 ·rw [if_neg h1,if_neg h1];all_goals rfl
theorem iI {l:List Wd} {i:Nat} {x:Wd} (h:l[i]? = some x) (hn:(au (l.take i)).Nodup) (hz:aF l i x=0):(au (l.take (i + 1))).Nodup:=by
 refine (iH h hn).2 ?_;unfold aF at hz;by_cases h1:a7 x.s=true
 ·rw [if_pos h1] at hz;by_cases h2:cz (l.take i) x.s=true
  ·rw [if_pos h2] at hz;simp at hz
  ·simpa using h2
 ·rw [if_neg h1] at hz;simp at hz
theorem r7 (l:List Wd):∀ (d e:Nat),e + d=l.length->(enumP l e)=(0,0)->(au (l.take e)).Nodup->enumP l l.length=enumL l e (l.drop e)
 | 0,e,hd,hz,hn=>by
  have:e=l.length:=by omega
  subst this;rw [hz,List.drop_length];all_goals rfl
 | d + 1,e,hd,hz,hn=>by
  obtain ⟨x,hx⟩:∃ x,l[e]? = some x:=⟨_,gE (by omega)⟩;have h1:=pE (by rw [hz]) hx;rw [r6 x.a hx hn] at h1;rw [drop_cons hx];simp only [enumL];by_cases hf:aF l e x≠0
  ·rw [if_pos hf] at h1 ⊢;have aX:=kL (l:=l) (e:=e + 1) (by rw [h1];exact hf) d;rw [show e + 1 + d=l.length by omega] at aX;rw [aX,h1]
  ·rw [if_neg hf] at h1 ⊢;exact r7 l d (e + 1) (by omega) h1 (iI hx hn (by simpa using hf))
theorem Eu (h:Hd):jv h=iB h:=by
 unfold jv iB;by_cases h0:h.ae=[]
 ·rw [if_pos h0,if_pos (by simp [h0])]
 ·rw [if_neg h0,if_neg (by simpa using h0)];by_cases h1:64 < h.ae.length
  ·rw [if_pos h1,if_pos h1]
  ·rw [if_neg h1,if_neg h1];have:=r7 h.ae h.ae.length 0 (by omega) rfl (by simp [au]);simpa using this
def jx (p:Ph):Ph:=⟨p.name,true,[],0,0,0,0,[]⟩
theorem Hz (p:Ph) (t:Ty):bM p t (jx p) bG=(bL p dK && sameTy t bG):=by
 have e:bL p (jx p)=bL p dK:=rfl;unfold bM;rw [e];have e2:decide (p.name.s=(jx p).name.s)=true:=decide_eq_true rfl;rw [e2,Bool.true_and]
theorem empty_eq (p:Ph):bM p bG du bG=(decide (p.name.s=al) && bL p du):=by
 have e:sameTy bG bG=true:=by simp [bG,DO,sameTy,kJ,samePts,sameWds]
 simp only [bM,e,Bool.and_true];rfl
def dw (L:List ByteArray) (s:ByteArray):Option Nat:=bH (fun i=>decide (L[i]? = some s)) L.length
theorem eu {L:List ByteArray} {s:ByteArray} {p:Nat} (h:dw L s=some p):p < L.length/\L[p]? = some s/\∀ j,L[j]? = some s->p<=j:=by
 obtain ⟨h1,h2,h3⟩:=eL h;refine ⟨h1,by simpa using h2,fun j hj=>?_⟩;rcases Nat.lt_or_ge j p with h4 | h4
 ·have:=h3 j h4;simp [hj] at this
 ·exact h4
theorem HA {L:List ByteArray} {s:ByteArray} {p:Nat} (h1:L[p]? = some s) (h2:∀ j,L[j]? = some s->p<=j):dw L s=some p:=by
 refine eK (gS h1).1 (by simpa using h1) fun a ha=>?_;simp only [decide_eq_false_iff_not];intro h3;have:=h2 a h3;omega
theorem BK {L:List ByteArray} {s:ByteArray} (h:∀ j:Nat,L[j]? ≠ some s):dw L s=none:=gq fun a _=>by simpa using h a
theorem ey (L:List ByteArray) (ap:List Nat) (s:ByteArray) (hT:dY L ap) (hl:ap.length<=1099511627776) :
  EvP Tryz.prog 93 [.pt (bK L ap) 0,.v (.string s)] (Ep (dw L s)):=by
 by_cases hm:s∈L
 ·obtain ⟨j,hj⟩:=List.mem_iff_getElem?.1 hm;obtain ⟨q,p,hq,hp⟩:=hT.all j s hj;rw [HA hp fun j' eS=>hT.fst q p j' s hq hp eS];exact find_spec L ap s q p hT hl hq hp
 rw [BK fun j hj=>hm (mG hj)]
 let pr:Nat->Prop:=fun i=>i=ap.length∨∃ p t,ap[i]? = some p/\L[p]? = some t/\qX t s=false
 obtain ⟨m,fm,qO⟩:=least (p:=pr) ⟨ap.length,.inl rfl⟩;have hmn:m<=ap.length:=qO _ (.inl rfl);refine ev_go (P:=Tryz.prog) tt tt_ok 5000 47 [.tmp 4,.tmp 5] Tryz.func93 rfl Tryz.ntmps93 rfl (nL rfl) (fun E9 w9 hn9 hm9=>?_)
 have ia:∀ i:Nat,i < ap.length->EvP Tryz.prog 160 [.v (.int .i64 i),.pt [.pt (bK L ap) 0] 0,.pt [.v (.string s)] 0] (.v (.bool (decide (m<=i)))):=by
  intro i hi;obtain ⟨p',lD⟩:∃ p',ap[i]? = some p':=⟨_,gE hi⟩;obtain ⟨t,ht⟩:∃ t,L[p']? = some t:=⟨_,gE (hT.lt i p' lD)⟩;have:=pj L ap s i p' t lD ht
  have e:(!qX t s)=decide (m<=i):=by
   by_cases h:m<=i
   ·have:qX t s=false:=by
     rcases fm with fm | ⟨p,u,h1,h2,h3⟩
     ·omega
     ·rcases Nat.lt_or_eq_of_le h with h4 | h4
      ·have h5:=hT.RN m i p p' u t h4 h1 lD h2 ht;cases h6:qX t s
       ·rfl
       ·have:=dt h5 h6;unfold qX at h3;rw [this] at h3;cases h3
      ·subst h4;rw [h1] at lD;simp only [oI] at lD;subst lD;rw [h2] at ht;simp only [oI] at ht;subst ht;exact h3
    simp [this,h]
   ·have:qX t s=true:=by
     cases h6:qX t s
     ·exact absurd (qO i (.inr ⟨p',t,lD,ht,h6⟩)) h
     ·rfl
    simp [this,h]
  rw [e] at this;exact this
 have hS:=nB 160 I1 [.pt [.pt (bK L ap) 0] 0,.pt [.v (.string s)] 0] ap.length m hl hmn ax rfl ia;refine tg I0 hS (by repeat' (first | exact rfl | exact trivial | exact Or.inr (Or.inl ⟨_,rfl⟩) | exact Or.inr ⟨_,rfl⟩ | exact Or.inl ⟨rfl,rfl⟩ | exact Or.inl rfl | refine Or.inr ⟨_,_,rfl,Nat.zero_le _,rfl,?_⟩ | refine ⟨_,_,rfl,?_,?_⟩ | refine ⟨_,rfl,?_⟩ | exact congrArg (fun z=>DV.v (.int .i64 z)) (congrArg Nat.cast (bw ap)) | refine Or.inr (Or.inr (Or.inr ⟨_,_,rfl,?_⟩)) | exact Or.inl rfl | refine Or.inr ?_)) rfl ?_;refine aR (fun _=>false) mo (by decide +kernel) ?_;refine br (fun h=>?_) (fun h=>?_)
 ·have aq:m < ap.length:=by
   have:decide ((m:Int)=((dInts ap).length:Int))=false:=by simpa using h
   simp [bw] at this;omega
  rcases fm with fm | ⟨p,t,h1,h2,h3⟩
  ·omega
  refine ⟨_,⟨by omega,dc h1⟩,?_⟩;refine ⟨_,⟨by omega,dr h2⟩,?_⟩;refine br (fun h4=>?_) (fun h4=>?_)
  ·exact ⟨_,ax,rfl⟩
  ·exfalso
   have hts:t=s:=by
    simp [ak] at h4;exact h4
   exact hm (hts ▸ mG h2)
 ·exact ⟨_,ax,rfl⟩
def gT (l:List Wd) (o:List (Wd × Wd)):Ft:=
 if l=[] then (15,0)
 else if 32 < l.length then (8,((l[32]?).getD (⟨al,0⟩:Wd)).a)
 else if 256 < o.length then (8,((o[256]?).getD ((⟨al,0⟩,⟨al,0⟩):Wd × Wd)).1.a)
 else (0,0)
theorem BL (l:List Wd) (o:List (Wd × Wd)):EvP Tryz.prog 94 [.sl 2 (bY l) none,.sl 4 (pI o) none] (gT l o).d:=by
 refine ev_go (P:=Tryz.prog) tt tt_ok 5000 30 [.cell 4 54] Tryz.func94 rfl Tryz.ntmps94 rfl (nL rfl) (fun E9 w9 hn9 hm9=>?_);refine br (fun h=>?_) (fun h=>?_)
 ·have h:l=[]:=by simpa [aA] using h
  refine ⟨_,?_,rfl⟩;rw [gT,if_pos h];exact ax
 have h:¬ l=[]:=by simpa [aA] using h
 refine br (fun h1=>?_) (fun h1=>?_)
 ·have h1:32 < l.length:=by simp [aA] at h1;omega
  obtain ⟨x,hx⟩:∃ x,l[32]? = some x:=⟨_,gE h1⟩;refine ⟨uC x,⟨by omega,cx hx⟩,?_⟩;refine ⟨_,?_,rfl⟩;rw [gT,if_neg h,if_pos h1,hx];exact ax
 have h1:¬ 32 < l.length:=by simp [aA] at h1;omega
 refine br (fun h2=>?_) (fun h2=>?_)
 ·have h2:256 < o.length:=by simp [lP] at h2;omega
  obtain ⟨x,hx⟩:∃ x,o[256]? = some x:=⟨_,gE h2⟩;refine ⟨Qq x,⟨by omega,vG hx⟩,?_⟩;refine ⟨_,?_,rfl⟩;rw [gT,if_neg h,if_neg h1,if_pos h2,hx];exact ax
 have h2:¬ 256 < o.length:=by simp [lP] at h2;omega
 refine ⟨_,?_,rfl⟩;rw [gT,if_neg h,if_neg h1,if_neg h2];exact ax
def OT (f:Ft) (L:List ByteArray):DV:=.tup [if f.1=0 then .sl 1 (cD L) none else .v (.slice none 0 0),f.d]
abbrev Ew (l:List Wd) (n e:Nat):St:=
 ⟨[(3,⟨[],.loc 0 0⟩),(4,⟨[],.sl 1 (cD (au (l.take e))) (some 0)⟩),(7,⟨[],.sl 2 (bY l) none⟩),(8,⟨[],.v (.int .i64 (bY l).length)⟩),(9,⟨[],.v (.int .i64 e)⟩)],[[.v (.int .i64 0),.v (.int .i64 0)]],[⟨n,9,1,none⟩]⟩
theorem pU {all:List Wd} {e:Nat} {w:Wd} (h:all[e]? = some w):enumL all e (all.drop e)=if aF all e w≠0 then (aF all e w,w.a) else enumL all (e + 1) (all.drop (e + 1)):=by
 rw [drop_cons h,enumL]
theorem vM (l:List Wd) (hs:wdsWt l<=1099511627776):EvP Tryz.prog 95 [.sl 2 (bY l) none] (OT (enumL l 0 l) (au l)):=by
 have oN:=cw l;refine ev_go (P:=Tryz.prog) tt tt_ok 5000 36 [.tmp 2,.cell 3 54] Tryz.func95 rfl Tryz.ntmps95 rfl (nL rfl) (fun E9 w9 hn9 hm9=>?_);refine aw (fun j st=>∃ e:Nat,st=Ew l e e/\e<=l.length/\(au (l.take e)).Nodup/\enumL l 0 l=enumL l e (l.drop e)/\j=l.length - e) l.length (Ew l 0 0) (jj ⟨0,9,1,none⟩ rfl ⟨_,rfl⟩ rfl wA rfl rfl Gv) ⟨0,rfl,by omega,by simp [au],rfl,by omega⟩ ?_;rintro j st ⟨e,rfl,he,hnd,bd,rfl⟩;rw [bd];refine br (fun hL=>?_) (fun hL=>?_)
 ·have aq:e < l.length:=by simpa [aA] using hL
  obtain ⟨w,hw⟩:∃ w,l[e]? = some w:=⟨_,gE aq⟩;have R5:=jU (mG hw);have iY:=gM hw;have aX:=pU hw;have qR:=iH hw hnd;have Mh:=kI (au (l.take (e + 1))) (by simp [au];omega);rw [<- iY] at Mh;refine ⟨uC w,⟨by omega,cx hw⟩,?_⟩;refine ⟨by simp [bl,au];omega,⟨by simp [bl,au,maxLen];omega,by simp [bl,au];omega⟩,?_⟩;refine call_p vg (fK w.s (by omega)) ax rfl ?_;refine br (fun hN=>?_) (fun hN=>?_)
  ·have hN:a7 w.s=false:=by simpa using hN
   have hf:aF l e w=9:=by simp [aF,hN]
   rw [aX,hf,if_pos (by decide)];refine aZ mo (by decide +kernel) ?_;exact ⟨_,ax,rfl⟩
  ·have hN:a7 w.s=true:=by simpa using hN
   refine bP DC rfl Mh ax (fun r hr=>?_);obtain ⟨z,rfl,hz⟩:=hr;refine br (fun h2=>?_) (fun h2=>?_)
   ·have h2:0<=z:=by simpa using h2
    have hd:cz (l.take e) w.s=true:=by
     cases hd:cz (l.take e) w.s
     ·exact absurd (qR.2 hd) (hz.1 h2)
     ·rfl
    have hf:aF l e w=10:=by simp [aF,hN,hd]
    rw [aX,hf,if_pos (by decide)];refine aZ mo (by decide +kernel) ?_;exact ⟨_,ax,rfl⟩
   ·have h2:¬ 0<=z:=by simpa using h2
    have pa:(au (l.take (e + 1))).Nodup:=Classical.byContradiction fun hn=>h2 (hz.2 hn);have hf:aF l e w=0:=by simp [aF,hN,qR.1 pa]
    rw [hf,if_neg (by simp)] at aX;refine ⟨Ew l (e + 1) (e + 1),(weak_mk ⟨_,rfl⟩ wA rfl rfl rfl (A8 aq iY)),l.length - (e + 1),by omega,e + 1,rfl,by omega,pa,aX,rfl⟩
 ·have bJ:e=l.length:=by
   have:=hL;simp [aA] at this;omega
  have h0:enumL l e (l.drop e)=(0,0):=by rw [bJ,List.drop_length];all_goals rfl
  rw [h0];have ht:l.take e=l:=by rw [bJ,List.take_length]
  rw [ht];exact ⟨_,ax,rfl⟩
def numF (L:List ByteArray):List (Wd × Wd)->Ft
 | []=>(0,0)
 | p :: r=>if dw L p.1.s=none then (17,p.1.a) else if dw L p.2.s=none then (17,p.2.a) else numF L r
def K3 (L:List ByteArray) (p:Wd × Wd):Nat × Nat:=((dw L p.1.s).getD 0,(dw L p.2.s).getD 0)
def dG (L:List ByteArray) (o:List (Wd × Wd)):List (Nat × Nat):=o.map (K3 L)
def OU (f:Ft) (l:List (Nat × Nat)):DV:=.tup [if f.1=0 then .sl 2 (n4 l) none else .v (.slice none 0 0),f.d]
theorem BM {L:List ByteArray} {o:List (Wd × Wd)} {e a b:Nat} {x:Wd × Wd} (h:o[e]? = some x) (ha:dw L x.1.s=some a) (hb:dw L x.2.s=some b):n4 (dG L (o.take e)) ++ [[DV.v (.int .i64 (a:Int)),DV.v (.int .i64 (b:Int))]]=n4 (dG L (o.take (e + 1))):=by
 rw [List.take_add_one,h];simp [n4,dG,K3,ha,hb,R7]
abbrev Ex (L:List ByteArray) (ap:List Nat) (o:List (Wd × Wd)) (n e:Nat):St:=
 ⟨[(0,⟨[],.pt (bK L ap) 0⟩),(5,⟨[],.loc 0 0⟩),(6,⟨[],.sl 2 (n4 (dG L (o.take e))) (some 0)⟩),(12,⟨[],.sl 4 (pI o) none⟩),(13,⟨[],.v (.int .i64 (pI o).length)⟩),(14,⟨[],.v (.int .i64 e)⟩)],[[.v (.int .i64 0),.v (.int .i64 0)]],[⟨n,257,2,none⟩]⟩
theorem qY (L:List ByteArray) (ap:List Nat) (hT:dY L ap) (hl:ap.length<=1099511627776) (o:List (Wd × Wd)) (hs:prsWt o<=1099511627776) :
  EvP Tryz.prog 97 [.pt (bK L ap) 0,.sl 4 (pI o) none] (OU (numF L o) (dG L o)):=by
 have oN:=mP o;refine ev_go (P:=Tryz.prog) tt tt_ok 5000 55 [.tmp 4,.cell 5 54] Tryz.func97 rfl Tryz.ntmps97 rfl (nL rfl) (fun E9 w9 hn9 hm9=>?_);refine aw (fun j st=>∃ e:Nat,st=Ex L ap o e e/\e<=o.length/\numF L o=numF L (o.drop e)/\j=o.length - e) o.length (Ex L ap o 0 0) (jj ⟨0,257,2,none⟩ rfl ⟨_,rfl⟩ rfl wA rfl rfl Gv) ⟨0,rfl,by omega,rfl,by omega⟩ ?_;rintro j st ⟨e,rfl,he,bd,rfl⟩;rw [bd];refine br (fun hL=>?_) (fun hL=>?_)
 ·have aq:e < o.length:=by simpa [lP] using hL
  obtain ⟨w,hw⟩:∃ w,o[e]? = some w:=⟨_,gE aq⟩;have aX:numF L (o.drop e)=if dw L w.1.s=none then (17,w.1.a) else if dw L w.2.s=none then (17,w.2.a) else numF L (o.drop (e + 1)):=by rw [drop_cons hw,numF]
  have Ht:=ey L ap w.1.s hT hl;have xC:=ey L ap w.2.s hT hl;refine ⟨Qq w,⟨by omega,vG hw⟩,?_⟩
  cases ha:dw L w.1.s with
  | none=>
   rw [ha] at Ht;refine call_p pg (Ht) ax rfl ?_;rw [aX,if_pos ha];refine aZ mo (by decide +kernel) ?_;exact ⟨_,ax,rfl⟩
  | some a=>
   rw [ha] at Ht;refine call_p pg (Ht) ax rfl ?_
   cases hb:dw L w.2.s with
   | none=>
    rw [hb] at xC;refine call_p pg (xC) ax rfl ?_;rw [aX,if_neg (by rw [ha];simp),if_pos hb];refine aZ mo (by decide +kernel) ?_;exact ⟨_,ax,rfl⟩
   | some b=>
    rw [hb] at xC;refine call_p pg (xC) ax rfl ?_;rw [if_neg (by rw [ha];simp),if_neg (by rw [hb];simp)] at aX;refine ⟨by simp [jw,dG];omega,⟨by simp [jw,dG,maxLen];omega,by simp [jw,dG];omega⟩,?_⟩;refine ⟨Ex L ap o (e + 1) (e + 1),(weak_mk ⟨_,rfl⟩ wA rfl rfl rfl (by repeat' (first | exact trivial | exact ai rfl | exact aj (ej aq (by omega)) | exact iQ (BM hw ha hb) rfl | refine ⟨⟨_,rfl,?_⟩,?_⟩))),o.length - (e + 1),by omega,e + 1,rfl,by omega,aX,rfl⟩
 ·have bJ:e=o.length:=by
   have:=hL;simp [lP] at this;omega
  have h0:numF L (o.drop e)=(0,0):=by rw [bJ,List.drop_length];all_goals rfl
  rw [h0];have ht:o.take e=o:=by rw [bJ,List.take_length]
  rw [ht];exact ⟨_,ax,rfl⟩
end Go.Proofs.YtfifjddnnmfeoaaGreat
namespace Go.Proofs.YtfifjddnnmfeoaaGreat
namespace Dv
open Go Go.RowKit
section
variable {X:Ctx} {st:St} {k:List It} {E:En} {a:Act} {w:World}
def Wk (X:Ctx) (st st':St):Prop:=∀ E a w,Rel X E st a w->∃ E',Rel X E' st' a w
theorem Wk.refl (X:Ctx) (st:St):Wk X st st:=fun E _ _ h=>⟨E,h⟩
theorem Wk.trans {X:Ctx} {s1 s2 s3:St} (h1:Wk X s1 s2) (h2:Wk X s2 s3):Wk X s1 s3:=fun _ _ _ h=>by
 obtain ⟨E1,h3⟩:=h1 _ _ _ h;exact h2 _ _ _ h3
theorem Wk.K4 {X:Ctx} {s1 s2:St} (h:u3 X.n0 X.m0 s1 s2):Wk X s1 s2:=fun _ _ _ hr=>oW hr h
theorem r8 {f:FuncId} {args aV:List DV} {os:List (List DV)} (n1 m1:Nat) (uS:Nat.ble n1 st.bx.length=true) (fm:Nat.ble m1 st.tk.length=true)
  (qU:iV [] n1 n1 m1 os (st.bx.take n1)) (ha:CcL [] n1 n1 m1 aV args)
  {Φ:DV->List (List DV)->List TkE->Prop} (hc:MT false X.P f aV os (st.tk.take m1) X.bt Φ) (aX:X.still=false) {vs:List Value} (h:Rel X E st a w) (hv:RvL E args vs) :
  Calls X.P f vs.toArray w fun e w'=>∃ v r dT bi E',e = .returned v/\Φ r dT bi /\ dT.length=n1/\bi.length=m1/\Rel X E' ⟨st.sl,dT ++ st.bx.drop n1,bi ++ st.tk.drop m1⟩ a w' /\ Rv E' r v/\Ext E E' /\ E'.β=E.β /\
   ∀ (i:Nat) b,n1<=i->E.β[i]? = some b->w'.heap[b]? = w.heap[b]?:=by
 have uS:=nL uS;have fm:=nL fm;have hlen:=h.env.len;have ic:=h.env.tl;have ib:=h.tk;have htkl:E.tk.length=st.tk.length:=by rw [ib]
 let E1:En:=⟨E.c,E.β.take n1,E.tk.take m1,E.τ.take m1⟩
 have hfz:CK E E1 [] n1:=⟨fun _ _ h=>h,fun i cs _ hi=>by simp at hi⟩
 have qV:A5 E E1 n1 m1:={
  β:=fun i b hi hb=>by show (E.β.take n1)[i]? = _;rw [List.getElem?_take,if_pos hi];exact hb
  tk:=fun k hk=>⟨by show (E.tk.take m1)[k]? = _;rw [List.getElem?_take,if_pos hk],by show (E.τ.take m1)[k]? = _;rw [List.getElem?_take,if_pos hk]⟩ }
 obtain ⟨gJ,MS⟩:=qU.get;have Sa:os.length=n1:=by rw [gJ,List.length_take];omega
 have OV:∀ (j:Nat) y,(E.τ.take m1)[j]? = some y->j < m1/\E.τ[j]? = some y:=fun j y hy=>by
  rw [List.getElem?_take] at hy;split at hy
  ·rename_i hj;exact ⟨hj,hy⟩
  ·cases hy
 have hkg:∀ (j:Nat) q,(E.tk.take m1)[j]? = some q->j < m1/\E.tk[j]? = some q:=fun j y hy=>by
  rw [List.getElem?_take] at hy;split at hy
  ·rename_i hj;exact ⟨hj,hy⟩
  ·cases hy
 have Rq:Env E1 os w:={
  len:=by show (E.β.take n1).length=_;rw [List.length_take,Sa];omega
  tl:=by show (E.τ.take m1).length=(E.tk.take m1).length;rw [List.length_take,List.length_take,ic]
  cL:=fun i cs' hi=>by
   obtain ⟨cs,bE,qP⟩:=MS i cs' hi;rw [List.getElem?_take] at bE;split at bE
   ·rename_i aq;obtain ⟨b,ty,arr,hb,hw,hc⟩:=h.env.cL i cs bE;exact ⟨b,ty,arr,qV.β i b aq hb,hw,CcL.sound hfz qV qP hc.1,hc.2⟩
   ·cases bE
  inj:=h.env.inj.sublist (List.take_sublist _ _)
  sub:=h.env.sub
  pc:=fun x v hx hm=>h.env.pc x v hx (List.mem_of_mem_take hm)
  bQ:=fun j q y hq hy=>by
   obtain ⟨_,hq⟩:=hkg j q hq;obtain ⟨_,hy⟩:=OV j y hy;rcases h.env.bQ j q y hq hy with h1 | ⟨g,cap,cur,rfl,h1,h2,h3,h4,h5,h6⟩
   ·exact .inl h1
   ·exact .inr ⟨g,cap,cur,rfl,h1,h2,h3,h4,fun hm=>h5 (List.mem_of_mem_take hm),h6⟩
  gf:=fun j j' y y' g zH hy eQ=>h.env.gf j j' y y' g zH (OV j y hy).2 (OV j' y' eQ).2 }
 refine (hc E1 w _ Rq (by show E.tk.take m1=_;rw [ib]) (h.bt.sub n1) (CcL.sound hfz qV ha hv)).mono ?_;rintro e w' ⟨v,rfl,⟨hm,_,r,dT,E2,he,hβ,mS,hn,Kl,hΦ⟩,Sb⟩;have mS:E2.tk.length=E1.tk.length:=mS;have Sc:E1.tk.length=m1:=by show (E.tk.take m1).length=_;rw [List.length_take];omega
 have hE1τ:E1.τ.length=m1:=by show (E.τ.take m1).length=_;rw [List.length_take];omega
 have Sd:E1.β.length=n1:=by show (E.β.take n1).length=_;rw [List.length_take];omega
 rw [Sc] at mS;have L7:E2.τ.length=m1:=by rw [he.tl,mS]
 have yv:dT.length=n1:=by rw [<- he.len,hβ,Sd]
 have hS:∀ j,E1.S j->j∈E.β.take n1∨∃ i y,i < m1/\E.τ[i]? = some y/\y.ownBlock=some j:=fun j hj=>by
  rcases hj with h1 | ⟨y,h1,h2⟩
  ·exact .inl h1
  ·obtain ⟨i,hi,he⟩:=List.getElem_of_mem h1;have dE:E1.τ[i]? = some y:=by rw [gE hi,he]
   obtain ⟨h3,h4⟩:=OV i y dE;exact .inr ⟨i,y,h3,h4,h2⟩
 have hh:∀ j,j < w.heap.size->¬ E1.S j->w'.heap[j]? = w.heap[j]?:=fun j hj aM=>hm.block j hj aM;have bR:∀ (i:Nat) y g,E.τ[i]? = some y->y.ownBlock=some g->g < w.heap.size/\g ∉ E.β:=fun i y g hy hg=>h.env.own (mG hy) hg
 have cC:∀ x v,E2.c x=some v->E.c x=some v∨w.heap.size<=x.block∨∃ i y,i < m1/\E.τ[i]? = some y/\y.ownBlock=some x.block:=fun x v hx=>by
  rcases hn.cn x v hx with h1 | h1 | ⟨y,h1,h2⟩
  ·exact .inl h1
  ·exact .inr (.inl h1)
  ·obtain ⟨i,hi,he⟩:=List.getElem_of_mem h1;have dE:E1.τ[i]? = some y:=by rw [gE hi,he]
   obtain ⟨h3,h4⟩:=OV i y dE;exact .inr (.inr ⟨i,y,h3,h4,h2⟩)
 have oR:∀ (j:Nat) q,j < m1->E.tk[j]? = some q->∃ y q' y',E.τ[j]? = some y/\E2.tk[j]? = some q' /\ E2.τ[j]? = some y' /\ q.ty=q'.ty/\q.e=q'.e/\((q'.n=q.n/\y'=y)∨q.n < q'.n)/\(y'.ownBlock=y.ownBlock∨∀ g,y'.ownBlock=some g->w.heap.size<=g):=fun j q hj hq=>by
  have qN:j < E.τ.length:=by rw [ic];omega
  obtain ⟨q',y',h1,h2,h3⟩:=hn.tk j q E.τ[j] (by show (E.tk.take m1)[j]? = _;rw [List.getElem?_take,if_pos hj];exact hq) (by show (E.τ.take m1)[j]? = _;rw [List.getElem?_take,if_pos hj,gE qN]);exact ⟨_,q',y',gE qN,h1,h2,h3⟩
 have Aj:∀ (j:Nat) y',j < m1->E2.τ[j]? = some y' -> ∃ y,E.τ[j]? = some y/\(y'.ownBlock=y.ownBlock∨∀ g,y'.ownBlock=some g->w.heap.size<=g):=fun j y' hj hy=>by
  have qN:j < E.tk.length:=by omega
  obtain ⟨y,q1,y1,h1,_,h3,_,_,_,h7⟩:=oR j _ hj (gE qN);rw [hy] at h3;simp only [oI] at h3;subst h3;exact ⟨y,h1,h7⟩
 let E':En:=⟨E2.c,E.β,E2.tk ++ E.tk.drop m1,E2.τ ++ E.τ.drop m1⟩
 have gg:∀ (j:Nat),m1<=j->E'.tk[j]? = E.tk[j]?:=fun j hj=>by
  show (E2.tk ++ E.tk.drop m1)[j]? = _;rw [List.getElem?_append_right (by omega),List.getElem?_drop,mS];congr 1;omega
 have K5:∀ (j:Nat),m1<=j->E'.τ[j]? = E.τ[j]?:=fun j hj=>by
  show (E2.τ ++ E.τ.drop m1)[j]? = _;rw [List.getElem?_append_right (by omega),List.getElem?_drop,L7];congr 1;omega
 have Dt:∀ (j:Nat),j < m1->E'.tk[j]? = E2.tk[j]?:=fun j hj=>by
  show (E2.tk ++ E.tk.drop m1)[j]? = _;rw [List.getElem?_append_left (by omega)]
 have CI:∀ (j:Nat),j < m1->E'.τ[j]? = E2.τ[j]?:=fun j hj=>by
  show (E2.τ ++ E.τ.drop m1)[j]? = _;rw [List.getElem?_append_left (by omega)]
 have hx:Ext E E':=⟨hn.c,fun _ _ h=>h,fun j q hq=>by
  rcases Nat.lt_or_ge j m1 with hj | hj
  ·obtain ⟨y,q',y',h1,h2,h3,_,_,h6,_⟩:=oR j q hj hq;refine ⟨q',by rw [Dt j hj];exact h2,?_⟩;rcases h6 with ⟨h6,rfl⟩ | h6
   ·exact .inl ⟨h6,by rw [CI j hj,h3,h1]⟩
   ·exact .inr h6
  ·exact ⟨q,by rw [gg j hj];exact hq,.inl ⟨rfl,K5 j hj⟩⟩⟩
 have Bd:Ext E2 E':={
  c:=fun _ _ h=>h
  β:=fun j b hj=>by
   rw [hβ] at hj;have hj:(E.β.take n1)[j]? = some b:=hj;rw [List.getElem?_take] at hj;split at hj
   ·exact hj
   ·cases hj
  tk:=fun j q hq=>by
   have hj:j < m1:=by have:=(gS hq).1;omega
   exact ⟨q,by rw [Dt j hj];exact hq,.inl ⟨rfl,CI j hj⟩⟩ }
 have Js:∀ (i:Nat) b,n1<=i->E.β[i]? = some b->w'.heap[b]? = w.heap[b]?:=fun i b hi hb=>by
  refine hh b (h.env.aK (mG hb)) fun hs=>?_;rcases hS b hs with h1 | ⟨i',y,_,h2,h3⟩
  ·obtain ⟨i',dE,M4⟩:=List.getElem_of_mem h1;have h4:(E.β.take n1)[i']? = some b:=by rw [gE dE,M4]
   rw [List.getElem?_take] at h4;split at h4
   ·rename_i aq;have:=(List.getElem?_inj (gS hb).1 h.env.inj).1 (hb.trans h4.symm);omega
   ·cases h4
  ·exact (bR i' y b h2 h3).2 (mG hb)
 have Se:j7 X.bt E.β w':=fun p hp b hb=>by
  rcases Nat.lt_or_ge p.1 n1 with aq | bJ
  ·exact Sb p hp b (by show (E.β.take n1)[p.1]? = _;rw [List.getElem?_take,if_pos aq];exact hb)
  ·obtain ⟨cs,bE⟩:=h.bt p hp b hb;exact ⟨cs,by rw [Js p.1 b bJ hb];exact bE⟩
 have bA:Rel X E' ⟨st.sl,dT ++ st.bx.drop n1,E2.tk ++ st.tk.drop m1⟩ a w':=by
  refine cg h hx ?_ (by show E2.tk ++ E.tk.drop m1=_;rw [ib]) ?_ (h.fr.bo hm.os hm.tape hm.output hm.size fun j hj=>?_) (kA aX) Se
  ·exact {
    len:=by show E.β.length=_;rw [List.length_append,List.length_drop,yv,hlen];omega
    tl:=by show (E2.τ ++ E.τ.drop m1).length=(E2.tk ++ E.tk.drop m1).length;simp only [List.length_append,List.length_drop,L7,mS,ic]
    cL:=fun i IJ hi=>by
     rcases Nat.lt_or_ge i n1 with rM | rM
     ·rw [List.getElem?_append_left (by omega)] at hi;obtain ⟨b2,Rt,KE,eF,ml,j8⟩:=he.cL i IJ hi;exact ⟨b2,Rt,KE,Bd.β i b2 eF,ml,j8.mono Bd⟩
     ·rw [List.getElem?_append_right (by omega),List.getElem?_drop,yv] at hi;rw [show n1 + (i - n1)=i by omega] at hi;obtain ⟨bj,Ru,KF,IK,Ng,C4⟩:=h.env.cL i IJ hi;refine ⟨bj,Ru,KF,IK,(hh bj (bg Ng) ?_).trans Ng,C4.mono hx⟩;intro hs;rcases hS bj hs with h1 | ⟨i',y,_,h2,h3⟩
      ·obtain ⟨i',dE,M4⟩:=List.getElem_of_mem h1;have h4:(E.β.take n1)[i']? = some bj:=by rw [gE dE,M4]
       rw [List.getElem?_take] at h4;split at h4
       ·rename_i aq;have:=(List.getElem?_inj (gS IK).1 h.env.inj).1 (IK.trans h4.symm);omega
       ·cases h4
      ·exact (bR i' y bj h2 h3).2 (mG IK)
    inj:=h.env.inj
    sub:=he.sub
    pc:=fun x v hc nv=>by
     rcases cC x v hc with h1 | h1 | ⟨i,y,_,h2,h3⟩
     ·exact h.env.pc x v h1 nv
     ·have:=h.env.aK nv;omega
     ·exact (bR i y _ h2 h3).2 nv
    bQ:=fun j q y hq hy=>by
     rcases Nat.lt_or_ge j m1 with hj | hj
     ·rw [Dt j hj] at hq;rw [CI j hj] at hy;rcases he.bQ j q y hq hy with h1 | ⟨g,cap,cur,rfl,h1,h2,h3,h4,h5,h6⟩
      ·exact .inl h1
      ·refine .inr ⟨g,cap,cur,rfl,h1,h2,h3,h4,fun nv=>?_,h6⟩;obtain ⟨y0,h7,h8⟩:=Aj j _ hj hy;rcases h8 with h8 | h8
       ·exact (bR j y0 g h7 (by rw [<- h8];rfl)).2 nv
       ·have:=h8 g rfl;have:=h.env.aK nv;omega
     ·rw [gg j hj] at hq;rw [K5 j hj] at hy;rcases h.env.bQ j q y hq hy with h1 | ⟨g,cap,cur,rfl,h1,h2,h3,h4,h5,h6⟩
      ·exact .inl h1
      ·have aM:∀ i y',i < m1->E.τ[i]? = some y' -> y'.ownBlock≠some g:=fun i y' hi eQ=>h.env.gf j i _ y' g (by omega) hy eQ rfl
       have qR:¬ E1.S g:=fun hs=>by
        rcases hS g hs with h7 | ⟨i,y',h7,h8,h9⟩
        ·exact h5 (List.mem_of_mem_take h7)
        ·exact aM i y' h7 h8 h9
       refine .inr ⟨g,cap,cur,rfl,by rw [hh g (bg h1) qR];exact h1,⟨h2.1,h2.2.mono hn.c⟩,h3,h4,h5,fun x v hc hg=>?_⟩
       ·rcases cC x v hc with h7 | h7 | ⟨i,y',h7,h8,h9⟩
        ·exact h6 x v h7 hg
        ·have:=bg h1;omega
        ·exact (aM i y' h7 h8 (by rw [h9,hg])).elim
    gf:=fun j j' y y' g zH hy eQ hg uz=>by
     rcases Nat.lt_or_ge j m1 with hj | hj
     ·rw [CI j hj] at hy;obtain ⟨y0,h7,h8⟩:=Aj j _ hj hy;rcases Nat.lt_or_ge j' m1 with eS | eS
      ·rw [CI j' eS] at eQ;exact he.gf j j' y y' g zH hy eQ hg uz
      ·rw [K5 j' eS] at eQ;rcases h8 with h8 | h8
       ·exact h.env.gf j j' y0 y' g zH h7 eQ (by rw [<- h8];exact hg) uz
       ·have:=h8 g hg;have:=(bR j' y' g eQ uz).1;omega
     ·rw [K5 j hj] at hy;rcases Nat.lt_or_ge j' m1 with eS | eS
      ·rw [CI j' eS] at eQ;obtain ⟨y0,h7,h8⟩:=Aj j' _ eS eQ;rcases h8 with h8 | h8
       ·exact h.env.gf j j' y y0 g zH hy h7 hg (by rw [<- h8];exact uz)
       ·have:=h8 g uz;have:=(bR j y g hy hg).1;omega
      ·rw [K5 j' eS] at eQ
       exact h.env.gf j j' y y' g zH hy eQ hg uz }
  ·exact {
    c:=fun x v hc=>hn.c x v (h.nw.c x v hc)
    cn:=fun x v hc=>by
     rcases cC x v hc with h1 | h1 | ⟨i,y,_,h2,h3⟩
     ·exact h.nw.cn x v h1
     ·have:=h.fr.size;exact .inr (.inl (by omega))
     ·rcases h.nw.own h2 h3 with h4 | h4
      ·exact .inr (.inr h4)
      ·exact .inr (.inl h4)
    β:=h.nw.β
    tk:=fun j q0 y0 xM A0=>by
     obtain ⟨q1,y1,h1,h2,h3,h4,h5,h6⟩:=h.nw.tk j q0 y0 xM A0;rcases Nat.lt_or_ge j m1 with hj | hj
     ·obtain ⟨y,q',y',g1,g2,g3,g4,g5,g6,g7⟩:=oR j q1 hj h1;rw [h2] at g1;simp only [oI] at g1;subst g1;refine ⟨q',y',by rw [Dt j hj];exact g2,by rw [CI j hj];exact g3,h3.trans g4,h4.trans g5,?_,?_⟩
      ·rcases g6 with ⟨g6,rfl⟩ | g6
       ·rcases h5 with ⟨h5,rfl⟩ | h5
        ·exact .inl ⟨by omega,rfl⟩
        ·exact .inr (by omega)
       ·rcases h5 with ⟨h5,_⟩ | h5
        ·exact .inr (by omega)
        ·exact .inr (by omega)
      ·rcases g7 with g7 | g7
       ·rcases h6 with h6 | h6
        ·exact .inl (g7.trans h6)
        ·exact .inr fun g hg=>h6 g (by rw [<- g7];exact hg)
       ·refine .inr fun g hg=>?_;have:=g7 g hg;have:=h.fr.size;omega
     ·exact ⟨q1,y1,by rw [gg j hj];exact h1,by rw [K5 j hj];exact h2,h3,h4,h5,h6⟩
    tn:=fun j y g uA hy hg=>by
     rcases Nat.lt_or_ge j m1 with hj | hj
     ·rw [CI j hj] at hy;obtain ⟨y0,h7,h8⟩:=Aj j _ hj hy;rcases h8 with h8 | h8
      ·exact h.nw.tn j y0 g uA h7 (by rw [<- h8];exact hg)
      ·have:=h8 g hg;have:=h.fr.size;omega
     ·rw [K5 j hj] at hy;exact h.nw.tn j y g uA hy hg
    l0:=h.nw.l0 }
  ·by_cases Un:E1.S j
   ·left;rcases hS j Un with h1 | ⟨i,y,_,h2,h3⟩
    ·have qW:=List.mem_of_mem_take h1;obtain ⟨r0,hr0,x3⟩:=h.nw.β;rw [hr0] at qW;rcases List.mem_append.1 qW with qW | qW
     ·exact .inl (.inl qW)
     ·exact .inr (x3 j qW)
    ·rcases h.nw.own h2 h3 with h4 | h4
     ·exact .inl (.inr h4)
     ·exact .inr h4
   ·exact .inr (hh j hj Un)
 exact ⟨v,r,dT,E2.tk,E',rfl,hΦ,yv,mS,bA,Rv.mono Bd Kl,hx,rfl,Js⟩
theorem vN {f:FuncId} {args aV:List DV} {os:List (List DV)} (n1 m1:Nat) (uS:Nat.ble n1 st.bx.length=true) (fm:Nat.ble m1 st.tk.length=true)
  (qU:iV [] n1 n1 m1 os (st.bx.take n1)) (ha:CcL [] n1 n1 m1 aV args)
  {Φ:DV->List (List DV)->List TkE->Prop} (hc:Ev X.P f aV os (st.tk.take m1) Φ) (aX:X.still=false) (hX:X.bt=[]) {vs:List Value} (h:Rel X E st a w) (hv:RvL E args vs) :
  Calls X.P f vs.toArray w fun e w'=>∃ v r dT bi E',e = .returned v/\Φ r dT bi /\ dT.length=n1/\bi.length=m1/\Rel X E' ⟨st.sl,dT ++ st.bx.drop n1,bi ++ st.tk.drop m1⟩ a w' /\ Rv E' r v/\Ext E E' /\ E'.β=E.β /\
   ∀ (i:Nat) b,n1<=i->E.β[i]? = some b->w'.heap[b]? = w.heap[b]?:=
 r8 n1 m1 (by exact uS) (by exact fm) qU ha (hc.MU hX) aX h hv
theorem Ey {f:FuncId} {args aV:List DV} {os:List (List DV)} {d:Nat} (n1 m1:Nat) (iP:Enters X.P f) (hd:dq X.nt st.sl (some d)=true) (uS:Nat.ble n1 st.bx.length=true) (fm:Nat.ble m1 st.tk.length=true)
  (qU:iV [] n1 n1 m1 os (st.bx.take n1)) (ha:CcL [] n1 n1 m1 aV args)
  {Φ:DV->List (List DV)->List TkE->Prop} (hc:Ev X.P f aV os (st.tk.take m1) Φ)
  (hk:∀ r dT bi,Φ r dT bi -> dT.length=n1->bi.length=m1->∃ st',Wk X ⟨(d,⟨[],r⟩) :: st.sl,dT ++ st.bx.drop n1,bi ++ st.tk.drop m1⟩ st' /\ go X 4000 k st') (aX:X.still=false:=by exact rfl) (hX:X.bt=[]:=by exact rfl):ct X f args (some d) k st:=by
 refine ⟨iP,aX,fun E a w vs h hv=>(vN n1 m1 uS fm qU ha hc aX hX h hv).mono ?_⟩;rintro e w' ⟨v,r,dT,bi,E',rfl,hΦ,yv,mS,bA,CO,_,_,_⟩;obtain ⟨st',Kn,nV⟩:=hk r dT bi hΦ yv mS;obtain ⟨E3,hr3⟩:=Kn _ _ _ (aG bA hd r v CO);exact go_sound 4000 _ _ nV E3 _ w' hr3
theorem fj {f:FuncId} {args aV:List DV} {os:List (List DV)} {d:Nat} (n1 m1:Nat) (iP:Enters X.P f) (hd:dq X.nt st.sl (some d)=true) (uS:Nat.ble n1 st.bx.length=true) (fm:Nat.ble m1 st.tk.length=true)
  (qU:iV [] n1 n1 m1 os (st.bx.take n1)) (ha:CcL [] n1 n1 m1 aV args)
  {Φ:DV->List (List DV)->List TkE->Prop} (hc:Ev X.P f aV os (st.tk.take m1) Φ)
  (hk:∀ r dT bi,Φ r dT bi -> dT.length=n1->bi.length=m1->go X 4000 k ⟨(d,⟨[],r⟩) :: st.sl,dT ++ st.bx.drop n1,bi ++ st.tk.drop m1⟩) (aX:X.still=false:=by exact rfl) (hX:X.bt=[]:=by exact rfl):ct X f args (some d) k st:=
 Ey n1 m1 iP hd uS fm qU ha hc (fun r dT bi h1 h2 h3=>⟨_,Wk.refl _ _,hk r dT bi h1 h2 h3⟩) aX hX
theorem jy {f:FuncId} {args aV:List DV} {os:List (List DV)} {d:Nat} (n1 m1:Nat) (iP:Enters X.P f) (hd:dq X.nt st.sl (some d)=true) (uS:Nat.ble n1 st.bx.length=true) (fm:Nat.ble m1 st.tk.length=true)
  (qU:iV [] n1 n1 m1 os (st.bx.take n1)) (ha:CcL [] n1 n1 m1 aV args)
  {Φ:DV->List (List DV)->List TkE->Prop} (hc:MT false X.P f aV os (st.tk.take m1) X.bt Φ)
  (hk:∀ r dT bi,Φ r dT bi -> dT.length=n1->bi.length=m1->go X 4000 k ⟨(d,⟨[],r⟩) :: st.sl,dT ++ st.bx.drop n1,bi ++ st.tk.drop m1⟩) (aX:X.still=false:=by exact rfl):ct X f args (some d) k st:=by
 refine ⟨iP,aX,fun E a w vs h hv=>(r8 n1 m1 uS fm qU ha hc aX h hv).mono ?_⟩;rintro e w' ⟨v,r,dT,bi,E',rfl,hΦ,yv,mS,bA,CO,_,_,_⟩;exact go_sound 4000 _ _ (hk r dT bi hΦ yv mS) E' _ w' (aG bA hd r v CO)
theorem BN {all:Array Oper} {o1 o2 o3:Oper} {r:List Oper} {d1 d2 kt t sT f off ft ty et e gj m Jt nn:Nat} {bb:Bool} {zz:List Value} {z:Int} {kd:IntKind} {es:List (List DV)} {cs:List DV} {s ix x:Operand} {dv OW:DV}
  (h1:o1.op = .indexAddr t s ix/\o1.dst=some d1) (h2:o2.op = .fieldAddr sT (.tmp d1) f/\o2.dst=some d2/\o2.guard=none) (h3:o3.op = .store ty (.tmp d2) x/\o3.dst=none/\o3.guard=none)
  (Gx:dq X.nt st.sl (some d1)=true) (Ku:dq X.nt ((d1,⟨[],.pt [] 0⟩) :: st.sl) (some d2)=true)
  (hs:rv st [] s=some (.sl 0 es (some kt))) (hi:rv st [] ix=some (.v (.int kd z))) (hx:rv ⟨(d2,⟨[],.pt [] 0⟩) :: (d1,⟨[],.pt [] 0⟩) :: st.sl,st.bx,st.tk⟩ [] x=some dv) (hdv:eraD dv=some OW) (Uo:dv.cells=[dv])
  (hT:X.T.find t=some ⟨nn,bb,.sl et e gj,zz⟩) (nU:X.T.off sT f=some (off,ft)) (bI:X.T.sz ty=some 1)
  (hq:st.tk[kt]? = some ⟨m,Jt,e,some cs⟩) (kj:es.length=m) (hz:0<=z/\z < m) (GK:off + 1<=e)
  (hk:go X 4000 (.ops all r :: k) ⟨(d2,⟨[],.pt [] 0⟩) :: (d1,⟨[],.pt [] 0⟩) :: st.sl,st.bx,st.tk.set kt ⟨m,Jt,e,some (cs.set (z.toNat * e + off) OW)⟩⟩)
  (aX:X.still=false:=by exact rfl):IC X o1 (.ops all (o2 :: o3 :: r) :: k) st:=by
 intro E a w h;have eV:=h.rl;have e1:=aE eV hs;have e2:=bh (aE eV hi);unfold Rv at e1;obtain ⟨bs,ns,iW,e1,⟨qR,xD⟩,Ka,s6⟩:=e1;subst qR;obtain ⟨q',jR,_,MN⟩:=s6 kt rfl;have il:E.tk[kt]? = some ⟨m,Jt,e,some cs⟩:=by rw [h.tk];exact hq
 rw [il] at jR;simp only [oI] at jR;subst jR;have hy:=MN kj;rw [e1,kj] at hy;rw [kj] at e1;have OX:=h.env.bQ kt _ _ il hy;rcases OX with ⟨ka,gI,_⟩ | ⟨g,cap,cur,ka,hw0,⟨uY,Da⟩,A3,A4,eG,Db⟩
 ·simp only at gI;omega
 injection ka with i1 i2 i3
 subst i1 i3;obtain ⟨hu,ii,zv,s5,_,Sf,_,_⟩:=cT X.hT hT;have kb:eE X.P et=some e:=by rw [dH s5,Sf]
 have OY:(execOp a.eval o1).run X.P w = .ok (.value (.pointer (some ⟨g,z.toNat * e,none⟩))) w:=by
  have bz:(Instr.indexAt t (.slice (some ⟨g,0,none⟩) m iW) (.int kd z)).run X.P w = .ok (.pointer (some ⟨g,z.toNat * e,none⟩)) w:=by
   simp [Instr.indexAt,asIntOf,run_underlying hu,hz.1,hz.2,az kb,Addr.add_lit]
  simp only [execOp,h1.1,e1,e2,Sem.run_bind,bz,Result.andThen_ok,Sem.run_pure]
 refine fB OY ?_;rw [h1.2];have hr1:Rel X E ⟨(d1,⟨[],.pt [] 0⟩) :: st.sl,st.bx,st.tk⟩ (a.put (some d1) (.pointer (some ⟨g,z.toNat * e,none⟩))) w:=aG h Gx (.pt [] 0) _ (by unfold Rv;exact ⟨g,z.toNat * e,rfl,by simp only [RvAt]⟩);generalize ha1:a.put (some d1) (.pointer (some ⟨g,z.toNat * e,none⟩))=a1 at hr1
 have ht1:a1.eval (.tmp d1) = .pointer (some ⟨g,z.toNat * e,none⟩):=by
  subst ha1;simp only [dq,Bool.and_eq_true,Nat.blt_eq] at Gx;simp [Act.eval,Act.put,h.sz,Gx.1]
 show kq X (.ops all (o2 :: o3 :: r) :: k) .normal a1 w;simp only [kq,wpList,Region.wanted,h2.2.2,h3.2.2,if_true];refine .inl (fB (v:=.pointer (some ⟨g,z.toNat * e + off,none⟩)) (w':=w) ?_ ?_)
 ·simp only [execOp,h2.1,ht1,Sem.run_bind,fg (mz X.hT nU),Result.andThen_ok,Sem.run_pure]
 rw [h2.2.1];have jb:Rel X E ⟨(d2,⟨[],.pt [] 0⟩) :: (d1,⟨[],.pt [] 0⟩) :: st.sl,st.bx,st.tk⟩ (a1.put (some d2) (.pointer (some ⟨g,z.toNat * e + off,none⟩))) w:=aG hr1 Ku (.pt [] 0) _ (by unfold Rv;exact ⟨g,z.toNat * e + off,rfl,by simp only [RvAt]⟩);generalize GX:a1.put (some d2) (.pointer (some ⟨g,z.toNat * e + off,none⟩))=a2 at jb
 have Mi:a2.eval (.tmp d2) = .pointer (some ⟨g,z.toNat * e + off,none⟩):=by
  subst GX;simp only [dq,Bool.and_eq_true,Nat.blt_eq] at Ku;simp [Act.eval,Act.put,hr1.sz,Ku.1]
 have e3:=aE jb.rl hx
 have ia:RvC E [dv] (a2.eval x).cells.toList:=by
  have:=e3.cells (fk (n:=1) (by rw [Uo];rfl) (by omega))
  rwa [Uo] at this
 have GZ:(a2.eval x).cells.toList.length=1:=by rw [ia.1.length];all_goals rfl
 obtain ⟨xv,Qt⟩:∃ xv,(a2.eval x).cells.toList=[xv]:=by
  match hh:(a2.eval x).cells.toList,GZ with
  | [y],_=>exact ⟨y,rfl⟩
 obtain ⟨h5,h6⟩:=Da cs rfl;simp only at h5 h6 uY hw0 A3;have OZ:cur.toList.length=iW * e:=by simpa using uY
 have hme:m * e<=iW * e:=Nat.mul_le_mul_right _ A3
 have ke:z.toNat * e + off + 1<=m * e:=by
  have:(z.toNat + 1) * e<=m * e:=Nat.mul_le_mul_right _ (by omega);rw [Nat.add_mul] at this;omega
 have MJ:=ig (P:=X.P) (t:=ty) (off:=z.toNat * e + off) (n:=1) hw0 (zB X.hT bI) GZ (by rw [uY];omega) (List.all_eq_true.2 ia.2);refine .inl (GY (w':=World.bN w g (.cells ((cur.toList.take (z.toNat * e + off) ++ (a2.eval x).cells.toList ++ cur.toList.drop (z.toNat * e + off + 1)).toArray) Jt (0,0))) ?_ ?_)
 ·simp only [execOp,h3.1,Mi,Instr.storeAt,Instr.sureAddr,Sem.run_bind,Sem.run_pure,Result.andThen_ok,MJ]
 rw [h3.2.1]
 have Kf:cur.toList.take (z.toNat * e + off) ++ (a2.eval x).cells.toList ++ cur.toList.drop (z.toNat * e + off + 1)=cur.toList.set (z.toNat * e + off) xv:=by
  rw [Qt,List.set_eq_take_append_cons_drop,if_pos (by omega)];simp
 rw [Kf]
 have hx1:RvC E.cl [OW] [xv]:=by
  rw [Qt] at ia;have h7:=ia.1;simp only [RvL] at h7;obtain ⟨v,s',h8,h9,ly⟩:=h7;simp only [List.cons.injEq] at h8;obtain ⟨rfl,rfl⟩:=h8;exact ⟨rvL_cons (oO hdv h9) (by simp only [RvL]),ia.2⟩
 have Gr:xH (World.bN w g (.cells (cur.toList.set (z.toNat * e + off) xv).toArray Jt (0,0))) E.c E.β ⟨m,Jt,e,some (cs.set (z.toNat * e + off) OW)⟩ (.slice (some ⟨g,0,none⟩) m iW):=by
  refine .inr ⟨g,iW,_,rfl,cf hw0,⟨by simpa using OZ,fun cs' C3=>?_⟩,A3,A4,eG,Db⟩;simp only [oI] at C3;subst C3;simp only;refine ⟨by rw [List.length_set];exact h5,?_⟩;rw [List.take_set];have aq:z.toNat * e + off < (cur.toList.take (m * e)).length:=by rw [List.length_take];omega
  rw [List.set_eq_take_append_cons_drop,if_pos (by omega),List.set_eq_take_append_cons_drop,if_pos aq];have h8:=(RvC.take (z.toNat * e + off) h6).append (RvC.append hx1 (RvC.drop (z.toNat * e + off + 1) h6));simpa using h8
 have Qe:some g≠some g->False:=fun h=>h rfl
 obtain ⟨bA,hext⟩:=zI (q':=⟨m,Jt,e,some (cs.set (z.toNat * e + off) OW)⟩) (w':=World.bN w g (.cells (cur.toList.set (z.toNat * e + off) xv).toArray Jt (0,0))) jb aX il hy rfl rfl rfl (.inl ⟨rfl,rfl⟩) Gr (.inl rfl) rfl rfl rfl (by rw [dz];exact Nat.le_refl _) (fun j _ aM=>bm (by
  rintro rfl
  exact aM rfl))
 exact go_sound 4000 _ _ hk _ _ _ bA
open Classical in
noncomputable def vO (E:En) (w:World) (y:Value) (n:Nat):Addr->Option Value:=
 fun x=>if y.ownBlock=some x.block/\x.spot=none/\x.off < n then w.cell? x else E.c x
theorem fT {y:Value} {n:Nat} {x:Addr} {v:Value} (h:vO E w y n x=some v):(y.ownBlock=some x.block/\x.spot=none/\x.off < n/\w.cell? x=some v)∨E.c x=some v:=by
 unfold vO at h;split at h
 ·rename_i hc;exact .inl ⟨hc.1,hc.2.1,hc.2.2,h⟩
 ·exact .inr h
theorem HB (h:Rel X E st a w) {k n ty e:Nat} {cs:List DV} {ns:List (List DV)} (hq:st.tk[k]? = some ⟨n,ty,e,some cs⟩) (bE:cs=ns.flatten) (qR:∀ x∈ns,x.length=e) (iX:ns.length=n) :
  ∃ E',Rel X E' ⟨st.sl,st.bx,st.tk.set k ⟨n,ty,e,none⟩⟩ a w/\Ext E E' /\ ∀ es y,es.length=n->Rv E (.sl 0 es (some k)) y->Rv E' (.sl e ns (some k)) y:=by
 subst bE;have il:E.tk[k]? = some ⟨n,ty,e,some ns.flatten⟩:=by rw [h.tk];exact hq
 have C6:=(gS il).1;have MH:k < E.τ.length:=by rw [h.env.tl];exact C6
 have hv:E.τ[k]? = some E.τ[k]:=gE MH;generalize E.τ[k]=v at hv;have OX:=h.env.bQ k _ v il hv
 have iO:∀ x u,E.c x=some u->vO E w v (n * e) x=some u:=fun x u hx=>by
  unfold vO;split
  ·exact h.env.sub x u hx
  ·exact hx
 have hext:Ext E ⟨vO E w v (n * e),E.β,E.tk.set k ⟨n,ty,e,none⟩,E.τ⟩:=⟨iO,fun _ _ h=>h,fun j q Qu=>by
  by_cases hj:j=k
  ·subst hj;rw [il] at Qu;simp only [oI] at Qu;subst Qu;exact ⟨_,List.getElem?_set_self C6,.inl ⟨rfl,rfl⟩⟩
  ·exact ⟨q,by rw [List.getElem?_set_ne (Ne.symm hj)];exact Qu,.inl ⟨rfl,rfl⟩⟩⟩
 refine ⟨⟨vO E w v (n * e),E.β,E.tk.set k ⟨n,ty,e,none⟩,E.τ⟩,cg h hext ?_ (by rw [h.tk]) ?_ h.fr h.sh h.bt,hext,?_⟩
 ·exact {
   len:=h.env.len
   tl:=by simp only [List.length_set];exact h.env.tl
   cL:=fun i cs hi=>by
    obtain ⟨b,t,arr,hb,hw,hc⟩:=h.env.cL i cs hi;exact ⟨b,t,arr,hb,hw,hc.mono hext⟩
   inj:=h.env.inj
   sub:=fun x u hx=>by
    rcases fT hx with ⟨_,_,_,h1⟩ | h1
    ·exact h1
    ·exact h.env.sub x u h1
   pc:=fun x u hx hm=>by
    rcases fT hx with ⟨h1,_⟩ | h1
    ·exact (eU OX h1).2 hm
    ·exact h.env.pc x u h1 hm
   bQ:=fun j q y hj hy=>by
    by_cases Km:j=k
    ·subst Km;have eS:(E.tk.set j ⟨n,ty,e,none⟩)[j]? = some q:=hj;rw [List.getElem?_set_self C6] at eS;have eQ:E.τ[j]? = some y:=hy;rw [hv] at eQ;simp only [oI] at eS eQ;subst eS eQ;rcases OX with ⟨h1,h2,_⟩ | ⟨g,cap,cur,rfl,h1,h2,h3,h4,h5,h6⟩
     ·exact .inl ⟨h1,h2,fun cs hc=>by cases hc⟩
     ·refine .inr ⟨g,cap,cur,rfl,h1,⟨h2.1,lh.none rfl⟩,h3,h4,h5,fun x u hx zG=>?_⟩;rcases fT hx with ⟨_,_,h7,_⟩ | h7
      ·exact h7
      ·have:=h6 x u h7 zG;simp only [TkE.kn] at this;omega
    ·have eS:E.tk[j]? = some q:=by
      have:(E.tk.set k ⟨n,ty,e,none⟩)[j]? = some q:=hj
      rwa [List.getElem?_set_ne (Ne.symm Km)] at this
     rcases h.env.bQ j q y eS hy with h1 | ⟨g,cap,cur,rfl,h1,h2,h3,h4,h5,h6⟩
     ·exact .inl h1
     ·refine .inr ⟨g,cap,cur,rfl,h1,⟨h2.1,h2.2.mono iO⟩,h3,h4,h5,fun x u hx zG=>?_⟩;rcases fT hx with ⟨h7,_⟩ | h7
      ·exact (h.env.gf j k _ v g Km hy hv rfl (by rw [h7,zG])).elim
      ·exact h6 x u h7 zG
   gf:=h.env.gf }
 ·exact {
   c:=fun x u hx=>iO x u (h.nw.c x u hx)
   cn:=fun x u hx=>by
    rcases fT hx with ⟨h1,_⟩ | h1
    ·rcases h.nw.own hv h1 with h2 | h2
     ·exact .inr (.inr h2)
     ·exact .inr (.inl h2)
    ·exact h.nw.cn x u h1
   β:=h.nw.β
   tk:=fun j q0 y0 xM A0=>by
    obtain ⟨q1,y1,h1,h2,h3,h4,h5,h6⟩:=h.nw.tk j q0 y0 xM A0;by_cases hj:j=k
    ·subst hj;rw [il] at h1;simp only [oI] at h1;subst h1;exact ⟨_,y1,List.getElem?_set_self C6,h2,h3,h4,h5,h6⟩
    ·exact ⟨q1,y1,by rw [List.getElem?_set_ne (Ne.symm hj)];exact h1,h2,h3,h4,h5,h6⟩
   tn:=fun j y g hj hy=>h.nw.tn j y g hj hy
   l0:=h.nw.l0 }
 ·intro es y kj hy;unfold Rv at hy ⊢;obtain ⟨b,m,cap,rfl,⟨rfl,hmc⟩,hr,aX⟩:=hy;obtain ⟨q',jR,_,hτ⟩:=aX k rfl;rw [il] at jR;simp only [oI] at jR;subst jR;have hy:=hτ kj;rw [hv] at hy;simp only [oI] at hy;subst hy;refine ⟨b,es.length,cap,rfl,⟨by omega,hmc⟩,fun aM=>?_,fun k' gg=>?_⟩
  ·rcases OX with ⟨h1,h2,h3⟩ | ⟨g,MF,cur,h0,h1,h2,h3,h4,h5,h6⟩
   ·simp only at h2;exact (aM (List.eq_nil_of_length_eq_zero (by omega))).elim
   ·injection h0 with i1 i2 i3
    subst i1;refine ⟨rfl,?_⟩;obtain ⟨h7,h8⟩:=h2.2 _ rfl;refine rvEs_flat (h8.mono (E:=⟨E.c,[],[],[]⟩) ⟨iO,fun _ _ h=>by simp at h,fun _ _ h=>by simp at h⟩) qR fun j u hj=>?_;rw [List.getElem?_take] at hj;split at hj
    ·rename_i qN;show vO E w _ (n * e) _=_;unfold vO;rw [if_pos ⟨rfl,rfl,by simpa [ao] using qN⟩];simp only [ab,ao,Nat.zero_add];rw [bB h1];simpa using hj
    ·cases hj
  ·cases gg;exact ⟨_,List.getElem?_set_self C6,by simp only;omega,fun _=>hv⟩
theorem K6 {j o k n ty e:Nat} {CP:List DV} {es ns:List (List DV)} (hq:st.tk[k]? = some ⟨n,ty,e,some ns.flatten⟩) (qR:∀ x∈ns,x.length=e) (iX:ns.length=n) (hj:st.bx[j]? = some CP) (ho:CP[o]? = some (.sl 0 es (some k))) (kj:es.length=n) :
  Wk X st ⟨st.sl,st.bx.set j (CP.set o (.sl e ns none)),st.tk.set k ⟨n,ty,e,none⟩⟩:=by
 intro E a w h;obtain ⟨E',hr,hx,oR⟩:=HB h hq rfl qR iX;refine ⟨E',{ hr with env:=?_ }⟩
 exact { hr.env with
  len:=by simp only [List.length_set];exact hr.env.len
  cL:=fun i cs' hi=>by
   by_cases om:i=j
   ·subst om;have aq:=(gS hj).1;have dE:(st.bx.set i (CP.set o (.sl e ns none)))[i]? = some cs':=hi;rw [List.getElem?_set_self aq] at dE;simp only [oI] at dE;subst dE;obtain ⟨b,t,arr,hb,hw,hc⟩:=hr.env.cL i CP hj;obtain ⟨b0,t0,xP,eG,hw0,Db⟩:=h.env.cL i CP hj;have fD:=hx.β i b0 eG;rw [hb] at fD;simp only [oI] at fD;subst fD;rw [hw] at hw0;simp only [oI,Obj.cells.injEq] at hw0
    have DU:arr=xP:=by
     have:=hw0.1;simpa using this
    subst DU;refine ⟨b,t,arr,hb,hw,?_,hc.2⟩;obtain ⟨v,oi,Gm⟩:=Db.1.get ho;have CO:=oR es v kj Gm;have gJ:=(gS ho).1;have MI:arr.length=CP.length:=hc.1.length
    have h1:=(RvL.take o hc.1).append (rvL_cons (d:=.sl e ns none) (v:=v) (by
     unfold Rv at CO ⊢;obtain ⟨b,n,cap,g1,g2,g3,_⟩:=CO
     exact ⟨b,n,cap,g1,g2,g3,fun k hk=>by cases hk⟩) (RvL.drop (o + 1) hc.1))
    rw [List.set_eq_take_append_cons_drop,if_pos gJ]
    have h2:arr.take o ++ v :: arr.drop (o + 1)=arr:=by
     have hoa:o < arr.length:=by omega
     have:arr[o]=v:=by
      rw [gE hoa] at oi;simpa using oi
     rw [<- this];simp
    rwa [h2] at h1
   ·have dE:(st.bx.set j (CP.set o (.sl e ns none)))[i]? = some cs':=hi;rw [List.getElem?_set_ne (Ne.symm om)] at dE
    exact hr.env.cL i cs' dE }
theorem Wk.x0 (i j:Nat) (S S':St) (he:S'=di i j S) (CE:Nat.ble X.n0 i=true) (uA:Nat.ble X.n0 j=true) (hi:Nat.blt i S.bx.length=true) (hj:Nat.blt j S.bx.length=true) (hX:X.bt=[]:=by exact rfl):Wk X S' S:=fun E a w h=>by
 subst he;simp only [Nat.blt_eq] at hi hj;exact zS hX h (nL CE) (nL uA) hi hj
theorem K7 {c:Code} (I:Nat->St->Prop) (j0:Nat) (jc:St) (hw:Wk X st jc) (h0:I j0 jc)
  (hr:∀ j s,I j s->go X 4000 (.code c :: .CB (fun s'=>∃ Dh,Wk X s' Dh /\ ∃ j',j' < j/\I j' Dh) :: k) s):rk X c k st:=by
 intro E a w h;obtain ⟨E0,hr0⟩:=hw _ _ _ h
 classical
 let Inv:Act->World->Prop:=fun a w=>∃ j s E,Rel X E s a w/\I j s
 let μ:Act->World->Nat:=fun a w=>if hI:Inv a w then Classical.choose (least hI) else 0
 refine wp_loop Inv μ ⟨j0,jc,E0,hr0,h0⟩ ?_;intro a1 w1 hI;have rC:=(Classical.choose_spec (least hI)).1;obtain ⟨s,E1,bA,Ra⟩:=rC;have hs:=go_sound 4000 _ _ (hr _ s Ra) E1 a1 w1 bA;rw [cV] at hs;refine wp_mono hs ?_;intro e a2 w2 hq
 cases e with
 | normal=>
  obtain ⟨s',E2,u5,Dh,Kn,j',eS,MX⟩:=hq;obtain ⟨E3,u6⟩:=Kn _ _ _ u5;have Ko:Inv a2 w2:=⟨j',Dh,E3,u6,MX⟩;refine ⟨Ko,?_⟩;simp only [μ,dif_pos hI,dif_pos Ko];exact Nat.lt_of_le_of_lt ((Classical.choose_spec (least Ko)).2 j' ⟨Dh,E3,u6,MX⟩) eS
 | exit id=>exact hq
 | goto l=>exact hq
 | ret=>exact hq
 | panic c=>exact hq
 | outgrown=>exact hq
mutual
def flatD:DV->Bool
 | .v _=>true
 | .agg l=>flatL l
 | .tup l=>flatL l
 | _=>false
def flatL:List DV->Bool
 | []=>true
 | d :: r=>flatD d && flatL r
end
mutual
theorem Rv.flat {E E':En}:∀ {d:DV} {v:Value},flatD d=true->Rv E d v->Rv E' d v
 | .v x,v,_,h=>by unfold Rv at h ⊢;exact h
 | .agg l,v,hf,h=>by
  simp only [flatD] at hf;simp only [Rv] at h ⊢;obtain ⟨vs,h1,h2,h3⟩:=h;exact ⟨vs,h1,RvL.flat hf h2,h3⟩
 | .tup l,v,hf,h=>by
  simp only [flatD] at hf;simp only [Rv] at h ⊢;obtain ⟨vs,h1,h2⟩:=h;exact ⟨vs,h1,RvL.flat hf h2⟩
 | .ud,_,hf,_=>by simp [flatD] at hf
 | .sl _ _ _,_,hf,_=>by simp [flatD] at hf
 | .pt _ _,_,hf,_=>by simp [flatD] at hf
 | .loc _ _,_,hf,_=>by simp [flatD] at hf
 | .el _ _,_,hf,_=>by simp [flatD] at hf
 | .ms _ _ _ _ _,_,hf,_=>by simp [flatD] at hf
 | .fn _ _ _,_,hf,_=>by simp [flatD] at hf
 | .nq _ _,_,hf,_=>by simp [flatD] at hf
theorem RvL.flat {E E':En}:∀ {l:List DV} {vs:List Value},flatL l=true->RvL E l vs->RvL E' l vs
 | [],vs,_,h=>by simpa only [RvL] using h
 | d :: r,vs,hf,h=>by
  simp only [flatL,Bool.and_eq_true] at hf;simp only [RvL] at h ⊢;obtain ⟨v,s,h1,h2,h3⟩:=h;exact ⟨v,s,h1,Rv.flat hf.1 h2,RvL.flat hf.2 h3⟩
end
theorem Ak {f:FuncId} {args aV:List DV} {d:Nat} {y:DV} (iP:Enters X.P f) (hc:EvP X.P f aV y) (ha:CcL st.bx 0 0 0 aV args) (hy:flatD y=true) (hd:dq X.nt st.sl (some d)=true)
  (hk:go X 4000 k ⟨(d,⟨[],y⟩) :: st.sl,st.bx,st.tk⟩) (aX:X.still=false:=by exact rfl):ct X f args (some d) k st:=by
 refine ⟨iP,aX,fun E a w vs h hv=>(fh h.env hc ha hv).mono ?_⟩;rintro e w' ⟨v,E2,rfl,hr,hm,_⟩;have hh:∀ i,i < w.heap.size->w'.heap[i]? = w.heap[i]?:=fun i hi=>hm.block i hi (fun h=>h);have bA:Rel X E st a w':=cg h (Ext.refl E) (h.env.gw hh) h.tk h.nw (h.fr.bo hm.os hm.tape hm.output hm.size fun i hi=>.inr (hh i hi)) (kA aX) (h.bt.gw fun b hb=>hh b (h.env.aK hb));exact go_sound 4000 _ _ hk E _ w' (aG bA hd y v (Rv.flat hy hr))
theorem lW {D:Dr} {c:Bool} {i:Nat} {s0:List (Nat × Sl)} {f:FuncId} {args aV:List DV} {d:Nat} {y:DV} {r:List (Nat × Oper)} (iP:Enters X.P f) (hc:EvP X.P f aV y) (ha:CcL st.bx 0 0 0 aV args) (hy:flatD y=true) (hd:(dq X.nt st.sl (some d) && dq X.nt s0 (some d))=true)
  (hk:put2 s0 st (some d) true [] y (goD X D 3000 c r)) (aX:X.still=false:=by exact rfl):va X D c i r f args (some d) s0 st:=by
 refine ⟨iP,fun hl E0 wr hD E a w vs h hv=>(fh h.rel.env hc ha hv).mono ?_⟩;rintro e w' ⟨v,E2,rfl,hr,hm,_⟩;have hh:∀ i,i < w.heap.size->w'.heap[i]? = w.heap[i]?:=fun i hi=>hm.block i hi (fun h=>h);have bA:Rel X E st a w':=cg h.rel (Ext.refl E) (h.rel.env.gw hh) h.rel.tk h.rel.nw (h.rel.fr.bo hm.os hm.tape hm.output hm.size fun i hi=>.inr (hh i hi)) (kA aX) (h.rel.bt.gw fun b hb=>hh b (h.rel.env.aK hb));have hs:CH none E w E w':=⟨Ext.refl E,⟨[],by simp⟩,fun j b hb _=>hh b (h.rel.env.aK (mG hb))⟩;have hC:=zP h hs bA (fun j hj=>by cases hj);refine ⟨v,rfl,fun _=>hC,?_⟩;have Ds:dF X ⟨D,E0,wr⟩ c E s0 st (a.put none v) w':=o0 h hs bA (fun h1=>hC (h.cc h1)) (fun i x hx=>.inr ⟨hx,fun d hd=>by cases hd⟩) rfl;obtain ⟨s1,mH,mr,cP⟩:=fI Ds hd true [] y v (fun _ _ p hp=>by cases hp) (fun _=>Rv.flat hy hr) (fun _ _=>Rv.flat hy hr) (fun hn=>(hn (aJ _)).elim) hk;exact ek (D:=⟨D,E0,wr⟩) hD 3000 c r _ _ mr hl E _ w' cP
theorem ct.x0 {S:St} {f:FuncId} {args aV:List DV} {dst:Option Nat} (i j:Nat) (hS:st=di i j S) (ha:args=renL (swp i j) aV) (CE:Nat.ble X.n0 i=true) (uA:Nat.ble X.n0 j=true) (hi:Nat.blt i S.bx.length=true) (hj:Nat.blt j S.bx.length=true)
  (h:ct X f aV dst k S) (hX:X.bt=[]:=by exact rfl):ct X f args dst k st:=by
 subst hS ha;simp only [Nat.blt_eq] at hi hj;refine ⟨h.1,h.2.1,fun E a w vs hr hv=>?_⟩
 have hlen:E.β.length=S.bx.length:=by
  rw [hr.env.len];simp only [di,bF,bS]
 exact h.2.2 _ a w vs (ve hX hr (nL CE) (nL uA) hi hj) (RvL.x0 (by rw [hlen];exact hi) (by rw [hlen];exact hj) hv)
end
end Dv
end Go.Proofs.YtfifjddnnmfeoaaGreat
set_option maxRecDepth 100000
namespace Go.Proofs.YtfifjddnnmfeoaaGreat
open Go Go.RowKit Dv Tryz
def cZ (l:List Int):List DV:=l.map fun z=>DV.v (.int .i64 z)
def ou (ae:List ByteArray) (tb lq:DV) (js:List Int):List DV:=.sl 1 (cD ae) none :: tb :: lq :: cZ js
def oz:Option Nat->Int
 | none=>-1
 | some k=>(k:Int)
def Al (pb:Nat->Nat->Bool) (e:Nat):Option Nat->Bool
 | none=>true
 | some o=>pb e o
def bestA (e9:Nat->Bool) (pb:Nat->Nat->Bool):Nat->Option Nat
 | 0=>none
 | e + 1=>if e9 e && Al pb e (bestA e9 pb e) then some e else bestA e9 pb e
def ku (e9:Nat->Bool) (pb:Nat->Nat->Bool) (n:Nat):Option Nat:=
 match bestA e9 pb n with
 | none=>none
 | some o=>if (List.range n).any (fun c=>e9 c && !pb o c) then none else some o
theorem lX {e9:Nat->Bool} {pb:Nat->Nat->Bool}:∀ {e k:Nat},bestA e9 pb e=some k->k < e
 | 0,k,h=>by cases h
 | e + 1,k,h=>by
  rw [bestA] at h;split at h
  ·simp only [oI] at h;omega
  ·have:=lX h;omega
theorem mT (ae:List ByteArray) (tb:DV) (rows:List Nat) (js:List Int) (hr:cA rows) (a b:Nat) (ha:a < rows.length) (hb:b < rows.length) :
  EvP Tryz.prog 166 [.v (.int .i64 a),.v (.int .i64 b),.pt [.pt (ou ae tb (iZ rows) js) 0] 0] (.v (.bool (aD rows a b))):=by
 have h1:=gP rows hr a b;rw [lQ ha hb] at h1;refine ev_go (P:=Tryz.prog) tt tt_ok 5000 13 [.tmp 5] Tryz.func166 rfl Tryz.ntmps166 rfl (nL rfl) (fun E9 w9 hn9 hm9=>?_);refine call_p vj (h1) ax rfl ?_;exact (rfl:_=_)
theorem mU (ae:List ByteArray) (tb:DV) (rows:List Nat) (js:List Int) (hr:cA rows) (a b:Nat) (ha:a < rows.length) (hb:b < rows.length) :
  EvP Tryz.prog 167 [.v (.int .i64 a),.v (.int .i64 b),.pt [.pt (ou ae tb (iZ rows) js) 0] 0] (.v (.bool (aD rows b a))):=by
 have h1:=gP rows hr b a;rw [lQ hb ha] at h1;refine ev_go (P:=Tryz.prog) tt tt_ok 5000 13 [.tmp 5] Tryz.func167 rfl Tryz.ntmps167 rfl (nL rfl) (fun E9 w9 hn9 hm9=>?_);refine call_p vj (h1) ax rfl ?_;exact (rfl:_=_)
abbrev Ju (L:List DV):DV:=.fn 166 [] [.pt [.pt L 0] 0]
abbrev Jv (L:List DV):DV:=.fn 167 [] [.pt [.pt L 0] 0]
theorem BO (ae:List ByteArray) (tb:DV) (rows:List Nat) (js:List Int) (hr:cA rows) (a b c:Nat) (ha:a < rows.length) (hb:b < rows.length) (hc:c < rows.length) :
  EvP Tryz.prog 169 [.v (.int .i64 c),.pt [Ju (ou ae tb (iZ rows) js)] 0,.pt [.v (.int .i64 a)] 0,.pt [.v (.int .i64 b)] 0] (.v (.bool (aD rows a c && aD rows b c))):=by
 have h1:=mT ae tb rows js hr a c ha hc;have h2:=mT ae tb rows js hr b c hb hc;refine ev_go (P:=Tryz.prog) tt tt_ok 5000 16 [.tmp 5] Tryz.func169 rfl Tryz.ntmps169 rfl (nL rfl) (fun E9 w9 hn9 hm9=>?_);refine call_p DE (h1) ax rfl ?_;refine br (fun g=>?_) (fun g=>?_)
 ·have g:aD rows a c=true:=by simpa using g
  refine call_p DE (h2) ax rfl ?_;refine (congrArg (fun b=>DV.v (.bool b)) ?_:_=_);simp [g,pickB]
 ·have g:aD rows a c=false:=by simpa using g
  refine (congrArg (fun b=>DV.v (.bool b)) ?_:_=_);simp [g,pickB]
theorem BP (ae:List ByteArray) (tb:DV) (rows:List Nat) (js:List Int) (hr:cA rows) (a b c:Nat) (ha:a < rows.length) (hb:b < rows.length) (hc:c < rows.length) :
  EvP Tryz.prog 170 [.v (.int .i64 c),.pt [Jv (ou ae tb (iZ rows) js)] 0,.pt [.v (.int .i64 a)] 0,.pt [.v (.int .i64 b)] 0] (.v (.bool (aD rows c a && aD rows c b))):=by
 have h1:=mU ae tb rows js hr a c ha hc;have h2:=mU ae tb rows js hr b c hb hc;refine ev_go (P:=Tryz.prog) tt tt_ok 5000 16 [.tmp 5] Tryz.func170 rfl Tryz.ntmps170 rfl (nL rfl) (fun E9 w9 hn9 hm9=>?_);refine call_p DF (h1) ax rfl ?_;refine br (fun g=>?_) (fun g=>?_)
 ·have g:aD rows c a=true:=by simpa using g
  refine call_p DF (h2) ax rfl ?_;refine (congrArg (fun b=>DV.v (.bool b)) ?_:_=_);simp [g,pickB]
 ·have g:aD rows c a=false:=by simpa using g
  refine (congrArg (fun b=>DV.v (.bool b)) ?_:_=_);simp [g,pickB]
abbrev kP (L:List DV) (gi gb:Nat) (ci cb:List DV) (n:Nat) (o:Int) (e:Nat):St:=
 ⟨[(0,⟨[],.pt L 0⟩),(1,⟨[],.fn gi [] ci⟩),(2,⟨[],.fn gb [] cb⟩),(7,⟨[],.v (.int .i64 o)⟩),(14,⟨[],.v (.int .i64 n)⟩),(15,⟨[],.v (.int .i64 e)⟩)],[],[]⟩
abbrev lY (L:List DV) (gi gb:Nat) (ci cb:List DV) (n:Nat) (o:Int) (e:Nat):St:=
 ⟨[(0,⟨[],.pt L 0⟩),(1,⟨[],.fn gi [] ci⟩),(2,⟨[],.fn gb [] cb⟩),(7,⟨[],.v (.int .i64 o)⟩),(37,⟨[],.v (.int .i64 n)⟩),(38,⟨[],.v (.int .i64 e)⟩)],[],[]⟩
theorem r9 (ae:List ByteArray) (tb lq:DV) (js:List Int) (gi gb:Nat) (Up:Enters Tryz.prog gi) (Uq:Enters Tryz.prog gb) (ci cb:List DV) (e9:Nat->Bool) (pb:Nat->Nat->Bool)
  (O0:CcL [] 0 0 0 ci ci) (O1:CcL [] 0 0 0 cb cb) (Sg:clB.clL 0 0 ci=true) (Sh:clB.clL 0 0 cb=true) (hn:ae.length<=64)
  (rM:∀ c:Nat,c < ae.length->EvP Tryz.prog gi (.v (.int .i64 c) :: ci) (.v (.bool (e9 c))))
  (Ur:∀ a b:Nat,a < ae.length->b < ae.length->EvP Tryz.prog gb (.v (.int .i64 a) :: .v (.int .i64 b) :: cb) (.v (.bool (pb a b)))) :
  EvP Tryz.prog 168 [.pt (ou ae tb lq js) 0,.fn gi [] ci,.fn gb [] cb] (.v (.int .i64 (oz (ku e9 pb ae.length)))):=by
 have hN:=bl ae;have yw:clB 0 0 (.fn gi [] ci)=true:=by simp only [clB,Bool.and_eq_true];exact ⟨rfl,Sg⟩
 have Gy:clB 0 0 (.fn gb [] cb)=true:=by simp only [clB,Bool.and_eq_true];exact ⟨rfl,Sh⟩
 refine ev_go (P:=Tryz.prog) tt tt_ok 5000 57 [.tmp 6] Tryz.func168 rfl Tryz.ntmps168 rfl (nL rfl) (fun E9 w9 hn9 hm9=>?_);refine aw (fun j st=>∃ e:Nat,st=kP (ou ae tb lq js) gi gb ci cb (cD ae).length (oz (bestA e9 pb e)) e/\e<=ae.length/\j=ae.length - e) ae.length (kP (ou ae tb lq js) gi gb ci cb (cD ae).length (oz (bestA e9 pb 0)) 0) (weak_mk ⟨_,rfl⟩ wA rfl rfl rfl (by repeat' (first | exact trivial | exact ai rfl | exact ai yw | exact ai Gy | refine ⟨⟨_,rfl,?_⟩,?_⟩))) ⟨0,rfl,by omega,by omega⟩ ?_;rintro j st ⟨e,rfl,he,rfl⟩;refine br (fun hL=>?_) (fun hL=>?_)
 ·have aq:e < ae.length:=by have:=hL;simp [hN] at this;exact this
  have hs:bestA e9 pb (e + 1)=if e9 e && Al pb e (bestA e9 pb e) then some e else bestA e9 pb e:=rfl
  refine call_p Up (rM e aq) ⟨_,_,rfl,rfl,O0⟩ rfl ?_
  cases hA:bestA e9 pb e with
  | none=>
   rw [hA] at hs;refine br (fun g=>?_) (fun g=>?_)
   ·have g:e9 e=true:=by simpa [lastG] using g
    have hz:(e:Int)=oz (bestA e9 pb (e + 1)):=by rw [hs,g];all_goals rfl
    exact ⟨kP (ou ae tb lq js) gi gb ci cb (cD ae).length (oz (bestA e9 pb (e + 1))) (e + 1),(weak_mk ⟨_,rfl⟩ wA rfl rfl rfl (by repeat' (first | exact trivial | exact ai rfl | exact ai yw | exact ai Gy | exact aj (ej aq (by omega)) | exact aj hz | refine ⟨⟨_,rfl,?_⟩,?_⟩))),ae.length - (e + 1),by omega,e + 1,rfl,by omega,rfl⟩
   ·have g:e9 e=false:=by simpa [lastG] using g
    have hz:oz none=oz (bestA e9 pb (e + 1)):=by rw [hs,g];all_goals rfl
    exact ⟨kP (ou ae tb lq js) gi gb ci cb (cD ae).length (oz (bestA e9 pb (e + 1))) (e + 1),(weak_mk ⟨_,rfl⟩ wA rfl rfl rfl (by repeat' (first | exact trivial | exact ai rfl | exact ai yw | exact ai Gy | exact aj (ej aq (by omega)) | exact aj hz | refine ⟨⟨_,rfl,?_⟩,?_⟩))),ae.length - (e + 1),by omega,e + 1,rfl,by omega,rfl⟩
  | some k=>
   rw [hA] at hs;have hk:=lX hA;refine br (fun g=>?_) (fun g=>?_)
   ·have g:e9 e=true:=by simpa [lastG] using g
    refine call_p Uq (Ur e k aq (by omega)) ⟨_,_,rfl,rfl,_,_,rfl,rfl,O1⟩ rfl ?_;refine br (fun g2=>?_) (fun g2=>?_)
    ·have g2:pb e k=true:=by simpa [pickB,g,lastG] using g2
     have hz:(e:Int)=oz (bestA e9 pb (e + 1)):=by rw [hs,g,Al,g2];all_goals rfl
     exact ⟨kP (ou ae tb lq js) gi gb ci cb (cD ae).length (oz (bestA e9 pb (e + 1))) (e + 1),(weak_mk ⟨_,rfl⟩ wA rfl rfl rfl (by repeat' (first | exact trivial | exact ai rfl | exact ai yw | exact ai Gy | exact aj (ej aq (by omega)) | exact aj hz | refine ⟨⟨_,rfl,?_⟩,?_⟩))),ae.length - (e + 1),by omega,e + 1,rfl,by omega,rfl⟩
    ·have g2:pb e k=false:=by simpa [pickB,g,lastG] using g2
     have hz:oz (some k)=oz (bestA e9 pb (e + 1)):=by rw [hs,g,Al,g2];all_goals rfl
     exact ⟨kP (ou ae tb lq js) gi gb ci cb (cD ae).length (oz (bestA e9 pb (e + 1))) (e + 1),(weak_mk ⟨_,rfl⟩ wA rfl rfl rfl (by repeat' (first | exact trivial | exact ai rfl | exact ai yw | exact ai Gy | exact aj (ej aq (by omega)) | exact aj hz | refine ⟨⟨_,rfl,?_⟩,?_⟩))),ae.length - (e + 1),by omega,e + 1,rfl,by omega,rfl⟩
   ·have g:e9 e=false:=by simpa [lastG] using g
    have hz:oz (some k)=oz (bestA e9 pb (e + 1)):=by rw [hs,g];all_goals rfl
    exact ⟨kP (ou ae tb lq js) gi gb ci cb (cD ae).length (oz (bestA e9 pb (e + 1))) (e + 1),(weak_mk ⟨_,rfl⟩ wA rfl rfl rfl (by repeat' (first | exact trivial | exact ai rfl | exact ai yw | exact ai Gy | exact aj (ej aq (by omega)) | exact aj hz | refine ⟨⟨_,rfl,?_⟩,?_⟩))),ae.length - (e + 1),by omega,e + 1,rfl,by omega,rfl⟩
 ·have bJ:e=ae.length:=by have:=hL;simp [hN] at this;omega
  subst bJ;refine aw (fun j st=>∃ e:Nat,st=lY (ou ae tb lq js) gi gb ci cb (cD ae).length (oz (bestA e9 pb ae.length)) e/\e<=ae.length/\(∀ o,bestA e9 pb ae.length=some o->∀ c,c < e->(e9 c && !pb o c)=false)/\j=ae.length - e) ae.length (lY (ou ae tb lq js) gi gb ci cb (cD ae).length (oz (bestA e9 pb ae.length)) 0) (weak_mk ⟨_,rfl⟩ wA rfl rfl rfl (by repeat' (first | exact trivial | exact ai rfl | exact ai yw | exact ai Gy | refine ⟨⟨_,rfl,?_⟩,?_⟩))) ⟨0,rfl,by omega,fun _ _ c hc=>by omega,by omega⟩ ?_;rintro j st ⟨e,rfl,he,mq,rfl⟩;refine br (fun hL=>?_) (fun hL=>?_)
  ·have aq:e < ae.length:=by have:=hL;simp [hN] at this;exact this
   cases hA:bestA e9 pb ae.length with
   | none=>
    exact ⟨lY (ou ae tb lq js) gi gb ci cb (cD ae).length (oz none) (e + 1),(weak_mk ⟨_,rfl⟩ wA rfl rfl rfl (by repeat' (first | exact trivial | exact ai rfl | exact ai yw | exact ai Gy | exact aj (ej aq (by omega)) | refine ⟨⟨_,rfl,?_⟩,?_⟩))),ae.length - (e + 1),by omega,e + 1,rfl,by omega,(fun _ h=>by cases h),rfl⟩
   | some o=>
    have ho:=lX hA;have mq:=mq o hA;refine call_p Up (rM e aq) ⟨_,_,rfl,rfl,O0⟩ rfl ?_;refine br (fun g=>?_) (fun g=>?_)
    ·have g:e9 e=true:=by simpa [pickB] using g
     refine call_p Uq (Ur o e ho aq) ⟨_,_,rfl,rfl,_,_,rfl,rfl,O1⟩ rfl ?_;refine br (fun g2=>?_) (fun g2=>?_)
     ·have g2:pb o e=false:=by simpa [pickB,g,lastG] using g2
      have:ku e9 pb ae.length=none:=by
       rw [ku,hA];simp only;rw [if_pos];rw [List.any_eq_true];exact ⟨e,by simpa using aq,by simp [g,g2]⟩
      rw [this];exact (rfl:_=_)
     ·have g2:pb o e=true:=by simpa [pickB,g,lastG] using g2
      exact ⟨lY (ou ae tb lq js) gi gb ci cb (cD ae).length (oz (some o)) (e + 1),(weak_mk ⟨_,rfl⟩ wA rfl rfl rfl (by repeat' (first | exact trivial | exact ai rfl | exact ai yw | exact ai Gy | exact aj (ej aq (by omega)) | refine ⟨⟨_,rfl,?_⟩,?_⟩))),ae.length - (e + 1),by omega,e + 1,rfl,by omega,fun o' IE c hc=>by
       cases IE;rcases Nat.lt_succ_iff_lt_or_eq.1 hc with hc | rfl
       ·exact mq c hc
       ·simp [g2],rfl⟩
    ·have g:e9 e=false:=by simpa [pickB] using g
     exact ⟨lY (ou ae tb lq js) gi gb ci cb (cD ae).length (oz (some o)) (e + 1),(weak_mk ⟨_,rfl⟩ wA rfl rfl rfl (by repeat' (first | exact trivial | exact ai rfl | exact ai yw | exact ai Gy | exact aj (ej aq (by omega)) | refine ⟨⟨_,rfl,?_⟩,?_⟩))),ae.length - (e + 1),by omega,e + 1,rfl,by omega,fun o' IE c hc=>by
       cases IE;rcases Nat.lt_succ_iff_lt_or_eq.1 hc with hc | rfl
       ·exact mq c hc
       ·simp [g],rfl⟩
  ·have bJ:e=ae.length:=by have:=hL;simp [hN] at this;omega
   subst bJ
   have:ku e9 pb ae.length=bestA e9 pb ae.length:=by
    cases hA:bestA e9 pb ae.length with
    | none=>rw [ku,hA]
    | some o=>
     rw [ku,hA];simp only;rw [if_neg];rw [List.any_eq_true];rintro ⟨c,hc,h2⟩;rw [mq o hA c (by simpa using hc)] at h2;cases h2
   rw [this];exact (rfl:_=_)
end Go.Proofs.YtfifjddnnmfeoaaGreat
