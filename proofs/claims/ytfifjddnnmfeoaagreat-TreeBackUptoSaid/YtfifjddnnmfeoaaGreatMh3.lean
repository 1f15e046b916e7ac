/- Part 3 of the proof: names.New: the table; names.Twice: does a text stand earlier, too?; Contracts: the reference's words, Plain, Same, Zero, own; Contracts: the reference's Same, Zero, own; Contracts: the reference's Label, listed, names, Size, with, coarse; What is wrong with a type: the plain function; the reference's Wrong and parts return it; The program's checks of types: bad, listed, label, words; The program's checks of types: label, coarse; The program's comparing of names and types; The program's Same; The program's own, empty; The program's empty, enum; kinds.Right, once the checker's check is known; Numbers in tens: the reference's Put; Numbers in tens: the program's Put; The text of a type, plain; the reference's Label and comma; The reference's text of a type: Label, comma, part, Type; The reference's text of a part; The reference's text of a type; The library's strings.Join, laid at this program by the kit's tool (lay-plain; wip/tools/lay.sh); The program's text of a label, of what stands behind a part's type, of lists; The program's text of a type: field, tag, kind; unparse.Type, once the checker's check is known; A type with which nothing is wrong is fine for its text; Readable data as data of the evaluator: what the statement's form reads of an argument is a datum of the evaluator, of the argument's type, no heavier than what was read; What is read of a type, as the plain data; From a contract over data to what a law's statement asks: the arguments are read, the call returns true, all that was there stays; What all laws' frames share: the bulk, the program's closed facts; Types without places: plain, and the program's kinds.Strip; Schemas: plain, as the evaluator has them, without places; What is read of a schema, as the plain data; What the frames of laws over schemas share; The program's closed facts, each by itself (all at once they ask more memory than a Lean process has); Relations as rows of bits: plain, and rel's functions that read; rel.back: who leads to a thing and is led to by it; rel.New: the rows of a list of pairs; rel.Close: the closure, by rows; The number of bits that are set, as the library reckons it; math/bits.OnesCount64; When two bits are set; rel.Loop: the least thing in a loop; The plain law of closeR: its bits are what is led to; The program's and the reference's check of names that must differ; The table's Find, whole; lattice.many, called, numbered; Rules for the evaluator: a call that is handed the caller's first objects and rows; rows whose cells nobody else knows; lattice.best, and the closures of bounds. No condition. -/
import Derived.Laws.StructEq
import Derived.Shelf.Strings.OnBuilder
import Derived.Deep.Slices
import Derived.ChangeArms
import Derived.DataReads
import Derived.WalkKit
import Derived.ProofKit
import Derived.OpenShut
import Derived.Carry
import Derived.JoinedCond
import Derived.Test.YtfifjddnnmfeoaaGreatRows
import Derived.Test.YtfifjddnnmfeoaaGreatMh2
set_option linter.all false
set_option maxRecDepth 100000
namespace Go.Proofs.YtfifjddnnmfeoaaGreat
open Go Go.RowKit Dv Tryz
theorem sQ {n m:Nat} {tk:List TkE}:∀ ds:List Nat,WeL n m tk (dInts ds).flatten (dInts ds).flatten
 | []=>rfl
 | b :: r=>⟨_,_,rfl,aw rfl,sQ r⟩
theorem mD {n m:Nat} {tk:List TkE} {l:List DV} {ds:List Nat} (h:l=(dInts ds).flatten):WeL n m tk l (dInts ds).flatten:=by rw [h];exact sQ ds
def fh (n e:Nat):List Nat:=List.range e ++ List.replicate (n - e) 0
theorem BZ {n e:Nat} (h:e<=n):(fh n e).length=n:=by simp [fh];omega
theorem fillA_0 (n:Nat):(List.replicate n [DV.v (.int .i64 0)]).flatten=(dInts (fh n 0)).flatten:=by simp [fh,dInts]
theorem Hn (n:Nat):fh n n=List.range n:=by simp [fh]
theorem kJ (ds:List Nat):(dInts ds).flatten=ds.map fun (i:Nat)=>DV.v (.int .i64 (i:Int)):=by
 induction ds with
 | nil=>rfl
 | cons x r ih=>simp only [dInts,List.map_cons,List.flatten_cons] at ih ⊢;rw [ih];all_goals rfl
theorem yV {n e:Nat} (h:e < n):(dInts (fh n e)).flatten.take e ++ [DV.v (.int .i64 (e:Int))] ++ (dInts (fh n e)).flatten.drop (e + 1)=(dInts (fh n (e + 1))).flatten:=by
 simp only [kJ,<- List.map_take,<- List.map_drop];have e1:(fh n e).take e=List.range e:=by simp [fh]
 have e2:(fh n e).drop (e + 1)=List.replicate (n - (e + 1)) 0:=by
  simp only [fh,List.drop_append,List.length_range];rw [List.drop_eq_nil_of_le (by simp),List.nil_append,List.drop_replicate];congr 1;omega
 rw [e1,e2];simp [fh,List.range_succ]
abbrev Ec (L:List ByteArray) (e:Nat):St:=
 ⟨[(3,⟨[],.loc 1 0⟩),(4,⟨[],.loc 3 0⟩),(16,⟨[],.v (.int .i64 (dz L).length)⟩),(17,⟨[],.v (.int .i64 e)⟩)],
  [[.sl 1 (dz L) (some 0),.v (.slice none 0 0)],[.loc 0 0],(dInts (fh (dz L).length e)).flatten,[.ms 2 1 0 (dz L).length (dz L).length]],[⟨(dz L).length,9,1,none⟩]⟩
def ei (L:List ByteArray) (ds:List Nat) (i:Nat):Bool:=decide (i=0) || !decide (L.getD (ds.getD i 0) ap=L.getD (ds.getD (i - 1) 0) ap)
def dJ (L:List ByteArray) (ds:List Nat) (e:Nat):List Nat:=((List.range e).filter (ei L ds)).map fun i=>ds.getD i 0
theorem qp (L:List ByteArray) (ds:List Nat) (e:Nat):dJ L ds (e + 1)=dJ L ds e ++ (if ei L ds e=true then [ds.getD e 0] else []):=by
 unfold dJ;rw [List.range_succ,List.filter_append,List.map_append];congr 1;cases h:ei L ds e<;>simp [h]
theorem B0 (L:List ByteArray) (ds:List Nat) (e:Nat):(dJ L ds e).length<=e:=by
 unfold dJ;rw [List.length_map];exact Nat.le_trans (List.length_filter_le _ _) (by simp)
abbrev KG (L:List ByteArray) (ds:List Nat):St:=
 ⟨[(3,⟨[],.loc 1 0⟩),(4,⟨[],.pt [.sl 1 (dInts ds) none] 0⟩),(29,⟨[],.sl 1 (dInts ds) none⟩),(30,⟨[],.v (.int .i64 (dz L).length)⟩),(31,⟨[],.v (.int .i64 0)⟩)],
  [[.sl 1 (dz L) (some 0),.v (.slice none 0 0)],[.loc 0 0]],[⟨(dz L).length,9,1,none⟩]⟩
abbrev wC (L:List ByteArray) (ds aC:List Nat) (m e:Nat):St:=
 ⟨[(3,⟨[],.loc 1 0⟩),(4,⟨[],.pt [.sl 1 (dInts ds) none] 0⟩),(29,⟨[],.sl 1 (dInts ds) none⟩),(30,⟨[],.v (.int .i64 (dz L).length)⟩),(31,⟨[],.v (.int .i64 e)⟩)],
  [[.sl 1 (dz L) (some 0),.sl 1 (dInts aC) (some 1)],[.loc 0 0]],[⟨(dz L).length,9,1,none⟩,⟨m,3,1,none⟩]⟩
theorem getD_some {α:Type} {l:List α} {i:Nat} {x d:α} (h:l[i]? = some x):l.getD i d=x:=by simp [List.getD_eq_getElem?_getD,h]
theorem nM {α:Type} {l:List α} {i:Nat} {d:α} (h:i < l.length):l[i]? = some (l.getD i d):=by
 rw [gE h,List.getD_eq_getElem?_getD,gE h];all_goals rfl
theorem KH {L:List ByteArray} {ds:List Nat} (lh:ds.Perm (List.range L.length)) (BV:∀ i j p q:Nat,i < j->ds[i]? = some p->ds[j]? = some q->vD L q p=false):fg L (dJ L ds L.length):=by
 have hlen:ds.length=L.length:=by rw [lh.length_eq,List.length_range]
 let D:Nat->Nat:=fun i=>ds.getD i 0
 let T:Nat->ByteArray:=fun i=>L.getD (D i) ap
 have hD:∀ i,i < L.length->ds[i]? = some (D i):=fun i hi=>nM (by omega)
 have Te:∀ i,i < L.length->D i < L.length:=fun i hi=>by
  have:=lh.mem_iff.1 (mG (hD i hi));exact List.mem_range.1 this
 have hT:∀ i,i < L.length->L[D i]? = some (T i):=fun i hi=>nM (Te i hi)
 have iA:∀ i j,i < j->j < L.length->T i=T j∨rZ (T i) (T j)=true:=by
  intro i j gv hj;have h:=BV i j (D i) (D j) gv (hD i (by omega)) (hD j hj);unfold vD at h;by_cases he:T j=T i
  ·exact .inl he.symm
  ·rw [if_neg he] at h;rcases AF h with h | h
   ·exact absurd h he
   ·exact .inr h
 have Je:∀ i,i < L.length->ei L ds i=true->∀ j,j < i->rZ (T j) (T i)=true:=by
  intro i hi hh j GR
  have aQ:T i≠T (i - 1):=by
   intro he;unfold ei at hh;have:decide (i=0)=false:=by simp;omega
   rw [this] at hh;simp only [Bool.false_or,Bool.not_eq_true',decide_eq_false_iff_not] at hh;exact hh he
  have h1:rZ (T (i - 1)) (T i)=true:=by
   rcases iA (i - 1) i (by omega) hi with h | h
   ·exact absurd h.symm aQ
   ·exact h
  by_cases hj:j=i - 1
  ·rw [hj];exact h1
  ·rcases iA j (i - 1) (by omega) (by omega) with h | h
   ·rw [h];exact h1
   ·exact ep h h1
 have dF:∀ j,j < L.length->∃ k,k < L.length/\D k=j:=by
  intro j hj;have:=lh.mem_iff.2 (List.mem_range.2 hj);obtain ⟨k,hk⟩:=List.getElem?_of_mem this;have gZ:=(gS hk).1;exact ⟨k,by omega,getD_some hk⟩
 let H:=(List.range L.length).filter (ei L ds)
 have hH:∀ (a i:Nat),H[a]? = some i->i < L.length/\ei L ds i=true:=fun a i h=>by
  have:=mG h;simp only [H,List.mem_filter,List.mem_range] at this;exact this
 have B1:∀ (a p:Nat),(dJ L ds L.length)[a]? = some p->∃ i,H[a]? = some i/\D i=p:=by
  intro a p h;unfold dJ at h;rw [List.getElem?_map] at h
  cases hh:H[a]? with
  | none=>rw [show (List.filter (ei L ds) (List.range L.length))[a]? = none from hh] at h;cases h
  | some i=>
   rw [show (List.filter (ei L ds) (List.range L.length))[a]? = some i from hh] at h;simp only [Option.map_some,oI] at h;exact ⟨i,rfl,h⟩
 have Q4:∀ (a b i k:Nat),a < b->H[a]? = some i->H[b]? = some k->i < k:=by
  intro a b i k vC hi hk;have hp:List.Pairwise (·< ·) H:=List.Pairwise.filter _ List.pairwise_lt_range;obtain ⟨ha,rfl⟩:=List.getElem?_eq_some_iff.1 hi;obtain ⟨hb,rfl⟩:=List.getElem?_eq_some_iff.1 hk;exact List.pairwise_iff_getElem.1 hp a b ha hb vC
 refine ⟨?_,?_,?_,?_⟩
 ·intro a p h;obtain ⟨i,hi,rfl⟩:=B1 a p h;exact Te i (hH a i hi).1
 ·intro a b p q s t vC hp hq hs ht;obtain ⟨i,hi,rfl⟩:=B1 a p hp;obtain ⟨k,hk,rfl⟩:=B1 b q hq;rw [hT i (hH a i hi).1] at hs;rw [hT k (hH b k hk).1] at ht;simp only [oI] at hs ht;rw [<- hs,<- ht];exact Je k (hH b k hk).1 (hH b k hk).2 i (Q4 a b i k vC hi hk)
 ·intro a p j s hp hs hj;obtain ⟨i,hi,rfl⟩:=B1 a p hp;obtain ⟨Ee,rT⟩:=hH a i hi;obtain ⟨k,hk,rfl⟩:=dF j (gS hj).1;rw [hT i Ee] at hs;rw [hT k hk] at hj;simp only [oI] at hs hj;rcases Nat.lt_trichotomy k i with h | h | h
  ·have:=Je i Ee rT k h;rw [hs,hj,rZ,iu] at this;cases this
  ·rw [h];exact Nat.le_refl _
  ·have h2:=BV i k (D i) (D k) h (hD i Ee) (hD k hk);unfold vD at h2
   have he:L.getD (D k) ap=L.getD (D i) ap:=by
    show T k=T i;rw [hj,hs]
   rw [if_pos he] at h2;simp at h2;omega
 ·intro j s hj;obtain ⟨k,hk,rfl⟩:=dF j (gS hj).1;rw [hT k hk] at hj;simp only [oI] at hj;obtain ⟨i,⟨Ee,NI⟩,Q5⟩:=least (p:=fun i=>i < L.length/\T i=s) ⟨k,hk,hj⟩
  have rT:ei L ds i=true:=by
   unfold ei;by_cases h0:i=0
   ·simp [h0]
   ·have aQ:¬ T i=T (i - 1):=fun he=>by
     have:=Q5 (i - 1) ⟨by omega,by rw [<- he];exact NI⟩;omega
    have e1:decide (L.getD (ds.getD i 0) ap=L.getD (ds.getD (i - 1) 0) ap)=false:=decide_eq_false aQ;rw [e1];simp
  have hm:i∈H:=by simp only [H,List.mem_filter,List.mem_range];exact ⟨Ee,rT⟩
  obtain ⟨a,ha⟩:=List.getElem?_of_mem hm;refine ⟨a,D i,?_,by rw [hT i Ee,NI]⟩;unfold dJ;rw [List.getElem?_map];rw [show (List.filter (ei L ds) (List.range L.length))[a]? = some i from ha];rfl
theorem qq (L:List ByteArray) (hl:L.length<=1099511627776) :
  Ev Tryz.prog 96 [.sl 1 (dz L) none] [] [] (fun r _ _=>∃ aC,fg L aC/\aC.length<=L.length/\r = .pt (cm L aC) 0):=by
 have hN:=bg L;refine ev_go (P:=Tryz.prog) tt tt_ok 5000 71 [.tmp 2] Tryz.func96 rfl Tryz.ntmps96 rfl (nL rfl) (fun E9 w9 hn9 hm9=>?_);refine ⟨⟨by simp [hN,maxLen];omega,by simp [hN];omega⟩,?_⟩;refine ⟨⟨rfl,by omega,by omega,by omega⟩,?_⟩;refine bU (fun j st=>∃ e:Nat,st=Ec L e/\e<=L.length/\j=L.length - e) L.length (Ec L 0) (aS 4 rfl (by repeat' (first | exact rfl | exact aw rfl | exact mD (fillA_0 _) | refine ⟨_,_,rfl,?_,?_⟩)) rfl rfl rfl (by repeat' (first | exact trivial | exact aw rfl | exact mD (fillA_0 _) | refine ⟨⟨_,rfl,?_⟩,?_⟩))) ⟨0,rfl,by omega,rfl⟩ ?_;rintro j st ⟨e,rfl,he,rfl⟩;refine br (fun h=>?_) (fun h=>?_)
 ·have au:e < (dz L).length:=by simpa using h
  refine ⟨⟨by omega,by omega⟩,?_⟩;have e1:(dInts (fh (dz L).length e)).flatten.length=(dz L).length:=by rw [kJ,List.length_map,BZ (by omega)]
  refine ⟨by rw [e1];omega,?_⟩
  have cA:(dInts (fh (dz L).length e)).flatten.set (0 + (e:Int).toNat * 1) (DV.v (.int .i64 (e:Int)))=(dInts (fh (dz L).length (e + 1))).flatten:=by
   rw [show 0 + (e:Int).toNat * 1=e by omega,List.set_eq_take_append_cons_drop,if_pos (by rw [e1];omega),<- yV au];simp
  refine ⟨Ec L (e + 1),(aS 4 rfl (by repeat' (first | exact rfl | exact aw rfl | exact mD cA | exact ay (bA au (by omega)) | refine ⟨_,_,rfl,?_,?_⟩)) rfl rfl rfl (by repeat' (first | exact trivial | exact aw rfl | exact mD cA | exact ay (bA au (by omega)) | refine ⟨⟨_,rfl,?_⟩,?_⟩))),L.length - (e + 1),by omega,e + 1,rfl,by omega,rfl⟩
 ·have bI:e=(dz L).length:=by
   have:¬ e < (dz L).length:=by simpa using h
   omega
  subst bI;rw [Hn]
  have Tf:∀ dk:List Nat,dk.length=(List.range (dz L).length).length->∀ bx:List (List DV),bx[2]? = some (dInts dk).flatten->∀ N0 n0 m0:Nat,N0<=2->Cc bx N0 n0 m0 (.sl 1 (dInts dk) none) (.ms 2 1 0 (dz L).length (dz L).length):=by
   intro dk LW bx hb N0 n0 m0 hN0;simp only [Cc];refine Or.inr (Or.inr (Or.inl ⟨2,0,(dz L).length,_,?_,hN0,hb,?_,?_,?_⟩))
   ·rw [bG,LW,List.length_range]
   ·rw [List.drop_zero,List.take_of_length_le];rw [kJ,List.length_map,bG];omega
   ·intro x hx;simp only [dInts,List.mem_map] at hx;obtain ⟨_,_,rfl⟩:=hx;rfl
   ·intro x hx;rw [kJ] at hx;obtain ⟨_,_,rfl⟩:=List.mem_map.1 hx;exact .inl ⟨_,rfl⟩
  refine BU (ds:=List.range (dz L).length) rfl (by simp) (dz L).length (fun p hp=>List.mem_range.1 hp) (vD L) (Hk L) rfl (by simp [hN];omega)
   (fun dk=>[.pt [.sl 1 (dInts dk) none] 0,.pt [.pt [.sl 1 (dz L) none,.v (.slice none 0 0)] 0] 0])
   (fun dk LW=>⟨_,_,rfl,Or.inr ⟨3,_,rfl,Nat.zero_le _,rfl,⟨_,_,rfl,Tf dk LW _ rfl 0 0 0 (Nat.zero_le _),rfl⟩⟩,ax⟩)
   (fun dk LW hp i j p q hi hj=>BT L dk i j p q hi hj (by have:=hp p (mG hi);omega) (by have:=hp q (mG hj);omega)) rfl (fun ds lh BV=>?_)
  have ed:ds.length=(dz L).length:=by rw [lh.length_eq,List.length_range]
  have NJ:=Tf ds (by rw [ed,List.length_range])
  refine DQ 2 (KG L ds) rfl rfl rfl ⟨_,_,rfl,⟨_,_,rfl,⟨nL rfl,rfl⟩,_,_,rfl,rfl,rfl⟩,_,_,rfl,⟨_,_,rfl,⟨nL rfl,rfl⟩,rfl⟩,rfl⟩
   ⟨⟨_,rfl,⟨nL rfl,rfl⟩⟩,⟨_,rfl,Or.inr ⟨3,_,rfl,by decide,rfl,⟨_,_,rfl,NJ _ rfl 2 0 0 (by decide),rfl⟩⟩⟩,⟨_,rfl,NJ _ rfl 2 2 1 (by decide)⟩,⟨_,rfl,rfl⟩,⟨_,rfl,rfl⟩,trivial⟩ ?_
  refine bU (fun j st=>∃ e m:Nat,st=wC L ds (dJ L ds e) m e/\m=(dJ L ds e).length/\e<=(dz L).length/\j=(dz L).length - e) (dz L).length (wC L ds [] 0 0)
   (dn 2 ⟨0,3,1,none⟩ rfl rfl rfl wTA rfl rfl wB) ⟨0,0,rfl,rfl,by omega,by omega⟩ ?_
  rintro j st ⟨e,m,rfl,hm,he,rfl⟩;have gk:=B0 L ds e;refine br (fun h=>?_) (fun h=>?_)
  ·have au:e < (dz L).length:=by simpa using h
   obtain ⟨p,hp⟩:∃ p,ds[e]? = some p:=⟨_,gE (by omega)⟩
   have hpL:p < L.length:=by
    have:=lh.mem_iff.1 (mG hp);rw [List.mem_range] at this;omega
   obtain ⟨s,hs⟩:∃ s,L[p]? = some s:=⟨_,gE hpL⟩;refine ⟨_,⟨by omega,dO hp⟩,?_⟩;have Tg:ds.getD e 0=p:=by simp [List.getD_eq_getElem?_getD,hp]
   have yu:L.getD p ap=s:=by simp [List.getD_eq_getElem?_getD,hs]
   have c9:ei L ds e=true->dJ L ds (e + 1)=dJ L ds e ++ [p]:=fun hh=>by rw [qp,if_pos hh,Tg]
   have hold:ei L ds e=false->dJ L ds (e + 1)=dJ L ds e:=fun hh=>by rw [qp,if_neg (by rw [hh];decide),List.append_nil]
   have AH:ei L ds e=true->dInts (dJ L ds e) ++ [[DV.v (.int .i64 (p:Int))]]=dInts (dJ L ds (e + 1)):=fun hh=>by rw [c9 hh];simp [dInts]
   by_cases h0:e=0
   ·subst h0;have hh:ei L ds 0=true:=by simp [ei]
    refine Av (fun _=>false) mo (by decide +kernel) ?_;refine G7 mo (by decide +kernel) ?_;refine ⟨by rw [bG,hm],⟨by simp [bG,maxLen];omega,by simp [bG];omega⟩,?_⟩;refine ⟨wC L ds (dJ L ds 1) (m + 1) 1,(aS 2 rfl (by repeat' (first | exact rfl | exact aw rfl | exact ay (bA au (by omega)) | exact dG (AH hh) rfl | refine ⟨_,_,rfl,?_,?_⟩)) rfl rfl rfl (by repeat' (first | exact trivial | exact aw rfl | exact ay (bA au (by omega)) | exact dG (AH hh) rfl | refine ⟨⟨_,rfl,?_⟩,?_⟩))),(dz L).length - 1,by omega,1,m + 1,rfl,by rw [c9 hh,List.length_append,hm];rfl,by omega,rfl⟩
   ·obtain ⟨p',mh⟩:∃ p',ds[e - 1]? = some p':=⟨_,gE (by omega)⟩
    have Q6:p' < L.length:=by
     have:=lh.mem_iff.1 (mG mh);rw [List.mem_range] at this;omega
    obtain ⟨s',Th⟩:∃ s',L[p']? = some s':=⟨_,gE Q6⟩;have Q7:ds.getD (e - 1) 0=p':=by simp [List.getD_eq_getElem?_getD,mh]
    have Q8:L.getD p' ap=s':=by simp [List.getD_eq_getElem?_getD,Th]
    have Pu:ei L ds e = !decide (s=s'):=by
     unfold ei;rw [Tg,Q7,yu,Q8];simp [h0]
    have hz:IntKind.i64.wrap ((e:Int) - 1)=((e - 1:Nat):Int):=by rw [wrap64 (by omega) (by omega)];omega
    refine Av (fun _=>false) mo (by decide +kernel) ?_;refine br (fun _=>?_) (fun h=>?_)
    ·refine ⟨_,⟨by omega,dN hs⟩,?_⟩;refine ⟨[.v (.int .i64 (p':Int))],⟨by rw [hz];omega,by rw [hz];exact dO mh⟩,?_⟩;refine ⟨_,⟨by omega,dN Th⟩,?_⟩;refine br (fun h2=>?_) (fun h2=>?_)
     ·have hh:ei L ds e=true:=by
       rw [Pu];simp [aA,h0] at h2;simpa using h2
      refine G7 mo (by decide +kernel) ?_;refine ⟨by rw [bG,hm],⟨by simp [bG,maxLen];omega,by simp [bG];omega⟩,?_⟩;refine ⟨wC L ds (dJ L ds (e + 1)) (m + 1) (e + 1),(aS 2 rfl (by repeat' (first | exact rfl | exact aw rfl | exact ay (bA au (by omega)) | exact dG (AH hh) rfl | refine ⟨_,_,rfl,?_,?_⟩)) rfl rfl rfl (by repeat' (first | exact trivial | exact aw rfl | exact ay (bA au (by omega)) | exact dG (AH hh) rfl | refine ⟨⟨_,rfl,?_⟩,?_⟩))),(dz L).length - (e + 1),by omega,e + 1,m + 1,rfl,by rw [c9 hh,List.length_append,hm];rfl,by omega,rfl⟩
     ·have hh:ei L ds e=false:=by
       rw [Pu];simp [aA,h0] at h2;simpa using h2
      have bm:dInts (dJ L ds e)=dInts (dJ L ds (e + 1)):=by rw [hold hh]
      refine ⟨wC L ds (dJ L ds (e + 1)) m (e + 1),(aS 2 rfl (aK au bm) rfl rfl rfl (aj au bm)),(dz L).length - (e + 1),by omega,e + 1,m,rfl,by rw [hold hh,hm],by omega,rfl⟩
    ·exfalso;have:decide ((e:Int)=0)=true:=by simpa using h
     simp at this;exact h0 this
  ·have bI:e=L.length:=by
    have:¬ e < (dz L).length:=by simpa using h
    omega
   subst bI;exact ⟨.pt (cm L (dJ L ds L.length)) 0,Or.inr ⟨0,_,rfl,Nat.zero_le _,rfl,ax⟩,_,KH (by rw [<- hN];exact lh) BV,gk,rfl⟩
abbrev NK (L:List ByteArray) (aC:List Nat) (e:Nat):St:=
 ⟨[(3,⟨[],.pt (cm L aC) 0⟩),(10,⟨[],.sl 1 (dz L) none⟩),(11,⟨[],.v (.int .i64 (dz L).length)⟩),(12,⟨[],.v (.int .i64 e)⟩)],[],[]⟩
theorem Ef {α:Type}:∀ {l:List α},(∀ (i j:Nat) (x:α),j < i->l[i]? = some x->l[j]? ≠ some x)->l.Nodup
 | l,h=>by
  rw [List.nodup_iff_pairwise_ne,List.pairwise_iff_getElem];intro i j hi hj gv he;exact h j i l[j] gv (gE hj) (by rw [gE hi,he])
theorem lB (L:List ByteArray) (hl:L.length<=1099511627776) :
  Ev Tryz.prog 103 [.sl 1 (dz L) none] [] [] (fun r _ _=>∃ z:Int,r = .v (.int .i64 z)/\(0<=z↔¬ L.Nodup)):=by
 have hN:=bg L;refine ev_go (P:=Tryz.prog) tt tt_ok 5000 28 [.tmp 2] Tryz.func103 rfl Tryz.ntmps103 rfl (nL rfl) (fun E9 w9 hn9 hm9=>?_);refine im Kz rfl (qq L hl) ax (fun r hr=>?_);obtain ⟨aC,hT,gk,rfl⟩:=hr;refine bU (fun j st=>∃ e:Nat,st=NK L aC e/\e<=L.length/\(∀ (i j:Nat) (x:ByteArray),i < e->j < i->L[i]? = some x->L[j]? ≠ some x)/\j=L.length - e) L.length (NK L aC 0) (aq ⟨_,rfl⟩ wA rfl rfl rfl wB) ⟨0,rfl,by omega,fun i j x hi=>by omega,rfl⟩ ?_;rintro j st ⟨e,rfl,he,hinv,rfl⟩;refine br (fun h=>?_) (fun h=>?_)
 ·have au:e < L.length:=by simpa [hN] using h
  obtain ⟨s,hs⟩:∃ s,L[e]? = some s:=⟨_,gE au⟩;obtain ⟨q,p,hq,hp⟩:=hT.all e s hs;have cC:=hT.fst q p e s hq hp hs;refine ⟨_,⟨by omega,dN hs⟩,?_⟩;refine call_p qi (find_spec L aC s q p hT (by omega) hq hp) ax rfl ?_;refine br (fun h2=>?_) (fun h2=>?_)
  ·have h2:p < e:=by simpa using h2
   refine ⟨(e:Int),rfl,⟨fun _ hnd=>?_,fun _=>by omega⟩⟩;rw [List.nodup_iff_pairwise_ne,List.pairwise_iff_getElem] at hnd;obtain ⟨h3,h4⟩:=List.getElem?_eq_some_iff.1 hp;obtain ⟨h5,h6⟩:=List.getElem?_eq_some_iff.1 hs;exact hnd p e h3 h5 h2 (by rw [h4,h6])
  ·have h2:¬ p < e:=by simpa using h2
   refine ⟨NK L aC (e + 1),(aq ⟨_,rfl⟩ wA rfl rfl rfl (ah au)),L.length - (e + 1),by omega,e + 1,rfl,by omega,fun i j x hi hj hx Ti=>?_,rfl⟩;by_cases I5:i=e
   ·subst I5;rw [hs] at hx;simp only [oI] at hx;subst hx;have:=hT.fst q p j s hq hp Ti;omega
   ·exact hinv i j x (by omega) hj hx Ti
 ·have bI:e=L.length:=by
   have:¬ e < L.length:=by simpa [hN] using h
   omega
  subst bI;refine ⟨-1,rfl,⟨fun h3=>by omega,fun h3=>?_⟩⟩;exact absurd (Ef fun i j x gv hi hj=>hinv i j x (gS hi).1 gv hi hj) h3
def sameWds:List Wd->List Wd->Bool
 | [],[]=>true
 | x :: r,y :: s=>decide (x.s=y.s) && sameWds r s
 | _,_=>false
def bW (p q:Ph):Bool:=(p.bare == q.bare) && decide (p.wide=q.wide) && sameWds p.label q.label && decide (p.ck=q.ck) && decide (p.cn=q.cn) && sameWds p.cl q.cl
def lC (h k:Hd):Bool:=decide (h.ag=k.ag) && decide (h.lo=k.lo) && decide (h.hi=k.hi) && decide (h.most=k.most) && decide (h.name.s=k.name.s) && sameWds h.ae k.ae
mutual
def sameTy:Ty->Ty->Bool
 | .mk h ps,.mk k qs=>lC h k && samePts ps qs
def samePts:Pts->Pts->Bool
 | .nil,.nil=>true
 | .cons p t r,.cons q u s=>decide (p.name.s=q.name.s) && bW p q && sameTy t u && samePts r s
 | _,_=>false
end
def Eg (h:Hd):Hd:=
 ⟨h.ag,0,if h.ag=2 then h.lo else 0,if h.ag=2 then h.hi else 0,if h.ag=3∨h.ag=5 then h.most else 0,if h.ag=4 then h.ae else [],if h.ag=9 then h.name else ⟨ap,0⟩⟩
def mask:Ty->Ty
 | .mk h ps=>.mk (Eg h) (if 4 < h.ag/\h.ag < 9 then ps else .nil)
end Go.Proofs.YtfifjddnnmfeoaaGreat
set_option maxRecDepth 100000
namespace Go.Proofs.YtfifjddnnmfeoaaGreat
open Go Go.RowKit Dv Tryz
end Go.Proofs.YtfifjddnnmfeoaaGreat
set_option maxRecDepth 100000
namespace Go.Proofs.YtfifjddnnmfeoaaGreat
open Go Go.RowKit Dv Tryz
abbrev Ft:Type:=Int × Int
def Ft.d (f:Ft):DV:=.agg [.v (.int .i64 f.1),.v (.int .i64 f.2)]
def badWd:List Wd->Ft
 | []=>(0,0)
 | w :: r=>if bK w.s then badWd r else (9,w.a)
def cV (l:List Wd):Ft:=
 if l.length<=32 then badWd l else (8,((l[32]?).getD (⟨ap,0⟩:Wd)).a)
def cW (l:List Wd) (s:ByteArray):Bool:=l.any fun w=>decide (w.s=s)
def aN (l:List Wd) (i:Nat) (x:Wd):Int:=
 if bK x.s then (if cW (l.take i) x.s then 10 else 0) else 9
def pNames:Pts->List Wd
 | .nil=>[]
 | .cons p _ r=>p.name :: pNames r
theorem lD:∀ ps:Pts,(pNames ps).length=ps.len
 | .nil=>rfl
 | .cons p t r=>by simp [pNames,Pts.len,lD r]
theorem ju:∀ {ps:Pts} {j:Nat} {p:Ph} {t:Ty},ps.toList[j]? = some (p,t)->(pNames ps)[j]? = some p.name
 | .nil,j,p,t,h=>by simp [Pts.toList] at h
 | .cons q u r,0,p,t,h=>by
  simp only [Pts.toList,List.getElem?_cons_zero,oI,Prod.mk.injEq] at h;obtain ⟨rfl,rfl⟩:=h;simp [pNames]
 | .cons q u r,j + 1,p,t,h=>by
  simp only [Pts.toList,List.getElem?_cons_succ] at h;simp only [pNames,List.getElem?_cons_succ];exact ju h
theorem sS:∀ ps:Pts,wdsWt (pNames ps)<=ps.wt
 | .nil=>Nat.le_refl _
 | .cons p t r=>by
  have:=sS r;simp only [pNames,wdsWt,Pts.wt,Ph.wt] at this ⊢;omega
mutual
def Ty.cnt:Ty->Nat
 | .mk _ ps=>1 + ps.cnt
def Pts.cnt:Pts->Nat
 | .nil=>0
 | .cons p t r=>(if p.bare then 0 else t.cnt) + r.cnt
end
mutual
def Ty.deep:Ty->Nat
 | .mk _ ps=>ps.deep + 1
def Pts.deep:Pts->Nat
 | .nil=>0
 | .cons p t r=>max (if p.bare then 0 else t.deep) r.deep
end
mutual
theorem Ty.eD:∀ t:Ty,t.cnt<=t.wt
 | .mk h ps=>by have:=Pts.eD ps;simp only [Ty.cnt,Ty.wt,Hd.wt];omega
theorem Pts.eD:∀ ps:Pts,ps.cnt<=ps.wt
 | .nil=>Nat.le_refl _
 | .cons p t r=>by
  have:=Ty.eD t;have:=Pts.eD r;simp only [Pts.cnt,Pts.wt];split<;>omega
end
mutual
theorem Ty.kK:∀ t:Ty,t.deep<=t.wt
 | .mk h ps=>by have:=Pts.kK ps;simp only [Ty.deep,Ty.wt,Hd.wt];omega
theorem Pts.kK:∀ ps:Pts,ps.deep<=ps.wt
 | .nil=>Nat.le_refl _
 | .cons p t r=>by
  have:=Ty.kK t;have:=Pts.kK r;simp only [Pts.deep,Pts.wt];split<;>omega
end
abbrev uL (t:Ty) (e n d:Nat):St:=
 ⟨[(1,⟨[],.loc 0 0⟩),(4,⟨[],.v (.int .i64 n)⟩),(5,⟨[],.v (.int .i64 d)⟩),(6,⟨[],.v (.int .i64 e)⟩)],[gm t],[]⟩
theorem j4:∀ (k:Nat) (t:Ty),t.wt<=k->t.wt<=1099511627776 ->
  ba Tryz.prog 42 [.agg (gm t)] (.dV [.v (.int .i64 t.cnt),.v (.int .i64 t.deep)])
 | 0,t,hn,_=>by have:=t.cT;omega
 | k + 1,.mk h ps,hn,cO=>by
  simp only [Ty.wt,Hd.wt] at hn cO;have sv:=ps.jr;have hc:=ps.eD;have yW:=ps.kK;refine ev_go (P:=Tryz.prog) tt tt_ok 5000 42 [.tmp 2,.tmp 3] Tryz.func42 rfl Tryz.ntmps42 rfl (nL rfl) (fun E9 w9 hn9 hm9=>?_)
  refine bU (fun j st=>∃ (e n d:Nat),st=uL (.mk h ps) e n d/\e<=ps.len/\n + (ps.drop e).cnt=1 + ps.cnt/\max d (ps.drop e).deep=ps.deep/\j=ps.len - e) ps.len
   (uL (.mk h ps) 0 1 0) (aq ⟨_,rfl⟩ wA rfl rfl rfl wB) ⟨0,1,0,rfl,by omega,rfl,by simp [Pts.drop],by omega⟩ ?_
  rintro j st ⟨e,n,d,rfl,he,aQ,Ho,rfl⟩;refine br (fun hL=>?_) (fun hL=>?_)
  ·have au:e < ps.len:=by simpa [aR] using hL
   obtain ⟨p,t,hx⟩:=Pts.gP au;have Eh:=Pts.ir (mG hx);rw [Pts.drop_cons hx] at aQ Ho;simp only [Pts.cnt,Pts.deep] at aQ Ho;have B2:=t.eD;have hdt:=t.kK;refine ⟨_,⟨by omega,dw hx⟩,?_⟩;refine br (fun hB=>?_) (fun hB=>?_)
   ·rw [if_pos hB] at aQ Ho;exact ⟨uL (.mk h ps) (e + 1) n d,(aq ⟨_,rfl⟩ wA rfl rfl rfl (ah au)),ps.len - (e + 1),by omega,e + 1,n,d,rfl,by omega,by omega,by omega,rfl⟩
   ·rw [if_neg (by simp [hB])] at aQ Ho;obtain ⟨u,us⟩:=t;refine ⟨_,⟨by omega,dw hx⟩,?_⟩;refine call_p Kx (j4 k (.mk u us) (by omega) (by omega)) ax rfl ?_;have Hp:IntKind.i64.wrap ((n:Int) + (Ty.mk u us).cnt)=((n + (Ty.mk u us).cnt:Nat):Int):=by rw [wrap64 (by omega) (by omega)];omega
    refine br (fun hD=>?_) (fun hD=>?_)
    ·have hD:d < (Ty.mk u us).deep:=by simpa using hD
     exact ⟨uL (.mk h ps) (e + 1) (n + (Ty.mk u us).cnt) (Ty.mk u us).deep,(aq ⟨_,rfl⟩ wA rfl rfl rfl (by repeat' (first | exact trivial | exact aw rfl | exact ay Hp | exact ay (bA au (by omega)) | refine ⟨⟨_,rfl,?_⟩,?_⟩))),ps.len - (e + 1),by omega,e + 1,_,_,rfl,by omega,by omega,by omega,rfl⟩
    ·have hD:¬ d < (Ty.mk u us).deep:=by simpa using hD
     exact ⟨uL (.mk h ps) (e + 1) (n + (Ty.mk u us).cnt) d,(aq ⟨_,rfl⟩ wA rfl rfl rfl (by repeat' (first | exact trivial | exact aw rfl | exact ay Hp | exact ay (bA au (by omega)) | refine ⟨⟨_,rfl,?_⟩,?_⟩))),ps.len - (e + 1),by omega,e + 1,_,_,rfl,by omega,by omega,by omega,rfl⟩
  ·have bI:e=ps.len:=by simp [aR] at hL;omega
   rw [bI,Pts.eh] at aQ Ho;simp only [Pts.cnt,Pts.deep] at aQ Ho;have e1:IntKind.i64.wrap ((d:Int) + 1)=((Ty.mk h ps).deep:Int):=by rw [wrap64 (by omega) (by omega)];simp only [Ty.deep];omega
   have e2:(n:Int)=((Ty.mk h ps).cnt:Int):=by simp only [Ty.cnt];omega
   refine ⟨_,?_,rfl⟩;rw [<- e1,<- e2];exact ax
def bf (p:Ph):Ft:=
 if p.ck=0 then (if p.cn=0/\p.cl=[] then (0,0) else (19,p.name.a))
 else if p.ck < 0∨3 < p.ck then (14,p.ca)
 else if (p.ck=1/\p.cn < 1)∨(p.ck=2/\(p.cn < 0∨4096 < p.cn))∨(p.ck=3/\p.cn≠0) then (20,p.ca)
 else cV p.cl
def enumL (all:List Wd):Nat->List Wd->Ft
 | _,[]=>(0,0)
 | i,x :: r=>if aN all i x≠0 then (aN all i x,x.a) else enumL all (i + 1) r
def jv (h:Hd):Ft:=
 if h.ae=[] then (15,h.bp)
 else if 64 < h.ae.length then (8,((h.ae[64]?).getD (⟨ap,0⟩:Wd)).a)
 else enumL h.ae 0 h.ae
def dX (p:Ph):Ft:=
 if p.wide < 0∨64 < p.wide then (20,p.name.a)
 else if (cV p.label).1≠0 then cV p.label
 else bf p
def wD (t:Ty):Bool:=sameTy t (mask t)
mutual
def wrong:Ty->Int->Int->Ft × Int
 | .mk h ps,depth,m=>
  if 24 < depth then ((6,h.bp),m + 1)
  else if 512 < m + 1 then ((8,h.bp),m + 1)
  else if h.ag < 1∨9 < h.ag then ((14,h.bp),m + 1)
  else if wD (.mk h ps)=false then ((19,h.bp),m + 1)
  else if (h.ag=2/\h.hi < h.lo)∨(h.ag=3/\(h.most < 0∨4096 < h.most)) then ((20,h.bp),m + 1)
  else if h.ag=9/\bK h.name.s=false then ((9,h.name.a),m + 1)
  else if h.ag=4 then (jv h,m + 1)
  else if h.ag=5∨h.ag=6 then wrongOne h ps depth (m + 1)
  else if h.ag=7∨h.ag=8 then
   if h.ag=8/\ps.len=0 then ((15,h.bp),m + 1)
   else if 64 < ps.len then ((8,(((pNames ps)[64]?).getD (⟨ap,0⟩:Wd)).a),m + 1)
   else wrongPts h.ag (pNames ps) 0 ps depth (m + 1)
  else ((0,0),m + 1)
def wrongOne:Hd->Pts->Int->Int->Ft × Int
 | h,.cons p t .nil,depth,m=>
  if p.name.s≠ap∨bW p eC=false then ((19,h.bp),m)
  else if h.most < 0∨1024 < h.most then ((20,h.bp),m)
  else wrong t (depth + 1) m
 | h,_,_,m=>((19,h.bp),m)
def wrongPts (ag:Int) (all:List Wd):Nat->Pts->Int->Int->Ft × Int
 | _,.nil,_,m=>((0,0),m)
 | i,.cons p t r,depth,m=>
  if aN all i p.name≠0 then ((aN all i p.name,p.name.a),m)
  else if p.bare=true then
   if ag=7∨sameTy t bS=false∨bW p eV=false then ((19,p.name.a),m) else wrongPts ag all (i + 1) r depth m
  else if (dX p).1≠0 then (dX p,m)
  else if (wrong t (depth + 1) m).1.1≠0 then wrong t (depth + 1) m
  else wrongPts ag all (i + 1) r depth (wrong t (depth + 1) m).2
end
def j5 (h:Hd) (ps:Pts) (depth m:Int):Ft × Int:=
 if h.ag=8/\ps.len=0 then ((15,h.bp),m)
 else if 64 < ps.len then ((8,(((pNames ps)[64]?).getD (⟨ap,0⟩:Wd)).a),m)
 else wrongPts h.ag (pNames ps) 0 ps depth m
theorem wE (all:List Wd):∀ (l:List Wd) (i:Nat),(enumL all i l).1=0->enumL all i l=(0,0)
 | [],_,_=>rfl
 | x :: r,i,h=>by
  have ih:=wE all r (i + 1);simp only [enumL] at h ⊢;split at h
  ·rename_i hc;exact (hc h).elim
  ·rename_i hc;rw [if_neg hc];exact ih h
theorem sX (h:Hd) (he:(jv h).1=0):jv h=(0,0):=by
 unfold jv at he ⊢;split at he
 ·simp at he
 ·split at he
  ·simp at he
  ·rename_i h1 h2;rw [if_neg h1,if_neg h2];exact wE _ _ _ he
mutual
theorem qu:∀ (t:Ty) (depth m:Int),0<=m->(wrong t depth m).1.1=0->(wrong t depth m).1=(0,0)/\0<=(wrong t depth m).2/\(wrong t depth m).2<=512
 | .mk h ps,depth,m,hm,he=>by
  have i1:=wF h ps depth (m + 1) (by omega);have i2:=j6 h.ag (pNames ps) ps 0 depth (m + 1) (by omega);have i3:=sX h;simp only [wrong] at he ⊢;by_cases c0:24 < depth
  ·rw [if_pos c0] at he;simp at he
  rw [if_neg c0] at he ⊢;by_cases c1:512 < m + 1
  ·rw [if_pos c1] at he;simp at he
  rw [if_neg c1] at he ⊢;by_cases c2:h.ag < 1∨9 < h.ag
  ·rw [if_pos c2] at he;simp at he
  rw [if_neg c2] at he ⊢;by_cases c3:wD (.mk h ps)=false
  ·rw [if_pos c3] at he;simp at he
  rw [if_neg c3] at he ⊢;by_cases c4:(h.ag=2/\h.hi < h.lo)∨(h.ag=3/\(h.most < 0∨4096 < h.most))
  ·rw [if_pos c4] at he;simp at he
  rw [if_neg c4] at he ⊢;by_cases c5:h.ag=9/\bK h.name.s=false
  ·rw [if_pos c5] at he;simp at he
  rw [if_neg c5] at he ⊢;by_cases k4:h.ag=4
  ·rw [if_pos k4] at he ⊢;exact ⟨i3 he,by simp only;omega,by simp only;omega⟩
  rw [if_neg k4] at he ⊢;by_cases k5:h.ag=5∨h.ag=6
  ·rw [if_pos k5] at he ⊢;exact i1 (by omega) he
  rw [if_neg k5] at he ⊢;by_cases k7:h.ag=7∨h.ag=8
  ·rw [if_pos k7] at he ⊢;by_cases k8:h.ag=8/\ps.len=0
   ·rw [if_pos k8] at he;simp at he
   rw [if_neg k8] at he ⊢;by_cases k9:64 < ps.len
   ·rw [if_pos k9] at he;simp at he
   rw [if_neg k9] at he ⊢;exact i2 (by omega) he
  ·rw [if_neg k7];exact ⟨rfl,by simp only;omega,by simp only;omega⟩
theorem wF:∀ (h:Hd) (ps:Pts) (depth m:Int),0<=m->m<=512->(wrongOne h ps depth m).1.1=0->(wrongOne h ps depth m).1=(0,0)/\0<=(wrongOne h ps depth m).2/\(wrongOne h ps depth m).2<=512
 | h,.nil,depth,m,hm,_,he=>by simp [wrongOne] at he
 | h,.cons p t .nil,depth,m,hm,h5,he=>by
  have ih:=qu t (depth + 1) m hm;simp only [wrongOne] at he ⊢;split at he
  ·simp at he
  ·split at he
   ·simp at he
   ·rename_i h1 h2;rw [if_neg h1,if_neg h2];exact ih he
 | h,.cons p t (.cons _ _ _),depth,m,hm,_,he=>by simp [wrongOne] at he
theorem j6 (ag:Int) (all:List Wd):∀ (ps:Pts) (i:Nat) (depth m:Int),0<=m->m<=512->(wrongPts ag all i ps depth m).1.1=0->(wrongPts ag all i ps depth m).1=(0,0)/\0<=(wrongPts ag all i ps depth m).2/\(wrongPts ag all i ps depth m).2<=512
 | .nil,i,depth,m,hm,h5,he=>by simp only [wrongPts];exact ⟨trivial,hm,h5⟩
 | .cons p t r,i,depth,m,hm,h5,he=>by
  have i1:=qu t (depth + 1) m hm;simp only [wrongPts] at he ⊢;split at he
  ·rename_i h1;exact (h1 he).elim
  ·rename_i h1;rw [if_neg h1];split at he
   ·rename_i h2;rw [if_pos h2];split at he
    ·simp at he
    ·rename_i h3;rw [if_neg h3];exact j6 ag all r (i + 1) depth m hm h5 he
   ·rename_i h2;rw [if_neg h2];split at he
    ·rename_i h3;exact (h3 he).elim
    ·rename_i h3;rw [if_neg h3];split at he
     ·rename_i h4;exact (h4 he).elim
     ·rename_i h4;rw [if_neg h4];have i2:=i1 (by simpa using h4);exact j6 ag all r (i + 1) depth _ i2.2.1 i2.2.2 he
end
theorem aV (e a:Int):ba Tryz.prog 214 [.v (.int .i64 e),.v (.int .i64 a)] (Ft.d (e,a)):=by
 refine ev_go (P:=Tryz.prog) tt tt_ok 5000 8 [.cell 4 54] Tryz.func214 rfl Tryz.ntmps214 rfl (nL rfl) (fun E9 w9 hn9 hm9=>?_);exact ⟨_,ax,rfl⟩
noncomputable def eW (L:List ByteArray) (x:ByteArray) (a:Int):Ft:=if bK x=true then (if L.Nodup then (0,0) else (10,a)) else (9,a)
theorem oA (L:List ByteArray) (x:ByteArray) (a:Int) (hx:L[L.length - 1]? = some x) (hl:L.length<=1099511627776) (rS:x.size<=4611686018427387904) :
  ba Tryz.prog 260 [.sl 1 (dz L) none,.v (.int .i64 a)] (eW L x a).d:=by
 have hN:=bg L;have pT:=(gS hx).1;have hz:IntKind.i64.wrap (((dz L).length:Int) - 1)=((L.length - 1:Nat):Int):=by rw [hN,wrap64 (by omega) (by omega)];omega
 refine ev_go (P:=Tryz.prog) tt tt_ok 5000 23 [.cell 4 54] Tryz.func260 rfl Tryz.ntmps260 rfl (nL rfl) (fun E9 w9 hn9 hm9=>?_);refine ⟨[.v (.string x)],⟨by rw [hz];omega,by rw [hz];exact dN hx⟩,?_⟩;refine call_p wj (gQ x rS) ax rfl ?_;refine br (fun h=>?_) (fun h=>?_)
 ·have h:bK x=false:=by simpa using h
  refine call_p cS (aV 9 a) ax rfl ?_;refine ⟨_,?_,rfl⟩;rw [eW,if_neg (by rw [h];decide)];exact ax
 ·have h:bK x=true:=by simpa using h
  refine im DT rfl (lB L hl) ax (fun r hr=>?_);obtain ⟨z,rfl,hz⟩:=hr;refine br (fun h2=>?_) (fun h2=>?_)
  ·have h2:0<=z:=by simpa using h2
   refine call_p cS (aV 10 a) ax rfl ?_;refine ⟨_,?_,rfl⟩;rw [eW,if_pos h,if_neg (hz.1 h2)];exact ax
  ·have h2:¬ 0<=z:=by simpa using h2
   refine ⟨_,?_,rfl⟩;rw [eW,if_pos h,if_pos (Classical.byContradiction fun hn=>h2 (hz.2 hn))];exact ax
theorem yX {l:List Wd} {e:Nat} {x:Wd} (h:l[e]? = some x):bJ ((l.map fun w=>(⟨w.s,0⟩:Wd)).take e) ++ [[.v (.string x.s),.v (.int .i64 0)]]=bJ ((l.map fun w=>(⟨w.s,0⟩:Wd)).take (e + 1)):=by
 have h2:(l.map fun w=>(⟨w.s,0⟩:Wd))[e]? = some ⟨x.s,0⟩:=by simp [h]
 exact BO h2
def fq (l:List Wd):List Wd:=l.map fun w=>⟨w.s,0⟩
abbrev Ei (l l':List Wd) (n e:Nat):St:=
 ⟨[(6,⟨[],.sl 2 (bJ l) none⟩),(7,⟨[],.v (.int .i64 (bJ l).length)⟩),(8,⟨[],.v (.int .i64 e)⟩),(3,⟨[],.sl 2 (bJ l') (some 0)⟩)],[],[⟨n,38,2,none⟩]⟩
theorem qv (l:List Wd) (hs:wdsWt l<=1099511627776):ba Tryz.prog 305 [.sl 2 (bJ l) none] (.sl 2 (bJ (fq l)) none):=by
 have hl:=cv l;refine ev_go (P:=Tryz.prog) tt tt_ok 5000 20 [.tmp 2] Tryz.func305 rfl Tryz.ntmps305 rfl (nL rfl) (fun E9 w9 hn9 hm9=>?_);refine bU (fun j st=>∃ e:Nat,st=Ei l ((fq l).take e) e e/\e<=l.length/\j=l.length - e) l.length (Ei l [] 0 0) (j3 ⟨0,38,2,none⟩ rfl ⟨_,rfl⟩ rfl wA rfl rfl aX) ⟨0,by simp,by omega,by omega⟩ ?_;rintro j st ⟨e,rfl,he,rfl⟩;refine br (fun h=>?_) (fun h=>?_)
 ·have au:e < l.length:=by simpa [aG] using h
  obtain ⟨w,hw⟩:∃ w,l[e]? = some w:=⟨_,gE au⟩;refine ⟨oY w,⟨by omega,cJ hw⟩,?_⟩;refine ⟨by simp [aG,fq];omega,⟨by simp [aG,fq,maxLen];omega,by simp [aG,fq];omega⟩,?_⟩;refine ⟨Ei l ((fq l).take (e + 1)) (e + 1) (e + 1),(aq ⟨_,rfl⟩ wA rfl rfl rfl (by repeat' (first | exact trivial | exact aw rfl | exact ay (bA au (by omega)) | exact dG (yX hw) rfl | refine ⟨⟨_,rfl,?_⟩,?_⟩))),l.length - (e + 1),by omega,e + 1,rfl,by omega,rfl⟩
 ·have bI:e=l.length:=by
   have:=h;simp [aG] at this;omega
  rw [bI,List.take_of_length_le (by simp [fq])];exact ⟨_,ax,rfl⟩
abbrev qw (l:List Wd) (e:Nat):St:=
 ⟨[(13,⟨[],.sl 2 (bJ l) none⟩),(14,⟨[],.v (.int .i64 (bJ l).length)⟩),(2,⟨[],.loc 0 0⟩),(15,⟨[],.v (.int .i64 e)⟩)],[[.v (.int .i64 0),.v (.int .i64 0)]],[]⟩
theorem fI (l:List Wd) (hs:wdsWt l<=1099511627776) :
  ba Tryz.prog 288 [.sl 2 (bJ l) none] (cV l).d:=by
 have vz:=cv l;refine ev_go (P:=Tryz.prog) tt tt_ok 5000 28 [.cell 2 54] Tryz.func288 rfl Tryz.ntmps288 rfl (nL rfl) (fun E9 w9 hn9 hm9=>?_);refine br (fun h=>?_) (fun h=>?_)
 ·have au:32 < l.length:=by simp [aG] at h;omega
  obtain ⟨x,hx⟩:∃ x,l[32]? = some x:=⟨_,gE au⟩;have:cV l=(8,x.a):=by simp [cV,Nat.not_le.2 au,hx]
  refine ⟨oY x,⟨by omega,cJ hx⟩,?_⟩;refine call_p cS (aV 8 x.a) ax rfl ?_;refine ⟨_,?_,rfl⟩;rw [this];exact ax
 ·have iA:l.length<=32:=by simp [aG] at h;omega
  refine bU (fun j st=>∃ e:Nat,st=qw l e/\e<=l.length/\badWd l=badWd (l.drop e)/\j=l.length - e) l.length
   (qw l 0) (aq ⟨_,rfl⟩ wA rfl rfl rfl wB) ⟨0,rfl,by omega,rfl,by omega⟩ ?_
  rintro j st ⟨e,rfl,he,bm,rfl⟩;refine br (fun hL=>?_) (fun hL=>?_)
  ·have au:e < l.length:=by simpa [aG] using hL
   obtain ⟨x,hx⟩:∃ x,l[e]? = some x:=⟨_,gE au⟩;rw [drop_cons hx] at bm;have rS:=kG (mG hx);refine ⟨oY x,⟨by omega,cJ hx⟩,?_⟩;refine call_p wj (gQ x.s (by omega)) ax rfl ?_;refine br (fun hN=>?_) (fun hN=>?_)
   ·have hN:bK x.s=false:=by simpa using hN
    have:cV l=(9,x.a):=by simp [cV,iA,bm,badWd,hN]
    refine call_p cS (aV 9 x.a) ax rfl ?_;refine ⟨_,?_,rfl⟩;rw [this];exact ax
   ·have hN:bK x.s=true:=by simpa using hN
    refine ⟨qw l (e + 1),(aq ⟨_,rfl⟩ wA rfl rfl rfl (ah au)),l.length - (e + 1),by omega,e + 1,rfl,by omega,?_,rfl⟩;rw [bm];simp [badWd,hN]
  ·have bI:e=l.length:=by simp [aG] at hL;omega
   have:cV l=(0,0):=by simp [cV,iA,bm,bI,badWd]
   refine ⟨_,?_,rfl⟩;rw [this];exact ax
theorem uM (p:Ph) (tl:List DV) (t:Ty) (nN:tl=gm t) (hs:p.wt<=1099511627776) :
  ba Tryz.prog 289 [.agg (Db p tl)] (bf p).d:=by
 subst nN;obtain ⟨u,us⟩:=t;simp only [Ph.wt] at hs;refine ev_go (P:=Tryz.prog) tt tt_ok 5000 55 [.cell 2 54] Tryz.func289 rfl Tryz.ntmps289 rfl (nL rfl) (fun E9 w9 hn9 hm9=>?_);refine br (fun h0=>?_) (fun h0=>?_)
 ·have h0:p.ck=0:=of_decide_eq_true h0;refine br (fun h1=>?_) (fun h1=>?_)
  ·have:bf p=(19,p.name.a):=by
    simp [aA,aG] at h1;simp only [bf,h0,if_true];rw [if_neg];rintro ⟨h2,h3⟩;rcases h1 with h1 | h1
    ·exact h1 h2
    ·simp [h3] at h1
   refine call_p cS (aV 19 p.name.a) ax rfl ?_;refine ⟨_,?_,rfl⟩;rw [this];exact ax
  ·have dZ:p.cl=[]:=by
    simp [aA,aG] at h1;exact h1.2
   have:bf p=(0,0):=by
    simp [aA,aG] at h1;simp [bf,h0,h1.1,h1.2]
   have Tj:cV p.cl=(0,0):=by rw [dZ];simp [cV,badWd]
   refine call_p wu (fI p.cl (by omega)) ax rfl ?_;refine ⟨_,?_,rfl⟩;rw [this,<- Tj];exact ax
 have h0:¬ p.ck=0:=of_decide_eq_false h0;refine br (fun h1=>?_) (fun h1=>?_)
 ·have h1:p.ck=1:=of_decide_eq_true h1;refine br (fun h2=>?_) (fun h2=>?_)
  ·have:bf p=(20,p.ca):=by
    simp [av] at h2;simp only [bf,h0,if_false];rw [if_neg (by omega),if_pos (by omega)]
   refine call_p cS (aV 20 p.ca) ax rfl ?_;refine ⟨_,?_,rfl⟩;rw [this];exact ax
  ·have:bf p=cV p.cl:=by
    simp [av] at h2;simp only [bf,h0,if_false];rw [if_neg (by omega),if_neg (by omega)]
   refine call_p wu (fI p.cl (by omega)) ax rfl ?_;refine ⟨_,?_,rfl⟩;rw [this];exact ax
 have h1:¬ p.ck=1:=of_decide_eq_false h1;refine br (fun h3=>?_) (fun h3=>?_)
 ·have h3:p.ck=2:=of_decide_eq_true h3;refine br (fun h2=>?_) (fun h2=>?_)
  ·have:bf p=(20,p.ca):=by
    simp [av] at h2;simp only [bf,h0,if_false];rw [if_neg (by omega),if_pos (by omega)]
   refine call_p cS (aV 20 p.ca) ax rfl ?_;refine ⟨_,?_,rfl⟩;rw [this];exact ax
  ·have:bf p=cV p.cl:=by
    simp [av] at h2;simp only [bf,h0,if_false];rw [if_neg (by omega),if_neg (by omega)]
   refine call_p wu (fI p.cl (by omega)) ax rfl ?_;refine ⟨_,?_,rfl⟩;rw [this];exact ax
 have h3:¬ p.ck=2:=of_decide_eq_false h3;refine br (fun h4=>?_) (fun h4=>?_)
 ·have h4:p.ck=3:=of_decide_eq_true h4;refine br (fun h2=>?_) (fun h2=>?_)
  ·have:bf p=(20,p.ca):=by
    simp [av] at h2;simp only [bf,h0,if_false];rw [if_neg (by omega),if_pos (by omega)]
   refine call_p cS (aV 20 p.ca) ax rfl ?_;refine ⟨_,?_,rfl⟩;rw [this];exact ax
  ·have:bf p=cV p.cl:=by
    simp [av] at h2;simp only [bf,h0,if_false];rw [if_neg (by omega),if_neg (by omega)]
   refine call_p wu (fI p.cl (by omega)) ax rfl ?_;refine ⟨_,?_,rfl⟩;rw [this];exact ax
 have h4:¬ p.ck=3:=of_decide_eq_false h4
 have:bf p=(14,p.ca):=by
  simp only [bf,h0,if_false];rw [if_pos (by omega)]
 refine call_p cS (aV 14 p.ca) ax rfl ?_;refine ⟨_,?_,rfl⟩;rw [this];exact ax
theorem Ej (w:World) (x y:Operand) (vs vs':Array Value):(eqGuard .neq 38 x y (.agg vs) (.agg vs')).run Tryz.prog w = .ok () w:=by
 have h:Tryz.prog.eqGuardType Tryz.prog.depth 38=false:=by kernel_rfl
 simp [eqGuard,run_program,h]
theorem KI (a b:ByteArray) (p q:Int) (w:World):(binOp .neq 38 (.agg #[.string a,.int .i64 p]) (.agg #[.string b,.int .i64 q])).run Tryz.prog w = .ok (.bool (!(decide (a=b) && decide (p=q)))) w:=by
 have hf:Tryz.prog.underlying 38=some (.struct (Tryz.prog.fieldsOf 38)):=by simp [Program.fieldsOf,Tryz.underlying38]
 have lU:(Tryz.prog.fieldsOf 38).toList=[⟨ "Name",9,0,false, "", "",0⟩,⟨ "At",3,1,false, "", "",16⟩]:=by simp [Program.fieldsOf,Tryz.underlying38]
 have hs:Tryz.prog.stoodInHeld 38=false:=by kernel_rfl
 have hm:∃ d,Op.maxDepth=d + 1 + 1:=⟨Op.maxDepth - 2,by decide⟩;obtain ⟨d,hm⟩:=hm
 have he:(Op.equal 38 (.agg #[.string a,.int .i64 p]) (.agg #[.string b,.int .i64 q])).run Tryz.prog w = .ok (decide (a=b) && decide (p=q)) w:=by
  unfold Op.equal;rw [hm,run_equalIn_struct w (d + 1) 38 _ _ hf hs,lU]
  have e1:(a.toList == b.toList)=decide (a=b):=by
   rw [ByteArray.toList_eq,ByteArray.toList_eq];by_cases h:a=b
   ·subst h;simp
   ·have:¬ a.data=b.data:=fun e=>h (ByteArray.ext e);simp [h,this]
  have q9:∀ cs:Array Value,∀ off v,cs[off]? = some v->(part 9 cs off).run Tryz.prog w = .ok v w:=fun cs off v h=>by
   simp [part,Tryz.isAgg9,h]
  have q3:∀ cs:Array Value,∀ off v,cs[off]? = some v->(part 3 cs off).run Tryz.prog w = .ok v w:=fun cs off v h=>by
   simp [part,Tryz.isAgg3,h]
  simp only [Op.eqFields,ne_eq,String.reduceEq,not_false_eq_true,if_true,Sem.run_bind,q9 #[.string a,.int .i64 p] 0 (.string a) rfl,q9 #[.string b,.int .i64 q] 0 (.string b) rfl,Result.andThen_ok,run_equalIn_string w d 9 a b Tryz.underlying9,e1];by_cases h:a=b
  ·simp only [h,decide_true,Bool.not_true,Bool.false_eq_true,if_false,Sem.run_bind,q3 #[.string b,.int .i64 p] 1 (.int .i64 p) rfl,q3 #[.string b,.int .i64 q] 1 (.int .i64 q) rfl,Result.andThen_ok,run_equalIn_int w d 3 .i64 .i64 p q Tryz.underlying3];by_cases h2:p=q<;>simp [h2,Sem.run_pure]
  ·simp [h,Sem.run_pure]
 show ((do let r <- Op.equal 38 _ _;pure (Value.bool !r)):Sem Value).run Tryz.prog w=_;simp only [Sem.run_bind,he,Result.andThen_ok,Sem.run_pure]
theorem Hq (x y:Operand) (a b:Wd):uj Tryz.prog .neq x y 38 (oY a) (oY b) (!(decide (a.s=b.s) && decide (a.a=b.a))):=
 ⟨[.string a.s,.int .i64 a.a],[.string b.s,.int .i64 b.a],rfl,rfl,fun w=>⟨Ej w x y _ _,KI a.s b.s a.a b.a w⟩⟩
def eqWds:List Wd->List Wd->Bool
 | [],[]=>true
 | x :: r,y :: s=>(decide (x.s=y.s) && decide (x.a=y.a)) && eqWds r s
 | _,_=>false
theorem sY:∀ {a b:List Wd},a.length≠b.length->eqWds a b=false
 | [],[],h=>(h rfl).elim
 | [],_ :: _,_=>rfl
 | _ :: _,[],_=>rfl
 | x :: r,y :: s,h=>by
  simp only [eqWds];rw [sY (a:=r) (b:=s) (by simpa using h),Bool.and_false]
theorem oB:∀ a b:List Wd,eqWds (fq a) (fq b)=sameWds a b
 | [],[]=>rfl
 | [],_ :: _=>rfl
 | _ :: _,[]=>rfl
 | x :: r,y :: s=>by
  have:=oB r s;simp only [fq,List.map_cons,eqWds,sameWds] at this ⊢;rw [this];simp
abbrev Ek (a b:List Wd) (e:Nat):St:=
 ⟨[(0,⟨[],.sl 2 (bJ a) none⟩),(1,⟨[],.sl 2 (bJ b) none⟩),(12,⟨[],.v (.int .i64 (bJ a).length)⟩),(13,⟨[],.v (.int .i64 e)⟩)],[],[]⟩
theorem wG (a b:List Wd) (hs:a.length<=1099511627776) :
  ba Tryz.prog 304 [.sl 2 (bJ a) none,.sl 2 (bJ b) none] (.v (.bool (eqWds a b))):=by
 refine ev_go (P:=Tryz.prog) tt tt_ok 5000 26 [.tmp 4] Tryz.func304 rfl Tryz.ntmps304 rfl (nL rfl) (fun E9 w9 hn9 hm9=>?_);refine br (fun h=>?_) (fun h=>?_)
 ·have aQ:a.length≠b.length:=by have:=h;simp [aG] at this;omega
  exact congrArg (fun b=>DV.v (.bool b)) (sY aQ).symm
 ·have hl:a.length=b.length:=by have:=h;simp [aG] at this;omega
  refine bU (fun j st=>∃ e:Nat,st=Ek a b e/\e<=a.length/\eqWds a b=eqWds (a.drop e) (b.drop e)/\j=a.length - e) a.length
   (Ek a b 0) (aq ⟨_,rfl⟩ wA rfl rfl rfl wB) ⟨0,rfl,by omega,rfl,by omega⟩ ?_
  rintro j st ⟨e,rfl,he,bm,rfl⟩;refine br (fun h=>?_) (fun h=>?_)
  ·have au:e < a.length:=by simpa [aG] using h
   obtain ⟨x,hx⟩:∃ x,a[e]? = some x:=⟨_,gE au⟩;obtain ⟨y,hy⟩:∃ y,b[e]? = some y:=⟨_,gE (hl ▸ au)⟩;rw [drop_cons hx,drop_cons hy] at bm;refine Av (fun _=>false) mo (by decide +kernel) ?_;refine ⟨oY x,⟨by omega,cJ hx⟩,oY y,⟨by omega,cJ hy⟩,_,Hq _ _ x y,?_⟩;refine br (fun h=>?_) (fun h=>?_)
   ·have aQ:(decide (x.s=y.s) && decide (x.a=y.a))=false:=by
     have h:(!(decide (x.s=y.s) && decide (x.a=y.a)))=true:=h
     revert h
     cases (decide (x.s=y.s) && decide (x.a=y.a))<;>decide
    refine (congrArg (fun b=>DV.v (.bool b)) ?_:_=_);rw [bm];simp only [eqWds,aQ,Bool.false_and]
   ·have aQ:(decide (x.s=y.s) && decide (x.a=y.a))=true:=by
     have h:(!(decide (x.s=y.s) && decide (x.a=y.a)))=false:=h
     revert h
     cases (decide (x.s=y.s) && decide (x.a=y.a))<;>decide
    refine ⟨Ek a b (e + 1),(aq ⟨_,rfl⟩ wA rfl rfl rfl (ah au)),a.length - (e + 1),by omega,e + 1,rfl,by omega,?_,rfl⟩;rw [bm];simp only [eqWds,aQ,Bool.true_and]
  ·have bI:e=a.length:=by have:=h;simp [aG] at this;omega
   refine (congrArg (fun b=>DV.v (.bool b)) ?_:_=_);rw [bm,bI,hl];simp [eqWds];rw [<- hl];simp [eqWds]
theorem eX (a b:List Wd) (ha:wdsWt a<=1099511627776) (hb:wdsWt b<=1099511627776) :
  ba Tryz.prog 300 [.sl 2 (bJ a) none,.sl 2 (bJ b) none] (.v (.bool (sameWds a b))):=by
 have hl:=cv a;refine ev_go (P:=Tryz.prog) tt tt_ok 5000 10 [.tmp 4] Tryz.func300 rfl Tryz.ntmps300 rfl (nL rfl) (fun E9 w9 hn9 hm9=>?_);refine call_p I4 (qv a ha) ax rfl ?_;refine call_p I4 (qv b hb) ax rfl ?_;refine call_p Ns (wG (fq a) (fq b) (by simp [fq];omega)) ax rfl ?_;refine (congrArg (fun b=>DV.v (.bool b)) ?_:_=_);exact oB a b
def eqPts (F:Ph->Ty->Ph->Ty->Bool):Pts->Pts->Bool
 | .nil,.nil=>true
 | .cons p t r,.cons q u s=>F p t q u && eqPts F r s
 | _,_=>false
theorem sZ {F:Ph->Ty->Ph->Ty->Bool}:∀ {a b:Pts},a.len≠b.len->eqPts F a b=false
 | .nil,.nil,h=>(h rfl).elim
 | .cons p t r,.cons q u s,h=>by
  simp only [eqPts];rw [sZ (a:=r) (b:=s) (by simpa [Pts.len] using h),Bool.and_false]
 | .nil,.cons _ _ _,_=>rfl
 | .cons _ _ _,.nil,_=>rfl
def b9 (p:Ph) (t:Ty) (q:Ph) (u:Ty):Bool:=decide (p.name.s=q.name.s) && bW p q && sameTy t u
theorem qx:∀ a b:Pts,eqPts b9 a b=samePts a b
 | .nil,.nil=>by simp [eqPts,samePts]
 | .cons p t r,.cons q u s=>by simp only [eqPts,samePts,b9,qx r s]
 | .nil,.cons _ _ _=>by simp [eqPts,samePts]
 | .cons _ _ _,.nil=>by simp [eqPts,samePts]
abbrev El (a b:Pts) (g e:Nat):St:=
 ⟨[(1,⟨[],.sl 18 (eB b) none⟩),(2,⟨[],.fn g [] []⟩),(15,⟨[],.sl 18 (eB a) none⟩),(16,⟨[],.v (.int .i64 (eB a).length)⟩),(17,⟨[],.v (.int .i64 e)⟩)],[],[]⟩
theorem wH (g:Nat) (jh:Enters Tryz.prog g) (F:Ph->Ty->Ph->Ty->Bool) (a b:Pts) (hs:a.wt<=1099511627776)
  (hF:∀ (e:Nat) p t q u,a.toList[e]? = some (p,t)->b.toList[e]? = some (q,u)->ba Tryz.prog g [.agg (Db p (gm t)),.agg (Db q (gm u))] (.v (.bool (F p t q u)))) :
  ba Tryz.prog 306 [.sl 18 (eB a) none,.sl 18 (eB b) none,.fn g [] []] (.v (.bool (eqPts F a b))):=by
 have LN:=a.jr;refine ev_go (P:=Tryz.prog) tt tt_ok 5000 32 [.tmp 6] Tryz.func306 rfl Tryz.ntmps306 rfl (nL rfl) (fun E9 w9 hn9 hm9=>?_);refine br (fun h=>?_) (fun h=>?_)
 ·have aQ:a.len≠b.len:=by have:=h;simp [aR] at this;omega
  exact congrArg (fun b=>DV.v (.bool b)) (sZ aQ).symm
 ·have hl:a.len=b.len:=by have:=h;simp [aR] at this;omega
  refine bU (fun j st=>∃ e:Nat,st=El a b g e/\e<=a.len/\eqPts F a b=eqPts F (a.drop e) (b.drop e)/\j=a.len - e) a.len
   (El a b g 0) (aq ⟨_,rfl⟩ wA rfl rfl rfl wB) ⟨0,rfl,by omega,rfl,by omega⟩ ?_
  rintro j st ⟨e,rfl,he,bm,rfl⟩;refine br (fun h=>?_) (fun h=>?_)
  ·have au:e < a.len:=by simpa [aR] using h
   obtain ⟨p,t,hx⟩:=Pts.gP au;obtain ⟨q,u,hy⟩:=Pts.gP (hl ▸ au);rw [Pts.drop_cons hx,Pts.drop_cons hy] at bm;have J3:=hF e p t q u hx hy;obtain ⟨t,ts⟩:=t;obtain ⟨u,us⟩:=u;refine ⟨_,⟨by omega,dw hx⟩,?_⟩;refine ⟨_,⟨by omega,dw hy⟩,?_⟩;refine call_p jh J3 ax rfl ?_;refine br (fun h=>?_) (fun h=>?_)
   ·have aQ:F p (.mk t ts) q (.mk u us)=false:=by simpa using h
    refine (congrArg (fun b=>DV.v (.bool b)) ?_:_=_);rw [bm];simp only [eqPts,aQ,Bool.false_and]
   ·have aQ:F p (.mk t ts) q (.mk u us)=true:=by simpa using h
    refine ⟨El a b g (e + 1),(aq ⟨_,rfl⟩ wA rfl rfl rfl (ah au)),a.len - (e + 1),by omega,e + 1,rfl,by omega,?_,rfl⟩;rw [bm];simp only [eqPts,aQ,Bool.true_and]
  ·have bI:e=a.len:=by have:=h;simp [aR] at this;omega
   refine (congrArg (fun b=>DV.v (.bool b)) ?_:_=_);rw [bm,bI,Pts.eh,hl,Pts.eh];simp [eqPts]
theorem j7 (p q:Ph) (t u:Ty) (hp:p.wt<=1099511627776) (hq:q.wt<=1099511627776)
  (ht:ba Tryz.prog 301 [.agg (gm t),.agg (gm u)] (.v (.bool (sameTy t u)))) :
  ba Tryz.prog 287 [.agg (Db p (gm t)),.agg (Db q (gm u))] (.v (.bool (b9 p t q u))):=by
 simp only [Ph.wt] at hp hq;obtain ⟨th,Q9⟩:=t;obtain ⟨uh,Tk⟩:=u;refine ev_go (P:=Tryz.prog) tt tt_ok 5000 71 [.tmp 4] Tryz.func287 rfl Tryz.ntmps287 rfl (nL rfl) (fun E9 w9 hn9 hm9=>?_)
 have e0:b9 p (.mk th Q9) q (.mk uh Tk)=(((decide (p.name.s=q.name.s) && (p.bare == q.bare)) && decide (p.wide=q.wide)) && sameWds p.label q.label && ((decide (p.ck=q.ck) && decide (p.cn=q.cn)) && sameWds p.cl q.cl) && sameTy (.mk th Q9) (.mk uh Tk)):=by
  simp only [b9,bW,Bool.and_assoc]
 rw [e0];refine br (fun hA=>?_) (fun hA=>?_)
 ·simp only [av] at hA;refine call_p AE (eX p.label q.label (by omega) (by omega)) ax rfl ?_;refine br (fun hB=>?_) (fun hB=>?_)
  ·simp only [av] at hB;refine call_p AE (eX p.cl q.cl (by omega) (by omega)) ax rfl ?_;refine br (fun hC=>?_) (fun hC=>?_)
   ·refine call_p Nr (ht) ax rfl ?_;refine (congrArg (fun b=>DV.v (.bool b)) ?_:_=_);simp only [av,Bool.true_and,Bool.and_true] at hC ⊢
    simp_all
   ·refine (congrArg (fun b=>DV.v (.bool b)) ?_:_=_);simp only [av,Bool.true_and,Bool.and_true] at hC ⊢
    simp_all
  ·simp only [av] at hB;refine br (fun hC=>?_) (fun hC=>?_)
   ·exfalso;simp [av] at hC
   ·refine (congrArg (fun b=>DV.v (.bool b)) ?_:_=_)
    simp_all
 ·simp only [av,beq_true] at hA;refine br (fun hB=>?_) (fun hB=>?_)
  ·refine call_p AE (eX p.cl q.cl (by omega) (by omega)) ax rfl ?_;refine (congrArg (fun b=>DV.v (.bool b)) ?_:_=_);rw [hA];rfl
  ·refine (congrArg (fun b=>DV.v (.bool b)) ?_:_=_);rw [hA];rfl
theorem s5:∀ (n:Nat) (a b:Ty),a.wt<=n->a.wt<=1099511627776->b.wt<=1099511627776 ->
  ba Tryz.prog 301 [.agg (gm a),.agg (gm b)] (.v (.bool (sameTy a b)))
 | 0,a,b,hn,_,_=>by have:=a.cT;omega
 | n + 1,.mk h ps,.mk k qs,hn,cO,NL=>by
  have ih:=s5 n;simp only [Ty.wt,Hd.wt] at hn cO NL
  have hE:ba Tryz.prog 306 [.sl 18 (eB ps) none,.sl 18 (eB qs) none,.fn 287 [] []] (.v (.bool (samePts ps qs))):=by
   rw [<- qx];refine wH 287 D1 b9 ps qs (by omega) fun e p t q u hx hy=>?_;have hw1:=Pts.ir (mG hx);have hw2:=Pts.ir (mG hy);exact j7 p q t u (by omega) (by omega) (ih t u (by omega) (by omega) (by omega))
  refine ev_go (P:=Tryz.prog) tt tt_ok 5000 53 [.tmp 4] Tryz.func301 rfl Tryz.ntmps301 rfl (nL rfl) (fun E9 w9 hn9 hm9=>?_);refine br (fun hA=>?_) (fun hA=>?_)
  ·simp [aA] at hA;obtain ⟨⟨⟨⟨e1,e2⟩,e3⟩,e4⟩,e5⟩:=hA;refine call_p AE (eX h.ae k.ae (by omega) (by omega)) ax rfl ?_;refine br (fun hB=>?_) (fun hB=>?_)
   ·refine (congrArg (fun b=>DV.v (.bool b)) ?_:_=_);simp [aA,e1,e2,e3,e4,e5] at hB;simp [sameTy,lC,hB]
   ·simp [aA,e1,e2,e3,e4,e5] at hB;refine call_p Nt (hE) ax rfl ?_;refine (congrArg (fun b=>DV.v (.bool b)) ?_:_=_);simp [sameTy,lC,e1,e2,e3,e4,e5,hB]
  ·refine (congrArg (fun b=>DV.v (.bool b)) ?_:_=_);simp [aA] at hA;simp only [sameTy,lC]
   grind
theorem qy (a b:Ty) (ha:a.wt<=1099511627776) (hb:b.wt<=1099511627776):ba Tryz.prog 301 [.agg (gm a),.agg (gm b)] (.v (.bool (sameTy a b))):=s5 _ a b (Nat.le_refl _) ha hb
def qz (h:Hd) (ps:Pts):Bool:=
 (((((decide (h.ag=2) || (decide (h.lo=0) && decide (h.hi=0))) && ((decide (h.ag=3) || decide (h.ag=5)) || decide (h.most=0))) && (decide (ps.len=0) || (decide (5<=h.ag) && decide (h.ag<=8)))) &&
  (decide (h.ae.length=0) || decide (h.ag=4))) && (decide (h.name.s=ap) || decide (h.ag=9)))
theorem B3 (h:Hd) (ps:Pts):ba Tryz.prog 215 [.agg (gm (.mk h ps))] (.v (.bool (qz h ps))):=by
 have l1:(((eB ps).length:Int)=0)=(ps.len=0):=by rw [aR];exact propext (by omega)
 have l2:(((bJ h.ae).length:Int)=0)=(h.ae.length=0):=by rw [aG];exact propext (by omega)
 have he:(⟨#[]⟩:ByteArray)=ap:=rfl;refine ev_go (P:=Tryz.prog) tt tt_ok 5000 67 [.tmp 2] Tryz.func215 rfl Tryz.ntmps215 rfl (nL rfl) (fun E9 w9 hn9 hm9=>?_);refine br (fun k2=>?_) (fun k2=>?_)
 ·have k2:h.ag=2:=of_decide_eq_true k2;refine (congrArg (fun b=>DV.v (.bool b)) ?_:_=_);rw [Bool.eq_iff_iff];simp [av,aA,qz,aR,aG,k2,he]
 have k2:¬ h.ag=2:=of_decide_eq_false k2;refine br (fun k3=>?_) (fun k3=>?_)
 ·have k3:h.ag=3:=of_decide_eq_true k3;refine br (fun _=>?_) (fun hf=>?_)
  ·refine (congrArg (fun b=>DV.v (.bool b)) ?_:_=_);rw [Bool.eq_iff_iff];simp [av,aA,qz,aR,aG,k3,he]
  ·exact absurd k3 (of_decide_eq_false hf)
 have k3:¬ h.ag=3:=of_decide_eq_false k3;refine br (fun k5=>?_) (fun k5=>?_)
 ·have k5:h.ag=5:=of_decide_eq_true k5;refine (congrArg (fun b=>DV.v (.bool b)) ?_:_=_);rw [Bool.eq_iff_iff];simp [av,aA,qz,aR,aG,k5,he]
 have k5:¬ h.ag=5:=of_decide_eq_false k5;refine (congrArg (fun b=>DV.v (.bool b)) ?_:_=_);rw [Bool.eq_iff_iff];simp [av,aA,qz,aR,aG,k2,k3,k5,he]
theorem uN:∀ ps:Pts,samePts ps ps=true:=by
 have wr:∀ l:List Wd,sameWds l l=true:=by
  intro l
  induction l with
  | nil=>rfl
  | cons x r ih=>simp [sameWds,ih]
 have key:∀ n,(∀ t:Ty,t.wt<=n->sameTy t t=true)/\(∀ ps:Pts,ps.wt<=n->samePts ps ps=true):=by
  intro n
  induction n using Nat.strongRecOn with
  | _ n ih=>
   have hp:∀ ps:Pts,ps.wt<=n->(∀ t:Ty,t.wt + 256<=n->sameTy t t=true)->samePts ps ps=true:=by
    intro ps
    induction ps using Pts.rec (motive_1:=fun _=>True) with
    | mk=>trivial
    | nil=>intros;simp [samePts]
    | cons p t r _ ihr=>
     intro hw ht;simp only [Pts.wt,Ph.wt] at hw;simp only [samePts];rw [ht t (by omega),ihr (by omega) ht];simp [bW,wr]
   refine ⟨fun t ht=>?_,fun ps NM=>?_⟩
   ·obtain ⟨h,ps⟩:=t;simp only [Ty.wt,Hd.wt] at ht;simp only [sameTy,lC];rw [(ih ps.wt (by omega)).2 ps (Nat.le_refl _),wr];simp
   ·exact hp ps NM fun t ht=>(ih t.wt (by omega)).1 t (Nat.le_refl _)
 exact fun ps=>(key ps.wt).2 ps (Nat.le_refl _)
theorem AJ (h:Hd) (ps:Pts):qz h ps=sameTy (.mk h ps) (mask (.mk h ps)):=by
 have wr:∀ l:List Wd,sameWds l l=true:=by
  intro l
  induction l with
  | nil=>rfl
  | cons x r ih=>simp [sameWds,ih]
 have wn:∀ l:List Wd,sameWds l []=decide (l.length=0):=by
  intro l;cases l<;>simp [sameWds]
 have pn:∀ l:Pts,samePts l .nil=decide (l.len=0):=by
  intro l;cases l<;>simp [samePts,Pts.len]
 have pr:=uN ps;simp only [mask,sameTy,lC,Eg]
 have e5:samePts ps (if 4 < h.ag/\h.ag < 9 then ps else .nil)=(decide (ps.len=0) || (decide (5<=h.ag) && decide (h.ag<=8))):=by
  split
  ·rename_i hc;rw [pr,decide_eq_true (by omega:5<=h.ag),decide_eq_true (by omega:h.ag<=8)];simp
  ·rename_i hc;rw [pn,Bool.eq_iff_iff];simp;omega
 have e6:sameWds h.ae (if h.ag=4 then h.ae else [])=(decide (h.ae.length=0) || decide (h.ag=4)):=by
  split
  ·rename_i hc;rw [wr];simp [hc]
  ·rename_i hc;rw [wn];simp [hc]
 rw [e5,e6];unfold qz;by_cases k2:h.ag=2
 ·rw [Bool.eq_iff_iff];simp [k2];grind
 ·by_cases k3:h.ag=3∨h.ag=5
  ·by_cases k9:h.ag=9
   ·omega
   ·rw [Bool.eq_iff_iff];simp [k2,k3,k9];grind
  ·by_cases k9:h.ag=9
   ·rw [Bool.eq_iff_iff];simp [k9];grind
   ·rw [Bool.eq_iff_iff];simp [k2,k3,k9];grind
theorem wI (p:Ph) (t:Ty) (hp:p.wt<=1099511627776):ba Tryz.prog 261 [.agg (Db p (gm t))] (.v (.bool (b9 p bS eC bS))):=by
 obtain ⟨th,Q9⟩:=t;refine ev_go (P:=Tryz.prog) tt tt_ok 5000 8 [.tmp 2] Tryz.func261 rfl Tryz.ntmps261 rfl (nL rfl) (fun E9 w9 hn9 hm9=>?_);refine call_p D1 (j7 p eC bS bS hp (by decide) (qy bS bS (by decide) (by decide))) ax rfl ?_;exact (rfl:_=_)
def az (l:List Wd):List ByteArray:=l.map fun w=>w.s
noncomputable def enumP (l:List Wd):Nat->Ft
 | 0=>(0,0)
 | e + 1=>
  if (enumP l e).1≠0 then enumP l e
  else match l[e]? with
   | some w=>eW (az (l.take (e + 1))) w.s w.a
   | none=>(0,0)
theorem lE {l:List Wd} {e:Nat} (h:(enumP l e).1≠0):∀ d,enumP l (e + d)=enumP l e
 | 0=>rfl
 | d + 1=>by
  have ih:=lE h d;rw [<- Nat.add_assoc,enumP,ih,if_pos h]
theorem uO {L:List ByteArray} {x:ByteArray} {a:Int} (h:(eW L x a).1=0):eW L x a=(0,0):=by
 unfold eW at *;split
 ·rename_i h1;rw [if_pos h1] at h;split
  ·rfl
  ·rename_i h2;rw [if_neg h2] at h;simp at h
 ·rename_i h1;rw [if_neg h1] at h;simp at h
theorem yY {l:List Wd}:∀ {e:Nat},(enumP l e).1=0->enumP l e=(0,0)
 | 0,_=>rfl
 | e + 1,h=>by
  rw [enumP] at h ⊢;split
  ·rename_i h1;rw [if_pos h1] at h;exact absurd h h1
  ·rename_i h1;rw [if_neg h1] at h;split
   ·rename_i w hw;rw [hw] at h;exact uO h
   ·rfl
theorem qA {l:List Wd} {e:Nat} {w:Wd} (h:(enumP l e).1=0) (hw:l[e]? = some w):enumP l (e + 1)=eW (az (l.take (e + 1))) w.s w.a:=by
 rw [enumP,if_neg (by rw [h];simp),hw]
noncomputable def j8 (h:Hd):Ft:=
 if h.ae.length=0 then (15,h.bp) else if 64 < h.ae.length then (8,((h.ae[64]?).getD (⟨ap,0⟩:Wd)).a) else enumP h.ae h.ae.length
abbrev Em (h:Hd) (ps:Pts) (n e:Nat):St:=
 ⟨[(1,⟨[],.loc 0 0⟩),(2,⟨[],.loc 1 0⟩),(27,⟨[],.sl 2 (bJ h.ae) none⟩),(28,⟨[],.v (.int .i64 (bJ h.ae).length)⟩),(29,⟨[],.v (.int .i64 e)⟩),(3,⟨[],.sl 1 (dz (az (h.ae.take e))) (some 0)⟩)],
  [gm (.mk h ps),[.v (.int .i64 0),.v (.int .i64 0)]],[⟨n,9,1,none⟩]⟩
theorem iI {l:List Wd} {e:Nat} {w:Wd} (h:l[e]? = some w):dz (az (l.take e)) ++ [[DV.v (.string w.s)]]=dz (az (l.take (e + 1))):=by
 rw [List.take_add_one,h];simp [dz,az]
theorem yZ (h:Hd) (ps:Pts) (hs:wdsWt h.ae<=1099511627776):ba Tryz.prog 216 [.agg (gm (.mk h ps))] (j8 h).d:=by
 have hl:=cv h.ae;refine ev_go (P:=Tryz.prog) tt tt_ok 5000 48 [.cell 2 54] Tryz.func216 rfl Tryz.ntmps216 rfl (nL rfl) (fun E9 w9 hn9 hm9=>?_);refine br (fun h0=>?_) (fun h0=>?_)
 ·have h0:h.ae.length=0:=by have:=h0;simp [aG] at this;simp [this]
  refine call_p cS (aV 15 h.bp) ax rfl ?_;refine ⟨_,?_,rfl⟩;rw [j8,if_pos h0];exact ax
 have h0:¬ h.ae.length=0:=by have:=h0;simp [aG] at this;simpa using this
 refine br (fun h1=>?_) (fun h1=>?_)
 ·have h1:64 < h.ae.length:=by have:=h1;simp [aG] at this;omega
  obtain ⟨x,hx⟩:∃ x,h.ae[64]? = some x:=⟨_,gE h1⟩;refine ⟨oY x,⟨by omega,cJ hx⟩,?_⟩;refine call_p cS (aV 8 x.a) ax rfl ?_;refine ⟨_,?_,rfl⟩;rw [j8,if_neg h0,if_pos h1,hx];exact ax
 have h1:¬ 64 < h.ae.length:=by have:=h1;simp [aG] at this;omega
 have hk:j8 h=enumP h.ae h.ae.length:=by rw [j8,if_neg h0,if_neg h1]
 rw [hk];refine bU (fun j st=>∃ e:Nat,st=Em h ps e e/\e<=h.ae.length/\(enumP h.ae e).1=0/\j=h.ae.length - e) h.ae.length (Em h ps 0 0) (j3 ⟨0,9,1,none⟩ rfl ⟨_,rfl⟩ rfl wA rfl rfl aX) ⟨0,rfl,by omega,rfl,by omega⟩ ?_;rintro j st ⟨e,rfl,he,hz,rfl⟩;refine br (fun hL=>?_) (fun hL=>?_)
 ·have au:e < h.ae.length:=by simpa [aG] using hL
  obtain ⟨w,hw⟩:∃ w,h.ae[e]? = some w:=⟨_,gE au⟩;have Rb:=kG (mG hw);have Eo:=qA hz hw
  have Ep:(az (h.ae.take (e + 1)))[(az (h.ae.take (e + 1))).length - 1]? = some w.s:=by
   have yh:(az (h.ae.take (e + 1))).length=e + 1:=by simp [az];omega
   rw [yh];simp [az,hw]
  refine ⟨oY w,⟨by omega,cJ hw⟩,?_⟩;refine ⟨by simp [bg,az];omega,⟨by simp [bg,az,maxLen];omega,by simp [bg,az];omega⟩,?_⟩;have eQ:=iI hw;have JY:=oA (az (h.ae.take (e + 1))) w.s w.a Ep (by simp [az];omega) (by omega);rw [<- eQ,<- Eo] at JY;refine call_p I3 (JY) ax rfl ?_;refine br (fun hf=>?_) (fun hf=>?_)
  ·have hf:(enumP h.ae (e + 1)).1≠0:=by simpa using hf
   refine ⟨_,?_,rfl⟩;have aZ:=lE hf (h.ae.length - (e + 1));rw [show e + 1 + (h.ae.length - (e + 1))=h.ae.length by omega] at aZ;rw [aZ];exact ax
  ·have hf:(enumP h.ae (e + 1)).1=0:=by simpa using hf
   refine ⟨Em h ps (e + 1) (e + 1),(aq ⟨_,rfl⟩ wA rfl rfl rfl (aj au eQ)),h.ae.length - (e + 1),by omega,e + 1,rfl,by omega,hf,rfl⟩
 ·have bI:e=h.ae.length:=by
   have:=hL;simp [aG] at this;omega
  subst bI;have aZ:=yY hz;refine ⟨_,?_,rfl⟩;rw [aZ];exact ax
def NN (t:Ty) (depth m:Int) (r:DV) (os:List (List DV)) (_:List TkE):Prop:=
 r=(wrong t depth m).1.d/\∃ z:Int,os=[[.v (.int .i64 z)]]/\((wrong t depth m).1.1=0->z=(wrong t depth m).2)
theorem KJ {t:Ty} {depth m:Int}:∀ r os tk,NN t depth m r os tk->clB 0 0 r=true/\∀ nK∈os,clB.clL 0 0 nK=true:=by
 rintro r os tk ⟨rfl,z,rfl,_⟩;refine ⟨rfl,fun nK h=>?_⟩;simp only [List.mem_singleton] at h;subst h;rfl
theorem B4 (t:Ty) (hc:Ev Tryz.prog 172 [.loc 0 0,.agg (gm t),.v (.int .i64 1)] [[.v (.int .i64 0)]] [] (NN t 1 0)) :
  ba Tryz.prog 104 [.agg (gm t)] (wrong t 1 0).1.d:=by
 obtain ⟨h,ps⟩:=t;refine ev_go (P:=Tryz.prog) tt tt_ok 5000 9 [.cell 2 54] Tryz.func104 rfl Tryz.ntmps104 rfl (nL rfl) (fun E9 w9 hn9 hm9=>?_);refine jq DZ rfl rfl ax ax hc KJ (fun r nK hr=>?_);obtain ⟨rfl,z,hz,_⟩:=hr;simp only [List.cons.injEq,and_true] at hz;subst hz;exact ⟨_,ax,rfl⟩
theorem wr (z:Int) (h1 : -9223372036854775808<=z) (h2:z<=9223372036854775807):IntKind.i64.wrap z=z:=by
 rw [IntKind.wrap_i64];omega
end Go.Proofs.YtfifjddnnmfeoaaGreat
set_option maxRecDepth 100000
namespace Go.Proofs.YtfifjddnnmfeoaaGreat
open Go Go.RowKit Dv Tryz
end Go.Proofs.YtfifjddnnmfeoaaGreat
set_option maxRecDepth 100000
namespace Go.Proofs.YtfifjddnnmfeoaaGreat
open Go Go.RowKit Dv Tryz
def LX (z:Int):Prop:=-9223372036854775808<=z/\z<=9223372036854775807
end Go.Proofs.YtfifjddnnmfeoaaGreat
set_option maxRecDepth 100000
namespace Go.Proofs.YtfifjddnnmfeoaaGreat
open Go Go.RowKit Dv Tryz
end Go.Proofs.YtfifjddnnmfeoaaGreat
set_option maxRecDepth 100000
namespace Go.Proofs.YtfifjddnnmfeoaaGreat
open Go Go.RowKit Dv Tryz
end Go.Proofs.YtfifjddnnmfeoaaGreat
set_option maxRecDepth 100000
namespace Go.Proofs.YtfifjddnnmfeoaaGreat
open Go Go.RowKit Dv Tryz
end Go.Proofs.YtfifjddnnmfeoaaGreat
set_option maxRecDepth 100000
namespace Go.Proofs
open Go.Shelf
end Go.Proofs
namespace Go.Proofs.YtfifjddnnmfeoaaGreat
open Go Go.RowKit Dv Tryz
end Go.Proofs.YtfifjddnnmfeoaaGreat
set_option maxRecDepth 100000
namespace Go.Proofs.YtfifjddnnmfeoaaGreat
open Go Go.RowKit Dv Tryz
end Go.Proofs.YtfifjddnnmfeoaaGreat
set_option maxRecDepth 100000
namespace Go.Proofs.YtfifjddnnmfeoaaGreat
open Go Go.RowKit Dv Tryz
end Go.Proofs.YtfifjddnnmfeoaaGreat
set_option maxRecDepth 100000
namespace Go.Proofs.YtfifjddnnmfeoaaGreat
open Go Go.RowKit Dv Tryz
end Go.Proofs.YtfifjddnnmfeoaaGreat
set_option maxRecDepth 100000
namespace Go.Proofs.YtfifjddnnmfeoaaGreat
open Go Go.RowKit Dv Tryz
mutual
def rngT:Ty->Prop
 | .mk h ps=>LX h.lo/\LX h.hi/\LX h.most/\rngP ps
def rngP:Pts->Prop
 | .nil=>True
 | .cons p t r=>LX p.wide/\LX p.cn/\rngT t/\rngP r
end
end Go.Proofs.YtfifjddnnmfeoaaGreat
namespace Go.Proofs.YtfifjddnnmfeoaaGreat
namespace Dv
open Go Go.RowKit
def TypFs (f:TypeId->List DV->Prop):List TypeId->List DV->Prop
 | [],ds=>ds=[]
 | t :: r,ds=>∃ a b,ds=a ++ b/\f t a/\TypFs f r b
def Typ (P:Program):Nat->TypeId->List DV->Prop
 | 0,_,_=>False
 | n + 1,t,ds=>
  match P.underlying t with
  | some .bool=>∃ b,ds=[.v (.bool b)]
  | some (.int k)=>∃ z,ds=[.v (.int k z)]/\(Lit.int k z).wf=true
  | some .string=>∃ s:ByteArray,ds=[.v (.string s)]
  | some (.slice e)=>∃ es,ds=[.sl (P.cellsOf e) es none]/\∀ cs∈es,Typ P n e cs
  | some (.struct fs)=>TypFs (Typ P n) (fs.toList.map (·.type)) ds
  | _=>False
mutual
def wgD:DV->Nat
 | .v (.string s)=>s.size + 64
 | .sl _ es _=>64 + wgEs es
 | _=>64
def wgL:List DV->Nat
 | []=>0
 | d :: r=>wgD d + wgL r
def wgEs:List (List DV)->Nat
 | []=>0
 | cs :: r=>wgL cs + wgEs r
end
theorem dq:∀ a b:List DV,wgL (a ++ b)=wgL a + wgL b
 | [],b=>by simp [wgL]
 | d :: r,b=>by simp only [List.cons_append,wgL,dq r b];omega
def laidF (P:Program) (S:List TypeId):Nat->List Field->Nat->Bool
 | off,[],n=>decide (off=n)
 | off,f :: r,n=>decide (f.offset=off) && S.contains f.type && laidF P S (off + P.cellsOf f.type) r n
def jw (P:Program) (S:List TypeId) (t:TypeId):Bool:=
 match P.underlying t with
 | some .bool=>decide (P.cellsOf t=1)
 | some (.int _)=>decide (P.cellsOf t=1)
 | some .string=>decide (P.cellsOf t=1)
 | some (.slice e)=>decide (P.cellsOf t=1) && S.contains e && decide (0 < P.cellsOf e)
 | some (.struct fs)=>laidF P S 0 fs.toList (P.cellsOf t)
 | _=>false
def bkS {H:Type} (bk:DataW H->Nat):List (DataW H)->Nat
 | []=>0
 | d :: r=>bk d + bkS bk r
structure Bk {H:Type} (bk:DataW H->Nat):Prop where
 str:∀ l:List UInt8,l.length + 1<=bk (.lit (.string l))
 lit:∀ l,1<=bk (.lit l)
 nil:1<=bk .nil
 slice:∀ es sp,1 + bkS bk es<=bk (.slice es sp)
 agg:∀ l,bkS bk l<=bk (.agg l)
def y4 (w:World):En:=⟨fun a=>w.cell? a,[],[],[]⟩
theorem Hr (w:World):Env (y4 w) [] w where
 len:=rfl
 tl:=rfl
 dB:=by simp
 inj:=List.nodup_nil
 sub:=fun x u hx=>hx
 pc:=by simp [y4]
 bD:=by simp [y4]
 fY:=by simp [y4]
theorem B5 {w:World} {a:Addr} {k:Nat} {v:Value} (h:w.cell? (a.add k)=some v):w.cell? ⟨a.block,a.off + k,none⟩=some v:=by
 unfold Addr.add at h;split at h
 ·rename_i hk;subst hk;unfold World.cell? at h ⊢;split at h
  ·rename_i c e z he;split at h
   ·cases h
   ·simpa [he] using h
  ·cases h
 ·exact h
theorem B6 {w:World} {a:Addr} {v:Value} (h:w.cell? a=some v):a.spot=none:=by
 unfold World.cell? at h;split at h
 ·split at h
  ·cases h
  ·rename_i hs;simpa using hs
 ·cases h
theorem qB {E:En} {b:Nat}:∀ {p:Nat} {ds:List DV} {vs:List Value},RvL E.cl ds vs->(∀ (j:Nat) v,vs[j]? = some v->E.c ⟨b,p + j,none⟩=some v/\v.oneCell'=true)->RvAt E.cl b p ds
 | p,[],vs,h,hc=>by simp only [RvAt]
 | p,d :: r,vs,h,hc=>by
  simp only [RvL] at h;obtain ⟨v,s,rfl,h1,h2⟩:=h;simp only [RvAt];obtain ⟨c1,c2⟩:=hc 0 v rfl;refine ⟨⟨v,c1,c2,h1⟩,qB (p:=p + 1) h2 fun j u hj=>?_⟩;have:=hc (j + 1) u hj;rw [show p + 1 + j=p + (j + 1) by omega];exact this
section
variable {H:Type} {enc:TypeId × Value->H} {P:Program} {w:World} {sp:Nat->Bool} {held:Bool} {S:List TypeId} {bk:DataW H->Nat}
def Rd (enc:TypeId × Value->H) (P:Program) (w:World) (bk:DataW H->Nat) (n:Nat) (t:TypeId) (cs:List Value) (d:DataW H):Prop:=
 ∃ ds,RvL (y4 w) ds cs/\(∀ v∈cs,v.oneCell'=true)/\Typ P n t ds/\wgL ds<=64 * bk d/\cs.length=P.cellsOf t
theorem s6 {n:Nat} (ih:∀ t cs x,t∈S->DataW.trod enc P w 0 sp held n t cs=some x->Rd enc P w bk n t cs x.1) (cs:List Value) :
  ∀ (fs:List Field) (off:Nat) (xs:List (DataW H × List MemPlace)),laidF P S off fs cs.length=true->xs.length=fs.length ->
   (∀ (i:Nat) f,fs[i]? = some f->DataW.trod enc P w 0 sp held n f.type ((cs.drop f.offset).take (P.cellsOf f.type))=xs[i]?) ->
   ∃ ds,RvL (y4 w) ds (cs.drop off)/\(∀ v∈cs.drop off,v.oneCell'=true)/\TypFs (Typ P n) (fs.map (·.type)) ds/\wgL ds<=64 * bkS bk (xs.map (·.1))
 | [],off,xs,hl,vA,hx=>by
  simp only [laidF,decide_eq_true_eq] at hl;subst hl;simp only [List.length_nil,List.length_eq_zero_iff] at vA;subst vA;exact ⟨[],by simpa using bM _,by simp,by simp [TypFs],by simp [wgL]⟩
 | f :: r,off,xs,hl,vA,hx=>by
  simp only [laidF,Bool.and_eq_true,decide_eq_true_eq] at hl;obtain ⟨⟨hof,hS⟩,hl⟩:=hl
  match xs,vA with
  | x :: xs,vA=>
   have h0:=hx 0 f rfl;rw [hof] at h0;simp only [List.getElem?_cons_zero] at h0;obtain ⟨ds0,r1,r2,r3,r4,r5⟩:=ih f.type _ x (by simpa using hS) h0;obtain ⟨ds1,s1,s2,s3,s4⟩:=s6 ih cs r (off + P.cellsOf f.type) xs hl (by simpa using vA) (fun i g hg=>by simpa using hx (i + 1) g (by simpa using hg))
   have Er:cs.drop off=(cs.drop off).take (P.cellsOf f.type) ++ cs.drop (off + P.cellsOf f.type):=by
    rw [<- List.drop_drop,List.take_append_drop]
   refine ⟨ds0 ++ ds1,?_,?_,?_,?_⟩
   ·rw [Er];exact RvL.append r1 s1
   ·rw [Er];intro v hv;rcases List.mem_append.1 hv with hv | hv
    ·exact r2 v hv
    ·exact s2 v hv
   ·simp only [List.map_cons,TypFs];exact ⟨ds0,ds1,rfl,r3,s3⟩
   ·rw [dq];simp only [List.map_cons,bkS];omega
theorem wJ {n e:Nat} (ih:∀ t cs x,t∈S->DataW.trod enc P w 0 sp held n t cs=some x->Rd enc P w bk n t cs x.1) (he:e∈S) (a:Addr) :
  ∀ (xs:List (DataW H × List MemPlace)) (i0:Nat),(∀ i,i < xs.length->(w.cells? 0 (a.add ((i0 + i) * P.cellsOf e)) (P.cellsOf e)).bind (DataW.trod enc P w 0 sp held n e)=xs[i]?) ->
   ∃ es,es.length=xs.length/\RvEs (y4 w) (P.cellsOf e) a.block (a.off + i0 * P.cellsOf e) es/\(∀ cs∈es,Typ P n e cs)/\wgEs es<=64 * bkS bk (xs.map (·.1))
 | [],i0,hx=>⟨[],rfl,by simp only [RvEs],by simp,by simp [wgEs]⟩
 | x :: xs,i0,hx=>by
  have h0:=hx 0 (by simp);simp only [Nat.add_zero,List.getElem?_cons_zero] at h0;obtain ⟨cs,cA,ht⟩:=Option.bind_eq_some_iff.1 h0;obtain ⟨_,hlen,mc⟩:=World.cells?_some cA;obtain ⟨ds0,r1,r2,r3,r4,r5⟩:=ih e cs x he ht
  obtain ⟨es,s1,s2,s3,s4⟩:=wJ ih he a xs (i0 + 1) (fun i hi=>by
   have:=hx (i + 1) (by simpa using hi);simp only [List.getElem?_cons_succ] at this;rw [show i0 + 1 + i=i0 + (i + 1) by omega]
   exact this)
  refine ⟨ds0 :: es,by simp [s1],?_,?_,?_⟩
  ·simp only [RvEs];refine ⟨by rw [<- r1.length,hlen],qB (E:=y4 w) r1 fun j v hj=>⟨?_,r2 v (mG hj)⟩,?_⟩
   ·have rR:j < P.cellsOf e:=by rw [<- hlen];exact (gS hj).1
    have h1:=mc j rR;rw [hj,Deep.add_add] at h1;have h2:=B5 h1;show w.cell? _=_;rw [Nat.add_assoc];exact h2
   ·rw [Nat.add_assoc,show i0 * P.cellsOf e + P.cellsOf e=(i0 + 1) * P.cellsOf e by rw [Nat.add_mul,Nat.one_mul]];exact s2
  ·intro cs' hc;rcases List.mem_cons.1 hc with hc | hc
   ·subst hc;exact r3
   ·exact s3 cs' hc
  ·simp only [wgEs,List.map_cons,bkS];omega
theorem uP (Gz:Bk bk) (hS:∀ t∈S,jw P S t=true):∀ (n:Nat) (t:TypeId) (cs:List Value) (x:DataW H × List MemPlace),t∈S->DataW.trod enc P w 0 sp held n t cs=some x->Rd enc P w bk n t cs x.1
 | 0,t,cs,x,_,h=>by simp [DataW.trod] at h
 | n + 1,t,cs,x,ht,h=>by
  have hf:=hS t ht;unfold jw at hf;unfold Rd
  cases hu:P.underlying t with
  | none=>rw [hu] at hf;cases hf
  | some D=>
   rw [hu] at hf
   cases D with
   | bool=>
    simp only [decide_eq_true_eq] at hf;obtain ⟨b,rfl,rfl⟩:=DataW.trod_bool hu h;have:=Gz.lit (.bool b);exact ⟨[.v (.bool b)],rvL_one (by unfold Rv;exact ⟨rfl,rfl⟩),by simp [Value.oneCell'],by simp only [Typ,hu];exact ⟨b,rfl⟩,by simp only [wgL,wgD];omega,by simp [hf]⟩
   | int k=>
    simp only [decide_eq_true_eq] at hf;obtain ⟨z,rfl,rfl,hw⟩:=DataW.trod_int hu h;have:=Gz.lit (.int k z);exact ⟨[.v (.int k z)],rvL_one (by unfold Rv;exact ⟨rfl,rfl⟩),by simp [Value.oneCell'],by simp only [Typ,hu];exact ⟨z,rfl,hw⟩,by simp only [wgL,wgD];omega,by simp [hf]⟩
   | string=>
    simp only [decide_eq_true_eq] at hf;obtain ⟨s,rfl,rfl,hw⟩:=DataW.trod_string hu h;have:=Gz.str s.data.toList;have cg:s.data.toList.length=s.size:=by rw [Array.length_toList];all_goals rfl
    exact ⟨[.v (.string s)],rvL_one (by unfold Rv;exact ⟨rfl,rfl⟩),by simp [Value.oneCell'],by simp only [Typ,hu];exact ⟨s,rfl⟩,by simp only [wgL,wgD];omega,by simp [hf]⟩
   | slice e=>
    simp only [Bool.and_eq_true,decide_eq_true_eq] at hf;obtain ⟨⟨s7,lU⟩,hf3⟩:=hf;rcases DataW.trod_slice hu h with ⟨rfl,rfl⟩ | ⟨a,len,cap,elems,rest,m,hm,rfl,rfl,_,LM,_,ly,hx,_,_⟩
    ·have:=Gz.nil;refine ⟨[.sl (P.cellsOf e) [] none],rvL_one ?_,by simp [Value.oneCell'],by simp only [Typ,hu];exact ⟨[],rfl,by simp⟩,by simp only [wgL,wgD,wgEs];omega,by simp [s7]⟩;unfold Rv;exact ⟨none,0,0,rfl,⟨rfl,Nat.le_refl _⟩,fun hc=>absurd rfl hc,fun k hk=>by cases hk⟩
    ·simp only [Nat.add_right_cancel_iff] at hm;subst hm;obtain ⟨es,s1,s2,s3,s4⟩:=wJ (fun t cs x=>uP Gz hS n t cs x) (by simpa using lU) a elems 0 (fun i hi=>by simpa using hx i (by omega));have hb:=Gz.slice (elems.map (·.1)) (rest.map (·.1));refine ⟨[.sl (P.cellsOf e) es none],rvL_one ?_,by simp [Value.oneCell'],by simp only [Typ,hu];exact ⟨es,rfl,s3⟩,by simp only [wgL,wgD];omega,by simp [s7]⟩;unfold Rv;refine ⟨some a,len,cap,rfl,⟨by omega,LM⟩,fun aQ=>⟨?_,?_⟩,fun k hk=>by cases hk⟩
     ·have pT:0 < len:=by
       rw [<- ly,<- s1];exact List.length_pos_iff.2 aQ
      have h0:=hx 0 pT;rw [gE (by omega)] at h0;obtain ⟨cs,cA,_⟩:=Option.bind_eq_some_iff.1 h0;obtain ⟨_,hlen,mc⟩:=World.cells?_some cA;have h1:=mc 0 hf3;rw [gE (by omega),Deep.add_add] at h1;simp only [Nat.zero_mul,Nat.add_zero] at h1;exact B6 (a:=a) h1
     ·have s2':RvEs (y4 w) (P.cellsOf e) a.block a.off es:=by simpa using s2
      exact s2'
   | struct fs=>
    obtain ⟨xs,m,hm,rfl,hlen,vA,hx⟩:=DataW.trod_struct hu h;simp only [Nat.add_right_cancel_iff] at hm;subst hm;simp only at hf;obtain ⟨ds,s1,s2,s3,s4⟩:=s6 (fun t cs x=>uP Gz hS n t cs x) cs fs.toList 0 xs (by rw [hlen];exact hf) (by simpa using vA) (fun i f hi=>hx i f (by simpa using hi));have hb:=Gz.agg (xs.map (·.1));refine ⟨ds,by simpa using s1,by simpa using s2,by simp only [Typ,hu];exact s3,by simp only;omega,hlen⟩
   | _=>cases hf
end
theorem AK {P:Program} {n:Nat} {t:TypeId} {k:IntKind} {ds:List DV} (hu:P.underlying t=some (.int k)) (h:Typ P n t ds):∃ z,ds=[.v (.int k z)]/\(Lit.int k z).wf=true:=by
 cases n with
 | zero=>exact h.elim
 | succ n=>simp only [Typ,hu] at h;exact h
theorem Et {P:Program} {n:Nat} {t:TypeId} {ds:List DV} (hu:P.underlying t=some .bool) (h:Typ P n t ds):∃ b,ds=[.v (.bool b)]:=by
 cases n with
 | zero=>exact h.elim
 | succ n=>simp only [Typ,hu] at h;exact h
theorem uQ {P:Program} {n:Nat} {t:TypeId} {ds:List DV} (hu:P.underlying t=some .string) (h:Typ P n t ds):∃ s:ByteArray,ds=[.v (.string s)]:=by
 cases n with
 | zero=>exact h.elim
 | succ n=>simp only [Typ,hu] at h;exact h
theorem nO {P:Program} {n:Nat} {t e:TypeId} {ds:List DV} (hu:P.underlying t=some (.slice e)) (h:Typ P n t ds):∃ m es,n=m + 1/\ds=[.sl (P.cellsOf e) es none]/\∀ cs∈es,Typ P m e cs:=by
 cases n with
 | zero=>exact h.elim
 | succ n=>
  simp only [Typ,hu] at h;obtain ⟨es,h1,h2⟩:=h;exact ⟨n,es,rfl,h1,h2⟩
theorem jx {P:Program} {n:Nat} {t:TypeId} {fs:Array Field} {ds:List DV} (hu:P.underlying t=some (.struct fs)) (h:Typ P n t ds):∃ m,n=m + 1/\TypFs (Typ P m) (fs.toList.map (·.type)) ds:=by
 cases n with
 | zero=>exact h.elim
 | succ n=>
  simp only [Typ,hu] at h;exact ⟨n,rfl,h⟩
theorem wf_i64 {z:Int} (h:(Lit.int .i64 z).wf=true) : -9223372036854775808<=z/\z<=9223372036854775807:=by
 simpa [Lit.wf,IntKind.min,IntKind.max,IntKind.signed,IntKind.bits] using h
end Dv
end Go.Proofs.YtfifjddnnmfeoaaGreat
set_option maxRecDepth 100000
namespace Go.Proofs.YtfifjddnnmfeoaaGreat
open Go Go.RowKit Dv Tryz
theorem y5:Tryz.prog.cellsOf 38=2:=by kernel_rfl
theorem y6:Tryz.prog.cellsOf 144=18:=by kernel_rfl
theorem nP {n:Nat} {ds:List DV} (h:Typ Tryz.prog n 38 ds):∃ w:Wd,ds=oY w/\w.wt<=wgL ds:=by
 obtain ⟨m,_,hf⟩:=jx Tryz.underlying38 h;obtain ⟨a,b,rfl,h1,c,d,rfl,h2,rfl⟩:=hf;obtain ⟨s,rfl⟩:=uQ Tryz.underlying9 h1;obtain ⟨z,rfl,_⟩:=AK Tryz.underlying3 h2;exact ⟨⟨s,z⟩,rfl,by simp [wgL,wgD,Wd.wt]⟩
theorem Eu:∀ {m:Nat} {es:List (List DV)},(∀ cs∈es,Typ Tryz.prog m 38 cs)->∃ l:List Wd,es=bJ l/\wdsWt l<=wgEs es
 | m,[],h=>⟨[],rfl,by simp [wdsWt,wgEs]⟩
 | m,cs :: r,h=>by
  obtain ⟨w,rfl,hw⟩:=nP (h cs (by simp));obtain ⟨l,rfl,hl⟩:=Eu (m:=m) (es:=r) (fun c hc=>h c (List.mem_cons_of_mem _ hc));exact ⟨w :: l,rfl,by simp only [wdsWt,wgEs];omega⟩
theorem mE {n:Nat} {ds:List DV} (h:Typ Tryz.prog n 33 ds):∃ l:List Wd,ds=[.sl 2 (bJ l) none]/\64 + wdsWt l<=wgL ds:=by
 obtain ⟨m,es,_,rfl,he⟩:=nO Tryz.underlying33 h;obtain ⟨l,rfl,hl⟩:=Eu he;rw [y5];exact ⟨l,rfl,by simp only [wgL,wgD];omega⟩
theorem ik {n:Nat} {ds:List DV} (h:Typ Tryz.prog n 3 ds):∃ z,ds=[.v (.int .i64 z)]/\LX z:=by
 obtain ⟨z,rfl,hw⟩:=AK Tryz.underlying3 h;exact ⟨z,rfl,wf_i64 hw⟩
theorem Ew {m:Nat} (ih:∀ k,k < m->∀ ds,Typ Tryz.prog k 40 ds->∃ t:Ty,ds=gm t/\rngT t/\t.wt<=wgL ds) :
  ∀ {es:List (List DV)},(∀ cs∈es,Typ Tryz.prog m 144 cs)->∃ ps:Pts,es=eB ps/\rngP ps/\ps.wt<=wgEs es
 | [],h=>⟨.nil,by simp [eB],by simp [rngP],by simp [Pts.wt]⟩
 | cs :: r,h=>by
  obtain ⟨ps,rfl,hr,hl⟩:=Ew ih (es:=r) (fun c hc=>h c (List.mem_cons_of_mem _ hc));obtain ⟨k,rfl,hf⟩:=jx Tryz.underlying144 (h cs (by simp));obtain ⟨a1,b1,rfl,h1,a2,b2,rfl,h2,a3,b3,rfl,h3,a4,b4,rfl,h4,a5,b5,rfl,h5,a6,b6,rfl,h6,rfl⟩:=hf;obtain ⟨nm,rfl,w1⟩:=nP h1;obtain ⟨bare,rfl⟩:=Et Tryz.underlying4 h2;obtain ⟨lab,rfl,w3⟩:=mE h3;obtain ⟨wide,rfl,r4⟩:=ik h4;obtain ⟨k5,_,hf5⟩:=jx Tryz.underlying142 h5;obtain ⟨c1,d1,rfl,g1,c2,d2,rfl,g2,c3,d3,rfl,g3,c4,d4,rfl,g4,rfl⟩:=hf5;obtain ⟨ck,rfl,_⟩:=ik g1;obtain ⟨cn,rfl,q2⟩:=ik g2;obtain ⟨ca,rfl,_⟩:=ik g3;obtain ⟨cl,rfl,w5⟩:=mE g4;obtain ⟨t,rfl,rt,wt⟩:=ih k (by omega) _ h6;refine ⟨.cons ⟨nm,bare,lab,wide,ck,cn,ca,cl⟩ t ps,?_,by simp only [rngP];exact ⟨r4,q2,rt,hr⟩,?_⟩
  ·simp only [eB,Db,oY,List.cons_append,List.nil_append,List.append_nil]
  ·simp only [Pts.wt,Ph.wt,wgEs,dq,wgL,wgD,oY] at *;simp only [Wd.wt] at *;omega
theorem Ex:∀ (n:Nat) (ds:List DV),Typ Tryz.prog n 40 ds->∃ t:Ty,ds=gm t/\rngT t/\t.wt<=wgL ds:=by
 intro n
 induction n using Nat.strongRecOn with
 | _ n ih=>
  intro ds h;obtain ⟨m,rfl,hf⟩:=jx Tryz.underlying40 h;obtain ⟨a1,b1,rfl,h1,a2,b2,rfl,h2,a3,b3,rfl,h3,a4,b4,rfl,h4,a5,b5,rfl,h5,a6,b6,rfl,h6,a7,b7,rfl,h7,a8,b8,rfl,h8,rfl⟩:=hf;obtain ⟨ag,rfl,_⟩:=ik h1;obtain ⟨bp,rfl,_⟩:=ik h2;obtain ⟨lo,rfl,r3⟩:=ik h3;obtain ⟨hi,rfl,r4⟩:=ik h4;obtain ⟨most,rfl,r5⟩:=ik h5;obtain ⟨ae,rfl,w6⟩:=mE h6;obtain ⟨k,es,rfl,rfl,ie⟩:=nO Tryz.underlying36 h7;obtain ⟨ps,rfl,rp,wp⟩:=Ew (fun j hj=>ih j (by omega)) ie;obtain ⟨nm,rfl,w8⟩:=nP h8;rw [y6];refine ⟨.mk ⟨ag,bp,lo,hi,most,ae,nm⟩ ps,?_,by simp only [rngT];exact ⟨r3,r4,r5,rp⟩,?_⟩
  ·simp only [gm,oY,List.cons_append,List.nil_append,List.append_nil]
  ·simp only [Ty.wt,Hd.wt,dq,wgL,wgD,oY] at *;simp only [Wd.wt] at *;omega
end Go.Proofs.YtfifjddnnmfeoaaGreat
namespace Go.Proofs.YtfifjddnnmfeoaaGreat
namespace Dv
open Go Go.RowKit Go.ChangeShapes Go.WideShapes Go.ChangeAt
open Go.ChangeMaps (open_string shut_string)
section
variable {H:Type} {enc:TypeId × Value->H} {P:Program}
theorem lj (hl:laidOutB P=true) {W W':World} (hb:Below W.heap.size W W'):∀ {ts:List TypeId} {vs:List Value} {ds:List (DataW H)} {ps:List MemPlace},(∀ t∈ts,P.readableRec t=true/\t < P.types.size) ->
  DataW.TrodAll enc P W 0 (fun _=>true) true ts vs ds ps->(∀ x∈ps,x.block < W.heap.size)->DataW.TrodAll enc P W' 0 (fun b=>decide (b < W.heap.size)) true ts vs ds ps
 | [],[],[],_,_,h,_=>h
 | t :: ts,v :: vs,d :: ds,_,ht,⟨p,q,h1,h2,e⟩,au=>by
  subst e;obtain ⟨r1,r2⟩:=ht t (by simp);exact ⟨p,q,Below.trod hl r1 r2 h1 hb (fun x hx=>au x (List.mem_append_left _ hx)),lj hl hb (fun t pj=>ht t (by simp [pj])) h2 (fun x hx=>au x (List.mem_append_right _ hx)),rfl⟩
theorem law_post {f:Func} {s:ChangeSpec} {tb:TypeId} (hl:laidOutB P=true) (DG:f.resultTypes = #[tb]) (htb:P.underlying tb=some .bool) (hv:s.vars=[]) (hts:∀ t∈f.params.toList,P.readableRec t=true/\t < P.types.size)
  {W W':World} {args:Array Value} {ds gs:List (DataW H)} {before:List MemPlace} (hW:DataW.Whole enc P f.params.toList s.vars false W args.toList ds gs before) (yi:s.fn H ds={ results:=[.lit (.bool true)],args:=ds }) (hb:Below W.heap.size W W') :
  s.post enc P f false true false false W args (.bool true) W':=by
 have hW':=hW;obtain ⟨p,q,hA,hV,rfl,hfz,hnd⟩:=hW;rw [hv] at hV;obtain ⟨rfl,rfl⟩:=trodVars_none hV;refine ⟨ds,[],p ++ [],[],p,[],hW',?_,?_,?_,hb.frame _,fun h=>by cases h⟩
 ·rw [List.append_nil,yi,DG];exact trodAll_cons_mk (shut_bool htb _) trodAll_mk0
 ·rw [List.append_nil,yi];exact lj hl hb hts hA (fun x hx=>hW'.lt x (List.mem_append_left _ hx))
 ·rw [List.append_nil,yi,hv];rfl
theorem y7 {w w':World} {Φ:DV->List (List DV)->List TkE->Prop} {v:Value} (h:vN false (y4 w) w Φ v w'):Below w.heap.size w w':=by
 obtain ⟨hm,_⟩:=h;refine ⟨hm.os,hm.tape,hm.output,hm.size,fun k hk=>hm.block k hk ?_⟩;rintro (h1 | ⟨y,h1,_⟩)
 ·simp [y4] at h1
 ·simp [y4] at h1
theorem calls_law {f:FuncId} {args:List DV} {vs:List Value} {w:World} (h:ba P f args (.v (.bool true))) (hv:RvL (y4 w) args vs) :
  Calls P f vs.toArray w fun e w'=>e = .returned (.bool true)/\Below w.heap.size w w':=by
 refine (h (y4 w) w vs (Hr w) rfl hv).mono ?_;rintro e w' ⟨v,rfl,he⟩;have hb:=y7 he;obtain ⟨_,_,d,os,E,_,_,_,_,hr,rfl⟩:=he;unfold Rv at hr;rw [hr.1];exact ⟨rfl,hb⟩
variable {W:World} {base:Nat} {S:List TypeId} {bk:DataW H->Nat}
theorem arg_st (Gz:Bk bk) (hS:∀ t∈S,jw P S t=true) {t:TypeId} {fs:Array Field} {v:Value} {d:DataW H} {ps:List MemPlace} (ht:t∈S) (hu:P.underlying t=some (.struct fs))
  (hval:Value.okWide P W .any base t v) (h:DataW.Trod enc P W 0 (fun _=>true) true t v d ps):∃ n ds,Rv (y4 W) (.agg ds) v/\Typ P n t ds/\wgL ds<=64 * bk d:=by
 unfold Value.okWide at hval;rw [hu] at hval;obtain ⟨cs,rfl,_,_⟩:=hval;obtain ⟨n,hn⟩:=h;obtain ⟨ds,h1,h2,h3,h4,_⟩:=uP Gz hS n t _ _ ht hn;refine ⟨n,ds,?_,h3,h4⟩;unfold Rv;exact ⟨cs.toList,by simp,h1,h2⟩
end
end Dv
end Go.Proofs.YtfifjddnnmfeoaaGreat
namespace Go.Proofs.YtfifjddnnmfeoaaGreat
open Go Go.RowKit Dv
theorem y8 {H:Type}:∀ l:List (DataW H),bkS Rows.uptoBulk l=Rows.uptoBulkAll l
 | []=>by simp [bkS,Rows.uptoBulkAll]
 | d :: r=>by simp only [bkS,Rows.uptoBulkAll,y8 r]
theorem bk_ok {H:Type}:Bk (Rows.uptoBulk (H:=H)) where
 str:=fun l=>by simp [Rows.uptoBulk]
 lit:=fun l=>by cases l<;>simp [Rows.uptoBulk]
 nil:=by simp [Rows.uptoBulk]
 slice:=fun es sp=>by simp only [Rows.uptoBulk,y8];omega
 agg:=fun l=>by simp only [Rows.uptoBulk,y8];omega
theorem bulk_le {H:Type} {l:List (DataW H)} (hk:Rows.uptoSmall H l=true):Rows.uptoBulkAll l<=1048576:=of_decide_eq_true hk
theorem laid_out:laidOutB Tryz.prog=true:=by kernel_rfl
theorem own_knob:ownKnob Tryz.prog.godebug=none:=by kernel_rfl
def tyS:List TypeId:=[40,33,38,9,3,36,144,4,142]
end Go.Proofs.YtfifjddnnmfeoaaGreat
set_option maxRecDepth 100000
namespace Go.Proofs.YtfifjddnnmfeoaaGreat
open Go Go.RowKit Dv Tryz
def Pts.take:Nat->Pts->Pts
 | 0,_=>.nil
 | _ + 1,.nil=>.nil
 | e + 1,.cons p t r=>.cons p t (r.take e)
structure Sch where
 af:List Wd
 order:List (Wd × Wd)
 types:List (Wd × Ty)
 root:Ty
def NO (p:Wd × Wd):List DV:=[.v (.string p.1.s),.v (.int .i64 p.1.a),.v (.string p.2.s),.v (.int .i64 p.2.a)]
def oZ (l:List (Wd × Wd)):List (List DV):=l.map NO
def Pv (x:Wd × Ty):List DV:=.v (.string x.1.s) :: .v (.int .i64 x.1.a) :: gm x.2
def dNms (l:List (Wd × Ty)):List (List DV):=l.map Pv
def wK (s:Sch):List DV:=.sl 2 (bJ s.af) none :: .sl 4 (oZ s.order) none :: .sl 11 (dNms s.types) none :: gm s.root
def prsWt:List (Wd × Wd)->Nat
 | []=>0
 | p :: r=>p.1.wt + p.2.wt + prsWt r
def nmsWt:List (Wd × Ty)->Nat
 | []=>0
 | p :: r=>p.1.wt + p.2.wt + nmsWt r
def Sch.wt (s:Sch):Nat:=wdsWt s.af + prsWt s.order + nmsWt s.types + s.root.wt
theorem mF (l:List (Wd × Wd)):(oZ l).length=l.length:=by simp [oZ]
theorem fJ (l:List (Wd × Ty)):(dNms l).length=l.length:=by simp [dNms]
theorem wL {l:List (Wd × Wd)} {j:Nat} {p:Wd × Wd} (h:l[j]? = some p):(oZ l)[j]? = some (NO p):=by simp [oZ,h]
theorem dNms_get {l:List (Wd × Ty)} {j:Nat} {p:Wd × Ty} (h:l[j]? = some p):(dNms l)[j]? = some (Pv p):=by simp [dNms,h]
theorem kL:∀ l:List (Wd × Wd),128 * l.length<=prsWt l
 | []=>Nat.le_refl _
 | p :: r=>by have:=kL r;simp only [List.length_cons,prsWt,Wd.wt];omega
theorem kM:∀ l:List (Wd × Ty),256 * l.length<=nmsWt l
 | []=>Nat.le_refl _
 | p :: r=>by have:=kM r;have:=p.2.cT;simp only [List.length_cons,nmsWt,Wd.wt];omega
theorem gx:∀ {l:List (Wd × Ty)} {p:Wd × Ty},p∈l->p.1.wt + p.2.wt<=nmsWt l
 | x :: r,p,h=>by
  rcases List.mem_cons.1 h with h | h
  ·subst h;simp only [nmsWt];omega
  ·have:=gx h;simp only [nmsWt];omega
def NP (s:Sch):Prop:=(∀ x∈s.types,rngT x.2)/\rngT s.root
theorem y9:Tryz.prog.cellsOf 146=4:=by kernel_rfl
theorem wM:Tryz.prog.cellsOf 109=11:=by kernel_rfl
theorem KK {n:Nat} {ds:List DV} (h:Typ Tryz.prog n 146 ds):∃ p:Wd × Wd,ds=NO p/\p.1.wt + p.2.wt<=wgL ds:=by
 obtain ⟨m,_,hf⟩:=jx Tryz.underlying146 h;obtain ⟨a,b,rfl,h1,c,d,rfl,h2,rfl⟩:=hf;obtain ⟨x,rfl,w1⟩:=nP h1;obtain ⟨y,rfl,w2⟩:=nP h2;exact ⟨(x,y),rfl,by simp only [dq,wgL];omega⟩
theorem KL {n:Nat} {ds:List DV} (h:Typ Tryz.prog n 109 ds):∃ p:Wd × Ty,ds=Pv p/\rngT p.2/\p.1.wt + p.2.wt<=wgL ds:=by
 obtain ⟨m,_,hf⟩:=jx Tryz.underlying109 h;obtain ⟨a,b,rfl,h1,c,d,rfl,h2,rfl⟩:=hf;obtain ⟨x,rfl,w1⟩:=nP h1;obtain ⟨y,rfl,r2,w2⟩:=Ex _ _ h2;exact ⟨(x,y),by simp [Pv,oY],r2,by simp only [dq,wgL];omega⟩
theorem Ey:∀ {m:Nat} {es:List (List DV)},(∀ cs∈es,Typ Tryz.prog m 146 cs)->∃ l:List (Wd × Wd),es=oZ l/\prsWt l<=wgEs es
 | m,[],h=>⟨[],rfl,by simp [prsWt,wgEs]⟩
 | m,cs :: r,h=>by
  obtain ⟨w,rfl,hw⟩:=KK (h cs (by simp));obtain ⟨l,rfl,hl⟩:=Ey (m:=m) (es:=r) (fun c hc=>h c (List.mem_cons_of_mem _ hc));exact ⟨w :: l,rfl,by simp only [prsWt,wgEs];omega⟩
theorem Ez:∀ {m:Nat} {es:List (List DV)},(∀ cs∈es,Typ Tryz.prog m 109 cs)->∃ l:List (Wd × Ty),es=dNms l/\(∀ x∈l,rngT x.2)/\nmsWt l<=wgEs es
 | m,[],h=>⟨[],rfl,by simp,by simp [nmsWt,wgEs]⟩
 | m,cs :: r,h=>by
  obtain ⟨w,rfl,hr,hw⟩:=KL (h cs (by simp));obtain ⟨l,rfl,hlr,hl⟩:=Ez (m:=m) (es:=r) (fun c hc=>h c (List.mem_cons_of_mem _ hc));refine ⟨w :: l,rfl,fun x hx=>?_,by simp only [nmsWt,wgEs];omega⟩;rcases List.mem_cons.1 hx with rfl | hx
  ·exact hr
  ·exact hlr x hx
theorem typ_sch {n:Nat} {ds:List DV} (h:Typ Tryz.prog n 42 ds):∃ s:Sch,ds=wK s/\NP s/\s.wt<=wgL ds:=by
 obtain ⟨m,_,hf⟩:=jx Tryz.underlying42 h;obtain ⟨a1,b1,rfl,h1,a2,b2,rfl,h2,a3,b3,rfl,h3,a4,b4,rfl,h4,rfl⟩:=hf;obtain ⟨l1,rfl,w1⟩:=mE h1;obtain ⟨m2,es2,_,rfl,he2⟩:=nO Tryz.underlying34 h2;obtain ⟨l2,rfl,w2⟩:=Ey he2;obtain ⟨m3,es3,_,rfl,he3⟩:=nO Tryz.underlying35 h3;obtain ⟨l3,rfl,r3,w3⟩:=Ez he3;obtain ⟨t,rfl,r4,w4⟩:=Ex _ _ h4;rw [y9,wM];refine ⟨⟨l1,l2,l3,t⟩,by simp [wK],⟨r3,r4⟩,?_⟩;simp only [Sch.wt,dq,wgL,wgD] at *;omega
end Go.Proofs.YtfifjddnnmfeoaaGreat
namespace Go.Proofs.YtfifjddnnmfeoaaGreat
open Go Go.RowKit Dv
def tySS:List TypeId:=42 :: 34 :: 146 :: 35 :: 109 :: tyS
theorem tySS_ok:∀ t∈tySS,jw Tryz.prog tySS t=true:=by
 have h:(tySS.all fun t=>jw Tryz.prog tySS t)=true:=by kernel_rfl
 exact fun t ht=>List.all_eq_true.1 h t ht
set_option maxRecDepth 100000
noncomputable abbrev PP:Program:=Tryz.pinned.checked.prog
def Tl:OpenClaim:={ program := "",sum := "",func := "",spec := "" }
theorem and_ok {a b:Bool} (ha:a=true) (hb:b=true):(a && b)=true:=by rw [ha,hb];all_goals rfl
theorem g_laid:laidOutB PP=true:=laid_out
theorem g_maps:mapsRowed PP=true:=by kernel_rfl
theorem g_stops:(PP.stops == [])=true:=by kernel_rfl
theorem g_knobs:(PP.stopKnobs == [])=true:=by kernel_rfl
theorem g_heard:PP.stopsHeard=true:=by kernel_rfl
theorem g_enter:PP.mayEnter=true:=by kernel_rfl
theorem g_lifts:(Tl.lifted == PP.liftsFinal)=true:=by kernel_rfl
theorem g_keys:(false == PP.plainKeys)=true:=by kernel_rfl
theorem g_make:(PP.make == some Tl.make)=true:=by kernel_rfl
end Go.Proofs.YtfifjddnnmfeoaaGreat
set_option maxRecDepth 100000
namespace Go.Proofs.YtfifjddnnmfeoaaGreat
open Go Go.RowKit Dv Tryz
theorem wN (x b:Nat):(x:Int).fdiv (2 ^ b)=((x / 2 ^ b:Nat):Int):=by
 rw [Int.fdiv_eq_ediv_of_nonneg _ (by exact Int.le_of_lt (Int.pow_pos (by decide)))];simp
theorem fu (m:Nat):BitVec.ofInt 64 (m:Int)=BitVec.ofNat 64 m:=by simp
theorem AL {x b:Nat} (hb:b < 64) (hx:x < 18446744073709551616) :
  decide (IntKind.u64.wrap ((BitVec.ofInt 64 ((x:Int).fdiv (2 ^ (min b 64))) &&& BitVec.ofInt 64 1).toNat:Int)=1)=x.testBit b:=by
 rw [Nat.min_eq_left (by omega),wN,fu,show (BitVec.ofInt 64 1)=BitVec.ofNat 64 1 by decide,BitVec.toNat_and,BitVec.toNat_ofNat,BitVec.toNat_ofNat,Nat.testBit_eq_decide_div_mod_eq];have h1:x / 2 ^ b < 18446744073709551616:=Nat.lt_of_le_of_lt (Nat.div_le_self _ _) hx;rw [Nat.mod_eq_of_lt h1,show (1 % 2 ^ 64:Nat)=1 by decide,Nat.and_one_is_mod];simp only [IntKind.wrap_u64];congr 1;apply propext;omega
theorem za {x b:Nat} (hb:b < 64) (hx:x < 18446744073709551616) :
  IntKind.u64.wrap ((BitVec.ofInt 64 (x:Int) ||| BitVec.ofInt 64 (IntKind.u64.wrap (1 * 2 ^ (min b 64)))).toNat:Int)=((x ||| 2 ^ b:Nat):Int):=by
 have h2:2 ^ b < 18446744073709551616:=by
  have:2 ^ b<=2 ^ 63:=Nat.pow_le_pow_right (by decide) (by omega);omega
 have e1:IntKind.u64.wrap (1 * 2 ^ (min b 64))=((2 ^ b:Nat):Int):=by
  rw [Nat.min_eq_left (by omega),Int.one_mul];have:((2:Int) ^ b)=((2 ^ b:Nat):Int):=by simp
  rw [this];generalize 2 ^ b=z at h2;simp only [IntKind.wrap_u64];omega
 rw [e1,fu,fu,BitVec.toNat_or,BitVec.toNat_ofNat,BitVec.toNat_ofNat,Nat.mod_eq_of_lt hx,Nat.mod_eq_of_lt h2];have h3:x ||| 2 ^ b < 18446744073709551616:=Nat.or_lt_two_pow (n:=64) hx h2
 simp only [IntKind.wrap_u64];omega
theorem Hs {x y:Nat} (hx:x < 18446744073709551616) (hy:y < 18446744073709551616) :
  IntKind.u64.wrap ((BitVec.ofInt 64 (x:Int) ||| BitVec.ofInt 64 (y:Int)).toNat:Int)=((x ||| y:Nat):Int):=by
 rw [fu,fu,BitVec.toNat_or,BitVec.toNat_ofNat,BitVec.toNat_ofNat,Nat.mod_eq_of_lt hx,Nat.mod_eq_of_lt hy];have h3:x ||| y < 18446744073709551616:=Nat.or_lt_two_pow (n:=64) hx hy
 simp only [IntKind.wrap_u64];omega
theorem eY (x a b:Nat):(x ||| 2 ^ b).testBit a=(x.testBit a || decide (b=a)):=by
 rw [Nat.testBit_or,Nat.testBit_two_pow]
def dU (rows:List Nat):List (List DV):=rows.map fun (x:Nat)=>[DV.v (.int .u64 (x:Int))]
theorem iv (rows:List Nat):(dU rows).length=rows.length:=by simp [dU]
theorem KM {rows:List Nat} {i:Nat} {x:Nat} (h:rows[i]? = some x):(dU rows)[i]? = some [DV.v (.int .u64 (x:Int))]:=by simp [dU,h]
abbrev jQ (rows:List Nat):DV:=.pt [.sl 1 (dU rows) none] 0
def dx (rows:List Nat):Prop:=rows.length<=64/\∀ x∈rows,x < 18446744073709551616
def aH (rows:List Nat) (a b:Nat):Bool:=(rows.getD a 0).testBit b
def hasB (rows:List Nat) (a b:Int):Bool:=decide (0<=a) && decide (a < rows.length) && decide (0<=b) && decide (b < rows.length) && aH rows a.toNat b.toNat
theorem s8 (rows:List Nat):ba Tryz.prog 163 [jQ rows] (.v (.int .i64 rows.length)):=by
 refine ev_go (P:=Tryz.prog) tt tt_ok 5000 10 [.tmp 2] Tryz.func163 rfl Tryz.ntmps163 rfl (nL rfl) (fun E9 w9 hn9 hm9=>?_);refine (congrArg (fun z=>DV.v (.int .i64 z)) ?_:_=_);rw [iv]
theorem kN (rows:List Nat) (hr:dx rows) (a b:Int):ba Tryz.prog 156 [jQ rows,.v (.int .i64 a),.v (.int .i64 b)] (.v (.bool (hasB rows a b))):=by
 have hl:=s8 rows;refine ev_go (P:=Tryz.prog) tt tt_ok 5000 38 [.tmp 6] Tryz.func156 rfl Tryz.ntmps156 rfl (nL rfl) (fun E9 w9 hn9 hm9=>?_);refine br (fun g1=>?_) (fun g1=>?_)
 ·have g1:0<=a:=by simpa using g1
  refine call_p DW (hl) ax rfl ?_;refine br (fun g2=>?_) (fun g2=>?_)
  ·obtain ⟨g2,g3⟩:a < rows.length/\0<=b:=by
    cases h:decide (a < (rows.length:Int))<;>simp [pickB,h] at g2<;>exact ⟨by simpa using h,g2⟩
   refine call_p DW (hl) ax rfl ?_;refine br (fun g4=>?_) (fun g4=>?_)
   ·have g4:b < rows.length:=by simpa [pickB,g2,g3] using g4
    obtain ⟨x,hx⟩:∃ x,rows[a.toNat]? = some x:=⟨_,gE (by omega)⟩;have Gy:=hr.2 x (mG hx);have hr1:=hr.1;refine ⟨_,⟨g1,KM hx⟩,?_⟩;refine ⟨g3,?_⟩;refine (congrArg (fun b=>DV.v (.bool b)) ?_:_=_);have GZ:rows.getD a.toNat 0=x:=getD_some hx
    have e1:hasB rows a b=x.testBit b.toNat:=by
     unfold hasB aH;rw [GZ];simp [g1,g2,g3,g4]
    rw [e1];exact AL (x:=x) (b:=b.toNat) (by omega) Gy
   ·have g4:¬ b < rows.length:=by simpa [pickB,g2,g3] using g4
    refine (congrArg (fun b=>DV.v (.bool b)) ?_:_=_);simp [pickB,g2,g3,g4,hasB]
  ·have g5:¬ (a < rows.length/\0<=b):=by
    rintro ⟨h1,h2⟩;simp [pickB,h1,h2] at g2
   refine (congrArg (fun b=>DV.v (.bool b)) ?_:_=_);cases h:decide (a < (rows.length:Int))<;>simp [pickB,h,hasB] at g2 ⊢
   intro _ h0;omega
 ·have g1:¬ 0<=a:=by simpa using g1
  refine (congrArg (fun b=>DV.v (.bool b)) ?_:_=_);simp [g1,hasB]
def backN (rows:List Nat) (a:Nat):Nat->Nat
 | 0=>0
 | e + 1=>if aH rows a e && aH rows e a then backN rows a e ||| 2 ^ e else backN rows a e
theorem qC (rows:List Nat) (a:Nat):∀ e,backN rows a e < 2 ^ e
 | 0=>by simp [backN]
 | e + 1=>by
  have ih:=qC rows a e;have h2:2 ^ e < 2 ^ (e + 1):=Nat.pow_lt_pow_right (by decide) (by omega);simp only [backN];split
  ·exact Nat.or_lt_two_pow (by omega) h2
  ·omega
theorem nQ (rows:List Nat) (a b:Nat):∀ e,(backN rows a e).testBit b=(decide (b < e) && (aH rows a b && aH rows b a))
 | 0=>by simp [backN]
 | e + 1=>by
  have ih:=nQ rows a b e;simp only [backN];by_cases yj:b=e
  ·subst yj;cases hx:(aH rows a b && aH rows b a)
   ·simp [ih,hx]
   ·simp [eY]
  ·have h1:decide (b < e + 1)=decide (b < e):=by congr 1;apply propext;omega
   rw [h1,<- ih];split
   ·rw [eY,decide_eq_false (Ne.symm yj),Bool.or_false]
   ·rfl
abbrev KN (rows:List Nat) (a e:Nat):St:=
 ⟨[(0,⟨[],jQ rows⟩),(1,⟨[],.v (.int .i64 a)⟩),(5,⟨[],.v (.int .u64 (backN rows a e:Nat))⟩),(11,⟨[],.v (.int .i64 (dU rows).length)⟩),(12,⟨[],.v (.int .i64 e)⟩)],[],[]⟩
theorem mH {rows:List Nat} {a b:Nat} (ha:a < rows.length) (hb:b < rows.length):hasB rows a b=aH rows a b:=by
 simp [hasB,ha,hb]
theorem zb (rows:List Nat) (hr:dx rows) (a:Nat) (ha:a < rows.length):ba Tryz.prog 165 [jQ rows,.v (.int .i64 a)] (.v (.int .u64 (backN rows a rows.length:Nat))):=by
 have hr1:=hr.1;refine ev_go (P:=Tryz.prog) tt tt_ok 5000 31 [.tmp 4] Tryz.func165 rfl Tryz.ntmps165 rfl (nL rfl) (fun E9 w9 hn9 hm9=>?_);refine bU (fun j st=>∃ e:Nat,st=KN rows a e/\e<=rows.length/\j=rows.length - e) rows.length (KN rows a 0) (aq ⟨_,rfl⟩ wA rfl rfl rfl wB) ⟨0,rfl,by omega,by omega⟩ ?_;rintro j st ⟨e,rfl,he,rfl⟩;refine br (fun hL=>?_) (fun hL=>?_)
 ·have au:e < rows.length:=by have:=hL;simp [iv] at this;exact this
  have h1:=kN rows hr a e;have h2:=kN rows hr e a;rw [mH ha au] at h1;rw [mH au ha] at h2;have hbl:=qC rows a e
  have KO:backN rows a e < 18446744073709551616:=by
   have:2 ^ e<=2 ^ 64:=Nat.pow_le_pow_right (by decide) (by omega);omega
  have NQ:=za (x:=backN rows a e) (b:=e) (by omega) KO;have hs:backN rows a (e + 1)=if aH rows a e && aH rows e a then backN rows a e ||| 2 ^ e else backN rows a e:=rfl
  refine call_p AB (h1) ax rfl ?_;refine br (fun g1=>?_) (fun g1=>?_)
  ·have g1:aH rows a e=true:=by simpa using g1
   refine call_p AB (h2) ax rfl ?_;refine br (fun g2=>?_) (fun g2=>?_)
   ·have g2:aH rows e a=true:=by simpa [pickB,g1] using g2
    rw [g1,g2] at hs;have hs:backN rows a (e + 1)=backN rows a e ||| 2 ^ e:=hs
    refine ⟨by omega,?_⟩;exact ⟨KN rows a (e + 1),(aq ⟨_,rfl⟩ wA rfl rfl rfl (by repeat' (first | exact trivial | exact aw rfl | exact ay (bA au (by omega)) | exact ay (NQ.trans (by rw [hs])) | refine ⟨⟨_,rfl,?_⟩,?_⟩))),rows.length - (e + 1),by omega,e + 1,rfl,by omega,rfl⟩
   ·have g2:aH rows e a=false:=by simpa [pickB,g1] using g2
    rw [g1,g2] at hs;have hs:backN rows a (e + 1)=backN rows a e:=hs;exact ⟨KN rows a (e + 1),(aq ⟨_,rfl⟩ wA rfl rfl rfl (by repeat' (first | exact trivial | exact aw rfl | exact ay (bA au (by omega)) | exact ay (by rw [hs]) | refine ⟨⟨_,rfl,?_⟩,?_⟩))),rows.length - (e + 1),by omega,e + 1,rfl,by omega,rfl⟩
  ·have g1:aH rows a e=false:=by simpa using g1
   rw [g1] at hs;have hs:backN rows a (e + 1)=backN rows a e:=hs;exact ⟨KN rows a (e + 1),(aq ⟨_,rfl⟩ wA rfl rfl rfl (by repeat' (first | exact trivial | exact aw rfl | exact ay (bA au (by omega)) | exact ay (by rw [hs]) | refine ⟨⟨_,rfl,?_⟩,?_⟩))),rows.length - (e + 1),by omega,e + 1,rfl,by omega,rfl⟩
 ·have bI:e=rows.length:=by have:=hL;simp [iv] at this;omega
  subst bI;exact (rfl:_=_)
def cU (rows:List Nat):List DV:=rows.map fun (x:Nat)=>DV.v (.int .u64 (x:Int))
theorem lF (rows:List Nat):(cU rows).length=rows.length:=by simp [cU]
theorem EA {rows:List Nat} {i x:Nat} (h:rows[i]? = some x):(cU rows)[i]? = some (DV.v (.int .u64 (x:Int))):=by simp [cU,h]
theorem EB (rows:List Nat) (i x:Nat):(cU rows).set i (DV.v (.int .u64 (x:Int)))=cU (rows.set i x):=by simp [cU,List.map_set]
theorem mI (rows:List Nat):(dU rows).flatten=cU rows:=by
 induction rows with
 | nil=>rfl
 | cons x r ih=>simp only [dU,cU,List.map_cons,List.flatten_cons] at ih ⊢;rw [ih];all_goals rfl
theorem AM {n m:Nat} {tk:List TkE}:∀ l:List Nat,WeL n m tk (cU l) (cU l)
 | []=>rfl
 | b :: r=>⟨_,_,rfl,aw rfl,AM r⟩
theorem uR {n m:Nat} {tk:List TkE} {l:List DV} {ds:List Nat} (h:l=cU ds):WeL n m tk l (cU ds):=by rw [h];exact AM ds
def Rc (p:Nat × Nat):List DV:=[.v (.int .i64 (p.1:Int)),.v (.int .i64 (p.2:Int))]
def o0 (l:List (Nat × Nat)):List (List DV):=l.map Rc
theorem j9 (l:List (Nat × Nat)):(o0 l).length=l.length:=by simp [o0]
theorem EC {l:List (Nat × Nat)} {i:Nat} {p:Nat × Nat} (h:l[i]? = some p):(o0 l)[i]? = some (Rc p):=by simp [o0,h]
def qD (rows:List Nat) (p:Nat × Nat):List Nat:=rows.set p.1 (rows.getD p.1 0 ||| 2 ^ p.2)
def dQ (n:Nat) (l:List (Nat × Nat)):List Nat:=l.foldl qD (List.replicate n 0)
theorem B7 (n:Nat) (l:List (Nat × Nat)) (e:Nat) {p:Nat × Nat} (h:l[e]? = some p):dQ n (l.take (e + 1))=qD (dQ n (l.take e)) p:=by
 unfold dQ;rw [List.take_add_one,h];simp
theorem mJ (rows:List Nat) (p:Nat × Nat):(qD rows p).length=rows.length:=by simp [qD]
theorem iJ (n:Nat):∀ (l:List (Nat × Nat)),(dQ n l).length=n:=by
 intro l
 have:∀ (l:List (Nat × Nat)) (r:List Nat),(l.foldl qD r).length=r.length:=by
  intro l
  induction l with
  | nil=>intro r;rfl
  | cons p l ih=>intro r;rw [List.foldl_cons,ih,mJ]
 rw [dQ,this];simp
theorem Ht {rows:List Nat} {p:Nat × Nat} (h:dx rows) (hp:p.1 < rows.length) (hq:p.2 < 64):dx (qD rows p):=by
 refine ⟨by rw [mJ];exact h.1,fun x hx=>?_⟩;rcases List.mem_or_eq_of_mem_set hx with hx | rfl
 ·exact h.2 x hx
 ·refine Nat.or_lt_two_pow (n:=64) ?_ (Nat.pow_lt_pow_right (by decide) hq);rw [List.getD_eq_getElem?_getD,gE hp];exact h.2 _ (List.getElem_mem hp)
theorem AN {n:Nat} (hn:n<=64):∀ (l:List (Nat × Nat)),(∀ p∈l,p.1 < n/\p.2 < n)->dx (dQ n l):=by
 intro l hl
 have:∀ (l:List (Nat × Nat)) (r:List Nat),r.length=n->dx r->(∀ p∈l,p.1 < n/\p.2 < n)->dx (l.foldl qD r):=by
  intro l
  induction l with
  | nil=>intro r _ h _;exact h
  | cons p l ih=>
   intro r hr h hp;have:=hp p (by simp);exact ih _ (by rw [mJ,hr]) (Ht h (by omega) (by omega)) (fun q hq=>hp q (by simp [hq]))
 refine this l _ (by simp) ⟨by simp [hn],fun x hx=>?_⟩ hl;rw [List.mem_replicate] at hx;omega
abbrev ED (n:Nat) (l:List (Nat × Nat)) (rows:List Nat) (e:Nat):St:=
 ⟨[(0,⟨[],.v (.int .i64 n)⟩),(6,⟨[],.loc 1 0⟩),(19,⟨[],.sl 2 (o0 l) none⟩),(20,⟨[],.v (.int .i64 (o0 l).length)⟩),(21,⟨[],.v (.int .i64 e)⟩)],
  [cU rows,[.ms 0 1 0 n n]],[]⟩
theorem B8 (n:Nat) (hn:n<=64) (l:List (Nat × Nat)) (hl:∀ p∈l,p.1 < n/\p.2 < n) (hb:l.length<=1099511627776) :
  ba Tryz.prog 98 [.v (.int .i64 n),.sl 2 (o0 l) none] (.dV [jQ (dQ n l),.v (.bool true)]):=by
 refine ev_go (P:=Tryz.prog) tt tt_ok 5000 60 [.tmp 4,.tmp 5] Tryz.func98 rfl Tryz.ntmps98 rfl (nL rfl) (fun E9 w9 hn9 hm9=>?_);refine br (fun g=>?_) (fun g=>?_)
 ·exfalso;simp [aA] at g;omega
 refine ⟨⟨rfl,by omega,by omega,by omega⟩,?_⟩
 have h0:(List.replicate (n:Int).toNat [DV.v (.int .u64 0)]).flatten=cU (dQ n (l.take 0)):=by
  simp [dQ,cU]
 refine bU (fun j st=>∃ e:Nat,st=ED n l (dQ n (l.take e)) e/\e<=l.length/\j=l.length - e) l.length (ED n l (dQ n (l.take 0)) 0) (aS 2 rfl (by repeat' (first | exact rfl | exact aw rfl | exact uR h0 | refine ⟨_,_,rfl,?_,?_⟩)) rfl rfl rfl (by repeat' (first | exact trivial | exact aw rfl | exact uR h0 | refine ⟨⟨_,rfl,?_⟩,?_⟩))) ⟨0,rfl,by omega,by omega⟩ ?_;rintro j st ⟨e,rfl,he,rfl⟩;refine br (fun hL=>?_) (fun hL=>?_)
 ·have au:e < l.length:=by have:=hL;simp [j9] at this;exact this
  obtain ⟨p,hp⟩:∃ p,l[e]? = some p:=⟨_,gE au⟩;obtain ⟨p1,p2⟩:=hl p (mG hp);refine ⟨_,⟨by omega,EC hp⟩,?_⟩;refine ⟨⟨by decide,by decide⟩,?_⟩;refine ⟨⟨by decide,by decide⟩,?_⟩;refine br (fun g=>?_) (fun g=>?_)
  ·refine ⟨⟨by decide,by decide⟩,?_⟩;refine ⟨⟨by decide,by decide⟩,?_⟩;refine br (fun g2=>?_) (fun g2=>?_)
   ·exfalso;simp [pickB] at g2;omega
   obtain ⟨x,hx⟩:∃ x,(dQ n (l.take e))[p.1]? = some x:=⟨_,gE (by rw [iJ];exact p1)⟩;have dh:=AN hn (l.take e) (fun q hq=>hl q (List.mem_of_mem_take hq));have Gy:=dh.2 x (mG hx);have uw:0 + (p.1:Int).toNat * 1=p.1:=by omega
   refine G7 mo (by decide +kernel) ?_;refine ⟨⟨by decide,by decide⟩,?_⟩;refine ⟨⟨by omega,by omega⟩,?_⟩;refine ⟨_,(by rw [uw];exact EA hx:(cU (dQ n (l.take e)))[0 + (p.1:Int).toNat * 1]? = some _),?_⟩;refine ⟨⟨by decide,by decide⟩,?_⟩;refine ⟨by omega,?_⟩;refine ⟨⟨by omega,by omega⟩,?_⟩;refine ⟨by rw [uw,lF,iJ];omega,?_⟩
   have cA:(cU (dQ n (l.take e))).set (0 + (p.1:Int).toNat * 1) (DV.v (.int .u64 (IntKind.u64.wrap ((BitVec.ofInt 64 (x:Int) ||| BitVec.ofInt 64 (IntKind.u64.wrap (1 * 2 ^ (min (p.2:Int).toNat 64)))).toNat:Int))))=cU (dQ n (l.take (e + 1))):=by
    rw [uw,show ((p.2:Int).toNat)=p.2 by omega,za (by omega) Gy,EB,B7 n l e hp];simp only [qD];rw [getD_some hx]
   refine ⟨ED n l (dQ n (l.take (e + 1))) (e + 1),(aS 2 rfl (by repeat' (first | exact rfl | exact aw rfl | exact uR cA | exact ay (bA au (by omega)) | refine ⟨_,_,rfl,?_,?_⟩)) rfl rfl rfl (by repeat' (first | exact trivial | exact aw rfl | exact uR cA | exact ay (bA au (by omega)) | refine ⟨⟨_,rfl,?_⟩,?_⟩))),l.length - (e + 1),by omega,e + 1,rfl,by omega,rfl⟩
  ·exfalso;simp [pickB] at g;omega
 ·have bI:e=l.length:=by have:=hL;simp [j9] at this;omega
  subst bI;rw [List.take_length];refine ⟨_,?_,rfl⟩;have hlen:=iJ n l;generalize dQ n l=rows at hlen ⊢;refine ⟨_,rfl,_,_,rfl,.inr ⟨1,_,rfl,Nat.zero_le _,rfl,_,_,rfl,.inr (.inr (.inl ⟨0,0,n,cU rows,by rw [iv,hlen],Nat.zero_le _,rfl,?_,?_,?_⟩)),rfl⟩,_,_,rfl,rfl,rfl⟩
  ·rw [mI,iv,Nat.mul_one,List.drop_zero,List.take_of_length_le (by rw [lF];omega)]
  ·intro x hx;simp only [dU,List.mem_map] at hx;obtain ⟨y,_,rfl⟩:=hx;rfl
  ·intro x hx;rw [mI] at hx;simp only [cU,List.mem_map] at hx;obtain ⟨y,_,rfl⟩:=hx;exact .inl ⟨_,rfl⟩
def gd (rows:List Nat) (k:Nat):List Nat:=rows.set k (rows.getD k 0 ||| 2 ^ k)
def lk (k:Nat) (rows:List Nat) (a:Nat):List Nat:=if aH rows a k then rows.set a (rows.getD a 0 ||| rows.getD k 0) else rows
def eZ (rows:List Nat) (k e:Nat):List Nat:=(List.range e).foldl (lk k) (gd rows k)
def closeR (rows:List Nat) (e:Nat):List Nat:=(List.range e).foldl (fun r k=>eZ r k r.length) rows
theorem EE {rows:List Nat} {i x:Nat} (h:dx rows) (hx:x < 18446744073709551616):dx (rows.set i x):=by
 refine ⟨by rw [List.length_set];exact h.1,fun y hy=>?_⟩;rcases List.mem_or_eq_of_mem_set hy with hy | rfl
 ·exact h.2 y hy
 ·exact hx
theorem jy {rows:List Nat} (h:dx rows) (i:Nat):rows.getD i 0 < 18446744073709551616:=by
 rw [List.getD_eq_getElem?_getD]
 cases hx:rows[i]? with
 | none=>simp
 | some x=>exact h.2 x (mG hx)
theorem EF {rows:List Nat} {k:Nat} (h:dx rows) (hk:k < 64):dx (gd rows k):=
 EE h (Nat.or_lt_two_pow (n:=64) (jy h k) (Nat.pow_lt_pow_right (by decide) hk))
theorem B9 (rows:List Nat) (k:Nat):(gd rows k).length=rows.length:=by simp [gd]
theorem EG {rows:List Nat} {k a:Nat} (h:dx rows):dx (lk k rows a):=by
 unfold lk;split
 ·exact EE h (Nat.or_lt_two_pow (n:=64) (jy h a) (jy h k))
 ·exact h
theorem Ca (rows:List Nat) (k a:Nat):(lk k rows a).length=rows.length:=by
 unfold lk;split<;>simp
theorem jz (rows:List Nat) (k e:Nat):eZ rows k (e + 1)=lk k (eZ rows k e) e:=by simp [eZ,List.range_succ]
theorem kO (rows:List Nat) (k:Nat):∀ e,(eZ rows k e).length=rows.length
 | 0=>by simp [eZ,B9]
 | e + 1=>by rw [jz,Ca,kO]
theorem qE {rows:List Nat} {k:Nat} (h:dx rows) (hk:k < 64):∀ e,dx (eZ rows k e)
 | 0=>by simpa [eZ] using EF h hk
 | e + 1=>by rw [jz];exact EG (qE h hk e)
theorem il (rows:List Nat) (e:Nat):closeR rows (e + 1)=eZ (closeR rows e) e (closeR rows e).length:=by simp [closeR,List.range_succ]
theorem eE (rows:List Nat):∀ e,(closeR rows e).length=rows.length
 | 0=>by simp [closeR]
 | e + 1=>by rw [il,kO,eE]
theorem kP {rows:List Nat} (h:dx rows):∀ e,e<=64->dx (closeR rows e)
 | 0,_=>by simpa [closeR] using h
 | e + 1,he=>by rw [il];exact qE (kP h e (by omega)) (by omega) _
def spU (m:Nat):List DV:=(List.replicate m (vL [Value.int .u64 0])).flatten
theorem uS {n m:Nat} {tk:List TkE}:∀ l:List DV,(∀ x∈l,∃ y,x = .v y)->WeL n m tk l l
 | [],_=>rfl
 | b :: r,h=>by
  obtain ⟨y,rfl⟩:=h b (by simp);exact ⟨_,_,rfl,aw rfl,uS r (fun x hx=>h x (by simp [hx]))⟩
theorem fo {n m:Nat} {tk:List TkE} {l:List DV} {ds:List Nat} {k:Nat} (h:l=cU ds ++ spU k):WeL n m tk l (cU ds ++ spU k):=by
 rw [h];refine uS _ fun x hx=>?_;rcases List.mem_append.1 hx with hx | hx
 ·simp only [cU,List.mem_map] at hx;obtain ⟨y,_,rfl⟩:=hx;exact ⟨_,rfl⟩
 ·simp only [spU,List.mem_flatten,List.mem_replicate] at hx;obtain ⟨y,⟨_,rfl⟩,hx⟩:=hx;simp [vL] at hx;exact ⟨_,hx⟩
theorem uT {r:List Nat} {k i x:Nat} (h:r[i]? = some x):(cU r ++ spU k)[0 + (i:Int).toNat * 1]? = some (DV.v (.int .u64 (x:Int))):=by
 rw [show 0 + (i:Int).toNat * 1=i by omega,List.getElem?_append_left (by rw [lF];exact (gS h).1)];exact EA h
theorem EH {r:List Nat} {k i x:Nat} (h:i < r.length):(cU r ++ spU k).set (0 + (i:Int).toNat * 1) (DV.v (.int .u64 (x:Int)))=cU (r.set i x) ++ spU k:=by
 rw [show 0 + (i:Int).toNat * 1=i by omega,List.set_append_left _ _ (by rw [lF];exact h),EB]
theorem EI {r:List Nat} {k i:Nat} (h:i < r.length):0 + (i:Int).toNat * 1 + 1<=(cU r ++ spU k).length:=by
 rw [List.length_append,lF];omega
abbrev Rf (rows:List Nat) (cap:Nat) (r:List Nat) (e:Nat):St:=
 ⟨[(3,⟨[],.loc 1 0⟩),(19,⟨[],.v (.int .i64 (dU rows).length)⟩),(20,⟨[],.v (.int .i64 e)⟩)],[cU r ++ spU (cap - (dU rows).length),[.ms 0 1 0 (dU rows).length cap]],[]⟩
abbrev NR (rows:List Nat) (cap:Nat) (r:List Nat) (e f:Nat):St:=
 ⟨[(3,⟨[],.loc 1 0⟩),(4,⟨[],.v (.int .i64 e)⟩),(19,⟨[],.v (.int .i64 (dU rows).length)⟩),(20,⟨[],.v (.int .i64 e)⟩),(38,⟨[],.v (.int .i64 (dU rows).length)⟩),(39,⟨[],.v (.int .i64 f)⟩)],[cU r ++ spU (cap - (dU rows).length),[.ms 0 1 0 (dU rows).length cap]],[]⟩
theorem lG {l:List Nat} {i:Nat} (h:i < l.length):l[i]? = some (l.getD i 0):=nM h
theorem oC (rows:List Nat) (hr:dx rows) (h0:rows ≠ []):ba Tryz.prog 100 [jQ rows] (jQ (closeR rows rows.length)):=by
 have hr1:=hr.1;have hN:=iv rows;have oS:0 < rows.length:=List.length_pos_iff.2 h0;refine pk (s:=false) (bt:=[]) (mu:=[12]) (hbt:=fun p hp=>by cases hp) (fr:=false) (P:=Tryz.prog) tt tt_ok 5000 72 [.tmp 2] Tryz.func100 rfl Tryz.ntmps100 rfl (nL rfl) (fun E9 w9 hn9 hm9=>?_);refine ⟨⟨by intro h;exact h0 (by simpa [dU] using h),by rw [iv];simp [maxLen];omega,by rw [iv];omega⟩,fun cap BB=>?_⟩
 have gj:(dU rows).flatten.append (List.replicate (cap - (dU rows).length) (vL [Value.int .u64 0])).flatten=cU (closeR rows 0) ++ spU (cap - (dU rows).length):=by
  show (dU rows).flatten ++ _=_;rw [mI];rfl
 refine bU (fun j st=>∃ e:Nat,st=Rf rows cap (closeR rows e) e/\e<=rows.length/\j=rows.length - e) rows.length (Rf rows cap (closeR rows 0) 0) (aS 2 rfl (by repeat' (first | exact rfl | exact aw rfl | exact fo gj | refine ⟨_,_,rfl,?_,?_⟩)) rfl rfl rfl (by repeat' (first | exact trivial | exact aw rfl | exact fo gj | refine ⟨⟨_,rfl,?_⟩,?_⟩))) ⟨0,rfl,by omega,by omega⟩ ?_;rintro j st ⟨e,rfl,he,rfl⟩;have dh:=kP hr e (by omega);have hlen:=eE rows e;have Jf:=il rows e;generalize hce:closeR rows e=r at dh hlen Jf ⊢;refine br (fun hL=>?_) (fun hL=>?_)
 ·have au:e < rows.length:=by have:=hL;simp [hN] at this;exact this
  have hx:=lG (l:=r) (i:=e) (by omega);have NQ:=za (x:=r.getD e 0) (b:=e) (by omega) (jy dh e);refine G7 mo (by decide +kernel) ?_;refine ⟨⟨by omega,by omega⟩,?_⟩;refine ⟨_,uT hx,?_⟩;refine ⟨by omega,?_⟩;refine ⟨⟨by omega,by omega⟩,?_⟩;refine ⟨EI (by omega),?_⟩
  have om:(cU r ++ spU (cap - (dU rows).length)).set (0 + (e:Int).toNat * 1) (DV.v (.int .u64 (IntKind.u64.wrap ((BitVec.ofInt 64 ((r.getD e 0:Nat):Int) ||| BitVec.ofInt 64 (IntKind.u64.wrap (1 * 2 ^ (min (e:Int).toNat 64)))).toNat:Int))))=cU (eZ r e 0) ++ spU (cap - (dU rows).length):=by
   rw [show min (e:Int).toNat 64=min e 64 by omega,NQ,EH (by omega)];rfl
  refine bU (fun j st=>∃ f:Nat,st=NR rows cap (eZ r e f) e f/\f<=rows.length/\j=rows.length - f) rows.length (NR rows cap (eZ r e 0) e 0) (aS 2 rfl (by repeat' (first | exact rfl | exact aw rfl | exact fo om | refine ⟨_,_,rfl,?_,?_⟩)) rfl rfl rfl (by repeat' (first | exact trivial | exact aw rfl | exact fo om | refine ⟨⟨_,rfl,?_⟩,?_⟩))) ⟨0,rfl,by omega,by omega⟩ ?_;rintro j st ⟨f,rfl,hf,rfl⟩;have Pw:=qE (k:=e) dh (by omega) f;have sv:=kO r e f;have NM:=jz r e f;have cC:e < (eZ r e f).length:=by rw [sv];omega
  refine br (fun hL=>?_) (fun hL=>?_)
  ·have LY:f < rows.length:=by have:=hL;simp [hN] at this;exact this
   have Px:f < (eZ r e f).length:=by rw [sv];omega
   generalize eZ r e f=q at Pw sv NM cC Px ⊢;have hy:=lG Px;have hz:=lG cC;have EJ:=AL (x:=q.getD f 0) (b:=e) (by omega) (jy Pw f);have NQ:=Hs (jy Pw f) (jy Pw e);refine ⟨⟨by omega,by omega⟩,?_⟩;refine ⟨_,uT hy,?_⟩;refine ⟨by omega,?_⟩;refine br (fun g=>?_) (fun g=>?_)
   ·have g:aH q f e=true:=EJ.symm.trans g;refine G7 mo (by decide +kernel) ?_;refine ⟨⟨by omega,by omega⟩,?_⟩;refine ⟨_,uT hy,?_⟩;refine ⟨⟨by omega,by omega⟩,?_⟩;refine ⟨_,uT hz,?_⟩;refine ⟨⟨by omega,by omega⟩,?_⟩;refine ⟨EI Px,?_⟩
    have lT:(cU q ++ spU (cap - (dU rows).length)).set (0 + (f:Int).toNat * 1) (DV.v (.int .u64 (IntKind.u64.wrap ((BitVec.ofInt 64 ((q.getD f 0:Nat):Int) ||| BitVec.ofInt 64 ((q.getD e 0:Nat):Int)).toNat:Int))))=cU (eZ r e (f + 1)) ++ spU (cap - (dU rows).length):=by
     rw [NQ,EH Px,NM,lk,if_pos g]
    exact ⟨NR rows cap (eZ r e (f + 1)) e (f + 1),(aS 2 rfl (by repeat' (first | exact rfl | exact aw rfl | exact fo lT | exact ay (bA LY (by omega)) | refine ⟨_,_,rfl,?_,?_⟩)) rfl rfl rfl (by repeat' (first | exact trivial | exact aw rfl | exact fo lT | exact ay (bA LY (by omega)) | refine ⟨⟨_,rfl,?_⟩,?_⟩))),rows.length - (f + 1),by omega,f + 1,rfl,by omega,rfl⟩
   ·have g:aH q f e=false:=EJ.symm.trans g
    have lT:cU q ++ spU (cap - (dU rows).length)=cU (eZ r e (f + 1)) ++ spU (cap - (dU rows).length):=by
     rw [NM,lk,if_neg (by rw [g];decide)]
    exact ⟨NR rows cap (eZ r e (f + 1)) e (f + 1),(aS 2 rfl (by repeat' (first | exact rfl | exact aw rfl | exact fo lT | exact ay (bA LY (by omega)) | refine ⟨_,_,rfl,?_,?_⟩)) rfl rfl rfl (by repeat' (first | exact trivial | exact aw rfl | exact fo lT | exact ay (bA LY (by omega)) | refine ⟨⟨_,rfl,?_⟩,?_⟩))),rows.length - (f + 1),by omega,f + 1,rfl,by omega,rfl⟩
  ·have bI:f=rows.length:=by have:=hL;simp [hN] at this;omega
   subst bI
   have IB:cU (eZ r e rows.length) ++ spU (cap - (dU rows).length)=cU (closeR rows (e + 1)) ++ spU (cap - (dU rows).length):=by
    rw [Jf,hlen]
   exact ⟨Rf rows cap (closeR rows (e + 1)) (e + 1),(aS 2 rfl (by repeat' (first | exact rfl | exact aw rfl | exact fo IB | exact ay (bA au (by omega)) | refine ⟨_,_,rfl,?_,?_⟩)) rfl rfl rfl (by repeat' (first | exact trivial | exact aw rfl | exact fo IB | exact ay (bA au (by omega)) | refine ⟨⟨_,rfl,?_⟩,?_⟩))),rows.length - (e + 1),by omega,e + 1,rfl,by omega,rfl⟩
 ·have bI:e=rows.length:=by have:=hL;simp [hN] at this;omega
  subst bI;refine ⟨_,?_,rfl⟩;rw [hce];refine .inr ⟨1,_,rfl,Nat.zero_le _,rfl,_,_,rfl,.inr (.inr (.inl ⟨0,0,cap,cU r ++ spU (cap - (dU rows).length),by rw [iv r,hlen,hN],Nat.zero_le _,rfl,?_,?_,?_⟩)),rfl⟩
  ·rw [mI,iv,Nat.mul_one,List.drop_zero,List.take_append_of_le_length (by rw [lF];omega),List.take_of_length_le (by rw [lF];omega)]
  ·intro x hx;simp only [dU,List.mem_map] at hx;obtain ⟨y,_,rfl⟩:=hx;rfl
  ·intro x hx;rw [mI] at hx;simp only [cU,List.mem_map] at hx;obtain ⟨y,_,rfl⟩:=hx;exact .inl ⟨_,rfl⟩
theorem iK {a b c d:Nat} (ha:a < 256) (hb:b < 256):(a + 256 * c) &&& (b + 256 * d)=(a &&& b) + 256 * (c &&& d):=by
 have h1:a &&& b < 256:=Nat.and_lt_two_pow (n:=8) a hb;apply Nat.eq_of_testBit_eq;intro i
 have e (x y:Nat) (hx:x < 256):(x + 256 * y).testBit i=if i < 8 then x.testBit i else y.testBit (i - 8):=by
  rw [show x + 256 * y=2 ^ 8 * y + x by omega,Nat.testBit_two_pow_mul_add _ (by simpa using hx)]
 rw [Nat.testBit_and,e a c ha,e b d hb,e _ _ h1];split<;>simp [Nat.testBit_and]
def b1 (x:Nat):Nat:=((x / 2) &&& 85) + (x &&& 85)
def b2 (x:Nat):Nat:=((x / 4) &&& 51) + (x &&& 51)
def b3 (x:Nat):Nat:=((x / 16) + x) &&& 15
def pop8 (x:Nat):Nat:=b3 (b2 (b1 x))
theorem AO:∀ x:Fin 256,b1 x.val < 256/\b2 (b1 x.val) < 120/\pop8 x.val<=8/\pop8 x.val=(((((((x.val.testBit 0).toNat + (x.val.testBit 1).toNat) + (x.val.testBit 2).toNat) + (x.val.testBit 3).toNat) + (x.val.testBit 4).toNat) + (x.val.testBit 5).toNat) + (x.val.testBit 6).toNat) + (x.val.testBit 7).toNat:=by decide +kernel
def valB:List Nat->Nat
 | []=>0
 | a :: r=>a + 256 * valB r
def rep (m:Nat):Nat->Nat
 | 0=>0
 | n + 1=>m + 256 * rep m n
theorem m1:∀ (a:Fin 256) (c:Fin 2),(a.val / 2 + 128 * c.val) &&& 85=(a.val / 2) &&& 85:=by decide +kernel
theorem m2:∀ (a:Fin 256) (c:Fin 4),(a.val / 4 + 64 * c.val) &&& 51=(a.val / 4) &&& 51:=by decide +kernel
theorem lW:∀ l:List Nat,(∀ a∈l,a < 256)->((valB l / 2) &&& rep 85 l.length) + (valB l &&& rep 85 l.length)=valB (l.map b1)
 | [],_=>rfl
 | a :: r,h=>by
  have ih:=lW r (fun x hx=>h x (by simp [hx]));have ha:=h a (by simp);have e1:(a + 256 * valB r) / 2=(a / 2 + 128 * (valB r % 2)) + 256 * (valB r / 2):=by omega
  have hm:=m1 ⟨a,ha⟩ ⟨valB r % 2,by omega⟩;simp only at hm;simp only [valB,List.length_cons,rep,List.map_cons,b1];rw [e1,iK (by omega) (by decide),iK ha (by decide),hm,<- ih];omega
theorem C9:∀ l:List Nat,(∀ a∈l,a < 256)->((valB l / 4) &&& rep 51 l.length) + (valB l &&& rep 51 l.length)=valB (l.map b2)
 | [],_=>rfl
 | a :: r,h=>by
  have ih:=C9 r (fun x hx=>h x (by simp [hx]));have ha:=h a (by simp);have e1:(a + 256 * valB r) / 4=(a / 4 + 64 * (valB r % 4)) + 256 * (valB r / 4):=by omega
  have hm:=m2 ⟨a,ha⟩ ⟨valB r % 4,by omega⟩;simp only at hm;simp only [valB,List.length_cons,rep,List.map_cons,b2];rw [e1,iK (by omega) (by decide),iK ha (by decide),hm,<- ih];omega
theorem NS (x y:Nat):(x + 16 * y) &&& 15=x &&& 15:=by
 have h (z:Nat):z &&& 15=z % 16:=Nat.and_two_pow_sub_one_eq_mod z 4;rw [h,h];omega
def wO (a:Nat):Prop:=a < 70/\a % 16<=4
theorem Tm:∀ l:List Nat,(∀ a∈l,wO a)->((valB l / 16) + valB l) &&& rep 15 l.length=valB (l.map b3)
 | [],_=>rfl
 | a :: r,h=>by
  have ih:=Tm r (fun x hx=>h x (by simp [hx]));have ha:=h a (by simp)
  have hc:valB r % 16<=4:=by
   cases r with
   | nil=>simp [valB]
   | cons b s=>
    have:=(h b (by simp)).2;simp only [valB];omega
  unfold wO at ha;have e1:(a + 256 * valB r) / 16 + (a + 256 * valB r)=((a / 16 + a) + 16 * (valB r % 16)) + 256 * (valB r / 16 + valB r):=by omega
  simp only [valB,List.length_cons,rep,List.map_cons,b3];rw [e1,iK (by omega) (by decide),NS,ih]
def dt (x:Nat):List Nat:=[x % 256,x / 256 % 256,x / 65536 % 256,x / 16777216 % 256,x / 4294967296 % 256,x / 1099511627776 % 256,x / 281474976710656 % 256,x / 72057594037927936 % 256]
theorem zc {x:Nat} (h:x < 18446744073709551616):valB (dt x)=x:=by
 simp only [dt,valB];omega
theorem Cb (x:Nat):∀ a∈dt x,a < 256:=by
 intro a ha;simp only [dt,List.mem_cons,List.not_mem_nil,or_false] at ha;omega
def zd (x:Nat):Nat:=((dt x).map pop8).sum
theorem wP:∀ a:Fin 256,b1 a.val < 256/\b2 (b1 a.val) < 70/\b2 (b1 a.val) % 16<=4:=by decide +kernel
theorem uU {x m:Nat} (hx:x < 18446744073709551616) (hm:m < 18446744073709551616) :
  IntKind.u64.wrap ((BitVec.ofInt 64 (x:Int) &&& BitVec.ofInt 64 (m:Int)).toNat:Int)=((x &&& m:Nat):Int):=by
 rw [fu,fu,BitVec.toNat_and,BitVec.toNat_ofNat,BitVec.toNat_ofNat,Nat.mod_eq_of_lt hx,Nat.mod_eq_of_lt hm];have h3:x &&& m < 18446744073709551616:=Nat.and_lt_two_pow (n:=64) x hm;simp only [IntKind.wrap_u64];omega
theorem ze {x:Nat} {k:Int} (hk:k.toNat < 64):(x:Int).fdiv (2 ^ min k.toNat IntKind.u64.bits)=((x / 2 ^ k.toNat:Nat):Int):=by
 rw [show min k.toNat IntKind.u64.bits=k.toNat from Nat.min_eq_left (by show k.toNat<=64;omega),wN]
theorem uV {y:Nat} (h:y < 18446744073709551616):IntKind.u64.wrap (y:Int)=(y:Int):=by
 simp only [IntKind.wrap_u64];omega
theorem NT {k M:Int} {m x y:Nat} (hk:k.toNat < 64) (hx:x < 18446744073709551616) (hM:M=(m:Int)) (hm:m < 18446744073709551616) (hy:((x / 2 ^ k.toNat) &&& m) + (x &&& m)=y) (jO:y < 18446744073709551616) :
  IntKind.u64.wrap (IntKind.u64.wrap ((BitVec.ofInt IntKind.u64.bits ((x:Int).fdiv (2 ^ min k.toNat IntKind.u64.bits)) &&& BitVec.ofInt IntKind.u64.bits M).toNat:Int) + IntKind.u64.wrap ((BitVec.ofInt IntKind.u64.bits (x:Int) &&& BitVec.ofInt IntKind.u64.bits M).toNat:Int))=(y:Int):=by
 subst hM;have h1:x / 2 ^ k.toNat < 18446744073709551616:=Nat.lt_of_le_of_lt (Nat.div_le_self _ _) hx;have e1:IntKind.u64.wrap ((BitVec.ofInt IntKind.u64.bits ((x / 2 ^ k.toNat:Nat):Int) &&& BitVec.ofInt IntKind.u64.bits (m:Int)).toNat:Int)=_:=uU h1 hm;have e2:IntKind.u64.wrap ((BitVec.ofInt IntKind.u64.bits (x:Int) &&& BitVec.ofInt IntKind.u64.bits (m:Int)).toNat:Int)=_:=uU hx hm;rw [ze hk,e1,e2,<- Int.natCast_add,hy,uV jO]
theorem Rg {k M:Int} {m x y:Nat} (hk:k.toNat < 64) (hs:x / 2 ^ k.toNat + x < 18446744073709551616) (hM:M=(m:Int)) (hm:m < 18446744073709551616) (hy:((x / 2 ^ k.toNat) + x) &&& m=y) :
  IntKind.u64.wrap ((BitVec.ofInt IntKind.u64.bits (IntKind.u64.wrap ((x:Int).fdiv (2 ^ min k.toNat IntKind.u64.bits) + (x:Int))) &&& BitVec.ofInt IntKind.u64.bits M).toNat:Int)=(y:Int):=by
 subst hM;have e2:IntKind.u64.wrap ((BitVec.ofInt IntKind.u64.bits ((x / 2 ^ k.toNat + x:Nat):Int) &&& BitVec.ofInt IntKind.u64.bits (m:Int)).toNat:Int)=_:=uU hs hm;rw [ze hk,<- Int.natCast_add,uV hs,e2,hy]
theorem KP {k:Int} {x:Nat} (hk:k.toNat < 64) (hs:x + x / 2 ^ k.toNat < 18446744073709551616) :
  IntKind.u64.wrap ((x:Int) + (x:Int).fdiv (2 ^ min k.toNat IntKind.u64.bits))=((x + x / 2 ^ k.toNat:Nat):Int):=by
 rw [ze hk,<- Int.natCast_add,uV hs]
theorem AP:∀ l:List Nat,(∀ a∈l,a < 256)->valB l < 256 ^ l.length
 | [],_=>by simp [valB]
 | a :: r,h=>by
  have ih:=AP r (fun x hx=>h x (by simp [hx]));have ha:=h a (by simp);simp only [valB,List.length_cons,Nat.pow_succ];omega
theorem EK {x:Nat} (hx:x < 18446744073709551616):∃ y1 y2 y3:Nat,((x / 2) &&& 6148914691236517205) + (x &&& 6148914691236517205)=y1/\y1 < 18446744073709551616/\((y1 / 4) &&& 3689348814741910323) + (y1 &&& 3689348814741910323)=y2/\y2 / 16 + y2 < 18446744073709551616/\y2 < 18446744073709551616 /\
  ((y2 / 16) + y2) &&& 1085102592571150095=y3/\∃ p0 p1 p2 p3 p4 p5 p6 p7:Nat,y3=valB [p0,p1,p2,p3,p4,p5,p6,p7]/\(p0<=8/\p1<=8/\p2<=8/\p3<=8/\p4<=8/\p5<=8/\p6<=8/\p7<=8)/\zd x=p0 + p1 + p2 + p3 + p4 + p5 + p6 + p7:=by
 have hl:=Cb x;have s1:=lW (dt x) hl;rw [zc hx] at s1
 have l1:∀ a∈(dt x).map b1,a < 256:=by
  intro a ha;obtain ⟨b,hb,rfl⟩:=List.mem_map.1 ha;exact (wP ⟨b,hl b hb⟩).1
 have l2:∀ a∈((dt x).map b1).map b2,wO a:=by
  intro a ha;obtain ⟨c,hc,rfl⟩:=List.mem_map.1 ha;obtain ⟨b,hb,rfl⟩:=List.mem_map.1 hc;exact (wP ⟨b,hl b hb⟩).2
 have s2:=C9 ((dt x).map b1) l1;have s3:=Tm (((dt x).map b1).map b2) l2
 have v1:valB ((dt x).map b1) < 18446744073709551616:=by
  have:=AP _ l1;rw [List.length_map,show (dt x).length=8 from rfl] at this;simpa using this
 rw [show rep 85 (dt x).length=6148914691236517205 from (by decide:rep 85 8=_)] at s1;rw [List.length_map,show rep 51 (dt x).length=3689348814741910323 from (by decide:rep 51 8=_)] at s2;rw [List.length_map,List.length_map,show rep 15 (dt x).length=1085102592571150095 from (by decide:rep 15 8=_)] at s3;refine ⟨_,_,_,s1,v1,s2,?_,?_,s3,_,_,_,_,_,_,_,_,rfl,?_,?_⟩
 ·have:=l2;simp only [dt,List.map_cons,List.map_nil,List.mem_cons,List.not_mem_nil,or_false,forall_eq_or_imp,forall_eq,wO,valB] at this ⊢;omega
 ·have:=l2;simp only [dt,List.map_cons,List.map_nil,List.mem_cons,List.not_mem_nil,or_false,forall_eq_or_imp,forall_eq,wO,valB] at this ⊢;omega
 ·have h (b:Nat) (hb:b < 256):=(AO ⟨b,hb⟩).2.2.1;exact ⟨h _ (by omega),h _ (by omega),h _ (by omega),h _ (by omega),h _ (by omega),h _ (by omega),h _ (by omega),h _ (by omega)⟩
 ·simp only [zd,dt,List.map_cons,List.map_nil,List.sum_cons,List.sum_nil,pop8];omega
theorem dr1 {a r:Nat} (h:a < 256):(a + 256 * r) / 256=r:=by omega
theorem dr2 {a b r:Nat} (h:a < 256) (h2:b < 256):(a + 256 * (b + 256 * r)) / 65536=r:=by omega
theorem dr4 {a b c d r:Nat} (h:a < 256) (h2:b < 256) (h3:c < 256) (h4:d < 256):(a + 256 * (b + 256 * (c + 256 * (d + 256 * r)))) / 4294967296=r:=by omega
theorem EL {p0 p1 p2 p3 p4 p5 p6 p7:Nat} (hp:p0<=8/\p1<=8/\p2<=8/\p3<=8/\p4<=8/\p5<=8/\p6<=8/\p7<=8):∃ z1 z2 z3:Nat,
  (p0 + 256 * (p1 + 256 * (p2 + 256 * (p3 + 256 * (p4 + 256 * (p5 + 256 * (p6 + 256 * (p7 + 256 * 0)))))))) + (p0 + 256 * (p1 + 256 * (p2 + 256 * (p3 + 256 * (p4 + 256 * (p5 + 256 * (p6 + 256 * (p7 + 256 * 0)))))))) / 256=z1/\z1 < 18446744073709551616 /\
  z1 + z1 / 65536=z2/\z2 < 18446744073709551616/\z2 + z2 / 4294967296=z3/\z3 < 18446744073709551616/\z3 % 128=p0 + p1 + p2 + p3 + p4 + p5 + p6 + p7:=by
 refine ⟨(p0 + p1) + 256 * ((p1 + p2) + 256 * ((p2 + p3) + 256 * ((p3 + p4) + 256 * ((p4 + p5) + 256 * ((p5 + p6) + 256 * ((p6 + p7) + 256 * p7)))))),
  (p0 + p1 + p2 + p3) + 256 * ((p1 + p2 + p3 + p4) + 256 * ((p2 + p3 + p4 + p5) + 256 * ((p3 + p4 + p5 + p6) + 256 * ((p4 + p5 + p6 + p7) + 256 * ((p5 + p6 + p7) + 256 * ((p6 + p7) + 256 * p7)))))),
  (p0 + p1 + p2 + p3 + p4 + p5 + p6 + p7) + 256 * ((p1 + p2 + p3 + p4 + p5 + p6 + p7) + 256 * ((p2 + p3 + p4 + p5 + p6 + p7) + 256 * ((p3 + p4 + p5 + p6 + p7) + 256 * ((p4 + p5 + p6 + p7) + 256 * ((p5 + p6 + p7) + 256 * ((p6 + p7) + 256 * p7)))))),?_,by omega,?_,by omega,?_,by omega,by omega⟩
 ·rw [dr1 (by omega)];omega
 ·rw [dr2 (by omega) (by omega)];omega
 ·rw [dr4 (by omega) (by omega) (by omega) (by omega)];omega
theorem EM {z:Nat} (h:z < 18446744073709551616):IntKind.i64.wrap ((BitVec.ofInt IntKind.i64.bits (IntKind.i64.wrap (z:Int)) &&& BitVec.ofInt IntKind.i64.bits 127).toNat:Int)=((z % 128:Nat):Int):=by
 have e1:BitVec.ofInt 64 (IntKind.i64.wrap (z:Int))=BitVec.ofNat 64 z:=by
  apply BitVec.eq_of_toNat_eq;rw [BitVec.toNat_ofInt,BitVec.toNat_ofNat,IntKind.wrap_i64];omega
 have e2:(BitVec.ofInt 64 (IntKind.i64.wrap (z:Int)) &&& BitVec.ofInt 64 127).toNat=z % 128:=by
  rw [e1,show BitVec.ofInt 64 127=BitVec.ofNat 64 127 by decide,BitVec.toNat_and,BitVec.toNat_ofNat,BitVec.toNat_ofNat,Nat.mod_eq_of_lt h];exact Nat.and_two_pow_sub_one_eq_mod z 7
 have e3:(BitVec.ofInt IntKind.i64.bits (IntKind.i64.wrap (z:Int)) &&& BitVec.ofInt IntKind.i64.bits 127).toNat=z % 128:=e2;rw [e3,IntKind.wrap_i64];omega
theorem Cd (x:Nat) (hx:x < 18446744073709551616):ba Tryz.prog 164 [.v (.int .u64 x)] (.v (.int .i64 (zd x:Nat))):=by
 obtain ⟨y1,y2,y3,h1,IH,h2,h2s,Qv,h3,p0,p1,p2,p3,p4,p5,p6,p7,h4,hp,h5⟩:=EK hx;rw [h5];simp only [valB] at h4;refine ev_go (P:=Tryz.prog) tt tt_ok 5000 35 [.tmp 2] Tryz.func164 rfl Tryz.ntmps164 rfl (nL rfl) (fun E9 w9 hn9 hm9=>?_);refine ⟨by decide,?_⟩;refine ⟨by decide,?_⟩;refine ⟨by decide,?_⟩;refine ⟨by decide,?_⟩;refine ⟨by decide,?_⟩;refine ⟨by decide,?_⟩;refine (congrArg (fun z=>DV.v (.int .i64 z)) ?_:_=_);rw [NT (k:=1) (M:=6148914691236517205) (by decide) hx rfl (by decide) h1 IH,NT (k:=2) (M:=3689348814741910323) (by decide) IH rfl (by decide) h2 Qv,Rg (k:=4) (M:=1085102592571150095) (by decide) h2s rfl (by decide) h3];obtain ⟨z1,z2,z3,g1,g1b,g2,g2b,g3,Tn,g4⟩:=EL hp;rw [<- h4] at g1;have k1:y3 + y3 / 2 ^ (8:Int).toNat=z1:=g1;rw [KP (k:=8) (by decide) (by rw [k1];exact g1b),k1];have k2:z1 + z1 / 2 ^ (16:Int).toNat=z2:=g2;rw [KP (k:=16) (by decide) (by rw [k2];exact g2b),k2];have k3:z2 + z2 / 2 ^ (32:Int).toNat=z3:=g3;rw [KP (k:=32) (by decide) (by rw [k3];exact Tn),k3,<- g4];exact EM Tn
theorem fK (x k i:Nat) (hi:i < 8):(x / 2 ^ (8 * k) % 256).testBit i=x.testBit (8 * k + i):=by
 rw [show (256:Nat)=2 ^ 8 by decide,Nat.testBit_mod_two_pow,decide_eq_true hi,Bool.true_and,Nat.testBit_div_two_pow,Nat.add_comm]
theorem fL (x k:Nat):pop8 (x / 2 ^ (8 * k) % 256)=(((((((x.testBit (8 * k + 0)).toNat + (x.testBit (8 * k + 1)).toNat) + (x.testBit (8 * k + 2)).toNat) + (x.testBit (8 * k + 3)).toNat) + (x.testBit (8 * k + 4)).toNat) + (x.testBit (8 * k + 5)).toNat) + (x.testBit (8 * k + 6)).toNat) + (x.testBit (8 * k + 7)).toNat:=by
 have h:=(AO ⟨x / 2 ^ (8 * k) % 256,Nat.mod_lt _ (by decide)⟩).2.2.2;simp only at h;rw [h,fK x k 0 (by decide),fK x k 1 (by decide),fK x k 2 (by decide),fK x k 3 (by decide),fK x k 4 (by decide),fK x k 5 (by decide),fK x k 6 (by decide),fK x k 7 (by decide)]
def sumB (x:Nat):Nat->Nat
 | 0=>0
 | n + 1=>sumB x n + (x.testBit n).toNat
theorem EN (x:Nat):zd x=sumB x 64:=by
 have h0:=fL x 0;have h1:=fL x 1;have h2:=fL x 2;have h3:=fL x 3;have h4:=fL x 4;have h5:=fL x 5;have h6:=fL x 6;have h7:=fL x 7;simp only [Nat.mul_zero,Nat.pow_zero,Nat.div_one] at h0;simp only [zd,dt,List.map_cons,List.map_nil,List.sum_cons,List.sum_nil,sumB];rw [h0]
 rw [show x / 256=x / 2 ^ (8 * 1) by rfl,h1,show x / 65536=x / 2 ^ (8 * 2) by rfl,h2,show x / 16777216=x / 2 ^ (8 * 3) by rfl,h3,show x / 4294967296=x / 2 ^ (8 * 4) by rfl,h4,
  show x / 1099511627776=x / 2 ^ (8 * 5) by rfl,h5,show x / 281474976710656=x / 2 ^ (8 * 6) by rfl,h6,show x / 72057594037927936=x / 2 ^ (8 * 7) by rfl,h7]
 simp only [Nat.reduceMul,Nat.reduceAdd];omega
theorem qF (x:Nat):∀ n,0 < sumB x n↔∃ b,b < n/\x.testBit b=true
 | 0=>by simp [sumB]
 | n + 1=>by
  have ih:=qF x n;simp only [sumB];cases h:x.testBit n
  ·simp only [Bool.toNat_false,Nat.add_zero,ih]
   exact ⟨fun ⟨b,hb,hx⟩=>⟨b,by omega,hx⟩,fun ⟨b,hb,hx⟩=>⟨b,by
    rcases Nat.lt_succ_iff_lt_or_eq.1 hb with hb | rfl
    ·exact ⟨hb,hx⟩
    ·rw [h] at hx;cases hx⟩⟩
  ·simp only [Bool.toNat_true];exact ⟨fun _=>⟨n,by omega,h⟩,fun _=>by omega⟩
theorem wQ (x a:Nat) (ha:x.testBit a=true):∀ n,a < n->(1 < sumB x n↔∃ b,b < n/\b≠a/\x.testBit b=true)
 | 0,h=>by omega
 | n + 1,h=>by
  simp only [sumB];by_cases hn:a=n
  ·subst hn;rw [ha,Bool.toNat_true];have:=qF x a;constructor
   ·intro h1;obtain ⟨b,hb,hx⟩:=this.1 (by omega);exact ⟨b,by omega,by omega,hx⟩
   ·rintro ⟨b,hb,aQ,hx⟩;have:=this.2 ⟨b,by omega,hx⟩;omega
  ·have ih:=wQ x a ha n (by omega);have hp:=(qF x n).2 ⟨a,by omega,ha⟩;cases hb:x.testBit n
   ·simp only [Bool.toNat_false,Nat.add_zero,ih]
    exact ⟨fun ⟨b,h1,h2,h3⟩=>⟨b,by omega,h2,h3⟩,fun ⟨b,h1,h2,h3⟩=>⟨b,by
     rcases Nat.lt_succ_iff_lt_or_eq.1 h1 with h1 | rfl
     ·exact ⟨h1,h2,h3⟩
     ·rw [hb] at h3;cases h3⟩⟩
   ·simp only [Bool.toNat_true];exact ⟨fun _=>⟨n,by omega,fun e=>hn e.symm,hb⟩,fun _=>by omega⟩
def bi (p:Nat->Bool) (n:Nat):Option Nat:=(List.range n).find? p
theorem dg {p:Nat->Bool} {n e:Nat} (he:e < n) (hp:p e=true) (h:∀ a,a < e->p a=false):bi p n=some e:=by
 unfold bi;rw [List.find?_eq_some_iff_getElem];refine ⟨hp,e,by simpa using he,by simp,fun j hj=>?_⟩;simp [h j hj]
theorem dK {p:Nat->Bool} {n:Nat} (h:∀ a,a < n->p a=false):bi p n=none:=by
 unfold bi;rw [List.find?_eq_none];intro x hx;simp [h x (by simpa using hx)]
theorem eM {p:Nat->Bool} {n e:Nat} (h:bi p n=some e):e < n/\p e=true/\∀ a,a < e->p a=false:=by
 unfold bi at h;rw [List.find?_eq_some_iff_getElem] at h;obtain ⟨h1,i,hi,rfl,h3⟩:=h;refine ⟨by simpa using hi,h1,fun a ha=>?_⟩;have:=h3 a (by simpa using ha);simpa using this
def mK (c:List Nat) (a:Nat):Bool:=decide (1 < zd (backN c a c.length))
def EO:Option Nat->DV
 | some a=>.dV [.v (.int .i64 (a:Int)),.v (.bool true)]
 | none=>.dV [.v (.int .i64 0),.v (.bool false)]
abbrev Hu (c:List Nat) (e:Nat):St:=
 ⟨[(4,⟨[],jQ c⟩),(9,⟨[],.v (.int .i64 c.length)⟩),(10,⟨[],.v (.int .i64 e)⟩)],[],[]⟩
theorem zf (rows:List Nat) (hr:dx rows) (h0:rows ≠ []):ba Tryz.prog 99 [jQ rows] (EO (bi (mK (closeR rows rows.length)) rows.length)):=by
 have hc:=oC rows hr h0;have dh:=kP hr rows.length hr.1;have hlen:=eE rows rows.length;have hr1:=hr.1;generalize closeR rows rows.length=c at hc dh hlen ⊢;rw [<- hlen];have hl:=s8 c;refine ev_go (P:=Tryz.prog) tt tt_ok 5000 20 [.tmp 2,.tmp 3] Tryz.func99 rfl Tryz.ntmps99 rfl (nL rfl) (fun E9 w9 hn9 hm9=>?_);refine call_p IK (hc) ax rfl ?_;refine call_p DW (hl) ax rfl ?_;refine bU (fun j st=>∃ e:Nat,st=Hu c e/\e<=c.length/\(∀ a,a < e->mK c a=false)/\j=c.length - e) c.length (Hu c 0) (aq ⟨_,rfl⟩ wA rfl rfl rfl wB) ⟨0,rfl,by omega,fun a h=>by omega,by omega⟩ ?_;rintro j st ⟨e,rfl,he,iG,rfl⟩;refine br (fun hL=>?_) (fun hL=>?_)
 ·have au:e < c.length:=by have:=hL;simp at this;exact this
  have KO:backN c e c.length < 18446744073709551616:=by
   have h1:=qC c e c.length;have:2 ^ c.length<=2 ^ 64:=Nat.pow_le_pow_right (by decide) (by omega);omega
  refine call_p Na (zb c dh e au) ax rfl ?_;refine call_p M9 (Cd _ KO) ax rfl ?_;refine br (fun g=>?_) (fun g=>?_)
  ·have g:mK c e=true:=by
    simp at g;simp [mK];omega
   rw [dg au g iG];refine ⟨_,?_,rfl⟩;exact ax
  ·have g:mK c e=false:=by
    simp at g;simp [mK];omega
   exact ⟨Hu c (e + 1),(aq ⟨_,rfl⟩ wA rfl rfl rfl (ah au)),c.length - (e + 1),by omega,e + 1,rfl,by omega,fun a ha=>by
    rcases Nat.lt_succ_iff_lt_or_eq.1 ha with ha | rfl
    ·exact iG a ha
    ·exact g,rfl⟩
 ·have bI:e=c.length:=by have:=hL;simp at this;omega
  subst bI;rw [dK iG];refine ⟨_,?_,rfl⟩;exact ax
theorem qG {rows:List Nat} {i x a b:Nat} (hi:i < rows.length):aH (rows.set i x) a b=if a=i then x.testBit b else aH rows a b:=by
 unfold aH;simp only [List.getD_eq_getElem?_getD];by_cases h:a=i
 ·subst h;rw [List.getElem?_set_self hi,if_pos rfl];all_goals rfl
 ·rw [List.getElem?_set_ne (Ne.symm h),if_neg h]
theorem kQ {rows:List Nat} {k a b:Nat} (hk:k < rows.length):aH (gd rows k) a b=(aH rows a b || (decide (a=k) && decide (b=k))):=by
 unfold gd;rw [qG hk];by_cases h:a=k
 ·subst h;rw [if_pos rfl,eY];simp only [decide_true,Bool.true_and];rw [show decide (a=b)=decide (b=a) from by simp only [eq_comm]];rfl
 ·rw [if_neg h];simp [h]
theorem Ce {rows:List Nat} {k i a b:Nat} (hi:i < rows.length):aH (lk k rows i) a b=(aH rows a b || (decide (a=i) && (aH rows a k && aH rows k b))):=by
 unfold lk;by_cases h:aH rows i k=true
 ·rw [if_pos h,qG hi];by_cases ha:a=i
  ·subst ha;rw [if_pos rfl,Nat.testBit_or];simp only [decide_true,Bool.true_and,h];rfl
  ·rw [if_neg ha];simp [ha]
 ·rw [if_neg h];by_cases ha:a=i
  ·subst ha;simp only [Bool.not_eq_true] at h;simp [h]
  ·simp [ha]
theorem s9 {rows:List Nat} {k:Nat} (hk:k < rows.length):∀ e,e<=rows.length->∀ a b,aH (eZ rows k e) a b=(aH (gd rows k) a b || (decide (a < e) && (aH (gd rows k) a k && aH (gd rows k) k b)))
 | 0,_,a,b=>by simp [eZ]
 | e + 1,he,a,b=>by
  have ih:=s9 hk e (by omega);rw [jz,Ce (by rw [kO];omega),ih a b,ih a k,ih k b];have ma:aH (gd rows k) k k=true:=by rw [kQ hk];simp
  generalize aH (gd rows k)=s at *;by_cases h1:a=e
  ·subst h1;simp only [Nat.lt_irrefl,decide_false,Bool.false_and,Bool.or_false,decide_true,Bool.true_and,Nat.lt_succ_self,ma];cases s a b<;>cases s a k<;>cases s k b<;>simp
  ·by_cases h2:a < e
   ·have:a < e + 1:=by omega
    simp [h1,h2,this]
   ·have:¬ a < e + 1:=by omega
    simp [h1,h2,this]
inductive vE (p:Nat->Nat->Prop):Nat->Nat->Prop
 | refl (a:Nat):vE p a a
 | step {a b c:Nat}:vE p a b->p b c->vE p a c
theorem vE.trans {p:Nat->Nat->Prop} {a b c:Nat} (h1:vE p a b) (h2:vE p b c):vE p a c:=by
 induction h2 with
 | refl=>exact h1
 | step _ h ih=>exact .step ih h
theorem vE.mono {p q:Nat->Nat->Prop} (h:∀ a b,p a b->vE q a b) {a b:Nat} (h1:vE p a b):vE q a b:=by
 induction h1 with
 | refl=>exact .refl _
 | step _ h2 ih=>exact ih.trans (h _ _ h2)
def wayQ (p:Nat->Nat->Prop):Nat->Nat->Nat->Prop
 | 0,a,b=>a=b∨p a b
 | k + 1,a,b=>wayQ p k a b∨(wayQ p k a k/\wayQ p k k b)
theorem ta {p:Nat->Nat->Prop} (a:Nat):∀ k,wayQ p k a a
 | 0=>.inl rfl
 | k + 1=>.inl (ta a k)
theorem td {p:Nat->Nat->Prop} {a b:Nat} (h:p a b):∀ k,wayQ p k a b
 | 0=>.inr h
 | k + 1=>.inl (td h k)
theorem mL {p:Nat->Nat->Prop}:∀ k a b,wayQ p k a b->vE p a b
 | 0,a,b,h=>by
  rcases h with rfl | h
  ·exact .refl _
  ·exact .step (.refl _) h
 | k + 1,a,b,h=>by
  rcases h with h | ⟨h1,h2⟩
  ·exact mL k a b h
  ·exact (mL k a k h1).trans (mL k k b h2)
theorem jA {p:Nat->Nat->Prop}:∀ k a m b,m < k->wayQ p k a m->wayQ p k m b->wayQ p k a b
 | 0,_,_,_,h,_,_=>by omega
 | k + 1,a,m,b,hm,h1,h2=>by
  by_cases hmk:m=k
  ·subst hmk
   have rQ:wayQ p m a m:=by
    rcases h1 with h1 | h1
    ·exact h1
    ·exact h1.1
   have h2':wayQ p m m b:=by
    rcases h2 with h2 | h2
    ·exact h2
    ·exact h2.2
   exact .inr ⟨rQ,h2'⟩
  ·have jS:m < k:=by omega
   rcases h1 with h1 | ⟨h1,h3⟩
   ·rcases h2 with h2 | ⟨h2,h4⟩
    ·exact .inl (jA k a m b jS h1 h2)
    ·exact .inr ⟨jA k a m k jS h1 h2,h4⟩
   ·rcases h2 with h2 | ⟨h2,h4⟩
    ·exact .inr ⟨h1,jA k k m b jS h3 h2⟩
    ·exact .inr ⟨h1,h4⟩
theorem qH {rows:List Nat}:∀ k,k<=rows.length->∀ a b,a < rows.length->((aH (closeR rows k) a b=true∨a=b)↔wayQ (fun x y=>aH rows x y=true) k a b)/\(a < k->aH (closeR rows k) a a=true)
 | 0,_,a,b,_=>by
  refine ⟨?_,fun h=>by omega⟩;simp only [closeR,List.range_zero,List.foldl_nil,wayQ];exact or_comm
 | k + 1,hk,a,b,ha=>by
  have ih:=qH (rows:=rows) k (by omega);have gZ:k < (closeR rows k).length:=by rw [eE];omega
  have hb:∀ a b,a < rows.length->aH (closeR rows (k + 1)) a b=(aH (gd (closeR rows k) k) a b || (aH (gd (closeR rows k) k) a k && aH (gd (closeR rows k) k) k b)):=fun a b ha=>by
   rw [il,s9 gZ _ (Nat.le_refl _)];simp [eE,ha]
  have wR:∀ a b,(aH (gd (closeR rows k) k) a b=true∨a=b)↔(aH (closeR rows k) a b=true∨a=b):=fun a b=>by
   rw [kQ gZ];simp only [Bool.or_eq_true,Bool.and_eq_true,decide_eq_true_eq];constructor
   ·rintro ((h | ⟨rfl,rfl⟩) | h)
    ·exact .inl h
    ·exact .inr rfl
    ·exact .inr h
   ·rintro (h | h)
    ·exact .inl (.inl h)
    ·exact .inr h
  have ma:aH (gd (closeR rows k) k) k k=true:=by rw [kQ gZ];simp
  have key:∀ a b,a < rows.length->((aH (closeR rows (k + 1)) a b=true∨a=b)↔wayQ (fun x y=>aH rows x y=true) (k + 1) a b):=fun a b ha=>by
   rw [hb a b ha];show _↔wayQ _ k a b∨(wayQ _ k a k/\wayQ _ k k b);rw [<- (ih a b ha).1,<- (ih a k ha).1,<- (ih k b (by omega)).1,<- wR a b,<- wR a k,<- wR k b];simp only [Bool.or_eq_true,Bool.and_eq_true];constructor
   ·rintro ((h | ⟨h1,h2⟩) | h)
    ·exact .inl (.inl h)
    ·exact .inr ⟨.inl h1,.inl h2⟩
    ·exact .inl (.inr h)
   ·rintro ((h | h) | ⟨h1,h2⟩)
    ·exact .inl (.inl h)
    ·exact .inr h
    ·rcases h1 with h1 | rfl
     ·rcases h2 with h2 | rfl
      ·exact .inl (.inr ⟨h1,h2⟩)
      ·exact .inl (.inl h1)
     ·rcases h2 with h2 | rfl
      ·exact .inl (.inl h2)
      ·exact .inr rfl
  refine ⟨key a b ha,fun hak=>?_⟩;rw [hb a a ha];by_cases h:a=k
  ·subst h;rw [ma];all_goals rfl
  ·have:=(ih a a ha).2 (by omega);rw [kQ gZ,this];all_goals rfl
theorem zg {rows:List Nat} (hb:∀ a b,a < rows.length->aH rows a b=true->b < rows.length) {a b:Nat} (ha:a < rows.length) (hbl:b < rows.length):aH (closeR rows rows.length) a b=true↔vE (fun x y=>x < rows.length/\aH rows x y=true) a b:=by
 have hw:=qH (rows:=rows) rows.length (Nat.le_refl _) a b ha
 have h1:aH (closeR rows rows.length) a b=true↔wayQ (fun x y=>aH rows x y=true) rows.length a b:=by
  rw [<- hw.1];constructor
  ·exact .inl
  ·rintro (h | rfl)
   ·exact h
   ·exact hw.2 ha
 rw [h1];constructor
 ·intro h
  have au:∀ {x},vE (fun x y=>aH rows x y=true) a x->vE (fun x y=>x < rows.length/\aH rows x y=true) a x/\x < rows.length:=by
   intro x hx
   induction hx with
   | refl=>exact ⟨.refl _,ha⟩
   | step _ h2 ih=>exact ⟨.step ih.1 ⟨ih.2,h2⟩,hb _ _ ih.2 h2⟩
  exact (au (mL _ _ _ h)).1
 ·intro h
  have:wayQ (fun x y=>aH rows x y=true) rows.length a b/\b < rows.length:=by
   clear h1 hw hbl
   induction h with
   | refl=>exact ⟨ta _ _,ha⟩
   | step _ h2 ih=>exact ⟨jA _ _ _ _ ih.2 ih.1 (td h2.2 _),hb _ _ h2.1 h2.2⟩
  exact this.1
theorem EP {rows:List Nat} {p:Nat × Nat} {a b:Nat} (hp:p.1 < rows.length):aH (qD rows p) a b=(aH rows a b || (decide (a=p.1) && decide (b=p.2))):=by
 unfold qD;rw [qG hp];by_cases h:a=p.1
 ·subst h;rw [if_pos rfl,eY];simp only [decide_true,Bool.true_and];rw [show decide (p.2=b)=decide (b=p.2) from by simp only [eq_comm]];rfl
 ·rw [if_neg h];simp [h]
theorem te:∀ (l:List (Nat × Nat)) (rows:List Nat) (a b:Nat),(∀ p∈l,p.1 < rows.length)->(aH (l.foldl qD rows) a b=true↔aH rows a b=true∨(a,b)∈l)
 | [],_,_,_,_=>by simp
 | p :: l,rows,a,b,h=>by
  rw [List.foldl_cons,te l _ a b (fun q hq=>by rw [mJ];exact h q (by simp [hq])),EP (h p (by simp))];simp only [Bool.or_eq_true,Bool.and_eq_true,decide_eq_true_eq,List.mem_cons];constructor
  ·rintro ((h1 | ⟨rfl,rfl⟩) | h1)
   ·exact .inl h1
   ·exact .inr (.inl rfl)
   ·exact .inr (.inr h1)
  ·rintro (h1 | rfl | h1)
   ·exact .inl (.inl h1)
   ·exact .inl (.inr ⟨rfl,rfl⟩)
   ·exact .inr h1
theorem qI {n:Nat} {l:List (Nat × Nat)} (h:∀ p∈l,p.1 < n) (a b:Nat):aH (dQ n l) a b=true↔(a,b)∈l:=by
 unfold dQ;rw [te l _ a b (fun p hp=>by rw [List.length_replicate];exact h p hp)];constructor
 ·rintro (h1 | h1)
  ·unfold aH at h1;rw [List.getD_eq_getElem?_getD,List.getElem?_replicate] at h1;split at h1<;>simp at h1
  ·exact h1
 ·exact .inr
def hY (n:Nat) (l:List (Nat × Nat)) (a b:Nat):Bool:=aH (closeR (dQ n l) n) a b
def Cf (n:Nat) (l:List (Nat × Nat)):Prop:=∀ p∈l,p.1 < n/\p.2 < n
theorem mM {n:Nat} {l:List (Nat × Nat)} (h:Cf n l) {a b:Nat} (ha:a < n) (hb:b < n):hY n l a b=true↔vE (fun x y=>(x,y)∈l) a b:=by
 have hlen:(dQ n l).length=n:=iJ n l;unfold hY
 have:=zg (rows:=dQ n l) (fun a b _ EJ=>by
  rw [qI (fun p hp=>(h p hp).1)] at EJ
  rw [hlen];exact (h _ EJ).2) (a:=a) (b:=b) (by omega) (by omega)
 rw [hlen] at this;rw [this];constructor
 ·exact vE.mono fun x y yL=>.step (.refl _) ((qI (fun p hp=>(h p hp).1) x y).1 yL.2)
 ·exact vE.mono fun x y yL=>.step (.refl _) ⟨(h _ yL).1,(qI (fun p hp=>(h p hp).1) x y).2 yL⟩
theorem tf {n:Nat} {l:List (Nat × Nat)} (h:Cf n l) {a:Nat} (ha:a < n):hY n l a a=true:=(mM h ha ha).2 (.refl _)
theorem zh {n:Nat} {l:List (Nat × Nat)} (h:Cf n l) {a b c:Nat} (ha:a < n) (hb:b < n) (hc:c < n) (h1:hY n l a b=true) (h2:hY n l b c=true):hY n l a c=true:=
 (mM h ha hc).2 (((mM h ha hb).1 h1).trans ((mM h hb hc).1 h2))
def qJ (n:Nat) (f:Nat->Nat->Bool) (a:Nat):Bool:=(List.range n).any fun b=>decide (a≠b) && (f a b && f b a)
theorem EQ {n:Nat} {l:List (Nat × Nat)} (hn:n<=64) (h:Cf n l) {a:Nat} (ha:a < n):mK (closeR (dQ n l) n) a=qJ n (hY n l) a:=by
 have hlen:(closeR (dQ n l) n).length=n:=by rw [eE,iJ]
 unfold mK qJ;rw [EN,hlen,Bool.eq_iff_iff,decide_eq_true_eq]
 have haa:(backN (closeR (dQ n l) n) a n).testBit a=true:=by
  rw [nQ];have:aH (closeR (dQ n l) n) a a=true:=tf h ha;simp [ha,this]
 rw [wQ _ a haa 64 (by omega)];simp only [List.any_eq_true,List.mem_range,Bool.and_eq_true,decide_eq_true_eq,nQ];constructor
 ·rintro ⟨b,_,aQ,hb,h1,h2⟩;exact ⟨b,hb,fun e=>aQ e.symm,h1,h2⟩
 ·rintro ⟨b,hb,aQ,h1,h2⟩;exact ⟨b,by omega,fun e=>aQ e.symm,hb,h1,h2⟩
theorem uW {p q:Nat->Bool} {n:Nat} (h:∀ a,a < n->p a=q a):bi p n=bi q n:=by
 unfold bi
 have:∀ (l:List Nat),(∀ a∈l,p a=q a)->l.find? p=l.find? q:=by
  intro l
  induction l with
  | nil=>intro _;rfl
  | cons x r ih=>
   intro hl;rw [List.find?_cons,List.find?_cons,hl x (by simp),ih (fun a ha=>hl a (by simp [ha]))]
 exact this _ fun a ha=>h a (List.mem_range.1 ha)
theorem Hv {n:Nat} {l:List (Nat × Nat)} (hn:n<=64) (h:Cf n l):bi (mK (closeR (dQ n l) n)) n=bi (qJ n (hY n l)) n:=
 uW fun _ ha=>EQ hn h ha
theorem Cg {l:List Wd} {i:Nat} {x:Wd} (h:l[i]? = some x):az (l.take (i + 1))=az (l.take i) ++ [x.s]:=by
 rw [List.take_add_one,h];simp [az]
theorem AQ (l:List Wd) (s:ByteArray):cW l s=true↔s∈az l:=by
 simp only [cW,List.any_eq_true,decide_eq_true_eq,az,List.mem_map]
theorem jB {l:List Wd} {i:Nat} {x:Wd} (h:l[i]? = some x) (hn:(az (l.take i)).Nodup):(az (l.take (i + 1))).Nodup↔cW (l.take i) x.s=false:=by
 rw [Cg h,List.nodup_append];constructor
 ·rintro ⟨_,_,h3⟩;cases hb:cW (l.take i) x.s
  ·rfl
  ·exact absurd rfl (h3 x.s ((AQ _ _).1 hb) x.s (by simp))
 ·intro hb;refine ⟨hn,by simp,fun a ha b lT=>?_⟩;simp only [List.mem_singleton] at lT;subst lT;rintro rfl;rw [(AQ _ _).2 ha] at hb;cases hb
theorem tg {l:List Wd} {i:Nat} {x:Wd} (a:Int) (h:l[i]? = some x) (hn:(az (l.take i)).Nodup) :
  eW (az (l.take (i + 1))) x.s a=if aN l i x≠0 then (aN l i x,a) else (0,0):=by
 have hs:=jB h hn;unfold eW aN;by_cases h1:bK x.s=true
 ·rw [if_pos h1,if_pos h1];by_cases h2:cW (l.take i) x.s=true
  ·rw [if_pos h2,if_neg (fun hc=>by rw [hs.1 hc] at h2;cases h2)];all_goals rfl
  ·rw [if_neg h2,if_pos (hs.2 (by simpa using h2))];all_goals rfl
 ·rw [if_neg h1,if_neg h1];all_goals rfl
theorem jC {l:List Wd} {i:Nat} {x:Wd} (h:l[i]? = some x) (hn:(az (l.take i)).Nodup) (hz:aN l i x=0):(az (l.take (i + 1))).Nodup:=by
 refine (jB h hn).2 ?_;unfold aN at hz;by_cases h1:bK x.s=true
 ·rw [if_pos h1] at hz;by_cases h2:cW (l.take i) x.s=true
  ·rw [if_pos h2] at hz;simp at hz
  ·simpa using h2
 ·rw [if_neg h1] at hz;simp at hz
theorem ti (l:List Wd):∀ (d e:Nat),e + d=l.length->(enumP l e)=(0,0)->(az (l.take e)).Nodup->enumP l l.length=enumL l e (l.drop e)
 | 0,e,hd,hz,hn=>by
  have:e=l.length:=by omega
  subst this;rw [hz,List.drop_length];all_goals rfl
 | d + 1,e,hd,hz,hn=>by
  obtain ⟨x,hx⟩:∃ x,l[e]? = some x:=⟨_,gE (by omega)⟩;have h1:=qA (by rw [hz]) hx;rw [tg x.a hx hn] at h1;rw [drop_cons hx];simp only [enumL];by_cases hf:aN l e x≠0
  ·rw [if_pos hf] at h1 ⊢;have aZ:=lE (l:=l) (e:=e + 1) (by rw [h1];exact hf) d;rw [show e + 1 + d=l.length by omega] at aZ;rw [aZ,h1]
  ·rw [if_neg hf] at h1 ⊢;exact ti l d (e + 1) (by omega) h1 (jC hx hn (by simpa using hf))
theorem ER (h:Hd):j8 h=jv h:=by
 unfold j8 jv;by_cases h0:h.ae=[]
 ·rw [if_pos h0,if_pos (by simp [h0])]
 ·rw [if_neg h0,if_neg (by simpa using h0)];by_cases h1:64 < h.ae.length
  ·rw [if_pos h1,if_pos h1]
  ·rw [if_neg h1,if_neg h1];have:=ti h.ae h.ae.length 0 (by omega) rfl (by simp [az]);simpa using this
def ka (p:Ph):Ph:=⟨p.name,true,[],0,0,0,0,[]⟩
theorem Hw (p:Ph) (t:Ty):b9 p t (ka p) bS=(bW p eV && sameTy t bS):=by
 have e:bW p (ka p)=bW p eV:=rfl;unfold b9;rw [e];have e2:decide (p.name.s=(ka p).name.s)=true:=decide_eq_true rfl;rw [e2,Bool.true_and]
theorem empty_eq (p:Ph):b9 p bS eC bS=(decide (p.name.s=ap) && bW p eC):=by
 have e:sameTy bS bS=true:=by simp [bS,D3,sameTy,lC,samePts,sameWds]
 simp only [b9,e,Bool.and_true];rfl
def dc (L:List ByteArray) (s:ByteArray):Option Nat:=bi (fun i=>decide (L[i]? = some s)) L.length
theorem dR {L:List ByteArray} {s:ByteArray} {p:Nat} (h:dc L s=some p):p < L.length/\L[p]? = some s/\∀ j,L[j]? = some s->p<=j:=by
 obtain ⟨h1,h2,h3⟩:=eM h;refine ⟨h1,by simpa using h2,fun j hj=>?_⟩;rcases Nat.lt_or_ge j p with h4 | h4
 ·have:=h3 j h4;simp [hj] at this
 ·exact h4
theorem AR {L:List ByteArray} {s:ByteArray} {p:Nat} (h1:L[p]? = some s) (h2:∀ j,L[j]? = some s->p<=j):dc L s=some p:=by
 refine dg (gS h1).1 (by simpa using h1) fun a ha=>?_;simp only [decide_eq_false_iff_not];intro h3;have:=h2 a h3;omega
theorem Ch {L:List ByteArray} {s:ByteArray} (h:∀ j:Nat,L[j]? ≠ some s):dc L s=none:=dK fun a _=>by simpa using h a
theorem fv (L:List ByteArray) (aC:List Nat) (s:ByteArray) (hT:fg L aC) (hl:aC.length<=1099511627776) :
  ba Tryz.prog 93 [.pt (cm L aC) 0,.v (.string s)] (EO (dc L s)):=by
 by_cases hm:s∈L
 ·obtain ⟨j,hj⟩:=List.mem_iff_getElem?.1 hm;obtain ⟨q,p,hq,hp⟩:=hT.all j s hj;rw [AR hp fun j' eJ=>hT.fst q p j' s hq hp eJ];exact find_spec L aC s q p hT hl hq hp
 rw [Ch fun j hj=>hm (mG hj)]
 let pr:Nat->Prop:=fun i=>i=aC.length∨∃ p t,aC[i]? = some p/\L[p]? = some t/\rZ t s=false
 obtain ⟨m,iC,Gs⟩:=least (p:=pr) ⟨aC.length,.inl rfl⟩;have hmn:m<=aC.length:=Gs _ (.inl rfl);refine ev_go (P:=Tryz.prog) tt tt_ok 5000 47 [.tmp 4,.tmp 5] Tryz.func93 rfl Tryz.ntmps93 rfl (nL rfl) (fun E9 w9 hn9 hm9=>?_)
 have dZ:∀ i:Nat,i < aC.length->ba Tryz.prog 160 [.v (.int .i64 i),.pt [.pt (cm L aC) 0] 0,.pt [.v (.string s)] 0] (.v (.bool (decide (m<=i)))):=by
  intro i hi;obtain ⟨p',mh⟩:∃ p',aC[i]? = some p':=⟨_,gE hi⟩;obtain ⟨t,ht⟩:∃ t,L[p']? = some t:=⟨_,gE (hT.lt i p' mh)⟩;have:=qk L aC s i p' t mh ht
  have e:(!rZ t s)=decide (m<=i):=by
   by_cases h:m<=i
   ·have:rZ t s=false:=by
     rcases iC with iC | ⟨p,u,h1,h2,h3⟩
     ·omega
     ·rcases Nat.lt_or_eq_of_le h with h4 | h4
      ·have h5:=hT.QW m i p p' u t h4 h1 mh h2 ht;cases h6:rZ t s
       ·rfl
       ·have:=ep h5 h6;unfold rZ at h3;rw [this] at h3;cases h3
      ·subst h4;rw [h1] at mh;simp only [oI] at mh;subst mh;rw [h2] at ht;simp only [oI] at ht;subst ht;exact h3
    simp [this,h]
   ·have:rZ t s=true:=by
     cases h6:rZ t s
     ·exact absurd (Gs i (.inr ⟨p',t,mh,ht,h6⟩)) h
     ·rfl
    simp [this,h]
  rw [e] at this;exact this
 have hS:=oy 160 IW [.pt [.pt (cm L aC) 0] 0,.pt [.v (.string s)] 0] aC.length m hl hmn ax rfl dZ;refine nJ IV hS (by repeat' (first | exact rfl | exact trivial | exact Or.inr (Or.inl ⟨_,rfl⟩) | exact Or.inr ⟨_,rfl⟩ | exact Or.inl ⟨rfl,rfl⟩ | exact Or.inl rfl | refine Or.inr ⟨_,_,rfl,Nat.zero_le _,rfl,?_⟩ | refine ⟨_,_,rfl,?_,?_⟩ | refine ⟨_,rfl,?_⟩ | exact congrArg (fun z=>DV.v (.int .i64 z)) (congrArg Nat.cast (bG aC)) | refine Or.inr (Or.inr (Or.inr ⟨_,_,rfl,?_⟩)) | exact Or.inl rfl | refine Or.inr ?_)) rfl ?_;refine Av (fun _=>false) mo (by decide +kernel) ?_;refine br (fun h=>?_) (fun h=>?_)
 ·have au:m < aC.length:=by
   have:decide ((m:Int)=((dInts aC).length:Int))=false:=by simpa using h
   simp [bG] at this;omega
  rcases iC with iC | ⟨p,t,h1,h2,h3⟩
  ·omega
  refine ⟨_,⟨by omega,dO h1⟩,?_⟩;refine ⟨_,⟨by omega,dN h2⟩,?_⟩;refine br (fun h4=>?_) (fun h4=>?_)
  ·exact ⟨_,ax,rfl⟩
  ·exfalso
   have hts:t=s:=by
    simp [aA] at h4;exact h4
   exact hm (hts ▸ mG h2)
 ·exact ⟨_,ax,rfl⟩
def iL (l:List Wd) (o:List (Wd × Wd)):Ft:=
 if l=[] then (15,0)
 else if 32 < l.length then (8,((l[32]?).getD (⟨ap,0⟩:Wd)).a)
 else if 256 < o.length then (8,((o[256]?).getD ((⟨ap,0⟩,⟨ap,0⟩):Wd × Wd)).1.a)
 else (0,0)
theorem Ci (l:List Wd) (o:List (Wd × Wd)):ba Tryz.prog 94 [.sl 2 (bJ l) none,.sl 4 (oZ o) none] (iL l o).d:=by
 refine ev_go (P:=Tryz.prog) tt tt_ok 5000 30 [.cell 4 54] Tryz.func94 rfl Tryz.ntmps94 rfl (nL rfl) (fun E9 w9 hn9 hm9=>?_);refine br (fun h=>?_) (fun h=>?_)
 ·have h:l=[]:=by simpa [aG] using h
  refine ⟨_,?_,rfl⟩;rw [iL,if_pos h];exact ax
 have h:¬ l=[]:=by simpa [aG] using h
 refine br (fun h1=>?_) (fun h1=>?_)
 ·have h1:32 < l.length:=by simp [aG] at h1;omega
  obtain ⟨x,hx⟩:∃ x,l[32]? = some x:=⟨_,gE h1⟩;refine ⟨oY x,⟨by omega,cJ hx⟩,?_⟩;refine ⟨_,?_,rfl⟩;rw [iL,if_neg h,if_pos h1,hx];exact ax
 have h1:¬ 32 < l.length:=by simp [aG] at h1;omega
 refine br (fun h2=>?_) (fun h2=>?_)
 ·have h2:256 < o.length:=by simp [mF] at h2;omega
  obtain ⟨x,hx⟩:∃ x,o[256]? = some x:=⟨_,gE h2⟩;refine ⟨NO x,⟨by omega,wL hx⟩,?_⟩;refine ⟨_,?_,rfl⟩;rw [iL,if_neg h,if_neg h1,if_pos h2,hx];exact ax
 have h2:¬ 256 < o.length:=by simp [mF] at h2;omega
 refine ⟨_,?_,rfl⟩;rw [iL,if_neg h,if_neg h1,if_neg h2];exact ax
def NU (f:Ft) (L:List ByteArray):DV:=.dV [if f.1=0 then .sl 1 (dz L) none else .v (.slice none 0 0),f.d]
abbrev Jg (l:List Wd) (n e:Nat):St:=
 ⟨[(3,⟨[],.loc 0 0⟩),(4,⟨[],.sl 1 (dz (az (l.take e))) (some 0)⟩),(7,⟨[],.sl 2 (bJ l) none⟩),(8,⟨[],.v (.int .i64 (bJ l).length)⟩),(9,⟨[],.v (.int .i64 e)⟩)],[[.v (.int .i64 0),.v (.int .i64 0)]],[⟨n,9,1,none⟩]⟩
theorem qK {all:List Wd} {e:Nat} {w:Wd} (h:all[e]? = some w):enumL all e (all.drop e)=if aN all e w≠0 then (aN all e w,w.a) else enumL all (e + 1) (all.drop (e + 1)):=by
 rw [drop_cons h,enumL]
theorem wS (l:List Wd) (hs:wdsWt l<=1099511627776):ba Tryz.prog 95 [.sl 2 (bJ l) none] (NU (enumL l 0 l) (az l)):=by
 have vz:=cv l;refine ev_go (P:=Tryz.prog) tt tt_ok 5000 36 [.tmp 2,.cell 3 54] Tryz.func95 rfl Tryz.ntmps95 rfl (nL rfl) (fun E9 w9 hn9 hm9=>?_);refine bU (fun j st=>∃ e:Nat,st=Jg l e e/\e<=l.length/\(az (l.take e)).Nodup/\enumL l 0 l=enumL l e (l.drop e)/\j=l.length - e) l.length (Jg l 0 0) (j3 ⟨0,9,1,none⟩ rfl ⟨_,rfl⟩ rfl wA rfl rfl aX) ⟨0,rfl,by omega,by simp [az],rfl,by omega⟩ ?_;rintro j st ⟨e,rfl,he,hnd,bm,rfl⟩;rw [bm];refine br (fun hL=>?_) (fun hL=>?_)
 ·have au:e < l.length:=by simpa [aG] using hL
  obtain ⟨w,hw⟩:∃ w,l[e]? = some w:=⟨_,gE au⟩;have Rb:=kG (mG hw);have eQ:=iI hw;have aZ:=qK hw;have vB:=jB hw hnd;have LZ:=lB (az (l.take (e + 1))) (by simp [az];omega);rw [<- eQ] at LZ;refine ⟨oY w,⟨by omega,cJ hw⟩,?_⟩;refine ⟨by simp [bg,az];omega,⟨by simp [bg,az,maxLen];omega,by simp [bg,az];omega⟩,?_⟩;refine call_p wj (gQ w.s (by omega)) ax rfl ?_;refine br (fun hN=>?_) (fun hN=>?_)
  ·have hN:bK w.s=false:=by simpa using hN
   have hf:aN l e w=9:=by simp [aN,hN]
   rw [aZ,hf,if_pos (by decide)];refine G7 mo (by decide +kernel) ?_;exact ⟨_,ax,rfl⟩
  ·have hN:bK w.s=true:=by simpa using hN
   refine im DT rfl LZ ax (fun r hr=>?_);obtain ⟨z,rfl,hz⟩:=hr;refine br (fun h2=>?_) (fun h2=>?_)
   ·have h2:0<=z:=by simpa using h2
    have hd:cW (l.take e) w.s=true:=by
     cases hd:cW (l.take e) w.s
     ·exact absurd (vB.2 hd) (hz.1 h2)
     ·rfl
    have hf:aN l e w=10:=by simp [aN,hN,hd]
    rw [aZ,hf,if_pos (by decide)];refine G7 mo (by decide +kernel) ?_;exact ⟨_,ax,rfl⟩
   ·have h2:¬ 0<=z:=by simpa using h2
    have qf:(az (l.take (e + 1))).Nodup:=Classical.byContradiction fun hn=>h2 (hz.2 hn);have hf:aN l e w=0:=by simp [aN,hN,vB.1 qf]
    rw [hf,if_neg (by simp)] at aZ;refine ⟨Jg l (e + 1) (e + 1),(aq ⟨_,rfl⟩ wA rfl rfl rfl (aj au eQ)),l.length - (e + 1),by omega,e + 1,rfl,by omega,qf,aZ,rfl⟩
 ·have bI:e=l.length:=by
   have:=hL;simp [aG] at this;omega
  have h0:enumL l e (l.drop e)=(0,0):=by rw [bI,List.drop_length];all_goals rfl
  rw [h0];have ht:l.take e=l:=by rw [bI,List.take_length]
  rw [ht];exact ⟨_,ax,rfl⟩
def numF (L:List ByteArray):List (Wd × Wd)->Ft
 | []=>(0,0)
 | p :: r=>if dc L p.1.s=none then (17,p.1.a) else if dc L p.2.s=none then (17,p.2.a) else numF L r
def KQ (L:List ByteArray) (p:Wd × Wd):Nat × Nat:=((dc L p.1.s).getD 0,(dc L p.2.s).getD 0)
def fw (L:List ByteArray) (o:List (Wd × Wd)):List (Nat × Nat):=o.map (KQ L)
def NV (f:Ft) (l:List (Nat × Nat)):DV:=.dV [if f.1=0 then .sl 2 (o0 l) none else .v (.slice none 0 0),f.d]
theorem Cj {L:List ByteArray} {o:List (Wd × Wd)} {e a b:Nat} {x:Wd × Wd} (h:o[e]? = some x) (ha:dc L x.1.s=some a) (hb:dc L x.2.s=some b):o0 (fw L (o.take e)) ++ [[DV.v (.int .i64 (a:Int)),DV.v (.int .i64 (b:Int))]]=o0 (fw L (o.take (e + 1))):=by
 rw [List.take_add_one,h];simp [o0,fw,KQ,ha,hb,Rc]
abbrev Jh (L:List ByteArray) (aC:List Nat) (o:List (Wd × Wd)) (n e:Nat):St:=
 ⟨[(0,⟨[],.pt (cm L aC) 0⟩),(5,⟨[],.loc 0 0⟩),(6,⟨[],.sl 2 (o0 (fw L (o.take e))) (some 0)⟩),(12,⟨[],.sl 4 (oZ o) none⟩),(13,⟨[],.v (.int .i64 (oZ o).length)⟩),(14,⟨[],.v (.int .i64 e)⟩)],[[.v (.int .i64 0),.v (.int .i64 0)]],[⟨n,257,2,none⟩]⟩
theorem r6 (L:List ByteArray) (aC:List Nat) (hT:fg L aC) (hl:aC.length<=1099511627776) (o:List (Wd × Wd)) (hs:prsWt o<=1099511627776) :
  ba Tryz.prog 97 [.pt (cm L aC) 0,.sl 4 (oZ o) none] (NV (numF L o) (fw L o)):=by
 have vz:=kL o;refine ev_go (P:=Tryz.prog) tt tt_ok 5000 55 [.tmp 4,.cell 5 54] Tryz.func97 rfl Tryz.ntmps97 rfl (nL rfl) (fun E9 w9 hn9 hm9=>?_);refine bU (fun j st=>∃ e:Nat,st=Jh L aC o e e/\e<=o.length/\numF L o=numF L (o.drop e)/\j=o.length - e) o.length (Jh L aC o 0 0) (j3 ⟨0,257,2,none⟩ rfl ⟨_,rfl⟩ rfl wA rfl rfl aX) ⟨0,rfl,by omega,rfl,by omega⟩ ?_;rintro j st ⟨e,rfl,he,bm,rfl⟩;rw [bm];refine br (fun hL=>?_) (fun hL=>?_)
 ·have au:e < o.length:=by simpa [mF] using hL
  obtain ⟨w,hw⟩:∃ w,o[e]? = some w:=⟨_,gE au⟩;have aZ:numF L (o.drop e)=if dc L w.1.s=none then (17,w.1.a) else if dc L w.2.s=none then (17,w.2.a) else numF L (o.drop (e + 1)):=by rw [drop_cons hw,numF]
  have s7:=fv L aC w.1.s hT hl;have lU:=fv L aC w.2.s hT hl;refine ⟨NO w,⟨by omega,wL hw⟩,?_⟩
  cases ha:dc L w.1.s with
  | none=>
   rw [ha] at s7;refine call_p qi (s7) ax rfl ?_;rw [aZ,if_pos ha];refine G7 mo (by decide +kernel) ?_;exact ⟨_,ax,rfl⟩
  | some a=>
   rw [ha] at s7;refine call_p qi (s7) ax rfl ?_
   cases hb:dc L w.2.s with
   | none=>
    rw [hb] at lU;refine call_p qi (lU) ax rfl ?_;rw [aZ,if_neg (by rw [ha];simp),if_pos hb];refine G7 mo (by decide +kernel) ?_;exact ⟨_,ax,rfl⟩
   | some b=>
    rw [hb] at lU;refine call_p qi (lU) ax rfl ?_;rw [if_neg (by rw [ha];simp),if_neg (by rw [hb];simp)] at aZ;refine ⟨by simp [j9,fw];omega,⟨by simp [j9,fw,maxLen];omega,by simp [j9,fw];omega⟩,?_⟩;refine ⟨Jh L aC o (e + 1) (e + 1),(aq ⟨_,rfl⟩ wA rfl rfl rfl (by repeat' (first | exact trivial | exact aw rfl | exact ay (bA au (by omega)) | exact dG (Cj hw ha hb) rfl | refine ⟨⟨_,rfl,?_⟩,?_⟩))),o.length - (e + 1),by omega,e + 1,rfl,by omega,aZ,rfl⟩
 ·have bI:e=o.length:=by
   have:=hL;simp [mF] at this;omega
  have h0:numF L (o.drop e)=(0,0):=by rw [bI,List.drop_length];all_goals rfl
  rw [h0];have ht:o.take e=o:=by rw [bI,List.take_length]
  rw [ht];exact ⟨_,ax,rfl⟩
end Go.Proofs.YtfifjddnnmfeoaaGreat
namespace Go.Proofs.YtfifjddnnmfeoaaGreat
namespace Dv
open Go Go.RowKit
section
variable {X:Ctx} {st:St} {k:List It} {E:En} {a:Act} {w:World}
def Wk (X:Ctx) (st aP:St):Prop:=∀ E a w,Rel X E st a w->∃ E',Rel X E' aP a w
theorem Wk.refl (X:Ctx) (st:St):Wk X st st:=fun E _ _ h=>⟨E,h⟩
theorem Wk.trans {X:Ctx} {s1 s2 s3:St} (h1:Wk X s1 s2) (h2:Wk X s2 s3):Wk X s1 s3:=fun _ _ _ h=>by
 obtain ⟨E1,h3⟩:=h1 _ _ _ h;exact h2 _ _ _ h3
theorem Wk.KR {X:Ctx} {s1 s2:St} (h:nB X.n0 X.m0 s1 s2):Wk X s1 s2:=fun _ _ _ hr=>p8 hr h
theorem Ck {f:FuncId} {args aT:List DV} {os:List (List DV)} (n1 m1:Nat) (yt:Nat.ble n1 st.bx.length=true) (iC:Nat.ble m1 st.tk.length=true)
  (rW:jW [] n1 n1 m1 os (st.bx.take n1)) (ha:CcL [] n1 n1 m1 aT args)
  {Φ:DV->List (List DV)->List TkE->Prop} (hc:Qj false X.P f aT os (st.tk.take m1) X.bt Φ) (aZ:X.still=false) {vs:List Value} (h:Rel X E st a w) (hv:RvL E args vs) :
  Calls X.P f vs.toArray w fun e w'=>∃ v r gT bX E',e = .returned v/\Φ r gT bX /\ gT.length=n1/\bX.length=m1/\Rel X E' ⟨st.sl,gT ++ st.bx.drop n1,bX ++ st.tk.drop m1⟩ a w' /\ Rv E' r v/\Ext E E' /\ E'.β=E.β /\
   ∀ (i:Nat) b,n1<=i->E.β[i]? = some b->w'.heap[b]? = w.heap[b]?:=by
 have yt:=nL yt;have iC:=nL iC;have hlen:=h.env.len;have nN:=h.env.tl;have oo:=h.tk;have htkl:E.tk.length=st.tk.length:=by rw [oo]
 let E1:En:=⟨E.c,E.β.take n1,E.tk.take m1,E.τ.take m1⟩
 have hfz:C7 E E1 [] n1:=⟨fun _ _ h=>h,fun i cs _ hi=>by simp at hi⟩
 have rX:Ar E E1 n1 m1:={
  β:=fun i b hi hb=>by show (E.β.take n1)[i]? = _;rw [List.getElem?_take,if_pos hi];exact hb
  tk:=fun k hk=>⟨by show (E.tk.take m1)[k]? = _;rw [List.getElem?_take,if_pos hk],by show (E.τ.take m1)[k]? = _;rw [List.getElem?_take,if_pos hk]⟩ }
 obtain ⟨gk,Mq⟩:=rW.get;have Rh:os.length=n1:=by rw [gk,List.length_take];omega
 have NW:∀ (j:Nat) y,(E.τ.take m1)[j]? = some y->j < m1/\E.τ[j]? = some y:=fun j y hy=>by
  rw [List.getElem?_take] at hy;split at hy
  ·rename_i hj;exact ⟨hj,hy⟩
  ·cases hy
 have hkg:∀ (j:Nat) q,(E.tk.take m1)[j]? = some q->j < m1/\E.tk[j]? = some q:=fun j y hy=>by
  rw [List.getElem?_take] at hy;split at hy
  ·rename_i hj;exact ⟨hj,hy⟩
  ·cases hy
 have Qx:Env E1 os w:={
  len:=by show (E.β.take n1).length=_;rw [List.length_take,Rh];omega
  tl:=by show (E.τ.take m1).length=(E.tk.take m1).length;rw [List.length_take,List.length_take,nN]
  dB:=fun i cs' hi=>by
   obtain ⟨cs,cA,uA⟩:=Mq i cs' hi;rw [List.getElem?_take] at cA;split at cA
   ·rename_i au;obtain ⟨b,ty,arr,hb,hw,hc⟩:=h.env.dB i cs cA;exact ⟨b,ty,arr,rX.β i b au hb,hw,CcL.sound hfz rX uA hc.1,hc.2⟩
   ·cases cA
  inj:=h.env.inj.sublist (List.take_sublist _ _)
  sub:=h.env.sub
  pc:=fun x v hx hm=>h.env.pc x v hx (List.mem_of_mem_take hm)
  bD:=fun j q y hq hy=>by
   obtain ⟨_,hq⟩:=hkg j q hq;obtain ⟨_,hy⟩:=NW j y hy;rcases h.env.bD j q y hq hy with h1 | ⟨g,cap,cur,rfl,h1,h2,h3,h4,h5,h6⟩
   ·exact .inl h1
   ·exact .inr ⟨g,cap,cur,rfl,h1,h2,h3,h4,fun hm=>h5 (List.mem_of_mem_take hm),h6⟩
  fY:=fun j j' y y' g Al hy dW=>h.env.fY j j' y y' g Al (NW j y hy).2 (NW j' y' dW).2 }
 refine (hc E1 w _ Qx (by show E.tk.take m1=_;rw [oo]) (h.bt.sub n1) (CcL.sound hfz rX ha hv)).mono ?_;rintro e w' ⟨v,rfl,⟨hm,_,r,gT,E2,he,hβ,uX,hn,G2,hΦ⟩,Ri⟩;have uX:E2.tk.length=E1.tk.length:=uX;have Rj:E1.tk.length=m1:=by show (E.tk.take m1).length=_;rw [List.length_take];omega
 have hE1τ:E1.τ.length=m1:=by show (E.τ.take m1).length=_;rw [List.length_take];omega
 have Rm:E1.β.length=n1:=by show (E.β.take n1).length=_;rw [List.length_take];omega
 rw [Rj] at uX;have Pf:E2.τ.length=m1:=by rw [he.tl,uX]
 have ES:gT.length=n1:=by rw [<- he.len,hβ,Rm]
 have hS:∀ j,E1.S j->j∈E.β.take n1∨∃ i y,i < m1/\E.τ[i]? = some y/\y.ownBlock=some j:=fun j hj=>by
  rcases hj with h1 | ⟨y,h1,h2⟩
  ·exact .inl h1
  ·obtain ⟨i,hi,he⟩:=List.getElem_of_mem h1;have eP:E1.τ[i]? = some y:=by rw [gE hi,he]
   obtain ⟨h3,h4⟩:=NW i y eP;exact .inr ⟨i,y,h3,h4,h2⟩
 have hh:∀ j,j < w.heap.size->¬ E1.S j->w'.heap[j]? = w.heap[j]?:=fun j hj aQ=>hm.block j hj aQ;have ey:∀ (i:Nat) y g,E.τ[i]? = some y->y.ownBlock=some g->g < w.heap.size/\g ∉ E.β:=fun i y g hy hg=>h.env.own (mG hy) hg
 have c9:∀ x v,E2.c x=some v->E.c x=some v∨w.heap.size<=x.block∨∃ i y,i < m1/\E.τ[i]? = some y/\y.ownBlock=some x.block:=fun x v hx=>by
  rcases hn.cn x v hx with h1 | h1 | ⟨y,h1,h2⟩
  ·exact .inl h1
  ·exact .inr (.inl h1)
  ·obtain ⟨i,hi,he⟩:=List.getElem_of_mem h1;have eP:E1.τ[i]? = some y:=by rw [gE hi,he]
   obtain ⟨h3,h4⟩:=NW i y eP;exact .inr (.inr ⟨i,y,h3,h4,h2⟩)
 have pV:∀ (j:Nat) q,j < m1->E.tk[j]? = some q->∃ y q' y',E.τ[j]? = some y/\E2.tk[j]? = some q' /\ E2.τ[j]? = some y' /\ q.ty=q'.ty/\q.e=q'.e/\((q'.n=q.n/\y'=y)∨q.n < q'.n)/\(y'.ownBlock=y.ownBlock∨∀ g,y'.ownBlock=some g->w.heap.size<=g):=fun j q hj hq=>by
  have rR:j < E.τ.length:=by rw [nN];omega
  obtain ⟨q',y',h1,h2,h3⟩:=hn.tk j q E.τ[j] (by show (E.tk.take m1)[j]? = _;rw [List.getElem?_take,if_pos hj];exact hq) (by show (E.τ.take m1)[j]? = _;rw [List.getElem?_take,if_pos hj,gE rR]);exact ⟨_,q',y',gE rR,h1,h2,h3⟩
 have AS:∀ (j:Nat) y',j < m1->E2.τ[j]? = some y' -> ∃ y,E.τ[j]? = some y/\(y'.ownBlock=y.ownBlock∨∀ g,y'.ownBlock=some g->w.heap.size<=g):=fun j y' hj hy=>by
  have rR:j < E.tk.length:=by omega
  obtain ⟨y,q1,y1,h1,_,h3,_,_,_,h7⟩:=pV j _ hj (gE rR);rw [hy] at h3;simp only [oI] at h3;subst h3;exact ⟨y,h1,h7⟩
 let E':En:=⟨E2.c,E.β,E2.tk ++ E.tk.drop m1,E2.τ ++ E.τ.drop m1⟩
 have eT:∀ (j:Nat),m1<=j->E'.tk[j]? = E.tk[j]?:=fun j hj=>by
  show (E2.tk ++ E.tk.drop m1)[j]? = _;rw [List.getElem?_append_right (by omega),List.getElem?_drop,uX];congr 1;omega
 have KS:∀ (j:Nat),m1<=j->E'.τ[j]? = E.τ[j]?:=fun j hj=>by
  show (E2.τ ++ E.τ.drop m1)[j]? = _;rw [List.getElem?_append_right (by omega),List.getElem?_drop,Pf];congr 1;omega
 have DP:∀ (j:Nat),j < m1->E'.tk[j]? = E2.tk[j]?:=fun j hj=>by
  show (E2.tk ++ E.tk.drop m1)[j]? = _;rw [List.getElem?_append_left (by omega)]
 have Gv:∀ (j:Nat),j < m1->E'.τ[j]? = E2.τ[j]?:=fun j hj=>by
  show (E2.τ ++ E.τ.drop m1)[j]? = _;rw [List.getElem?_append_left (by omega)]
 have hx:Ext E E':=⟨hn.c,fun _ _ h=>h,fun j q hq=>by
  rcases Nat.lt_or_ge j m1 with hj | hj
  ·obtain ⟨y,q',y',h1,h2,h3,_,_,h6,_⟩:=pV j q hj hq;refine ⟨q',by rw [DP j hj];exact h2,?_⟩;rcases h6 with ⟨h6,rfl⟩ | h6
   ·exact .inl ⟨h6,by rw [Gv j hj,h3,h1]⟩
   ·exact .inr h6
  ·exact ⟨q,by rw [eT j hj];exact hq,.inl ⟨rfl,KS j hj⟩⟩⟩
 have Gy:Ext E2 E':={
  c:=fun _ _ h=>h
  β:=fun j b hj=>by
   rw [hβ] at hj;have hj:(E.β.take n1)[j]? = some b:=hj;rw [List.getElem?_take] at hj;split at hj
   ·exact hj
   ·cases hj
  tk:=fun j q hq=>by
   have hj:j < m1:=by have:=(gS hq).1;omega
   exact ⟨q,by rw [DP j hj];exact hq,.inl ⟨rfl,Gv j hj⟩⟩ }
 have Ji:∀ (i:Nat) b,n1<=i->E.β[i]? = some b->w'.heap[b]? = w.heap[b]?:=fun i b hi hb=>by
  refine hh b (h.env.aM (mG hb)) fun hs=>?_;rcases hS b hs with h1 | ⟨i',y,_,h2,h3⟩
  ·obtain ⟨i',eP,BJ⟩:=List.getElem_of_mem h1;have h4:(E.β.take n1)[i']? = some b:=by rw [gE eP,BJ]
   rw [List.getElem?_take] at h4;split at h4
   ·rename_i au;have:=(List.getElem?_inj (gS hb).1 h.env.inj).1 (hb.trans h4.symm);omega
   ·cases h4
  ·exact (ey i' y b h2 h3).2 (mG hb)
 have Ro:kW X.bt E.β w':=fun p hp b hb=>by
  rcases Nat.lt_or_ge p.1 n1 with au | bI
  ·exact Ri p hp b (by show (E.β.take n1)[p.1]? = _;rw [List.getElem?_take,if_pos au];exact hb)
  ·obtain ⟨cs,cA⟩:=h.bt p hp b hb;exact ⟨cs,by rw [Ji p.1 b bI hb];exact cA⟩
 have bq:Rel X E' ⟨st.sl,gT ++ st.bx.drop n1,E2.tk ++ st.tk.drop m1⟩ a w':=by
  refine ch h hx ?_ (by show E2.tk ++ E.tk.drop m1=_;rw [oo]) ?_ (h.fr.bP hm.os hm.tape hm.output hm.size fun j hj=>?_) (kX aZ) Ro
  ·exact {
    len:=by show E.β.length=_;rw [List.length_append,List.length_drop,ES,hlen];omega
    tl:=by show (E2.τ ++ E.τ.drop m1).length=(E2.tk ++ E.tk.drop m1).length;simp only [List.length_append,List.length_drop,Pf,uX,nN]
    dB:=fun i ML hi=>by
     rcases Nat.lt_or_ge i n1 with Ee | Ee
     ·rw [List.getElem?_append_left (by omega)] at hi;obtain ⟨b2,QA,Kt,lT,hw2,jY⟩:=he.dB i ML hi;exact ⟨b2,QA,Kt,Gy.β i b2 lT,hw2,jY.mono Gy⟩
     ·rw [List.getElem?_append_right (by omega),List.getElem?_drop,ES] at hi;rw [show n1 + (i - n1)=i by omega] at hi;obtain ⟨bj,QB,Ku,IJ,MM,Dt⟩:=h.env.dB i ML hi;refine ⟨bj,QB,Ku,IJ,(hh bj (bZ MM) ?_).trans MM,Dt.mono hx⟩;intro hs;rcases hS bj hs with h1 | ⟨i',y,_,h2,h3⟩
      ·obtain ⟨i',eP,BJ⟩:=List.getElem_of_mem h1;have h4:(E.β.take n1)[i']? = some bj:=by rw [gE eP,BJ]
       rw [List.getElem?_take] at h4;split at h4
       ·rename_i au;have:=(List.getElem?_inj (gS IJ).1 h.env.inj).1 (IJ.trans h4.symm);omega
       ·cases h4
      ·exact (ey i' y bj h2 h3).2 (mG IJ)
    inj:=h.env.inj
    sub:=he.sub
    pc:=fun x v hc jS=>by
     rcases c9 x v hc with h1 | h1 | ⟨i,y,_,h2,h3⟩
     ·exact h.env.pc x v h1 jS
     ·have:=h.env.aM jS;omega
     ·exact (ey i y _ h2 h3).2 jS
    bD:=fun j q y hq hy=>by
     rcases Nat.lt_or_ge j m1 with hj | hj
     ·rw [DP j hj] at hq;rw [Gv j hj] at hy;rcases he.bD j q y hq hy with h1 | ⟨g,cap,cur,rfl,h1,h2,h3,h4,h5,h6⟩
      ·exact .inl h1
      ·refine .inr ⟨g,cap,cur,rfl,h1,h2,h3,h4,fun jS=>?_,h6⟩;obtain ⟨y0,h7,h8⟩:=AS j _ hj hy;rcases h8 with h8 | h8
       ·exact (ey j y0 g h7 (by rw [<- h8];rfl)).2 jS
       ·have:=h8 g rfl;have:=h.env.aM jS;omega
     ·rw [eT j hj] at hq;rw [KS j hj] at hy;rcases h.env.bD j q y hq hy with h1 | ⟨g,cap,cur,rfl,h1,h2,h3,h4,h5,h6⟩
      ·exact .inl h1
      ·have aQ:∀ i y',i < m1->E.τ[i]? = some y' -> y'.ownBlock≠some g:=fun i y' hi dW=>h.env.fY j i _ y' g (by omega) hy dW rfl
       have vB:¬ E1.S g:=fun hs=>by
        rcases hS g hs with h7 | ⟨i,y',h7,h8,h9⟩
        ·exact h5 (List.mem_of_mem_take h7)
        ·exact aQ i y' h7 h8 h9
       refine .inr ⟨g,cap,cur,rfl,by rw [hh g (bZ h1) vB];exact h1,⟨h2.1,h2.2.mono hn.c⟩,h3,h4,h5,fun x v hc hg=>?_⟩
       ·rcases c9 x v hc with h7 | h7 | ⟨i,y',h7,h8,h9⟩
        ·exact h6 x v h7 hg
        ·have:=bZ h1;omega
        ·exact (aQ i y' h7 h8 (by rw [h9,hg])).elim
    fY:=fun j j' y y' g Al hy dW hg ph=>by
     rcases Nat.lt_or_ge j m1 with hj | hj
     ·rw [Gv j hj] at hy;obtain ⟨y0,h7,h8⟩:=AS j _ hj hy;rcases Nat.lt_or_ge j' m1 with eJ | eJ
      ·rw [Gv j' eJ] at dW;exact he.fY j j' y y' g Al hy dW hg ph
      ·rw [KS j' eJ] at dW;rcases h8 with h8 | h8
       ·exact h.env.fY j j' y0 y' g Al h7 dW (by rw [<- h8];exact hg) ph
       ·have:=h8 g hg;have:=(ey j' y' g dW ph).1;omega
     ·rw [KS j hj] at hy;rcases Nat.lt_or_ge j' m1 with eJ | eJ
      ·rw [Gv j' eJ] at dW;obtain ⟨y0,h7,h8⟩:=AS j' _ eJ dW;rcases h8 with h8 | h8
       ·exact h.env.fY j j' y y0 g Al hy h7 hg (by rw [<- h8];exact ph)
       ·have:=h8 g ph;have:=(ey j y g hy hg).1;omega
      ·rw [KS j' eJ] at dW
       exact h.env.fY j j' y y' g Al hy dW hg ph }
  ·exact {
    c:=fun x v hc=>hn.c x v (h.nw.c x v hc)
    cn:=fun x v hc=>by
     rcases c9 x v hc with h1 | h1 | ⟨i,y,_,h2,h3⟩
     ·exact h.nw.cn x v h1
     ·have:=h.fr.size;exact .inr (.inl (by omega))
     ·rcases h.nw.own h2 h3 with h4 | h4
      ·exact .inr (.inr h4)
      ·exact .inr (.inl h4)
    β:=h.nw.β
    tk:=fun j q0 y0 uv pP=>by
     obtain ⟨q1,y1,h1,h2,h3,h4,h5,h6⟩:=h.nw.tk j q0 y0 uv pP;rcases Nat.lt_or_ge j m1 with hj | hj
     ·obtain ⟨y,q',y',g1,g2,g3,g4,g5,g6,g7⟩:=pV j q1 hj h1;rw [h2] at g1;simp only [oI] at g1;subst g1;refine ⟨q',y',by rw [DP j hj];exact g2,by rw [Gv j hj];exact g3,h3.trans g4,h4.trans g5,?_,?_⟩
      ·rcases g6 with ⟨g6,rfl⟩ | g6
       ·rcases h5 with ⟨h5,rfl⟩ | h5
        ·exact .inl ⟨by omega,rfl⟩
        ·exact .inr (by omega)
       ·rcases h5 with ⟨h5,_⟩ | h5
        ·exact .inr (by omega)
        ·exact .inr (by omega)
      ·rcases g7 with g7 | g7
       ·rcases h6 with h6 | h6
        ·exact .inl (g7.trans h6)
        ·exact .inr fun g hg=>h6 g (by rw [<- g7];exact hg)
       ·refine .inr fun g hg=>?_;have:=g7 g hg;have:=h.fr.size;omega
     ·exact ⟨q1,y1,by rw [eT j hj];exact h1,by rw [KS j hj];exact h2,h3,h4,h5,h6⟩
    tn:=fun j y g vy hy hg=>by
     rcases Nat.lt_or_ge j m1 with hj | hj
     ·rw [Gv j hj] at hy;obtain ⟨y0,h7,h8⟩:=AS j _ hj hy;rcases h8 with h8 | h8
      ·exact h.nw.tn j y0 g vy h7 (by rw [<- h8];exact hg)
      ·have:=h8 g hg;have:=h.fr.size;omega
     ·rw [KS j hj] at hy;exact h.nw.tn j y g vy hy hg
    l0:=h.nw.l0 }
  ·by_cases Tp:E1.S j
   ·left;rcases hS j Tp with h1 | ⟨i,y,_,h2,h3⟩
    ·have uJ:=List.mem_of_mem_take h1;obtain ⟨r0,hr0,Da⟩:=h.nw.β;rw [hr0] at uJ;rcases List.mem_append.1 uJ with uJ | uJ
     ·exact .inl (.inl uJ)
     ·exact .inr (Da j uJ)
    ·rcases h.nw.own h2 h3 with h4 | h4
     ·exact .inl (.inr h4)
     ·exact .inr h4
   ·exact .inr (hh j hj Tp)
 exact ⟨v,r,gT,E2.tk,E',rfl,hΦ,ES,uX,bq,Rv.mono Gy G2,hx,rfl,Ji⟩
theorem wT {f:FuncId} {args aT:List DV} {os:List (List DV)} (n1 m1:Nat) (yt:Nat.ble n1 st.bx.length=true) (iC:Nat.ble m1 st.tk.length=true)
  (rW:jW [] n1 n1 m1 os (st.bx.take n1)) (ha:CcL [] n1 n1 m1 aT args)
  {Φ:DV->List (List DV)->List TkE->Prop} (hc:Ev X.P f aT os (st.tk.take m1) Φ) (aZ:X.still=false) (hX:X.bt=[]) {vs:List Value} (h:Rel X E st a w) (hv:RvL E args vs) :
  Calls X.P f vs.toArray w fun e w'=>∃ v r gT bX E',e = .returned v/\Φ r gT bX /\ gT.length=n1/\bX.length=m1/\Rel X E' ⟨st.sl,gT ++ st.bx.drop n1,bX ++ st.tk.drop m1⟩ a w' /\ Rv E' r v/\Ext E E' /\ E'.β=E.β /\
   ∀ (i:Nat) b,n1<=i->E.β[i]? = some b->w'.heap[b]? = w.heap[b]?:=
 Ck n1 m1 (by exact yt) (by exact iC) rW ha (hc.Ms hX) aZ h hv
theorem ET {f:FuncId} {args aT:List DV} {os:List (List DV)} {d:Nat} (n1 m1:Nat) (jh:Enters X.P f) (hd:eN X.nt st.sl (some d)=true) (yt:Nat.ble n1 st.bx.length=true) (iC:Nat.ble m1 st.tk.length=true)
  (rW:jW [] n1 n1 m1 os (st.bx.take n1)) (ha:CcL [] n1 n1 m1 aT args)
  {Φ:DV->List (List DV)->List TkE->Prop} (hc:Ev X.P f aT os (st.tk.take m1) Φ)
  (hk:∀ r gT bX,Φ r gT bX -> gT.length=n1->bX.length=m1->∃ aP,Wk X ⟨(d,⟨[],r⟩) :: st.sl,gT ++ st.bx.drop n1,bX ++ st.tk.drop m1⟩ aP /\ go X 4000 k aP) (aZ:X.still=false:=by exact rfl) (hX:X.bt=[]:=by exact rfl):eS X f args (some d) k st:=by
 refine ⟨jh,aZ,fun E a w vs h hv=>(wT n1 m1 yt iC rW ha hc aZ hX h hv).mono ?_⟩;rintro e w' ⟨v,r,gT,bX,E',rfl,hΦ,ES,uX,bq,I7,_,_,_⟩;obtain ⟨aP,Mv,j2⟩:=hk r gT bX hΦ ES uX;obtain ⟨E3,hr3⟩:=Mv _ _ _ (aW bq hd r v I7);exact go_sound 4000 _ _ j2 E3 _ w' hr3
theorem gn {f:FuncId} {args aT:List DV} {os:List (List DV)} {d:Nat} (n1 m1:Nat) (jh:Enters X.P f) (hd:eN X.nt st.sl (some d)=true) (yt:Nat.ble n1 st.bx.length=true) (iC:Nat.ble m1 st.tk.length=true)
  (rW:jW [] n1 n1 m1 os (st.bx.take n1)) (ha:CcL [] n1 n1 m1 aT args)
  {Φ:DV->List (List DV)->List TkE->Prop} (hc:Ev X.P f aT os (st.tk.take m1) Φ)
  (hk:∀ r gT bX,Φ r gT bX -> gT.length=n1->bX.length=m1->go X 4000 k ⟨(d,⟨[],r⟩) :: st.sl,gT ++ st.bx.drop n1,bX ++ st.tk.drop m1⟩) (aZ:X.still=false:=by exact rfl) (hX:X.bt=[]:=by exact rfl):eS X f args (some d) k st:=
 ET n1 m1 jh hd yt iC rW ha hc (fun r gT bX h1 h2 h3=>⟨_,Wk.refl _ _,hk r gT bX h1 h2 h3⟩) aZ hX
theorem Cm {all:Array Oper} {o1 o2 o3:Oper} {r:List Oper} {d1 d2 kt t sT f off ft ty et e hZ m Jj nn:Nat} {bb:Bool} {zz:List Value} {z:Int} {kd:IntKind} {es:List (List DV)} {cs:List DV} {s ix x:Operand} {dv NX:DV}
  (h1:o1.op = .indexAddr t s ix/\o1.dst=some d1) (h2:o2.op = .fieldAddr sT (.tmp d1) f/\o2.dst=some d2/\o2.guard=none) (h3:o3.op = .store ty (.tmp d2) x/\o3.dst=none/\o3.guard=none)
  (GA:eN X.nt st.sl (some d1)=true) (yH:eN X.nt ((d1,⟨[],.pt [] 0⟩) :: st.sl) (some d2)=true)
  (hs:rv st [] s=some (.sl 0 es (some kt))) (hi:rv st [] ix=some (.v (.int kd z))) (hx:rv ⟨(d2,⟨[],.pt [] 0⟩) :: (d1,⟨[],.pt [] 0⟩) :: st.sl,st.bx,st.tk⟩ [] x=some dv) (hdv:eraD dv=some NX) (Tq:dv.cells=[dv])
  (hT:X.T.find t=some ⟨nn,bb,.sl et e hZ,zz⟩) (uw:X.T.off sT f=some (off,ft)) (cg:X.T.sz ty=some 1)
  (hq:st.tk[kt]? = some ⟨m,Jj,e,some cs⟩) (ie:es.length=m) (hz:0<=z/\z < m) (pG:off + 1<=e)
  (hk:go X 4000 (.ops all r :: k) ⟨(d2,⟨[],.pt [] 0⟩) :: (d1,⟨[],.pt [] 0⟩) :: st.sl,st.bx,st.tk.set kt ⟨m,Jj,e,some (cs.set (z.toNat * e + off) NX)⟩⟩)
  (aZ:X.still=false:=by exact rfl):Iu X o1 (.ops all (o2 :: o3 :: r) :: k) st:=by
 intro E a w h;have iZ:=h.rl;have e1:=aJ iZ hs;have e2:=bw (aJ iZ hi);unfold Rv at e1;obtain ⟨bs,ns,lz,e1,⟨vB,IA⟩,Gu,DB⟩:=e1;subst vB;obtain ⟨q',kE,_,Ml⟩:=DB kt rfl;have jf:E.tk[kt]? = some ⟨m,Jj,e,some cs⟩:=by rw [h.tk];exact hq
 rw [jf] at kE;simp only [oI] at kE;subst kE;have hy:=Ml ie;rw [e1,ie] at hy;rw [ie] at e1;have NY:=h.env.bD kt _ _ jf hy;rcases NY with ⟨oh,oS,_⟩ | ⟨g,cap,cur,oh,hw0,⟨DD,DE⟩,BD,BE,gj,GS⟩
 ·simp only at oS;omega
 injection oh with i1 i2 i3
 subst i1 i3;obtain ⟨hu,ii,zv,sB,_,Rp,_,_⟩:=dD X.hT hT;have oT:fD X.P et=some e:=by rw [eU sB,Rp]
 have NZ:(execOp a.eval o1).run X.P w = .ok (.value (.pointer (some ⟨g,z.toNat * e,none⟩))) w:=by
  have bz:(Instr.indexAt t (.slice (some ⟨g,0,none⟩) m lz) (.int kd z)).run X.P w = .ok (.pointer (some ⟨g,z.toNat * e,none⟩)) w:=by
   simp [Instr.indexAt,asIntOf,run_underlying hu,hz.1,hz.2,aE oT,Addr.add_lit]
  simp only [execOp,h1.1,e1,e2,Sem.run_bind,bz,Result.andThen_ok,Sem.run_pure]
 refine gL NZ ?_;rw [h1.2];have hr1:Rel X E ⟨(d1,⟨[],.pt [] 0⟩) :: st.sl,st.bx,st.tk⟩ (a.put (some d1) (.pointer (some ⟨g,z.toNat * e,none⟩))) w:=aW h GA (.pt [] 0) _ (by unfold Rv;exact ⟨g,z.toNat * e,rfl,by simp only [RvAt]⟩);generalize ha1:a.put (some d1) (.pointer (some ⟨g,z.toNat * e,none⟩))=a1 at hr1
 have ht1:a1.eval (.tmp d1) = .pointer (some ⟨g,z.toNat * e,none⟩):=by
  subst ha1;simp only [eN,Bool.and_eq_true,Nat.blt_eq] at GA;simp [Act.eval,Act.put,h.sz,GA.1]
 show kq X (.ops all (o2 :: o3 :: r) :: k) .normal a1 w;simp only [kq,wpList,Region.wanted,h2.2.2,h3.2.2,if_true];refine .inl (gL (v:=.pointer (some ⟨g,z.toNat * e + off,none⟩)) (w':=w) ?_ ?_)
 ·simp only [execOp,h2.1,ht1,Sem.run_bind,gh (nr X.hT uw),Result.andThen_ok,Sem.run_pure]
 rw [h2.2.1];have hr2:Rel X E ⟨(d2,⟨[],.pt [] 0⟩) :: (d1,⟨[],.pt [] 0⟩) :: st.sl,st.bx,st.tk⟩ (a1.put (some d2) (.pointer (some ⟨g,z.toNat * e + off,none⟩))) w:=aW hr1 yH (.pt [] 0) _ (by unfold Rv;exact ⟨g,z.toNat * e + off,rfl,by simp only [RvAt]⟩);generalize GP:a1.put (some d2) (.pointer (some ⟨g,z.toNat * e + off,none⟩))=a2 at hr2
 have ht2:a2.eval (.tmp d2) = .pointer (some ⟨g,z.toNat * e + off,none⟩):=by
  subst GP;simp only [eN,Bool.and_eq_true,Nat.blt_eq] at yH;simp [Act.eval,Act.put,hr1.sz,yH.1]
 have e3:=aJ hr2.rl hx
 have dZ:RvC E [dv] (a2.eval x).cells.toList:=by
  have:=e3.cells (gq (n:=1) (by rw [Tq];rfl) (by omega))
  rwa [Tq] at this
 have BC:(a2.eval x).cells.toList.length=1:=by rw [dZ.1.length];all_goals rfl
 obtain ⟨xv,Py⟩:∃ xv,(a2.eval x).cells.toList=[xv]:=by
  match hh:(a2.eval x).cells.toList,BC with
  | [y],_=>exact ⟨y,rfl⟩
 obtain ⟨h5,h6⟩:=DE cs rfl;simp only at h5 h6 DD hw0 BD;have N1:cur.toList.length=lz * e:=by simpa using DD
 have hme:m * e<=lz * e:=Nat.mul_le_mul_right _ BD
 have pT:z.toNat * e + off + 1<=m * e:=by
  have:(z.toNat + 1) * e<=m * e:=Nat.mul_le_mul_right _ (by omega);rw [Nat.add_mul] at this;omega
 have Iz:=jc (P:=X.P) (t:=ty) (off:=z.toNat * e + off) (n:=1) hw0 (Aj X.hT cg) BC (by rw [DD];omega) (List.all_eq_true.2 dZ.2);refine .inl (GQ (w':=World.cL w g (.cells ((cur.toList.take (z.toNat * e + off) ++ (a2.eval x).cells.toList ++ cur.toList.drop (z.toNat * e + off + 1)).toArray) Jj (0,0))) ?_ ?_)
 ·simp only [execOp,h3.1,ht2,Instr.storeAt,Instr.sureAddr,Sem.run_bind,Sem.run_pure,Result.andThen_ok,Iz]
 rw [h3.2.1]
 have J6:cur.toList.take (z.toNat * e + off) ++ (a2.eval x).cells.toList ++ cur.toList.drop (z.toNat * e + off + 1)=cur.toList.set (z.toNat * e + off) xv:=by
  rw [Py,List.set_eq_take_append_cons_drop,if_pos (by omega)];simp
 rw [J6]
 have hx1:RvC E.cl [NX] [xv]:=by
  rw [Py] at dZ;have h7:=dZ.1;simp only [RvL] at h7;obtain ⟨v,s',h8,h9,sA⟩:=h7;simp only [List.cons.injEq] at h8;obtain ⟨rfl,rfl⟩:=h8;exact ⟨rvL_cons (pQ hdv h9) (by simp only [RvL]),dZ.2⟩
 have ux:yq (World.cL w g (.cells (cur.toList.set (z.toNat * e + off) xv).toArray Jj (0,0))) E.c E.β ⟨m,Jj,e,some (cs.set (z.toNat * e + off) NX)⟩ (.slice (some ⟨g,0,none⟩) m lz):=by
  refine .inr ⟨g,lz,_,rfl,fF hw0,⟨by simpa using N1,fun cs' Ds=>?_⟩,BD,BE,gj,GS⟩;simp only [oI] at Ds;subst Ds;simp only;refine ⟨by rw [List.length_set];exact h5,?_⟩;rw [List.take_set];have au:z.toNat * e + off < (cur.toList.take (m * e)).length:=by rw [List.length_take];omega
  rw [List.set_eq_take_append_cons_drop,if_pos (by omega),List.set_eq_take_append_cons_drop,if_pos au];have h8:=(RvC.take (z.toNat * e + off) h6).append (RvC.append hx1 (RvC.drop (z.toNat * e + off + 1) h6));simpa using h8
 have BI:some g≠some g->False:=fun h=>h rfl
 obtain ⟨bq,hext⟩:=Am (q':=⟨m,Jj,e,some (cs.set (z.toNat * e + off) NX)⟩) (w':=World.cL w g (.cells (cur.toList.set (z.toNat * e + off) xv).toArray Jj (0,0))) hr2 aZ jf hy rfl rfl rfl (.inl ⟨rfl,rfl⟩) ux (.inl rfl) rfl rfl rfl (by rw [eH];exact Nat.le_refl _) (fun j _ aQ=>cf (by
  rintro rfl
  exact aQ rfl))
 exact go_sound 4000 _ _ hk _ _ _ bq
open Classical in
noncomputable def wU (E:En) (w:World) (y:Value) (n:Nat):Addr->Option Value:=
 fun x=>if y.ownBlock=some x.block/\x.spot=none/\x.off < n then w.cell? x else E.c x
theorem gU {y:Value} {n:Nat} {x:Addr} {v:Value} (h:wU E w y n x=some v):(y.ownBlock=some x.block/\x.spot=none/\x.off < n/\w.cell? x=some v)∨E.c x=some v:=by
 unfold wU at h;split at h
 ·rename_i hc;exact .inl ⟨hc.1,hc.2.1,hc.2.2,h⟩
 ·exact .inr h
theorem Hx (h:Rel X E st a w) {k n ty e:Nat} {cs:List DV} {ns:List (List DV)} (hq:st.tk[k]? = some ⟨n,ty,e,some cs⟩) (cA:cs=ns.flatten) (vB:∀ x∈ns,x.length=e) (mw:ns.length=n) :
  ∃ E',Rel X E' ⟨st.sl,st.bx,st.tk.set k ⟨n,ty,e,none⟩⟩ a w/\Ext E E' /\ ∀ es y,es.length=n->Rv E (.sl 0 es (some k)) y->Rv E' (.sl e ns (some k)) y:=by
 subst cA;have jf:E.tk[k]? = some ⟨n,ty,e,some ns.flatten⟩:=by rw [h.tk];exact hq
 have Dy:=(gS jf).1;have Mh:k < E.τ.length:=by rw [h.env.tl];exact Dy
 have hv:E.τ[k]? = some E.τ[k]:=gE Mh;generalize E.τ[k]=v at hv;have NY:=h.env.bD k _ v jf hv
 have iA:∀ x u,E.c x=some u->wU E w v (n * e) x=some u:=fun x u hx=>by
  unfold wU;split
  ·exact h.env.sub x u hx
  ·exact hx
 have hext:Ext E ⟨wU E w v (n * e),E.β,E.tk.set k ⟨n,ty,e,none⟩,E.τ⟩:=⟨iA,fun _ _ h=>h,fun j q EU=>by
  by_cases hj:j=k
  ·subst hj;rw [jf] at EU;simp only [oI] at EU;subst EU;exact ⟨_,List.getElem?_set_self Dy,.inl ⟨rfl,rfl⟩⟩
  ·exact ⟨q,by rw [List.getElem?_set_ne (Ne.symm hj)];exact EU,.inl ⟨rfl,rfl⟩⟩⟩
 refine ⟨⟨wU E w v (n * e),E.β,E.tk.set k ⟨n,ty,e,none⟩,E.τ⟩,ch h hext ?_ (by rw [h.tk]) ?_ h.fr h.sh h.bt,hext,?_⟩
 ·exact {
   len:=h.env.len
   tl:=by simp only [List.length_set];exact h.env.tl
   dB:=fun i cs hi=>by
    obtain ⟨b,t,arr,hb,hw,hc⟩:=h.env.dB i cs hi;exact ⟨b,t,arr,hb,hw,hc.mono hext⟩
   inj:=h.env.inj
   sub:=fun x u hx=>by
    rcases gU hx with ⟨_,_,_,h1⟩ | h1
    ·exact h1
    ·exact h.env.sub x u h1
   pc:=fun x u hx hm=>by
    rcases gU hx with ⟨h1,_⟩ | h1
    ·exact (fV NY h1).2 hm
    ·exact h.env.pc x u h1 hm
   bD:=fun j q y hj hy=>by
    by_cases Kc:j=k
    ·subst Kc;have eJ:(E.tk.set j ⟨n,ty,e,none⟩)[j]? = some q:=hj;rw [List.getElem?_set_self Dy] at eJ;have dW:E.τ[j]? = some y:=hy;rw [hv] at dW;simp only [oI] at eJ dW;subst eJ dW;rcases NY with ⟨h1,h2,_⟩ | ⟨g,cap,cur,rfl,h1,h2,h3,h4,h5,h6⟩
     ·exact .inl ⟨h1,h2,fun cs hc=>by cases hc⟩
     ·refine .inr ⟨g,cap,cur,rfl,h1,⟨h2.1,l5.none rfl⟩,h3,h4,h5,fun x u hx yy=>?_⟩;rcases gU hx with ⟨_,_,h7,_⟩ | h7
      ·exact h7
      ·have:=h6 x u h7 yy;simp only [TkE.kn] at this;omega
    ·have eJ:E.tk[j]? = some q:=by
      have:(E.tk.set k ⟨n,ty,e,none⟩)[j]? = some q:=hj
      rwa [List.getElem?_set_ne (Ne.symm Kc)] at this
     rcases h.env.bD j q y eJ hy with h1 | ⟨g,cap,cur,rfl,h1,h2,h3,h4,h5,h6⟩
     ·exact .inl h1
     ·refine .inr ⟨g,cap,cur,rfl,h1,⟨h2.1,h2.2.mono iA⟩,h3,h4,h5,fun x u hx yy=>?_⟩;rcases gU hx with ⟨h7,_⟩ | h7
      ·exact (h.env.fY j k _ v g Kc hy hv rfl (by rw [h7,yy])).elim
      ·exact h6 x u h7 yy
   fY:=h.env.fY }
 ·exact {
   c:=fun x u hx=>iA x u (h.nw.c x u hx)
   cn:=fun x u hx=>by
    rcases gU hx with ⟨h1,_⟩ | h1
    ·rcases h.nw.own hv h1 with h2 | h2
     ·exact .inr (.inr h2)
     ·exact .inr (.inl h2)
    ·exact h.nw.cn x u h1
   β:=h.nw.β
   tk:=fun j q0 y0 uv pP=>by
    obtain ⟨q1,y1,h1,h2,h3,h4,h5,h6⟩:=h.nw.tk j q0 y0 uv pP;by_cases hj:j=k
    ·subst hj;rw [jf] at h1;simp only [oI] at h1;subst h1;exact ⟨_,y1,List.getElem?_set_self Dy,h2,h3,h4,h5,h6⟩
    ·exact ⟨q1,y1,by rw [List.getElem?_set_ne (Ne.symm hj)];exact h1,h2,h3,h4,h5,h6⟩
   tn:=fun j y g hj hy=>h.nw.tn j y g hj hy
   l0:=h.nw.l0 }
 ·intro es y ie hy;unfold Rv at hy ⊢;obtain ⟨b,m,cap,rfl,⟨rfl,hmc⟩,hr,aZ⟩:=hy;obtain ⟨q',kE,_,hτ⟩:=aZ k rfl;rw [jf] at kE;simp only [oI] at kE;subst kE;have hy:=hτ ie;rw [hv] at hy;simp only [oI] at hy;subst hy;refine ⟨b,es.length,cap,rfl,⟨by omega,hmc⟩,fun aQ=>?_,fun k' eT=>?_⟩
  ·rcases NY with ⟨h1,h2,h3⟩ | ⟨g,Me,cur,h0,h1,h2,h3,h4,h5,h6⟩
   ·simp only at h2;exact (aQ (List.eq_nil_of_length_eq_zero (by omega))).elim
   ·injection h0 with i1 i2 i3
    subst i1;refine ⟨rfl,?_⟩;obtain ⟨h7,h8⟩:=h2.2 _ rfl;refine rvEs_flat (h8.mono (E:=⟨E.c,[],[],[]⟩) ⟨iA,fun _ _ h=>by simp at h,fun _ _ h=>by simp at h⟩) vB fun j u hj=>?_;rw [List.getElem?_take] at hj;split at hj
    ·rename_i rR;show wU E w _ (n * e) _=_;unfold wU;rw [if_pos ⟨rfl,rfl,by simpa [ao] using rR⟩];simp only [ab,ao,Nat.zero_add];rw [bN h1];simpa using hj
    ·cases hj
  ·cases eT;exact ⟨_,List.getElem?_set_self Dy,by simp only;omega,fun _=>hv⟩
theorem KT {j o k n ty e:Nat} {Dc:List DV} {es ns:List (List DV)} (hq:st.tk[k]? = some ⟨n,ty,e,some ns.flatten⟩) (vB:∀ x∈ns,x.length=e) (mw:ns.length=n) (hj:st.bx[j]? = some Dc) (ho:Dc[o]? = some (.sl 0 es (some k))) (ie:es.length=n) :
  Wk X st ⟨st.sl,st.bx.set j (Dc.set o (.sl e ns none)),st.tk.set k ⟨n,ty,e,none⟩⟩:=by
 intro E a w h;obtain ⟨E',hr,hx,pV⟩:=Hx h hq rfl vB mw;refine ⟨E',{ hr with env:=?_ }⟩
 exact { hr.env with
  len:=by simp only [List.length_set];exact hr.env.len
  dB:=fun i cs' hi=>by
   by_cases gv:i=j
   ·subst gv;have au:=(gS hj).1;have eP:(st.bx.set i (Dc.set o (.sl e ns none)))[i]? = some cs':=hi;rw [List.getElem?_set_self au] at eP;simp only [oI] at eP;subst eP;obtain ⟨b,t,arr,hb,hw,hc⟩:=hr.env.dB i Dc hj;obtain ⟨b0,t0,BF,gj,hw0,GS⟩:=h.env.dB i Dc hj;have om:=hx.β i b0 gj;rw [hb] at om;simp only [oI] at om;subst om;rw [hw] at hw0;simp only [oI,Obj.cells.injEq] at hw0
    have D9:arr=BF:=by
     have:=hw0.1;simpa using this
    subst D9;refine ⟨b,t,arr,hb,hw,?_,hc.2⟩;obtain ⟨v,pg,C4⟩:=GS.1.get ho;have I7:=pV es v ie C4;have gk:=(gS ho).1;have LN:arr.length=Dc.length:=hc.1.length
    have h1:=(RvL.take o hc.1).append (rvL_cons (d:=.sl e ns none) (v:=v) (by
     unfold Rv at I7 ⊢;obtain ⟨b,n,cap,g1,g2,g3,_⟩:=I7
     exact ⟨b,n,cap,g1,g2,g3,fun k hk=>by cases hk⟩) (RvL.drop (o + 1) hc.1))
    rw [List.set_eq_take_append_cons_drop,if_pos gk]
    have h2:arr.take o ++ v :: arr.drop (o + 1)=arr:=by
     have hoa:o < arr.length:=by omega
     have:arr[o]=v:=by
      rw [gE hoa] at pg;simpa using pg
     rw [<- this];simp
    rwa [h2] at h1
   ·have eP:(st.bx.set j (Dc.set o (.sl e ns none)))[i]? = some cs':=hi;rw [List.getElem?_set_ne (Ne.symm gv)] at eP
    exact hr.env.dB i cs' eP }
theorem Wk.yO (i j:Nat) (S S':St) (he:S'=cE i j S) (C5:Nat.ble X.n0 i=true) (vy:Nat.ble X.n0 j=true) (hi:Nat.blt i S.bx.length=true) (hj:Nat.blt j S.bx.length=true) (hX:X.bt=[]:=by exact rfl):Wk X S' S:=fun E a w h=>by
 subst he;simp only [Nat.blt_eq] at hi hj;exact uI hX h (nL C5) (nL vy) hi hj
theorem KU {c:Code} (I:Nat->St->Prop) (j0:Nat) (fZ:St) (hw:Wk X st fZ) (h0:I j0 fZ)
  (hr:∀ j s,I j s->go X 4000 (.code c :: .pK (fun s'=>∃ vZ,Wk X s' vZ /\ ∃ j',j' < j/\I j' vZ) :: k) s):od X c k st:=by
 intro E a w h;obtain ⟨E0,hr0⟩:=hw _ _ _ h
 classical
 let Inv:Act->World->Prop:=fun a w=>∃ j s E,Rel X E s a w/\I j s
 let μ:Act->World->Nat:=fun a w=>if hI:Inv a w then Classical.choose (least hI) else 0
 refine wp_loop Inv μ ⟨j0,fZ,E0,hr0,h0⟩ ?_;intro a1 w1 hI;have dF:=(Classical.choose_spec (least hI)).1;obtain ⟨s,E1,bq,Ql⟩:=dF;have hs:=go_sound 4000 _ _ (hr _ s Ql) E1 a1 w1 bq;rw [dE] at hs;refine wp_mono hs ?_;intro e a2 w2 hq
 cases e with
 | normal=>
  obtain ⟨s',E2,p9,vZ,Mv,j',eJ,Mw⟩:=hq;obtain ⟨E3,v7⟩:=Mv _ _ _ p9;have Kd:Inv a2 w2:=⟨j',vZ,E3,v7,Mw⟩;refine ⟨Kd,?_⟩;simp only [μ,dif_pos hI,dif_pos Kd];exact Nat.lt_of_le_of_lt ((Classical.choose_spec (least Kd)).2 j' ⟨vZ,E3,v7,Mw⟩) eJ
 | exit id=>exact hq
 | goto l=>exact hq
 | ret=>exact hq
 | panic c=>exact hq
 | outgrown=>exact hq
mutual
def flatD:DV->Bool
 | .v _=>true
 | .agg l=>flatL l
 | .dV l=>flatL l
 | _=>false
def flatL:List DV->Bool
 | []=>true
 | d :: r=>flatD d && flatL r
end
mutual
theorem Rv.flat {E E':En}:∀ {d:DV} {v:Value},flatD d=true->Rv E d v->Rv E' d v
 | .v x,v,_,h=>by unfold Rv at h ⊢;exact h
 | .agg l,v,hf,h=>by
  simp only [flatD] at hf;simp only [Rv] at h ⊢;obtain ⟨vs,h1,h2,h3⟩:=h;exact ⟨vs,h1,RvL.flat hf h2,h3⟩
 | .dV l,v,hf,h=>by
  simp only [flatD] at hf;simp only [Rv] at h ⊢;obtain ⟨vs,h1,h2⟩:=h;exact ⟨vs,h1,RvL.flat hf h2⟩
 | .ud,_,hf,_=>by simp [flatD] at hf
 | .sl _ _ _,_,hf,_=>by simp [flatD] at hf
 | .pt _ _,_,hf,_=>by simp [flatD] at hf
 | .loc _ _,_,hf,_=>by simp [flatD] at hf
 | .el _ _,_,hf,_=>by simp [flatD] at hf
 | .ms _ _ _ _ _,_,hf,_=>by simp [flatD] at hf
 | .fn _ _ _,_,hf,_=>by simp [flatD] at hf
 | .lZ _ _,_,hf,_=>by simp [flatD] at hf
theorem RvL.flat {E E':En}:∀ {l:List DV} {vs:List Value},flatL l=true->RvL E l vs->RvL E' l vs
 | [],vs,_,h=>by simpa only [RvL] using h
 | d :: r,vs,hf,h=>by
  simp only [flatL,Bool.and_eq_true] at hf;simp only [RvL] at h ⊢;obtain ⟨v,s,h1,h2,h3⟩:=h;exact ⟨v,s,h1,Rv.flat hf.1 h2,RvL.flat hf.2 h3⟩
end
theorem AU {f:FuncId} {args aT:List DV} {d:Nat} {y:DV} (jh:Enters X.P f) (hc:ba X.P f aT y) (ha:CcL st.bx 0 0 0 aT args) (hy:flatD y=true) (hd:eN X.nt st.sl (some d)=true)
  (hk:go X 4000 k ⟨(d,⟨[],y⟩) :: st.sl,st.bx,st.tk⟩) (aZ:X.still=false:=by exact rfl):eS X f args (some d) k st:=by
 refine ⟨jh,aZ,fun E a w vs h hv=>(gl h.env hc ha hv).mono ?_⟩;rintro e w' ⟨v,E2,rfl,hr,hm,_⟩;have hh:∀ i,i < w.heap.size->w'.heap[i]? = w.heap[i]?:=fun i hi=>hm.block i hi (fun h=>h);have bq:Rel X E st a w':=ch h (Ext.refl E) (h.env.iF hh) h.tk h.nw (h.fr.bP hm.os hm.tape hm.output hm.size fun i hi=>.inr (hh i hi)) (kX aZ) (h.bt.iF fun b hb=>hh b (h.env.aM hb));exact go_sound 4000 _ _ hk E _ w' (aW bq hd y v (Rv.flat hy hr))
theorem mN {D:Dr} {c:Bool} {i:Nat} {s0:List (Nat × Sl)} {f:FuncId} {args aT:List DV} {d:Nat} {y:DV} {r:List (Nat × Oper)} (jh:Enters X.P f) (hc:ba X.P f aT y) (ha:CcL st.bx 0 0 0 aT args) (hy:flatD y=true) (hd:(eN X.nt st.sl (some d) && eN X.nt s0 (some d))=true)
  (hk:put2 s0 st (some d) true [] y (goD X D 3000 c r)) (aZ:X.still=false:=by exact rfl):sJ X D c i r f args (some d) s0 st:=by
 refine ⟨jh,fun hl E0 wr hD E a w vs h hv=>(gl h.rel.env hc ha hv).mono ?_⟩;rintro e w' ⟨v,E2,rfl,hr,hm,_⟩;have hh:∀ i,i < w.heap.size->w'.heap[i]? = w.heap[i]?:=fun i hi=>hm.block i hi (fun h=>h);have bq:Rel X E st a w':=ch h.rel (Ext.refl E) (h.rel.env.iF hh) h.rel.tk h.rel.nw (h.rel.fr.bP hm.os hm.tape hm.output hm.size fun i hi=>.inr (hh i hi)) (kX aZ) (h.rel.bt.iF fun b hb=>hh b (h.rel.env.aM hb));have hs:di none E w E w':=⟨Ext.refl E,⟨[],by simp⟩,fun j b hb _=>hh b (h.rel.env.aM (mG hb))⟩;have hC:=we h hs bq (fun j hj=>by cases hj);refine ⟨v,rfl,fun _=>hC,?_⟩;have wg:dC X ⟨D,E0,wr⟩ c E s0 st (a.put none v) w':=mq h hs bq (fun h1=>hC (h.cc h1)) (fun i x hx=>.inr ⟨hx,fun d hd=>by cases hd⟩) rfl;obtain ⟨s1,lW,gO,de⟩:=fG wg hd true [] y v (fun _ _ p hp=>by cases hp) (fun _=>Rv.flat hy hr) (fun _ _=>Rv.flat hy hr) (fun hn=>(hn (aO _)).elim) hk;exact cH (D:=⟨D,E0,wr⟩) hD 3000 c r _ _ gO hl E _ w' de
theorem eS.yO {S:St} {f:FuncId} {args aT:List DV} {dst:Option Nat} (i j:Nat) (hS:st=cE i j S) (ha:args=renL (swp i j) aT) (C5:Nat.ble X.n0 i=true) (vy:Nat.ble X.n0 j=true) (hi:Nat.blt i S.bx.length=true) (hj:Nat.blt j S.bx.length=true)
  (h:eS X f aT dst k S) (hX:X.bt=[]:=by exact rfl):eS X f args dst k st:=by
 subst hS ha;simp only [Nat.blt_eq] at hi hj;refine ⟨h.1,h.2.1,fun E a w vs hr hv=>?_⟩
 have hlen:E.β.length=S.bx.length:=by
  rw [hr.env.len];simp only [cE,bR,cu]
 exact h.2.2 _ a w vs (wi hX hr (nL C5) (nL vy) hi hj) (RvL.yO (by rw [hlen];exact hi) (by rw [hlen];exact hj) hv)
end
end Dv
end Go.Proofs.YtfifjddnnmfeoaaGreat
set_option maxRecDepth 100000
namespace Go.Proofs.YtfifjddnnmfeoaaGreat
open Go Go.RowKit Dv Tryz
def cZ (l:List Int):List DV:=l.map fun z=>DV.v (.int .i64 z)
def zi (ae:List ByteArray) (tb lq:DV) (js:List Int):List DV:=.sl 1 (dz ae) none :: tb :: lq :: cZ js
def oz:Option Nat->Int
 | none=>-1
 | some k=>(k:Int)
def AV (pb:Nat->Nat->Bool) (e:Nat):Option Nat->Bool
 | none=>true
 | some o=>pb e o
def bestA (iw:Nat->Bool) (pb:Nat->Nat->Bool):Nat->Option Nat
 | 0=>none
 | e + 1=>if iw e && AV pb e (bestA iw pb e) then some e else bestA iw pb e
def ll (iw:Nat->Bool) (pb:Nat->Nat->Bool) (n:Nat):Option Nat:=
 match bestA iw pb n with
 | none=>none
 | some o=>if (List.range n).any (fun c=>iw c && !pb o c) then none else some o
theorem mO {iw:Nat->Bool} {pb:Nat->Nat->Bool}:∀ {e k:Nat},bestA iw pb e=some k->k < e
 | 0,k,h=>by cases h
 | e + 1,k,h=>by
  rw [bestA] at h;split at h
  ·simp only [oI] at h;omega
  ·have:=mO h;omega
theorem nR (ae:List ByteArray) (tb:DV) (rows:List Nat) (js:List Int) (hr:dx rows) (a b:Nat) (ha:a < rows.length) (hb:b < rows.length) :
  ba Tryz.prog 166 [.v (.int .i64 a),.v (.int .i64 b),.pt [.pt (zi ae tb (jQ rows) js) 0] 0] (.v (.bool (aH rows a b))):=by
 have h1:=kN rows hr a b;rw [mH ha hb] at h1;refine ev_go (P:=Tryz.prog) tt tt_ok 5000 13 [.tmp 5] Tryz.func166 rfl Tryz.ntmps166 rfl (nL rfl) (fun E9 w9 hn9 hm9=>?_);refine call_p AB (h1) ax rfl ?_;exact (rfl:_=_)
theorem nS (ae:List ByteArray) (tb:DV) (rows:List Nat) (js:List Int) (hr:dx rows) (a b:Nat) (ha:a < rows.length) (hb:b < rows.length) :
  ba Tryz.prog 167 [.v (.int .i64 a),.v (.int .i64 b),.pt [.pt (zi ae tb (jQ rows) js) 0] 0] (.v (.bool (aH rows b a))):=by
 have h1:=kN rows hr b a;rw [mH hb ha] at h1;refine ev_go (P:=Tryz.prog) tt tt_ok 5000 13 [.tmp 5] Tryz.func167 rfl Tryz.ntmps167 rfl (nL rfl) (fun E9 w9 hn9 hm9=>?_);refine call_p AB (h1) ax rfl ?_;exact (rfl:_=_)
abbrev Jk (L:List DV):DV:=.fn 166 [] [.pt [.pt L 0] 0]
abbrev Jl (L:List DV):DV:=.fn 167 [] [.pt [.pt L 0] 0]
theorem Cn (ae:List ByteArray) (tb:DV) (rows:List Nat) (js:List Int) (hr:dx rows) (a b c:Nat) (ha:a < rows.length) (hb:b < rows.length) (hc:c < rows.length) :
  ba Tryz.prog 169 [.v (.int .i64 c),.pt [Jk (zi ae tb (jQ rows) js)] 0,.pt [.v (.int .i64 a)] 0,.pt [.v (.int .i64 b)] 0] (.v (.bool (aH rows a c && aH rows b c))):=by
 have h1:=nR ae tb rows js hr a c ha hc;have h2:=nR ae tb rows js hr b c hb hc;refine ev_go (P:=Tryz.prog) tt tt_ok 5000 16 [.tmp 5] Tryz.func169 rfl Tryz.ntmps169 rfl (nL rfl) (fun E9 w9 hn9 hm9=>?_);refine call_p DX (h1) ax rfl ?_;refine br (fun g=>?_) (fun g=>?_)
 ·have g:aH rows a c=true:=by simpa using g
  refine call_p DX (h2) ax rfl ?_;refine (congrArg (fun b=>DV.v (.bool b)) ?_:_=_);simp [g,pickB]
 ·have g:aH rows a c=false:=by simpa using g
  refine (congrArg (fun b=>DV.v (.bool b)) ?_:_=_);simp [g,pickB]
theorem Co (ae:List ByteArray) (tb:DV) (rows:List Nat) (js:List Int) (hr:dx rows) (a b c:Nat) (ha:a < rows.length) (hb:b < rows.length) (hc:c < rows.length) :
  ba Tryz.prog 170 [.v (.int .i64 c),.pt [Jl (zi ae tb (jQ rows) js)] 0,.pt [.v (.int .i64 a)] 0,.pt [.v (.int .i64 b)] 0] (.v (.bool (aH rows c a && aH rows c b))):=by
 have h1:=nS ae tb rows js hr a c ha hc;have h2:=nS ae tb rows js hr b c hb hc;refine ev_go (P:=Tryz.prog) tt tt_ok 5000 16 [.tmp 5] Tryz.func170 rfl Tryz.ntmps170 rfl (nL rfl) (fun E9 w9 hn9 hm9=>?_);refine call_p DY (h1) ax rfl ?_;refine br (fun g=>?_) (fun g=>?_)
 ·have g:aH rows c a=true:=by simpa using g
  refine call_p DY (h2) ax rfl ?_;refine (congrArg (fun b=>DV.v (.bool b)) ?_:_=_);simp [g,pickB]
 ·have g:aH rows c a=false:=by simpa using g
  refine (congrArg (fun b=>DV.v (.bool b)) ?_:_=_);simp [g,pickB]
abbrev KV (L:List DV) (gi gb:Nat) (ci cb:List DV) (n:Nat) (o:Int) (e:Nat):St:=
 ⟨[(0,⟨[],.pt L 0⟩),(1,⟨[],.fn gi [] ci⟩),(2,⟨[],.fn gb [] cb⟩),(7,⟨[],.v (.int .i64 o)⟩),(14,⟨[],.v (.int .i64 n)⟩),(15,⟨[],.v (.int .i64 e)⟩)],[],[]⟩
abbrev AW (L:List DV) (gi gb:Nat) (ci cb:List DV) (n:Nat) (o:Int) (e:Nat):St:=
 ⟨[(0,⟨[],.pt L 0⟩),(1,⟨[],.fn gi [] ci⟩),(2,⟨[],.fn gb [] cb⟩),(7,⟨[],.v (.int .i64 o)⟩),(37,⟨[],.v (.int .i64 n)⟩),(38,⟨[],.v (.int .i64 e)⟩)],[],[]⟩
theorem tj (ae:List ByteArray) (tb lq:DV) (js:List Int) (gi gb:Nat) (Tr:Enters Tryz.prog gi) (Ts:Enters Tryz.prog gb) (ci cb:List DV) (iw:Nat->Bool) (pb:Nat->Nat->Bool)
  (N2:CcL [] 0 0 0 ci ci) (N3:CcL [] 0 0 0 cb cb) (Rq:clB.clL 0 0 ci=true) (Rr:clB.clL 0 0 cb=true) (hn:ae.length<=64)
  (Ee:∀ c:Nat,c < ae.length->ba Tryz.prog gi (.v (.int .i64 c) :: ci) (.v (.bool (iw c))))
  (Tt:∀ a b:Nat,a < ae.length->b < ae.length->ba Tryz.prog gb (.v (.int .i64 a) :: .v (.int .i64 b) :: cb) (.v (.bool (pb a b)))) :
  ba Tryz.prog 168 [.pt (zi ae tb lq js) 0,.fn gi [] ci,.fn gb [] cb] (.v (.int .i64 (oz (ll iw pb ae.length)))):=by
 have hN:=bg ae;have zj:clB 0 0 (.fn gi [] ci)=true:=by simp only [clB,Bool.and_eq_true];exact ⟨rfl,Rq⟩
 have GB:clB 0 0 (.fn gb [] cb)=true:=by simp only [clB,Bool.and_eq_true];exact ⟨rfl,Rr⟩
 refine ev_go (P:=Tryz.prog) tt tt_ok 5000 57 [.tmp 6] Tryz.func168 rfl Tryz.ntmps168 rfl (nL rfl) (fun E9 w9 hn9 hm9=>?_);refine bU (fun j st=>∃ e:Nat,st=KV (zi ae tb lq js) gi gb ci cb (dz ae).length (oz (bestA iw pb e)) e/\e<=ae.length/\j=ae.length - e) ae.length (KV (zi ae tb lq js) gi gb ci cb (dz ae).length (oz (bestA iw pb 0)) 0) (aq ⟨_,rfl⟩ wA rfl rfl rfl (by repeat' (first | exact trivial | exact aw rfl | exact aw zj | exact aw GB | refine ⟨⟨_,rfl,?_⟩,?_⟩))) ⟨0,rfl,by omega,by omega⟩ ?_;rintro j st ⟨e,rfl,he,rfl⟩;refine br (fun hL=>?_) (fun hL=>?_)
 ·have au:e < ae.length:=by have:=hL;simp [hN] at this;exact this
  have hs:bestA iw pb (e + 1)=if iw e && AV pb e (bestA iw pb e) then some e else bestA iw pb e:=rfl
  refine call_p Tr (Ee e au) ⟨_,_,rfl,rfl,N2⟩ rfl ?_
  cases hA:bestA iw pb e with
  | none=>
   rw [hA] at hs;refine br (fun g=>?_) (fun g=>?_)
   ·have g:iw e=true:=by simpa [lastG] using g
    have hz:(e:Int)=oz (bestA iw pb (e + 1)):=by rw [hs,g];all_goals rfl
    exact ⟨KV (zi ae tb lq js) gi gb ci cb (dz ae).length (oz (bestA iw pb (e + 1))) (e + 1),(aq ⟨_,rfl⟩ wA rfl rfl rfl (by repeat' (first | exact trivial | exact aw rfl | exact aw zj | exact aw GB | exact ay (bA au (by omega)) | exact ay hz | refine ⟨⟨_,rfl,?_⟩,?_⟩))),ae.length - (e + 1),by omega,e + 1,rfl,by omega,rfl⟩
   ·have g:iw e=false:=by simpa [lastG] using g
    have hz:oz none=oz (bestA iw pb (e + 1)):=by rw [hs,g];all_goals rfl
    exact ⟨KV (zi ae tb lq js) gi gb ci cb (dz ae).length (oz (bestA iw pb (e + 1))) (e + 1),(aq ⟨_,rfl⟩ wA rfl rfl rfl (by repeat' (first | exact trivial | exact aw rfl | exact aw zj | exact aw GB | exact ay (bA au (by omega)) | exact ay hz | refine ⟨⟨_,rfl,?_⟩,?_⟩))),ae.length - (e + 1),by omega,e + 1,rfl,by omega,rfl⟩
  | some k=>
   rw [hA] at hs;have hk:=mO hA;refine br (fun g=>?_) (fun g=>?_)
   ·have g:iw e=true:=by simpa [lastG] using g
    refine call_p Ts (Tt e k au (by omega)) ⟨_,_,rfl,rfl,_,_,rfl,rfl,N3⟩ rfl ?_;refine br (fun g2=>?_) (fun g2=>?_)
    ·have g2:pb e k=true:=by simpa [pickB,g,lastG] using g2
     have hz:(e:Int)=oz (bestA iw pb (e + 1)):=by rw [hs,g,AV,g2];all_goals rfl
     exact ⟨KV (zi ae tb lq js) gi gb ci cb (dz ae).length (oz (bestA iw pb (e + 1))) (e + 1),(aq ⟨_,rfl⟩ wA rfl rfl rfl (by repeat' (first | exact trivial | exact aw rfl | exact aw zj | exact aw GB | exact ay (bA au (by omega)) | exact ay hz | refine ⟨⟨_,rfl,?_⟩,?_⟩))),ae.length - (e + 1),by omega,e + 1,rfl,by omega,rfl⟩
    ·have g2:pb e k=false:=by simpa [pickB,g,lastG] using g2
     have hz:oz (some k)=oz (bestA iw pb (e + 1)):=by rw [hs,g,AV,g2];all_goals rfl
     exact ⟨KV (zi ae tb lq js) gi gb ci cb (dz ae).length (oz (bestA iw pb (e + 1))) (e + 1),(aq ⟨_,rfl⟩ wA rfl rfl rfl (by repeat' (first | exact trivial | exact aw rfl | exact aw zj | exact aw GB | exact ay (bA au (by omega)) | exact ay hz | refine ⟨⟨_,rfl,?_⟩,?_⟩))),ae.length - (e + 1),by omega,e + 1,rfl,by omega,rfl⟩
   ·have g:iw e=false:=by simpa [lastG] using g
    have hz:oz (some k)=oz (bestA iw pb (e + 1)):=by rw [hs,g];all_goals rfl
    exact ⟨KV (zi ae tb lq js) gi gb ci cb (dz ae).length (oz (bestA iw pb (e + 1))) (e + 1),(aq ⟨_,rfl⟩ wA rfl rfl rfl (by repeat' (first | exact trivial | exact aw rfl | exact aw zj | exact aw GB | exact ay (bA au (by omega)) | exact ay hz | refine ⟨⟨_,rfl,?_⟩,?_⟩))),ae.length - (e + 1),by omega,e + 1,rfl,by omega,rfl⟩
 ·have bI:e=ae.length:=by have:=hL;simp [hN] at this;omega
  subst bI;refine bU (fun j st=>∃ e:Nat,st=AW (zi ae tb lq js) gi gb ci cb (dz ae).length (oz (bestA iw pb ae.length)) e/\e<=ae.length/\(∀ o,bestA iw pb ae.length=some o->∀ c,c < e->(iw c && !pb o c)=false)/\j=ae.length - e) ae.length (AW (zi ae tb lq js) gi gb ci cb (dz ae).length (oz (bestA iw pb ae.length)) 0) (aq ⟨_,rfl⟩ wA rfl rfl rfl (by repeat' (first | exact trivial | exact aw rfl | exact aw zj | exact aw GB | refine ⟨⟨_,rfl,?_⟩,?_⟩))) ⟨0,rfl,by omega,fun _ _ c hc=>by omega,by omega⟩ ?_;rintro j st ⟨e,rfl,he,iG,rfl⟩;refine br (fun hL=>?_) (fun hL=>?_)
  ·have au:e < ae.length:=by have:=hL;simp [hN] at this;exact this
   cases hA:bestA iw pb ae.length with
   | none=>
    exact ⟨AW (zi ae tb lq js) gi gb ci cb (dz ae).length (oz none) (e + 1),(aq ⟨_,rfl⟩ wA rfl rfl rfl (by repeat' (first | exact trivial | exact aw rfl | exact aw zj | exact aw GB | exact ay (bA au (by omega)) | refine ⟨⟨_,rfl,?_⟩,?_⟩))),ae.length - (e + 1),by omega,e + 1,rfl,by omega,(fun _ h=>by cases h),rfl⟩
   | some o=>
    have ho:=mO hA;have iG:=iG o hA;refine call_p Tr (Ee e au) ⟨_,_,rfl,rfl,N2⟩ rfl ?_;refine br (fun g=>?_) (fun g=>?_)
    ·have g:iw e=true:=by simpa [pickB] using g
     refine call_p Ts (Tt o e ho au) ⟨_,_,rfl,rfl,_,_,rfl,rfl,N3⟩ rfl ?_;refine br (fun g2=>?_) (fun g2=>?_)
     ·have g2:pb o e=false:=by simpa [pickB,g,lastG] using g2
      have:ll iw pb ae.length=none:=by
       rw [ll,hA];simp only;rw [if_pos];rw [List.any_eq_true];exact ⟨e,by simpa using au,by simp [g,g2]⟩
      rw [this];exact (rfl:_=_)
     ·have g2:pb o e=true:=by simpa [pickB,g,lastG] using g2
      exact ⟨AW (zi ae tb lq js) gi gb ci cb (dz ae).length (oz (some o)) (e + 1),(aq ⟨_,rfl⟩ wA rfl rfl rfl (by repeat' (first | exact trivial | exact aw rfl | exact aw zj | exact aw GB | exact ay (bA au (by omega)) | refine ⟨⟨_,rfl,?_⟩,?_⟩))),ae.length - (e + 1),by omega,e + 1,rfl,by omega,fun o' ur c hc=>by
       cases ur;rcases Nat.lt_succ_iff_lt_or_eq.1 hc with hc | rfl
       ·exact iG c hc
       ·simp [g2],rfl⟩
    ·have g:iw e=false:=by simpa [pickB] using g
     exact ⟨AW (zi ae tb lq js) gi gb ci cb (dz ae).length (oz (some o)) (e + 1),(aq ⟨_,rfl⟩ wA rfl rfl rfl (by repeat' (first | exact trivial | exact aw rfl | exact aw zj | exact aw GB | exact ay (bA au (by omega)) | refine ⟨⟨_,rfl,?_⟩,?_⟩))),ae.length - (e + 1),by omega,e + 1,rfl,by omega,fun o' ur c hc=>by
       cases ur;rcases Nat.lt_succ_iff_lt_or_eq.1 hc with hc | rfl
       ·exact iG c hc
       ·simp [g],rfl⟩
  ·have bI:e=ae.length:=by have:=hL;simp [hN] at this;omega
   subst bI
   have:ll iw pb ae.length=bestA iw pb ae.length:=by
    cases hA:bestA iw pb ae.length with
    | none=>rw [ll,hA]
    | some o=>
     rw [ll,hA];simp only;rw [if_neg];rw [List.any_eq_true];rintro ⟨c,hc,h2⟩;rw [iG o hA c (by simpa using hc)] at h2;cases h2
   rw [this];exact (rfl:_=_)
end Go.Proofs.YtfifjddnnmfeoaaGreat
