/- Part 3 of the proof: names.New: the table; names.Twice: does a text stand earlier, too?; Contracts: the reference's words, Plain, Same, Zero, own; Contracts: the reference's Same, Zero, own; Contracts: the reference's Label, listed, names, Size, with, coarse; What is wrong with a type: the plain function; the reference's Wrong and parts return it; The program's checks of types: bad, listed, label, words; The program's checks of types: label, coarse; The program's comparing of names and types; The program's Same; The program's own, empty; The program's empty, enum; kinds.Right, once the checker's check is known; Numbers in tens: the reference's Put; Numbers in tens: the program's Put; The text of a type, plain; the reference's Label and comma; The reference's text of a type: Label, comma, part, Type; The reference's text of a part; The reference's text of a type; The library's strings.Join, laid at this program by the kit's tool (lay-plain; wip/tools/lay.sh); The program's text of a label, of what stands behind a part's type, of lists; The program's text of a type: field, tag, kind; unparse.Type, once the checker's check is known; A type with which nothing is wrong is fine for its text; Readable data as data of the evaluator: what the statement's form reads of an argument is a datum of the evaluator, of the argument's type, no heavier than what was read; What is read of a type, as the plain data; From a contract over data to what a law's statement asks: the arguments are read, the call returns true, all that was there stays; What all laws' frames share: the bulk, the program's closed facts; Types without places: plain, and the program's kinds.Strip; Schemas: plain, as the evaluator has them, without places; What is read of a schema, as the plain data; What the frames of laws over schemas share; The program's closed facts, each by itself (all at once they ask more memory than a Lean process has); Relations as rows of bits: plain, and rel's functions that read; rel.back: who leads to a thing and is led to by it; rel.New: the rows of a list of pairs; rel.Close: the closure, by rows; The number of bits that are set, as the library reckons it; math/bits.OnesCount64; When two bits are set; rel.Loop: the least thing in a loop; The plain law of closeR: its bits are what is led to; The program's and the reference's check of names that must differ; The table's Find, whole; lattice.many, called, numbered. No condition. -/
import Derived.Laws.StructEq
import Derived.Shelf.Strings.OnBuilder
import Derived.Deep.Slices
import Derived.ChangeArms
import Derived.DataReads
import Derived.WalkKit
import Derived.ProofKit
import Derived.OpenShut
import Derived.Carry
import Derived.JoinedCond
import Derived.Test.YtadhpeooehkklaaGreatRows
import Derived.Test.YtadhpeooehkklaaGreatMg2
set_option linter.all false
set_option maxRecDepth 100000
namespace Go.Proofs.YtadhpeooehkklaaGreat
open Go Go.RowKit Dv Go.Proofs.Tryz
theorem zF {n m:Nat} {tk:List TkE}:∀ ds:List Nat,WeL n m tk (dInts ds).flatten (dInts ds).flatten
 | []=>rfl
 | b :: r=>⟨_,_,rfl,ay rfl,zF r⟩
theorem qT {n m:Nat} {tk:List TkE} {l:List DV} {ds:List Nat} (h:l=(dInts ds).flatten):WeL n m tk l (dInts ds).flatten:=by rw [h];exact zF ds
def iG (n e:Nat):List Nat:=List.range e ++ List.replicate (n - e) 0
theorem JU {n e:Nat} (h:e<=n):(iG n e).length=n:=by simp [iG];omega
theorem fillA_0 (n:Nat):(List.replicate n [DV.v (.int .i64 0)]).flatten=(dInts (iG n 0)).flatten:=by simp [iG,dInts]
theorem Qb (n:Nat):iG n n=List.range n:=by simp [iG]
theorem oB (ds:List Nat):(dInts ds).flatten=ds.map fun (i:Nat)=>DV.v (.int .i64 (i:Int)):=by
 induction ds with
 | nil=>rfl
 | cons x r ih=>simp only [dInts,List.map_cons,List.flatten_cons] at ih ⊢;rw [ih];all_goals rfl
theorem Gp {n e:Nat} (h:e < n):(dInts (iG n e)).flatten.take e ++ [DV.v (.int .i64 (e:Int))] ++ (dInts (iG n e)).flatten.drop (e + 1)=(dInts (iG n (e + 1))).flatten:=by
 simp only [oB,<- List.map_take,<- List.map_drop];have e1:(iG n e).take e=List.range e:=by simp [iG]
 have e2:(iG n e).drop (e + 1)=List.replicate (n - (e + 1)) 0:=by
  simp only [iG,List.drop_append,List.length_range];rw [List.drop_eq_nil_of_le (by simp),List.nil_append,List.drop_replicate];congr 1;omega
 rw [e1,e2];simp [iG,List.range_succ]
abbrev Ms (L:List ByteArray) (e:Nat):St:=
 ⟨[(3,⟨[],.loc 1 0⟩),(4,⟨[],.loc 3 0⟩),(16,⟨[],.v (.int .i64 (eV L).length)⟩),(17,⟨[],.v (.int .i64 e)⟩)],
  [[.sl 1 (eV L) (some 0),.v (.slice none 0 0)],[.loc 0 0],(dInts (iG (eV L).length e)).flatten,[.ms 2 1 0 (eV L).length (eV L).length]],[⟨(eV L).length,9,1,none⟩]⟩
def gm (L:List ByteArray) (ds:List Nat) (i:Nat):Bool:=decide (i=0) || !decide (L.getD (ds.getD i 0) av=L.getD (ds.getD (i - 1) 0) av)
def fy (L:List ByteArray) (ds:List Nat) (e:Nat):List Nat:=((List.range e).filter (gm L ds)).map fun i=>ds.getD i 0
theorem wg (L:List ByteArray) (ds:List Nat) (e:Nat):fy L ds (e + 1)=fy L ds e ++ (if gm L ds e=true then [ds.getD e 0] else []):=by
 unfold fy;rw [List.range_succ,List.filter_append,List.map_append];congr 1;cases h:gm L ds e<;>simp [h]
theorem JV (L:List ByteArray) (ds:List Nat) (e:Nat):(fy L ds e).length<=e:=by
 unfold fy;rw [List.length_map];exact Nat.le_trans (List.length_filter_le _ _) (by simp)
abbrev Un (L:List ByteArray) (ds:List Nat):St:=
 ⟨[(3,⟨[],.loc 1 0⟩),(4,⟨[],.pt [.sl 1 (dInts ds) none] 0⟩),(29,⟨[],.sl 1 (dInts ds) none⟩),(30,⟨[],.v (.int .i64 (eV L).length)⟩),(31,⟨[],.v (.int .i64 0)⟩)],
  [[.sl 1 (eV L) (some 0),.v (.slice none 0 0)],[.loc 0 0]],[⟨(eV L).length,9,1,none⟩]⟩
abbrev DC (L:List ByteArray) (ds aH:List Nat) (m e:Nat):St:=
 ⟨[(3,⟨[],.loc 1 0⟩),(4,⟨[],.pt [.sl 1 (dInts ds) none] 0⟩),(29,⟨[],.sl 1 (dInts ds) none⟩),(30,⟨[],.v (.int .i64 (eV L).length)⟩),(31,⟨[],.v (.int .i64 e)⟩)],
  [[.sl 1 (eV L) (some 0),.sl 1 (dInts aH) (some 1)],[.loc 0 0]],[⟨(eV L).length,9,1,none⟩,⟨m,3,1,none⟩]⟩
theorem getD_some {α:Type} {l:List α} {i:Nat} {x d:α} (h:l[i]? = some x):l.getD i d=x:=by simp [List.getD_eq_getElem?_getD,h]
theorem sA {α:Type} {l:List α} {i:Nat} {d:α} (h:i < l.length):l[i]? = some (l.getD i d):=by
 rw [gE h,List.getD_eq_getElem?_getD,gE h];all_goals rfl
theorem Uo {L:List ByteArray} {ds:List Nat} (pe:ds.Perm (List.range L.length)) (JS:∀ i j p q:Nat,i < j->ds[i]? = some p->ds[j]? = some q->CT L q p=false):iF L (fy L ds L.length):=by
 have hlen:ds.length=L.length:=by rw [pe.length_eq,List.length_range]
 let D:Nat->Nat:=fun i=>ds.getD i 0
 let T:Nat->ByteArray:=fun i=>L.getD (D i) av
 have hD:∀ i,i < L.length->ds[i]? = some (D i):=fun i hi=>sA (by omega)
 have hDn:∀ i,i < L.length->D i < L.length:=fun i hi=>by
  have:=pe.mem_iff.1 (mG (hD i hi));exact List.mem_range.1 this
 have hT:∀ i,i < L.length->L[D i]? = some (T i):=fun i hi=>sA (hDn i hi)
 have dq:∀ i j,i < j->j < L.length->T i=T j∨yW (T i) (T j)=true:=by
  intro i j jj hj;have h:=JS i j (D i) (D j) jj (hD i (by omega)) (hD j hj);unfold CT at h;by_cases he:T j=T i
  ·exact .inl he.symm
  ·rw [if_neg he] at h;rcases Iq h with h | h
   ·exact absurd h he
   ·exact .inr h
 have Sx:∀ i,i < L.length->gm L ds i=true->∀ j,j < i->yW (T j) (T i)=true:=by
  intro i hi hh j F0
  have bg:T i≠T (i - 1):=by
   intro he;unfold gm at hh;have:decide (i=0)=false:=by simp;omega
   rw [this] at hh;simp only [Bool.false_or,Bool.not_eq_true',decide_eq_false_iff_not] at hh;exact hh he
  have h1:yW (T (i - 1)) (T i)=true:=by
   rcases dq (i - 1) i (by omega) hi with h | h
   ·exact absurd h.symm bg
   ·exact h
  by_cases hj:j=i - 1
  ·rw [hj];exact h1
  ·rcases dq j (i - 1) (by omega) (by omega) with h | h
   ·rw [h];exact h1
   ·exact gC h h1
 have zr:∀ j,j < L.length->∃ k,k < L.length/\D k=j:=by
  intro j hj;have:=pe.mem_iff.2 (List.mem_range.2 hj);obtain ⟨k,hk⟩:=List.getElem?_of_mem this;have ee:=(gS hk).1;exact ⟨k,by omega,getD_some hk⟩
 let H:=(List.range L.length).filter (gm L ds)
 have hH:∀ (a i:Nat),H[a]? = some i->i < L.length/\gm L ds i=true:=fun a i h=>by
  have:=mG h;simp only [H,List.mem_filter,List.mem_range] at this;exact this
 have JW:∀ (a p:Nat),(fy L ds L.length)[a]? = some p->∃ i,H[a]? = some i/\D i=p:=by
  intro a p h;unfold fy at h;rw [List.getElem?_map] at h
  cases hh:H[a]? with
  | none=>rw [show (List.filter (gm L ds) (List.range L.length))[a]? = none from hh] at h;cases h
  | some i=>
   rw [show (List.filter (gm L ds) (List.range L.length))[a]? = some i from hh] at h;simp only [Option.map_some,oI] at h;exact ⟨i,rfl,h⟩
 have hinc:∀ (a b i k:Nat),a < b->H[a]? = some i->H[b]? = some k->i < k:=by
  intro a b i k yU hi hk;have hp:List.Pairwise (·< ·) H:=List.Pairwise.filter _ List.pairwise_lt_range;obtain ⟨ha,rfl⟩:=List.getElem?_eq_some_iff.1 hi;obtain ⟨hb,rfl⟩:=List.getElem?_eq_some_iff.1 hk;exact List.pairwise_iff_getElem.1 hp a b ha hb yU
 refine ⟨?_,?_,?_,?_⟩
 ·intro a p h;obtain ⟨i,hi,rfl⟩:=JW a p h;exact hDn i (hH a i hi).1
 ·intro a b p q s t yU hp hq hs ht;obtain ⟨i,hi,rfl⟩:=JW a p hp;obtain ⟨k,hk,rfl⟩:=JW b q hq;rw [hT i (hH a i hi).1] at hs;rw [hT k (hH b k hk).1] at ht;simp only [oI] at hs ht;rw [<- hs,<- ht];exact Sx k (hH b k hk).1 (hH b k hk).2 i (hinc a b i k yU hi hk)
 ·intro a p j s hp hs hj;obtain ⟨i,hi,rfl⟩:=JW a p hp;obtain ⟨uF,qI⟩:=hH a i hi;obtain ⟨k,hk,rfl⟩:=zr j (gS hj).1;rw [hT i uF] at hs;rw [hT k hk] at hj;simp only [oI] at hs hj;rcases Nat.lt_trichotomy k i with h | h | h
  ·have:=Sx i uF qI k h;rw [hs,hj,yW,lh] at this;cases this
  ·rw [h];exact Nat.le_refl _
  ·have h2:=JS i k (D i) (D k) h (hD i uF) (hD k hk);unfold CT at h2
   have he:L.getD (D k) av=L.getD (D i) av:=by
    show T k=T i;rw [hj,hs]
   rw [if_pos he] at h2;simp at h2;omega
 ·intro j s hj;obtain ⟨k,hk,rfl⟩:=zr j (gS hj).1;rw [hT k hk] at hj;simp only [oI] at hj;obtain ⟨i,⟨uF,Yi⟩,hmin⟩:=least (p:=fun i=>i < L.length/\T i=s) ⟨k,hk,hj⟩
  have qI:gm L ds i=true:=by
   unfold gm;by_cases h0:i=0
   ·simp [h0]
   ·have bg:¬ T i=T (i - 1):=fun he=>by
     have:=hmin (i - 1) ⟨by omega,by rw [<- he];exact Yi⟩;omega
    have e1:decide (L.getD (ds.getD i 0) av=L.getD (ds.getD (i - 1) 0) av)=false:=decide_eq_false bg;rw [e1];simp
  have hm:i∈H:=by simp only [H,List.mem_filter,List.mem_range];exact ⟨uF,qI⟩
  obtain ⟨a,ha⟩:=List.getElem?_of_mem hm;refine ⟨a,D i,?_,by rw [hT i uF,Yi]⟩;unfold fy;rw [List.getElem?_map];rw [show (List.filter (gm L ds) (List.range L.length))[a]? = some i from ha];rfl
theorem wh (L:List ByteArray) (hl:L.length<=1099511627776) :
  Ev prog 88 [.sl 1 (eV L) none] [] [] (fun r _ _=>∃ aH,iF L aH/\aH.length<=L.length/\r = .pt (de L aH) 0):=by
 have hN:=ch L;refine eG 71 [.tmp 2] func88 rfl ntmps88 rfl fun _ _ _ _=>?_;refine ⟨⟨by simp [hN,maxLen];omega,by simp [hN];omega⟩,?_⟩;refine ⟨⟨rfl,by omega,by omega,by omega⟩,?_⟩;refine lJ (fun e=>Ms L e) L.length (ap 4 rfl (by repeat' (first | exact rfl | exact ay rfl | exact qT (fillA_0 _) | refine ⟨_,_,rfl,?_,?_⟩)) rfl rfl rfl (by repeat' (first | exact trivial | exact ay rfl | exact qT (fillA_0 _) | refine ⟨⟨_,rfl,?_⟩,?_⟩))) ?_;intro e he;refine br ?_ ?_<;>intro h
 ·have aj:e < (eV L).length:=sU h;refine ⟨⟨by omega,by omega⟩,?_⟩;have e1:(dInts (iG (eV L).length e)).flatten.length=(eV L).length:=by rw [oB,List.length_map,JU (by omega)]
  refine ⟨by rw [e1];omega,?_⟩
  have cW:(dInts (iG (eV L).length e)).flatten.set (0 + (e:Int).toNat * 1) (DV.v (.int .i64 (e:Int)))=(dInts (iG (eV L).length (e + 1))).flatten:=by
   rw [show 0 + (e:Int).toNat * 1=e by omega,List.set_eq_take_append_cons_drop,if_pos (by rw [e1];omega),<- Gp aj];simp
  refine ⟨Ms L (e + 1),(ap 4 rfl (by repeat' (first | exact rfl | exact ay rfl | exact qT cW | exact aA (aF aj (by omega)) | refine ⟨_,_,rfl,?_,?_⟩)) rfl rfl rfl (by repeat' (first | exact trivial | exact ay rfl | exact qT cW | exact aA (aF aj (by omega)) | refine ⟨⟨_,rfl,?_⟩,?_⟩))),L.length - (e + 1),by omega,e + 1,rfl,by omega,rfl⟩
 ·have aM:e=(eV L).length:=by
   have:¬ e < (eV L).length:=sU h;omega
  subst aM;rw [Qb]
  have hms:∀ dk:List Nat,dk.length=(List.range (eV L).length).length->∀ bx:List (List DV),bx[2]? = some (dInts dk).flatten->∀ N0 n0 m0:Nat,N0<=2->Cc bx N0 n0 m0 (.sl 1 (dInts dk) none) (.ms 2 1 0 (eV L).length (eV L).length):=by
   intro dk hdk bx hb N0 n0 m0 hN0;simp only [Cc];refine Or.inr (Or.inr (Or.inl ⟨2,0,(eV L).length,_,?_,hN0,hb,?_,?_,?_⟩))
   ·rw [aZ,hdk,List.length_range]
   ·rw [List.drop_zero,List.take_of_length_le];rw [oB,List.length_map,aZ];omega
   ·intro x hx;simp only [dInts,List.mem_map] at hx;obtain ⟨_,_,rfl⟩:=hx;rfl
   ·intro x hx;rw [oB] at hx;obtain ⟨_,_,rfl⟩:=List.mem_map.1 hx;exact ⟨_,rfl⟩
  refine JR (ds:=List.range (eV L).length) rfl (by simp) (eV L).length (fun p hp=>List.mem_range.1 hp) (CT L) (P8 L) rfl (by simp [hN];omega)
   (fun dk=>[.pt [.sl 1 (dInts dk) none] 0,.pt [.pt [.sl 1 (eV L) none,.v (.slice none 0 0)] 0] 0])
   (fun dk hdk=>⟨_,_,rfl,Or.inr ⟨3,_,rfl,Nat.zero_le _,rfl,⟨_,_,rfl,hms dk hdk _ rfl 0 0 0 (Nat.zero_le _),rfl⟩⟩,ax⟩)
   (fun dk hdk hp i j p q hi hj=>JP L dk i j p q hi hj (by have:=hp p (mG hi);omega) (by have:=hp q (mG hj);omega)) rfl (fun ds pe JS=>?_)
  have bA:ds.length=(eV L).length:=by rw [pe.length_eq,List.length_range]
  have Yj:=hms ds (by rw [bA,List.length_range])
  refine L0 2 (Un L ds) rfl rfl rfl ⟨_,_,rfl,⟨_,_,rfl,⟨nL rfl,rfl⟩,_,_,rfl,rfl,rfl⟩,_,_,rfl,⟨_,_,rfl,⟨nL rfl,rfl⟩,rfl⟩,rfl⟩
   ⟨⟨_,rfl,⟨nL rfl,rfl⟩⟩,⟨_,rfl,Or.inr ⟨3,_,rfl,by decide,rfl,⟨_,_,rfl,Yj _ rfl 2 0 0 (by decide),rfl⟩⟩⟩,⟨_,rfl,Yj _ rfl 2 2 1 (by decide)⟩,⟨_,rfl,rfl⟩,⟨_,rfl,rfl⟩,trivial⟩ ?_
  refine bo (fun j st=>∃ e m:Nat,st=DC L ds (fy L ds e) m e/\m=(fy L ds e).length/\e<=(eV L).length/\j=(eV L).length - e) (eV L).length (DC L ds [] 0 0)
   (cL 2 ⟨0,3,1,none⟩ rfl rfl rfl pB rfl rfl wB) ⟨0,0,rfl,rfl,by omega,by omega⟩ ?_
  rintro j st ⟨e,m,rfl,hm,he,rfl⟩;have jC:=JV L ds e;refine br ?_ ?_<;>intro h
  ·have aj:e < (eV L).length:=sU h;obtain ⟨p,hp⟩:∃ p,ds[e]? = some p:=⟨_,gE (by omega)⟩
   have hpL:p < L.length:=by
    have:=pe.mem_iff.1 (mG hp);rw [List.mem_range] at this;omega
   obtain ⟨s,hs⟩:∃ s,L[p]? = some s:=⟨_,gE hpL⟩;refine iX (aD hp) ?_;have hgp:ds.getD e 0=p:=by simp [List.getD_eq_getElem?_getD,hp]
   have CM:L.getD p av=s:=by simp [List.getD_eq_getElem?_getD,hs]
   have bT:gm L ds e=true->fy L ds (e + 1)=fy L ds e ++ [p]:=fun hh=>by rw [wg,if_pos hh,hgp]
   have hold:gm L ds e=false->fy L ds (e + 1)=fy L ds e:=fun hh=>by rw [wg,if_neg (by rw [hh];decide),List.append_nil]
   have Is:gm L ds e=true->dInts (fy L ds e) ++ [[DV.v (.int .i64 (p:Int))]]=dInts (fy L ds (e + 1)):=fun hh=>by rw [bT hh];simp [dInts]
   by_cases h0:e=0
   ·subst h0;have hh:gm L ds 0=true:=by simp [gm]
    refine dI ?_;refine dS ?_;refine ⟨by rw [aZ,hm],⟨by simp [aZ,maxLen];omega,by simp [aZ];omega⟩,?_⟩;refine ⟨DC L ds (fy L ds 1) (m + 1) 1,(ap 2 rfl (by repeat' (first | exact rfl | exact ay rfl | exact aA (aF aj (by omega)) | exact dB (Is hh) rfl | refine ⟨_,_,rfl,?_,?_⟩)) rfl rfl rfl (by repeat' (first | exact trivial | exact ay rfl | exact aA (aF aj (by omega)) | exact dB (Is hh) rfl | refine ⟨⟨_,rfl,?_⟩,?_⟩))),(eV L).length - 1,by omega,1,m + 1,rfl,by rw [bT hh,List.length_append,hm];rfl,by omega,rfl⟩
   ·obtain ⟨p',qJ⟩:∃ p',ds[e - 1]? = some p':=⟨_,gE (by omega)⟩
    have hpL':p' < L.length:=by
     have:=pe.mem_iff.1 (mG qJ);rw [List.mem_range] at this;omega
    obtain ⟨s',tP⟩:∃ s',L[p']? = some s':=⟨_,gE hpL'⟩;have hgp':ds.getD (e - 1) 0=p':=by simp [List.getD_eq_getElem?_getD,qJ]
    have hgs':L.getD p' av=s':=by simp [List.getD_eq_getElem?_getD,tP]
    have hhd:gm L ds e = !decide (s=s'):=by
     unfold gm;rw [hgp,hgp',CM,hgs'];simp [h0]
    have hz:IntKind.i64.wrap ((e:Int) - 1)=((e - 1:Nat):Int):=by rw [wrap64 (by omega) (by omega)];omega
    refine dI ?_;refine br (fun _=>?_) (fun h=>?_)
    ·refine iX (ij hs) ?_;refine ⟨[.v (.int .i64 (p':Int))],⟨by rw [hz];omega,by rw [hz];exact aD qJ⟩,?_⟩;refine iX (ij tP) ?_;refine br ?_ ?_<;>intro h2
     ·have hh:gm L ds e=true:=by
       rw [hhd];simp [au,h0] at h2;simpa using h2
      refine dS ?_;refine ⟨by rw [aZ,hm],⟨by simp [aZ,maxLen];omega,by simp [aZ];omega⟩,?_⟩;refine ⟨DC L ds (fy L ds (e + 1)) (m + 1) (e + 1),(ap 2 rfl (by repeat' (first | exact rfl | exact ay rfl | exact aA (aF aj (by omega)) | exact dB (Is hh) rfl | refine ⟨_,_,rfl,?_,?_⟩)) rfl rfl rfl (by repeat' (first | exact trivial | exact ay rfl | exact aA (aF aj (by omega)) | exact dB (Is hh) rfl | refine ⟨⟨_,rfl,?_⟩,?_⟩))),(eV L).length - (e + 1),by omega,e + 1,m + 1,rfl,by rw [bT hh,List.length_append,hm];rfl,by omega,rfl⟩
     ·have hh:gm L ds e=false:=by
       rw [hhd];simp [au,h0] at h2;simpa using h2
      have aJ:dInts (fy L ds e)=dInts (fy L ds (e + 1)):=by rw [hold hh]
      refine ⟨DC L ds (fy L ds (e + 1)) m (e + 1),(ap 2 rfl (gj (aF aj (by omega)) aJ) rfl rfl rfl (wB2 (aF aj (by omega)) aJ)),(eV L).length - (e + 1),by omega,e + 1,m,rfl,by rw [hold hh,hm],by omega,rfl⟩
    ·exfalso;have:decide ((e:Int)=0)=true:=sU h;simp at this;exact h0 this
  ·have aM:e=L.length:=by
    have:¬ e < (eV L).length:=sU h;omega
   subst aM;exact ⟨.pt (de L (fy L ds L.length)) 0,Or.inr ⟨0,_,rfl,Nat.zero_le _,rfl,ax⟩,_,Uo (by rw [<- hN];exact pe) JS,jC,rfl⟩
abbrev Ym (L:List ByteArray) (aH:List Nat) (e:Nat):St:=
 ⟨[(3,⟨[],.pt (de L aH) 0⟩),(10,⟨[],.sl 1 (eV L) none⟩),(11,⟨[],.v (.int .i64 (eV L).length)⟩),(12,⟨[],.v (.int .i64 e)⟩)],[],[]⟩
theorem Mt {α:Type}:∀ {l:List α},(∀ (i j:Nat) (x:α),j < i->l[i]? = some x->l[j]? ≠ some x)->l.Nodup
 | l,h=>by
  rw [List.nodup_iff_pairwise_ne,List.pairwise_iff_getElem];intro i j hi hj jj he;exact h j i l[j] jj (gE hj) (by rw [gE hi,he])
theorem pG (L:List ByteArray) (hl:L.length<=1099511627776) :
  Ev prog 95 [.sl 1 (eV L) none] [] [] (fun r _ _=>∃ z:Int,r = .v (.int .i64 z)/\(0<=z↔¬ L.Nodup)):=by
 have hN:=ch L;refine eG 28 [.tmp 2] func95 rfl ntmps95 rfl fun _ _ _ _=>?_;refine ki Ug rfl (wh L hl) ax (fun r hr=>?_);obtain ⟨aH,hT,jC,rfl⟩:=hr;refine lI (fun j st=>∃ e:Nat,st=Ym L aH e/\e<=L.length/\(∀ (i j:Nat) (x:ByteArray),i < e->j < i->L[i]? = some x->L[j]? ≠ some x)/\j=L.length - e) ⟨0,rfl,by omega,fun i j x hi=>by omega,rfl⟩ (ah ⟨_,rfl⟩ wA rfl rfl rfl wB) ?_;rintro j st ⟨e,rfl,he,hinv,rfl⟩;refine br ?_ ?_<;>intro h
 ·have aj:e < L.length:=sV hN h;obtain ⟨s,hs⟩:=gX aj;obtain ⟨q,p,hq,hp⟩:=hT.all e s hs;have dA:=hT.fst q p e s hq hp hs;refine iX (ij hs) ?_;refine cP vX (find_spec L aH s q p hT (by omega) hq hp) ?_;refine br ?_ ?_<;>intro h2
  ·have h2:p < e:=sU h2;refine ⟨(e:Int),rfl,⟨fun _ hnd=>?_,fun _=>by omega⟩⟩;rw [List.nodup_iff_pairwise_ne,List.pairwise_iff_getElem] at hnd;obtain ⟨h3,h4⟩:=List.getElem?_eq_some_iff.1 hp;obtain ⟨h5,h6⟩:=List.getElem?_eq_some_iff.1 hs;exact hnd p e h3 h5 h2 (by rw [h4,h6])
  ·have h2:¬ p < e:=sU h2;refine ⟨Ym L aH (e + 1),(ah ⟨_,rfl⟩ wA rfl rfl rfl (cX (aF aj (by omega)))),L.length - (e + 1),by omega,e + 1,rfl,by omega,fun i j x hi hj hx hjx=>?_,rfl⟩;by_cases yA:i=e
   ·subst yA;rw [hs] at hx;simp only [oI] at hx;subst hx;have:=hT.fst q p j s hq hp hjx;omega
   ·exact hinv i j x (by omega) hj hx hjx
 ·have aM:e=L.length:=by
   have:¬ e < L.length:=sV hN h;omega
  subst aM;refine ⟨-1,rfl,⟨fun h3=>by omega,fun h3=>?_⟩⟩;exact absurd (Mt fun i j x jj hi hj=>hinv i j x (gS hi).1 jj hi hj) h3
def sameWds:List Wd->List Wd->Bool
 | [],[]=>true
 | x :: r,y :: s=>decide (x.s=y.s) && sameWds r s
 | _,_=>false
theorem tQ:∀ {a b:List Wd},a.length≠b.length->sameWds a b=false
 | [],[],h=>(h rfl).elim
 | x :: r,y :: s,h=>by
  have:r.length≠s.length:=sU h;simp [sameWds,tQ this]
 | [],y :: s,_=>rfl
 | x :: r,[],_=>rfl
abbrev Bz (a b:List Wd) (e:Nat):St:=
 ⟨[(0,⟨[],.sl 2 (bJ a) none⟩),(1,⟨[],.sl 2 (bJ b) none⟩),(5,⟨[],.v (.int .i64 e)⟩)],[],[]⟩
theorem mr (a b:List Wd) (hs:a.length<=4611686018427387904) :
  aQ prog 206 [.sl 2 (bJ a) none,.sl 2 (bJ b) none] (.v (.bool (sameWds a b))):=by
 refine eG 28 [.tmp 4] func206 rfl ntmps206 rfl fun _ _ _ _=>?_;refine br ?_ ?_<;>intro h
 ·have bg:a.length≠b.length:=by have:=h;simp [aw] at this;omega
  exact congrArg (fun b=>DV.v (.bool b)) (tQ bg).symm
 ·have hl:a.length=b.length:=by have:=h;simp [aw] at this;omega
  refine bo (fun j st=>∃ e:Nat,st=Bz a b e/\e<=a.length/\sameWds a b=sameWds (a.drop e) (b.drop e)/\j=a.length - e) a.length
   (Bz a b 0) (ah ⟨_,rfl⟩ wA rfl rfl rfl wB) ⟨0,rfl,by omega,rfl,by omega⟩ ?_
  rintro j st ⟨e,rfl,he,aJ,rfl⟩;refine br ?_ ?_<;>intro h
  ·have aj:e < a.length:=by simpa [aw] using h
   obtain ⟨x,hx⟩:=gX aj;obtain ⟨y,hy⟩:∃ y,b[e]? = some y:=⟨_,gE (hl ▸ aj)⟩;rw [drop_cons hx,drop_cons hy] at aJ;refine dI ?_;refine ⟨ko x,⟨by omega,aT hx⟩,ko y,⟨by omega,aT hy⟩,?_⟩;refine br ?_ ?_<;>intro h
   ·have bg:x.s≠y.s:=sU h;refine (congrArg (fun b=>DV.v (.bool b)) ?_:_=_);rw [aJ];simp [sameWds,bg]
   ·have bg:x.s=y.s:=sU h;refine ⟨Bz a b (e + 1),(ah ⟨_,rfl⟩ wA rfl rfl rfl (cX (aF aj (by omega)))),a.length - (e + 1),by omega,e + 1,rfl,by omega,?_,rfl⟩;rw [aJ];simp [sameWds,bg]
  ·have aM:e=a.length:=by have:=h;simp [aw] at this;omega
   refine (congrArg (fun b=>DV.v (.bool b)) ?_:_=_);rw [aJ,aM,hl];simp [sameWds];rw [<- hl];simp [sameWds]
def bW (p q:Ph):Bool:=(p.bare == q.bare) && decide (p.wide=q.wide) && sameWds p.label q.label && decide (p.ck=q.ck) && decide (p.cn=q.cn) && sameWds p.cl q.cl
theorem mv (p q:Ph) (tl tl':List DV) (hs:p.wt<=4611686018427387904) (ht:CcL [] 0 0 0 tl tl) (oZ:CcL [] 0 0 0 tl' tl') :
  aQ prog 177 [.agg (Gi p tl),.agg (Gi q tl')] (.v (.bool (bW p q))):=by
 refine eG 51 [.tmp 4] func177 rfl ntmps177 rfl fun _ _ _ _=>?_;have h1:=bG p.label;have h2:=bG p.cl;simp only [Ph.wt] at hs;refine br ?_ ?_<;>intro h
 ·refine cP Mh (mr p.label q.label (by omega)) ?_;refine br ?_ ?_<;>intro h2
  ·refine cP Mh (mr p.cl q.cl (by omega)) ?_;refine (congrArg (fun b=>DV.v (.bool b)) ?_:_=_);simp [aq] at h h2;simp [bW,aq,h,h2]
  ·refine (congrArg (fun b=>DV.v (.bool b)) ?_:_=_);simp [aq] at h h2;simp [bW,aq,h]
   grind
 ·refine (congrArg (fun b=>DV.v (.bool b)) ?_:_=_);simp [aq] at h;simp [bW]
  grind
def lj (h k:Hd):Bool:=decide (h.ag=k.ag) && decide (h.lo=k.lo) && decide (h.hi=k.hi) && decide (h.most=k.most) && decide (h.name.s=k.name.s) && sameWds h.af k.af
mutual
def sameTy:Ty->Ty->Bool
 | .mk h ps,.mk k qs=>lj h k && samePts ps qs
def samePts:Pts->Pts->Bool
 | .nil,.nil=>true
 | .cons p t r,.cons q u s=>decide (p.name.s=q.name.s) && bW p q && sameTy t u && samePts r s
 | _,_=>false
end
theorem tR:∀ {a b:Pts},a.len≠b.len->samePts a b=false
 | .nil,.nil,h=>(h rfl).elim
 | .cons p t r,.cons q u s,h=>by
  have:r.len≠s.len:=by simpa [Pts.len] using h
  simp [samePts,tR this]
 | .nil,.cons _ _ _,_=>by simp [samePts]
 | .cons _ _ _,.nil,_=>by simp [samePts]
def jH (h:Hd):Hd:=
 ⟨h.ag,0,if h.ag=2 then h.lo else 0,if h.ag=2 then h.hi else 0,if h.ag=3∨h.ag=5 then h.most else 0,if h.ag=4 then h.af else [],if h.ag=9 then h.name else ⟨av,0⟩⟩
def mask:Ty->Ty
 | .mk h ps=>.mk (jH h) (if 4 < h.ag/\h.ag < 9 then ps else .nil)
theorem zG (bx:List (List DV)) (N n m:Nat) (t:Ty):CcL bx N n m (ei t) (ei t):=by
 obtain ⟨h,ps⟩:=t;simp only [ei,CcL,Cc]
 repeat' (first | exact rfl | exact trivial | exact Or.inr (Or.inl ⟨_,rfl⟩) | refine ⟨_,_,rfl,?_,?_⟩)
abbrev Gq (a b:Ty) (e:Nat):St:=
 ⟨[(2,⟨[],.loc 0 0⟩),(3,⟨[],.loc 1 0⟩),(5,⟨[],.v (.int .i64 e)⟩)],[ei a,ei b],[]⟩
theorem nK:∀ (n:Nat) (a b:Ty),a.wt<=n->a.wt<=4611686018427387904 ->
  aQ prog 205 [.agg (ei a),.agg (ei b)] (.v (.bool (sameTy a b)))
 | 0,a,b,hn,_=>by have:=a.er;omega
 | n + 1,.mk h ps,.mk k qs,hn,cC=>by
  simp only [Ty.wt,Hd.wt] at hn cC;have hl:=bG h.af;have mZ:=ps.fZ;refine eG 98 [.tmp 4] func205 rfl ntmps205 rfl fun _ _ _ _=>?_;refine br ?_ ?_<;>intro hA
  ·simp [au] at hA;obtain ⟨⟨⟨⟨e1,e2⟩,e3⟩,e4⟩,e5⟩:=hA;refine cP Mh (mr h.af k.af (by omega)) ?_;refine br ?_ ?_<;>intro hB
   ·refine (congrArg (fun b=>DV.v (.bool b)) ?_:_=_);simp [au,e1,e2,e3,e4,e5,aK] at hB;simp only [sameTy,lj];rcases hB with hB | hB
    ·simp [hB]
    ·have:ps.len≠qs.len:=by omega
     simp [tR this]
   ·simp [au,e1,e2,e3,e4,e5,aK] at hB;obtain ⟨e6,e7⟩:=hB;have e8:ps.len=qs.len:=by omega
    have eh:sameTy (.mk h ps) (.mk k qs)=samePts ps qs:=by simp [sameTy,lj,e1,e2,e3,e4,e5,e6]
    refine bo (fun j st=>∃ e:Nat,st=Gq (.mk h ps) (.mk k qs) e/\e<=ps.len/\samePts ps qs=samePts (ps.drop e) (qs.drop e)/\j=ps.len - e) ps.len
     (Gq (.mk h ps) (.mk k qs) 0) (ah ⟨_,rfl⟩ wA rfl rfl rfl wB) ⟨0,rfl,by omega,rfl,by omega⟩ ?_
    rintro j st ⟨e,rfl,he,aJ,rfl⟩;refine br ?_ ?_<;>intro hL
    ·have aj:e < ps.len:=by simpa [aK] using hL
     obtain ⟨p,t,hx⟩:=Pts.eN aj;obtain ⟨q,u,hy⟩:=Pts.eN (e8 ▸ aj);rw [Pts.drop_cons hx,Pts.drop_cons hy] at aJ;have yB:=Pts.gG (mG hx);obtain ⟨t,ts⟩:=t;obtain ⟨u,us⟩:=u;apply ox (fun _=>false) 10 11 [0,1,2,3,4,5,6,7,8,9,10,11,12,13] [0,1,2,3,4,5,6,7,8,9,11,10,12,13] 2 3 mo (by decide +kernel)
     ·refine ⟨_,⟨by omega,cd hx⟩,_,⟨by omega,cd hy⟩,?_⟩;refine (?_:@Eq St _ _);exact rfl
     ·refine ⟨_,⟨by omega,cd hx⟩,_,⟨by omega,cd hy⟩,?_⟩;refine (⟨rfl,rfl,?_⟩:_/\_/\_)
      repeat' (first | exact trivial | refine ⟨rfl,?_⟩)
     ·rfl
     refine br ?_ ?_<;>intro hC
     ·have hC:p.name.s=q.name.s:=sU hC;refine cP Mf (mv p q (ei (.mk t ts)) (ei (.mk u us)) (by omega) (zG _ _ _ _ _) (zG _ _ _ _ _)) ?_;refine br ?_ ?_<;>intro hD
      ·have hD:bW p q=true:=by simpa [au,hC] using hD
       refine cP nJ (nK n (.mk t ts) (.mk u us) (by omega) (by omega)) ?_;refine br ?_ ?_<;>intro hE
       ·refine (congrArg (fun b=>DV.v (.bool b)) ?_:_=_);rw [eh,aJ];simp [au,hC,hD] at hE;simp [samePts,hE]
       ·simp [au,hC,hD] at hE;refine ⟨Gq (.mk h ps) (.mk k qs) (e + 1),(ah ⟨_,rfl⟩ wA rfl rfl rfl (cX (aF aj (by omega)))),ps.len - (e + 1),by omega,e + 1,rfl,by omega,?_,rfl⟩;rw [aJ];simp [samePts,hC,hD,hE]
      ·have hD:bW p q=false:=by simpa [au,hC] using hD
       refine (congrArg (fun b=>DV.v (.bool b)) ?_:_=_);rw [eh,aJ];simp [samePts,hD]
     ·have hC:p.name.s≠q.name.s:=sU hC;refine (congrArg (fun b=>DV.v (.bool b)) ?_:_=_);rw [eh,aJ];simp [samePts,hC]
    ·have aM:e=ps.len:=by have:=hL;simp [aK] at this;omega
     refine (congrArg (fun b=>DV.v (.bool b)) ?_:_=_);rw [eh,aJ,aM,Pts.dr,e8,Pts.dr];simp [samePts]
  ·refine (congrArg (fun b=>DV.v (.bool b)) ?_:_=_);simp [au] at hA;simp only [sameTy,lj]
   grind
theorem DD (t:Ty) (cC:t.wt<=4611686018427387904) :
  aQ prog 208 [.agg (ei t)] (.v (.bool (sameTy t cq))):=by
 obtain ⟨h,ps⟩:=t;refine eG 6 [.tmp 2] func208 rfl ntmps208 rfl fun _ _ _ _=>?_;refine cP nJ (nK _ (.mk h ps) cq (Nat.le_refl _) cC) ?_;exact (rfl:_=_)
theorem Gr (t:Ty) (cC:t.wt<=4611686018427387904) :
  aQ prog 175 [.agg (ei t)] (.v (.bool (sameTy t (mask t)))):=by
 obtain ⟨h,ps⟩:=t
 have key:∀ (h':Hd) (ps':Pts),jH h=h' -> (if 4 < h.ag/\h.ag < 9 then ps else .nil)=ps' ->
   aQ prog 205 [.agg (ei (.mk h ps)),.agg (ei (.mk h' ps'))] (.v (.bool (sameTy (.mk h ps) (mask (.mk h ps))))):=by
  rintro h' ps' rfl rfl;exact nK _ (.mk h ps) _ (Nat.le_refl _) cC
 obtain ⟨ag,aS,lo,hi,most,af,name⟩:=h;by_cases hr:2<=ag/\ag<=9
 ·obtain hk | hk | hk | hk | hk | hk | hk | hk:ag=2∨ag=3∨ag=4∨ag=5∨ag=6∨ag=7∨ag=8∨ag=9:=by omega
  ·subst hk;refine eG 53 [.tmp 2] func175 rfl ntmps175 rfl fun _ _ _ _=>?_;refine cP nJ (key ⟨2,0,lo,hi,0,[],⟨av,0⟩⟩ .nil (by simp [jH]) (by simp)) ?_;exact (rfl:_=_)
  ·subst hk;refine eG 53 [.tmp 2] func175 rfl ntmps175 rfl fun _ _ _ _=>?_;refine cP nJ (key ⟨3,0,0,0,most,[],⟨av,0⟩⟩ .nil (by simp [jH]) (by simp)) ?_;exact (rfl:_=_)
  ·subst hk;refine eG 53 [.tmp 2] func175 rfl ntmps175 rfl fun _ _ _ _=>?_;refine cP nJ (key ⟨4,0,0,0,0,af,⟨av,0⟩⟩ .nil (by simp [jH]) (by simp)) ?_;exact (rfl:_=_)
  ·subst hk;refine eG 53 [.tmp 2] func175 rfl ntmps175 rfl fun _ _ _ _=>?_;refine cP nJ (key ⟨5,0,0,0,most,[],⟨av,0⟩⟩ ps (by simp [jH]) (by simp)) ?_;exact (rfl:_=_)
  ·subst hk;refine eG 53 [.tmp 2] func175 rfl ntmps175 rfl fun _ _ _ _=>?_;refine cP nJ (key ⟨6,0,0,0,0,[],⟨av,0⟩⟩ ps (by simp [jH]) (by simp)) ?_;exact (rfl:_=_)
  ·subst hk;refine eG 53 [.tmp 2] func175 rfl ntmps175 rfl fun _ _ _ _=>?_;refine cP nJ (key ⟨7,0,0,0,0,[],⟨av,0⟩⟩ ps (by simp [jH]) (by simp)) ?_;exact (rfl:_=_)
  ·subst hk;refine eG 53 [.tmp 2] func175 rfl ntmps175 rfl fun _ _ _ _=>?_;refine cP nJ (key ⟨8,0,0,0,0,[],⟨av,0⟩⟩ ps (by simp [jH]) (by simp)) ?_;exact (rfl:_=_)
  ·subst hk;refine eG 53 [.tmp 2] func175 rfl ntmps175 rfl fun _ _ _ _=>?_;refine cP nJ (key ⟨9,0,0,0,0,[],name⟩ .nil (by simp [jH]) (by simp)) ?_;exact (rfl:_=_)
 ·refine eG 53 [.tmp 2] func175 rfl ntmps175 rfl fun _ _ _ _=>?_;refine br (fun c=>?_) (fun c1=>?_)
  ·have:ag=2:=of_decide_eq_true c;omega
  refine br (fun c=>?_) (fun c2=>?_)
  ·simp [au] at c;omega
  refine br (fun c=>?_) (fun c3=>?_)
  ·have:ag=4:=of_decide_eq_true c;omega
  refine br (fun c=>?_) (fun c4=>?_)
  ·simp [aq] at c;omega
  refine br (fun c=>?_) (fun c5=>?_)
  ·have:ag=9:=of_decide_eq_true c;omega
  have e1:¬ ag=2:=of_decide_eq_false c1;have e3:¬ ag=4:=of_decide_eq_false c3;have e5:¬ ag=9:=of_decide_eq_false c5;simp [au,aq] at c2 c4;refine cP nJ (key ⟨ag,0,0,0,0,[],⟨av,0⟩⟩ .nil (by simp [jH,e1,c2,e3,e5]) (by simp;omega)) ?_;exact (rfl:_=_)
abbrev Ft:Type:=Int × Int
def Ft.d (f:Ft):DV:=.agg [.v (.int .i64 f.1),.v (.int .i64 f.2)]
def badWd:List Wd->Ft
 | []=>(0,0)
 | w :: r=>if bc w.s then badWd r else (9,w.a)
def bX (l:List Wd):Ft:=
 if l.length<=32 then badWd l else (8,((l[32]?).getD (⟨av,0⟩:Wd)).a)
abbrev BA (l:List Wd) (e:Nat):St:=
 ⟨[(0,⟨[],.sl 2 (bJ l) none⟩),(2,⟨[],.loc 0 0⟩),(3,⟨[],.v (.int .i64 e)⟩)],[[.v (.int .i64 0),.v (.int .i64 0)]],[]⟩
theorem mw (l:List Wd) (hs:wdsWt l<=4611686018427387904) :
  aQ prog 173 [.sl 2 (bJ l) none] (bX l).d:=by
 have nu:=bG l;refine eG 32 [.cell 2 45] func173 rfl ntmps173 rfl fun _ _ _ _=>?_;refine br ?_ ?_<;>intro h
 ·have aj:32 < l.length:=by simp [aw] at h;omega
  obtain ⟨x,hx⟩:=gX aj;have:bX l=(8,x.a):=by simp [bX,Nat.not_le.2 aj,hx]
  refine ⟨ko x,⟨by omega,aT hx⟩,_,?_,rfl⟩;rw [this];exact ax
 ·have dq:l.length<=32:=by simp [aw] at h;omega
  refine bo (fun j st=>∃ e:Nat,st=BA l e/\e<=l.length/\badWd l=badWd (l.drop e)/\j=l.length - e) l.length
   (BA l 0) (ah ⟨_,rfl⟩ wA rfl rfl rfl wB) ⟨0,rfl,by omega,rfl,by omega⟩ ?_
  rintro j st ⟨e,rfl,he,aJ,rfl⟩;refine br ?_ ?_<;>intro hL
  ·have aj:e < l.length:=by simpa [aw] using hL
   obtain ⟨x,hx⟩:=gX aj;rw [drop_cons hx] at aJ;have qg:=iU (mG hx);refine ⟨ko x,⟨by omega,aT hx⟩,?_⟩;refine cP Ds (jq x.s (by omega)) ?_;refine br ?_ ?_<;>intro hN
   ·have hN:bc x.s=false:=sU hN;have:bX l=(9,x.a):=by simp [bX,dq,aJ,badWd,hN]
    refine ⟨ko x,⟨by omega,aT hx⟩,_,?_,rfl⟩;rw [this];exact ax
   ·have hN:bc x.s=true:=sU hN;refine ⟨BA l (e + 1),(ah ⟨_,rfl⟩ wA rfl rfl rfl (cX (aF aj (by omega)))),l.length - (e + 1),by omega,e + 1,rfl,by omega,?_,rfl⟩;rw [aJ];simp [badWd,hN]
  ·have aM:e=l.length:=by simp [aw] at hL;omega
   have:bX l=(0,0):=by simp [bX,dq,aJ,aM,badWd]
   refine ⟨_,?_,rfl⟩;rw [this];exact ax
def bO (l:List Wd) (s:ByteArray):Bool:=l.any fun w=>decide (w.s=s)
def aG (l:List Wd) (i:Nat) (x:Wd):Int:=
 if bc x.s then (if bO (l.take i) x.s then 10 else 0) else 9
abbrev wi (l:List Wd) (i e:Nat):St:=
 ⟨[(0,⟨[],.sl 2 (bJ l) none⟩),(1,⟨[],.v (.int .i64 i)⟩),(5,⟨[],.v (.int .i64 e)⟩)],[],[]⟩
theorem pf (l:List Wd) (i:Nat) (x:Wd) (hs:wdsWt l<=4611686018427387904) (hx:l[i]? = some x) :
  aQ prog 176 [.sl 2 (bJ l) none,.v (.int .i64 i)] (.v (.int .i64 (aG l i x))):=by
 have nu:=bG l;have hi:=(gS hx).1;have qg:=iU (mG hx);refine eG 29 [.tmp 4] func176 rfl ntmps176 rfl fun _ _ _ _=>?_;refine ⟨ko x,⟨by omega,aT hx⟩,?_⟩;refine cP Ds (jq x.s (by omega)) ?_;refine br ?_ ?_<;>intro hN
 ·have hN:bc x.s=false:=sU hN;refine (congrArg (fun z=>DV.v (.int .i64 z)) ?_:_=_);simp [aG,hN]
 ·have hN:bc x.s=true:=sU hN
  refine bo (fun j st=>∃ e:Nat,st=wi l i e/\e<=i/\bO (l.take e) x.s=false/\j=i - e) i
   (wi l i 0) (ah ⟨_,rfl⟩ wA rfl rfl rfl wB) ⟨0,rfl,by omega,rfl,by omega⟩ ?_
  rintro j st ⟨e,rfl,he,aJ,rfl⟩;refine br ?_ ?_<;>intro hL
  ·have aj:e < i:=sU hL;obtain ⟨y,hy⟩:∃ y,l[e]? = some y:=⟨_,gE (by omega)⟩;refine dI ?_;refine ⟨ko y,⟨by omega,aT hy⟩,ko x,⟨by omega,aT hx⟩,?_⟩;refine br ?_ ?_<;>intro hE
   ·have hE:y.s=x.s:=sU hE;refine (congrArg (fun z=>DV.v (.int .i64 z)) ?_:_=_)
    have:bO (l.take i) x.s=true:=by
     simp only [bO,List.any_eq_true];exact ⟨y,List.mem_take_iff_getElem.2 ⟨e,by omega,(gS hy).2⟩,by simpa using hE⟩
    simp [aG,hN,this]
   ·have hE:¬ y.s=x.s:=sU hE;refine ⟨wi l i (e + 1),(ah ⟨_,rfl⟩ wA rfl rfl rfl (cX (aF aj (by omega)))),i - (e + 1),by omega,e + 1,rfl,by omega,?_,rfl⟩;rw [List.take_add_one,hy];simp only [bO,List.any_append] at aJ ⊢;simp [aJ,hE]
  ·have aM:e=i:=by have:=of_decide_eq_false hL;omega
   refine (congrArg (fun z=>DV.v (.int .i64 z)) ?_:_=_);subst aM;simp [aG,hN,aJ]
def pNames:Pts->List Wd
 | .nil=>[]
 | .cons p _ r=>p.name :: pNames r
theorem gH:∀ ps:Pts,(pNames ps).length=ps.len
 | .nil=>rfl
 | .cons p t r=>by simp [pNames,Pts.len,gH r]
theorem gI:∀ {ps:Pts} {j:Nat} {p:Ph} {t:Ty},ps.toList[j]? = some (p,t)->(pNames ps)[j]? = some p.name
 | .nil,j,p,t,h=>by simp [Pts.toList] at h
 | .cons q u r,0,p,t,h=>by
  simp only [Pts.toList,List.getElem?_cons_zero,oI,Prod.mk.injEq] at h;obtain ⟨rfl,rfl⟩:=h;simp [pNames]
 | .cons q u r,j + 1,p,t,h=>by
  simp only [Pts.toList,List.getElem?_cons_succ] at h;simp only [pNames,List.getElem?_cons_succ];exact gI h
theorem sB:∀ ps:Pts,wdsWt (pNames ps)<=ps.wt
 | .nil=>Nat.le_refl _
 | .cons p t r=>by
  have:=sB r;simp only [pNames,wdsWt,Pts.wt,Ph.wt] at this ⊢;omega
abbrev BB (ps:Pts) (l:List Wd) (n e:Nat):St:=
 ⟨[(0,⟨[],.sl 18 (gd ps) none⟩),(3,⟨[],.sl 2 (bJ l) (some 0)⟩),(4,⟨[],.v (.int .i64 e)⟩)],[],[⟨n,27,2,none⟩]⟩
theorem BC (ps:Pts) (hs:ps.wt<=1099511627776):aQ prog 207 [.sl 18 (gd ps) none] (.sl 2 (bJ (pNames ps)) none):=by
 have mZ:=ps.fZ;refine eG 20 [.tmp 2] func207 rfl ntmps207 rfl fun _ _ _ _=>?_
 refine bo (fun j st=>∃ (e:Nat),st=BB ps ((pNames ps).take e) e e/\e<=ps.len/\j=ps.len - e) ps.len
  (BB ps [] 0 0) (fu ⟨0,27,2,none⟩ rfl ⟨_,rfl⟩ rfl wA rfl rfl lY) ⟨0,by simp,by omega,by omega⟩ ?_
 rintro j st ⟨e,rfl,he,rfl⟩;refine br ?_ ?_<;>intro hL
 ·have aj:e < ps.len:=by simpa [aK] using hL
  obtain ⟨p,t,hx⟩:=Pts.eN aj;refine iX (cd hx) ?_;refine ⟨by simp [aw,gH];omega,⟨by simp [aw,gH,maxLen];omega,by simp [aw,gH];omega⟩,?_⟩;refine ⟨BB ps ((pNames ps).take (e + 1)) (e + 1) (e + 1),(ah ⟨_,rfl⟩ wA rfl rfl rfl (wB2 (aF aj (by omega)) (zD (gI hx)))),ps.len - (e + 1),by omega,e + 1,rfl,by omega,rfl⟩
 ·have aM:e=ps.len:=by simp [aK] at hL;omega
  rw [aM,List.take_of_length_le (by rw [gH];omega)];exact ⟨_,ax,rfl⟩
mutual
def Ty.cnt:Ty->Nat
 | .mk _ ps=>1 + ps.cnt
def Pts.cnt:Pts->Nat
 | .nil=>0
 | .cons p t r=>(if p.bare then 0 else t.cnt) + r.cnt
end
mutual
def Ty.deep:Ty->Nat
 | .mk _ ps=>ps.deep + 1
def Pts.deep:Pts->Nat
 | .nil=>0
 | .cons p t r=>max (if p.bare then 0 else t.deep) r.deep
end
mutual
theorem Ty.eO:∀ t:Ty,t.cnt<=t.wt
 | .mk h ps=>by have:=Pts.eO ps;simp only [Ty.cnt,Ty.wt,Hd.wt];omega
theorem Pts.eO:∀ ps:Pts,ps.cnt<=ps.wt
 | .nil=>Nat.le_refl _
 | .cons p t r=>by
  have:=Ty.eO t;have:=Pts.eO r;simp only [Pts.cnt,Pts.wt];split<;>omega
end
mutual
theorem Ty.oC:∀ t:Ty,t.deep<=t.wt
 | .mk h ps=>by have:=Pts.oC ps;simp only [Ty.deep,Ty.wt,Hd.wt];omega
theorem Pts.oC:∀ ps:Pts,ps.deep<=ps.wt
 | .nil=>Nat.le_refl _
 | .cons p t r=>by
  have:=Ty.oC t;have:=Pts.oC r;simp only [Pts.deep,Pts.wt];split<;>omega
end
abbrev BD (t:Ty) (e n d:Nat):St:=
 ⟨[(1,⟨[],.loc 0 0⟩),(4,⟨[],.v (.int .i64 n)⟩),(5,⟨[],.v (.int .i64 d)⟩),(6,⟨[],.v (.int .i64 e)⟩)],[ei t],[]⟩
theorem kU:∀ (k:Nat) (t:Ty),t.wt<=k->t.wt<=1099511627776 ->
  aQ prog 35 [.agg (ei t)] (.tup [.v (.int .i64 t.cnt),.v (.int .i64 t.deep)])
 | 0,t,hn,_=>by have:=t.er;omega
 | k + 1,.mk h ps,hn,cC=>by
  simp only [Ty.wt,Hd.wt] at hn cC;have mZ:=ps.fZ;have hc:=ps.eO;have lE:=ps.oC;refine eG 42 [.tmp 2,.tmp 3] func35 rfl ntmps35 rfl fun _ _ _ _=>?_
  refine bo (fun j st=>∃ (e n d:Nat),st=BD (.mk h ps) e n d/\e<=ps.len/\n + (ps.drop e).cnt=1 + ps.cnt/\max d (ps.drop e).deep=ps.deep/\j=ps.len - e) ps.len
   (BD (.mk h ps) 0 1 0) (ah ⟨_,rfl⟩ wA rfl rfl rfl wB) ⟨0,1,0,rfl,by omega,rfl,by simp [Pts.drop],by omega⟩ ?_
  rintro j st ⟨e,n,d,rfl,he,bg,Lh,rfl⟩;refine br ?_ ?_<;>intro hL
  ·have aj:e < ps.len:=by simpa [aK] using hL
   obtain ⟨p,t,hx⟩:=Pts.eN aj;have yB:=Pts.gG (mG hx);rw [Pts.drop_cons hx] at bg Lh;simp only [Pts.cnt,Pts.deep] at bg Lh;have Li:=t.eO;have hdt:=t.oC;refine iX (cd hx) ?_;refine br ?_ ?_<;>intro hB
   ·rw [if_pos hB] at bg Lh;exact rE ⟨_,by omega,e + 1,n,d,rfl,by omega,by omega,by omega,rfl⟩ (ah ⟨_,rfl⟩ wA rfl rfl rfl (cX (aF aj (by omega))))
   ·rw [if_neg (by simp [hB])] at bg Lh;obtain ⟨u,us⟩:=t;refine iX (cd hx) ?_;refine cP PZ (kU k (.mk u us) (by omega) (by omega)) ?_;have CU:IntKind.i64.wrap ((n:Int) + (Ty.mk u us).cnt)=((n + (Ty.mk u us).cnt:Nat):Int):=by rw [wrap64 (by omega) (by omega)];omega
    refine br ?_ ?_<;>intro hD
    ·have hD:d < (Ty.mk u us).deep:=sU hD;exact ⟨BD (.mk h ps) (e + 1) (n + (Ty.mk u us).cnt) (Ty.mk u us).deep,(ah ⟨_,rfl⟩ wA rfl rfl rfl (wB2 CU (aF aj (by omega)))),ps.len - (e + 1),by omega,e + 1,_,_,rfl,by omega,by omega,by omega,rfl⟩
    ·have hD:¬ d < (Ty.mk u us).deep:=sU hD;exact ⟨BD (.mk h ps) (e + 1) (n + (Ty.mk u us).cnt) d,(ah ⟨_,rfl⟩ wA rfl rfl rfl (wB2 CU (aF aj (by omega)))),ps.len - (e + 1),by omega,e + 1,_,_,rfl,by omega,by omega,by omega,rfl⟩
  ·have aM:e=ps.len:=by simp [aK] at hL;omega
   rw [aM,Pts.dr] at bg Lh;simp only [Pts.cnt,Pts.deep] at bg Lh;have e1:IntKind.i64.wrap ((d:Int) + 1)=((Ty.mk h ps).deep:Int):=by rw [wrap64 (by omega) (by omega)];simp only [Ty.deep];omega
   have e2:(n:Int)=((Ty.mk h ps).cnt:Int):=by simp only [Ty.cnt];omega
   refine ⟨_,?_,rfl⟩;rw [<- e1,<- e2];exact ax
def wD (f:Ft) (n:Int):DV:=.agg [.v (.int .i64 f.1),.v (.int .i64 f.2),.v (.int .i64 n)]
theorem eF (f:Ft) (n e a:Int):aQ prog 174 [wD f n,.v (.int .i64 e),.v (.int .i64 a)] (wD (e,a) n):=by
 refine eG 13 [.cell 6 192] func174 rfl ntmps174 rfl fun _ _ _ _=>?_;exact ⟨_,ax,rfl⟩
def bf (p:Ph):Ft:=
 if p.ck=0 then (if p.cn=0/\p.cl=[] then (0,0) else (19,p.name.a))
 else if p.ck < 0∨3 < p.ck then (14,p.ca)
 else if (p.ck=1/\p.cn < 1)∨(p.ck=2/\(p.cn < 0∨4096 < p.cn))∨(p.ck=3/\p.cn≠0) then (20,p.ca)
 else bX p.cl
theorem yX (p:Ph) (tl:List DV) (hs:p.wt<=4611686018427387904) :
  aQ prog 209 [.agg (Gi p tl)] (bf p).d:=by
 simp only [Ph.wt] at hs;refine eG 73 [.cell 2 45] func209 rfl ntmps209 rfl fun _ _ _ _=>?_;refine br ?_ ?_<;>intro h0
 ·have h0:p.ck=0:=sU h0;refine br ?_ ?_<;>intro h1
  ·have:bf p=(19,p.name.a):=by
    simp [au,aw] at h1;simp only [bf,h0,if_true];rw [if_neg];rintro ⟨h2,h3⟩;rcases h1 with h1 | h1
    ·exact h1 h2
    ·simp [h3] at h1
   refine ⟨_,?_,rfl⟩;rw [this];exact ax
  ·have:bf p=(0,0):=by
    simp [au,aw] at h1;simp [bf,h0,h1.1,h1.2]
   refine ⟨_,?_,rfl⟩;rw [this];exact ax
 ·have h0:¬ p.ck=0:=sU h0;refine br ?_ ?_<;>intro h1
  ·have:bf p=(14,p.ca):=by
    simp [au] at h1;simp [bf,h0,h1]
   refine ⟨_,?_,rfl⟩;rw [this];exact ax
  ·simp [au] at h1;refine br ?_ ?_<;>intro h2
   ·have:bf p=(20,p.ca):=by
     simp [au,aq] at h2;simp only [bf,h0,if_false];rw [if_neg (by omega),if_pos (by omega)]
    refine ⟨_,?_,rfl⟩;rw [this];exact ax
   ·have hc:bf p=bX p.cl:=by
     simp [au,aq] at h2;simp only [bf,h0,if_false];rw [if_neg (by omega),if_neg (by omega)]
    refine cP Me (mw p.cl (by omega)) ?_;refine ⟨_,?_,rfl⟩;rw [hc];exact ax
def enumL (all:List Wd):Nat->List Wd->Ft
 | _,[]=>(0,0)
 | i,x :: r=>if aG all i x≠0 then (aG all i x,x.a) else enumL all (i + 1) r
def iY (h:Hd):Ft:=
 if h.af=[] then (15,h.aS)
 else if 64 < h.af.length then (8,((h.af[64]?).getD (⟨av,0⟩:Wd)).a)
 else enumL h.af 0 h.af
def dK (p:Ph):Ft:=
 if p.wide < 0∨64 < p.wide then (20,p.name.a)
 else if (bX p.label).1≠0 then bX p.label
 else bf p
def uG (t:Ty):Bool:=sameTy t (mask t)
mutual
def wrong:Ty->Int->Int->Ft × Int
 | .mk h ps,depth,m=>
  if 24 < depth then ((6,h.aS),m + 1)
  else if 512 < m + 1 then ((8,h.aS),m + 1)
  else if h.ag < 1∨9 < h.ag then ((14,h.aS),m + 1)
  else if uG (.mk h ps)=false then ((19,h.aS),m + 1)
  else if (h.ag=2/\h.hi < h.lo)∨(h.ag=3/\(h.most < 0∨4096 < h.most)) then ((20,h.aS),m + 1)
  else if h.ag=9/\bc h.name.s=false then ((9,h.name.a),m + 1)
  else if h.ag=4 then (iY h,m + 1)
  else if h.ag=5∨h.ag=6 then wrongOne h ps depth (m + 1)
  else if h.ag=7∨h.ag=8 then
   if h.ag=8/\ps.len=0 then ((15,h.aS),m + 1)
   else if 64 < ps.len then ((8,(((pNames ps)[64]?).getD (⟨av,0⟩:Wd)).a),m + 1)
   else wrongPts h.ag (pNames ps) 0 ps depth (m + 1)
  else ((0,0),m + 1)
def wrongOne:Hd->Pts->Int->Int->Ft × Int
 | h,.cons p t .nil,depth,m=>
  if p.name.s≠av∨bW p ff=false then ((19,h.aS),m)
  else if h.most < 0∨1024 < h.most then ((20,h.aS),m)
  else wrong t (depth + 1) m
 | h,_,_,m=>((19,h.aS),m)
def wrongPts (ag:Int) (all:List Wd):Nat->Pts->Int->Int->Ft × Int
 | _,.nil,_,m=>((0,0),m)
 | i,.cons p t r,depth,m=>
  if aG all i p.name≠0 then ((aG all i p.name,p.name.a),m)
  else if p.bare=true then
   if ag=7∨sameTy t cq=false∨bW p fx=false then ((19,p.name.a),m) else wrongPts ag all (i + 1) r depth m
  else if (dK p).1≠0 then (dK p,m)
  else if (wrong t (depth + 1) m).1.1≠0 then wrong t (depth + 1) m
  else wrongPts ag all (i + 1) r depth (wrong t (depth + 1) m).2
end
def BE (k:Nat):Prop:=∀ (t:Ty) (depth m:Int),t.wt<=k->t.wt<=1099511627776->0<=depth->depth<=25->0<=m->m<=512 ->
 aQ prog 117 [wD (0,0) m,.agg (ei t),.v (.int .i64 depth)] (wD (wrong t depth m).1 (wrong t depth m).2)
abbrev Iu (t:Ty) (e:Nat) (depth m:Int):St:=
 ⟨[(2,⟨[],.v (.int .i64 depth)⟩),(3,⟨[],.loc 0 0⟩),(4,⟨[],.loc 1 0⟩),(6,⟨[],.loc 2 0⟩),(7,⟨[],.v (.int .i64 e)⟩)],[[.v (.int .i64 0),.v (.int .i64 0),.v (.int .i64 m)],ei t,[.v (.int .i64 0),.v (.int .i64 0),.v (.int .i64 0)]],[]⟩
def fg (h:Hd) (ps:Pts) (depth m:Int):Ft × Int:=
 if h.ag=8/\ps.len=0 then ((15,h.aS),m)
 else if 64 < ps.len then ((8,(((pNames ps)[64]?).getD (⟨av,0⟩:Wd)).a),m)
 else wrongPts h.ag (pNames ps) 0 ps depth m
theorem DE (all:List Wd):∀ (l:List Wd) (i:Nat),(enumL all i l).1=0->enumL all i l=(0,0)
 | [],_,_=>rfl
 | x :: r,i,h=>by
  have ih:=DE all r (i + 1);simp only [enumL] at h ⊢;split at h
  ·rename_i hc;exact (hc h).elim
  ·rename_i hc;rw [if_neg hc];exact ih h
theorem zH (h:Hd) (he:(iY h).1=0):iY h=(0,0):=by
 unfold iY at he ⊢;split at he
 ·simp at he
 ·split at he
  ·simp at he
  ·rename_i h1 h2;rw [if_neg h1,if_neg h2];exact DE _ _ _ he
mutual
theorem qU:∀ (t:Ty) (depth m:Int),0<=m->(wrong t depth m).1.1=0->(wrong t depth m).1=(0,0)/\0<=(wrong t depth m).2/\(wrong t depth m).2<=512
 | .mk h ps,depth,m,hm,he=>by
  have i1:=DF h ps depth (m + 1) (by omega);have i2:=nM h.ag (pNames ps) ps 0 depth (m + 1) (by omega);have i3:=zH h;simp only [wrong] at he ⊢;by_cases c0:24 < depth
  ·rw [if_pos c0] at he;simp at he
  rw [if_neg c0] at he ⊢;by_cases c1:512 < m + 1
  ·rw [if_pos c1] at he;simp at he
  rw [if_neg c1] at he ⊢;by_cases c2:h.ag < 1∨9 < h.ag
  ·rw [if_pos c2] at he;simp at he
  rw [if_neg c2] at he ⊢;by_cases c3:uG (.mk h ps)=false
  ·rw [if_pos c3] at he;simp at he
  rw [if_neg c3] at he ⊢;by_cases c4:(h.ag=2/\h.hi < h.lo)∨(h.ag=3/\(h.most < 0∨4096 < h.most))
  ·rw [if_pos c4] at he;simp at he
  rw [if_neg c4] at he ⊢;by_cases c5:h.ag=9/\bc h.name.s=false
  ·rw [if_pos c5] at he;simp at he
  rw [if_neg c5] at he ⊢;by_cases k4:h.ag=4
  ·rw [if_pos k4] at he ⊢;exact ⟨i3 he,by simp only;omega,by simp only;omega⟩
  rw [if_neg k4] at he ⊢;by_cases k5:h.ag=5∨h.ag=6
  ·rw [if_pos k5] at he ⊢;exact i1 (by omega) he
  rw [if_neg k5] at he ⊢;by_cases k7:h.ag=7∨h.ag=8
  ·rw [if_pos k7] at he ⊢;by_cases k8:h.ag=8/\ps.len=0
   ·rw [if_pos k8] at he;simp at he
   rw [if_neg k8] at he ⊢;by_cases k9:64 < ps.len
   ·rw [if_pos k9] at he;simp at he
   rw [if_neg k9] at he ⊢;exact i2 (by omega) he
  ·rw [if_neg k7];exact ⟨rfl,by simp only;omega,by simp only;omega⟩
theorem DF:∀ (h:Hd) (ps:Pts) (depth m:Int),0<=m->m<=512->(wrongOne h ps depth m).1.1=0->(wrongOne h ps depth m).1=(0,0)/\0<=(wrongOne h ps depth m).2/\(wrongOne h ps depth m).2<=512
 | h,.nil,depth,m,hm,_,he=>by simp [wrongOne] at he
 | h,.cons p t .nil,depth,m,hm,h5,he=>by
  have ih:=qU t (depth + 1) m hm;simp only [wrongOne] at he ⊢;split at he
  ·simp at he
  ·split at he
   ·simp at he
   ·rename_i h1 h2;rw [if_neg h1,if_neg h2];exact ih he
 | h,.cons p t (.cons _ _ _),depth,m,hm,_,he=>by simp [wrongOne] at he
theorem nM (ag:Int) (all:List Wd):∀ (ps:Pts) (i:Nat) (depth m:Int),0<=m->m<=512->(wrongPts ag all i ps depth m).1.1=0->(wrongPts ag all i ps depth m).1=(0,0)/\0<=(wrongPts ag all i ps depth m).2/\(wrongPts ag all i ps depth m).2<=512
 | .nil,i,depth,m,hm,h5,he=>by simp only [wrongPts];exact ⟨trivial,hm,h5⟩
 | .cons p t r,i,depth,m,hm,h5,he=>by
  have i1:=qU t (depth + 1) m hm;simp only [wrongPts] at he ⊢;split at he
  ·rename_i h1;exact (h1 he).elim
  ·rename_i h1;rw [if_neg h1];split at he
   ·rename_i h2;rw [if_pos h2];split at he
    ·simp at he
    ·rename_i h3;rw [if_neg h3];exact nM ag all r (i + 1) depth m hm h5 he
   ·rename_i h2;rw [if_neg h2];split at he
    ·rename_i h3;exact (h3 he).elim
    ·rename_i h3;rw [if_neg h3];split at he
     ·rename_i h4;exact (h4 he).elim
     ·rename_i h4;rw [if_neg h4];have i2:=i1 (sU h4);exact nM ag all r (i + 1) depth _ i2.2.1 i2.2.2 he
end
theorem BF (k:Nat) (ih:BE k) (h:Hd) (ps:Pts) (depth m:Int) (hk:ps.wt<=k) (cC:(Ty.mk h ps).wt<=1099511627776) (uZ:0<=depth) (yY:depth<=24) (oX:0<=m) (j1:m<=512) :
  aQ prog 178 [wD (0,0) m,.agg (ei (.mk h ps)),.v (.int .i64 depth)] (wD (fg h ps depth m).1 (fg h ps depth m).2):=by
 simp only [Ty.wt,Hd.wt] at cC;have mZ:=ps.fZ;have Up:=sB ps;refine eG 126 [.cell 6 192] func178 rfl ntmps178 rfl fun _ _ _ _=>?_;refine br ?_ ?_<;>intro c1
 ·refine cP gT (eF (0,0) m 15 h.aS) ?_
  have:fg h ps depth m=((15,h.aS),m):=by
   simp [aq,aK] at c1;have:ps.len=0:=by omega
   simp [fg,c1.1,this]
  refine ⟨_,?_,rfl⟩;rw [this];exact ax
 ·have c1':¬ (h.ag=8/\ps.len=0):=by
   simp [aq,aK] at c1;omega
  refine br ?_ ?_<;>intro c2
  ·have aj:64 < ps.len:=by simp [aK] at c2;omega
   obtain ⟨p,t,hx⟩:=Pts.eN aj;refine uW (fun i=>Nat.beq i 8) mo (by decide +kernel) ?_;refine iX (cd hx) ?_;refine cD gT (eF (0,0) m 8 p.name.a) ?_
   have:fg h ps depth m=((8,p.name.a),m):=by
    simp only [fg,if_neg c1',if_pos aj,gI hx];rfl
   refine ⟨_,?_,rfl⟩;rw [this];exact ax
  ·have c2':¬ 64 < ps.len:=by simp [aK] at c2;omega
   have hF:fg h ps depth m=wrongPts h.ag (pNames ps) 0 ps depth m:=by simp only [fg,if_neg c1',if_neg c2']
   refine bo (fun j st=>∃ (e:Nat) (m':Int),st=Iu (.mk h ps) e depth m' /\ e<=ps.len/\0<=m' /\ m' <= 512 /\
     wrongPts h.ag (pNames ps) 0 ps depth m=wrongPts h.ag (pNames ps) e (ps.drop e) depth m' /\ j=ps.len - e) ps.len
    (Iu (.mk h ps) 0 depth m) (ah ⟨_,rfl⟩ wA rfl rfl rfl wB) ⟨0,m,rfl,by omega,oX,j1,rfl,by omega⟩ ?_
   rintro j st ⟨e,m',rfl,he,BG,DG,aJ,rfl⟩;refine br ?_ ?_<;>intro hL
   ·have aj:e < ps.len:=by simpa [aK] using hL
    obtain ⟨p,t,hx⟩:=Pts.eN aj;rw [Pts.drop_cons hx] at aJ;have yB:=Pts.gG (mG hx);obtain ⟨u,us⟩:=t;refine iX (cd hx) ?_;refine cP X1 (BC ps (by omega)) ?_;refine cP Sc (pf (pNames ps) e p.name (by omega) (gI hx)) ?_;refine br ?_ ?_<;>intro hl
    ·have hl:aG (pNames ps) e p.name≠0:=sU hl;refine cP gT (eF (0,0) m' _ p.name.a) ?_
     have:fg h ps depth m=((aG (pNames ps) e p.name,p.name.a),m'):=by
      rw [hF,aJ];simp only [wrongPts];rw [if_pos hl]
     refine ⟨_,?_,rfl⟩;rw [this];exact ax
    ·have hl:aG (pNames ps) e p.name=0:=sU hl;simp only [wrongPts] at aJ;rw [if_neg (by simp [hl])] at aJ;refine br ?_ ?_<;>intro hB
     ·rw [if_pos hB] at aJ;refine br ?_ ?_<;>intro k7
      ·have k7:¬ h.ag=7:=sU k7;refine cP X2 (DD (.mk u us) (by omega)) ?_;refine br ?_ ?_<;>intro z
       ·have z:sameTy (.mk u us) cq=true:=by simpa [au,k7] using z
        refine cP Mf (mv p fx (ei (.mk u us)) (ei cq) (by omega) (zG _ _ _ _ _) (zG _ _ _ _ _)) ?_;refine br ?_ ?_<;>intro q
        ·have q:bW p fx=false:=by simpa [au,k7,z] using q
         refine cP gT (eF (0,0) m' 19 p.name.a) ?_;rw [if_pos (by simp [q])] at aJ;refine ⟨_,?_,rfl⟩;rw [hF,aJ];exact ax
        ·have q:bW p fx=true:=by simpa [au,k7,z] using q
         rw [if_neg (by simp [k7,z,q])] at aJ;exact rE ⟨_,by omega,e + 1,m',rfl,by omega,BG,DG,aJ,rfl⟩ (ah ⟨_,rfl⟩ wA rfl rfl rfl (cX (aF aj (by omega))))
       ·have z:sameTy (.mk u us) cq=false:=by simpa [au,k7] using z
        refine cP gT (eF (0,0) m' 19 p.name.a) ?_;rw [if_pos (by simp [z])] at aJ;refine ⟨_,?_,rfl⟩;rw [hF,aJ];exact ax
      ·have k7:h.ag=7:=sU k7;refine cP gT (eF (0,0) m' 19 p.name.a) ?_;rw [if_pos (by simp [k7])] at aJ;refine ⟨_,?_,rfl⟩;rw [hF,aJ];exact ax
     ·rw [if_neg (by simp [hB])] at aJ;refine br ?_ ?_<;>intro hw
      ·have hP:dK p=(20,p.name.a):=by
        simp [au] at hw;simp only [dK,if_pos hw]
       rw [if_pos (by rw [hP];simp),hP] at aJ;refine ⟨_,?_,rfl⟩;rw [hF,aJ];exact ax
      ·have hw:¬ (p.wide < 0∨64 < p.wide):=by simp [au] at hw;omega
       have hpw:p.wt<=ps.wt:=by omega
       simp only [Ph.wt] at hpw;refine cP Me (mw p.label (by omega)) ?_;refine br ?_ ?_<;>intro hb
       ·have hb:(bX p.label).1=0:=sU hb;have hP:dK p=bf p:=by simp only [dK,if_neg hw,hb,ne_eq,not_true_eq_false,if_false]
        rw [hP] at aJ;refine cP X3 (yX p (ei (.mk u us)) (by omega)) ?_ (by repeat' (first | exact rfl | exact trivial | exact Or.inr (Or.inl ⟨_,rfl⟩) | exact Or.inr ⟨_,rfl⟩ | exact Or.inl ⟨rfl,rfl⟩ | exact Or.inl rfl | refine Or.inr ⟨_,_,rfl,Nat.zero_le _,rfl,?_⟩ | refine ⟨_,_,rfl,?_,?_⟩ | refine ⟨_,rfl,?_⟩ | exact congrArg DV.agg rfl| refine Or.inr (Or.inr (Or.inr ⟨_,_,rfl,?_⟩)) | exact Or.inl rfl | refine Or.inr ?_));refine br ?_ ?_<;>intro hc
        ·have hc:(bf p).1≠0:=sU hc;rw [if_pos hc] at aJ;refine ⟨_,?_,rfl⟩;rw [hF,aJ];exact ax
        ·have hc:(bf p).1=0:=sU hc;rw [if_neg (by simp [hc])] at aJ;have qI:=ih (.mk u us) (depth + 1) m' (by omega) (by omega) (by omega) (by omega) BG DG;have bm:=qU (.mk u us) (depth + 1) m' BG;generalize wrong (.mk u us) (depth + 1) m'=r at qI bm aJ;obtain ⟨⟨fe,fa⟩,many⟩:=r;simp only at qI bm aJ;refine cP L5 qI ?_ (by repeat' (first | exact rfl | exact trivial | exact Or.inr (Or.inl ⟨_,rfl⟩) | exact Or.inr ⟨_,rfl⟩ | exact Or.inl ⟨rfl,rfl⟩ | exact Or.inl rfl | refine Or.inr ⟨_,_,rfl,Nat.zero_le _,rfl,?_⟩ | refine ⟨_,_,rfl,?_,?_⟩ | refine ⟨_,rfl,?_⟩ | exact congrArg (fun z=>DV.v (.int .i64 z)) (wrap64 (by omega) (by omega))| refine Or.inr (Or.inr (Or.inr ⟨_,_,rfl,?_⟩)) | exact Or.inl rfl | refine Or.inr ?_));refine br ?_ ?_<;>intro hd
         ·have hd:fe≠0:=sU hd;rw [if_pos hd] at aJ;refine ⟨_,?_,rfl⟩;rw [hF,aJ];exact ax
         ·have hd:fe=0:=sU hd;subst hd;obtain ⟨h1,h2,h3⟩:=bm rfl;simp only [Prod.mk.injEq,true_and] at h1;subst h1;rw [if_neg (by simp)] at aJ;exact rE ⟨_,by omega,e + 1,many,rfl,by omega,h2,h3,aJ,rfl⟩ (ah ⟨_,rfl⟩ wA rfl rfl rfl (cX (aF aj (by omega))))
       ·have hb:¬ (bX p.label).1=0:=sU hb;have hP:dK p=bX p.label:=by simp only [dK,if_neg hw];rw [if_pos hb]
        rw [hP,if_pos hb] at aJ;refine br ?_ ?_<;>intro hc
        ·refine ⟨_,?_,rfl⟩;rw [hF,aJ];exact ax
        ·exact (hb (sU hc)).elim
   ·have aM:e=ps.len:=by simp [aK] at hL;omega
    rw [aM,Pts.dr] at aJ;refine ⟨_,?_,rfl⟩;rw [hF,aJ];simp only [wrongPts];exact ax
theorem bH (e a:Int):aQ prog 198 [.v (.int .i64 e),.v (.int .i64 a)] (Ft.d (e,a)):=by
 refine eG 8 [.cell 4 45] func198 rfl ntmps198 rfl fun _ _ _ _=>?_;exact ⟨_,ax,rfl⟩
noncomputable def ik (L:List ByteArray) (x:ByteArray) (a:Int):Ft:=if bc x=true then (if L.Nodup then (0,0) else (10,a)) else (9,a)
theorem tS (L:List ByteArray) (x:ByteArray) (a:Int) (hx:L[L.length - 1]? = some x) (hl:L.length<=1099511627776) (qg:x.size<=4611686018427387904) :
  aQ prog 231 [.sl 1 (eV L) none,.v (.int .i64 a)] (ik L x a).d:=by
 have hN:=ch L;have jF:=(gS hx).1;have hz:IntKind.i64.wrap (((eV L).length:Int) - 1)=((L.length - 1:Nat):Int):=by rw [hN,wrap64 (by omega) (by omega)];omega
 refine eG 23 [.cell 4 45] func231 rfl ntmps231 rfl fun _ _ _ _=>?_;refine ⟨[.v (.string x)],⟨by rw [hz];omega,by rw [hz];exact ij hx⟩,?_⟩;refine cP Gh (iW x qg) ?_;refine br ?_ ?_<;>intro h
 ·have h:bc x=false:=sU h;refine cP ep (bH 9 a) ?_;refine ⟨_,?_,rfl⟩;rw [ik,if_neg (by rw [h];decide)];exact ax
 ·have h:bc x=true:=sU h;refine ki Uh rfl (pG L hl) ax (fun r hr=>?_);obtain ⟨z,rfl,hz⟩:=hr;refine br ?_ ?_<;>intro h2
  ·have h2:0<=z:=sU h2;refine cP ep (bH 10 a) ?_;refine ⟨_,?_,rfl⟩;rw [ik,if_pos h,if_neg (hz.1 h2)];exact ax
  ·have h2:¬ 0<=z:=sU h2;refine ⟨_,?_,rfl⟩;rw [ik,if_pos h,if_pos (Classical.byContradiction fun hn=>h2 (hz.2 hn))];exact ax
theorem Gs {l:List Wd} {e:Nat} {x:Wd} (h:l[e]? = some x):bJ ((l.map fun w=>(⟨w.s,0⟩:Wd)).take e) ++ [[.v (.string x.s),.v (.int .i64 0)]]=bJ ((l.map fun w=>(⟨w.s,0⟩:Wd)).take (e + 1)):=by
 have h2:(l.map fun w=>(⟨w.s,0⟩:Wd))[e]? = some ⟨x.s,0⟩:=by simp [h]
 exact zD h2
def iZ (l:List Wd):List Wd:=l.map fun w=>⟨w.s,0⟩
abbrev Mu (l l':List Wd) (n e:Nat):St:=
 ⟨[(6,⟨[],.sl 2 (bJ l) none⟩),(7,⟨[],.v (.int .i64 (bJ l).length)⟩),(8,⟨[],.v (.int .i64 e)⟩),(3,⟨[],.sl 2 (bJ l') (some 0)⟩)],[],[⟨n,27,2,none⟩]⟩
theorem wj (l:List Wd) (hs:wdsWt l<=1099511627776):aQ prog 246 [.sl 2 (bJ l) none] (.sl 2 (bJ (iZ l)) none):=by
 have hl:=bG l;refine eG 20 [.tmp 2] func246 rfl ntmps246 rfl fun _ _ _ _=>?_;refine bo (fun j st=>∃ e:Nat,st=Mu l ((iZ l).take e) e e/\e<=l.length/\j=l.length - e) l.length (Mu l [] 0 0) (fu ⟨0,27,2,none⟩ rfl ⟨_,rfl⟩ rfl wA rfl rfl lY) ⟨0,by simp,by omega,by omega⟩ ?_;rintro j st ⟨e,rfl,he,rfl⟩;refine br ?_ ?_<;>intro h
 ·have aj:e < l.length:=by simpa [aw] using h
  obtain ⟨w,hw⟩:=gX aj;refine ⟨ko w,⟨by omega,aT hw⟩,?_⟩;refine ⟨by simp [aw,iZ];omega,⟨by simp [aw,iZ,maxLen];omega,by simp [aw,iZ];omega⟩,?_⟩;refine ⟨Mu l ((iZ l).take (e + 1)) (e + 1) (e + 1),(ah ⟨_,rfl⟩ wA rfl rfl rfl (wB2 (aF aj (by omega)) (Gs hw))),l.length - (e + 1),by omega,e + 1,rfl,by omega,rfl⟩
 ·have aM:e=l.length:=by
   have:=h;simp [aw] at this;omega
  rw [aM,List.take_of_length_le (by simp [iZ])];exact ⟨_,ax,rfl⟩
abbrev wm (l:List Wd) (e:Nat):St:=
 ⟨[(13,⟨[],.sl 2 (bJ l) none⟩),(14,⟨[],.v (.int .i64 (bJ l).length)⟩),(2,⟨[],.loc 0 0⟩),(15,⟨[],.v (.int .i64 e)⟩)],[[.v (.int .i64 0),.v (.int .i64 0)]],[]⟩
theorem jr (l:List Wd) (hs:wdsWt l<=1099511627776) :
  aQ prog 240 [.sl 2 (bJ l) none] (bX l).d:=by
 have nu:=bG l;refine eG 28 [.cell 2 45] func240 rfl ntmps240 rfl fun _ _ _ _=>?_;refine br ?_ ?_<;>intro h
 ·have aj:32 < l.length:=by simp [aw] at h;omega
  obtain ⟨x,hx⟩:=gX aj;have:bX l=(8,x.a):=by simp [bX,Nat.not_le.2 aj,hx]
  refine ⟨ko x,⟨by omega,aT hx⟩,?_⟩;refine cP ep (bH 8 x.a) ?_;refine ⟨_,?_,rfl⟩;rw [this];exact ax
 ·have dq:l.length<=32:=by simp [aw] at h;omega
  refine bo (fun j st=>∃ e:Nat,st=wm l e/\e<=l.length/\badWd l=badWd (l.drop e)/\j=l.length - e) l.length
   (wm l 0) (ah ⟨_,rfl⟩ wA rfl rfl rfl wB) ⟨0,rfl,by omega,rfl,by omega⟩ ?_
  rintro j st ⟨e,rfl,he,aJ,rfl⟩;refine br ?_ ?_<;>intro hL
  ·have aj:e < l.length:=by simpa [aw] using hL
   obtain ⟨x,hx⟩:=gX aj;rw [drop_cons hx] at aJ;have qg:=iU (mG hx);refine ⟨ko x,⟨by omega,aT hx⟩,?_⟩;refine cP Gh (iW x.s (by omega)) ?_;refine br ?_ ?_<;>intro hN
   ·have hN:bc x.s=false:=sU hN;have:bX l=(9,x.a):=by simp [bX,dq,aJ,badWd,hN]
    refine cP ep (bH 9 x.a) ?_;refine ⟨_,?_,rfl⟩;rw [this];exact ax
   ·have hN:bc x.s=true:=sU hN;refine ⟨wm l (e + 1),(ah ⟨_,rfl⟩ wA rfl rfl rfl (cX (aF aj (by omega)))),l.length - (e + 1),by omega,e + 1,rfl,by omega,?_,rfl⟩;rw [aJ];simp [badWd,hN]
  ·have aM:e=l.length:=by simp [aw] at hL;omega
   have:bX l=(0,0):=by simp [bX,dq,aJ,aM,badWd]
   refine ⟨_,?_,rfl⟩;rw [this];exact ax
theorem BH (p:Ph) (tl:List DV) (t:Ty) (gJ:tl=ei t) (hs:p.wt<=1099511627776) :
  aQ prog 241 [.agg (Gi p tl)] (bf p).d:=by
 subst gJ;obtain ⟨u,us⟩:=t;simp only [Ph.wt] at hs;refine eG 55 [.cell 2 45] func241 rfl ntmps241 rfl fun _ _ _ _=>?_;refine br ?_ ?_<;>intro h0
 ·have h0:p.ck=0:=of_decide_eq_true h0;refine br ?_ ?_<;>intro h1
  ·have:bf p=(19,p.name.a):=by
    simp [au,aw] at h1;simp only [bf,h0,if_true];rw [if_neg];rintro ⟨h2,h3⟩;rcases h1 with h1 | h1
    ·exact h1 h2
    ·simp [h3] at h1
   refine cP ep (bH 19 p.name.a) ?_;refine ⟨_,?_,rfl⟩;rw [this];exact ax
  ·have eD:p.cl=[]:=by
    simp [au,aw] at h1;exact h1.2
   have:bf p=(0,0):=by
    simp [au,aw] at h1;simp [bf,h0,h1.1,h1.2]
   have h00:bX p.cl=(0,0):=by rw [eD];simp [bX,badWd]
   refine cP Dt (jr p.cl (by omega)) ?_;refine ⟨_,?_,rfl⟩;rw [this,<- h00];exact ax
 have h0:¬ p.ck=0:=of_decide_eq_false h0;refine br ?_ ?_<;>intro h1
 ·have h1:p.ck=1:=of_decide_eq_true h1;refine br ?_ ?_<;>intro h2
  ·have:bf p=(20,p.ca):=by
    simp [aq] at h2;simp only [bf,h0,if_false];rw [if_neg (by omega),if_pos (by omega)]
   refine cP ep (bH 20 p.ca) ?_;refine ⟨_,?_,rfl⟩;rw [this];exact ax
  ·have:bf p=bX p.cl:=by
    simp [aq] at h2;simp only [bf,h0,if_false];rw [if_neg (by omega),if_neg (by omega)]
   refine cP Dt (jr p.cl (by omega)) ?_;refine ⟨_,?_,rfl⟩;rw [this];exact ax
 have h1:¬ p.ck=1:=of_decide_eq_false h1;refine br ?_ ?_<;>intro h3
 ·have h3:p.ck=2:=of_decide_eq_true h3;refine br ?_ ?_<;>intro h2
  ·have:bf p=(20,p.ca):=by
    simp [aq] at h2;simp only [bf,h0,if_false];rw [if_neg (by omega),if_pos (by omega)]
   refine cP ep (bH 20 p.ca) ?_;refine ⟨_,?_,rfl⟩;rw [this];exact ax
  ·have:bf p=bX p.cl:=by
    simp [aq] at h2;simp only [bf,h0,if_false];rw [if_neg (by omega),if_neg (by omega)]
   refine cP Dt (jr p.cl (by omega)) ?_;refine ⟨_,?_,rfl⟩;rw [this];exact ax
 have h3:¬ p.ck=2:=of_decide_eq_false h3;refine br ?_ ?_<;>intro h4
 ·have h4:p.ck=3:=of_decide_eq_true h4;refine br ?_ ?_<;>intro h2
  ·have:bf p=(20,p.ca):=by
    simp [aq] at h2;simp only [bf,h0,if_false];rw [if_neg (by omega),if_pos (by omega)]
   refine cP ep (bH 20 p.ca) ?_;refine ⟨_,?_,rfl⟩;rw [this];exact ax
  ·have:bf p=bX p.cl:=by
    simp [aq] at h2;simp only [bf,h0,if_false];rw [if_neg (by omega),if_neg (by omega)]
   refine cP Dt (jr p.cl (by omega)) ?_;refine ⟨_,?_,rfl⟩;rw [this];exact ax
 have h4:¬ p.ck=3:=of_decide_eq_false h4
 have:bf p=(14,p.ca):=by
  simp only [bf,h0,if_false];rw [if_pos (by omega)]
 refine cP ep (bH 14 p.ca) ?_;refine ⟨_,?_,rfl⟩;rw [this];exact ax
theorem Mv (w:World) (x y:Operand) (vs vs':Array Value):(eqGuard .neq 27 x y (.agg vs) (.agg vs')).run prog w = .ok () w:=by
 have h:prog.eqGuardType prog.depth 27=false:=by kernel_rfl
 simp [eqGuard,run_program,h]
theorem Uq (a b:ByteArray) (p q:Int) (w:World):(binOp .neq 27 (.agg #[.string a,.int .i64 p]) (.agg #[.string b,.int .i64 q])).run prog w = .ok (.bool (!(decide (a=b) && decide (p=q)))) w:=by
 have hf:prog.underlying 27=some (.struct (prog.fieldsOf 27)):=by simp [Program.fieldsOf,Tryz.underlying27]
 have vF:(prog.fieldsOf 27).toList=[⟨ "Name",9,0,false, "", "",0⟩,⟨ "At",3,1,false, "", "",16⟩]:=by simp [Program.fieldsOf,Tryz.underlying27]
 have hs:prog.stoodInHeld 27=false:=by kernel_rfl
 have hm:∃ d,Op.maxDepth=d + 1 + 1:=⟨Op.maxDepth - 2,by decide⟩;obtain ⟨d,hm⟩:=hm
 have he:(Op.equal 27 (.agg #[.string a,.int .i64 p]) (.agg #[.string b,.int .i64 q])).run prog w = .ok (decide (a=b) && decide (p=q)) w:=by
  unfold Op.equal;rw [hm,run_equalIn_struct w (d + 1) 27 _ _ hf hs,vF]
  have e1:(a.toList == b.toList)=decide (a=b):=by
   rw [ByteArray.toList_eq,ByteArray.toList_eq];by_cases h:a=b
   ·subst h;simp
   ·have:¬ a.data=b.data:=fun e=>h (ByteArray.ext e);simp [h,this]
  have q9:∀ cs:Array Value,∀ off v,cs[off]? = some v->(part 9 cs off).run prog w = .ok v w:=fun cs off v h=>by
   simp [part,Tryz.isAgg9,h]
  have q3:∀ cs:Array Value,∀ off v,cs[off]? = some v->(part 3 cs off).run prog w = .ok v w:=fun cs off v h=>by
   simp [part,Tryz.isAgg3,h]
  simp only [Op.eqFields,ne_eq,String.reduceEq,not_false_eq_true,if_true,Sem.run_bind,q9 #[.string a,.int .i64 p] 0 (.string a) rfl,q9 #[.string b,.int .i64 q] 0 (.string b) rfl,Result.andThen_ok,run_equalIn_string w d 9 a b Tryz.underlying9,e1];by_cases h:a=b
  ·simp only [h,decide_true,Bool.not_true,Bool.false_eq_true,if_false,Sem.run_bind,q3 #[.string b,.int .i64 p] 1 (.int .i64 p) rfl,q3 #[.string b,.int .i64 q] 1 (.int .i64 q) rfl,Result.andThen_ok,run_equalIn_int w d 3 .i64 .i64 p q Tryz.underlying3];by_cases h2:p=q<;>simp [h2,Sem.run_pure]
  ·simp [h,Sem.run_pure]
 show ((do let r <- Op.equal 27 _ _;pure (Value.bool !r)):Sem Value).run prog w=_;simp only [Sem.run_bind,he,Result.andThen_ok,Sem.run_pure]
theorem Qc (x y:Operand) (a b:Wd):Bc prog .neq x y 27 (ko a) (ko b) (!(decide (a.s=b.s) && decide (a.a=b.a))):=
 ⟨[.string a.s,.int .i64 a.a],[.string b.s,.int .i64 b.a],rfl,rfl,fun w=>⟨Mv w x y _ _,Uq a.s b.s a.a b.a w⟩⟩
def eqWds:List Wd->List Wd->Bool
 | [],[]=>true
 | x :: r,y :: s=>(decide (x.s=y.s) && decide (x.a=y.a)) && eqWds r s
 | _,_=>false
theorem zI:∀ {a b:List Wd},a.length≠b.length->eqWds a b=false
 | [],[],h=>(h rfl).elim
 | [],_ :: _,_=>rfl
 | _ :: _,[],_=>rfl
 | x :: r,y :: s,h=>by
  simp only [eqWds];rw [zI (a:=r) (b:=s) (sU h),Bool.and_false]
theorem tT:∀ a b:List Wd,eqWds (iZ a) (iZ b)=sameWds a b
 | [],[]=>rfl
 | [],_ :: _=>rfl
 | _ :: _,[]=>rfl
 | x :: r,y :: s=>by
  have:=tT r s;simp only [iZ,List.map_cons,eqWds,sameWds] at this ⊢;rw [this];simp
abbrev Mw (a b:List Wd) (e:Nat):St:=
 ⟨[(0,⟨[],.sl 2 (bJ a) none⟩),(1,⟨[],.sl 2 (bJ b) none⟩),(12,⟨[],.v (.int .i64 (bJ a).length)⟩),(13,⟨[],.v (.int .i64 e)⟩)],[],[]⟩
theorem DH (a b:List Wd) (hs:a.length<=1099511627776) :
  aQ prog 245 [.sl 2 (bJ a) none,.sl 2 (bJ b) none] (.v (.bool (eqWds a b))):=by
 refine eG 26 [.tmp 4] func245 rfl ntmps245 rfl fun _ _ _ _=>?_;refine br ?_ ?_<;>intro h
 ·have bg:a.length≠b.length:=by have:=h;simp [aw] at this;omega
  exact congrArg (fun b=>DV.v (.bool b)) (zI bg).symm
 ·have hl:a.length=b.length:=by have:=h;simp [aw] at this;omega
  refine bo (fun j st=>∃ e:Nat,st=Mw a b e/\e<=a.length/\eqWds a b=eqWds (a.drop e) (b.drop e)/\j=a.length - e) a.length
   (Mw a b 0) (ah ⟨_,rfl⟩ wA rfl rfl rfl wB) ⟨0,rfl,by omega,rfl,by omega⟩ ?_
  rintro j st ⟨e,rfl,he,aJ,rfl⟩;refine br ?_ ?_<;>intro h
  ·have aj:e < a.length:=by simpa [aw] using h
   obtain ⟨x,hx⟩:=gX aj;obtain ⟨y,hy⟩:∃ y,b[e]? = some y:=⟨_,gE (hl ▸ aj)⟩;rw [drop_cons hx,drop_cons hy] at aJ;refine dI ?_;refine ⟨ko x,⟨by omega,aT hx⟩,ko y,⟨by omega,aT hy⟩,_,Qc _ _ x y,?_⟩;refine br ?_ ?_<;>intro h
   ·have bg:(decide (x.s=y.s) && decide (x.a=y.a))=false:=by
     have h:(!(decide (x.s=y.s) && decide (x.a=y.a)))=true:=h
     revert h
     cases (decide (x.s=y.s) && decide (x.a=y.a))<;>decide
    refine (congrArg (fun b=>DV.v (.bool b)) ?_:_=_);rw [aJ];simp only [eqWds,bg,Bool.false_and]
   ·have bg:(decide (x.s=y.s) && decide (x.a=y.a))=true:=by
     have h:(!(decide (x.s=y.s) && decide (x.a=y.a)))=false:=h
     revert h
     cases (decide (x.s=y.s) && decide (x.a=y.a))<;>decide
    refine ⟨Mw a b (e + 1),(ah ⟨_,rfl⟩ wA rfl rfl rfl (cX (aF aj (by omega)))),a.length - (e + 1),by omega,e + 1,rfl,by omega,?_,rfl⟩;rw [aJ];simp only [eqWds,bg,Bool.true_and]
  ·have aM:e=a.length:=by have:=h;simp [aw] at this;omega
   refine (congrArg (fun b=>DV.v (.bool b)) ?_:_=_);rw [aJ,aM,hl];simp [eqWds];rw [<- hl];simp [eqWds]
theorem il (a b:List Wd) (ha:wdsWt a<=1099511627776) (hb:wdsWt b<=1099511627776) :
  aQ prog 243 [.sl 2 (bJ a) none,.sl 2 (bJ b) none] (.v (.bool (sameWds a b))):=by
 have hl:=bG a;refine eG 10 [.tmp 4] func243 rfl ntmps243 rfl fun _ _ _ _=>?_;refine cP Sm (wj a ha) ?_;refine cP Sm (wj b hb) ?_;refine cP X9 (DH (iZ a) (iZ b) (by simp [iZ];omega)) ?_;refine (congrArg (fun b=>DV.v (.bool b)) ?_:_=_);exact tT a b
def eqPts (F:Ph->Ty->Ph->Ty->Bool):Pts->Pts->Bool
 | .nil,.nil=>true
 | .cons p t r,.cons q u s=>F p t q u && eqPts F r s
 | _,_=>false
theorem zJ {F:Ph->Ty->Ph->Ty->Bool}:∀ {a b:Pts},a.len≠b.len->eqPts F a b=false
 | .nil,.nil,h=>(h rfl).elim
 | .cons p t r,.cons q u s,h=>by
  simp only [eqPts];rw [zJ (a:=r) (b:=s) (by simpa [Pts.len] using h),Bool.and_false]
 | .nil,.cons _ _ _,_=>rfl
 | .cons _ _ _,.nil,_=>rfl
def dj (p:Ph) (t:Ty) (q:Ph) (u:Ty):Bool:=decide (p.name.s=q.name.s) && bW p q && sameTy t u
theorem wo:∀ a b:Pts,eqPts dj a b=samePts a b
 | .nil,.nil=>by simp [eqPts,samePts]
 | .cons p t r,.cons q u s=>by simp only [eqPts,samePts,dj,wo r s]
 | .nil,.cons _ _ _=>by simp [eqPts,samePts]
 | .cons _ _ _,.nil=>by simp [eqPts,samePts]
abbrev Mx (a b:Pts) (g e:Nat):St:=
 ⟨[(1,⟨[],.sl 18 (gd b) none⟩),(2,⟨[],.fn g [] []⟩),(15,⟨[],.sl 18 (gd a) none⟩),(16,⟨[],.v (.int .i64 (gd a).length)⟩),(17,⟨[],.v (.int .i64 e)⟩)],[],[]⟩
theorem DI (g:Nat) (mg:Enters prog g) (F:Ph->Ty->Ph->Ty->Bool) (a b:Pts) (hs:a.wt<=1099511627776)
  (hF:∀ (e:Nat) p t q u,a.toList[e]? = some (p,t)->b.toList[e]? = some (q,u)->aQ prog g [.agg (Gi p (ei t)),.agg (Gi q (ei u))] (.v (.bool (F p t q u)))) :
  aQ prog 247 [.sl 18 (gd a) none,.sl 18 (gd b) none,.fn g [] []] (.v (.bool (eqPts F a b))):=by
 have o0:=a.fZ;refine eG 32 [.tmp 6] func247 rfl ntmps247 rfl fun _ _ _ _=>?_;refine br ?_ ?_<;>intro h
 ·have bg:a.len≠b.len:=by have:=h;simp [aK] at this;omega
  exact congrArg (fun b=>DV.v (.bool b)) (zJ bg).symm
 ·have hl:a.len=b.len:=by have:=h;simp [aK] at this;omega
  refine bo (fun j st=>∃ e:Nat,st=Mx a b g e/\e<=a.len/\eqPts F a b=eqPts F (a.drop e) (b.drop e)/\j=a.len - e) a.len
   (Mx a b g 0) (ah ⟨_,rfl⟩ wA rfl rfl rfl wB) ⟨0,rfl,by omega,rfl,by omega⟩ ?_
  rintro j st ⟨e,rfl,he,aJ,rfl⟩;refine br ?_ ?_<;>intro h
  ·have aj:e < a.len:=by simpa [aK] using h
   obtain ⟨p,t,hx⟩:=Pts.eN aj;obtain ⟨q,u,hy⟩:=Pts.eN (hl ▸ aj);rw [Pts.drop_cons hx,Pts.drop_cons hy] at aJ;have TN:=hF e p t q u hx hy;obtain ⟨t,ts⟩:=t;obtain ⟨u,us⟩:=u;refine iX (cd hx) ?_;refine iX (cd hy) ?_;refine cP mg TN ?_;refine br ?_ ?_<;>intro h
   ·have bg:F p (.mk t ts) q (.mk u us)=false:=sU h;refine (congrArg (fun b=>DV.v (.bool b)) ?_:_=_);rw [aJ];simp only [eqPts,bg,Bool.false_and]
   ·have bg:F p (.mk t ts) q (.mk u us)=true:=sU h;refine ⟨Mx a b g (e + 1),(ah ⟨_,rfl⟩ wA rfl rfl rfl (cX (aF aj (by omega)))),a.len - (e + 1),by omega,e + 1,rfl,by omega,?_,rfl⟩;rw [aJ];simp only [eqPts,bg,Bool.true_and]
  ·have aM:e=a.len:=by have:=h;simp [aK] at this;omega
   refine (congrArg (fun b=>DV.v (.bool b)) ?_:_=_);rw [aJ,aM,Pts.dr,hl,Pts.dr];simp [eqPts]
theorem nN (p q:Ph) (t u:Ty) (hp:p.wt<=1099511627776) (hq:q.wt<=1099511627776)
  (ht:aQ prog 244 [.agg (ei t),.agg (ei u)] (.v (.bool (sameTy t u)))) :
  aQ prog 239 [.agg (Gi p (ei t)),.agg (Gi q (ei u))] (.v (.bool (dj p t q u))):=by
 simp only [Ph.wt] at hp hq;obtain ⟨th,tps⟩:=t;obtain ⟨uh,ups⟩:=u;refine eG 71 [.tmp 4] func239 rfl ntmps239 rfl fun _ _ _ _=>?_
 have e0:dj p (.mk th tps) q (.mk uh ups)=(((decide (p.name.s=q.name.s) && (p.bare == q.bare)) && decide (p.wide=q.wide)) && sameWds p.label q.label && ((decide (p.ck=q.ck) && decide (p.cn=q.cn)) && sameWds p.cl q.cl) && sameTy (.mk th tps) (.mk uh ups)):=by
  simp only [dj,bW,Bool.and_assoc]
 rw [e0];refine br ?_ ?_<;>intro hA
 ·simp only [aq] at hA;refine cP Ip (il p.label q.label (by omega) (by omega)) ?_;refine br ?_ ?_<;>intro hB
  ·simp only [aq] at hB;refine cP Ip (il p.cl q.cl (by omega) (by omega)) ?_;refine br ?_ ?_<;>intro hC
   ·refine cP X8 ht ?_;refine (congrArg (fun b=>DV.v (.bool b)) ?_:_=_);simp only [aq,Bool.true_and,Bool.and_true] at hC ⊢
    simp_all
   ·refine (congrArg (fun b=>DV.v (.bool b)) ?_:_=_);simp only [aq,Bool.true_and,Bool.and_true] at hC ⊢
    simp_all
  ·simp only [aq] at hB;refine br ?_ ?_<;>intro hC
   ·exfalso;simp [aq] at hC
   ·refine (congrArg (fun b=>DV.v (.bool b)) ?_:_=_)
    simp_all
 ·simp only [aq,beq_true] at hA;refine br ?_ ?_<;>intro hB
  ·refine cP Ip (il p.cl q.cl (by omega) (by omega)) ?_;refine (congrArg (fun b=>DV.v (.bool b)) ?_:_=_);rw [hA];rfl
  ·refine (congrArg (fun b=>DV.v (.bool b)) ?_:_=_);rw [hA];rfl
theorem zK:∀ (n:Nat) (a b:Ty),a.wt<=n->a.wt<=1099511627776->b.wt<=1099511627776 ->
  aQ prog 244 [.agg (ei a),.agg (ei b)] (.v (.bool (sameTy a b)))
 | 0,a,b,hn,_,_=>by have:=a.er;omega
 | n + 1,.mk h ps,.mk k qs,hn,cC,Yo=>by
  have ih:=zK n;simp only [Ty.wt,Hd.wt] at hn cC Yo
  have hE:aQ prog 247 [.sl 18 (gd ps) none,.sl 18 (gd qs) none,.fn 239 [] []] (.v (.bool (samePts ps qs))):=by
   rw [<- wo];refine DI 239 Mi dj ps qs (by omega) fun e p t q u hx hy=>?_;have hw1:=Pts.gG (mG hx);have hw2:=Pts.gG (mG hy);exact nN p q t u (by omega) (by omega) (ih t u (by omega) (by omega) (by omega))
  refine eG 53 [.tmp 4] func244 rfl ntmps244 rfl fun _ _ _ _=>?_;refine br ?_ ?_<;>intro hA
  ·simp [au] at hA;obtain ⟨⟨⟨⟨e1,e2⟩,e3⟩,e4⟩,e5⟩:=hA;refine cP Ip (il h.af k.af (by omega) (by omega)) ?_;refine br ?_ ?_<;>intro hB
   ·refine (congrArg (fun b=>DV.v (.bool b)) ?_:_=_);simp [au,e1,e2,e3,e4,e5] at hB;simp [sameTy,lj,hB]
   ·simp [au,e1,e2,e3,e4,e5] at hB;refine cP Ya hE ?_;refine (congrArg (fun b=>DV.v (.bool b)) ?_:_=_);simp [sameTy,lj,e1,e2,e3,e4,e5,hB]
  ·refine (congrArg (fun b=>DV.v (.bool b)) ?_:_=_);simp [au] at hA;simp only [sameTy,lj]
   grind
theorem wu (a b:Ty) (ha:a.wt<=1099511627776) (hb:b.wt<=1099511627776):aQ prog 244 [.agg (ei a),.agg (ei b)] (.v (.bool (sameTy a b))):=zK _ a b (Nat.le_refl _) ha hb
def wv (h:Hd) (ps:Pts):Bool:=
 (((((decide (h.ag=2) || (decide (h.lo=0) && decide (h.hi=0))) && ((decide (h.ag=3) || decide (h.ag=5)) || decide (h.most=0))) && (decide (ps.len=0) || (decide (5<=h.ag) && decide (h.ag<=8)))) &&
  (decide (h.af.length=0) || decide (h.ag=4))) && (decide (h.name.s=av) || decide (h.ag=9)))
theorem JX (h:Hd) (ps:Pts):aQ prog 199 [.agg (ei (.mk h ps))] (.v (.bool (wv h ps))):=by
 have l1:(((gd ps).length:Int)=0)=(ps.len=0):=by rw [aK];exact propext (by omega)
 have l2:(((bJ h.af).length:Int)=0)=(h.af.length=0):=by rw [aw];exact propext (by omega)
 have he:(⟨#[]⟩:ByteArray)=av:=rfl;refine eG 67 [.tmp 2] func199 rfl ntmps199 rfl fun _ _ _ _=>?_;refine br ?_ ?_<;>intro k2
 ·have k2:h.ag=2:=of_decide_eq_true k2;refine (congrArg (fun b=>DV.v (.bool b)) ?_:_=_);rw [Bool.eq_iff_iff];simp [aq,au,wv,aK,aw,k2,he]
 have k2:¬ h.ag=2:=of_decide_eq_false k2;refine br ?_ ?_<;>intro k3
 ·have k3:h.ag=3:=of_decide_eq_true k3;refine br (fun _=>?_) (fun hf=>?_)
  ·refine (congrArg (fun b=>DV.v (.bool b)) ?_:_=_);rw [Bool.eq_iff_iff];simp [aq,au,wv,aK,aw,k3,he]
  ·exact absurd k3 (of_decide_eq_false hf)
 have k3:¬ h.ag=3:=of_decide_eq_false k3;refine br ?_ ?_<;>intro k5
 ·have k5:h.ag=5:=of_decide_eq_true k5;refine (congrArg (fun b=>DV.v (.bool b)) ?_:_=_);rw [Bool.eq_iff_iff];simp [aq,au,wv,aK,aw,k5,he]
 have k5:¬ h.ag=5:=of_decide_eq_false k5;refine (congrArg (fun b=>DV.v (.bool b)) ?_:_=_);rw [Bool.eq_iff_iff];simp [aq,au,wv,aK,aw,k2,k3,k5,he]
theorem BI:∀ ps:Pts,samePts ps ps=true:=by
 have wr:∀ l:List Wd,sameWds l l=true:=by
  intro l
  induction l with
  | nil=>rfl
  | cons x r ih=>simp [sameWds,ih]
 have key:∀ n,(∀ t:Ty,t.wt<=n->sameTy t t=true)/\(∀ ps:Pts,ps.wt<=n->samePts ps ps=true):=by
  intro n
  induction n using Nat.strongRecOn with
  | _ n ih=>
   have hp:∀ ps:Pts,ps.wt<=n->(∀ t:Ty,t.wt + 256<=n->sameTy t t=true)->samePts ps ps=true:=by
    intro ps
    induction ps using Pts.rec (motive_1:=fun _=>True) with
    | mk=>trivial
    | nil=>intros;simp [samePts]
    | cons p t r _ ihr=>
     intro hw ht;simp only [Pts.wt,Ph.wt] at hw;simp only [samePts];rw [ht t (by omega),ihr (by omega) ht];simp [bW,wr]
   refine ⟨fun t ht=>?_,fun ps Yp=>?_⟩
   ·obtain ⟨h,ps⟩:=t;simp only [Ty.wt,Hd.wt] at ht;simp only [sameTy,lj];rw [(ih ps.wt (by omega)).2 ps (Nat.le_refl _),wr];simp
   ·exact hp ps Yp fun t ht=>(ih t.wt (by omega)).1 t (Nat.le_refl _)
 exact fun ps=>(key ps.wt).2 ps (Nat.le_refl _)
theorem Iv (h:Hd) (ps:Pts):wv h ps=sameTy (.mk h ps) (mask (.mk h ps)):=by
 have wr:∀ l:List Wd,sameWds l l=true:=by
  intro l
  induction l with
  | nil=>rfl
  | cons x r ih=>simp [sameWds,ih]
 have wn:∀ l:List Wd,sameWds l []=decide (l.length=0):=by
  intro l;cases l<;>simp [sameWds]
 have pn:∀ l:Pts,samePts l .nil=decide (l.len=0):=by
  intro l;cases l<;>simp [samePts,Pts.len]
 have pr:=BI ps;simp only [mask,sameTy,lj,jH]
 have e5:samePts ps (if 4 < h.ag/\h.ag < 9 then ps else .nil)=(decide (ps.len=0) || (decide (5<=h.ag) && decide (h.ag<=8))):=by
  split
  ·rename_i hc;rw [pr,decide_eq_true (by omega:5<=h.ag),decide_eq_true (by omega:h.ag<=8)];simp
  ·rename_i hc;rw [pn,Bool.eq_iff_iff];simp;omega
 have e6:sameWds h.af (if h.ag=4 then h.af else [])=(decide (h.af.length=0) || decide (h.ag=4)):=by
  split
  ·rename_i hc;rw [wr];simp [hc]
  ·rename_i hc;rw [wn];simp [hc]
 rw [e5,e6];unfold wv;by_cases k2:h.ag=2
 ·rw [Bool.eq_iff_iff];simp [k2];grind
 ·by_cases k3:h.ag=3∨h.ag=5
  ·by_cases k9:h.ag=9
   ·omega
   ·rw [Bool.eq_iff_iff];simp [k2,k3,k9];grind
  ·by_cases k9:h.ag=9
   ·rw [Bool.eq_iff_iff];simp [k9];grind
   ·rw [Bool.eq_iff_iff];simp [k2,k3,k9];grind
theorem DJ (p:Ph) (t:Ty) (hp:p.wt<=1099511627776):aQ prog 232 [.agg (Gi p (ei t))] (.v (.bool (dj p cq ff cq))):=by
 obtain ⟨th,tps⟩:=t;refine eG 8 [.tmp 2] func232 rfl ntmps232 rfl fun _ _ _ _=>?_;refine cP Mi (nN p ff cq cq hp (by decide) (wu cq cq (by decide) (by decide))) ?_;exact (rfl:_=_)
def az (l:List Wd):List ByteArray:=l.map fun w=>w.s
noncomputable def enumP (l:List Wd):Nat->Ft
 | 0=>(0,0)
 | e + 1=>
  if (enumP l e).1≠0 then enumP l e
  else match l[e]? with
   | some w=>ik (az (l.take (e + 1))) w.s w.a
   | none=>(0,0)
theorem pH {l:List Wd} {e:Nat} (h:(enumP l e).1≠0):∀ d,enumP l (e + d)=enumP l e
 | 0=>rfl
 | d + 1=>by
  have ih:=pH h d;rw [<- Nat.add_assoc,enumP,ih,if_pos h]
theorem BJ {L:List ByteArray} {x:ByteArray} {a:Int} (h:(ik L x a).1=0):ik L x a=(0,0):=by
 unfold ik at *;split
 ·rename_i h1;rw [if_pos h1] at h;split
  ·rfl
  ·rename_i h2;rw [if_neg h2] at h;simp at h
 ·rename_i h1;rw [if_neg h1] at h;simp at h
theorem Gt {l:List Wd}:∀ {e:Nat},(enumP l e).1=0->enumP l e=(0,0)
 | 0,_=>rfl
 | e + 1,h=>by
  rw [enumP] at h ⊢;split
  ·rename_i h1;rw [if_pos h1] at h;exact absurd h h1
  ·rename_i h1;rw [if_neg h1] at h;split
   ·rename_i w hw;rw [hw] at h;exact BJ h
   ·rfl
theorem wx {l:List Wd} {e:Nat} {w:Wd} (h:(enumP l e).1=0) (hw:l[e]? = some w):enumP l (e + 1)=ik (az (l.take (e + 1))) w.s w.a:=by
 rw [enumP,if_neg (by rw [h];simp),hw]
noncomputable def nO (h:Hd):Ft:=
 if h.af.length=0 then (15,h.aS) else if 64 < h.af.length then (8,((h.af[64]?).getD (⟨av,0⟩:Wd)).a) else enumP h.af h.af.length
abbrev My (h:Hd) (ps:Pts) (n e:Nat):St:=
 ⟨[(1,⟨[],.loc 0 0⟩),(2,⟨[],.loc 1 0⟩),(27,⟨[],.sl 2 (bJ h.af) none⟩),(28,⟨[],.v (.int .i64 (bJ h.af).length)⟩),(29,⟨[],.v (.int .i64 e)⟩),(3,⟨[],.sl 1 (eV (az (h.af.take e))) (some 0)⟩)],
  [ei (.mk h ps),[.v (.int .i64 0),.v (.int .i64 0)]],[⟨n,9,1,none⟩]⟩
theorem j3 {l:List Wd} {e:Nat} {w:Wd} (h:l[e]? = some w):eV (az (l.take e)) ++ [[DV.v (.string w.s)]]=eV (az (l.take (e + 1))):=by
 rw [List.take_add_one,h];simp [eV,az]
theorem Gu (h:Hd) (ps:Pts) (hs:wdsWt h.af<=1099511627776):aQ prog 200 [.agg (ei (.mk h ps))] (nO h).d:=by
 have hl:=bG h.af;refine eG 48 [.cell 2 45] func200 rfl ntmps200 rfl fun _ _ _ _=>?_;refine br ?_ ?_<;>intro h0
 ·have h0:h.af.length=0:=by have:=h0;simp [aw] at this;simp [this]
  refine cP ep (bH 15 h.aS) ?_;refine ⟨_,?_,rfl⟩;rw [nO,if_pos h0];exact ax
 have h0:¬ h.af.length=0:=by have:=h0;simp [aw] at this;simpa using this
 refine br ?_ ?_<;>intro h1
 ·have h1:64 < h.af.length:=by have:=h1;simp [aw] at this;omega
  obtain ⟨x,hx⟩:∃ x,h.af[64]? = some x:=⟨_,gE h1⟩;refine ⟨ko x,⟨by omega,aT hx⟩,?_⟩;refine cP ep (bH 8 x.a) ?_;refine ⟨_,?_,rfl⟩;rw [nO,if_neg h0,if_pos h1,hx];exact ax
 have h1:¬ 64 < h.af.length:=by have:=h1;simp [aw] at this;omega
 have hk:nO h=enumP h.af h.af.length:=by rw [nO,if_neg h0,if_neg h1]
 rw [hk];refine lI (fun j st=>∃ e:Nat,st=My h ps e e/\e<=h.af.length/\(enumP h.af e).1=0/\j=h.af.length - e) ⟨0,rfl,by omega,rfl,rfl⟩ (fu ⟨0,9,1,none⟩ rfl ⟨_,rfl⟩ rfl wA rfl rfl lY) ?_;rintro j st ⟨e,rfl,he,hz,rfl⟩;refine br ?_ ?_<;>intro hL
 ·have aj:e < h.af.length:=by simpa [aw] using hL
  obtain ⟨w,hw⟩:=gX aj;have Sy:=iU (mG hw);have qV:=wx hz hw
  have Mz:(az (h.af.take (e + 1)))[(az (h.af.take (e + 1))).length - 1]? = some w.s:=by
   have yQ:(az (h.af.take (e + 1))).length=e + 1:=by simp [az];omega
   rw [yQ];simp [az,hw]
  refine ⟨ko w,⟨by omega,aT hw⟩,?_⟩;refine ⟨by simp [ch,az];omega,⟨by simp [ch,az,maxLen];omega,by simp [ch,az];omega⟩,?_⟩;have du:=j3 hw;have TD:=tS (az (h.af.take (e + 1))) w.s w.a Mz (by simp [az];omega) (by omega);rw [<- du,<- qV] at TD;refine cP Sk TD ?_;refine br ?_ ?_<;>intro hf
  ·have hf:(enumP h.af (e + 1)).1≠0:=sU hf;refine ⟨_,?_,rfl⟩;have aR:=pH hf (h.af.length - (e + 1));rw [show e + 1 + (h.af.length - (e + 1))=h.af.length by omega] at aR;rw [aR];exact ax
  ·have hf:(enumP h.af (e + 1)).1=0:=sU hf;refine ⟨My h ps (e + 1) (e + 1),(ah ⟨_,rfl⟩ wA rfl rfl rfl (wB2 (aF aj (by omega)) du)),h.af.length - (e + 1),by omega,e + 1,rfl,by omega,hf,rfl⟩
 ·have aM:e=h.af.length:=by
   have:=hL;simp [aw] at this;omega
  subst aM;have aR:=Gt hz;refine ⟨_,?_,rfl⟩;rw [aR];exact ax
def Yq (t:Ty) (depth m:Int) (r:DV) (os:List (List DV)) (_:List TkE):Prop:=
 r=(wrong t depth m).1.d/\∃ z:Int,os=[[.v (.int .i64 z)]]/\((wrong t depth m).1.1=0->z=(wrong t depth m).2)
theorem Ur {t:Ty} {depth m:Int}:∀ r os tk,Yq t depth m r os tk->clB 0 0 r=true/\∀ rS∈os,clB.clL 0 0 rS=true:=by
 rintro r os tk ⟨rfl,z,rfl,_⟩;refine ⟨rfl,fun rS h=>?_⟩;simp only [List.mem_singleton] at h;subst h;rfl
theorem JY (t:Ty) (hc:Ev prog 160 [.loc 0 0,.agg (ei t),.v (.int .i64 1)] [[.v (.int .i64 0)]] [] (Yq t 1 0)) :
  aQ prog 96 [.agg (ei t)] (wrong t 1 0).1.d:=by
 obtain ⟨h,ps⟩:=t;refine eG 9 [.cell 2 45] func96 rfl ntmps96 rfl fun _ _ _ _=>?_;refine mq Md rfl rfl ax ax hc Ur (fun r rS hr=>?_);obtain ⟨rfl,z,hz,_⟩:=hr;simp only [List.cons.injEq,and_true] at hz;subst hz;exact ⟨_,ax,rfl⟩
theorem wr (z:Int) (h1 : -9223372036854775808<=z) (h2:z<=9223372036854775807):IntKind.i64.wrap z=z:=by
 rw [IntKind.wrap_i64];omega
end Go.Proofs.YtadhpeooehkklaaGreat
set_option maxRecDepth 100000
namespace Go.Proofs.YtadhpeooehkklaaGreat
open Go Go.RowKit Dv Go.Proofs.Tryz
end Go.Proofs.YtadhpeooehkklaaGreat
set_option maxRecDepth 100000
namespace Go.Proofs.YtadhpeooehkklaaGreat
open Go Go.RowKit Dv Go.Proofs.Tryz
def V4 (z:Int):Prop:=-9223372036854775808<=z/\z<=9223372036854775807
end Go.Proofs.YtadhpeooehkklaaGreat
set_option maxRecDepth 100000
namespace Go.Proofs.YtadhpeooehkklaaGreat
open Go Go.RowKit Dv Go.Proofs.Tryz
end Go.Proofs.YtadhpeooehkklaaGreat
set_option maxRecDepth 100000
namespace Go.Proofs.YtadhpeooehkklaaGreat
open Go Go.RowKit Dv Go.Proofs.Tryz
end Go.Proofs.YtadhpeooehkklaaGreat
set_option maxRecDepth 100000
namespace Go.Proofs.YtadhpeooehkklaaGreat
open Go Go.RowKit Dv Go.Proofs.Tryz
end Go.Proofs.YtadhpeooehkklaaGreat
set_option maxRecDepth 100000
namespace Go.Proofs
open Go.Shelf
end Go.Proofs
namespace Go.Proofs.YtadhpeooehkklaaGreat
open Go Go.RowKit Dv Go.Proofs.Tryz
end Go.Proofs.YtadhpeooehkklaaGreat
set_option maxRecDepth 100000
namespace Go.Proofs.YtadhpeooehkklaaGreat
open Go Go.RowKit Dv Go.Proofs.Tryz
end Go.Proofs.YtadhpeooehkklaaGreat
set_option maxRecDepth 100000
namespace Go.Proofs.YtadhpeooehkklaaGreat
open Go Go.RowKit Dv Go.Proofs.Tryz
end Go.Proofs.YtadhpeooehkklaaGreat
set_option maxRecDepth 100000
namespace Go.Proofs.YtadhpeooehkklaaGreat
open Go Go.RowKit Dv Go.Proofs.Tryz
end Go.Proofs.YtadhpeooehkklaaGreat
set_option maxRecDepth 100000
namespace Go.Proofs.YtadhpeooehkklaaGreat
open Go Go.RowKit Dv Go.Proofs.Tryz
mutual
def rngT:Ty->Prop
 | .mk h ps=>V4 h.lo/\V4 h.hi/\V4 h.most/\rngP ps
def rngP:Pts->Prop
 | .nil=>True
 | .cons p t r=>V4 p.wide/\V4 p.cn/\rngT t/\rngP r
end
end Go.Proofs.YtadhpeooehkklaaGreat
namespace Go.Proofs.YtadhpeooehkklaaGreat
namespace Dv
open Go Go.RowKit
def TypFs (f:TypeId->List DV->Prop):List TypeId->List DV->Prop
 | [],ds=>ds=[]
 | t :: r,ds=>∃ a b,ds=a ++ b/\f t a/\TypFs f r b
def Typ (P:Program):Nat->TypeId->List DV->Prop
 | 0,_,_=>False
 | n + 1,t,ds=>
  match P.underlying t with
  | some .bool=>∃ b,ds=[.v (.bool b)]
  | some (.int k)=>∃ z,ds=[.v (.int k z)]/\(Lit.int k z).wf=true
  | some .string=>∃ s:ByteArray,ds=[.v (.string s)]
  | some (.slice e)=>∃ es,ds=[.sl (P.cellsOf e) es none]/\∀ cs∈es,Typ P n e cs
  | some (.struct fs)=>TypFs (Typ P n) (fs.toList.map (·.type)) ds
  | _=>False
mutual
def wgD:DV->Nat
 | .v (.string s)=>s.size + 64
 | .sl _ es _=>64 + wgEs es
 | _=>64
def wgL:List DV->Nat
 | []=>0
 | d :: r=>wgD d + wgL r
def wgEs:List (List DV)->Nat
 | []=>0
 | cs :: r=>wgL cs + wgEs r
end
theorem eP:∀ a b:List DV,wgL (a ++ b)=wgL a + wgL b
 | [],b=>by simp [wgL]
 | d :: r,b=>by simp only [List.cons_append,wgL,eP r b];omega
def laidF (P:Program) (S:List TypeId):Nat->List Field->Nat->Bool
 | off,[],n=>decide (off=n)
 | off,f :: r,n=>decide (f.offset=off) && S.contains f.type && laidF P S (off + P.cellsOf f.type) r n
def lk (P:Program) (S:List TypeId) (t:TypeId):Bool:=
 match P.underlying t with
 | some .bool=>decide (P.cellsOf t=1)
 | some (.int _)=>decide (P.cellsOf t=1)
 | some .string=>decide (P.cellsOf t=1)
 | some (.slice e)=>decide (P.cellsOf t=1) && S.contains e && decide (0 < P.cellsOf e)
 | some (.struct fs)=>laidF P S 0 fs.toList (P.cellsOf t)
 | _=>false
def bkS {H:Type} (bk:DataW H->Nat):List (DataW H)->Nat
 | []=>0
 | d :: r=>bk d + bkS bk r
structure Bk {H:Type} (bk:DataW H->Nat):Prop where
 str:∀ l:List UInt8,l.length + 1<=bk (.lit (.string l))
 lit:∀ l,1<=bk (.lit l)
 nil:1<=bk .nil
 slice:∀ es sp,1 + bkS bk es<=bk (.slice es sp)
 agg:∀ l,bkS bk l<=bk (.agg l)
def FN (w:World):En:=⟨fun a=>w.cell? a,[],[],[]⟩
theorem Qd (w:World):Env (FN w) [] w where
 len:=rfl
 tl:=rfl
 eU:=by simp
 inj:=List.nodup_nil
 sub:=fun x u hx=>hx
 pc:=by simp [FN]
 cu:=by simp [FN]
 jm:=by simp [FN]
theorem JZ {w:World} {a:Addr} {k:Nat} {v:Value} (h:w.cell? (a.add k)=some v):w.cell? ⟨a.block,a.off + k,none⟩=some v:=by
 unfold Addr.add at h;split at h
 ·rename_i hk;subst hk;unfold World.cell? at h ⊢;split at h
  ·rename_i c e z he;split at h
   ·cases h
   ·simpa [he] using h
  ·cases h
 ·exact h
theorem J0 {w:World} {a:Addr} {v:Value} (h:w.cell? a=some v):a.spot=none:=by
 unfold World.cell? at h;split at h
 ·split at h
  ·cases h
  ·rename_i hs;simpa using hs
 ·cases h
theorem wy {E:En} {b:Nat}:∀ {p:Nat} {ds:List DV} {vs:List Value},RvL E.cl ds vs->(∀ (j:Nat) v,vs[j]? = some v->E.c ⟨b,p + j,none⟩=some v/\v.oneCell'=true)->RvAt E.cl b p ds
 | p,[],vs,h,hc=>by simp only [RvAt]
 | p,d :: r,vs,h,hc=>by
  simp only [RvL] at h;obtain ⟨v,s,rfl,h1,h2⟩:=h;simp only [RvAt];obtain ⟨c1,c2⟩:=hc 0 v rfl;refine ⟨⟨v,c1,c2,h1⟩,wy (p:=p + 1) h2 fun j u hj=>?_⟩;have:=hc (j + 1) u hj;rw [show p + 1 + j=p + (j + 1) by omega];exact this
section
variable {H:Type} {enc:TypeId × Value->H} {P:Program} {w:World} {sp:Nat->Bool} {held:Bool} {S:List TypeId} {bk:DataW H->Nat}
def Rd (enc:TypeId × Value->H) (P:Program) (w:World) (bk:DataW H->Nat) (n:Nat) (t:TypeId) (cs:List Value) (d:DataW H):Prop:=
 ∃ ds,RvL (FN w) ds cs/\(∀ v∈cs,v.oneCell'=true)/\Typ P n t ds/\wgL ds<=64 * bk d/\cs.length=P.cellsOf t
theorem zL {n:Nat} (ih:∀ t cs x,t∈S->DataW.trod enc P w 0 sp held n t cs=some x->Rd enc P w bk n t cs x.1) (cs:List Value) :
  ∀ (fs:List Field) (off:Nat) (xs:List (DataW H × List MemPlace)),laidF P S off fs cs.length=true->xs.length=fs.length ->
   (∀ (i:Nat) f,fs[i]? = some f->DataW.trod enc P w 0 sp held n f.type ((cs.drop f.offset).take (P.cellsOf f.type))=xs[i]?) ->
   ∃ ds,RvL (FN w) ds (cs.drop off)/\(∀ v∈cs.drop off,v.oneCell'=true)/\TypFs (Typ P n) (fs.map (·.type)) ds/\wgL ds<=64 * bkS bk (xs.map (·.1))
 | [],off,xs,hl,CQ,hx=>by
  simp only [laidF,decide_eq_true_eq] at hl;subst hl;simp only [List.length_nil,List.length_eq_zero_iff] at CQ;subst CQ;exact ⟨[],by simpa using cK _,by simp,by simp [TypFs],by simp [wgL]⟩
 | f :: r,off,xs,hl,CQ,hx=>by
  simp only [laidF,Bool.and_eq_true,decide_eq_true_eq] at hl;obtain ⟨⟨hof,hS⟩,hl⟩:=hl
  match xs,CQ with
  | x :: xs,CQ=>
   have h0:=hx 0 f rfl;rw [hof] at h0;simp only [List.getElem?_cons_zero] at h0;obtain ⟨ds0,r1,r2,r3,r4,r5⟩:=ih f.type _ x (sU hS) h0;obtain ⟨ds1,s1,s2,s3,s4⟩:=zL ih cs r (off + P.cellsOf f.type) xs hl (sU CQ) (fun i g hg=>by simpa using hx (i + 1) g (sU hg))
   have MA:cs.drop off=(cs.drop off).take (P.cellsOf f.type) ++ cs.drop (off + P.cellsOf f.type):=by
    rw [<- List.drop_drop,List.take_append_drop]
   refine ⟨ds0 ++ ds1,?_,?_,?_,?_⟩
   ·rw [MA];exact RvL.append r1 s1
   ·rw [MA];intro v hv;rcases List.mem_append.1 hv with hv | hv
    ·exact r2 v hv
    ·exact s2 v hv
   ·simp only [List.map_cons,TypFs];exact ⟨ds0,ds1,rfl,r3,s3⟩
   ·rw [eP];simp only [List.map_cons,bkS];omega
theorem DK {n e:Nat} (ih:∀ t cs x,t∈S->DataW.trod enc P w 0 sp held n t cs=some x->Rd enc P w bk n t cs x.1) (he:e∈S) (a:Addr) :
  ∀ (xs:List (DataW H × List MemPlace)) (i0:Nat),(∀ i,i < xs.length->(w.cells? 0 (a.add ((i0 + i) * P.cellsOf e)) (P.cellsOf e)).bind (DataW.trod enc P w 0 sp held n e)=xs[i]?) ->
   ∃ es,es.length=xs.length/\RvEs (FN w) (P.cellsOf e) a.block (a.off + i0 * P.cellsOf e) es/\(∀ cs∈es,Typ P n e cs)/\wgEs es<=64 * bkS bk (xs.map (·.1))
 | [],i0,hx=>⟨[],rfl,by simp only [RvEs],by simp,by simp [wgEs]⟩
 | x :: xs,i0,hx=>by
  have h0:=hx 0 (by simp);simp only [Nat.add_zero,List.getElem?_cons_zero] at h0;obtain ⟨cs,cW,ht⟩:=Option.bind_eq_some_iff.1 h0;obtain ⟨_,hlen,qD⟩:=World.cells?_some cW;obtain ⟨ds0,r1,r2,r3,r4,r5⟩:=ih e cs x he ht
  obtain ⟨es,s1,s2,s3,s4⟩:=DK ih he a xs (i0 + 1) (fun i hi=>by
   have:=hx (i + 1) (sU hi);simp only [List.getElem?_cons_succ] at this;rw [show i0 + 1 + i=i0 + (i + 1) by omega]
   exact this)
  refine ⟨ds0 :: es,by simp [s1],?_,?_,?_⟩
  ·simp only [RvEs];refine ⟨by rw [<- r1.length,hlen],wy (E:=FN w) r1 fun j v hj=>⟨?_,r2 v (mG hj)⟩,?_⟩
   ·have nD:j < P.cellsOf e:=by rw [<- hlen];exact (gS hj).1
    have h1:=qD j nD;rw [hj,Deep.add_add] at h1;have h2:=JZ h1;show w.cell? _=_;rw [Nat.add_assoc];exact h2
   ·rw [Nat.add_assoc,show i0 * P.cellsOf e + P.cellsOf e=(i0 + 1) * P.cellsOf e by rw [Nat.add_mul,Nat.one_mul]];exact s2
  ·intro cs' hc;rcases List.mem_cons.1 hc with hc | hc
   ·subst hc;exact r3
   ·exact s3 cs' hc
  ·simp only [wgEs,List.map_cons,bkS];omega
theorem u1 (Lj:Bk bk) (hS:∀ t∈S,lk P S t=true):∀ (n:Nat) (t:TypeId) (cs:List Value) (x:DataW H × List MemPlace),t∈S->DataW.trod enc P w 0 sp held n t cs=some x->Rd enc P w bk n t cs x.1
 | 0,t,cs,x,_,h=>by simp [DataW.trod] at h
 | n + 1,t,cs,x,ht,h=>by
  have hf:=hS t ht;unfold lk at hf;unfold Rd
  cases hu:P.underlying t with
  | none=>rw [hu] at hf;cases hf
  | some D=>
   rw [hu] at hf
   cases D with
   | bool=>
    simp only [decide_eq_true_eq] at hf;obtain ⟨b,rfl,rfl⟩:=DataW.trod_bool hu h;have:=Lj.lit (.bool b);exact ⟨[.v (.bool b)],rvL_one (by unfold Rv;exact ⟨rfl,rfl⟩),by simp [Value.oneCell'],by simp only [Typ,hu];exact ⟨b,rfl⟩,by simp only [wgL,wgD];omega,by simp [hf]⟩
   | int k=>
    simp only [decide_eq_true_eq] at hf;obtain ⟨z,rfl,rfl,hw⟩:=DataW.trod_int hu h;have:=Lj.lit (.int k z);exact ⟨[.v (.int k z)],rvL_one (by unfold Rv;exact ⟨rfl,rfl⟩),by simp [Value.oneCell'],by simp only [Typ,hu];exact ⟨z,rfl,hw⟩,by simp only [wgL,wgD];omega,by simp [hf]⟩
   | string=>
    simp only [decide_eq_true_eq] at hf;obtain ⟨s,rfl,rfl,hw⟩:=DataW.trod_string hu h;have:=Lj.str s.data.toList;have bL:s.data.toList.length=s.size:=by rw [Array.length_toList];all_goals rfl
    exact ⟨[.v (.string s)],rvL_one (by unfold Rv;exact ⟨rfl,rfl⟩),by simp [Value.oneCell'],by simp only [Typ,hu];exact ⟨s,rfl⟩,by simp only [wgL,wgD];omega,by simp [hf]⟩
   | slice e=>
    simp only [Bool.and_eq_true,decide_eq_true_eq] at hf;obtain ⟨⟨Lk,vF⟩,hf3⟩:=hf;rcases DataW.trod_slice hu h with ⟨rfl,rfl⟩ | ⟨a,len,cap,elems,rest,m,hm,rfl,rfl,_,VS,_,dY,hx,_,_⟩
    ·have:=Lj.nil;refine ⟨[.sl (P.cellsOf e) [] none],rvL_one ?_,by simp [Value.oneCell'],by simp only [Typ,hu];exact ⟨[],rfl,by simp⟩,by simp only [wgL,wgD,wgEs];omega,by simp [Lk]⟩;unfold Rv;exact ⟨none,0,0,rfl,⟨rfl,Nat.le_refl _⟩,fun hc=>absurd rfl hc,fun k hk=>by cases hk⟩
    ·simp only [Nat.add_right_cancel_iff] at hm;subst hm;obtain ⟨es,s1,s2,s3,s4⟩:=DK (fun t cs x=>u1 Lj hS n t cs x) (sU vF) a elems 0 (fun i hi=>by simpa using hx i (by omega));have hb:=Lj.slice (elems.map (·.1)) (rest.map (·.1));refine ⟨[.sl (P.cellsOf e) es none],rvL_one ?_,by simp [Value.oneCell'],by simp only [Typ,hu];exact ⟨es,rfl,s3⟩,by simp only [wgL,wgD];omega,by simp [Lk]⟩;unfold Rv;refine ⟨some a,len,cap,rfl,⟨by omega,VS⟩,fun bg=>⟨?_,?_⟩,fun k hk=>by cases hk⟩
     ·have jF:0 < len:=by
       rw [<- dY,<- s1];exact List.length_pos_iff.2 bg
      have h0:=hx 0 jF;rw [gE (by omega)] at h0;obtain ⟨cs,cW,_⟩:=Option.bind_eq_some_iff.1 h0;obtain ⟨_,hlen,qD⟩:=World.cells?_some cW;have h1:=qD 0 hf3;rw [gE (by omega),Deep.add_add] at h1;simp only [Nat.zero_mul,Nat.add_zero] at h1;exact J0 (a:=a) h1
     ·have s2':RvEs (FN w) (P.cellsOf e) a.block a.off es:=sU s2;exact s2'
   | struct fs=>
    obtain ⟨xs,m,hm,rfl,hlen,CQ,hx⟩:=DataW.trod_struct hu h;simp only [Nat.add_right_cancel_iff] at hm;subst hm;simp only at hf;obtain ⟨ds,s1,s2,s3,s4⟩:=zL (fun t cs x=>u1 Lj hS n t cs x) cs fs.toList 0 xs (by rw [hlen];exact hf) (sU CQ) (fun i f hi=>hx i f (sU hi));have hb:=Lj.agg (xs.map (·.1));refine ⟨ds,by simpa using s1,by simpa using s2,by simp only [Typ,hu];exact s3,by simp only;omega,hlen⟩
   | _=>cases hf
end
theorem Iw {P:Program} {n:Nat} {t:TypeId} {k:IntKind} {ds:List DV} (hu:P.underlying t=some (.int k)) (h:Typ P n t ds):∃ z,ds=[.v (.int k z)]/\(Lit.int k z).wf=true:=by
 cases n with
 | zero=>exact h.elim
 | succ n=>simp only [Typ,hu] at h;exact h
theorem MB {P:Program} {n:Nat} {t:TypeId} {ds:List DV} (hu:P.underlying t=some .bool) (h:Typ P n t ds):∃ b,ds=[.v (.bool b)]:=by
 cases n with
 | zero=>exact h.elim
 | succ n=>simp only [Typ,hu] at h;exact h
theorem BK {P:Program} {n:Nat} {t:TypeId} {ds:List DV} (hu:P.underlying t=some .string) (h:Typ P n t ds):∃ s:ByteArray,ds=[.v (.string s)]:=by
 cases n with
 | zero=>exact h.elim
 | succ n=>simp only [Typ,hu] at h;exact h
theorem sC {P:Program} {n:Nat} {t e:TypeId} {ds:List DV} (hu:P.underlying t=some (.slice e)) (h:Typ P n t ds):∃ m es,n=m + 1/\ds=[.sl (P.cellsOf e) es none]/\∀ cs∈es,Typ P m e cs:=by
 cases n with
 | zero=>exact h.elim
 | succ n=>
  simp only [Typ,hu] at h;obtain ⟨es,h1,h2⟩:=h;exact ⟨n,es,rfl,h1,h2⟩
theorem my {P:Program} {n:Nat} {t:TypeId} {fs:Array Field} {ds:List DV} (hu:P.underlying t=some (.struct fs)) (h:Typ P n t ds):∃ m,n=m + 1/\TypFs (Typ P m) (fs.toList.map (·.type)) ds:=by
 cases n with
 | zero=>exact h.elim
 | succ n=>
  simp only [Typ,hu] at h;exact ⟨n,rfl,h⟩
theorem wf_i64 {z:Int} (h:(Lit.int .i64 z).wf=true) : -9223372036854775808<=z/\z<=9223372036854775807:=by
 simpa [Lit.wf,IntKind.min,IntKind.max,IntKind.signed,IntKind.bits] using h
end Dv
end Go.Proofs.YtadhpeooehkklaaGreat
set_option maxRecDepth 100000
namespace Go.Proofs.YtadhpeooehkklaaGreat
open Go Go.RowKit Dv Go.Proofs.Tryz
theorem Gv:prog.cellsOf 27=2:=by kernel_rfl
theorem Gw:prog.cellsOf 153=18:=by kernel_rfl
theorem sD {n:Nat} {ds:List DV} (h:Typ prog n 27 ds):∃ w:Wd,ds=ko w/\w.wt<=wgL ds:=by
 obtain ⟨m,_,hf⟩:=my Tryz.underlying27 h;obtain ⟨a,b,rfl,h1,c,d,rfl,h2,rfl⟩:=hf;obtain ⟨s,rfl⟩:=BK Tryz.underlying9 h1;obtain ⟨z,rfl,_⟩:=Iw Tryz.underlying3 h2;exact ⟨⟨s,z⟩,rfl,by simp [wgL,wgD,Wd.wt]⟩
theorem MC:∀ {m:Nat} {es:List (List DV)},(∀ cs∈es,Typ prog m 27 cs)->∃ l:List Wd,es=bJ l/\wdsWt l<=wgEs es
 | m,[],h=>⟨[],rfl,by simp [wdsWt,wgEs]⟩
 | m,cs :: r,h=>by
  obtain ⟨w,rfl,hw⟩:=sD (h cs (by simp));obtain ⟨l,rfl,hl⟩:=MC (m:=m) (es:=r) (fun c hc=>h c (List.mem_cons_of_mem _ hc));exact ⟨w :: l,rfl,by simp only [wdsWt,wgEs];omega⟩
theorem u2 {n:Nat} {ds:List DV} (h:Typ prog n 22 ds):∃ l:List Wd,ds=[.sl 2 (bJ l) none]/\64 + wdsWt l<=wgL ds:=by
 obtain ⟨m,es,_,rfl,he⟩:=sC Tryz.underlying22 h;obtain ⟨l,rfl,hl⟩:=MC he;rw [Gv];exact ⟨l,rfl,by simp only [wgL,wgD];omega⟩
theorem lF {n:Nat} {ds:List DV} (h:Typ prog n 3 ds):∃ z,ds=[.v (.int .i64 z)]/\V4 z:=by
 obtain ⟨z,rfl,hw⟩:=Iw Tryz.underlying3 h;exact ⟨z,rfl,wf_i64 hw⟩
theorem MD {m:Nat} (ih:∀ k,k < m->∀ ds,Typ prog k 29 ds->∃ t:Ty,ds=ei t/\rngT t/\t.wt<=wgL ds) :
  ∀ {es:List (List DV)},(∀ cs∈es,Typ prog m 153 cs)->∃ ps:Pts,es=gd ps/\rngP ps/\ps.wt<=wgEs es
 | [],h=>⟨.nil,by simp [gd],by simp [rngP],by simp [Pts.wt]⟩
 | cs :: r,h=>by
  obtain ⟨ps,rfl,hr,hl⟩:=MD ih (es:=r) (fun c hc=>h c (List.mem_cons_of_mem _ hc));obtain ⟨k,rfl,hf⟩:=my Tryz.underlying153 (h cs (by simp));obtain ⟨a1,b1,rfl,h1,a2,b2,rfl,h2,a3,b3,rfl,h3,a4,b4,rfl,h4,a5,b5,rfl,h5,a6,b6,rfl,h6,rfl⟩:=hf;obtain ⟨nm,rfl,w1⟩:=sD h1;obtain ⟨bare,rfl⟩:=MB Tryz.underlying4 h2;obtain ⟨lab,rfl,w3⟩:=u2 h3;obtain ⟨wide,rfl,r4⟩:=lF h4;obtain ⟨k5,_,hf5⟩:=my Tryz.underlying151 h5;obtain ⟨c1,d1,rfl,g1,c2,d2,rfl,g2,c3,d3,rfl,g3,c4,d4,rfl,g4,rfl⟩:=hf5;obtain ⟨ck,rfl,_⟩:=lF g1;obtain ⟨cn,rfl,q2⟩:=lF g2;obtain ⟨ca,rfl,_⟩:=lF g3;obtain ⟨cl,rfl,w5⟩:=u2 g4;obtain ⟨t,rfl,rt,wt⟩:=ih k (by omega) _ h6;refine ⟨.cons ⟨nm,bare,lab,wide,ck,cn,ca,cl⟩ t ps,?_,by simp only [rngP];exact ⟨r4,q2,rt,hr⟩,?_⟩
  ·simp only [gd,Gi,ko,List.cons_append,List.nil_append,List.append_nil]
  ·simp only [Pts.wt,Ph.wt,wgEs,eP,wgL,wgD,ko] at *;simp only [Wd.wt] at *;omega
theorem ME:∀ (n:Nat) (ds:List DV),Typ prog n 29 ds->∃ t:Ty,ds=ei t/\rngT t/\t.wt<=wgL ds:=by
 intro n
 induction n using Nat.strongRecOn with
 | _ n ih=>
  intro ds h;obtain ⟨m,rfl,hf⟩:=my Tryz.underlying29 h;obtain ⟨a1,b1,rfl,h1,a2,b2,rfl,h2,a3,b3,rfl,h3,a4,b4,rfl,h4,a5,b5,rfl,h5,a6,b6,rfl,h6,a7,b7,rfl,h7,a8,b8,rfl,h8,rfl⟩:=hf;obtain ⟨ag,rfl,_⟩:=lF h1;obtain ⟨aS,rfl,_⟩:=lF h2;obtain ⟨lo,rfl,r3⟩:=lF h3;obtain ⟨hi,rfl,r4⟩:=lF h4;obtain ⟨most,rfl,r5⟩:=lF h5;obtain ⟨af,rfl,w6⟩:=u2 h6;obtain ⟨k,es,rfl,rfl,gh⟩:=sC Tryz.underlying25 h7;obtain ⟨ps,rfl,rp,wp⟩:=MD (fun j hj=>ih j (by omega)) gh;obtain ⟨nm,rfl,w8⟩:=sD h8;rw [Gw];refine ⟨.mk ⟨ag,aS,lo,hi,most,af,nm⟩ ps,?_,by simp only [rngT];exact ⟨r3,r4,r5,rp⟩,?_⟩
  ·simp only [ei,ko,List.cons_append,List.nil_append,List.append_nil]
  ·simp only [Ty.wt,Hd.wt,eP,wgL,wgD,ko] at *;simp only [Wd.wt] at *;omega
end Go.Proofs.YtadhpeooehkklaaGreat
namespace Go.Proofs.YtadhpeooehkklaaGreat
namespace Dv
open Go Go.RowKit Go.ChangeShapes Go.WideShapes Go.ChangeAt
open Go.ChangeMaps (open_string shut_string)
section
variable {H:Type} {enc:TypeId × Value->H} {P:Program}
theorem pg (hl:laidOutB P=true) {W W':World} (hb:Below W.heap.size W W'):∀ {ts:List TypeId} {vs:List Value} {ds:List (DataW H)} {ps:List MemPlace},(∀ t∈ts,P.readableRec t=true/\t < P.types.size) ->
  DataW.TrodAll enc P W 0 (fun _=>true) true ts vs ds ps->(∀ x∈ps,x.block < W.heap.size)->DataW.TrodAll enc P W' 0 (fun b=>decide (b < W.heap.size)) true ts vs ds ps
 | [],[],[],_,_,h,_=>h
 | t :: ts,v :: vs,d :: ds,_,ht,⟨p,q,h1,h2,e⟩,aj=>by
  subst e;obtain ⟨r1,r2⟩:=ht t (by simp);exact ⟨p,q,Below.trod hl r1 r2 h1 hb (fun x hx=>aj x (List.mem_append_left _ hx)),pg hl hb (fun t oZ=>ht t (by simp [oZ])) h2 (fun x hx=>aj x (List.mem_append_right _ hx)),rfl⟩
theorem law_post {f:Func} {s:ChangeSpec} {tb:TypeId} (hl:laidOutB P=true) (LN:f.resultTypes = #[tb]) (htb:P.underlying tb=some .bool) (hv:s.vars=[]) (hts:∀ t∈f.params.toList,P.readableRec t=true/\t < P.types.size)
  {W W':World} {args:Array Value} {ds gs:List (DataW H)} {before:List MemPlace} (hW:DataW.Whole enc P f.params.toList s.vars false W args.toList ds gs before) (CR:s.fn H ds={ results:=[.lit (.bool true)],args:=ds }) (hb:Below W.heap.size W W') :
  s.post enc P f false true false false W args (.bool true) W':=by
 have hW':=hW;obtain ⟨p,q,hA,hV,rfl,hfz,hnd⟩:=hW;rw [hv] at hV;obtain ⟨rfl,rfl⟩:=trodVars_none hV;refine ⟨ds,[],p ++ [],[],p,[],hW',?_,?_,?_,hb.frame _,fun h=>by cases h⟩
 ·rw [List.append_nil,CR,LN];exact trodAll_cons_mk (shut_bool htb _) trodAll_mk0
 ·rw [List.append_nil,CR];exact pg hl hb hts hA (fun x hx=>hW'.lt x (List.mem_append_left _ hx))
 ·rw [List.append_nil,CR,hv];rfl
theorem Gx {w w':World} {Φ:DV->List (List DV)->List TkE->Prop} {v:Value} (h:oY false (FN w) w Φ v w'):Below w.heap.size w w':=by
 obtain ⟨hm,_⟩:=h;refine ⟨hm.os,hm.tape,hm.output,hm.size,fun k hk=>hm.block k hk ?_⟩;rintro (h1 | ⟨y,h1,_⟩)
 ·simp [FN] at h1
 ·simp [FN] at h1
theorem calls_law {f:FuncId} {args:List DV} {vs:List Value} {w:World} (h:aQ P f args (.v (.bool true))) (hv:RvL (FN w) args vs) :
  Calls P f vs.toArray w fun e w'=>e = .returned (.bool true)/\Below w.heap.size w w':=by
 refine (h (FN w) w vs (Qd w) rfl hv).mono ?_;rintro e w' ⟨v,rfl,he⟩;have hb:=Gx he;obtain ⟨_,_,d,os,E,_,_,_,_,hr,rfl⟩:=he;unfold Rv at hr;rw [hr.1];exact ⟨rfl,hb⟩
variable {W:World} {base:Nat} {S:List TypeId} {bk:DataW H->Nat}
theorem arg_st (Lj:Bk bk) (hS:∀ t∈S,lk P S t=true) {t:TypeId} {fs:Array Field} {v:Value} {d:DataW H} {ps:List MemPlace} (ht:t∈S) (hu:P.underlying t=some (.struct fs))
  (hval:Value.okWide P W .any base t v) (h:DataW.Trod enc P W 0 (fun _=>true) true t v d ps):∃ n ds,Rv (FN W) (.agg ds) v/\Typ P n t ds/\wgL ds<=64 * bk d:=by
 unfold Value.okWide at hval;rw [hu] at hval;obtain ⟨cs,rfl,_,_⟩:=hval;obtain ⟨n,hn⟩:=h;obtain ⟨ds,h1,h2,h3,h4,_⟩:=u1 Lj hS n t _ _ ht hn;refine ⟨n,ds,?_,h3,h4⟩;unfold Rv;exact ⟨cs.toList,by simp,h1,h2⟩
end
end Dv
end Go.Proofs.YtadhpeooehkklaaGreat
namespace Go.Proofs.YtadhpeooehkklaaGreat
open Go Go.RowKit Dv
theorem Gy {H:Type}:∀ l:List (DataW H),bkS Rows.uptoBulk l=Rows.uptoBulkAll l
 | []=>by simp [bkS,Rows.uptoBulkAll]
 | d :: r=>by simp only [bkS,Rows.uptoBulkAll,Gy r]
theorem bk_ok {H:Type}:Bk (Rows.uptoBulk (H:=H)) where
 str:=fun l=>by simp [Rows.uptoBulk]
 lit:=fun l=>by cases l<;>simp [Rows.uptoBulk]
 nil:=by simp [Rows.uptoBulk]
 slice:=fun es sp=>by simp only [Rows.uptoBulk,Gy];omega
 agg:=fun l=>by simp only [Rows.uptoBulk,Gy];omega
theorem bulk_le {H:Type} {l:List (DataW H)} (hk:Rows.uptoSmall H l=true):Rows.uptoBulkAll l<=1048576:=of_decide_eq_true hk
theorem laid_out:laidOutB Tryz.prog=true:=by kernel_rfl
theorem own_knob:ownKnob Tryz.prog.godebug=none:=by kernel_rfl
def tyS:List TypeId:=[29,22,27,9,3,25,153,4,151]
end Go.Proofs.YtadhpeooehkklaaGreat
set_option maxRecDepth 100000
namespace Go.Proofs.YtadhpeooehkklaaGreat
open Go Go.RowKit Dv Go.Proofs.Tryz
def Pts.take:Nat->Pts->Pts
 | 0,_=>.nil
 | _ + 1,.nil=>.nil
 | e + 1,.cons p t r=>.cons p t (r.take e)
structure Sch where
 ae:List Wd
 order:List (Wd × Wd)
 types:List (Wd × Ty)
 root:Ty
def Ll (p:Wd × Wd):List DV:=[.v (.string p.1.s),.v (.int .i64 p.1.a),.v (.string p.2.s),.v (.int .i64 p.2.a)]
def nh (l:List (Wd × Wd)):List (List DV):=l.map Ll
def dNm (x:Wd × Ty):List DV:=.v (.string x.1.s) :: .v (.int .i64 x.1.a) :: ei x.2
def dNms (l:List (Wd × Ty)):List (List DV):=l.map dNm
def fQ (s:Sch):List DV:=.sl 2 (bJ s.ae) none :: .sl 4 (nh s.order) none :: .sl 11 (dNms s.types) none :: ei s.root
def prsWt:List (Wd × Wd)->Nat
 | []=>0
 | p :: r=>p.1.wt + p.2.wt + prsWt r
def nmsWt:List (Wd × Ty)->Nat
 | []=>0
 | p :: r=>p.1.wt + p.2.wt + nmsWt r
def Sch.wt (s:Sch):Nat:=wdsWt s.ae + prsWt s.order + nmsWt s.types + s.root.wt
theorem gp (l:List (Wd × Wd)):(nh l).length=l.length:=by simp [nh]
theorem dR (l:List (Wd × Ty)):(dNms l).length=l.length:=by simp [dNms]
theorem im {l:List (Wd × Wd)} {j:Nat} {p:Wd × Wd} (h:l[j]? = some p):(nh l)[j]? = some (Ll p):=by simp [nh,h]
theorem dNms_get {l:List (Wd × Ty)} {j:Nat} {p:Wd × Ty} (h:l[j]? = some p):(dNms l)[j]? = some (dNm p):=by simp [dNms,h]
theorem ja:∀ l:List (Wd × Wd),128 * l.length<=prsWt l
 | []=>Nat.le_refl _
 | p :: r=>by have:=ja r;simp only [List.length_cons,prsWt,Wd.wt];omega
theorem j4:∀ l:List (Wd × Ty),256 * l.length<=nmsWt l
 | []=>Nat.le_refl _
 | p :: r=>by have:=j4 r;have:=p.2.er;simp only [List.length_cons,nmsWt,Wd.wt];omega
theorem gU:∀ {l:List (Wd × Ty)} {p:Wd × Ty},p∈l->p.1.wt + p.2.wt<=nmsWt l
 | x :: r,p,h=>by
  rcases List.mem_cons.1 h with h | h
  ·subst h;simp only [nmsWt];omega
  ·have:=gU h;simp only [nmsWt];omega
def Yr (s:Sch):Prop:=(∀ x∈s.types,rngT x.2)/\rngT s.root
theorem Gz:prog.cellsOf 220=4:=by kernel_rfl
theorem DL:prog.cellsOf 87=11:=by kernel_rfl
theorem Us {n:Nat} {ds:List DV} (h:Typ prog n 220 ds):∃ p:Wd × Wd,ds=Ll p/\p.1.wt + p.2.wt<=wgL ds:=by
 obtain ⟨m,_,hf⟩:=my Tryz.underlying220 h;obtain ⟨a,b,rfl,h1,c,d,rfl,h2,rfl⟩:=hf;obtain ⟨x,rfl,w1⟩:=sD h1;obtain ⟨y,rfl,w2⟩:=sD h2;exact ⟨(x,y),rfl,by simp only [eP,wgL];omega⟩
theorem Ut {n:Nat} {ds:List DV} (h:Typ prog n 87 ds):∃ p:Wd × Ty,ds=dNm p/\rngT p.2/\p.1.wt + p.2.wt<=wgL ds:=by
 obtain ⟨m,_,hf⟩:=my Tryz.underlying87 h;obtain ⟨a,b,rfl,h1,c,d,rfl,h2,rfl⟩:=hf;obtain ⟨x,rfl,w1⟩:=sD h1;obtain ⟨y,rfl,r2,w2⟩:=ME _ _ h2;exact ⟨(x,y),by simp [dNm,ko],r2,by simp only [eP,wgL];omega⟩
theorem MF:∀ {m:Nat} {es:List (List DV)},(∀ cs∈es,Typ prog m 220 cs)->∃ l:List (Wd × Wd),es=nh l/\prsWt l<=wgEs es
 | m,[],h=>⟨[],rfl,by simp [prsWt,wgEs]⟩
 | m,cs :: r,h=>by
  obtain ⟨w,rfl,hw⟩:=Us (h cs (by simp));obtain ⟨l,rfl,hl⟩:=MF (m:=m) (es:=r) (fun c hc=>h c (List.mem_cons_of_mem _ hc));exact ⟨w :: l,rfl,by simp only [prsWt,wgEs];omega⟩
theorem MG:∀ {m:Nat} {es:List (List DV)},(∀ cs∈es,Typ prog m 87 cs)->∃ l:List (Wd × Ty),es=dNms l/\(∀ x∈l,rngT x.2)/\nmsWt l<=wgEs es
 | m,[],h=>⟨[],rfl,by simp,by simp [nmsWt,wgEs]⟩
 | m,cs :: r,h=>by
  obtain ⟨w,rfl,hr,hw⟩:=Ut (h cs (by simp));obtain ⟨l,rfl,hlr,hl⟩:=MG (m:=m) (es:=r) (fun c hc=>h c (List.mem_cons_of_mem _ hc));refine ⟨w :: l,rfl,fun x hx=>?_,by simp only [nmsWt,wgEs];omega⟩;rcases List.mem_cons.1 hx with rfl | hx
  ·exact hr
  ·exact hlr x hx
theorem typ_sch {n:Nat} {ds:List DV} (h:Typ prog n 31 ds):∃ s:Sch,ds=fQ s/\Yr s/\s.wt<=wgL ds:=by
 obtain ⟨m,_,hf⟩:=my Tryz.underlying31 h;obtain ⟨a1,b1,rfl,h1,a2,b2,rfl,h2,a3,b3,rfl,h3,a4,b4,rfl,h4,rfl⟩:=hf;obtain ⟨l1,rfl,w1⟩:=u2 h1;obtain ⟨m2,es2,_,rfl,he2⟩:=sC Tryz.underlying23 h2;obtain ⟨l2,rfl,w2⟩:=MF he2;obtain ⟨m3,es3,_,rfl,he3⟩:=sC Tryz.underlying24 h3;obtain ⟨l3,rfl,r3,w3⟩:=MG he3;obtain ⟨t,rfl,r4,w4⟩:=ME _ _ h4;rw [Gz,DL];refine ⟨⟨l1,l2,l3,t⟩,by simp [fQ],⟨r3,r4⟩,?_⟩;simp only [Sch.wt,eP,wgL,wgD] at *;omega
end Go.Proofs.YtadhpeooehkklaaGreat
namespace Go.Proofs.YtadhpeooehkklaaGreat
open Go Go.RowKit Dv
def tySS:List TypeId:=31 :: 23 :: 220 :: 24 :: 87 :: tyS
theorem tySS_ok:∀ t∈tySS,lk Tryz.prog tySS t=true:=by
 have h:(tySS.all fun t=>lk Tryz.prog tySS t)=true:=by kernel_rfl
 exact fun t ht=>List.all_eq_true.1 h t ht
set_option maxRecDepth 100000
noncomputable abbrev PP:Program:=Tryz.pinned.checked.prog
def dft:OpenClaim:={ program := "",sum := "",func := "",spec := "" }
theorem and_ok {a b:Bool} (ha:a=true) (hb:b=true):(a && b)=true:=by rw [ha,hb];all_goals rfl
theorem g_laid:laidOutB PP=true:=laid_out
theorem g_maps:mapsRowed PP=true:=by kernel_rfl
theorem g_stops:(PP.stops == [])=true:=by kernel_rfl
theorem g_knobs:(PP.stopKnobs == [])=true:=by kernel_rfl
theorem g_heard:PP.stopsHeard=true:=by kernel_rfl
theorem g_enter:PP.mayEnter=true:=by kernel_rfl
theorem g_lifts:(dft.lifted == PP.liftsFinal)=true:=by kernel_rfl
theorem g_keys:(true == PP.plainKeys)=true:=by kernel_rfl
theorem g_make:(PP.make == some dft.make)=true:=by kernel_rfl
end Go.Proofs.YtadhpeooehkklaaGreat
set_option maxRecDepth 100000
namespace Go.Proofs.YtadhpeooehkklaaGreat
open Go Go.RowKit Dv Go.Proofs.Tryz
theorem DM (x b:Nat):(x:Int).fdiv (2 ^ b)=((x / 2 ^ b:Nat):Int):=by
 rw [Int.fdiv_eq_ediv_of_nonneg _ (by exact Int.le_of_lt (Int.pow_pos (by decide)))];simp
theorem jc (m:Nat):BitVec.ofInt 64 (m:Int)=BitVec.ofNat 64 m:=by simp
theorem Ix {x b:Nat} (hb:b < 64) (hx:x < 18446744073709551616) :
  decide (IntKind.u64.wrap ((BitVec.ofInt 64 ((x:Int).fdiv (2 ^ (min b 64))) &&& BitVec.ofInt 64 1).toNat:Int)=1)=x.testBit b:=by
 rw [Nat.min_eq_left (by omega),DM,jc,show (BitVec.ofInt 64 1)=BitVec.ofNat 64 1 by decide,BitVec.toNat_and,BitVec.toNat_ofNat,BitVec.toNat_ofNat,Nat.testBit_eq_decide_div_mod_eq];have h1:x / 2 ^ b < 18446744073709551616:=Nat.lt_of_le_of_lt (Nat.div_le_self _ _) hx;rw [Nat.mod_eq_of_lt h1,show (1 % 2 ^ 64:Nat)=1 by decide,Nat.and_one_is_mod];simp only [IntKind.wrap_u64];congr 1;apply propext;omega
theorem GA {x b:Nat} (hb:b < 64) (hx:x < 18446744073709551616) :
  IntKind.u64.wrap ((BitVec.ofInt 64 (x:Int) ||| BitVec.ofInt 64 (IntKind.u64.wrap (1 * 2 ^ (min b 64)))).toNat:Int)=((x ||| 2 ^ b:Nat):Int):=by
 have h2:2 ^ b < 18446744073709551616:=by
  have:2 ^ b<=2 ^ 63:=Nat.pow_le_pow_right (by decide) (by omega);omega
 have e1:IntKind.u64.wrap (1 * 2 ^ (min b 64))=((2 ^ b:Nat):Int):=by
  rw [Nat.min_eq_left (by omega),Int.one_mul];have:((2:Int) ^ b)=((2 ^ b:Nat):Int):=by simp
  rw [this];generalize 2 ^ b=z at h2;simp only [IntKind.wrap_u64];omega
 rw [e1,jc,jc,BitVec.toNat_or,BitVec.toNat_ofNat,BitVec.toNat_ofNat,Nat.mod_eq_of_lt hx,Nat.mod_eq_of_lt h2];have h3:x ||| 2 ^ b < 18446744073709551616:=Nat.or_lt_two_pow (n:=64) hx h2
 simp only [IntKind.wrap_u64];omega
theorem Qe {x y:Nat} (hx:x < 18446744073709551616) (hy:y < 18446744073709551616) :
  IntKind.u64.wrap ((BitVec.ofInt 64 (x:Int) ||| BitVec.ofInt 64 (y:Int)).toNat:Int)=((x ||| y:Nat):Int):=by
 rw [jc,jc,BitVec.toNat_or,BitVec.toNat_ofNat,BitVec.toNat_ofNat,Nat.mod_eq_of_lt hx,Nat.mod_eq_of_lt hy];have h3:x ||| y < 18446744073709551616:=Nat.or_lt_two_pow (n:=64) hx hy
 simp only [IntKind.wrap_u64];omega
theorem iq (x a b:Nat):(x ||| 2 ^ b).testBit a=(x.testBit a || decide (b=a)):=by
 rw [Nat.testBit_or,Nat.testBit_two_pow]
def dU (rows:List Nat):List (List DV):=rows.map fun (x:Nat)=>[DV.v (.int .u64 (x:Int))]
theorem ll (rows:List Nat):(dU rows).length=rows.length:=by simp [dU]
theorem Uu {rows:List Nat} {i:Nat} {x:Nat} (h:rows[i]? = some x):(dU rows)[i]? = some [DV.v (.int .u64 (x:Int))]:=by simp [dU,h]
abbrev ni (rows:List Nat):DV:=.pt [.sl 1 (dU rows) none] 0
def eH (rows:List Nat):Prop:=rows.length<=64/\∀ x∈rows,x < 18446744073709551616
def aX (rows:List Nat) (a b:Nat):Bool:=(rows.getD a 0).testBit b
def hasB (rows:List Nat) (a b:Int):Bool:=decide (0<=a) && decide (a < rows.length) && decide (0<=b) && decide (b < rows.length) && aX rows a.toNat b.toNat
theorem zM (rows:List Nat):aQ prog 150 [ni rows] (.v (.int .i64 rows.length)):=by
 refine eG 10 [.tmp 2] func150 rfl ntmps150 rfl fun _ _ _ _=>?_;refine (congrArg (fun z=>DV.v (.int .i64 z)) ?_:_=_);rw [ll]
theorem oD (rows:List Nat) (hr:eH rows) (a b:Int):aQ prog 154 [ni rows,.v (.int .i64 a),.v (.int .i64 b)] (.v (.bool (hasB rows a b))):=by
 have hl:=zM rows;refine eG 38 [.tmp 6] func154 rfl ntmps154 rfl fun _ _ _ _=>?_;refine br ?_ ?_<;>intro g1
 ·have g1:0<=a:=sU g1;refine cP Ma hl ?_;refine br ?_ ?_<;>intro g2
  ·obtain ⟨g2,g3⟩:a < rows.length/\0<=b:=by
    cases h:decide (a < (rows.length:Int))<;>simp [pickB,h] at g2<;>exact ⟨by simpa using h,g2⟩
   refine cP Ma hl ?_;refine br ?_ ?_<;>intro g4
   ·have g4:b < rows.length:=by simpa [pickB,g2,g3] using g4
    obtain ⟨x,hx⟩:∃ x,rows[a.toNat]? = some x:=⟨_,gE (by omega)⟩;have Pk:=hr.2 x (mG hx);have hr1:=hr.1;refine ⟨_,⟨g1,Uu hx⟩,?_⟩;refine ⟨g3,?_⟩;refine (congrArg (fun b=>DV.v (.bool b)) ?_:_=_);have Le:rows.getD a.toNat 0=x:=getD_some hx
    have e1:hasB rows a b=x.testBit b.toNat:=by
     unfold hasB aX;rw [Le];simp [g1,g2,g3,g4]
    rw [e1];exact Ix (x:=x) (b:=b.toNat) (by omega) Pk
   ·have g4:¬ b < rows.length:=by simpa [pickB,g2,g3] using g4
    refine (congrArg (fun b=>DV.v (.bool b)) ?_:_=_);simp [pickB,g2,g3,g4,hasB]
  ·have g5:¬ (a < rows.length/\0<=b):=by
    rintro ⟨h1,h2⟩;simp [pickB,h1,h2] at g2
   refine (congrArg (fun b=>DV.v (.bool b)) ?_:_=_);cases h:decide (a < (rows.length:Int))<;>simp [pickB,h,hasB] at g2 ⊢
   intro _ h0;omega
 ·have g1:¬ 0<=a:=sU g1;refine (congrArg (fun b=>DV.v (.bool b)) ?_:_=_);simp [g1,hasB]
def backN (rows:List Nat) (a:Nat):Nat->Nat
 | 0=>0
 | e + 1=>if aX rows a e && aX rows e a then backN rows a e ||| 2 ^ e else backN rows a e
theorem wz (rows:List Nat) (a:Nat):∀ e,backN rows a e < 2 ^ e
 | 0=>by simp [backN]
 | e + 1=>by
  have ih:=wz rows a e;have h2:2 ^ e < 2 ^ (e + 1):=Nat.pow_lt_pow_right (by decide) (by omega);simp only [backN];split
  ·exact Nat.or_lt_two_pow (by omega) h2
  ·omega
theorem sE (rows:List Nat) (a b:Nat):∀ e,(backN rows a e).testBit b=(decide (b < e) && (aX rows a b && aX rows b a))
 | 0=>by simp [backN]
 | e + 1=>by
  have ih:=sE rows a b e;simp only [backN];by_cases qH:b=e
  ·subst qH;cases hx:(aX rows a b && aX rows b a)
   ·simp [ih,hx]
   ·simp [iq]
  ·have h1:decide (b < e + 1)=decide (b < e):=by congr 1;apply propext;omega
   rw [h1,<- ih];split
   ·rw [iq,decide_eq_false (Ne.symm qH),Bool.or_false]
   ·rfl
abbrev Uv (rows:List Nat) (a e:Nat):St:=
 ⟨[(0,⟨[],ni rows⟩),(1,⟨[],.v (.int .i64 a)⟩),(5,⟨[],.v (.int .u64 (backN rows a e:Nat))⟩),(11,⟨[],.v (.int .i64 (dU rows).length)⟩),(12,⟨[],.v (.int .i64 e)⟩)],[],[]⟩
theorem qW {rows:List Nat} {a b:Nat} (ha:a < rows.length) (hb:b < rows.length):hasB rows a b=aX rows a b:=by
 simp [hasB,ha,hb]
theorem GB (rows:List Nat) (hr:eH rows) (a:Nat) (ha:a < rows.length):aQ prog 152 [ni rows,.v (.int .i64 a)] (.v (.int .u64 (backN rows a rows.length:Nat))):=by
 have hr1:=hr.1;refine eG 31 [.tmp 4] func152 rfl ntmps152 rfl fun _ _ _ _=>?_;refine lJ (fun e=>Uv rows a e) rows.length (ah ⟨_,rfl⟩ wA rfl rfl rfl wB) ?_;intro e he;refine br ?_ ?_<;>intro hL
 ·have aj:e < rows.length:=by have:=hL;simp [ll] at this;exact this
  have h1:=oD rows hr a e;have h2:=oD rows hr e a;rw [qW ha aj] at h1;rw [qW aj ha] at h2;have hbl:=wz rows a e
  have Uw:backN rows a e < 18446744073709551616:=by
   have:2 ^ e<=2 ^ 64:=Nat.pow_le_pow_right (by decide) (by omega);omega
  have Yt:=GA (x:=backN rows a e) (b:=e) (by omega) Uw;have hs:backN rows a (e + 1)=if aX rows a e && aX rows e a then backN rows a e ||| 2 ^ e else backN rows a e:=rfl
  refine cP Il h1 ?_;refine br ?_ ?_<;>intro g1
  ·have g1:aX rows a e=true:=sU g1;refine cP Il h2 ?_;refine br ?_ ?_<;>intro g2
   ·have g2:aX rows e a=true:=by simpa [pickB,g1] using g2
    rw [g1,g2] at hs;have hs:backN rows a (e + 1)=backN rows a e ||| 2 ^ e:=hs
    refine ⟨by omega,?_⟩;exact rE ⟨_,by omega,e + 1,rfl,by omega,rfl⟩ (ah ⟨_,rfl⟩ wA rfl rfl rfl (by repeat' (first | exact trivial | exact ay rfl | exact aA (aF aj (by omega)) | exact aA (Yt.trans (by rw [hs])) | refine ⟨⟨_,rfl,?_⟩,?_⟩)))
   ·have g2:aX rows e a=false:=by simpa [pickB,g1] using g2
    rw [g1,g2] at hs;have hs:backN rows a (e + 1)=backN rows a e:=hs;exact rE ⟨_,by omega,e + 1,rfl,by omega,rfl⟩ (ah ⟨_,rfl⟩ wA rfl rfl rfl (by repeat' (first | exact trivial | exact ay rfl | exact aA (aF aj (by omega)) | exact aA (by rw [hs]) | refine ⟨⟨_,rfl,?_⟩,?_⟩)))
  ·have g1:aX rows a e=false:=sU g1;rw [g1] at hs;have hs:backN rows a (e + 1)=backN rows a e:=hs;exact rE ⟨_,by omega,e + 1,rfl,by omega,rfl⟩ (ah ⟨_,rfl⟩ wA rfl rfl rfl (by repeat' (first | exact trivial | exact ay rfl | exact aA (aF aj (by omega)) | exact aA (by rw [hs]) | refine ⟨⟨_,rfl,?_⟩,?_⟩)))
 ·have aM:e=rows.length:=by have:=hL;simp [ll] at this;omega
  subst aM;exact (rfl:_=_)
def cU (rows:List Nat):List DV:=rows.map fun (x:Nat)=>DV.v (.int .u64 (x:Int))
theorem pI (rows:List Nat):(cU rows).length=rows.length:=by simp [cU]
theorem MH {rows:List Nat} {i x:Nat} (h:rows[i]? = some x):(cU rows)[i]? = some (DV.v (.int .u64 (x:Int))):=by simp [cU,h]
theorem MI (rows:List Nat) (i x:Nat):(cU rows).set i (DV.v (.int .u64 (x:Int)))=cU (rows.set i x):=by simp [cU,List.map_set]
theorem qX (rows:List Nat):(dU rows).flatten=cU rows:=by
 induction rows with
 | nil=>rfl
 | cons x r ih=>simp only [dU,cU,List.map_cons,List.flatten_cons] at ih ⊢;rw [ih];all_goals rfl
theorem Iy {n m:Nat} {tk:List TkE}:∀ l:List Nat,WeL n m tk (cU l) (cU l)
 | []=>rfl
 | b :: r=>⟨_,_,rfl,ay rfl,Iy r⟩
theorem BL {n m:Nat} {tk:List TkE} {l:List DV} {ds:List Nat} (h:l=cU ds):WeL n m tk l (cU ds):=by rw [h];exact Iy ds
def dNP (p:Nat × Nat):List DV:=[.v (.int .i64 (p.1:Int)),.v (.int .i64 (p.2:Int))]
def mz (l:List (Nat × Nat)):List (List DV):=l.map dNP
theorem ir (l:List (Nat × Nat)):(mz l).length=l.length:=by simp [mz]
theorem wE {l:List (Nat × Nat)} {i:Nat} {p:Nat × Nat} (h:l[i]? = some p):(mz l)[i]? = some (dNP p):=by simp [mz,h]
def wF (rows:List Nat) (p:Nat × Nat):List Nat:=rows.set p.1 (rows.getD p.1 0 ||| 2 ^ p.2)
def fA (n:Nat) (l:List (Nat × Nat)):List Nat:=l.foldl wF (List.replicate n 0)
theorem J1 (n:Nat) (l:List (Nat × Nat)) (e:Nat) {p:Nat × Nat} (h:l[e]? = some p):fA n (l.take (e + 1))=wF (fA n (l.take e)) p:=by
 unfold fA;rw [List.take_add_one,h];simp
theorem qY (rows:List Nat) (p:Nat × Nat):(wF rows p).length=rows.length:=by simp [wF]
theorem kr (n:Nat):∀ (l:List (Nat × Nat)),(fA n l).length=n:=by
 intro l
 have:∀ (l:List (Nat × Nat)) (r:List Nat),(l.foldl wF r).length=r.length:=by
  intro l
  induction l with
  | nil=>intro r;rfl
  | cons p l ih=>intro r;rw [List.foldl_cons,ih,qY]
 rw [fA,this];simp
theorem Qf {rows:List Nat} {p:Nat × Nat} (h:eH rows) (hp:p.1 < rows.length) (hq:p.2 < 64):eH (wF rows p):=by
 refine ⟨by rw [qY];exact h.1,fun x hx=>?_⟩;rcases List.mem_or_eq_of_mem_set hx with hx | rfl
 ·exact h.2 x hx
 ·refine Nat.or_lt_two_pow (n:=64) ?_ (Nat.pow_lt_pow_right (by decide) hq);rw [List.getD_eq_getElem?_getD,gE hp];exact h.2 _ (List.getElem_mem hp)
theorem BM {n:Nat} (hn:n<=64):∀ (l:List (Nat × Nat)),(∀ p∈l,p.1 < n/\p.2 < n)->eH (fA n l):=by
 intro l hl
 have:∀ (l:List (Nat × Nat)) (r:List Nat),r.length=n->eH r->(∀ p∈l,p.1 < n/\p.2 < n)->eH (l.foldl wF r):=by
  intro l
  induction l with
  | nil=>intro r _ h _;exact h
  | cons p l ih=>
   intro r hr h hp;have:=hp p (by simp);exact ih _ (by rw [qY,hr]) (Qf h (by omega) (by omega)) (fun q hq=>hp q (by simp [hq]))
 refine this l _ (by simp) ⟨by simp [hn],fun x hx=>?_⟩ hl;rw [List.mem_replicate] at hx;omega
abbrev MJ (n:Nat) (l:List (Nat × Nat)) (rows:List Nat) (e:Nat):St:=
 ⟨[(0,⟨[],.v (.int .i64 n)⟩),(6,⟨[],.loc 1 0⟩),(19,⟨[],.sl 2 (mz l) none⟩),(20,⟨[],.v (.int .i64 (mz l).length)⟩),(21,⟨[],.v (.int .i64 e)⟩)],
  [cU rows,[.ms 0 1 0 n n]],[]⟩
theorem J2 (n:Nat) (hn:n<=64) (l:List (Nat × Nat)) (hl:∀ p∈l,p.1 < n/\p.2 < n) (hb:l.length<=1099511627776) :
  aQ prog 90 [.v (.int .i64 n),.sl 2 (mz l) none] (.tup [ni (fA n l),.v (.bool true)]):=by
 refine eG 60 [.tmp 4,.tmp 5] func90 rfl ntmps90 rfl fun _ _ _ _=>?_;refine br ?_ ?_<;>intro g
 ·exfalso;simp [au] at g;omega
 refine ⟨⟨rfl,by omega,by omega,by omega⟩,?_⟩
 have h0:(List.replicate (n:Int).toNat [DV.v (.int .u64 0)]).flatten=cU (fA n (l.take 0)):=by
  simp [fA,cU]
 refine lJ (fun e=>MJ n l (fA n (l.take e)) e) l.length (ap 2 rfl (by repeat' (first | exact rfl | exact ay rfl | exact BL h0 | refine ⟨_,_,rfl,?_,?_⟩)) rfl rfl rfl (by repeat' (first | exact trivial | exact ay rfl | exact BL h0 | refine ⟨⟨_,rfl,?_⟩,?_⟩))) ?_;intro e he;refine br ?_ ?_<;>intro hL
 ·have aj:e < l.length:=by have:=hL;simp [ir] at this;exact this
  obtain ⟨p,hp⟩:=gX aj;obtain ⟨p1,p2⟩:=hl p (mG hp);refine iX (wE hp) ?_;refine ⟨⟨by decide,by decide⟩,?_⟩;refine ⟨⟨by decide,by decide⟩,?_⟩;refine br ?_ ?_<;>intro g
  ·refine ⟨⟨by decide,by decide⟩,?_⟩;refine ⟨⟨by decide,by decide⟩,?_⟩;refine br ?_ ?_<;>intro g2
   ·exfalso;simp [pickB] at g2;omega
   obtain ⟨x,hx⟩:∃ x,(fA n (l.take e))[p.1]? = some x:=⟨_,gE (by rw [kr];exact p1)⟩;have bm:=BM hn (l.take e) (fun q hq=>hl q (List.mem_of_mem_take hq));have Pk:=bm.2 x (mG hx);have Bj:0 + (p.1:Int).toNat * 1=p.1:=by omega
   refine dS ?_;refine ⟨⟨by decide,by decide⟩,?_⟩;refine ⟨⟨by omega,by omega⟩,?_⟩;refine ⟨_,(by rw [Bj];exact MH hx:(cU (fA n (l.take e)))[0 + (p.1:Int).toNat * 1]? = some _),?_⟩;refine ⟨⟨by decide,by decide⟩,?_⟩;refine ⟨by omega,?_⟩;refine ⟨⟨by omega,by omega⟩,?_⟩;refine ⟨by rw [Bj,pI,kr];omega,?_⟩
   have cW:(cU (fA n (l.take e))).set (0 + (p.1:Int).toNat * 1) (DV.v (.int .u64 (IntKind.u64.wrap ((BitVec.ofInt 64 (x:Int) ||| BitVec.ofInt 64 (IntKind.u64.wrap (1 * 2 ^ (min (p.2:Int).toNat 64)))).toNat:Int))))=cU (fA n (l.take (e + 1))):=by
    rw [Bj,show ((p.2:Int).toNat)=p.2 by omega,GA (by omega) Pk,MI,J1 n l e hp];simp only [wF];rw [getD_some hx]
   refine ⟨MJ n l (fA n (l.take (e + 1))) (e + 1),(ap 2 rfl (by repeat' (first | exact rfl | exact ay rfl | exact BL cW | exact aA (aF aj (by omega)) | refine ⟨_,_,rfl,?_,?_⟩)) rfl rfl rfl (by repeat' (first | exact trivial | exact ay rfl | exact BL cW | exact aA (aF aj (by omega)) | refine ⟨⟨_,rfl,?_⟩,?_⟩))),l.length - (e + 1),by omega,e + 1,rfl,by omega,rfl⟩
  ·exfalso;simp [pickB] at g;omega
 ·have aM:e=l.length:=by have:=hL;simp [ir] at this;omega
  subst aM;rw [List.take_length];refine ⟨_,?_,rfl⟩;have hlen:=kr n l;generalize fA n l=rows at hlen ⊢;refine ⟨_,rfl,_,_,rfl,.inr ⟨1,_,rfl,Nat.zero_le _,rfl,_,_,rfl,.inr (.inr (.inl ⟨0,0,n,cU rows,by rw [ll,hlen],Nat.zero_le _,rfl,?_,?_,?_⟩)),rfl⟩,_,_,rfl,rfl,rfl⟩
  ·rw [qX,ll,Nat.mul_one,List.drop_zero,List.take_of_length_le (by rw [pI];omega)]
  ·intro x hx;simp only [dU,List.mem_map] at hx;obtain ⟨y,_,rfl⟩:=hx;rfl
  ·intro x hx;rw [qX] at hx;simp only [cU,List.mem_map] at hx;obtain ⟨y,_,rfl⟩:=hx;exact ⟨_,rfl⟩
def jM (rows:List Nat) (k:Nat):List Nat:=rows.set k (rows.getD k 0 ||| 2 ^ k)
def ph (k:Nat) (rows:List Nat) (a:Nat):List Nat:=if aX rows a k then rows.set a (rows.getD a 0 ||| rows.getD k 0) else rows
def iu (rows:List Nat) (k e:Nat):List Nat:=(List.range e).foldl (ph k) (jM rows k)
def closeR (rows:List Nat) (e:Nat):List Nat:=(List.range e).foldl (fun r k=>iu r k r.length) rows
theorem MK {rows:List Nat} {i x:Nat} (h:eH rows) (hx:x < 18446744073709551616):eH (rows.set i x):=by
 refine ⟨by rw [List.length_set];exact h.1,fun y hy=>?_⟩;rcases List.mem_or_eq_of_mem_set hy with hy | rfl
 ·exact h.2 y hy
 ·exact hx
theorem mA {rows:List Nat} (h:eH rows) (i:Nat):rows.getD i 0 < 18446744073709551616:=by
 rw [List.getD_eq_getElem?_getD]
 cases hx:rows[i]? with
 | none=>simp
 | some x=>exact h.2 x (mG hx)
theorem ML {rows:List Nat} {k:Nat} (h:eH rows) (hk:k < 64):eH (jM rows k):=
 MK h (Nat.or_lt_two_pow (n:=64) (mA h k) (Nat.pow_lt_pow_right (by decide) hk))
theorem J3 (rows:List Nat) (k:Nat):(jM rows k).length=rows.length:=by simp [jM]
theorem MM {rows:List Nat} {k a:Nat} (h:eH rows):eH (ph k rows a):=by
 unfold ph;split
 ·exact MK h (Nat.or_lt_two_pow (n:=64) (mA h a) (mA h k))
 ·exact h
theorem J4 (rows:List Nat) (k a:Nat):(ph k rows a).length=rows.length:=by
 unfold ph;split<;>simp
theorem mB (rows:List Nat) (k e:Nat):iu rows k (e + 1)=ph k (iu rows k e) e:=by simp [iu,List.range_succ]
theorem oE (rows:List Nat) (k:Nat):∀ e,(iu rows k e).length=rows.length
 | 0=>by simp [iu,J3]
 | e + 1=>by rw [mB,J4,oE]
theorem wH {rows:List Nat} {k:Nat} (h:eH rows) (hk:k < 64):∀ e,eH (iu rows k e)
 | 0=>by simpa [iu] using ML h hk
 | e + 1=>by rw [mB];exact MM (wH h hk e)
theorem kV (rows:List Nat) (e:Nat):closeR rows (e + 1)=iu (closeR rows e) e (closeR rows e).length:=by simp [closeR,List.range_succ]
theorem fB (rows:List Nat):∀ e,(closeR rows e).length=rows.length
 | 0=>by simp [closeR]
 | e + 1=>by rw [kV,oE,fB]
theorem lG {rows:List Nat} (h:eH rows):∀ e,e<=64->eH (closeR rows e)
 | 0,_=>by simpa [closeR] using h
 | e + 1,he=>by rw [kV];exact wH (lG h e (by omega)) (by omega) _
def spU (m:Nat):List DV:=(List.replicate m (vL [Value.int .u64 0])).flatten
theorem wI {n m:Nat} {tk:List TkE}:∀ l:List DV,(∀ x∈l,∃ y,x = .v y)->WeL n m tk l l
 | [],_=>rfl
 | b :: r,h=>by
  obtain ⟨y,rfl⟩:=h b (by simp);exact ⟨_,_,rfl,ay rfl,wI r (fun x hx=>h x (by simp [hx]))⟩
theorem ek {n m:Nat} {tk:List TkE} {l:List DV} {ds:List Nat} {k:Nat} (h:l=cU ds ++ spU k):WeL n m tk l (cU ds ++ spU k):=by
 rw [h];refine wI _ fun x hx=>?_;rcases List.mem_append.1 hx with hx | hx
 ·simp only [cU,List.mem_map] at hx;obtain ⟨y,_,rfl⟩:=hx;exact ⟨_,rfl⟩
 ·simp only [spU,List.mem_flatten,List.mem_replicate] at hx;obtain ⟨y,⟨_,rfl⟩,hx⟩:=hx;simp [vL] at hx;exact ⟨_,hx⟩
theorem BN {r:List Nat} {k i x:Nat} (h:r[i]? = some x):(cU r ++ spU k)[0 + (i:Int).toNat * 1]? = some (DV.v (.int .u64 (x:Int))):=by
 rw [show 0 + (i:Int).toNat * 1=i by omega,List.getElem?_append_left (by rw [pI];exact (gS h).1)];exact MH h
theorem MN {r:List Nat} {k i x:Nat} (h:i < r.length):(cU r ++ spU k).set (0 + (i:Int).toNat * 1) (DV.v (.int .u64 (x:Int)))=cU (r.set i x) ++ spU k:=by
 rw [show 0 + (i:Int).toNat * 1=i by omega,List.set_append_left _ _ (by rw [pI];exact h),MI]
theorem MO {r:List Nat} {k i:Nat} (h:i < r.length):0 + (i:Int).toNat * 1 + 1<=(cU r ++ spU k).length:=by
 rw [List.length_append,pI];omega
abbrev clSt (rows:List Nat) (cap:Nat) (r:List Nat) (e:Nat):St:=
 ⟨[(3,⟨[],.loc 1 0⟩),(19,⟨[],.v (.int .i64 (dU rows).length)⟩),(20,⟨[],.v (.int .i64 e)⟩)],[cU r ++ spU (cap - (dU rows).length),[.ms 0 1 0 (dU rows).length cap]],[]⟩
abbrev Yu (rows:List Nat) (cap:Nat) (r:List Nat) (e f:Nat):St:=
 ⟨[(3,⟨[],.loc 1 0⟩),(4,⟨[],.v (.int .i64 e)⟩),(19,⟨[],.v (.int .i64 (dU rows).length)⟩),(20,⟨[],.v (.int .i64 e)⟩),(38,⟨[],.v (.int .i64 (dU rows).length)⟩),(39,⟨[],.v (.int .i64 f)⟩)],[cU r ++ spU (cap - (dU rows).length),[.ms 0 1 0 (dU rows).length cap]],[]⟩
theorem pJ {l:List Nat} {i:Nat} (h:i < l.length):l[i]? = some (l.getD i 0):=sA h
theorem tU (rows:List Nat) (hr:eH rows) (h0:rows ≠ []):aQ prog 92 [ni rows] (ni (closeR rows rows.length)):=by
 have hr1:=hr.1;have hN:=ll rows;have kJ:0 < rows.length:=List.length_pos_iff.2 h0;refine uV (s:=false) (bt:=[]) (mu:=[12]) (hbt:=fun p hp=>by cases hp) (fr:=false) (P:=prog) tt zB 5000 72 [.tmp 2] func92 rfl ntmps92 rfl (nL rfl) (fun _ _ _ _=>?_);refine ⟨⟨by intro h;exact h0 (by simpa [dU] using h),by rw [ll];simp [maxLen];omega,by rw [ll];omega⟩,fun cap Jy=>?_⟩
 have ie:(dU rows).flatten.append (List.replicate (cap - (dU rows).length) (vL [Value.int .u64 0])).flatten=cU (closeR rows 0) ++ spU (cap - (dU rows).length):=by
  show (dU rows).flatten ++ _=_;rw [qX];rfl
 refine lJ (fun e=>clSt rows cap (closeR rows e) e) rows.length (ap 2 rfl (na ie) rfl rfl rfl (cX ie)) ?_;intro e he;have bm:=lG hr e (by omega);have hlen:=fB rows e;have Sz:=kV rows e;generalize hce:closeR rows e=r at bm hlen Sz ⊢;refine br ?_ ?_<;>intro hL
 ·have aj:e < rows.length:=by have:=hL;simp [hN] at this;exact this
  have hx:=pJ (l:=r) (i:=e) (by omega);have Yt:=GA (x:=r.getD e 0) (b:=e) (by omega) (mA bm e);refine dS ?_;refine ⟨⟨by omega,by omega⟩,?_⟩;refine ⟨_,BN hx,?_⟩;refine ⟨by omega,?_⟩;refine ⟨⟨by omega,by omega⟩,?_⟩;refine ⟨MO (by omega),?_⟩
  have o9:(cU r ++ spU (cap - (dU rows).length)).set (0 + (e:Int).toNat * 1) (DV.v (.int .u64 (IntKind.u64.wrap ((BitVec.ofInt 64 ((r.getD e 0:Nat):Int) ||| BitVec.ofInt 64 (IntKind.u64.wrap (1 * 2 ^ (min (e:Int).toNat 64)))).toNat:Int))))=cU (iu r e 0) ++ spU (cap - (dU rows).length):=by
   rw [show min (e:Int).toNat 64=min e 64 by omega,Yt,MN (by omega)];rfl
  refine lJ (fun f=>Yu rows cap (iu r e f) e f) rows.length (ap 2 rfl (na o9) rfl rfl rfl (cX o9)) ?_;intro f hf;have Ux:=wH (k:=e) bm (by omega) f;have mZ:=oE r e f;have Yp:=mB r e f;have dA:e < (iu r e f).length:=by rw [mZ];omega
  refine br ?_ ?_<;>intro hL
  ·have FO:f < rows.length:=by have:=hL;simp [hN] at this;exact this
   have hpf:f < (iu r e f).length:=by rw [mZ];omega
   generalize iu r e f=q at Ux mZ Yp dA hpf ⊢;have hy:=pJ hpf;have hz:=pJ dA;have MP:=Ix (x:=q.getD f 0) (b:=e) (by omega) (mA Ux f);have Yt:=Qe (mA Ux f) (mA Ux e);refine ⟨⟨by omega,by omega⟩,?_⟩;refine ⟨_,BN hy,?_⟩;refine ⟨by omega,?_⟩;refine br ?_ ?_<;>intro g
   ·have g:aX q f e=true:=MP.symm.trans g;refine dS ?_;refine ⟨⟨by omega,by omega⟩,?_⟩;refine ⟨_,BN hy,?_⟩;refine ⟨⟨by omega,by omega⟩,?_⟩;refine ⟨_,BN hz,?_⟩;refine ⟨⟨by omega,by omega⟩,?_⟩;refine ⟨MO hpf,?_⟩
    have kR:(cU q ++ spU (cap - (dU rows).length)).set (0 + (f:Int).toNat * 1) (DV.v (.int .u64 (IntKind.u64.wrap ((BitVec.ofInt 64 ((q.getD f 0:Nat):Int) ||| BitVec.ofInt 64 ((q.getD e 0:Nat):Int)).toNat:Int))))=cU (iu r e (f + 1)) ++ spU (cap - (dU rows).length):=by
     rw [Yt,MN hpf,Yp,ph,if_pos g]
    exact rE ⟨_,by omega,f + 1,rfl,by omega,rfl⟩ (ap 2 rfl (gj kR (aF FO (by omega))) rfl rfl rfl (wB2 kR (aF FO (by omega))))
   ·have g:aX q f e=false:=MP.symm.trans g
    have kR:cU q ++ spU (cap - (dU rows).length)=cU (iu r e (f + 1)) ++ spU (cap - (dU rows).length):=by
     rw [Yp,ph,if_neg (by rw [g];decide)]
    exact rE ⟨_,by omega,f + 1,rfl,by omega,rfl⟩ (ap 2 rfl (gj kR (aF FO (by omega))) rfl rfl rfl (wB2 kR (aF FO (by omega))))
  ·have aM:f=rows.length:=sW hN hL;subst aM
   have RO:cU (iu r e rows.length) ++ spU (cap - (dU rows).length)=cU (closeR rows (e + 1)) ++ spU (cap - (dU rows).length):=by
    rw [Sz,hlen]
   exact rE ⟨_,by omega,e + 1,rfl,by omega,rfl⟩ (ap 2 rfl (gj RO (aF aj (by omega))) rfl rfl rfl (wB2 RO (aF aj (by omega))))
 ·have aM:e=rows.length:=sW hN hL;subst aM;refine ⟨_,?_,rfl⟩;rw [hce];refine .inr ⟨1,_,rfl,Nat.zero_le _,rfl,_,_,rfl,.inr (.inr (.inl ⟨0,0,cap,cU r ++ spU (cap - (dU rows).length),by rw [ll r,hlen,hN],Nat.zero_le _,rfl,?_,?_,?_⟩)),rfl⟩
  ·rw [qX,ll,Nat.mul_one,List.drop_zero,List.take_append_of_le_length (by rw [pI];omega),List.take_of_length_le (by rw [pI];omega)]
  ·intro x hx;simp only [dU,List.mem_map] at hx;obtain ⟨y,_,rfl⟩:=hx;rfl
  ·intro x hx;rw [qX] at hx;simp only [cU,List.mem_map] at hx;obtain ⟨y,_,rfl⟩:=hx;exact ⟨_,rfl⟩
theorem lH {a b c d:Nat} (ha:a < 256) (hb:b < 256):(a + 256 * c) &&& (b + 256 * d)=(a &&& b) + 256 * (c &&& d):=by
 have h1:a &&& b < 256:=Nat.and_lt_two_pow (n:=8) a hb;apply Nat.eq_of_testBit_eq;intro i
 have e (x y:Nat) (hx:x < 256):(x + 256 * y).testBit i=if i < 8 then x.testBit i else y.testBit (i - 8):=by
  rw [show x + 256 * y=2 ^ 8 * y + x by omega,Nat.testBit_two_pow_mul_add _ (sU hx)]
 rw [Nat.testBit_and,e a c ha,e b d hb,e _ _ h1];split<;>simp [Nat.testBit_and]
def b1 (x:Nat):Nat:=((x / 2) &&& 85) + (x &&& 85)
def b2 (x:Nat):Nat:=((x / 4) &&& 51) + (x &&& 51)
def b3 (x:Nat):Nat:=((x / 16) + x) &&& 15
def pop8 (x:Nat):Nat:=b3 (b2 (b1 x))
theorem Iz:∀ x:Fin 256,b1 x.val < 256/\b2 (b1 x.val) < 120/\pop8 x.val<=8/\pop8 x.val=(((((((x.val.testBit 0).toNat + (x.val.testBit 1).toNat) + (x.val.testBit 2).toNat) + (x.val.testBit 3).toNat) + (x.val.testBit 4).toNat) + (x.val.testBit 5).toNat) + (x.val.testBit 6).toNat) + (x.val.testBit 7).toNat:=by decide +kernel
def valB:List Nat->Nat
 | []=>0
 | a :: r=>a + 256 * valB r
def rep (m:Nat):Nat->Nat
 | 0=>0
 | n + 1=>m + 256 * rep m n
theorem m1:∀ (a:Fin 256) (c:Fin 2),(a.val / 2 + 128 * c.val) &&& 85=(a.val / 2) &&& 85:=by decide +kernel
theorem m2:∀ (a:Fin 256) (c:Fin 4),(a.val / 4 + 64 * c.val) &&& 51=(a.val / 4) &&& 51:=by decide +kernel
theorem qj:∀ l:List Nat,(∀ a∈l,a < 256)->((valB l / 2) &&& rep 85 l.length) + (valB l &&& rep 85 l.length)=valB (l.map b1)
 | [],_=>rfl
 | a :: r,h=>by
  have ih:=qj r (fun x hx=>h x (by simp [hx]));have ha:=h a (by simp);have e1:(a + 256 * valB r) / 2=(a / 2 + 128 * (valB r % 2)) + 256 * (valB r / 2):=by omega
  have hm:=m1 ⟨a,ha⟩ ⟨valB r % 2,by omega⟩;simp only at hm;simp only [valB,List.length_cons,rep,List.map_cons,b1];rw [e1,lH (by omega) (by decide),lH ha (by decide),hm,<- ih];omega
theorem Dh:∀ l:List Nat,(∀ a∈l,a < 256)->((valB l / 4) &&& rep 51 l.length) + (valB l &&& rep 51 l.length)=valB (l.map b2)
 | [],_=>rfl
 | a :: r,h=>by
  have ih:=Dh r (fun x hx=>h x (by simp [hx]));have ha:=h a (by simp);have e1:(a + 256 * valB r) / 4=(a / 4 + 64 * (valB r % 4)) + 256 * (valB r / 4):=by omega
  have hm:=m2 ⟨a,ha⟩ ⟨valB r % 4,by omega⟩;simp only at hm;simp only [valB,List.length_cons,rep,List.map_cons,b2];rw [e1,lH (by omega) (by decide),lH ha (by decide),hm,<- ih];omega
theorem Yv (x y:Nat):(x + 16 * y) &&& 15=x &&& 15:=by
 have h (z:Nat):z &&& 15=z % 16:=Nat.and_two_pow_sub_one_eq_mod z 4;rw [h,h];omega
def DN (a:Nat):Prop:=a < 70/\a % 16<=4
theorem st3:∀ l:List Nat,(∀ a∈l,DN a)->((valB l / 16) + valB l) &&& rep 15 l.length=valB (l.map b3)
 | [],_=>rfl
 | a :: r,h=>by
  have ih:=st3 r (fun x hx=>h x (by simp [hx]));have ha:=h a (by simp)
  have hc:valB r % 16<=4:=by
   cases r with
   | nil=>simp [valB]
   | cons b s=>
    have:=(h b (by simp)).2;simp only [valB];omega
  unfold DN at ha;have e1:(a + 256 * valB r) / 16 + (a + 256 * valB r)=((a / 16 + a) + 16 * (valB r % 16)) + 256 * (valB r / 16 + valB r):=by omega
  simp only [valB,List.length_cons,rep,List.map_cons,b3];rw [e1,lH (by omega) (by decide),Yv,ih]
def eQ (x:Nat):List Nat:=[x % 256,x / 256 % 256,x / 65536 % 256,x / 16777216 % 256,x / 4294967296 % 256,x / 1099511627776 % 256,x / 281474976710656 % 256,x / 72057594037927936 % 256]
theorem GC {x:Nat} (h:x < 18446744073709551616):valB (eQ x)=x:=by
 simp only [eQ,valB];omega
theorem J5 (x:Nat):∀ a∈eQ x,a < 256:=by
 intro a ha;simp only [eQ,List.mem_cons,List.not_mem_nil,or_false] at ha;omega
def GD (x:Nat):Nat:=((eQ x).map pop8).sum
theorem DO:∀ a:Fin 256,b1 a.val < 256/\b2 (b1 a.val) < 70/\b2 (b1 a.val) % 16<=4:=by decide +kernel
theorem BO {x m:Nat} (hx:x < 18446744073709551616) (hm:m < 18446744073709551616) :
  IntKind.u64.wrap ((BitVec.ofInt 64 (x:Int) &&& BitVec.ofInt 64 (m:Int)).toNat:Int)=((x &&& m:Nat):Int):=by
 rw [jc,jc,BitVec.toNat_and,BitVec.toNat_ofNat,BitVec.toNat_ofNat,Nat.mod_eq_of_lt hx,Nat.mod_eq_of_lt hm];have h3:x &&& m < 18446744073709551616:=Nat.and_lt_two_pow (n:=64) x hm;simp only [IntKind.wrap_u64];omega
theorem GF {x:Nat} {k:Int} (hk:k.toNat < 64):(x:Int).fdiv (2 ^ min k.toNat IntKind.u64.bits)=((x / 2 ^ k.toNat:Nat):Int):=by
 rw [show min k.toNat IntKind.u64.bits=k.toNat from Nat.min_eq_left (by show k.toNat<=64;omega),DM]
theorem BP {y:Nat} (h:y < 18446744073709551616):IntKind.u64.wrap (y:Int)=(y:Int):=by
 simp only [IntKind.wrap_u64];omega
theorem Yw {k M:Int} {m x y:Nat} (hk:k.toNat < 64) (hx:x < 18446744073709551616) (hM:M=(m:Int)) (hm:m < 18446744073709551616) (hy:((x / 2 ^ k.toNat) &&& m) + (x &&& m)=y) (kL:y < 18446744073709551616) :
  IntKind.u64.wrap (IntKind.u64.wrap ((BitVec.ofInt IntKind.u64.bits ((x:Int).fdiv (2 ^ min k.toNat IntKind.u64.bits)) &&& BitVec.ofInt IntKind.u64.bits M).toNat:Int) + IntKind.u64.wrap ((BitVec.ofInt IntKind.u64.bits (x:Int) &&& BitVec.ofInt IntKind.u64.bits M).toNat:Int))=(y:Int):=by
 subst hM;have h1:x / 2 ^ k.toNat < 18446744073709551616:=Nat.lt_of_le_of_lt (Nat.div_le_self _ _) hx;have e1:IntKind.u64.wrap ((BitVec.ofInt IntKind.u64.bits ((x / 2 ^ k.toNat:Nat):Int) &&& BitVec.ofInt IntKind.u64.bits (m:Int)).toNat:Int)=_:=BO h1 hm;have e2:IntKind.u64.wrap ((BitVec.ofInt IntKind.u64.bits (x:Int) &&& BitVec.ofInt IntKind.u64.bits (m:Int)).toNat:Int)=_:=BO hx hm;rw [GF hk,e1,e2,<- Int.natCast_add,hy,BP kL]
theorem stgB {k M:Int} {m x y:Nat} (hk:k.toNat < 64) (hs:x / 2 ^ k.toNat + x < 18446744073709551616) (hM:M=(m:Int)) (hm:m < 18446744073709551616) (hy:((x / 2 ^ k.toNat) + x) &&& m=y) :
  IntKind.u64.wrap ((BitVec.ofInt IntKind.u64.bits (IntKind.u64.wrap ((x:Int).fdiv (2 ^ min k.toNat IntKind.u64.bits) + (x:Int))) &&& BitVec.ofInt IntKind.u64.bits M).toNat:Int)=(y:Int):=by
 subst hM;have e2:IntKind.u64.wrap ((BitVec.ofInt IntKind.u64.bits ((x / 2 ^ k.toNat + x:Nat):Int) &&& BitVec.ofInt IntKind.u64.bits (m:Int)).toNat:Int)=_:=BO hs hm;rw [GF hk,<- Int.natCast_add,BP hs,e2,hy]
theorem Uy {k:Int} {x:Nat} (hk:k.toNat < 64) (hs:x + x / 2 ^ k.toNat < 18446744073709551616) :
  IntKind.u64.wrap ((x:Int) + (x:Int).fdiv (2 ^ min k.toNat IntKind.u64.bits))=((x + x / 2 ^ k.toNat:Nat):Int):=by
 rw [GF hk,<- Int.natCast_add,BP hs]
theorem IA:∀ l:List Nat,(∀ a∈l,a < 256)->valB l < 256 ^ l.length
 | [],_=>by simp [valB]
 | a :: r,h=>by
  have ih:=IA r (fun x hx=>h x (by simp [hx]));have ha:=h a (by simp);simp only [valB,List.length_cons,Nat.pow_succ];omega
theorem MQ {x:Nat} (hx:x < 18446744073709551616):∃ y1 y2 y3:Nat,((x / 2) &&& 6148914691236517205) + (x &&& 6148914691236517205)=y1/\y1 < 18446744073709551616/\((y1 / 4) &&& 3689348814741910323) + (y1 &&& 3689348814741910323)=y2/\y2 / 16 + y2 < 18446744073709551616/\y2 < 18446744073709551616 /\
  ((y2 / 16) + y2) &&& 1085102592571150095=y3/\∃ p0 p1 p2 p3 p4 p5 p6 p7:Nat,y3=valB [p0,p1,p2,p3,p4,p5,p6,p7]/\(p0<=8/\p1<=8/\p2<=8/\p3<=8/\p4<=8/\p5<=8/\p6<=8/\p7<=8)/\GD x=p0 + p1 + p2 + p3 + p4 + p5 + p6 + p7:=by
 have hl:=J5 x;have s1:=qj (eQ x) hl;rw [GC hx] at s1
 have l1:∀ a∈(eQ x).map b1,a < 256:=by
  intro a ha;obtain ⟨b,hb,rfl⟩:=List.mem_map.1 ha;exact (DO ⟨b,hl b hb⟩).1
 have l2:∀ a∈((eQ x).map b1).map b2,DN a:=by
  intro a ha;obtain ⟨c,hc,rfl⟩:=List.mem_map.1 ha;obtain ⟨b,hb,rfl⟩:=List.mem_map.1 hc;exact (DO ⟨b,hl b hb⟩).2
 have s2:=Dh ((eQ x).map b1) l1;have s3:=st3 (((eQ x).map b1).map b2) l2
 have v1:valB ((eQ x).map b1) < 18446744073709551616:=by
  have:=IA _ l1;rw [List.length_map,show (eQ x).length=8 from rfl] at this;simpa using this
 rw [show rep 85 (eQ x).length=6148914691236517205 from (by decide:rep 85 8=_)] at s1;rw [List.length_map,show rep 51 (eQ x).length=3689348814741910323 from (by decide:rep 51 8=_)] at s2;rw [List.length_map,List.length_map,show rep 15 (eQ x).length=1085102592571150095 from (by decide:rep 15 8=_)] at s3;refine ⟨_,_,_,s1,v1,s2,?_,?_,s3,_,_,_,_,_,_,_,_,rfl,?_,?_⟩
 ·have:=l2;simp only [eQ,List.map_cons,List.map_nil,List.mem_cons,List.not_mem_nil,or_false,forall_eq_or_imp,forall_eq,DN,valB] at this ⊢;omega
 ·have:=l2;simp only [eQ,List.map_cons,List.map_nil,List.mem_cons,List.not_mem_nil,or_false,forall_eq_or_imp,forall_eq,DN,valB] at this ⊢;omega
 ·have h (b:Nat) (hb:b < 256):=(Iz ⟨b,hb⟩).2.2.1;exact ⟨h _ (by omega),h _ (by omega),h _ (by omega),h _ (by omega),h _ (by omega),h _ (by omega),h _ (by omega),h _ (by omega)⟩
 ·simp only [GD,eQ,List.map_cons,List.map_nil,List.sum_cons,List.sum_nil,pop8];omega
theorem dr1 {a r:Nat} (h:a < 256):(a + 256 * r) / 256=r:=by omega
theorem dr2 {a b r:Nat} (h:a < 256) (h2:b < 256):(a + 256 * (b + 256 * r)) / 65536=r:=by omega
theorem dr4 {a b c d r:Nat} (h:a < 256) (h2:b < 256) (h3:c < 256) (h4:d < 256):(a + 256 * (b + 256 * (c + 256 * (d + 256 * r)))) / 4294967296=r:=by omega
theorem MR {p0 p1 p2 p3 p4 p5 p6 p7:Nat} (hp:p0<=8/\p1<=8/\p2<=8/\p3<=8/\p4<=8/\p5<=8/\p6<=8/\p7<=8):∃ z1 z2 z3:Nat,
  (p0 + 256 * (p1 + 256 * (p2 + 256 * (p3 + 256 * (p4 + 256 * (p5 + 256 * (p6 + 256 * (p7 + 256 * 0)))))))) + (p0 + 256 * (p1 + 256 * (p2 + 256 * (p3 + 256 * (p4 + 256 * (p5 + 256 * (p6 + 256 * (p7 + 256 * 0)))))))) / 256=z1/\z1 < 18446744073709551616 /\
  z1 + z1 / 65536=z2/\z2 < 18446744073709551616/\z2 + z2 / 4294967296=z3/\z3 < 18446744073709551616/\z3 % 128=p0 + p1 + p2 + p3 + p4 + p5 + p6 + p7:=by
 refine ⟨(p0 + p1) + 256 * ((p1 + p2) + 256 * ((p2 + p3) + 256 * ((p3 + p4) + 256 * ((p4 + p5) + 256 * ((p5 + p6) + 256 * ((p6 + p7) + 256 * p7)))))),
  (p0 + p1 + p2 + p3) + 256 * ((p1 + p2 + p3 + p4) + 256 * ((p2 + p3 + p4 + p5) + 256 * ((p3 + p4 + p5 + p6) + 256 * ((p4 + p5 + p6 + p7) + 256 * ((p5 + p6 + p7) + 256 * ((p6 + p7) + 256 * p7)))))),
  (p0 + p1 + p2 + p3 + p4 + p5 + p6 + p7) + 256 * ((p1 + p2 + p3 + p4 + p5 + p6 + p7) + 256 * ((p2 + p3 + p4 + p5 + p6 + p7) + 256 * ((p3 + p4 + p5 + p6 + p7) + 256 * ((p4 + p5 + p6 + p7) + 256 * ((p5 + p6 + p7) + 256 * ((p6 + p7) + 256 * p7)))))),?_,by omega,?_,by omega,?_,by omega,by omega⟩
 ·rw [dr1 (by omega)];omega
 ·rw [dr2 (by omega) (by omega)];omega
 ·rw [dr4 (by omega) (by omega) (by omega) (by omega)];omega
theorem MS {z:Nat} (h:z < 18446744073709551616):IntKind.i64.wrap ((BitVec.ofInt IntKind.i64.bits (IntKind.i64.wrap (z:Int)) &&& BitVec.ofInt IntKind.i64.bits 127).toNat:Int)=((z % 128:Nat):Int):=by
 have e1:BitVec.ofInt 64 (IntKind.i64.wrap (z:Int))=BitVec.ofNat 64 z:=by
  apply BitVec.eq_of_toNat_eq;rw [BitVec.toNat_ofInt,BitVec.toNat_ofNat,IntKind.wrap_i64];omega
 have e2:(BitVec.ofInt 64 (IntKind.i64.wrap (z:Int)) &&& BitVec.ofInt 64 127).toNat=z % 128:=by
  rw [e1,show BitVec.ofInt 64 127=BitVec.ofNat 64 127 by decide,BitVec.toNat_and,BitVec.toNat_ofNat,BitVec.toNat_ofNat,Nat.mod_eq_of_lt h];exact Nat.and_two_pow_sub_one_eq_mod z 7
 have e3:(BitVec.ofInt IntKind.i64.bits (IntKind.i64.wrap (z:Int)) &&& BitVec.ofInt IntKind.i64.bits 127).toNat=z % 128:=e2;rw [e3,IntKind.wrap_i64];omega
theorem J6 (x:Nat) (hx:x < 18446744073709551616):aQ prog 151 [.v (.int .u64 x)] (.v (.int .i64 (GD x:Nat))):=by
 obtain ⟨y1,y2,y3,h1,RT,h2,h2s,h2b,h3,p0,p1,p2,p3,p4,p5,p6,p7,h4,hp,h5⟩:=MQ hx;rw [h5];simp only [valB] at h4;refine eG 35 [.tmp 2] func151 rfl ntmps151 rfl fun _ _ _ _=>?_;refine ⟨by decide,?_⟩;refine ⟨by decide,?_⟩;refine ⟨by decide,?_⟩;refine ⟨by decide,?_⟩;refine ⟨by decide,?_⟩;refine ⟨by decide,?_⟩;refine (congrArg (fun z=>DV.v (.int .i64 z)) ?_:_=_);rw [Yw (k:=1) (M:=6148914691236517205) (by decide) hx rfl (by decide) h1 RT,Yw (k:=2) (M:=3689348814741910323) (by decide) RT rfl (by decide) h2 h2b,stgB (k:=4) (M:=1085102592571150095) (by decide) h2s rfl (by decide) h3];obtain ⟨z1,z2,z3,g1,g1b,g2,g2b,g3,g3b,g4⟩:=MR hp;rw [<- h4] at g1;have k1:y3 + y3 / 2 ^ (8:Int).toNat=z1:=g1;rw [Uy (k:=8) (by decide) (by rw [k1];exact g1b),k1];have k2:z1 + z1 / 2 ^ (16:Int).toNat=z2:=g2;rw [Uy (k:=16) (by decide) (by rw [k2];exact g2b),k2];have k3:z2 + z2 / 2 ^ (32:Int).toNat=z3:=g3;rw [Uy (k:=32) (by decide) (by rw [k3];exact g3b),k3,<- g4];exact MS g3b
theorem jt (x k i:Nat) (hi:i < 8):(x / 2 ^ (8 * k) % 256).testBit i=x.testBit (8 * k + i):=by
 rw [show (256:Nat)=2 ^ 8 by decide,Nat.testBit_mod_two_pow,decide_eq_true hi,Bool.true_and,Nat.testBit_div_two_pow,Nat.add_comm]
theorem ju (x k:Nat):pop8 (x / 2 ^ (8 * k) % 256)=(((((((x.testBit (8 * k + 0)).toNat + (x.testBit (8 * k + 1)).toNat) + (x.testBit (8 * k + 2)).toNat) + (x.testBit (8 * k + 3)).toNat) + (x.testBit (8 * k + 4)).toNat) + (x.testBit (8 * k + 5)).toNat) + (x.testBit (8 * k + 6)).toNat) + (x.testBit (8 * k + 7)).toNat:=by
 have h:=(Iz ⟨x / 2 ^ (8 * k) % 256,Nat.mod_lt _ (by decide)⟩).2.2.2;simp only at h;rw [h,jt x k 0 (by decide),jt x k 1 (by decide),jt x k 2 (by decide),jt x k 3 (by decide),jt x k 4 (by decide),jt x k 5 (by decide),jt x k 6 (by decide),jt x k 7 (by decide)]
def sumB (x:Nat):Nat->Nat
 | 0=>0
 | n + 1=>sumB x n + (x.testBit n).toNat
theorem MT (x:Nat):GD x=sumB x 64:=by
 have h0:=ju x 0;have h1:=ju x 1;have h2:=ju x 2;have h3:=ju x 3;have h4:=ju x 4;have h5:=ju x 5;have h6:=ju x 6;have h7:=ju x 7;simp only [Nat.mul_zero,Nat.pow_zero,Nat.div_one] at h0;simp only [GD,eQ,List.map_cons,List.map_nil,List.sum_cons,List.sum_nil,sumB];rw [h0]
 rw [show x / 256=x / 2 ^ (8 * 1) by rfl,h1,show x / 65536=x / 2 ^ (8 * 2) by rfl,h2,show x / 16777216=x / 2 ^ (8 * 3) by rfl,h3,show x / 4294967296=x / 2 ^ (8 * 4) by rfl,h4,
  show x / 1099511627776=x / 2 ^ (8 * 5) by rfl,h5,show x / 281474976710656=x / 2 ^ (8 * 6) by rfl,h6,show x / 72057594037927936=x / 2 ^ (8 * 7) by rfl,h7]
 simp only [Nat.reduceMul,Nat.reduceAdd];omega
theorem wJ (x:Nat):∀ n,0 < sumB x n↔∃ b,b < n/\x.testBit b=true
 | 0=>by simp [sumB]
 | n + 1=>by
  have ih:=wJ x n;simp only [sumB];cases h:x.testBit n
  ·simp only [Bool.toNat_false,Nat.add_zero,ih]
   exact ⟨fun ⟨b,hb,hx⟩=>⟨b,by omega,hx⟩,fun ⟨b,hb,hx⟩=>⟨b,by
    rcases Nat.lt_succ_iff_lt_or_eq.1 hb with hb | rfl
    ·exact ⟨hb,hx⟩
    ·rw [h] at hx;cases hx⟩⟩
  ·simp only [Bool.toNat_true];exact ⟨fun _=>⟨n,by omega,h⟩,fun _=>by omega⟩
theorem DP (x a:Nat) (ha:x.testBit a=true):∀ n,a < n->(1 < sumB x n↔∃ b,b < n/\b≠a/\x.testBit b=true)
 | 0,h=>by omega
 | n + 1,h=>by
  simp only [sumB];by_cases hn:a=n
  ·subst hn;rw [ha,Bool.toNat_true];have:=wJ x a;constructor
   ·intro h1;obtain ⟨b,hb,hx⟩:=this.1 (by omega);exact ⟨b,by omega,by omega,hx⟩
   ·rintro ⟨b,hb,bg,hx⟩;have:=this.2 ⟨b,by omega,hx⟩;omega
  ·have ih:=DP x a ha n (by omega);have hp:=(wJ x n).2 ⟨a,by omega,ha⟩;cases hb:x.testBit n
   ·simp only [Bool.toNat_false,Nat.add_zero,ih]
    exact ⟨fun ⟨b,h1,h2,h3⟩=>⟨b,by omega,h2,h3⟩,fun ⟨b,h1,h2,h3⟩=>⟨b,by
     rcases Nat.lt_succ_iff_lt_or_eq.1 h1 with h1 | rfl
     ·exact ⟨h1,h2,h3⟩
     ·rw [hb] at h3;cases h3⟩⟩
   ·simp only [Bool.toNat_true];exact ⟨fun _=>⟨n,by omega,fun e=>hn e.symm,hb⟩,fun _=>by omega⟩
def bI (p:Nat->Bool) (n:Nat):Option Nat:=(List.range n).find? p
theorem bq {p:Nat->Bool} {n e:Nat} (he:e < n) (hp:p e=true) (h:∀ a,a < e->p a=false):bI p n=some e:=by
 unfold bI;rw [List.find?_eq_some_iff_getElem];refine ⟨hp,e,by simpa using he,by simp,fun j hj=>?_⟩;simp [h j hj]
theorem bK {p:Nat->Bool} {n:Nat} (h:∀ a,a < n->p a=false):bI p n=none:=by
 unfold bI;rw [List.find?_eq_none];intro x hx;simp [h x (sU hx)]
theorem cA {p:Nat->Bool} {n e:Nat} (h:bI p n=some e):e < n/\p e=true/\∀ a,a < e->p a=false:=by
 unfold bI at h;rw [List.find?_eq_some_iff_getElem] at h;obtain ⟨h1,i,hi,rfl,h3⟩:=h;refine ⟨by simpa using hi,h1,fun a ha=>?_⟩;have:=h3 a (sU ha);simpa using this
def qZ (c:List Nat) (a:Nat):Bool:=decide (1 < GD (backN c a c.length))
def MU:Option Nat->DV
 | some a=>.tup [.v (.int .i64 (a:Int)),.v (.bool true)]
 | none=>.tup [.v (.int .i64 0),.v (.bool false)]
abbrev Qg (c:List Nat) (e:Nat):St:=
 ⟨[(4,⟨[],ni c⟩),(9,⟨[],.v (.int .i64 c.length)⟩),(10,⟨[],.v (.int .i64 e)⟩)],[],[]⟩
theorem GG (rows:List Nat) (hr:eH rows) (h0:rows ≠ []):aQ prog 91 [ni rows] (MU (bI (qZ (closeR rows rows.length)) rows.length)):=by
 have hc:=tU rows hr h0;have bm:=lG hr rows.length hr.1;have hlen:=fB rows rows.length;have hr1:=hr.1;generalize closeR rows rows.length=c at hc bm hlen ⊢;rw [<- hlen];have hl:=zM c;refine eG 20 [.tmp 2,.tmp 3] func91 rfl ntmps91 rfl fun _ _ _ _=>?_;refine cP Xp hc ?_;refine cP Ma hl ?_;refine lI (fun j st=>∃ e:Nat,st=Qg c e/\e<=c.length/\(∀ a,a < e->qZ c a=false)/\j=c.length - e) ⟨0,rfl,by omega,fun a h=>by omega,rfl⟩ (ah ⟨_,rfl⟩ wA rfl rfl rfl wB) ?_;rintro j st ⟨e,rfl,he,eZ,rfl⟩;refine br ?_ ?_<;>intro hL
 ·have aj:e < c.length:=by have:=hL;simp at this;exact this
  have Uw:backN c e c.length < 18446744073709551616:=by
   have h1:=wz c e c.length;have:2 ^ c.length<=2 ^ 64:=Nat.pow_le_pow_right (by decide) (by omega);omega
  refine cP XK (GB c bm e aj) ?_;refine cP XJ (J6 _ Uw) ?_;refine br ?_ ?_<;>intro g
  ·have g:qZ c e=true:=by
    simp at g;simp [qZ];omega
   rw [bq aj g eZ];refine ⟨_,?_,rfl⟩;exact ax
  ·have g:qZ c e=false:=by
    simp at g;simp [qZ];omega
   exact rE ⟨_,by omega,e + 1,rfl,by omega,fun a ha=>by
    rcases Nat.lt_succ_iff_lt_or_eq.1 ha with ha | rfl
    ·exact eZ a ha
    ·exact g,rfl⟩ (ah ⟨_,rfl⟩ wA rfl rfl rfl (cX (aF aj (by omega))))
 ·have aM:e=c.length:=by have:=hL;simp at this;omega
  subst aM;rw [bK eZ];refine ⟨_,?_,rfl⟩;exact ax
theorem wK {rows:List Nat} {i x a b:Nat} (hi:i < rows.length):aX (rows.set i x) a b=if a=i then x.testBit b else aX rows a b:=by
 unfold aX;simp only [List.getD_eq_getElem?_getD];by_cases h:a=i
 ·subst h;rw [List.getElem?_set_self hi,if_pos rfl];all_goals rfl
 ·rw [List.getElem?_set_ne (Ne.symm h),if_neg h]
theorem oF {rows:List Nat} {k a b:Nat} (hk:k < rows.length):aX (jM rows k) a b=(aX rows a b || (decide (a=k) && decide (b=k))):=by
 unfold jM;rw [wK hk];by_cases h:a=k
 ·subst h;rw [if_pos rfl,iq];simp only [decide_true,Bool.true_and];rw [show decide (a=b)=decide (b=a) from by simp only [eq_comm]];rfl
 ·rw [if_neg h];simp [h]
theorem J7 {rows:List Nat} {k i a b:Nat} (hi:i < rows.length):aX (ph k rows i) a b=(aX rows a b || (decide (a=i) && (aX rows a k && aX rows k b))):=by
 unfold ph;by_cases h:aX rows i k=true
 ·rw [if_pos h,wK hi];by_cases ha:a=i
  ·subst ha;rw [if_pos rfl,Nat.testBit_or];simp only [decide_true,Bool.true_and,h];rfl
  ·rw [if_neg ha];simp [ha]
 ·rw [if_neg h];by_cases ha:a=i
  ·subst ha;simp only [Bool.not_eq_true] at h;simp [h]
  ·simp [ha]
theorem zN {rows:List Nat} {k:Nat} (hk:k < rows.length):∀ e,e<=rows.length->∀ a b,aX (iu rows k e) a b=(aX (jM rows k) a b || (decide (a < e) && (aX (jM rows k) a k && aX (jM rows k) k b)))
 | 0,_,a,b=>by simp [iu]
 | e + 1,he,a,b=>by
  have ih:=zN hk e (by omega);rw [mB,J7 (by rw [oE];omega),ih a b,ih a k,ih k b];have CN:aX (jM rows k) k k=true:=by rw [oF hk];simp
  generalize aX (jM rows k)=s at *;by_cases h1:a=e
  ·subst h1;simp only [Nat.lt_irrefl,decide_false,Bool.false_and,Bool.or_false,decide_true,Bool.true_and,Nat.lt_succ_self,CN];cases s a b<;>cases s a k<;>cases s k b<;>simp
  ·by_cases h2:a < e
   ·have:a < e + 1:=by omega
    simp [h1,h2,this]
   ·have:¬ a < e + 1:=by omega
    simp [h1,h2,this]
inductive u3 (p:Nat->Nat->Prop):Nat->Nat->Prop
 | refl (a:Nat):u3 p a a
 | step {a b c:Nat}:u3 p a b->p b c->u3 p a c
theorem u3.trans {p:Nat->Nat->Prop} {a b c:Nat} (h1:u3 p a b) (h2:u3 p b c):u3 p a c:=by
 induction h2 with
 | refl=>exact h1
 | step _ h ih=>exact .step ih h
theorem u3.mono {p q:Nat->Nat->Prop} (h:∀ a b,p a b->u3 q a b) {a b:Nat} (h1:u3 p a b):u3 q a b:=by
 induction h1 with
 | refl=>exact .refl _
 | step _ h2 ih=>exact ih.trans (h _ _ h2)
def wayQ (p:Nat->Nat->Prop):Nat->Nat->Nat->Prop
 | 0,a,b=>a=b∨p a b
 | k + 1,a,b=>wayQ p k a b∨(wayQ p k a k/\wayQ p k k b)
theorem zO {p:Nat->Nat->Prop} (a:Nat):∀ k,wayQ p k a a
 | 0=>.inl rfl
 | k + 1=>.inl (zO a k)
theorem zP {p:Nat->Nat->Prop} {a b:Nat} (h:p a b):∀ k,wayQ p k a b
 | 0=>.inr h
 | k + 1=>.inl (zP h k)
theorem q4 {p:Nat->Nat->Prop}:∀ k a b,wayQ p k a b->u3 p a b
 | 0,a,b,h=>by
  rcases h with rfl | h
  ·exact .refl _
  ·exact .step (.refl _) h
 | k + 1,a,b,h=>by
  rcases h with h | ⟨h1,h2⟩
  ·exact q4 k a b h
  ·exact (q4 k a k h1).trans (q4 k k b h2)
theorem mC {p:Nat->Nat->Prop}:∀ k a m b,m < k->wayQ p k a m->wayQ p k m b->wayQ p k a b
 | 0,_,_,_,h,_,_=>by omega
 | k + 1,a,m,b,hm,h1,h2=>by
  by_cases V5:m=k
  ·subst V5
   have tG:wayQ p m a m:=by
    rcases h1 with h1 | h1
    ·exact h1
    ·exact h1.1
   have Qh:wayQ p m m b:=by
    rcases h2 with h2 | h2
    ·exact h2
    ·exact h2.2
   exact .inr ⟨tG,Qh⟩
  ·have lA:m < k:=by omega
   rcases h1 with h1 | ⟨h1,h3⟩
   ·rcases h2 with h2 | ⟨h2,h4⟩
    ·exact .inl (mC k a m b lA h1 h2)
    ·exact .inr ⟨mC k a m k lA h1 h2,h4⟩
   ·rcases h2 with h2 | ⟨h2,h4⟩
    ·exact .inr ⟨h1,mC k k m b lA h3 h2⟩
    ·exact .inr ⟨h1,h4⟩
theorem wM {rows:List Nat}:∀ k,k<=rows.length->∀ a b,a < rows.length->((aX (closeR rows k) a b=true∨a=b)↔wayQ (fun x y=>aX rows x y=true) k a b)/\(a < k->aX (closeR rows k) a a=true)
 | 0,_,a,b,_=>by
  refine ⟨?_,fun h=>by omega⟩;simp only [closeR,List.range_zero,List.foldl_nil,wayQ];exact or_comm
 | k + 1,hk,a,b,ha=>by
  have ih:=wM (rows:=rows) k (by omega);have ee:k < (closeR rows k).length:=by rw [fB];omega
  have hb:∀ a b,a < rows.length->aX (closeR rows (k + 1)) a b=(aX (jM (closeR rows k) k) a b || (aX (jM (closeR rows k) k) a k && aX (jM (closeR rows k) k) k b)):=fun a b ha=>by
   rw [kV,zN ee _ (Nat.le_refl _)];simp [fB,ha]
  have MV:∀ a b,(aX (jM (closeR rows k) k) a b=true∨a=b)↔(aX (closeR rows k) a b=true∨a=b):=fun a b=>by
   rw [oF ee];simp only [Bool.or_eq_true,Bool.and_eq_true,decide_eq_true_eq];constructor
   ·rintro ((h | ⟨rfl,rfl⟩) | h)
    ·exact .inl h
    ·exact .inr rfl
    ·exact .inr h
   ·rintro (h | h)
    ·exact .inl (.inl h)
    ·exact .inr h
  have CN:aX (jM (closeR rows k) k) k k=true:=by rw [oF ee];simp
  have key:∀ a b,a < rows.length->((aX (closeR rows (k + 1)) a b=true∨a=b)↔wayQ (fun x y=>aX rows x y=true) (k + 1) a b):=fun a b ha=>by
   rw [hb a b ha];show _↔wayQ _ k a b∨(wayQ _ k a k/\wayQ _ k k b);rw [<- (ih a b ha).1,<- (ih a k ha).1,<- (ih k b (by omega)).1,<- MV a b,<- MV a k,<- MV k b];simp only [Bool.or_eq_true,Bool.and_eq_true];constructor
   ·rintro ((h | ⟨h1,h2⟩) | h)
    ·exact .inl (.inl h)
    ·exact .inr ⟨.inl h1,.inl h2⟩
    ·exact .inl (.inr h)
   ·rintro ((h | h) | ⟨h1,h2⟩)
    ·exact .inl (.inl h)
    ·exact .inr h
    ·rcases h1 with h1 | rfl
     ·rcases h2 with h2 | rfl
      ·exact .inl (.inr ⟨h1,h2⟩)
      ·exact .inl (.inl h1)
     ·rcases h2 with h2 | rfl
      ·exact .inl (.inl h2)
      ·exact .inr rfl
  refine ⟨key a b ha,fun hak=>?_⟩;rw [hb a a ha];by_cases h:a=k
  ·subst h;rw [CN];all_goals rfl
  ·have:=(ih a a ha).2 (by omega);rw [oF ee,this];all_goals rfl
theorem GH {rows:List Nat} (hb:∀ a b,a < rows.length->aX rows a b=true->b < rows.length) {a b:Nat} (ha:a < rows.length) (hbl:b < rows.length):aX (closeR rows rows.length) a b=true↔u3 (fun x y=>x < rows.length/\aX rows x y=true) a b:=by
 have hw:=wM (rows:=rows) rows.length (Nat.le_refl _) a b ha
 have h1:aX (closeR rows rows.length) a b=true↔wayQ (fun x y=>aX rows x y=true) rows.length a b:=by
  rw [<- hw.1];constructor
  ·exact .inl
  ·rintro (h | rfl)
   ·exact h
   ·exact hw.2 ha
 rw [h1];constructor
 ·intro h
  have aj:∀ {x},u3 (fun x y=>aX rows x y=true) a x->u3 (fun x y=>x < rows.length/\aX rows x y=true) a x/\x < rows.length:=by
   intro x hx
   induction hx with
   | refl=>exact ⟨.refl _,ha⟩
   | step _ h2 ih=>exact ⟨.step ih.1 ⟨ih.2,h2⟩,hb _ _ ih.2 h2⟩
  exact (aj (q4 _ _ _ h)).1
 ·intro h
  have:wayQ (fun x y=>aX rows x y=true) rows.length a b/\b < rows.length:=by
   clear h1 hw hbl
   induction h with
   | refl=>exact ⟨zO _ _,ha⟩
   | step _ h2 ih=>exact ⟨mC _ _ _ _ ih.2 ih.1 (zP h2.2 _),hb _ _ h2.1 h2.2⟩
  exact this.1
theorem MW {rows:List Nat} {p:Nat × Nat} {a b:Nat} (hp:p.1 < rows.length):aX (wF rows p) a b=(aX rows a b || (decide (a=p.1) && decide (b=p.2))):=by
 unfold wF;rw [wK hp];by_cases h:a=p.1
 ·subst h;rw [if_pos rfl,iq];simp only [decide_true,Bool.true_and];rw [show decide (p.2=b)=decide (b=p.2) from by simp only [eq_comm]];rfl
 ·rw [if_neg h];simp [h]
theorem zQ:∀ (l:List (Nat × Nat)) (rows:List Nat) (a b:Nat),(∀ p∈l,p.1 < rows.length)->(aX (l.foldl wF rows) a b=true↔aX rows a b=true∨(a,b)∈l)
 | [],_,_,_,_=>by simp
 | p :: l,rows,a,b,h=>by
  rw [List.foldl_cons,zQ l _ a b (fun q hq=>by rw [qY];exact h q (by simp [hq])),MW (h p (by simp))];simp only [Bool.or_eq_true,Bool.and_eq_true,decide_eq_true_eq,List.mem_cons];constructor
  ·rintro ((h1 | ⟨rfl,rfl⟩) | h1)
   ·exact .inl h1
   ·exact .inr (.inl rfl)
   ·exact .inr (.inr h1)
  ·rintro (h1 | rfl | h1)
   ·exact .inl (.inl h1)
   ·exact .inl (.inr ⟨rfl,rfl⟩)
   ·exact .inr h1
theorem wN {n:Nat} {l:List (Nat × Nat)} (h:∀ p∈l,p.1 < n) (a b:Nat):aX (fA n l) a b=true↔(a,b)∈l:=by
 unfold fA;rw [zQ l _ a b (fun p hp=>by rw [List.length_replicate];exact h p hp)];constructor
 ·rintro (h1 | h1)
  ·unfold aX at h1;rw [List.getD_eq_getElem?_getD,List.getElem?_replicate] at h1;split at h1<;>simp at h1
  ·exact h1
 ·exact .inr
def fh (n:Nat) (l:List (Nat × Nat)) (a b:Nat):Bool:=aX (closeR (fA n l) n) a b
def sF (n:Nat) (l:List (Nat × Nat)):Prop:=∀ p∈l,p.1 < n/\p.2 < n
theorem nP {n:Nat} {l:List (Nat × Nat)} (h:sF n l) {a b:Nat} (ha:a < n) (hb:b < n):fh n l a b=true↔u3 (fun x y=>(x,y)∈l) a b:=by
 have hlen:(fA n l).length=n:=kr n l;unfold fh
 have:=GH (rows:=fA n l) (fun a b _ MP=>by
  rw [wN (fun p hp=>(h p hp).1)] at MP
  rw [hlen];exact (h _ MP).2) (a:=a) (b:=b) (by omega) (by omega)
 rw [hlen] at this;rw [this];constructor
 ·exact u3.mono fun x y Gc=>.step (.refl _) ((wN (fun p hp=>(h p hp).1) x y).1 Gc.2)
 ·exact u3.mono fun x y Gc=>.step (.refl _) ⟨(h _ Gc).1,(wN (fun p hp=>(h p hp).1) x y).2 Gc⟩
theorem sG {n:Nat} {l:List (Nat × Nat)} (h:sF n l) {a:Nat} (ha:a < n):fh n l a a=true:=(nP h ha ha).2 (.refl _)
theorem GI {n:Nat} {l:List (Nat × Nat)} (h:sF n l) {a b c:Nat} (ha:a < n) (hb:b < n) (hc:c < n) (h1:fh n l a b=true) (h2:fh n l b c=true):fh n l a c=true:=
 (nP h ha hc).2 (((nP h ha hb).1 h1).trans ((nP h hb hc).1 h2))
def kW (n:Nat) (f:Nat->Nat->Bool) (a:Nat):Bool:=(List.range n).any fun b=>decide (a≠b) && (f a b && f b a)
theorem MX {n:Nat} {l:List (Nat × Nat)} (hn:n<=64) (h:sF n l) {a:Nat} (ha:a < n):qZ (closeR (fA n l) n) a=kW n (fh n l) a:=by
 have hlen:(closeR (fA n l) n).length=n:=by rw [fB,kr]
 unfold qZ kW;rw [MT,hlen,Bool.eq_iff_iff,decide_eq_true_eq]
 have haa:(backN (closeR (fA n l) n) a n).testBit a=true:=by
  rw [sE];have:aX (closeR (fA n l) n) a a=true:=sG h ha;simp [ha,this]
 rw [DP _ a haa 64 (by omega)];simp only [List.any_eq_true,List.mem_range,Bool.and_eq_true,decide_eq_true_eq,sE];constructor
 ·rintro ⟨b,_,bg,hb,h1,h2⟩;exact ⟨b,hb,fun e=>bg e.symm,h1,h2⟩
 ·rintro ⟨b,hb,bg,h1,h2⟩;exact ⟨b,by omega,fun e=>bg e.symm,hb,h1,h2⟩
theorem BQ {p q:Nat->Bool} {n:Nat} (h:∀ a,a < n->p a=q a):bI p n=bI q n:=by
 unfold bI
 have:∀ (l:List Nat),(∀ a∈l,p a=q a)->l.find? p=l.find? q:=by
  intro l
  induction l with
  | nil=>intro _;rfl
  | cons x r ih=>
   intro hl;rw [List.find?_cons,List.find?_cons,hl x (by simp),ih (fun a ha=>hl a (by simp [ha]))]
 exact this _ fun a ha=>h a (List.mem_range.1 ha)
theorem Qi {n:Nat} {l:List (Nat × Nat)} (hn:n<=64) (h:sF n l):bI (qZ (closeR (fA n l) n)) n=bI (kW n (fh n l)) n:=
 BQ fun _ ha=>MX hn h ha
def iv (r:List Bool) (p:Nat × Nat):List Bool:=if r.getD p.1 false then r.set p.2 true else r
def jd (l:List (Nat × Nat)) (r:List Bool):List Bool:=l.foldl iv r
def cV (l:List (Nat × Nat)) (r:List Bool) (k:Nat):List Bool:=(List.range k).foldl (fun r _=>jd l r) r
def uH (n:Nat) (l:List (Nat × Nat)) (a:Nat):List Bool:=cV l ((List.replicate n false).set a true) n
theorem eS (l:List (Nat × Nat)) (r:List Bool) (k:Nat):cV l r (k + 1)=jd l (cV l r k):=by simp [cV,List.range_succ]
theorem lK (r:List Bool) (p:Nat × Nat):(iv r p).length=r.length:=by unfold iv;split<;>simp
theorem pK (l:List (Nat × Nat)):∀ r,(jd l r).length=r.length:=by
 induction l with
 | nil=>intro r;rfl
 | cons p l ih=>intro r;simp only [jd,List.foldl_cons] at ih ⊢;rw [ih,lK]
theorem fC (l:List (Nat × Nat)) (r:List Bool):∀ k,(cV l r k).length=r.length
 | 0=>by simp [cV]
 | k + 1=>by rw [eS,pK,fC]
theorem q5 (n:Nat) (l:List (Nat × Nat)) (a:Nat):(uH n l a).length=n:=by simp [uH,fC]
def zR (r s:List Bool):Prop:=∀ i:Nat,r.getD i false=true->s.getD i false=true
theorem ku {r:List Bool} {i j:Nat} (hi:i < r.length):(r.set i true).getD j false=(decide (j=i) || r.getD j false):=by
 simp only [List.getD_eq_getElem?_getD];by_cases h:j=i
 ·subst h;rw [List.getElem?_set_self hi];simp
 ·rw [List.getElem?_set_ne (Ne.symm h)];simp [h]
theorem DQ {r:List Bool} {p:Nat × Nat} (hp:p.2 < r.length):zR r (iv r p):=by
 intro i hi;unfold iv;split
 ·rw [ku hp,hi];simp
 ·exact hi
theorem oG:∀ {l:List (Nat × Nat)} {r:List Bool},(∀ p∈l,p.2 < r.length)->zR r (jd l r)
 | [],r,_,i,hi=>hi
 | p :: l,r,h,i,hi=>by
  have:zR (iv r p) (jd l (iv r p)):=oG fun q hq=>by rw [lK];exact h q (by simp [hq])
  exact this i (DQ (h p (by simp)) i hi)
def kv (r:List Bool):Nat:=r.countP (fun x=>x)
theorem q6 (r:List Bool):kv r<=r.length:=List.countP_le_length
theorem lm:∀ {r s:List Bool},r.length=s.length->zR r s->(r=s∨kv r < kv s)/\kv r<=kv s
 | [],[],_,_=>⟨.inl rfl,Nat.le_refl _⟩
 | x :: r,y :: s,hl,h=>by
  have uB:r.length=s.length:=sU hl;have ih:=lm uB (fun i hi=>by simpa using h (i + 1) (sU hi));have h0:x=true->y=true:=fun hx=>by simpa using h 0 (sU hx)
  simp only [kv,List.countP_cons] at ih ⊢;cases x<;>cases y
  ·refine ⟨?_,by simpa using ih.2⟩;rcases ih.1 with h1 | h1
   ·exact .inl (by rw [h1])
   ·exact .inr (sU h1)
  ·have:=ih.2;exact ⟨.inr (by simp;omega),by simp;omega⟩
  ·exact absurd (h0 rfl) (by decide)
  ·refine ⟨?_,by simpa using ih.2⟩;rcases ih.1 with h1 | h1
   ·exact .inl (by rw [h1])
   ·exact .inr (sU h1)
 | [],_ :: _,h,_=>by simp at h
 | _ :: _,[],h,_=>by simp at h
theorem wO {r s:List Bool} (hl:r.length=s.length) (h1:zR r s) (h2:zR s r):r=s:=by
 rcases (lm hl h1).1 with h | h
 ·exact h
 ·have:=(lm hl.symm h2).2;omega
theorem wP:∀ {l:List (Nat × Nat)} {r:List Bool},(∀ p∈l,p.2 < r.length)->jd l r=r->∀ p∈l,r.getD p.1 false=true->r.getD p.2 false=true
 | [],_,_,_,p,hp,_=>by cases hp
 | q :: l,r,h,he,p,hp,h1=>by
  have hq:=h q (by simp);have hl:∀ p∈l,p.2 < (iv r q).length:=fun p hp=>by rw [lK];exact h p (by simp [hp])
  have hs:iv r q=r:=by
   have h2:zR (iv r q) r:=by
    have:=oG hl;have pF:jd l (iv r q)=r:=he;rw [pF] at this;exact this
   exact (wO (lK r q).symm (DQ hq) h2).symm
  rcases List.mem_cons.1 hp with rfl | hp
  ·unfold iv at hs;rw [if_pos h1] at hs;rw [<- hs,ku hq];simp
  ·have pF:jd l r=r:=by
    have:jd l (iv r q)=r:=he
    rwa [hs] at this
   exact wP (fun p hp=>h p (by simp [hp])) pF p hp h1
theorem tV {l:List (Nat × Nat)} {r:List Bool} (h:∀ p∈l,p.2 < r.length):∀ k,jd l (cV l r k)=cV l r k∨kv r + k<=kv (cV l r k)
 | 0=>.inr (by simp [cV])
 | k + 1=>by
  have hk:∀ p∈l,p.2 < (cV l r k).length:=fun p hp=>by rw [fC];exact h p hp
  rcases tV h k with h1 | h1
  ·left;rw [eS,h1,h1]
  ·rcases (lm (pK l _).symm (oG hk)).1 with h2 | h2
   ·left;rw [eS,<- h2,<- h2]
   ·right;rw [eS];omega
theorem J8 {l:List (Nat × Nat)} {a:Nat} {r:List Bool} {p:Nat × Nat} (hp:p∈l) (hl:p.2 < r.length) (h:∀ i,r.getD i false=true->u3 (fun x y=>(x,y)∈l) a i):∀ i,(iv r p).getD i false=true->u3 (fun x y=>(x,y)∈l) a i:=by
 intro i hi;unfold iv at hi;split at hi
 ·rename_i h1;rw [ku hl] at hi;simp only [Bool.or_eq_true,decide_eq_true_eq] at hi;rcases hi with rfl | hi
  ·exact .step (h _ h1) hp
  ·exact h i hi
 ·exact h i hi
theorem wQ {l:List (Nat × Nat)} {a:Nat}:∀ (m:List (Nat × Nat)) {r:List Bool},(∀ p∈m,p∈l/\p.2 < r.length)->(∀ i,r.getD i false=true->u3 (fun x y=>(x,y)∈l) a i)->∀ i,(jd m r).getD i false=true->u3 (fun x y=>(x,y)∈l) a i
 | [],_,_,h=>h
 | p :: m,r,hm,h=>wQ m (r:=iv r p) (fun q hq=>by rw [lK];exact hm q (by simp [hq])) (J8 (hm p (by simp)).1 (hm p (by simp)).2 h)
theorem tW {l:List (Nat × Nat)} {a:Nat} {r:List Bool} (hl:∀ p∈l,p.2 < r.length) (h:∀ i,r.getD i false=true->u3 (fun x y=>(x,y)∈l) a i):∀ k i,(cV l r k).getD i false=true->u3 (fun x y=>(x,y)∈l) a i
 | 0=>by simpa [cV] using h
 | k + 1=>by
  rw [eS];exact wQ l (fun p hp=>⟨hp,by rw [fC];exact hl p hp⟩) (tW hl h k)
theorem wR {l:List (Nat × Nat)} {r:List Bool} (hl:∀ p∈l,p.2 < r.length):∀ k,zR r (cV l r k)
 | 0=>by intro i hi;simpa [cV] using hi
 | k + 1=>fun i hi=>by
  rw [eS];exact oG (fun p hp=>by rw [fC];exact hl p hp) i (wR hl k i hi)
theorem MY {n a:Nat} (ha:a < n):1<=kv ((List.replicate n false).set a true):=by
 unfold kv;rw [Nat.succ_le_iff,List.countP_pos_iff];exact ⟨true,List.mem_iff_getElem?.2 ⟨a,by rw [List.getElem?_set_self (by simp [ha])]⟩,rfl⟩
theorem MZ {n:Nat} {l:List (Nat × Nat)} (h:sF n l) {a b:Nat} (ha:a < n) (hb:b < n):(uH n l a).getD b false=fh n l a b:=by
 have hl:∀ p∈l,p.2 < ((List.replicate n false).set a true).length:=fun p hp=>by simp;exact (h p hp).2
 have uF:a < (List.replicate n false).length:=by simp [ha]
 rw [Bool.eq_iff_iff,nP h ha hb];constructor
 ·refine tW hl (fun i hi=>?_) n b;rw [ku uF] at hi;simp only [Bool.or_eq_true,decide_eq_true_eq] at hi;rcases hi with rfl | hi
  ·exact .refl _
  ·rw [List.getD_eq_getElem?_getD,List.getElem?_replicate] at hi;split at hi<;>simp at hi
 ·have hfix:jd l (uH n l a)=uH n l a:=by
   rcases tV hl n with h1 | h1
   ·exact h1
   ·have h2:=q6 (cV l ((List.replicate n false).set a true) n);rw [fC] at h2;have h3:=MY ha;simp only [List.length_set,List.length_replicate] at h2;omega
  have eD:=wP (fun p hp=>by rw [q5];exact (h p hp).2) hfix;intro hr;have haa:(uH n l a).getD a false=true:=wR hl n a (by rw [ku uF];simp);clear hb
  induction hr with
  | refl=>exact haa
  | step _ h2 ih=>exact eD _ h2 ih
def dt (n:Nat) (f:Nat->Nat->Bool):List (List Bool):=(List.range n).map fun a=>(List.range n).map (f a)
theorem Qj {n:Nat} {l:List (Nat × Nat)} (h:sF n l) {a:Nat} (ha:a < n):uH n l a=(List.range n).map (fh n l a):=by
 refine List.ext_getElem? fun i=>?_;by_cases hi:i < n
 ·have:=MZ h ha hi;have hl:=q5 n l a;rw [List.getD_eq_getElem?_getD,gE (by omega)] at this;rw [gE (by omega),List.getElem?_map,List.getElem?_range hi];simpa using this
 ·rw [List.getElem?_eq_none (by rw [q5];omega),List.getElem?_eq_none (by simp;omega)]
theorem DR {n:Nat} {f:Nat->Nat->Bool} {a:Nat} (ha:a < n):(dt n f)[a]? = some ((List.range n).map (f a)):=by
 simp [dt,List.getElem?_range ha]
theorem J9 {l:List Wd} {i:Nat} {x:Wd} (h:l[i]? = some x):az (l.take (i + 1))=az (l.take i) ++ [x.s]:=by
 rw [List.take_add_one,h];simp [az]
theorem IB (l:List Wd) (s:ByteArray):bO l s=true↔s∈az l:=by
 simp only [bO,List.any_eq_true,decide_eq_true_eq,az,List.mem_map]
theorem mD {l:List Wd} {i:Nat} {x:Wd} (h:l[i]? = some x) (hn:(az (l.take i)).Nodup):(az (l.take (i + 1))).Nodup↔bO (l.take i) x.s=false:=by
 rw [J9 h,List.nodup_append];constructor
 ·rintro ⟨_,_,h3⟩;cases hb:bO (l.take i) x.s
  ·rfl
  ·exact absurd rfl (h3 x.s ((IB _ _).1 hb) x.s (by simp))
 ·intro hb;refine ⟨hn,by simp,fun a ha b kR=>?_⟩;simp only [List.mem_singleton] at kR;subst kR;rintro rfl;rw [(IB _ _).2 ha] at hb;cases hb
theorem zS {l:List Wd} {i:Nat} {x:Wd} (a:Int) (h:l[i]? = some x) (hn:(az (l.take i)).Nodup) :
  ik (az (l.take (i + 1))) x.s a=if aG l i x≠0 then (aG l i x,a) else (0,0):=by
 have hs:=mD h hn;unfold ik aG;by_cases h1:bc x.s=true
 ·rw [if_pos h1,if_pos h1];by_cases h2:bO (l.take i) x.s=true
  ·rw [if_pos h2,if_neg (fun hc=>by rw [hs.1 hc] at h2;cases h2)];all_goals rfl
  ·rw [if_neg h2,if_pos (hs.2 (sU h2))];all_goals rfl
 ·rw [if_neg h1,if_neg h1];all_goals rfl
theorem mE {l:List Wd} {i:Nat} {x:Wd} (h:l[i]? = some x) (hn:(az (l.take i)).Nodup) (hz:aG l i x=0):(az (l.take (i + 1))).Nodup:=by
 refine (mD h hn).2 ?_;unfold aG at hz;by_cases h1:bc x.s=true
 ·rw [if_pos h1] at hz;by_cases h2:bO (l.take i) x.s=true
  ·rw [if_pos h2] at hz;simp at hz
  ·simpa using h2
 ·rw [if_neg h1] at hz;simp at hz
theorem zT (l:List Wd):∀ (d e:Nat),e + d=l.length->(enumP l e)=(0,0)->(az (l.take e)).Nodup->enumP l l.length=enumL l e (l.drop e)
 | 0,e,hd,hz,hn=>by
  have:e=l.length:=by omega
  subst this;rw [hz,List.drop_length];all_goals rfl
 | d + 1,e,hd,hz,hn=>by
  obtain ⟨x,hx⟩:∃ x,l[e]? = some x:=⟨_,gE (by omega)⟩;have h1:=wx (by rw [hz]) hx;rw [zS x.a hx hn] at h1;rw [drop_cons hx];simp only [enumL];by_cases hf:aG l e x≠0
  ·rw [if_pos hf] at h1 ⊢;have aR:=pH (l:=l) (e:=e + 1) (by rw [h1];exact hf) d;rw [show e + 1 + d=l.length by omega] at aR;rw [aR,h1]
  ·rw [if_neg hf] at h1 ⊢;exact zT l d (e + 1) (by omega) h1 (mE hx hn (sU hf))
theorem M0 (h:Hd):nO h=iY h:=by
 unfold nO iY;by_cases h0:h.af=[]
 ·rw [if_pos h0,if_pos (by simp [h0])]
 ·rw [if_neg h0,if_neg (sU h0)];by_cases h1:64 < h.af.length
  ·rw [if_pos h1,if_pos h1]
  ·rw [if_neg h1,if_neg h1];have:=zT h.af h.af.length 0 (by omega) rfl (by simp [az]);simpa using this
def nQ (p:Ph):Ph:=⟨p.name,true,[],0,0,0,0,[]⟩
theorem Qk (p:Ph) (t:Ty):dj p t (nQ p) cq=(bW p fx && sameTy t cq):=by
 have e:bW p (nQ p)=bW p fx:=rfl;unfold dj;rw [e];have e2:decide (p.name.s=(nQ p).name.s)=true:=decide_eq_true rfl;rw [e2,Bool.true_and]
theorem empty_eq (p:Ph):dj p cq ff cq=(decide (p.name.s=av) && bW p ff):=by
 have e:sameTy cq cq=true:=by simp [cq,Mk,sameTy,lj,samePts,sameWds]
 simp only [dj,e,Bool.and_true];rfl
def cY (L:List ByteArray) (s:ByteArray):Option Nat:=bI (fun i=>decide (L[i]? = some s)) L.length
theorem dm {L:List ByteArray} {s:ByteArray} {p:Nat} (h:cY L s=some p):p < L.length/\L[p]? = some s/\∀ j,L[j]? = some s->p<=j:=by
 obtain ⟨h1,h2,h3⟩:=cA h;refine ⟨h1,by simpa using h2,fun j hj=>?_⟩;rcases Nat.lt_or_ge j p with h4 | h4
 ·have:=h3 j h4;simp [hj] at this
 ·exact h4
theorem BR {L:List ByteArray} {s:ByteArray} {p:Nat} (h1:L[p]? = some s) (h2:∀ j,L[j]? = some s->p<=j):cY L s=some p:=by
 refine bq (gS h1).1 (sU h1) fun a ha=>?_;simp only [decide_eq_false_iff_not];intro h3;have:=h2 a h3;omega
theorem sH {L:List ByteArray} {s:ByteArray} (h:∀ j:Nat,L[j]? ≠ some s):cY L s=none:=bK fun a _=>by simpa using h a
theorem yZ {L:List ByteArray} {s:ByteArray}:cY L s=none↔s ∉ L:=by
 constructor
 ·intro h hm;obtain ⟨j,hj⟩:=List.mem_iff_getElem?.1 hm;unfold cY bI at h;rw [List.find?_eq_none] at h;have:=h j (by simpa using (gS hj).1);simp [hj] at this
 ·intro h;exact sH fun j hj=>h (mG hj)
theorem je (L:List ByteArray) (aH:List Nat) (s:ByteArray) (hT:iF L aH) (hl:aH.length<=1099511627776) :
  aQ prog 98 [.pt (de L aH) 0,.v (.string s)] (MU (cY L s)):=by
 by_cases hm:s∈L
 ·obtain ⟨j,hj⟩:=List.mem_iff_getElem?.1 hm;obtain ⟨q,p,hq,hp⟩:=hT.all j s hj;rw [BR hp fun j' fY=>hT.fst q p j' s hq hp fY];exact find_spec L aH s q p hT hl hq hp
 rw [sH fun j hj=>hm (mG hj)]
 let pr:Nat->Prop:=fun i=>i=aH.length∨∃ p t,aH[i]? = some p/\L[p]? = some t/\yW t s=false
 obtain ⟨m,j1,Lb⟩:=least (p:=pr) ⟨aH.length,.inl rfl⟩;have jv:m<=aH.length:=Lb _ (.inl rfl);refine eG 47 [.tmp 4,.tmp 5] func98 rfl ntmps98 rfl fun _ _ _ _=>?_
 have eD:∀ i:Nat,i < aH.length->aQ prog 162 [.v (.int .i64 i),.pt [.pt (de L aH) 0] 0,.pt [.v (.string s)] 0] (.v (.bool (decide (m<=i)))):=by
  intro i hi;obtain ⟨p',qJ⟩:∃ p',aH[i]? = some p':=⟨_,gE hi⟩;obtain ⟨t,ht⟩:∃ t,L[p']? = some t:=⟨_,gE (hT.lt i p' qJ)⟩;have:=wa L aH s i p' t qJ ht
  have e:(!yW t s)=decide (m<=i):=by
   by_cases h:m<=i
   ·have:yW t s=false:=by
     rcases j1 with j1 | ⟨p,u,h1,h2,h3⟩
     ·omega
     ·rcases Nat.lt_or_eq_of_le h with h4 | h4
      ·have h5:=hT.srt m i p p' u t h4 h1 qJ h2 ht;cases h6:yW t s
       ·rfl
       ·have:=gC h5 h6;unfold yW at h3;rw [this] at h3;cases h3
      ·subst h4;rw [h1] at qJ;simp only [oI] at qJ;subst qJ;rw [h2] at ht;simp only [oI] at ht;subst ht;exact h3
    simp [this,h]
   ·have:yW t s=true:=by
     cases h6:yW t s
     ·exact absurd (Lb i (.inr ⟨p',t,qJ,ht,h6⟩)) h
     ·rfl
    simp [this,h]
  rw [e] at this;exact this
 have hS:=tO 162 R9 [.pt [.pt (de L aH) 0] 0,.pt [.v (.string s)] 0] aH.length m hl jv ax rfl eD;refine Bt R8 hS (gF (aZ aH)) rfl ?_;refine dI ?_;refine br ?_ ?_<;>intro h
 ·have aj:m < aH.length:=by
   have:decide ((m:Int)=((dInts aH).length:Int))=false:=sU h;simp [aZ] at this;omega
  rcases j1 with j1 | ⟨p,t,h1,h2,h3⟩
  ·omega
  refine iX (aD h1) ?_;refine iX (ij h2) ?_;refine br ?_ ?_<;>intro h4
  ·exact ⟨_,ax,rfl⟩
  ·exfalso
   have hts:t=s:=by
    simp [au] at h4;exact h4
   exact hm (hts ▸ mG h2)
 ·exact ⟨_,ax,rfl⟩
def gq (l:List Wd) (o:List (Wd × Wd)):Ft:=
 if l=[] then (15,0)
 else if 32 < l.length then (8,((l[32]?).getD (⟨av,0⟩:Wd)).a)
 else if 256 < o.length then (8,((o[256]?).getD ((⟨av,0⟩,⟨av,0⟩):Wd × Wd)).1.a)
 else (0,0)
theorem Ka (l:List Wd) (o:List (Wd × Wd)):aQ prog 86 [.sl 2 (bJ l) none,.sl 4 (nh o) none] (gq l o).d:=by
 refine eG 30 [.cell 4 45] func86 rfl ntmps86 rfl fun _ _ _ _=>?_;refine br ?_ ?_<;>intro h
 ·have h:l=[]:=by simpa [aw] using h
  refine ⟨_,?_,rfl⟩;rw [gq,if_pos h];exact ax
 have h:¬ l=[]:=by simpa [aw] using h
 refine br ?_ ?_<;>intro h1
 ·have h1:32 < l.length:=by simp [aw] at h1;omega
  obtain ⟨x,hx⟩:∃ x,l[32]? = some x:=⟨_,gE h1⟩;refine ⟨ko x,⟨by omega,aT hx⟩,?_⟩;refine ⟨_,?_,rfl⟩;rw [gq,if_neg h,if_pos h1,hx];exact ax
 have h1:¬ 32 < l.length:=by simp [aw] at h1;omega
 refine br ?_ ?_<;>intro h2
 ·have h2:256 < o.length:=by simp [gp] at h2;omega
  obtain ⟨x,hx⟩:∃ x,o[256]? = some x:=⟨_,gE h2⟩;refine ⟨Ll x,⟨by omega,im hx⟩,?_⟩;refine ⟨_,?_,rfl⟩;rw [gq,if_neg h,if_neg h1,if_pos h2,hx];exact ax
 have h2:¬ 256 < o.length:=by simp [gp] at h2;omega
 refine ⟨_,?_,rfl⟩;rw [gq,if_neg h,if_neg h1,if_neg h2];exact ax
def Yx (f:Ft) (L:List ByteArray):DV:=.tup [if f.1=0 then .sl 1 (eV L) none else .v (.slice none 0 0),f.d]
abbrev SA (l:List Wd) (n e:Nat):St:=
 ⟨[(3,⟨[],.loc 0 0⟩),(4,⟨[],.sl 1 (eV (az (l.take e))) (some 0)⟩),(7,⟨[],.sl 2 (bJ l) none⟩),(8,⟨[],.v (.int .i64 (bJ l).length)⟩),(9,⟨[],.v (.int .i64 e)⟩)],[[.v (.int .i64 0),.v (.int .i64 0)]],[⟨n,9,1,none⟩]⟩
theorem pL {all:List Wd} {e:Nat} {w:Wd} (h:all[e]? = some w):enumL all e (all.drop e)=if aG all e w≠0 then (aG all e w,w.a) else enumL all (e + 1) (all.drop (e + 1)):=by
 rw [drop_cons h,enumL]
theorem DS (l:List Wd) (hs:wdsWt l<=1099511627776):aQ prog 87 [.sl 2 (bJ l) none] (Yx (enumL l 0 l) (az l)):=by
 have nu:=bG l;refine eG 36 [.tmp 2,.cell 3 45] func87 rfl ntmps87 rfl fun _ _ _ _=>?_;refine lI (fun j st=>∃ e:Nat,st=SA l e e/\e<=l.length/\(az (l.take e)).Nodup/\enumL l 0 l=enumL l e (l.drop e)/\j=l.length - e) ⟨0,rfl,by omega,by simp [az],rfl,rfl⟩ (fu ⟨0,9,1,none⟩ rfl ⟨_,rfl⟩ rfl wA rfl rfl lY) ?_;rintro j st ⟨e,rfl,he,hnd,aJ,rfl⟩;rw [aJ];refine br ?_ ?_<;>intro hL
 ·have aj:e < l.length:=by simpa [aw] using hL
  obtain ⟨w,hw⟩:=gX aj;have Sy:=iU (mG hw);have du:=j3 hw;have aR:=pL hw;have yz:=mD hw hnd;have M1:=pG (az (l.take (e + 1))) (by simp [az];omega);rw [<- du] at M1;refine ⟨ko w,⟨by omega,aT hw⟩,?_⟩;refine ⟨by simp [ch,az];omega,⟨by simp [ch,az,maxLen];omega,by simp [ch,az];omega⟩,?_⟩;refine cP Gh (iW w.s (by omega)) ?_;refine br ?_ ?_<;>intro hN
  ·have hN:bc w.s=false:=sU hN;have hf:aG l e w=9:=by simp [aG,hN]
   rw [aR,hf,if_pos (by decide)];refine dS ?_;exact ⟨_,ax,rfl⟩
  ·have hN:bc w.s=true:=sU hN;refine ki Uh rfl M1 ax (fun r hr=>?_);obtain ⟨z,rfl,hz⟩:=hr;refine br ?_ ?_<;>intro h2
   ·have h2:0<=z:=sU h2
    have hd:bO (l.take e) w.s=true:=by
     cases hd:bO (l.take e) w.s
     ·exact absurd (yz.2 hd) (hz.1 h2)
     ·rfl
    have hf:aG l e w=10:=by simp [aG,hN,hd]
    rw [aR,hf,if_pos (by decide)];refine dS ?_;exact ⟨_,ax,rfl⟩
   ·have h2:¬ 0<=z:=sU h2;have vU:(az (l.take (e + 1))).Nodup:=Classical.byContradiction fun hn=>h2 (hz.2 hn);have hf:aG l e w=0:=by simp [aG,hN,yz.1 vU]
    rw [hf,if_neg (by simp)] at aR;refine ⟨SA l (e + 1) (e + 1),(ah ⟨_,rfl⟩ wA rfl rfl rfl (wB2 (aF aj (by omega)) du)),l.length - (e + 1),by omega,e + 1,rfl,by omega,vU,aR,rfl⟩
 ·have aM:e=l.length:=by
   have:=hL;simp [aw] at this;omega
  have h0:enumL l e (l.drop e)=(0,0):=by rw [aM,List.drop_length];all_goals rfl
  rw [h0];have ht:l.take e=l:=by rw [aM,List.take_length]
  rw [ht];exact ⟨_,ax,rfl⟩
def numF (L:List ByteArray):List (Wd × Wd)->Ft
 | []=>(0,0)
 | p :: r=>if cY L p.1.s=none then (17,p.1.a) else if cY L p.2.s=none then (17,p.2.a) else numF L r
def Uz (L:List ByteArray) (p:Wd × Wd):Nat × Nat:=((cY L p.1.s).getD 0,(cY L p.2.s).getD 0)
def dD (L:List ByteArray) (o:List (Wd × Wd)):List (Nat × Nat):=o.map (Uz L)
def Yy (f:Ft) (l:List (Nat × Nat)):DV:=.tup [if f.1=0 then .sl 2 (mz l) none else .v (.slice none 0 0),f.d]
theorem zU {L:List ByteArray} {o:List (Wd × Wd)} {e a b:Nat} {x:Wd × Wd} (h:o[e]? = some x) (ha:cY L x.1.s=some a) (hb:cY L x.2.s=some b):mz (dD L (o.take e)) ++ [[DV.v (.int .i64 (a:Int)),DV.v (.int .i64 (b:Int))]]=mz (dD L (o.take (e + 1))):=by
 rw [List.take_add_one,h];simp [mz,dD,Uz,ha,hb,dNP]
abbrev SB (L:List ByteArray) (aH:List Nat) (o:List (Wd × Wd)) (n e:Nat):St:=
 ⟨[(0,⟨[],.pt (de L aH) 0⟩),(5,⟨[],.loc 0 0⟩),(6,⟨[],.sl 2 (mz (dD L (o.take e))) (some 0)⟩),(12,⟨[],.sl 4 (nh o) none⟩),(13,⟨[],.v (.int .i64 (nh o).length)⟩),(14,⟨[],.v (.int .i64 e)⟩)],[[.v (.int .i64 0),.v (.int .i64 0)]],[⟨n,225,2,none⟩]⟩
theorem y4 (L:List ByteArray) (aH:List Nat) (hT:iF L aH) (hl:aH.length<=1099511627776) (o:List (Wd × Wd)) (hs:prsWt o<=1099511627776) :
  aQ prog 89 [.pt (de L aH) 0,.sl 4 (nh o) none] (Yy (numF L o) (dD L o)):=by
 have nu:=ja o;refine eG 55 [.tmp 4,.cell 5 45] func89 rfl ntmps89 rfl fun _ _ _ _=>?_;refine lI (fun j st=>∃ e:Nat,st=SB L aH o e e/\e<=o.length/\numF L o=numF L (o.drop e)/\j=o.length - e) ⟨0,rfl,by omega,rfl,rfl⟩ (fu ⟨0,225,2,none⟩ rfl ⟨_,rfl⟩ rfl wA rfl rfl lY) ?_;rintro j st ⟨e,rfl,he,aJ,rfl⟩;rw [aJ];refine br ?_ ?_<;>intro hL
 ·have aj:e < o.length:=by simpa [gp] using hL
  obtain ⟨w,hw⟩:=gX aj;have aR:numF L (o.drop e)=if cY L w.1.s=none then (17,w.1.a) else if cY L w.2.s=none then (17,w.2.a) else numF L (o.drop (e + 1)):=by rw [drop_cons hw,numF]
  have Lk:=je L aH w.1.s hT hl;have vF:=je L aH w.2.s hT hl;refine ⟨Ll w,⟨by omega,im hw⟩,?_⟩
  cases ha:cY L w.1.s with
  | none=>
   rw [ha] at Lk;refine cP vX Lk ?_;rw [aR,if_pos ha];refine dS ?_;exact ⟨_,ax,rfl⟩
  | some a=>
   rw [ha] at Lk;refine cP vX Lk ?_
   cases hb:cY L w.2.s with
   | none=>
    rw [hb] at vF;refine cP vX vF ?_;rw [aR,if_neg (by rw [ha];simp),if_pos hb];refine dS ?_;exact ⟨_,ax,rfl⟩
   | some b=>
    rw [hb] at vF;refine cP vX vF ?_;rw [if_neg (by rw [ha];simp),if_neg (by rw [hb];simp)] at aR;refine ⟨by simp [ir,dD];omega,⟨by simp [ir,dD,maxLen];omega,by simp [ir,dD];omega⟩,?_⟩;refine ⟨SB L aH o (e + 1) (e + 1),(ah ⟨_,rfl⟩ wA rfl rfl rfl (wB2 (aF aj (by omega)) (zU hw ha hb))),o.length - (e + 1),by omega,e + 1,rfl,by omega,aR,rfl⟩
 ·have aM:e=o.length:=by
   have:=hL;simp [gp] at this;omega
  have h0:numF L (o.drop e)=(0,0):=by rw [aM,List.drop_length];all_goals rfl
  rw [h0];have ht:o.take e=o:=by rw [aM,List.take_length]
  rw [ht];exact ⟨_,ax,rfl⟩
end Go.Proofs.YtadhpeooehkklaaGreat
