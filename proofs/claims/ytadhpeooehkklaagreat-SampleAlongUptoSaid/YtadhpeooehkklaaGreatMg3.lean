/- Part 3 of the proof: names.New: the table; names.Twice: does a text stand earlier, too?; Contracts: the reference's words, Plain, Same, Zero, own; Contracts: the reference's Same, Zero, own; Contracts: the reference's Label, listed, names, Size, with, coarse; What is wrong with a type: the plain function; the reference's Wrong and parts return it; The program's checks of types: bad, listed, label, words; The program's checks of types: label, coarse; The program's comparing of names and types; The program's Same; The program's own, empty; The program's empty, enum; kinds.Right, once the checker's check is known; Numbers in tens: the reference's Put; Numbers in tens: the program's Put; The text of a type, plain; the reference's Label and comma; The reference's text of a type: Label, comma, part, Type; The reference's text of a part; The reference's text of a type; The library's strings.Join, laid at this program by the kit's tool (lay-plain; wip/tools/lay.sh); The program's text of a label, of what stands behind a part's type, of lists; The program's text of a type: field, tag, kind; unparse.Type, once the checker's check is known; A type with which nothing is wrong is fine for its text; Readable data as data of the evaluator: what the statement's form reads of an argument is a datum of the evaluator, of the argument's type, no heavier than what was read; What is read of a type, as the plain data; From a contract over data to what a law's statement asks: the arguments are read, the call returns true, all that was there stays; What all laws' frames share: the bulk, the program's closed facts; Types without places: plain, and the program's kinds.Strip; Schemas: plain, as the evaluator has them, without places; What is read of a schema, as the plain data; What the frames of laws over schemas share; The program's closed facts, each by itself (all at once they ask more memory than a Lean process has); Relations as rows of bits: plain, and rel's functions that read; rel.back: who leads to a thing and is led to by it; rel.New: the rows of a list of pairs; rel.Close: the closure, by rows; The number of bits that are set, as the library reckons it; math/bits.OnesCount64; When two bits are set; rel.Loop: the least thing in a loop; The plain law of closeR: its bits are what is led to; The program's and the reference's check of names that must differ; The table's Find, whole; lattice.many, called, numbered. No condition. -/
import Derived.Laws.StructEq
import Derived.Shelf.Strings.OnBuilder
import Derived.Deep.Slices
import Derived.ChangeArms
import Derived.DataReads
import Derived.WalkKit
import Derived.ProofKit
import Derived.OpenShut
import Derived.Carry
import Derived.JoinedCond
import Derived.Test.YtadhpeooehkklaaGreatRows
import Derived.Test.YtadhpeooehkklaaGreatMg2
set_option linter.all false
set_option maxRecDepth 100000
namespace Go.Proofs.YtadhpeooehkklaaGreat
open Go Go.RowKit Dv Go.Proofs.Tryz
theorem zT {n m:Nat} {tk:List TkE}:∀ ds:List Nat,WeL n m tk (dInts ds).flatten (dInts ds).flatten
 | []=>rfl
 | b :: r=>⟨_,_,rfl,az rfl,zT r⟩
theorem rb {n m:Nat} {tk:List TkE} {l:List DV} {ds:List Nat} (h:l=(dInts ds).flatten):WeL n m tk l (dInts ds).flatten:=by rw [h];exact zT ds
def iU (n e:Nat):List Nat:=List.range e ++ List.replicate (n - e) 0
theorem J8 {n e:Nat} (h:e<=n):(iU n e).length=n:=by simp [iU];omega
theorem fillA_0 (n:Nat):(List.replicate n [DV.v (.int .i64 0)]).flatten=(dInts (iU n 0)).flatten:=by simp [iU,dInts]
theorem Qo (n:Nat):iU n n=List.range n:=by simp [iU]
theorem oQ (ds:List Nat):(dInts ds).flatten=ds.map fun (i:Nat)=>DV.v (.int .i64 (i:Int)):=by
 induction ds with
 | nil=>rfl
 | cons x r ih=>simp only [dInts,List.map_cons,List.flatten_cons] at ih ⊢;rw [ih];all_goals rfl
theorem GD {n e:Nat} (h:e < n):(dInts (iU n e)).flatten.take e ++ [DV.v (.int .i64 (e:Int))] ++ (dInts (iU n e)).flatten.drop (e + 1)=(dInts (iU n (e + 1))).flatten:=by
 simp only [oQ,<- List.map_take,<- List.map_drop];have e1:(iU n e).take e=List.range e:=by simp [iU]
 have e2:(iU n e).drop (e + 1)=List.replicate (n - (e + 1)) 0:=by
  simp only [iU,List.drop_append,List.length_range];rw [List.drop_eq_nil_of_le (by simp),List.nil_append,List.drop_replicate];congr 1;omega
 rw [e1,e2];simp [iU,List.range_succ]
abbrev MG (L:List ByteArray) (e:Nat):St:=
 ⟨[(3,⟨[],.loc 1 0⟩),(4,⟨[],.loc 3 0⟩),(16,⟨[],.v (.int .i64 (fl L).length)⟩),(17,⟨[],.v (.int .i64 e)⟩)],
  [[.sl 1 (fl L) (some 0),.v (.slice none 0 0)],[.loc 0 0],(dInts (iU (fl L).length e)).flatten,[.ms 2 1 0 (fl L).length (fl L).length]],[⟨(fl L).length,9,1,none⟩]⟩
def gI (L:List ByteArray) (ds:List Nat) (i:Nat):Bool:=decide (i=0) || !decide (L.getD (ds.getD i 0) ay=L.getD (ds.getD (i - 1) 0) ay)
def fN (L:List ByteArray) (ds:List Nat) (e:Nat):List Nat:=((List.range e).filter (gI L ds)).map fun i=>ds.getD i 0
theorem wI (L:List ByteArray) (ds:List Nat) (e:Nat):fN L ds (e + 1)=fN L ds e ++ (if gI L ds e=true then [ds.getD e 0] else []):=by
 unfold fN;rw [List.range_succ,List.filter_append,List.map_append];congr 1;cases h:gI L ds e<;>simp [h]
theorem J9 (L:List ByteArray) (ds:List Nat) (e:Nat):(fN L ds e).length<=e:=by
 unfold fN;rw [List.length_map];exact Nat.le_trans (List.length_filter_le _ _) (by simp)
abbrev UB (L:List ByteArray) (ds:List Nat):St:=
 ⟨[(3,⟨[],.loc 1 0⟩),(4,⟨[],.pt [.sl 1 (dInts ds) none] 0⟩),(29,⟨[],.sl 1 (dInts ds) none⟩),(30,⟨[],.v (.int .i64 (fl L).length)⟩),(31,⟨[],.v (.int .i64 0)⟩)],
  [[.sl 1 (fl L) (some 0),.v (.slice none 0 0)],[.loc 0 0]],[⟨(fl L).length,9,1,none⟩]⟩
abbrev DQ (L:List ByteArray) (ds aM:List Nat) (m e:Nat):St:=
 ⟨[(3,⟨[],.loc 1 0⟩),(4,⟨[],.pt [.sl 1 (dInts ds) none] 0⟩),(29,⟨[],.sl 1 (dInts ds) none⟩),(30,⟨[],.v (.int .i64 (fl L).length)⟩),(31,⟨[],.v (.int .i64 e)⟩)],
  [[.sl 1 (fl L) (some 0),.sl 1 (dInts aM) (some 1)],[.loc 0 0]],[⟨(fl L).length,9,1,none⟩,⟨m,3,1,none⟩]⟩
theorem getD_some {α:Type} {l:List α} {i:Nat} {x d:α} (h:l[i]? = some x):l.getD i d=x:=by simp [aF,h]
theorem sO {α:Type} {l:List α} {i:Nat} {d:α} (h:i < l.length):l[i]? = some (l.getD i d):=by
 rw [gE h,aF,gE h];all_goals rfl
theorem UC {L:List ByteArray} {ds:List Nat} (pA:ds.Perm (List.range L.length)) (J6:∀ i j p q:Nat,i < j->ds[i]? = some p->ds[j]? = some q->C7 L q p=false):iT L (fN L ds L.length):=by
 have hlen:ds.length=L.length:=by rw [pA.length_eq,List.length_range]
 let D:Nat->Nat:=fun i=>ds.getD i 0
 let T:Nat->ByteArray:=fun i=>L.getD (D i) ay
 have hD:∀ i,i < L.length->ds[i]? = some (D i):=fun i hi=>sO (by omega)
 have hDn:∀ i,i < L.length->D i < L.length:=fun i hi=>by
  have:=pA.mem_iff.1 (mG (hD i hi));exact List.mem_range.1 this
 have hT:∀ i,i < L.length->L[D i]? = some (T i):=fun i hi=>sO (hDn i hi)
 have dG:∀ i j,i < j->j < L.length->T i=T j∨zd (T i) (T j)=true:=by
  intro i j jB hj;have h:=J6 i j (D i) (D j) jB (hD i (by omega)) (hD j hj);unfold C7 at h;by_cases he:T j=T i
  ·exact .inl he.symm
  ·rw [ah he] at h;rcases IF h with h | h
   ·exact absurd h he
   ·exact .inr h
 have SK:∀ i,i < L.length->gI L ds i=true->∀ j,j < i->zd (T j) (T i)=true:=by
  intro i hi hh j Ge
  have bp:T i≠T (i - 1):=by
   intro he;unfold gI at hh;have:decide (i=0)=false:=by simp;omega
   rw [this] at hh;simp only [Bool.false_or,Bool.not_eq_true',decide_eq_false_iff_not] at hh;exact hh he
  have h1:zd (T (i - 1)) (T i)=true:=by
   rcases dG (i - 1) i (by omega) hi with h | h
   ·exact absurd h.symm bp
   ·exact h
  by_cases hj:j=i - 1
  ·rw [hj];exact h1
  ·rcases dG j (i - 1) (by omega) (by omega) with h | h
   ·rw [h];exact h1
   ·exact gR h h1
 have zH:∀ j,j < L.length->∃ k,k < L.length/\D k=j:=by
  intro j hj;have:=pA.mem_iff.2 (List.mem_range.2 hj);obtain ⟨k,hk⟩:=List.getElem?_of_mem this;have eC:=(gS hk).1;exact ⟨k,by omega,getD_some hk⟩
 let H:=(List.range L.length).filter (gI L ds)
 have hH:∀ (a i:Nat),H[a]? = some i->i < L.length/\gI L ds i=true:=fun a i h=>by
  have:=mG h;simp only [H,List.mem_filter,List.mem_range] at this;exact this
 have Ka:∀ (a p:Nat),(fN L ds L.length)[a]? = some p->∃ i,H[a]? = some i/\D i=p:=by
  intro a p h;unfold fN at h;rw [List.getElem?_map] at h
  cases hh:H[a]? with
  | none=>rw [show (List.filter (gI L ds) (List.range L.length))[a]? = none from hh] at h;cases h
  | some i=>
   rw [show (List.filter (gI L ds) (List.range L.length))[a]? = some i from hh] at h;simp only [Option.map_some,oI] at h;exact ⟨i,rfl,h⟩
 have hinc:∀ (a b i k:Nat),a < b->H[a]? = some i->H[b]? = some k->i < k:=by
  intro a b i k zb hi hk;have hp:List.Pairwise (·< ·) H:=List.Pairwise.filter _ List.pairwise_lt_range;obtain ⟨ha,rfl⟩:=List.getElem?_eq_some_iff.1 hi;obtain ⟨hb,rfl⟩:=List.getElem?_eq_some_iff.1 hk;exact List.pairwise_iff_getElem.1 hp a b ha hb zb
 refine ⟨?_,?_,?_,?_⟩
 ·intro a p h;obtain ⟨i,hi,rfl⟩:=Ka a p h;exact hDn i (hH a i hi).1
 ·intro a b p q s t zb hp hq hs ht;obtain ⟨i,hi,rfl⟩:=Ka a p hp;obtain ⟨k,hk,rfl⟩:=Ka b q hq;rw [hT i (hH a i hi).1] at hs;rw [hT k (hH b k hk).1] at ht;simp only [oI] at hs ht;rw [<- hs,<- ht];exact SK k (hH b k hk).1 (hH b k hk).2 i (hinc a b i k zb hi hk)
 ·intro a p j s hp hs hj;obtain ⟨i,hi,rfl⟩:=Ka a p hp;obtain ⟨uT,qW⟩:=hH a i hi;obtain ⟨k,hk,rfl⟩:=zH j (gS hj).1;rw [hT i uT] at hs;rw [hT k hk] at hj;simp only [oI] at hs hj;rcases Nat.lt_trichotomy k i with h | h | h
  ·have:=SK i uT qW k h;rw [hs,hj,zd,lC] at this;cases this
  ·rw [h];exact aR _
  ·have h2:=J6 i k (D i) (D k) h (hD i uT) (hD k hk);unfold C7 at h2
   have he:L.getD (D k) ay=L.getD (D i) ay:=by
    show T k=T i;rw [hj,hs]
   rw [ai he] at h2;simp at h2;omega
 ·intro j s hj;obtain ⟨k,hk,rfl⟩:=zH j (gS hj).1;rw [hT k hk] at hj;simp only [oI] at hj;obtain ⟨i,⟨uT,YA⟩,hmin⟩:=least (p:=fun i=>i < L.length/\T i=s) ⟨k,hk,hj⟩
  have qW:gI L ds i=true:=by
   unfold gI;by_cases h0:i=0
   ·simp [h0]
   ·have bp:¬ T i=T (i - 1):=fun he=>by
     have:=hmin (i - 1) ⟨by omega,by rw [<- he];exact YA⟩;omega
    have e1:decide (L.getD (ds.getD i 0) ay=L.getD (ds.getD (i - 1) 0) ay)=false:=decide_eq_false bp;rw [e1];simp
  have hm:i∈H:=by simp only [H,List.mem_filter,List.mem_range];exact ⟨uT,qW⟩
  obtain ⟨a,ha⟩:=List.getElem?_of_mem hm;refine ⟨a,D i,?_,by rw [hT i uT,YA]⟩;unfold fN;rw [List.getElem?_map];rw [show (List.filter (gI L ds) (List.range L.length))[a]? = some i from ha];rfl
theorem wJ (L:List ByteArray) (hl:L.length<=1099511627776) :
  Ev prog 88 [.sl 1 (fl L) none] [] [] (fun r _ _=>∃ aM,iT L aM/\aM.length<=L.length/\r = .pt (dz L aM) 0):=by
 have hN:=ct L;refine eG 71 [.tmp 2] func88 rfl ntmps88 rfl fun _ _ _ _=>?_;refine ⟨⟨by simp [hN,maxLen];omega,by simp [hN];omega⟩,?_⟩;refine ⟨⟨rfl,by omega,by omega,by omega⟩,?_⟩;refine lJ (fun e=>MG L e) L.length (au 4 rfl (by repeat' (first | exact rfl | exact az rfl | exact rb (fillA_0 _) | refine ⟨_,_,rfl,?_,?_⟩)) rfl rfl rfl (by repeat' (first | exact trivial | exact az rfl | exact rb (fillA_0 _) | refine ⟨⟨_,rfl,?_⟩,?_⟩))) ?_;intro e he;refine br ?_ ?_<;>intro h
 ·have ap:e < (fl L).length:=sU h;refine ⟨⟨by omega,by omega⟩,?_⟩;have e1:(dInts (iU (fl L).length e)).flatten.length=(fl L).length:=by rw [oQ,List.length_map,J8 (by omega)]
  refine ⟨by rw [e1];omega,?_⟩
  have dr:(dInts (iU (fl L).length e)).flatten.set (0 + (e:Int).toNat * 1) (DV.v (.int .i64 (e:Int)))=(dInts (iU (fl L).length (e + 1))).flatten:=by
   rw [show 0 + (e:Int).toNat * 1=e by omega,List.set_eq_take_append_cons_drop,ai (by rw [e1];omega),<- GD ap];simp
  refine ⟨MG L (e + 1),(au 4 rfl (by repeat' (first | exact rfl | exact az rfl | exact rb dr | exact aD (aJ ap (by omega)) | refine ⟨_,_,rfl,?_,?_⟩)) rfl rfl rfl (by repeat' (first | exact trivial | exact az rfl | exact rb dr | exact aD (aJ ap (by omega)) | refine ⟨⟨_,rfl,?_⟩,?_⟩))),L.length - (e + 1),by omega,e + 1,rfl,by omega,rfl⟩
 ·have aQ:e=(fl L).length:=by
   have:¬ e < (fl L).length:=sU h;omega
  subst aQ;rw [Qo]
  have hms:∀ dk:List Nat,dk.length=(List.range (fl L).length).length->∀ bx:List (List DV),bx[2]? = some (dInts dk).flatten->∀ N0 n0 m0:Nat,N0<=2->Cc bx N0 n0 m0 (.sl 1 (dInts dk) none) (.ms 2 1 0 (fl L).length (fl L).length):=by
   intro dk hdk bx hb N0 n0 m0 hN0;simp only [Cc];refine Or.inr (Or.inr (Or.inl ⟨2,0,(fl L).length,_,?_,hN0,hb,?_,?_,?_⟩))
   ·rw [bg,hdk,List.length_range]
   ·rw [List.drop_zero,List.take_of_length_le];rw [oQ,List.length_map,bg];omega
   ·intro x hx;simp only [dInts,List.mem_map] at hx;obtain ⟨_,_,rfl⟩:=hx;rfl
   ·intro x hx;rw [oQ] at hx;obtain ⟨_,_,rfl⟩:=List.mem_map.1 hx;exact ⟨_,rfl⟩
  refine J5 (ds:=List.range (fl L).length) rfl (by simp) (fl L).length (fun p hp=>List.mem_range.1 hp) (C7 L) (Ql L) rfl (by simp [hN];omega)
   (fun dk=>[.pt [.sl 1 (dInts dk) none] 0,.pt [.pt [.sl 1 (fl L) none,.v (.slice none 0 0)] 0] 0])
   (fun dk hdk=>⟨_,_,rfl,Or.inr ⟨3,_,rfl,Nat.zero_le _,rfl,⟨_,_,rfl,hms dk hdk _ rfl 0 0 0 (Nat.zero_le _),rfl⟩⟩,ax⟩)
   (fun dk hdk hp i j p q hi hj=>J3 L dk i j p q hi hj (by have:=hp p (mG hi);omega) (by have:=hp q (mG hj);omega)) rfl (fun ds pA J6=>?_)
  have bH:ds.length=(fl L).length:=by rw [pA.length_eq,List.length_range]
  have YB:=hms ds (by rw [bH,List.length_range])
  refine Me 2 (UB L ds) rfl rfl rfl ⟨_,_,rfl,⟨_,_,rfl,⟨nL rfl,rfl⟩,_,_,rfl,rfl,rfl⟩,_,_,rfl,⟨_,_,rfl,⟨nL rfl,rfl⟩,rfl⟩,rfl⟩
   ⟨⟨_,rfl,⟨nL rfl,rfl⟩⟩,⟨_,rfl,Or.inr ⟨3,_,rfl,by decide,rfl,⟨_,_,rfl,YB _ rfl 2 0 0 (by decide),rfl⟩⟩⟩,⟨_,rfl,YB _ rfl 2 2 1 (by decide)⟩,⟨_,rfl,rfl⟩,⟨_,rfl,rfl⟩,trivial⟩ ?_
  refine bz (fun j st=>∃ e m:Nat,st=DQ L ds (fN L ds e) m e/\m=(fN L ds e).length/\e<=(fl L).length/\j=(fl L).length - e) (fl L).length (DQ L ds [] 0 0)
   (dc 2 ⟨0,3,1,none⟩ rfl rfl rfl pS rfl rfl wB) ⟨0,0,rfl,rfl,by omega,by omega⟩ ?_
  rintro j st ⟨e,m,rfl,hm,he,rfl⟩;have jQ:=J9 L ds e;refine br ?_ ?_<;>intro h
  ·have ap:e < (fl L).length:=sU h;obtain ⟨p,hp⟩:∃ p,ds[e]? = some p:=⟨_,gE (by omega)⟩
   have hpL:p < L.length:=by
    have:=pA.mem_iff.1 (mG hp);rw [List.mem_range] at this;omega
   obtain ⟨s,hs⟩:∃ s,L[p]? = some s:=⟨_,gE hpL⟩;refine iX (aG hp) ?_;have hgp:ds.getD e 0=p:=by simp [aF,hp]
   have C0:L.getD p ay=s:=by simp [aF,hs]
   have bY:gI L ds e=true->fN L ds (e + 1)=fN L ds e ++ [p]:=fun hh=>by rw [wI,ai hh,hgp]
   have hold:gI L ds e=false->fN L ds (e + 1)=fN L ds e:=fun hh=>by rw [wI,ah (by rw [hh];decide),List.append_nil]
   have IH:gI L ds e=true->dInts (fN L ds e) ++ [[DV.v (.int .i64 (p:Int))]]=dInts (fN L ds (e + 1)):=fun hh=>by rw [bY hh];simp [dInts]
   by_cases h0:e=0
   ·subst h0;have hh:gI L ds 0=true:=by simp [gI]
    refine dI ?_;refine dS ?_;refine ⟨by rw [bg,hm],⟨by simp [bg,maxLen];omega,by simp [bg];omega⟩,?_⟩;refine ⟨DQ L ds (fN L ds 1) (m + 1) 1,(au 2 rfl (by repeat' (first | exact rfl | exact az rfl | exact aD (aJ ap (by omega)) | exact cO (IH hh) rfl | refine ⟨_,_,rfl,?_,?_⟩)) rfl rfl rfl (by repeat' (first | exact trivial | exact az rfl | exact aD (aJ ap (by omega)) | exact cO (IH hh) rfl | refine ⟨⟨_,rfl,?_⟩,?_⟩))),(fl L).length - 1,by omega,1,m + 1,rfl,by rw [bY hh,List.length_append,hm];rfl,by omega,rfl⟩
   ·obtain ⟨p',qX⟩:∃ p',ds[e - 1]? = some p':=⟨_,gE (by omega)⟩
    have hpL':p' < L.length:=by
     have:=pA.mem_iff.1 (mG qX);rw [List.mem_range] at this;omega
    obtain ⟨s',ue⟩:∃ s',L[p']? = some s':=⟨_,gE hpL'⟩;have hgp':ds.getD (e - 1) 0=p':=by simp [aF,qX]
    have hgs':L.getD p' ay=s':=by simp [aF,ue]
    have hhd:gI L ds e = !decide (s=s'):=by
     unfold gI;rw [hgp,hgp',C0,hgs'];simp [h0]
    have hz:IntKind.i64.wrap ((e:Int) - 1)=((e - 1:Nat):Int):=by rw [wrap64 (by omega) (by omega)];omega
    refine dI ?_;refine br (fun _=>?_) (fun h=>?_)
    ·refine iX (iD hs) ?_;refine ⟨[.v (.int .i64 (p':Int))],⟨by rw [hz];omega,by rw [hz];exact aG qX⟩,?_⟩;refine iX (iD ue) ?_;refine br ?_ ?_<;>intro h2
     ·have hh:gI L ds e=true:=by
       rw [hhd];simp [aw,h0] at h2;simpa using h2
      refine dS ?_;refine ⟨by rw [bg,hm],⟨by simp [bg,maxLen];omega,by simp [bg];omega⟩,?_⟩;refine ⟨DQ L ds (fN L ds (e + 1)) (m + 1) (e + 1),(au 2 rfl (by repeat' (first | exact rfl | exact az rfl | exact aD (aJ ap (by omega)) | exact cO (IH hh) rfl | refine ⟨_,_,rfl,?_,?_⟩)) rfl rfl rfl (by repeat' (first | exact trivial | exact az rfl | exact aD (aJ ap (by omega)) | exact cO (IH hh) rfl | refine ⟨⟨_,rfl,?_⟩,?_⟩))),(fl L).length - (e + 1),by omega,e + 1,m + 1,rfl,by rw [bY hh,List.length_append,hm];rfl,by omega,rfl⟩
     ·have hh:gI L ds e=false:=by
       rw [hhd];simp [aw,h0] at h2;simpa using h2
      have aN:dInts (fN L ds e)=dInts (fN L ds (e + 1)):=by rw [hold hh]
      refine ⟨DQ L ds (fN L ds (e + 1)) m (e + 1),(au 2 rfl (gF (aJ ap (by omega)) aN) rfl rfl rfl (wB2 (aJ ap (by omega)) aN)),(fl L).length - (e + 1),by omega,e + 1,m,rfl,by rw [hold hh,hm],by omega,rfl⟩
    ·exfalso;have:decide ((e:Int)=0)=true:=sU h;simp at this;exact h0 this
  ·have aQ:e=L.length:=by
    have:¬ e < (fl L).length:=sU h;omega
   subst aQ;exact ⟨.pt (dz L (fN L ds L.length)) 0,Or.inr ⟨0,_,rfl,Nat.zero_le _,rfl,ax⟩,_,UC (by rw [<- hN];exact pA) J6,jQ,rfl⟩
abbrev YC (L:List ByteArray) (aM:List Nat) (e:Nat):St:=
 ⟨[(3,⟨[],.pt (dz L aM) 0⟩),(10,⟨[],.sl 1 (fl L) none⟩),(11,⟨[],.v (.int .i64 (fl L).length)⟩),(12,⟨[],.v (.int .i64 e)⟩)],[],[]⟩
theorem MH {α:Type}:∀ {l:List α},(∀ (i j:Nat) (x:α),j < i->l[i]? = some x->l[j]? ≠ some x)->l.Nodup
 | l,h=>by
  rw [List.nodup_iff_pairwise_ne,List.pairwise_iff_getElem];intro i j hi hj jB he;exact h j i l[j] jB (gE hj) (by rw [gE hi,he])
theorem pU (L:List ByteArray) (hl:L.length<=1099511627776) :
  Ev prog 95 [.sl 1 (fl L) none] [] [] (fun r _ _=>∃ z:Int,r = .v (.int .i64 z)/\(0<=z↔¬ L.Nodup)):=by
 have hN:=ct L;refine eG 28 [.tmp 2] func95 rfl ntmps95 rfl fun _ _ _ _=>?_;refine kD Uu rfl (wJ L hl) ax (fun r hr=>?_);obtain ⟨aM,hT,jQ,rfl⟩:=hr;refine lI (fun j st=>∃ e:Nat,st=YC L aM e/\e<=L.length/\(∀ (i j:Nat) (x:ByteArray),i < e->j < i->L[i]? = some x->L[j]? ≠ some x)/\j=L.length - e) ⟨0,rfl,by omega,fun i j x hi=>by omega,rfl⟩ (aj ⟨_,rfl⟩ wA rfl rfl rfl wB) ?_;rintro j st ⟨e,rfl,he,hinv,rfl⟩;refine br ?_ ?_<;>intro h
 ·have ap:e < L.length:=sV hN h;obtain ⟨s,hs⟩:=gX ap;obtain ⟨q,p,hq,hp⟩:=hT.all e s hs;have dO:=hT.fst q p e s hq hp hs;refine iX (iD hs) ?_;refine cP wu (find_spec L aM s q p hT (by omega) hq hp) ?_;refine br ?_ ?_<;>intro h2
  ·have h2:p < e:=sU h2;refine ⟨(e:Int),rfl,⟨fun _ hnd=>?_,fun _=>by omega⟩⟩;rw [List.nodup_iff_pairwise_ne,List.pairwise_iff_getElem] at hnd;obtain ⟨h3,h4⟩:=List.getElem?_eq_some_iff.1 hp;obtain ⟨h5,h6⟩:=List.getElem?_eq_some_iff.1 hs;exact hnd p e h3 h5 h2 (by rw [h4,h6])
  ·have h2:¬ p < e:=sU h2;refine ⟨YC L aM (e + 1),(aj ⟨_,rfl⟩ wA rfl rfl rfl (dt (aJ ap (by omega)))),L.length - (e + 1),by omega,e + 1,rfl,by omega,fun i j x hi hj hx hjx=>?_,rfl⟩;by_cases yN:i=e
   ·subst yN;rw [hs] at hx;simp only [oI] at hx;subst hx;have:=hT.fst q p j s hq hp hjx;omega
   ·exact hinv i j x (by omega) hj hx hjx
 ·have aQ:e=L.length:=by
   have:¬ e < L.length:=sV hN h;omega
  subst aQ;refine ⟨-1,rfl,⟨fun h3=>by omega,fun h3=>?_⟩⟩;exact absurd (MH fun i j x jB hi hj=>hinv i j x (gS hi).1 jB hi hj) h3
def sameWds:List Wd->List Wd->Bool
 | [],[]=>true
 | x :: r,y :: s=>decide (x.s=y.s) && sameWds r s
 | _,_=>false
theorem uf:∀ {a b:List Wd},a.length≠b.length->sameWds a b=false
 | [],[],h=>(h rfl).elim
 | x :: r,y :: s,h=>by
  have:r.length≠s.length:=sU h;simp [sameWds,uf this]
 | [],y :: s,_=>rfl
 | x :: r,[],_=>rfl
abbrev BN (a b:List Wd) (e:Nat):St:=
 ⟨[(0,⟨[],.sl 2 (bO a) none⟩),(1,⟨[],.sl 2 (bO b) none⟩),(5,⟨[],.v (.int .i64 e)⟩)],[],[]⟩
theorem mK (a b:List Wd) (hs:a.length<=4611686018427387904) :
  aV prog 206 [.sl 2 (bO a) none,.sl 2 (bO b) none] (.v (.bool (sameWds a b))):=by
 refine eG 28 [.tmp 4] func206 rfl ntmps206 rfl fun _ _ _ _=>?_;refine br ?_ ?_<;>intro h
 ·have bp:a.length≠b.length:=by have:=h;simp [aA] at this;omega
  exact congrArg (fun b=>DV.v (.bool b)) (uf bp).symm
 ·have hl:a.length=b.length:=by have:=h;simp [aA] at this;omega
  refine bz (fun j st=>∃ e:Nat,st=BN a b e/\e<=a.length/\sameWds a b=sameWds (a.drop e) (b.drop e)/\j=a.length - e) a.length
   (BN a b 0) (aj ⟨_,rfl⟩ wA rfl rfl rfl wB) ⟨0,rfl,by omega,rfl,by omega⟩ ?_
  rintro j st ⟨e,rfl,he,aN,rfl⟩;refine br ?_ ?_<;>intro h
  ·have ap:e < a.length:=by simpa [aA] using h
   obtain ⟨x,hx⟩:=gX ap;obtain ⟨y,hy⟩:∃ y,b[e]? = some y:=⟨_,gE (hl ▸ ap)⟩;rw [drop_cons hx,drop_cons hy] at aN;refine dI ?_;refine ⟨kH x,⟨by omega,aY hx⟩,kH y,⟨by omega,aY hy⟩,?_⟩;refine br ?_ ?_<;>intro h
   ·have bp:x.s≠y.s:=sU h;refine (congrArg (fun b=>DV.v (.bool b)) ?_:_=_);rw [aN];simp [sameWds,bp]
   ·have bp:x.s=y.s:=sU h;refine ⟨BN a b (e + 1),(aj ⟨_,rfl⟩ wA rfl rfl rfl (dt (aJ ap (by omega)))),a.length - (e + 1),by omega,e + 1,rfl,by omega,?_,rfl⟩;rw [aN];simp [sameWds,bp]
  ·have aQ:e=a.length:=by have:=h;simp [aA] at this;omega
   refine (congrArg (fun b=>DV.v (.bool b)) ?_:_=_);rw [aN,aQ,hl];simp [sameWds];rw [<- hl];simp [sameWds]
def b9 (p q:Ph):Bool:=(p.bare == q.bare) && decide (p.wide=q.wide) && sameWds p.label q.label && decide (p.ck=q.ck) && decide (p.cn=q.cn) && sameWds p.cl q.cl
theorem mL (p q:Ph) (tl tl':List DV) (hs:p.wt<=4611686018427387904) (ht:CcL [] 0 0 0 tl tl) (pq:CcL [] 0 0 0 tl' tl') :
  aV prog 177 [.agg (Gx p tl),.agg (Gx q tl')] (.v (.bool (b9 p q))):=by
 refine eG 51 [.tmp 4] func177 rfl ntmps177 rfl fun _ _ _ _=>?_;have h1:=bL p.label;have h2:=bL p.cl;simp only [Ph.wt] at hs;refine br ?_ ?_<;>intro h
 ·refine cP Mv (mK p.label q.label (by omega)) ?_;refine br ?_ ?_<;>intro h2
  ·refine cP Mv (mK p.cl q.cl (by omega)) ?_;refine (congrArg (fun b=>DV.v (.bool b)) ?_:_=_);simp [av] at h h2;simp [b9,av,h,h2]
  ·refine (congrArg (fun b=>DV.v (.bool b)) ?_:_=_);simp [av] at h h2;simp [b9,av,h]
   grind
 ·refine (congrArg (fun b=>DV.v (.bool b)) ?_:_=_);simp [av] at h;simp [b9]
  grind
def lD (h k:Hd):Bool:=decide (h.ag=k.ag) && decide (h.lo=k.lo) && decide (h.hi=k.hi) && decide (h.most=k.most) && decide (h.name.s=k.name.s) && sameWds h.af k.af
mutual
def sameTy:Ty->Ty->Bool
 | .mk h ps,.mk k qs=>lD h k && samePts ps qs
def samePts:Pts->Pts->Bool
 | .nil,.nil=>true
 | .cons p t r,.cons q u s=>decide (p.name.s=q.name.s) && b9 p q && sameTy t u && samePts r s
 | _,_=>false
end
theorem ug:∀ {a b:Pts},a.len≠b.len->samePts a b=false
 | .nil,.nil,h=>(h rfl).elim
 | .cons p t r,.cons q u s,h=>by
  have:r.len≠s.len:=by simpa [Pts.len] using h
  simp [samePts,ug this]
 | .nil,.cons _ _ _,_=>by simp [samePts]
 | .cons _ _ _,.nil,_=>by simp [samePts]
def jV (h:Hd):Hd:=
 ⟨h.ag,0,if h.ag=2 then h.lo else 0,if h.ag=2 then h.hi else 0,if h.ag=3∨h.ag=5 then h.most else 0,if h.ag=4 then h.af else [],if h.ag=9 then h.name else ⟨ay,0⟩⟩
def mask:Ty->Ty
 | .mk h ps=>.mk (jV h) (if 4 < h.ag/\h.ag < 9 then ps else .nil)
theorem zU (bx:List (List DV)) (N n m:Nat) (t:Ty):CcL bx N n m (eE t) (eE t):=by
 obtain ⟨h,ps⟩:=t;simp only [eE,CcL,Cc]
 repeat' (first | exact rfl | exact trivial | exact Or.inr (Or.inl ⟨_,rfl⟩) | refine ⟨_,_,rfl,?_,?_⟩)
abbrev GF (a b:Ty) (e:Nat):St:=
 ⟨[(2,⟨[],.loc 0 0⟩),(3,⟨[],.loc 1 0⟩),(5,⟨[],.v (.int .i64 e)⟩)],[eE a,eE b],[]⟩
theorem nZ:∀ (n:Nat) (a b:Ty),a.wt<=n->a.wt<=4611686018427387904 ->
  aV prog 205 [.agg (eE a),.agg (eE b)] (.v (.bool (sameTy a b)))
 | 0,a,b,hn,_=>by have:=a.eJ;omega
 | n + 1,.mk h ps,.mk k qs,hn,cL=>by
  simp only [Ty.wt,Hd.wt] at hn cL;have hl:=bL h.af;have nv:=ps.gz;refine eG 98 [.tmp 4] func205 rfl ntmps205 rfl fun _ _ _ _=>?_;refine br ?_ ?_<;>intro hA
  ·simp [aw] at hA;obtain ⟨⟨⟨⟨e1,e2⟩,e3⟩,e4⟩,e5⟩:=hA;refine cP Mv (mK h.af k.af (by omega)) ?_;refine br ?_ ?_<;>intro hB
   ·refine (congrArg (fun b=>DV.v (.bool b)) ?_:_=_);simp [aw,e1,e2,e3,e4,e5,aO] at hB;simp only [sameTy,lD];rcases hB with hB | hB
    ·simp [hB]
    ·have:ps.len≠qs.len:=by omega
     simp [ug this]
   ·simp [aw,e1,e2,e3,e4,e5,aO] at hB;obtain ⟨e6,e7⟩:=hB;have e8:ps.len=qs.len:=by omega
    have eh:sameTy (.mk h ps) (.mk k qs)=samePts ps qs:=by simp [sameTy,lD,e1,e2,e3,e4,e5,e6]
    refine bz (fun j st=>∃ e:Nat,st=GF (.mk h ps) (.mk k qs) e/\e<=ps.len/\samePts ps qs=samePts (ps.drop e) (qs.drop e)/\j=ps.len - e) ps.len
     (GF (.mk h ps) (.mk k qs) 0) (aj ⟨_,rfl⟩ wA rfl rfl rfl wB) ⟨0,rfl,by omega,rfl,by omega⟩ ?_
    rintro j st ⟨e,rfl,he,aN,rfl⟩;refine br ?_ ?_<;>intro hL
    ·have ap:e < ps.len:=by simpa [aO] using hL
     obtain ⟨p,t,hx⟩:=Pts.fc ap;obtain ⟨q,u,hy⟩:=Pts.fc (e8 ▸ ap);rw [Pts.drop_cons hx,Pts.drop_cons hy] at aN;have yO:=Pts.gV (mG hx);obtain ⟨t,ts⟩:=t;obtain ⟨u,us⟩:=u;apply oN (fun _=>false) 10 11 [0,1,2,3,4,5,6,7,8,9,10,11,12,13] [0,1,2,3,4,5,6,7,8,9,11,10,12,13] 2 3 mo (by decide +kernel)
     ·refine ⟨_,⟨by omega,cp hx⟩,_,⟨by omega,cp hy⟩,?_⟩;refine (?_:@Eq St _ _);exact rfl
     ·refine ⟨_,⟨by omega,cp hx⟩,_,⟨by omega,cp hy⟩,?_⟩;refine (⟨rfl,rfl,?_⟩:_/\_/\_)
      repeat' (first | exact trivial | refine ⟨rfl,?_⟩)
     ·rfl
     refine br ?_ ?_<;>intro hC
     ·have hC:p.name.s=q.name.s:=sU hC;refine cP Mt (mL p q (eE (.mk t ts)) (eE (.mk u us)) (by omega) (zU _ _ _ _ _) (zU _ _ _ _ _)) ?_;refine br ?_ ?_<;>intro hD
      ·have hD:b9 p q=true:=by simpa [aw,hC] using hD
       refine cP nY (nZ n (.mk t ts) (.mk u us) (by omega) (by omega)) ?_;refine br ?_ ?_<;>intro hE
       ·refine (congrArg (fun b=>DV.v (.bool b)) ?_:_=_);rw [eh,aN];simp [aw,hC,hD] at hE;simp [samePts,hE]
       ·simp [aw,hC,hD] at hE;refine ⟨GF (.mk h ps) (.mk k qs) (e + 1),(aj ⟨_,rfl⟩ wA rfl rfl rfl (dt (aJ ap (by omega)))),ps.len - (e + 1),by omega,e + 1,rfl,by omega,?_,rfl⟩;rw [aN];simp [samePts,hC,hD,hE]
      ·have hD:b9 p q=false:=by simpa [aw,hC] using hD
       refine (congrArg (fun b=>DV.v (.bool b)) ?_:_=_);rw [eh,aN];simp [samePts,hD]
     ·have hC:p.name.s≠q.name.s:=sU hC;refine (congrArg (fun b=>DV.v (.bool b)) ?_:_=_);rw [eh,aN];simp [samePts,hC]
    ·have aQ:e=ps.len:=by have:=hL;simp [aO] at this;omega
     refine (congrArg (fun b=>DV.v (.bool b)) ?_:_=_);rw [eh,aN,aQ,Pts.dH,e8,Pts.dH];simp [samePts]
  ·refine (congrArg (fun b=>DV.v (.bool b)) ?_:_=_);simp [aw] at hA;simp only [sameTy,lD]
   grind
theorem DR (t:Ty) (cL:t.wt<=4611686018427387904) :
  aV prog 208 [.agg (eE t)] (.v (.bool (sameTy t cx))):=by
 obtain ⟨h,ps⟩:=t;refine eG 6 [.tmp 2] func208 rfl ntmps208 rfl fun _ _ _ _=>?_;refine cP nY (nZ _ (.mk h ps) cx (aR _) cL) ?_;exact (rfl:_=_)
theorem GG (t:Ty) (cL:t.wt<=4611686018427387904) :
  aV prog 175 [.agg (eE t)] (.v (.bool (sameTy t (mask t)))):=by
 obtain ⟨h,ps⟩:=t
 have key:∀ (h':Hd) (ps':Pts),jV h=h' -> (if 4 < h.ag/\h.ag < 9 then ps else .nil)=ps' ->
   aV prog 205 [.agg (eE (.mk h ps)),.agg (eE (.mk h' ps'))] (.v (.bool (sameTy (.mk h ps) (mask (.mk h ps))))):=by
  rintro h' ps' rfl rfl;exact nZ _ (.mk h ps) _ (aR _) cL
 obtain ⟨ag,aX,lo,hi,most,af,name⟩:=h;by_cases hr:2<=ag/\ag<=9
 ·obtain hk | hk | hk | hk | hk | hk | hk | hk:ag=2∨ag=3∨ag=4∨ag=5∨ag=6∨ag=7∨ag=8∨ag=9:=by omega
  ·subst hk;refine eG 53 [.tmp 2] func175 rfl ntmps175 rfl fun _ _ _ _=>?_;refine cP nY (key ⟨2,0,lo,hi,0,[],⟨ay,0⟩⟩ .nil (by simp [jV]) (by simp)) ?_;exact (rfl:_=_)
  ·subst hk;refine eG 53 [.tmp 2] func175 rfl ntmps175 rfl fun _ _ _ _=>?_;refine cP nY (key ⟨3,0,0,0,most,[],⟨ay,0⟩⟩ .nil (by simp [jV]) (by simp)) ?_;exact (rfl:_=_)
  ·subst hk;refine eG 53 [.tmp 2] func175 rfl ntmps175 rfl fun _ _ _ _=>?_;refine cP nY (key ⟨4,0,0,0,0,af,⟨ay,0⟩⟩ .nil (by simp [jV]) (by simp)) ?_;exact (rfl:_=_)
  ·subst hk;refine eG 53 [.tmp 2] func175 rfl ntmps175 rfl fun _ _ _ _=>?_;refine cP nY (key ⟨5,0,0,0,most,[],⟨ay,0⟩⟩ ps (by simp [jV]) (by simp)) ?_;exact (rfl:_=_)
  ·subst hk;refine eG 53 [.tmp 2] func175 rfl ntmps175 rfl fun _ _ _ _=>?_;refine cP nY (key ⟨6,0,0,0,0,[],⟨ay,0⟩⟩ ps (by simp [jV]) (by simp)) ?_;exact (rfl:_=_)
  ·subst hk;refine eG 53 [.tmp 2] func175 rfl ntmps175 rfl fun _ _ _ _=>?_;refine cP nY (key ⟨7,0,0,0,0,[],⟨ay,0⟩⟩ ps (by simp [jV]) (by simp)) ?_;exact (rfl:_=_)
  ·subst hk;refine eG 53 [.tmp 2] func175 rfl ntmps175 rfl fun _ _ _ _=>?_;refine cP nY (key ⟨8,0,0,0,0,[],⟨ay,0⟩⟩ ps (by simp [jV]) (by simp)) ?_;exact (rfl:_=_)
  ·subst hk;refine eG 53 [.tmp 2] func175 rfl ntmps175 rfl fun _ _ _ _=>?_;refine cP nY (key ⟨9,0,0,0,0,[],name⟩ .nil (by simp [jV]) (by simp)) ?_;exact (rfl:_=_)
 ·refine eG 53 [.tmp 2] func175 rfl ntmps175 rfl fun _ _ _ _=>?_;refine br (fun c=>?_) (fun c1=>?_)
  ·have:ag=2:=of_decide_eq_true c;omega
  refine br (fun c=>?_) (fun c2=>?_)
  ·simp [aw] at c;omega
  refine br (fun c=>?_) (fun c3=>?_)
  ·have:ag=4:=of_decide_eq_true c;omega
  refine br (fun c=>?_) (fun c4=>?_)
  ·simp [av] at c;omega
  refine br (fun c=>?_) (fun c5=>?_)
  ·have:ag=9:=of_decide_eq_true c;omega
  have e1:¬ ag=2:=of_decide_eq_false c1;have e3:¬ ag=4:=of_decide_eq_false c3;have e5:¬ ag=9:=of_decide_eq_false c5;simp [aw,av] at c2 c4;refine cP nY (key ⟨ag,0,0,0,0,[],⟨ay,0⟩⟩ .nil (by simp [jV,e1,c2,e3,e5]) (by simp;omega)) ?_;exact (rfl:_=_)
abbrev Ft:Type:=Int × Int
def Ft.d (f:Ft):DV:=.agg [.v (.int .i64 f.1),.v (.int .i64 f.2)]
def badWd:List Wd->Ft
 | []=>(0,0)
 | w :: r=>if bi w.s then badWd r else (9,w.a)
def cd (l:List Wd):Ft:=
 if l.length<=32 then badWd l else (8,((l[32]?).getD (⟨ay,0⟩:Wd)).a)
abbrev BO (l:List Wd) (e:Nat):St:=
 ⟨[(0,⟨[],.sl 2 (bO l) none⟩),(2,⟨[],.loc 0 0⟩),(3,⟨[],.v (.int .i64 e)⟩)],[[.v (.int .i64 0),.v (.int .i64 0)]],[]⟩
theorem mM (l:List Wd) (hs:wdsWt l<=4611686018427387904) :
  aV prog 173 [.sl 2 (bO l) none] (cd l).d:=by
 have nK:=bL l;refine eG 32 [.cell 2 45] func173 rfl ntmps173 rfl fun _ _ _ _=>?_;refine br ?_ ?_<;>intro h
 ·have ap:32 < l.length:=by simp [aA] at h;omega
  obtain ⟨x,hx⟩:=gX ap;have:cd l=(8,x.a):=by simp [cd,Nat.not_le.2 ap,hx]
  refine ⟨kH x,⟨by omega,aY hx⟩,_,?_,rfl⟩;rw [this];exact ax
 ·have dG:l.length<=32:=by simp [aA] at h;omega
  refine bz (fun j st=>∃ e:Nat,st=BO l e/\e<=l.length/\badWd l=badWd (l.drop e)/\j=l.length - e) l.length
   (BO l 0) (aj ⟨_,rfl⟩ wA rfl rfl rfl wB) ⟨0,rfl,by omega,rfl,by omega⟩ ?_
  rintro j st ⟨e,rfl,he,aN,rfl⟩;refine br ?_ ?_<;>intro hL
  ·have ap:e < l.length:=by simpa [aA] using hL
   obtain ⟨x,hx⟩:=gX ap;rw [drop_cons hx] at aN;have qA:=jk (mG hx);refine ⟨kH x,⟨by omega,aY hx⟩,?_⟩;refine cP DI (jG x.s (by omega)) ?_;refine br ?_ ?_<;>intro hN
   ·have hN:bi x.s=false:=sU hN;have:cd l=(9,x.a):=by simp [cd,dG,aN,badWd,hN]
    refine ⟨kH x,⟨by omega,aY hx⟩,_,?_,rfl⟩;rw [this];exact ax
   ·have hN:bi x.s=true:=sU hN;refine ⟨BO l (e + 1),(aj ⟨_,rfl⟩ wA rfl rfl rfl (dt (aJ ap (by omega)))),l.length - (e + 1),by omega,e + 1,rfl,by omega,?_,rfl⟩;rw [aN];simp [badWd,hN]
  ·have aQ:e=l.length:=by simp [aA] at hL;omega
   have:cd l=(0,0):=by simp [cd,dG,aN,aQ,badWd]
   refine ⟨_,?_,rfl⟩;rw [this];exact ax
def bT (l:List Wd) (s:ByteArray):Bool:=l.any fun w=>decide (w.s=s)
def aK (l:List Wd) (i:Nat) (x:Wd):Int:=
 if bi x.s then (if bT (l.take i) x.s then 10 else 0) else 9
abbrev wK (l:List Wd) (i e:Nat):St:=
 ⟨[(0,⟨[],.sl 2 (bO l) none⟩),(1,⟨[],.v (.int .i64 i)⟩),(5,⟨[],.v (.int .i64 e)⟩)],[],[]⟩
theorem pB (l:List Wd) (i:Nat) (x:Wd) (hs:wdsWt l<=4611686018427387904) (hx:l[i]? = some x) :
  aV prog 176 [.sl 2 (bO l) none,.v (.int .i64 i)] (.v (.int .i64 (aK l i x))):=by
 have nK:=bL l;have hi:=(gS hx).1;have qA:=jk (mG hx);refine eG 29 [.tmp 4] func176 rfl ntmps176 rfl fun _ _ _ _=>?_;refine ⟨kH x,⟨by omega,aY hx⟩,?_⟩;refine cP DI (jG x.s (by omega)) ?_;refine br ?_ ?_<;>intro hN
 ·have hN:bi x.s=false:=sU hN;refine (congrArg (fun z=>DV.v (.int .i64 z)) ?_:_=_);simp [aK,hN]
 ·have hN:bi x.s=true:=sU hN
  refine bz (fun j st=>∃ e:Nat,st=wK l i e/\e<=i/\bT (l.take e) x.s=false/\j=i - e) i
   (wK l i 0) (aj ⟨_,rfl⟩ wA rfl rfl rfl wB) ⟨0,rfl,by omega,rfl,by omega⟩ ?_
  rintro j st ⟨e,rfl,he,aN,rfl⟩;refine br ?_ ?_<;>intro hL
  ·have ap:e < i:=sU hL;obtain ⟨y,hy⟩:∃ y,l[e]? = some y:=⟨_,gE (by omega)⟩;refine dI ?_;refine ⟨kH y,⟨by omega,aY hy⟩,kH x,⟨by omega,aY hx⟩,?_⟩;refine br ?_ ?_<;>intro hE
   ·have hE:y.s=x.s:=sU hE;refine (congrArg (fun z=>DV.v (.int .i64 z)) ?_:_=_)
    have:bT (l.take i) x.s=true:=by
     simp only [bT,List.any_eq_true];exact ⟨y,List.mem_take_iff_getElem.2 ⟨e,by omega,(gS hy).2⟩,by simpa using hE⟩
    simp [aK,hN,this]
   ·have hE:¬ y.s=x.s:=sU hE;refine ⟨wK l i (e + 1),(aj ⟨_,rfl⟩ wA rfl rfl rfl (dt (aJ ap (by omega)))),i - (e + 1),by omega,e + 1,rfl,by omega,?_,rfl⟩;rw [List.take_add_one,hy];simp only [bT,List.any_append] at aN ⊢;simp [aN,hE]
  ·have aQ:e=i:=by have:=of_decide_eq_false hL;omega
   refine (congrArg (fun z=>DV.v (.int .i64 z)) ?_:_=_);subst aQ;simp [aK,hN,aN]
def pNames:Pts->List Wd
 | .nil=>[]
 | .cons p _ r=>p.name :: pNames r
theorem gW:∀ ps:Pts,(pNames ps).length=ps.len
 | .nil=>rfl
 | .cons p t r=>by simp [pNames,Pts.len,gW r]
theorem gY:∀ {ps:Pts} {j:Nat} {p:Ph} {t:Ty},ps.toList[j]? = some (p,t)->(pNames ps)[j]? = some p.name
 | .nil,j,p,t,h=>by simp [Pts.toList] at h
 | .cons q u r,0,p,t,h=>by
  simp only [Pts.toList,List.getElem?_cons_zero,oI,Prod.mk.injEq] at h;obtain ⟨rfl,rfl⟩:=h;simp [pNames]
 | .cons q u r,j + 1,p,t,h=>by
  simp only [Pts.toList,List.getElem?_cons_succ] at h;simp only [pNames,List.getElem?_cons_succ];exact gY h
theorem sP:∀ ps:Pts,wdsWt (pNames ps)<=ps.wt
 | .nil=>aR _
 | .cons p t r=>by
  have:=sP r;simp only [pNames,wdsWt,Pts.wt,Ph.wt] at this ⊢;omega
abbrev BP (ps:Pts) (l:List Wd) (n e:Nat):St:=
 ⟨[(0,⟨[],.sl 18 (gA ps) none⟩),(3,⟨[],.sl 2 (bO l) (some 0)⟩),(4,⟨[],.v (.int .i64 e)⟩)],[],[⟨n,27,2,none⟩]⟩
theorem BQ (ps:Pts) (hs:ps.wt<=1099511627776):aV prog 207 [.sl 18 (gA ps) none] (.sl 2 (bO (pNames ps)) none):=by
 have nv:=ps.gz;refine eG 20 [.tmp 2] func207 rfl ntmps207 rfl fun _ _ _ _=>?_
 refine bz (fun j st=>∃ (e:Nat),st=BP ps ((pNames ps).take e) e e/\e<=ps.len/\j=ps.len - e) ps.len
  (BP ps [] 0 0) (fJ ⟨0,27,2,none⟩ rfl ⟨_,rfl⟩ rfl wA rfl rfl mi) ⟨0,by simp,by omega,by omega⟩ ?_
 rintro j st ⟨e,rfl,he,rfl⟩;refine br ?_ ?_<;>intro hL
 ·have ap:e < ps.len:=by simpa [aO] using hL
  obtain ⟨p,t,hx⟩:=Pts.fc ap;refine iX (cp hx) ?_;refine ⟨by simp [aA,gW];omega,⟨by simp [aA,gW,maxLen];omega,by simp [aA,gW];omega⟩,?_⟩;refine ⟨BP ps ((pNames ps).take (e + 1)) (e + 1) (e + 1),(aj ⟨_,rfl⟩ wA rfl rfl rfl (wB2 (aJ ap (by omega)) (zR (gY hx)))),ps.len - (e + 1),by omega,e + 1,rfl,by omega,rfl⟩
 ·have aQ:e=ps.len:=by simp [aO] at hL;omega
  rw [aQ,List.take_of_length_le (by rw [gW];omega)];exact ⟨_,ax,rfl⟩
mutual
def Ty.cnt:Ty->Nat
 | .mk _ ps=>1 + ps.cnt
def Pts.cnt:Pts->Nat
 | .nil=>0
 | .cons p t r=>(if p.bare then 0 else t.cnt) + r.cnt
end
mutual
def Ty.deep:Ty->Nat
 | .mk _ ps=>ps.deep + 1
def Pts.deep:Pts->Nat
 | .nil=>0
 | .cons p t r=>max (if p.bare then 0 else t.deep) r.deep
end
mutual
theorem Ty.ff:∀ t:Ty,t.cnt<=t.wt
 | .mk h ps=>by have:=Pts.ff ps;simp only [Ty.cnt,Ty.wt,Hd.wt];omega
theorem Pts.ff:∀ ps:Pts,ps.cnt<=ps.wt
 | .nil=>aR _
 | .cons p t r=>by
  have:=Ty.ff t;have:=Pts.ff r;simp only [Pts.cnt,Pts.wt];split<;>omega
end
mutual
theorem Ty.oR:∀ t:Ty,t.deep<=t.wt
 | .mk h ps=>by have:=Pts.oR ps;simp only [Ty.deep,Ty.wt,Hd.wt];omega
theorem Pts.oR:∀ ps:Pts,ps.deep<=ps.wt
 | .nil=>aR _
 | .cons p t r=>by
  have:=Ty.oR t;have:=Pts.oR r;simp only [Pts.deep,Pts.wt];split<;>omega
end
abbrev BR (t:Ty) (e n d:Nat):St:=
 ⟨[(1,⟨[],.loc 0 0⟩),(4,⟨[],.v (.int .i64 n)⟩),(5,⟨[],.v (.int .i64 d)⟩),(6,⟨[],.v (.int .i64 e)⟩)],[eE t],[]⟩
theorem ll:∀ (k:Nat) (t:Ty),t.wt<=k->t.wt<=1099511627776 ->
  aV prog 35 [.agg (eE t)] (.tup [.v (.int .i64 t.cnt),.v (.int .i64 t.deep)])
 | 0,t,hn,_=>by have:=t.eJ;omega
 | k + 1,.mk h ps,hn,cL=>by
  simp only [Ty.wt,Hd.wt] at hn cL;have nv:=ps.gz;have hc:=ps.ff;have lU:=ps.oR;refine eG 42 [.tmp 2,.tmp 3] func35 rfl ntmps35 rfl fun _ _ _ _=>?_
  refine bz (fun j st=>∃ (e n d:Nat),st=BR (.mk h ps) e n d/\e<=ps.len/\n + (ps.drop e).cnt=1 + ps.cnt/\max d (ps.drop e).deep=ps.deep/\j=ps.len - e) ps.len
   (BR (.mk h ps) 0 1 0) (aj ⟨_,rfl⟩ wA rfl rfl rfl wB) ⟨0,1,0,rfl,by omega,rfl,by simp [Pts.drop],by omega⟩ ?_
  rintro j st ⟨e,n,d,rfl,he,bp,Lw,rfl⟩;refine br ?_ ?_<;>intro hL
  ·have ap:e < ps.len:=by simpa [aO] using hL
   obtain ⟨p,t,hx⟩:=Pts.fc ap;have yO:=Pts.gV (mG hx);rw [Pts.drop_cons hx] at bp Lw;simp only [Pts.cnt,Pts.deep] at bp Lw;have Ly:=t.ff;have hdt:=t.oR;refine iX (cp hx) ?_;refine br ?_ ?_<;>intro hB
   ·rw [ai hB] at bp Lw;exact rE ⟨_,by omega,e + 1,n,d,rfl,by omega,by omega,by omega,rfl⟩ (aj ⟨_,rfl⟩ wA rfl rfl rfl (dt (aJ ap (by omega))))
   ·rw [ah (by simp [hB])] at bp Lw;obtain ⟨u,us⟩:=t;refine iX (cp hx) ?_;refine cP Qg (ll k (.mk u us) (by omega) (by omega)) ?_;have C8:IntKind.i64.wrap ((n:Int) + (Ty.mk u us).cnt)=((n + (Ty.mk u us).cnt:Nat):Int):=by rw [wrap64 (by omega) (by omega)];omega
    refine br ?_ ?_<;>intro hD
    ·have hD:d < (Ty.mk u us).deep:=sU hD;exact ⟨BR (.mk h ps) (e + 1) (n + (Ty.mk u us).cnt) (Ty.mk u us).deep,(aj ⟨_,rfl⟩ wA rfl rfl rfl (wB2 C8 (aJ ap (by omega)))),ps.len - (e + 1),by omega,e + 1,_,_,rfl,by omega,by omega,by omega,rfl⟩
    ·have hD:¬ d < (Ty.mk u us).deep:=sU hD;exact ⟨BR (.mk h ps) (e + 1) (n + (Ty.mk u us).cnt) d,(aj ⟨_,rfl⟩ wA rfl rfl rfl (wB2 C8 (aJ ap (by omega)))),ps.len - (e + 1),by omega,e + 1,_,_,rfl,by omega,by omega,by omega,rfl⟩
  ·have aQ:e=ps.len:=by simp [aO] at hL;omega
   rw [aQ,Pts.dH] at bp Lw;simp only [Pts.cnt,Pts.deep] at bp Lw;have e1:IntKind.i64.wrap ((d:Int) + 1)=((Ty.mk h ps).deep:Int):=by rw [wrap64 (by omega) (by omega)];simp only [Ty.deep];omega
   have e2:(n:Int)=((Ty.mk h ps).cnt:Int):=by simp only [Ty.cnt];omega
   refine ⟨_,?_,rfl⟩;rw [<- e1,<- e2];exact ax
def wD (f:Ft) (n:Int):DV:=.agg [.v (.int .i64 f.1),.v (.int .i64 f.2),.v (.int .i64 n)]
theorem eU (f:Ft) (n e a:Int):aV prog 174 [wD f n,.v (.int .i64 e),.v (.int .i64 a)] (wD (e,a) n):=by
 refine eG 13 [.cell 6 192] func174 rfl ntmps174 rfl fun _ _ _ _=>?_;exact ⟨_,ax,rfl⟩
def bo (p:Ph):Ft:=
 if p.ck=0 then (if p.cn=0/\p.cl=[] then (0,0) else (19,p.name.a))
 else if p.ck < 0∨3 < p.ck then (14,p.ca)
 else if (p.ck=1/\p.cn < 1)∨(p.ck=2/\(p.cn < 0∨4096 < p.cn))∨(p.ck=3/\p.cn≠0) then (20,p.ca)
 else cd p.cl
theorem ze (p:Ph) (tl:List DV) (hs:p.wt<=4611686018427387904) :
  aV prog 209 [.agg (Gx p tl)] (bo p).d:=by
 simp only [Ph.wt] at hs;refine eG 73 [.cell 2 45] func209 rfl ntmps209 rfl fun _ _ _ _=>?_;refine br ?_ ?_<;>intro h0
 ·have h0:p.ck=0:=sU h0;refine br ?_ ?_<;>intro h1
  ·have:bo p=(19,p.name.a):=by
    simp [aw,aA] at h1;simp only [bo,h0,if_true];rw [ah];rintro ⟨h2,h3⟩;rcases h1 with h1 | h1
    ·exact h1 h2
    ·simp [h3] at h1
   refine ⟨_,?_,rfl⟩;rw [this];exact ax
  ·have:bo p=(0,0):=by
    simp [aw,aA] at h1;simp [bo,h0,h1.1,h1.2]
   refine ⟨_,?_,rfl⟩;rw [this];exact ax
 ·have h0:¬ p.ck=0:=sU h0;refine br ?_ ?_<;>intro h1
  ·have:bo p=(14,p.ca):=by
    simp [aw] at h1;simp [bo,h0,h1]
   refine ⟨_,?_,rfl⟩;rw [this];exact ax
  ·simp [aw] at h1;refine br ?_ ?_<;>intro h2
   ·have:bo p=(20,p.ca):=by
     simp [aw,av] at h2;simp only [bo,h0,if_false];rw [ah (by omega),ai (by omega)]
    refine ⟨_,?_,rfl⟩;rw [this];exact ax
   ·have hc:bo p=cd p.cl:=by
     simp [aw,av] at h2;simp only [bo,h0,if_false];rw [ah (by omega),ah (by omega)]
    refine cP Ms (mM p.cl (by omega)) ?_;refine ⟨_,?_,rfl⟩;rw [hc];exact ax
def enumL (all:List Wd):Nat->List Wd->Ft
 | _,[]=>(0,0)
 | i,x :: r=>if aK all i x≠0 then (aK all i x,x.a) else enumL all (i + 1) r
def jo (h:Hd):Ft:=
 if h.af=[] then (15,h.aX)
 else if 64 < h.af.length then (8,((h.af[64]?).getD (⟨ay,0⟩:Wd)).a)
 else enumL h.af 0 h.af
def dY (p:Ph):Ft:=
 if p.wide < 0∨64 < p.wide then (20,p.name.a)
 else if (cd p.label).1≠0 then cd p.label
 else bo p
def uU (t:Ty):Bool:=sameTy t (mask t)
mutual
def wrong:Ty->Int->Int->Ft × Int
 | .mk h ps,depth,m=>
  if 24 < depth then ((6,h.aX),m + 1)
  else if 512 < m + 1 then ((8,h.aX),m + 1)
  else if h.ag < 1∨9 < h.ag then ((14,h.aX),m + 1)
  else if uU (.mk h ps)=false then ((19,h.aX),m + 1)
  else if (h.ag=2/\h.hi < h.lo)∨(h.ag=3/\(h.most < 0∨4096 < h.most)) then ((20,h.aX),m + 1)
  else if h.ag=9/\bi h.name.s=false then ((9,h.name.a),m + 1)
  else if h.ag=4 then (jo h,m + 1)
  else if h.ag=5∨h.ag=6 then wrongOne h ps depth (m + 1)
  else if h.ag=7∨h.ag=8 then
   if h.ag=8/\ps.len=0 then ((15,h.aX),m + 1)
   else if 64 < ps.len then ((8,(((pNames ps)[64]?).getD (⟨ay,0⟩:Wd)).a),m + 1)
   else wrongPts h.ag (pNames ps) 0 ps depth (m + 1)
  else ((0,0),m + 1)
def wrongOne:Hd->Pts->Int->Int->Ft × Int
 | h,.cons p t .nil,depth,m=>
  if p.name.s≠ay∨b9 p fw=false then ((19,h.aX),m)
  else if h.most < 0∨1024 < h.most then ((20,h.aX),m)
  else wrong t (depth + 1) m
 | h,_,_,m=>((19,h.aX),m)
def wrongPts (ag:Int) (all:List Wd):Nat->Pts->Int->Int->Ft × Int
 | _,.nil,_,m=>((0,0),m)
 | i,.cons p t r,depth,m=>
  if aK all i p.name≠0 then ((aK all i p.name,p.name.a),m)
  else if p.bare=true then
   if ag=7∨sameTy t cx=false∨b9 p fM=false then ((19,p.name.a),m) else wrongPts ag all (i + 1) r depth m
  else if (dY p).1≠0 then (dY p,m)
  else if (wrong t (depth + 1) m).1.1≠0 then wrong t (depth + 1) m
  else wrongPts ag all (i + 1) r depth (wrong t (depth + 1) m).2
end
def BS (k:Nat):Prop:=∀ (t:Ty) (depth m:Int),t.wt<=k->t.wt<=1099511627776->0<=depth->depth<=25->0<=m->m<=512 ->
 aV prog 117 [wD (0,0) m,.agg (eE t),.v (.int .i64 depth)] (wD (wrong t depth m).1 (wrong t depth m).2)
abbrev II (t:Ty) (e:Nat) (depth m:Int):St:=
 ⟨[(2,⟨[],.v (.int .i64 depth)⟩),(3,⟨[],.loc 0 0⟩),(4,⟨[],.loc 1 0⟩),(6,⟨[],.loc 2 0⟩),(7,⟨[],.v (.int .i64 e)⟩)],[[.v (.int .i64 0),.v (.int .i64 0),.v (.int .i64 m)],eE t,[.v (.int .i64 0),.v (.int .i64 0),.v (.int .i64 0)]],[]⟩
def fx (h:Hd) (ps:Pts) (depth m:Int):Ft × Int:=
 if h.ag=8/\ps.len=0 then ((15,h.aX),m)
 else if 64 < ps.len then ((8,(((pNames ps)[64]?).getD (⟨ay,0⟩:Wd)).a),m)
 else wrongPts h.ag (pNames ps) 0 ps depth m
theorem DS (all:List Wd):∀ (l:List Wd) (i:Nat),(enumL all i l).1=0->enumL all i l=(0,0)
 | [],_,_=>rfl
 | x :: r,i,h=>by
  have ih:=DS all r (i + 1);simp only [enumL] at h ⊢;split at h
  ·rename_i hc;exact (hc h).elim
  ·rename_i hc;rw [ah hc];exact ih h
theorem zV (h:Hd) (he:(jo h).1=0):jo h=(0,0):=by
 unfold jo at he ⊢;split at he
 ·simp at he
 ·split at he
  ·simp at he
  ·rename_i h1 h2;rw [ah h1,ah h2];exact DS _ _ _ he
mutual
theorem rc:∀ (t:Ty) (depth m:Int),0<=m->(wrong t depth m).1.1=0->(wrong t depth m).1=(0,0)/\0<=(wrong t depth m).2/\(wrong t depth m).2<=512
 | .mk h ps,depth,m,hm,he=>by
  have i1:=DT h ps depth (m + 1) (by omega);have i2:=n4 h.ag (pNames ps) ps 0 depth (m + 1) (by omega);have i3:=zV h;simp only [wrong] at he ⊢;by_cases c0:24 < depth
  ·rw [ai c0] at he;simp at he
  rw [ah c0] at he ⊢;by_cases c1:512 < m + 1
  ·rw [ai c1] at he;simp at he
  rw [ah c1] at he ⊢;by_cases c2:h.ag < 1∨9 < h.ag
  ·rw [ai c2] at he;simp at he
  rw [ah c2] at he ⊢;by_cases c3:uU (.mk h ps)=false
  ·rw [ai c3] at he;simp at he
  rw [ah c3] at he ⊢;by_cases c4:(h.ag=2/\h.hi < h.lo)∨(h.ag=3/\(h.most < 0∨4096 < h.most))
  ·rw [ai c4] at he;simp at he
  rw [ah c4] at he ⊢;by_cases c5:h.ag=9/\bi h.name.s=false
  ·rw [ai c5] at he;simp at he
  rw [ah c5] at he ⊢;by_cases k4:h.ag=4
  ·rw [ai k4] at he ⊢;exact ⟨i3 he,by simp only;omega,by simp only;omega⟩
  rw [ah k4] at he ⊢;by_cases k5:h.ag=5∨h.ag=6
  ·rw [ai k5] at he ⊢;exact i1 (by omega) he
  rw [ah k5] at he ⊢;by_cases k7:h.ag=7∨h.ag=8
  ·rw [ai k7] at he ⊢;by_cases k8:h.ag=8/\ps.len=0
   ·rw [ai k8] at he;simp at he
   rw [ah k8] at he ⊢;by_cases k9:64 < ps.len
   ·rw [ai k9] at he;simp at he
   rw [ah k9] at he ⊢;exact i2 (by omega) he
  ·rw [ah k7];exact ⟨rfl,by simp only;omega,by simp only;omega⟩
theorem DT:∀ (h:Hd) (ps:Pts) (depth m:Int),0<=m->m<=512->(wrongOne h ps depth m).1.1=0->(wrongOne h ps depth m).1=(0,0)/\0<=(wrongOne h ps depth m).2/\(wrongOne h ps depth m).2<=512
 | h,.nil,depth,m,hm,_,he=>by simp [wrongOne] at he
 | h,.cons p t .nil,depth,m,hm,h5,he=>by
  have ih:=rc t (depth + 1) m hm;simp only [wrongOne] at he ⊢;split at he
  ·simp at he
  ·split at he
   ·simp at he
   ·rename_i h1 h2;rw [ah h1,ah h2];exact ih he
 | h,.cons p t (.cons _ _ _),depth,m,hm,_,he=>by simp [wrongOne] at he
theorem n4 (ag:Int) (all:List Wd):∀ (ps:Pts) (i:Nat) (depth m:Int),0<=m->m<=512->(wrongPts ag all i ps depth m).1.1=0->(wrongPts ag all i ps depth m).1=(0,0)/\0<=(wrongPts ag all i ps depth m).2/\(wrongPts ag all i ps depth m).2<=512
 | .nil,i,depth,m,hm,h5,he=>by simp only [wrongPts];exact ⟨trivial,hm,h5⟩
 | .cons p t r,i,depth,m,hm,h5,he=>by
  have i1:=rc t (depth + 1) m hm;simp only [wrongPts] at he ⊢;split at he
  ·rename_i h1;exact (h1 he).elim
  ·rename_i h1;rw [ah h1];split at he
   ·rename_i h2;rw [ai h2];split at he
    ·simp at he
    ·rename_i h3;rw [ah h3];exact n4 ag all r (i + 1) depth m hm h5 he
   ·rename_i h2;rw [ah h2];split at he
    ·rename_i h3;exact (h3 he).elim
    ·rename_i h3;rw [ah h3];split at he
     ·rename_i h4;exact (h4 he).elim
     ·rename_i h4;rw [ah h4];have i2:=i1 (sU h4);exact n4 ag all r (i + 1) depth _ i2.2.1 i2.2.2 he
end
theorem BT (k:Nat) (ih:BS k) (h:Hd) (ps:Pts) (depth m:Int) (hk:ps.wt<=k) (cL:(Ty.mk h ps).wt<=1099511627776) (vg:0<=depth) (zf:depth<=24) (pk:0<=m) (kj:m<=512) :
  aV prog 178 [wD (0,0) m,.agg (eE (.mk h ps)),.v (.int .i64 depth)] (wD (fx h ps depth m).1 (fx h ps depth m).2):=by
 simp only [Ty.wt,Hd.wt] at cL;have nv:=ps.gz;have UD:=sP ps;refine eG 126 [.cell 6 192] func178 rfl ntmps178 rfl fun _ _ _ _=>?_;refine br ?_ ?_<;>intro c1
 ·refine cP ik (eU (0,0) m 15 h.aX) ?_
  have:fx h ps depth m=((15,h.aX),m):=by
   simp [av,aO] at c1;have:ps.len=0:=by omega
   simp [fx,c1.1,this]
  refine ⟨_,?_,rfl⟩;rw [this];exact ax
 ·have c1':¬ (h.ag=8/\ps.len=0):=by
   simp [av,aO] at c1;omega
  refine br ?_ ?_<;>intro c2
  ·have ap:64 < ps.len:=by simp [aO] at c2;omega
   obtain ⟨p,t,hx⟩:=Pts.fc ap;refine vd (fun i=>Nat.beq i 8) mo (by decide +kernel) ?_;refine iX (cp hx) ?_;refine cD ik (eU (0,0) m 8 p.name.a) ?_
   have:fx h ps depth m=((8,p.name.a),m):=by
    simp only [fx,ah c1',ai ap,gY hx];rfl
   refine ⟨_,?_,rfl⟩;rw [this];exact ax
  ·have c2':¬ 64 < ps.len:=by simp [aO] at c2;omega
   have hF:fx h ps depth m=wrongPts h.ag (pNames ps) 0 ps depth m:=by simp only [fx,ah c1',ah c2']
   refine bz (fun j st=>∃ (e:Nat) (m':Int),st=II (.mk h ps) e depth m' /\ e<=ps.len/\0<=m' /\ m' <= 512 /\
     wrongPts h.ag (pNames ps) 0 ps depth m=wrongPts h.ag (pNames ps) e (ps.drop e) depth m' /\ j=ps.len - e) ps.len
    (II (.mk h ps) 0 depth m) (aj ⟨_,rfl⟩ wA rfl rfl rfl wB) ⟨0,m,rfl,by omega,pk,kj,rfl,by omega⟩ ?_
   rintro j st ⟨e,m',rfl,he,BU,DU,aN,rfl⟩;refine br ?_ ?_<;>intro hL
   ·have ap:e < ps.len:=by simpa [aO] using hL
    obtain ⟨p,t,hx⟩:=Pts.fc ap;rw [Pts.drop_cons hx] at aN;have yO:=Pts.gV (mG hx);obtain ⟨u,us⟩:=t;refine iX (cp hx) ?_;refine cP Yf (BQ ps (by omega)) ?_;refine cP Sr (pB (pNames ps) e p.name (by omega) (gY hx)) ?_;refine br ?_ ?_<;>intro hl
    ·have hl:aK (pNames ps) e p.name≠0:=sU hl;refine cP ik (eU (0,0) m' _ p.name.a) ?_
     have:fx h ps depth m=((aK (pNames ps) e p.name,p.name.a),m'):=by
      rw [hF,aN];simp only [wrongPts];rw [ai hl]
     refine ⟨_,?_,rfl⟩;rw [this];exact ax
    ·have hl:aK (pNames ps) e p.name=0:=sU hl;simp only [wrongPts] at aN;rw [ah (by simp [hl])] at aN;refine br ?_ ?_<;>intro hB
     ·rw [ai hB] at aN;refine br ?_ ?_<;>intro k7
      ·have k7:¬ h.ag=7:=sU k7;refine cP Yg (DR (.mk u us) (by omega)) ?_;refine br ?_ ?_<;>intro z
       ·have z:sameTy (.mk u us) cx=true:=by simpa [aw,k7] using z
        refine cP Mt (mL p fM (eE (.mk u us)) (eE cx) (by omega) (zU _ _ _ _ _) (zU _ _ _ _ _)) ?_;refine br ?_ ?_<;>intro q
        ·have q:b9 p fM=false:=by simpa [aw,k7,z] using q
         refine cP ik (eU (0,0) m' 19 p.name.a) ?_;rw [ai (by simp [q])] at aN;refine ⟨_,?_,rfl⟩;rw [hF,aN];exact ax
        ·have q:b9 p fM=true:=by simpa [aw,k7,z] using q
         rw [ah (by simp [k7,z,q])] at aN;exact rE ⟨_,by omega,e + 1,m',rfl,by omega,BU,DU,aN,rfl⟩ (aj ⟨_,rfl⟩ wA rfl rfl rfl (dt (aJ ap (by omega))))
       ·have z:sameTy (.mk u us) cx=false:=by simpa [aw,k7] using z
        refine cP ik (eU (0,0) m' 19 p.name.a) ?_;rw [ai (by simp [z])] at aN;refine ⟨_,?_,rfl⟩;rw [hF,aN];exact ax
      ·have k7:h.ag=7:=sU k7;refine cP ik (eU (0,0) m' 19 p.name.a) ?_;rw [ai (by simp [k7])] at aN;refine ⟨_,?_,rfl⟩;rw [hF,aN];exact ax
     ·rw [ah (by simp [hB])] at aN;refine br ?_ ?_<;>intro hw
      ·have hP:dY p=(20,p.name.a):=by
        simp [aw] at hw;simp only [dY,ai hw]
       rw [ai (by rw [hP];simp),hP] at aN;refine ⟨_,?_,rfl⟩;rw [hF,aN];exact ax
      ·have hw:¬ (p.wide < 0∨64 < p.wide):=by simp [aw] at hw;omega
       have hpw:p.wt<=ps.wt:=by omega
       simp only [Ph.wt] at hpw;refine cP Ms (mM p.label (by omega)) ?_;refine br ?_ ?_<;>intro hb
       ·have hb:(cd p.label).1=0:=sU hb;have hP:dY p=bo p:=by simp only [dY,ah hw,hb,ne_eq,not_true_eq_false,if_false]
        rw [hP] at aN;refine cP Yh (ze p (eE (.mk u us)) (by omega)) ?_ (by repeat' (first | exact rfl | exact trivial | exact Or.inr (Or.inl ⟨_,rfl⟩) | exact Or.inr ⟨_,rfl⟩ | exact Or.inl ⟨rfl,rfl⟩ | exact Or.inl rfl | refine Or.inr ⟨_,_,rfl,Nat.zero_le _,rfl,?_⟩ | refine ⟨_,_,rfl,?_,?_⟩ | refine ⟨_,rfl,?_⟩ | exact congrArg DV.agg rfl| refine Or.inr (Or.inr (Or.inr ⟨_,_,rfl,?_⟩)) | exact Or.inl rfl | refine Or.inr ?_));refine br ?_ ?_<;>intro hc
        ·have hc:(bo p).1≠0:=sU hc;rw [ai hc] at aN;refine ⟨_,?_,rfl⟩;rw [hF,aN];exact ax
        ·have hc:(bo p).1=0:=sU hc;rw [ah (by simp [hc])] at aN;have qW:=ih (.mk u us) (depth + 1) m' (by omega) (by omega) (by omega) (by omega) BU DU;have bw:=rc (.mk u us) (depth + 1) m' BU;generalize wrong (.mk u us) (depth + 1) m'=r at qW bw aN;obtain ⟨⟨fe,fa⟩,many⟩:=r;simp only at qW bw aN;refine cP Mj qW ?_ (by repeat' (first | exact rfl | exact trivial | exact Or.inr (Or.inl ⟨_,rfl⟩) | exact Or.inr ⟨_,rfl⟩ | exact Or.inl ⟨rfl,rfl⟩ | exact Or.inl rfl | refine Or.inr ⟨_,_,rfl,Nat.zero_le _,rfl,?_⟩ | refine ⟨_,_,rfl,?_,?_⟩ | refine ⟨_,rfl,?_⟩ | exact congrArg (fun z=>DV.v (.int .i64 z)) (wrap64 (by omega) (by omega))| refine Or.inr (Or.inr (Or.inr ⟨_,_,rfl,?_⟩)) | exact Or.inl rfl | refine Or.inr ?_));refine br ?_ ?_<;>intro hd
         ·have hd:fe≠0:=sU hd;rw [ai hd] at aN;refine ⟨_,?_,rfl⟩;rw [hF,aN];exact ax
         ·have hd:fe=0:=sU hd;subst hd;obtain ⟨h1,h2,h3⟩:=bw rfl;simp only [Prod.mk.injEq,true_and] at h1;subst h1;rw [ah (by simp)] at aN;exact rE ⟨_,by omega,e + 1,many,rfl,by omega,h2,h3,aN,rfl⟩ (aj ⟨_,rfl⟩ wA rfl rfl rfl (dt (aJ ap (by omega))))
       ·have hb:¬ (cd p.label).1=0:=sU hb;have hP:dY p=cd p.label:=by simp only [dY,ah hw];rw [ai hb]
        rw [hP,ai hb] at aN;refine br ?_ ?_<;>intro hc
        ·refine ⟨_,?_,rfl⟩;rw [hF,aN];exact ax
        ·exact (hb (sU hc)).elim
   ·have aQ:e=ps.len:=by simp [aO] at hL;omega
    rw [aQ,Pts.dH] at aN;refine ⟨_,?_,rfl⟩;rw [hF,aN];simp only [wrongPts];exact ax
theorem bM (e a:Int):aV prog 198 [.v (.int .i64 e),.v (.int .i64 a)] (Ft.d (e,a)):=by
 refine eG 8 [.cell 4 45] func198 rfl ntmps198 rfl fun _ _ _ _=>?_;exact ⟨_,ax,rfl⟩
noncomputable def iE (L:List ByteArray) (x:ByteArray) (a:Int):Ft:=if bi x=true then (if L.Nodup then (0,0) else (10,a)) else (9,a)
theorem ui (L:List ByteArray) (x:ByteArray) (a:Int) (hx:L[L.length - 1]? = some x) (hl:L.length<=1099511627776) (qA:x.size<=4611686018427387904) :
  aV prog 231 [.sl 1 (fl L) none,.v (.int .i64 a)] (iE L x a).d:=by
 have hN:=ct L;have jT:=(gS hx).1;have hz:IntKind.i64.wrap (((fl L).length:Int) - 1)=((L.length - 1:Nat):Int):=by rw [hN,wrap64 (by omega) (by omega)];omega
 refine eG 23 [.cell 4 45] func231 rfl ntmps231 rfl fun _ _ _ _=>?_;refine ⟨[.v (.string x)],⟨by rw [hz];omega,by rw [hz];exact iD hx⟩,?_⟩;refine cP Gw (jm x qA) ?_;refine br ?_ ?_<;>intro h
 ·have h:bi x=false:=sU h;refine cP eI (bM 9 a) ?_;refine ⟨_,?_,rfl⟩;rw [iE,ah (by rw [h];decide)];exact ax
 ·have h:bi x=true:=sU h;refine kD Uv rfl (pU L hl) ax (fun r hr=>?_);obtain ⟨z,rfl,hz⟩:=hr;refine br ?_ ?_<;>intro h2
  ·have h2:0<=z:=sU h2;refine cP eI (bM 10 a) ?_;refine ⟨_,?_,rfl⟩;rw [iE,ai h,ah (hz.1 h2)];exact ax
  ·have h2:¬ 0<=z:=sU h2;refine ⟨_,?_,rfl⟩;rw [iE,ai h,ai (Classical.byContradiction fun hn=>h2 (hz.2 hn))];exact ax
theorem GH {l:List Wd} {e:Nat} {x:Wd} (h:l[e]? = some x):bO ((l.map fun w=>(⟨w.s,0⟩:Wd)).take e) ++ [[.v (.string x.s),.v (.int .i64 0)]]=bO ((l.map fun w=>(⟨w.s,0⟩:Wd)).take (e + 1)):=by
 have h2:(l.map fun w=>(⟨w.s,0⟩:Wd))[e]? = some ⟨x.s,0⟩:=by simp [h]
 exact zR h2
def jq (l:List Wd):List Wd:=l.map fun w=>⟨w.s,0⟩
abbrev MI (l l':List Wd) (n e:Nat):St:=
 ⟨[(6,⟨[],.sl 2 (bO l) none⟩),(7,⟨[],.v (.int .i64 (bO l).length)⟩),(8,⟨[],.v (.int .i64 e)⟩),(3,⟨[],.sl 2 (bO l') (some 0)⟩)],[],[⟨n,27,2,none⟩]⟩
theorem wM (l:List Wd) (hs:wdsWt l<=1099511627776):aV prog 246 [.sl 2 (bO l) none] (.sl 2 (bO (jq l)) none):=by
 have hl:=bL l;refine eG 20 [.tmp 2] func246 rfl ntmps246 rfl fun _ _ _ _=>?_;refine bz (fun j st=>∃ e:Nat,st=MI l ((jq l).take e) e e/\e<=l.length/\j=l.length - e) l.length (MI l [] 0 0) (fJ ⟨0,27,2,none⟩ rfl ⟨_,rfl⟩ rfl wA rfl rfl mi) ⟨0,by simp,by omega,by omega⟩ ?_;rintro j st ⟨e,rfl,he,rfl⟩;refine br ?_ ?_<;>intro h
 ·have ap:e < l.length:=by simpa [aA] using h
  obtain ⟨w,hw⟩:=gX ap;refine ⟨kH w,⟨by omega,aY hw⟩,?_⟩;refine ⟨by simp [aA,jq];omega,⟨by simp [aA,jq,maxLen];omega,by simp [aA,jq];omega⟩,?_⟩;refine ⟨MI l ((jq l).take (e + 1)) (e + 1) (e + 1),(aj ⟨_,rfl⟩ wA rfl rfl rfl (wB2 (aJ ap (by omega)) (GH hw))),l.length - (e + 1),by omega,e + 1,rfl,by omega,rfl⟩
 ·have aQ:e=l.length:=by
   have:=h;simp [aA] at this;omega
  rw [aQ,List.take_of_length_le (by simp [jq])];exact ⟨_,ax,rfl⟩
abbrev wN (l:List Wd) (e:Nat):St:=
 ⟨[(13,⟨[],.sl 2 (bO l) none⟩),(14,⟨[],.v (.int .i64 (bO l).length)⟩),(2,⟨[],.loc 0 0⟩),(15,⟨[],.v (.int .i64 e)⟩)],[[.v (.int .i64 0),.v (.int .i64 0)]],[]⟩
theorem jH (l:List Wd) (hs:wdsWt l<=1099511627776) :
  aV prog 240 [.sl 2 (bO l) none] (cd l).d:=by
 have nK:=bL l;refine eG 28 [.cell 2 45] func240 rfl ntmps240 rfl fun _ _ _ _=>?_;refine br ?_ ?_<;>intro h
 ·have ap:32 < l.length:=by simp [aA] at h;omega
  obtain ⟨x,hx⟩:=gX ap;have:cd l=(8,x.a):=by simp [cd,Nat.not_le.2 ap,hx]
  refine ⟨kH x,⟨by omega,aY hx⟩,?_⟩;refine cP eI (bM 8 x.a) ?_;refine ⟨_,?_,rfl⟩;rw [this];exact ax
 ·have dG:l.length<=32:=by simp [aA] at h;omega
  refine bz (fun j st=>∃ e:Nat,st=wN l e/\e<=l.length/\badWd l=badWd (l.drop e)/\j=l.length - e) l.length
   (wN l 0) (aj ⟨_,rfl⟩ wA rfl rfl rfl wB) ⟨0,rfl,by omega,rfl,by omega⟩ ?_
  rintro j st ⟨e,rfl,he,aN,rfl⟩;refine br ?_ ?_<;>intro hL
  ·have ap:e < l.length:=by simpa [aA] using hL
   obtain ⟨x,hx⟩:=gX ap;rw [drop_cons hx] at aN;have qA:=jk (mG hx);refine ⟨kH x,⟨by omega,aY hx⟩,?_⟩;refine cP Gw (jm x.s (by omega)) ?_;refine br ?_ ?_<;>intro hN
   ·have hN:bi x.s=false:=sU hN;have:cd l=(9,x.a):=by simp [cd,dG,aN,badWd,hN]
    refine cP eI (bM 9 x.a) ?_;refine ⟨_,?_,rfl⟩;rw [this];exact ax
   ·have hN:bi x.s=true:=sU hN;refine ⟨wN l (e + 1),(aj ⟨_,rfl⟩ wA rfl rfl rfl (dt (aJ ap (by omega)))),l.length - (e + 1),by omega,e + 1,rfl,by omega,?_,rfl⟩;rw [aN];simp [badWd,hN]
  ·have aQ:e=l.length:=by simp [aA] at hL;omega
   have:cd l=(0,0):=by simp [cd,dG,aN,aQ,badWd]
   refine ⟨_,?_,rfl⟩;rw [this];exact ax
theorem BV (p:Ph) (tl:List DV) (t:Ty) (gZ:tl=eE t) (hs:p.wt<=1099511627776) :
  aV prog 241 [.agg (Gx p tl)] (bo p).d:=by
 subst gZ;obtain ⟨u,us⟩:=t;simp only [Ph.wt] at hs;refine eG 55 [.cell 2 45] func241 rfl ntmps241 rfl fun _ _ _ _=>?_;refine br ?_ ?_<;>intro h0
 ·have h0:p.ck=0:=of_decide_eq_true h0;refine br ?_ ?_<;>intro h1
  ·have:bo p=(19,p.name.a):=by
    simp [aw,aA] at h1;simp only [bo,h0,if_true];rw [ah];rintro ⟨h2,h3⟩;rcases h1 with h1 | h1
    ·exact h1 h2
    ·simp [h3] at h1
   refine cP eI (bM 19 p.name.a) ?_;refine ⟨_,?_,rfl⟩;rw [this];exact ax
  ·have eS:p.cl=[]:=by
    simp [aw,aA] at h1;exact h1.2
   have:bo p=(0,0):=by
    simp [aw,aA] at h1;simp [bo,h0,h1.1,h1.2]
   have h00:cd p.cl=(0,0):=by rw [eS];simp [cd,badWd]
   refine cP DJ (jH p.cl (by omega)) ?_;refine ⟨_,?_,rfl⟩;rw [this,<- h00];exact ax
 have h0:¬ p.ck=0:=of_decide_eq_false h0;refine br ?_ ?_<;>intro h1
 ·have h1:p.ck=1:=of_decide_eq_true h1;refine br ?_ ?_<;>intro h2
  ·have:bo p=(20,p.ca):=by
    simp [av] at h2;simp only [bo,h0,if_false];rw [ah (by omega),ai (by omega)]
   refine cP eI (bM 20 p.ca) ?_;refine ⟨_,?_,rfl⟩;rw [this];exact ax
  ·have:bo p=cd p.cl:=by
    simp [av] at h2;simp only [bo,h0,if_false];rw [ah (by omega),ah (by omega)]
   refine cP DJ (jH p.cl (by omega)) ?_;refine ⟨_,?_,rfl⟩;rw [this];exact ax
 have h1:¬ p.ck=1:=of_decide_eq_false h1;refine br ?_ ?_<;>intro h3
 ·have h3:p.ck=2:=of_decide_eq_true h3;refine br ?_ ?_<;>intro h2
  ·have:bo p=(20,p.ca):=by
    simp [av] at h2;simp only [bo,h0,if_false];rw [ah (by omega),ai (by omega)]
   refine cP eI (bM 20 p.ca) ?_;refine ⟨_,?_,rfl⟩;rw [this];exact ax
  ·have:bo p=cd p.cl:=by
    simp [av] at h2;simp only [bo,h0,if_false];rw [ah (by omega),ah (by omega)]
   refine cP DJ (jH p.cl (by omega)) ?_;refine ⟨_,?_,rfl⟩;rw [this];exact ax
 have h3:¬ p.ck=2:=of_decide_eq_false h3;refine br ?_ ?_<;>intro h4
 ·have h4:p.ck=3:=of_decide_eq_true h4;refine br ?_ ?_<;>intro h2
  ·have:bo p=(20,p.ca):=by
    simp [av] at h2;simp only [bo,h0,if_false];rw [ah (by omega),ai (by omega)]
   refine cP eI (bM 20 p.ca) ?_;refine ⟨_,?_,rfl⟩;rw [this];exact ax
  ·have:bo p=cd p.cl:=by
    simp [av] at h2;simp only [bo,h0,if_false];rw [ah (by omega),ah (by omega)]
   refine cP DJ (jH p.cl (by omega)) ?_;refine ⟨_,?_,rfl⟩;rw [this];exact ax
 have h4:¬ p.ck=3:=of_decide_eq_false h4
 have:bo p=(14,p.ca):=by
  simp only [bo,h0,if_false];rw [ai (by omega)]
 refine cP eI (bM 14 p.ca) ?_;refine ⟨_,?_,rfl⟩;rw [this];exact ax
theorem MJ (w:World) (x y:Operand) (vs vs':Array Value):(eqGuard .neq 27 x y (.agg vs) (.agg vs')).run prog w = .ok () w:=by
 have h:prog.eqGuardType prog.depth 27=false:=by kernel_rfl
 simp [eqGuard,run_program,h]
theorem UE (a b:ByteArray) (p q:Int) (w:World):(binOp .neq 27 (.agg #[.string a,.int .i64 p]) (.agg #[.string b,.int .i64 q])).run prog w = .ok (.bool (!(decide (a=b) && decide (p=q)))) w:=by
 have hf:prog.underlying 27=some (.struct (prog.fieldsOf 27)):=by simp [Program.fieldsOf,Tryz.underlying27]
 have vU:(prog.fieldsOf 27).toList=[⟨ "Name",9,0,false, "", "",0⟩,⟨ "At",3,1,false, "", "",16⟩]:=by simp [Program.fieldsOf,Tryz.underlying27]
 have hs:prog.stoodInHeld 27=false:=by kernel_rfl
 have hm:∃ d,Op.maxDepth=d + 1 + 1:=⟨Op.maxDepth - 2,by decide⟩;obtain ⟨d,hm⟩:=hm
 have he:(Op.equal 27 (.agg #[.string a,.int .i64 p]) (.agg #[.string b,.int .i64 q])).run prog w = .ok (decide (a=b) && decide (p=q)) w:=by
  unfold Op.equal;rw [hm,run_equalIn_struct w (d + 1) 27 _ _ hf hs,vU]
  have e1:(a.toList == b.toList)=decide (a=b):=by
   rw [ByteArray.toList_eq,ByteArray.toList_eq];by_cases h:a=b
   ·subst h;simp
   ·have:¬ a.data=b.data:=fun e=>h (ByteArray.ext e);simp [h,this]
  have q9:∀ cs:Array Value,∀ off v,cs[off]? = some v->(part 9 cs off).run prog w = .ok v w:=fun cs off v h=>by
   simp [part,Tryz.isAgg9,h]
  have q3:∀ cs:Array Value,∀ off v,cs[off]? = some v->(part 3 cs off).run prog w = .ok v w:=fun cs off v h=>by
   simp [part,Tryz.isAgg3,h]
  simp only [Op.eqFields,ne_eq,String.reduceEq,not_false_eq_true,if_true,Sem.run_bind,q9 #[.string a,.int .i64 p] 0 (.string a) rfl,q9 #[.string b,.int .i64 q] 0 (.string b) rfl,Result.andThen_ok,run_equalIn_string w d 9 a b Tryz.underlying9,e1];by_cases h:a=b
  ·simp only [h,decide_true,Bool.not_true,Bool.false_eq_true,if_false,Sem.run_bind,q3 #[.string b,.int .i64 p] 1 (.int .i64 p) rfl,q3 #[.string b,.int .i64 q] 1 (.int .i64 q) rfl,Result.andThen_ok,run_equalIn_int w d 3 .i64 .i64 p q Tryz.underlying3];by_cases h2:p=q<;>simp [h2,Sem.run_pure]
  ·simp [h,Sem.run_pure]
 show ((do let r <- Op.equal 27 _ _;pure (Value.bool !r)):Sem Value).run prog w=_;simp only [Sem.run_bind,he,Result.andThen_ok,Sem.run_pure]
theorem Qp (x y:Operand) (a b:Wd):Bs prog .neq x y 27 (kH a) (kH b) (!(decide (a.s=b.s) && decide (a.a=b.a))):=
 ⟨[.string a.s,.int .i64 a.a],[.string b.s,.int .i64 b.a],rfl,rfl,fun w=>⟨MJ w x y _ _,UE a.s b.s a.a b.a w⟩⟩
def eqWds:List Wd->List Wd->Bool
 | [],[]=>true
 | x :: r,y :: s=>(decide (x.s=y.s) && decide (x.a=y.a)) && eqWds r s
 | _,_=>false
theorem zW:∀ {a b:List Wd},a.length≠b.length->eqWds a b=false
 | [],[],h=>(h rfl).elim
 | [],_ :: _,_=>rfl
 | _ :: _,[],_=>rfl
 | x :: r,y :: s,h=>by
  simp only [eqWds];rw [zW (a:=r) (b:=s) (sU h),Bool.and_false]
theorem uj:∀ a b:List Wd,eqWds (jq a) (jq b)=sameWds a b
 | [],[]=>rfl
 | [],_ :: _=>rfl
 | _ :: _,[]=>rfl
 | x :: r,y :: s=>by
  have:=uj r s;simp only [jq,List.map_cons,eqWds,sameWds] at this ⊢;rw [this];simp
abbrev MK (a b:List Wd) (e:Nat):St:=
 ⟨[(0,⟨[],.sl 2 (bO a) none⟩),(1,⟨[],.sl 2 (bO b) none⟩),(12,⟨[],.v (.int .i64 (bO a).length)⟩),(13,⟨[],.v (.int .i64 e)⟩)],[],[]⟩
theorem DW (a b:List Wd) (hs:a.length<=1099511627776) :
  aV prog 245 [.sl 2 (bO a) none,.sl 2 (bO b) none] (.v (.bool (eqWds a b))):=by
 refine eG 26 [.tmp 4] func245 rfl ntmps245 rfl fun _ _ _ _=>?_;refine br ?_ ?_<;>intro h
 ·have bp:a.length≠b.length:=by have:=h;simp [aA] at this;omega
  exact congrArg (fun b=>DV.v (.bool b)) (zW bp).symm
 ·have hl:a.length=b.length:=by have:=h;simp [aA] at this;omega
  refine bz (fun j st=>∃ e:Nat,st=MK a b e/\e<=a.length/\eqWds a b=eqWds (a.drop e) (b.drop e)/\j=a.length - e) a.length
   (MK a b 0) (aj ⟨_,rfl⟩ wA rfl rfl rfl wB) ⟨0,rfl,by omega,rfl,by omega⟩ ?_
  rintro j st ⟨e,rfl,he,aN,rfl⟩;refine br ?_ ?_<;>intro h
  ·have ap:e < a.length:=by simpa [aA] using h
   obtain ⟨x,hx⟩:=gX ap;obtain ⟨y,hy⟩:∃ y,b[e]? = some y:=⟨_,gE (hl ▸ ap)⟩;rw [drop_cons hx,drop_cons hy] at aN;refine dI ?_;refine ⟨kH x,⟨by omega,aY hx⟩,kH y,⟨by omega,aY hy⟩,_,Qp _ _ x y,?_⟩;refine br ?_ ?_<;>intro h
   ·have bp:(decide (x.s=y.s) && decide (x.a=y.a))=false:=by
     have h:(!(decide (x.s=y.s) && decide (x.a=y.a)))=true:=h
     revert h
     cases (decide (x.s=y.s) && decide (x.a=y.a))<;>decide
    refine (congrArg (fun b=>DV.v (.bool b)) ?_:_=_);rw [aN];simp only [eqWds,bp,Bool.false_and]
   ·have bp:(decide (x.s=y.s) && decide (x.a=y.a))=true:=by
     have h:(!(decide (x.s=y.s) && decide (x.a=y.a)))=false:=h
     revert h
     cases (decide (x.s=y.s) && decide (x.a=y.a))<;>decide
    refine ⟨MK a b (e + 1),(aj ⟨_,rfl⟩ wA rfl rfl rfl (dt (aJ ap (by omega)))),a.length - (e + 1),by omega,e + 1,rfl,by omega,?_,rfl⟩;rw [aN];simp only [eqWds,bp,Bool.true_and]
  ·have aQ:e=a.length:=by have:=h;simp [aA] at this;omega
   refine (congrArg (fun b=>DV.v (.bool b)) ?_:_=_);rw [aN,aQ,hl];simp [eqWds];rw [<- hl];simp [eqWds]
theorem iF (a b:List Wd) (ha:wdsWt a<=1099511627776) (hb:wdsWt b<=1099511627776) :
  aV prog 243 [.sl 2 (bO a) none,.sl 2 (bO b) none] (.v (.bool (sameWds a b))):=by
 have hl:=bL a;refine eG 10 [.tmp 4] func243 rfl ntmps243 rfl fun _ _ _ _=>?_;refine cP SB (wM a ha) ?_;refine cP SB (wM b hb) ?_;refine cP Yq (DW (jq a) (jq b) (by simp [jq];omega)) ?_;refine (congrArg (fun b=>DV.v (.bool b)) ?_:_=_);exact uj a b
def eqPts (F:Ph->Ty->Ph->Ty->Bool):Pts->Pts->Bool
 | .nil,.nil=>true
 | .cons p t r,.cons q u s=>F p t q u && eqPts F r s
 | _,_=>false
theorem zX {F:Ph->Ty->Ph->Ty->Bool}:∀ {a b:Pts},a.len≠b.len->eqPts F a b=false
 | .nil,.nil,h=>(h rfl).elim
 | .cons p t r,.cons q u s,h=>by
  simp only [eqPts];rw [zX (a:=r) (b:=s) (by simpa [Pts.len] using h),Bool.and_false]
 | .nil,.cons _ _ _,_=>rfl
 | .cons _ _ _,.nil,_=>rfl
def dC (p:Ph) (t:Ty) (q:Ph) (u:Ty):Bool:=decide (p.name.s=q.name.s) && b9 p q && sameTy t u
theorem wO:∀ a b:Pts,eqPts dC a b=samePts a b
 | .nil,.nil=>by simp [eqPts,samePts]
 | .cons p t r,.cons q u s=>by simp only [eqPts,samePts,dC,wO r s]
 | .nil,.cons _ _ _=>by simp [eqPts,samePts]
 | .cons _ _ _,.nil=>by simp [eqPts,samePts]
abbrev ML (a b:Pts) (g e:Nat):St:=
 ⟨[(1,⟨[],.sl 18 (gA b) none⟩),(2,⟨[],.fn g [] []⟩),(15,⟨[],.sl 18 (gA a) none⟩),(16,⟨[],.v (.int .i64 (gA a).length)⟩),(17,⟨[],.v (.int .i64 e)⟩)],[],[]⟩
theorem DX (g:Nat) (mC:Enters prog g) (F:Ph->Ty->Ph->Ty->Bool) (a b:Pts) (hs:a.wt<=1099511627776)
  (hF:∀ (e:Nat) p t q u,a.toList[e]? = some (p,t)->b.toList[e]? = some (q,u)->aV prog g [.agg (Gx p (eE t)),.agg (Gx q (eE u))] (.v (.bool (F p t q u)))) :
  aV prog 247 [.sl 18 (gA a) none,.sl 18 (gA b) none,.fn g [] []] (.v (.bool (eqPts F a b))):=by
 have pu:=a.gz;refine eG 32 [.tmp 6] func247 rfl ntmps247 rfl fun _ _ _ _=>?_;refine br ?_ ?_<;>intro h
 ·have bp:a.len≠b.len:=by have:=h;simp [aO] at this;omega
  exact congrArg (fun b=>DV.v (.bool b)) (zX bp).symm
 ·have hl:a.len=b.len:=by have:=h;simp [aO] at this;omega
  refine bz (fun j st=>∃ e:Nat,st=ML a b g e/\e<=a.len/\eqPts F a b=eqPts F (a.drop e) (b.drop e)/\j=a.len - e) a.len
   (ML a b g 0) (aj ⟨_,rfl⟩ wA rfl rfl rfl wB) ⟨0,rfl,by omega,rfl,by omega⟩ ?_
  rintro j st ⟨e,rfl,he,aN,rfl⟩;refine br ?_ ?_<;>intro h
  ·have ap:e < a.len:=by simpa [aO] using h
   obtain ⟨p,t,hx⟩:=Pts.fc ap;obtain ⟨q,u,hy⟩:=Pts.fc (hl ▸ ap);rw [Pts.drop_cons hx,Pts.drop_cons hy] at aN;have T1:=hF e p t q u hx hy;obtain ⟨t,ts⟩:=t;obtain ⟨u,us⟩:=u;refine iX (cp hx) ?_;refine iX (cp hy) ?_;refine cP mC T1 ?_;refine br ?_ ?_<;>intro h
   ·have bp:F p (.mk t ts) q (.mk u us)=false:=sU h;refine (congrArg (fun b=>DV.v (.bool b)) ?_:_=_);rw [aN];simp only [eqPts,bp,Bool.false_and]
   ·have bp:F p (.mk t ts) q (.mk u us)=true:=sU h;refine ⟨ML a b g (e + 1),(aj ⟨_,rfl⟩ wA rfl rfl rfl (dt (aJ ap (by omega)))),a.len - (e + 1),by omega,e + 1,rfl,by omega,?_,rfl⟩;rw [aN];simp only [eqPts,bp,Bool.true_and]
  ·have aQ:e=a.len:=by have:=h;simp [aO] at this;omega
   refine (congrArg (fun b=>DV.v (.bool b)) ?_:_=_);rw [aN,aQ,Pts.dH,hl,Pts.dH];simp [eqPts]
theorem n5 (p q:Ph) (t u:Ty) (hp:p.wt<=1099511627776) (hq:q.wt<=1099511627776)
  (ht:aV prog 244 [.agg (eE t),.agg (eE u)] (.v (.bool (sameTy t u)))) :
  aV prog 239 [.agg (Gx p (eE t)),.agg (Gx q (eE u))] (.v (.bool (dC p t q u))):=by
 simp only [Ph.wt] at hp hq;obtain ⟨th,tps⟩:=t;obtain ⟨uh,ups⟩:=u;refine eG 71 [.tmp 4] func239 rfl ntmps239 rfl fun _ _ _ _=>?_
 have e0:dC p (.mk th tps) q (.mk uh ups)=(((decide (p.name.s=q.name.s) && (p.bare == q.bare)) && decide (p.wide=q.wide)) && sameWds p.label q.label && ((decide (p.ck=q.ck) && decide (p.cn=q.cn)) && sameWds p.cl q.cl) && sameTy (.mk th tps) (.mk uh ups)):=by
  simp only [dC,b9,Bool.and_assoc]
 rw [e0];refine br ?_ ?_<;>intro hA
 ·simp only [av] at hA;refine cP IE (iF p.label q.label (by omega) (by omega)) ?_;refine br ?_ ?_<;>intro hB
  ·simp only [av] at hB;refine cP IE (iF p.cl q.cl (by omega) (by omega)) ?_;refine br ?_ ?_<;>intro hC
   ·refine cP Yp ht ?_;refine (congrArg (fun b=>DV.v (.bool b)) ?_:_=_);simp only [av,Bool.true_and,Bool.and_true] at hC ⊢
    simp_all
   ·refine (congrArg (fun b=>DV.v (.bool b)) ?_:_=_);simp only [av,Bool.true_and,Bool.and_true] at hC ⊢
    simp_all
  ·simp only [av] at hB;refine br ?_ ?_<;>intro hC
   ·exfalso;simp [av] at hC
   ·refine (congrArg (fun b=>DV.v (.bool b)) ?_:_=_)
    simp_all
 ·simp only [av,beq_true] at hA;refine br ?_ ?_<;>intro hB
  ·refine cP IE (iF p.cl q.cl (by omega) (by omega)) ?_;refine (congrArg (fun b=>DV.v (.bool b)) ?_:_=_);rw [hA];rfl
  ·refine (congrArg (fun b=>DV.v (.bool b)) ?_:_=_);rw [hA];rfl
theorem zY:∀ (n:Nat) (a b:Ty),a.wt<=n->a.wt<=1099511627776->b.wt<=1099511627776 ->
  aV prog 244 [.agg (eE a),.agg (eE b)] (.v (.bool (sameTy a b)))
 | 0,a,b,hn,_,_=>by have:=a.eJ;omega
 | n + 1,.mk h ps,.mk k qs,hn,cL,YD=>by
  have ih:=zY n;simp only [Ty.wt,Hd.wt] at hn cL YD
  have hE:aV prog 247 [.sl 18 (gA ps) none,.sl 18 (gA qs) none,.fn 239 [] []] (.v (.bool (samePts ps qs))):=by
   rw [<- wO];refine DX 239 Mw dC ps qs (by omega) fun e p t q u hx hy=>?_;have hw1:=Pts.gV (mG hx);have hw2:=Pts.gV (mG hy);exact n5 p q t u (by omega) (by omega) (ih t u (by omega) (by omega) (by omega))
  refine eG 53 [.tmp 4] func244 rfl ntmps244 rfl fun _ _ _ _=>?_;refine br ?_ ?_<;>intro hA
  ·simp [aw] at hA;obtain ⟨⟨⟨⟨e1,e2⟩,e3⟩,e4⟩,e5⟩:=hA;refine cP IE (iF h.af k.af (by omega) (by omega)) ?_;refine br ?_ ?_<;>intro hB
   ·refine (congrArg (fun b=>DV.v (.bool b)) ?_:_=_);simp [aw,e1,e2,e3,e4,e5] at hB;simp [sameTy,lD,hB]
   ·simp [aw,e1,e2,e3,e4,e5] at hB;refine cP Yr hE ?_;refine (congrArg (fun b=>DV.v (.bool b)) ?_:_=_);simp [sameTy,lD,e1,e2,e3,e4,e5,hB]
  ·refine (congrArg (fun b=>DV.v (.bool b)) ?_:_=_);simp [aw] at hA;simp only [sameTy,lD]
   grind
theorem wP (a b:Ty) (ha:a.wt<=1099511627776) (hb:b.wt<=1099511627776):aV prog 244 [.agg (eE a),.agg (eE b)] (.v (.bool (sameTy a b))):=zY _ a b (aR _) ha hb
def wQ (h:Hd) (ps:Pts):Bool:=
 (((((decide (h.ag=2) || (decide (h.lo=0) && decide (h.hi=0))) && ((decide (h.ag=3) || decide (h.ag=5)) || decide (h.most=0))) && (decide (ps.len=0) || (decide (5<=h.ag) && decide (h.ag<=8)))) &&
  (decide (h.af.length=0) || decide (h.ag=4))) && (decide (h.name.s=ay) || decide (h.ag=9)))
theorem Kb (h:Hd) (ps:Pts):aV prog 199 [.agg (eE (.mk h ps))] (.v (.bool (wQ h ps))):=by
 have l1:(((gA ps).length:Int)=0)=(ps.len=0):=by rw [aO];exact propext (by omega)
 have l2:(((bO h.af).length:Int)=0)=(h.af.length=0):=by rw [aA];exact propext (by omega)
 have he:(⟨#[]⟩:ByteArray)=ay:=rfl;refine eG 67 [.tmp 2] func199 rfl ntmps199 rfl fun _ _ _ _=>?_;refine br ?_ ?_<;>intro k2
 ·have k2:h.ag=2:=of_decide_eq_true k2;refine (congrArg (fun b=>DV.v (.bool b)) ?_:_=_);rw [Bool.eq_iff_iff];simp [av,aw,wQ,aO,aA,k2,he]
 have k2:¬ h.ag=2:=of_decide_eq_false k2;refine br ?_ ?_<;>intro k3
 ·have k3:h.ag=3:=of_decide_eq_true k3;refine br (fun _=>?_) (fun hf=>?_)
  ·refine (congrArg (fun b=>DV.v (.bool b)) ?_:_=_);rw [Bool.eq_iff_iff];simp [av,aw,wQ,aO,aA,k3,he]
  ·exact absurd k3 (of_decide_eq_false hf)
 have k3:¬ h.ag=3:=of_decide_eq_false k3;refine br ?_ ?_<;>intro k5
 ·have k5:h.ag=5:=of_decide_eq_true k5;refine (congrArg (fun b=>DV.v (.bool b)) ?_:_=_);rw [Bool.eq_iff_iff];simp [av,aw,wQ,aO,aA,k5,he]
 have k5:¬ h.ag=5:=of_decide_eq_false k5;refine (congrArg (fun b=>DV.v (.bool b)) ?_:_=_);rw [Bool.eq_iff_iff];simp [av,aw,wQ,aO,aA,k2,k3,k5,he]
theorem BW:∀ ps:Pts,samePts ps ps=true:=by
 have wr:∀ l:List Wd,sameWds l l=true:=by
  intro l
  induction l with
  | nil=>rfl
  | cons x r ih=>simp [sameWds,ih]
 have key:∀ n,(∀ t:Ty,t.wt<=n->sameTy t t=true)/\(∀ ps:Pts,ps.wt<=n->samePts ps ps=true):=by
  intro n
  induction n using Nat.strongRecOn with
  | _ n ih=>
   have hp:∀ ps:Pts,ps.wt<=n->(∀ t:Ty,t.wt + 256<=n->sameTy t t=true)->samePts ps ps=true:=by
    intro ps
    induction ps using Pts.rec (motive_1:=fun _=>True) with
    | mk=>trivial
    | nil=>intros;simp [samePts]
    | cons p t r _ ihr=>
     intro hw ht;simp only [Pts.wt,Ph.wt] at hw;simp only [samePts];rw [ht t (by omega),ihr (by omega) ht];simp [b9,wr]
   refine ⟨fun t ht=>?_,fun ps YE=>?_⟩
   ·obtain ⟨h,ps⟩:=t;simp only [Ty.wt,Hd.wt] at ht;simp only [sameTy,lD];rw [(ih ps.wt (by omega)).2 ps (aR _),wr];simp
   ·exact hp ps YE fun t ht=>(ih t.wt (by omega)).1 t (aR _)
 exact fun ps=>(key ps.wt).2 ps (aR _)
theorem IJ (h:Hd) (ps:Pts):wQ h ps=sameTy (.mk h ps) (mask (.mk h ps)):=by
 have wr:∀ l:List Wd,sameWds l l=true:=by
  intro l
  induction l with
  | nil=>rfl
  | cons x r ih=>simp [sameWds,ih]
 have wn:∀ l:List Wd,sameWds l []=decide (l.length=0):=by
  intro l;cases l<;>simp [sameWds]
 have pn:∀ l:Pts,samePts l .nil=decide (l.len=0):=by
  intro l;cases l<;>simp [samePts,Pts.len]
 have pr:=BW ps;simp only [mask,sameTy,lD,jV]
 have e5:samePts ps (if 4 < h.ag/\h.ag < 9 then ps else .nil)=(decide (ps.len=0) || (decide (5<=h.ag) && decide (h.ag<=8))):=by
  split
  ·rename_i hc;rw [pr,decide_eq_true (by omega:5<=h.ag),decide_eq_true (by omega:h.ag<=8)];simp
  ·rename_i hc;rw [pn,Bool.eq_iff_iff];simp;omega
 have e6:sameWds h.af (if h.ag=4 then h.af else [])=(decide (h.af.length=0) || decide (h.ag=4)):=by
  split
  ·rename_i hc;rw [wr];simp [hc]
  ·rename_i hc;rw [wn];simp [hc]
 rw [e5,e6];unfold wQ;by_cases k2:h.ag=2
 ·rw [Bool.eq_iff_iff];simp [k2];grind
 ·by_cases k3:h.ag=3∨h.ag=5
  ·by_cases k9:h.ag=9
   ·omega
   ·rw [Bool.eq_iff_iff];simp [k2,k3,k9];grind
  ·by_cases k9:h.ag=9
   ·rw [Bool.eq_iff_iff];simp [k9];grind
   ·rw [Bool.eq_iff_iff];simp [k2,k3,k9];grind
theorem DY (p:Ph) (t:Ty) (hp:p.wt<=1099511627776):aV prog 232 [.agg (Gx p (eE t))] (.v (.bool (dC p cx fw cx))):=by
 obtain ⟨th,tps⟩:=t;refine eG 8 [.tmp 2] func232 rfl ntmps232 rfl fun _ _ _ _=>?_;refine cP Mw (n5 p fw cx cx hp (by decide) (wP cx cx (by decide) (by decide))) ?_;exact (rfl:_=_)
def aC (l:List Wd):List ByteArray:=l.map fun w=>w.s
noncomputable def enumP (l:List Wd):Nat->Ft
 | 0=>(0,0)
 | e + 1=>
  if (enumP l e).1≠0 then enumP l e
  else match l[e]? with
   | some w=>iE (aC (l.take (e + 1))) w.s w.a
   | none=>(0,0)
theorem pV {l:List Wd} {e:Nat} (h:(enumP l e).1≠0):∀ d,enumP l (e + d)=enumP l e
 | 0=>rfl
 | d + 1=>by
  have ih:=pV h d;rw [<- Nat.add_assoc,enumP,ih,ai h]
theorem BX {L:List ByteArray} {x:ByteArray} {a:Int} (h:(iE L x a).1=0):iE L x a=(0,0):=by
 unfold iE at *;split
 ·rename_i h1;rw [ai h1] at h;split
  ·rfl
  ·rename_i h2;rw [ah h2] at h;simp at h
 ·rename_i h1;rw [ah h1] at h;simp at h
theorem GI {l:List Wd}:∀ {e:Nat},(enumP l e).1=0->enumP l e=(0,0)
 | 0,_=>rfl
 | e + 1,h=>by
  rw [enumP] at h ⊢;split
  ·rename_i h1;rw [ai h1] at h;exact absurd h h1
  ·rename_i h1;rw [ah h1] at h;split
   ·rename_i w hw;rw [hw] at h;exact BX h
   ·rfl
theorem wR {l:List Wd} {e:Nat} {w:Wd} (h:(enumP l e).1=0) (hw:l[e]? = some w):enumP l (e + 1)=iE (aC (l.take (e + 1))) w.s w.a:=by
 rw [enumP,ah (by rw [h];simp),hw]
noncomputable def n7 (h:Hd):Ft:=
 if h.af.length=0 then (15,h.aX) else if 64 < h.af.length then (8,((h.af[64]?).getD (⟨ay,0⟩:Wd)).a) else enumP h.af h.af.length
abbrev MM (h:Hd) (ps:Pts) (n e:Nat):St:=
 ⟨[(1,⟨[],.loc 0 0⟩),(2,⟨[],.loc 1 0⟩),(27,⟨[],.sl 2 (bO h.af) none⟩),(28,⟨[],.v (.int .i64 (bO h.af).length)⟩),(29,⟨[],.v (.int .i64 e)⟩),(3,⟨[],.sl 1 (fl (aC (h.af.take e))) (some 0)⟩)],
  [eE (.mk h ps),[.v (.int .i64 0),.v (.int .i64 0)]],[⟨n,9,1,none⟩]⟩
theorem kk {l:List Wd} {e:Nat} {w:Wd} (h:l[e]? = some w):fl (aC (l.take e)) ++ [[DV.v (.string w.s)]]=fl (aC (l.take (e + 1))):=by
 rw [List.take_add_one,h];simp [fl,aC]
theorem GJ (h:Hd) (ps:Pts) (hs:wdsWt h.af<=1099511627776):aV prog 200 [.agg (eE (.mk h ps))] (n7 h).d:=by
 have hl:=bL h.af;refine eG 48 [.cell 2 45] func200 rfl ntmps200 rfl fun _ _ _ _=>?_;refine br ?_ ?_<;>intro h0
 ·have h0:h.af.length=0:=by have:=h0;simp [aA] at this;simp [this]
  refine cP eI (bM 15 h.aX) ?_;refine ⟨_,?_,rfl⟩;rw [n7,ai h0];exact ax
 have h0:¬ h.af.length=0:=by have:=h0;simp [aA] at this;simpa using this
 refine br ?_ ?_<;>intro h1
 ·have h1:64 < h.af.length:=by have:=h1;simp [aA] at this;omega
  obtain ⟨x,hx⟩:∃ x,h.af[64]? = some x:=⟨_,gE h1⟩;refine ⟨kH x,⟨by omega,aY hx⟩,?_⟩;refine cP eI (bM 8 x.a) ?_;refine ⟨_,?_,rfl⟩;rw [n7,ah h0,ai h1,hx];exact ax
 have h1:¬ 64 < h.af.length:=by have:=h1;simp [aA] at this;omega
 have hk:n7 h=enumP h.af h.af.length:=by rw [n7,ah h0,ah h1]
 rw [hk];refine lI (fun j st=>∃ e:Nat,st=MM h ps e e/\e<=h.af.length/\(enumP h.af e).1=0/\j=h.af.length - e) ⟨0,rfl,by omega,rfl,rfl⟩ (fJ ⟨0,9,1,none⟩ rfl ⟨_,rfl⟩ rfl wA rfl rfl mi) ?_;rintro j st ⟨e,rfl,he,hz,rfl⟩;refine br ?_ ?_<;>intro hL
 ·have ap:e < h.af.length:=by simpa [aA] using hL
  obtain ⟨w,hw⟩:=gX ap;have SM:=jk (mG hw);have re:=wR hz hw
  have MN:(aC (h.af.take (e + 1)))[(aC (h.af.take (e + 1))).length - 1]? = some w.s:=by
   have y7:(aC (h.af.take (e + 1))).length=e + 1:=by simp [aC];omega
   rw [y7];simp [aC,hw]
  refine ⟨kH w,⟨by omega,aY hw⟩,?_⟩;refine ⟨by simp [ct,aC];omega,⟨by simp [ct,aC,maxLen];omega,by simp [ct,aC];omega⟩,?_⟩;have dK:=kk hw;have TS:=ui (aC (h.af.take (e + 1))) w.s w.a MN (by simp [aC];omega) (by omega);rw [<- dK,<- re] at TS;refine cP SA TS ?_;refine br ?_ ?_<;>intro hf
  ·have hf:(enumP h.af (e + 1)).1≠0:=sU hf;refine ⟨_,?_,rfl⟩;have aW:=pV hf (h.af.length - (e + 1));rw [show e + 1 + (h.af.length - (e + 1))=h.af.length by omega] at aW;rw [aW];exact ax
  ·have hf:(enumP h.af (e + 1)).1=0:=sU hf;refine ⟨MM h ps (e + 1) (e + 1),(aj ⟨_,rfl⟩ wA rfl rfl rfl (wB2 (aJ ap (by omega)) dK)),h.af.length - (e + 1),by omega,e + 1,rfl,by omega,hf,rfl⟩
 ·have aQ:e=h.af.length:=by
   have:=hL;simp [aA] at this;omega
  subst aQ;have aW:=GI hz;refine ⟨_,?_,rfl⟩;rw [aW];exact ax
def YF (t:Ty) (depth m:Int) (r:DV) (os:List (List DV)) (_:List TkE):Prop:=
 r=(wrong t depth m).1.d/\∃ z:Int,os=[[.v (.int .i64 z)]]/\((wrong t depth m).1.1=0->z=(wrong t depth m).2)
theorem UF {t:Ty} {depth m:Int}:∀ r os tk,YF t depth m r os tk->clB 0 0 r=true/\∀ sc∈os,clB.clL 0 0 sc=true:=by
 rintro r os tk ⟨rfl,z,rfl,_⟩;refine ⟨rfl,fun sc h=>?_⟩;simp only [List.mem_singleton] at h;subst h;rfl
theorem Kc (t:Ty) (hc:Ev prog 160 [.loc 0 0,.agg (eE t),.v (.int .i64 1)] [[.v (.int .i64 0)]] [] (YF t 1 0)) :
  aV prog 96 [.agg (eE t)] (wrong t 1 0).1.d:=by
 obtain ⟨h,ps⟩:=t;refine eG 9 [.cell 2 45] func96 rfl ntmps96 rfl fun _ _ _ _=>?_;refine mJ Mr rfl rfl ax ax hc UF (fun r sc hr=>?_);obtain ⟨rfl,z,hz,_⟩:=hr;simp only [List.cons.injEq,and_true] at hz;subst hz;exact ⟨_,ax,rfl⟩
theorem wr (z:Int) (h1 : -9223372036854775808<=z) (h2:z<=9223372036854775807):IntKind.i64.wrap z=z:=by
 rw [IntKind.wrap_i64];omega
def Wj (z:Int):Prop:=-9223372036854775808<=z/\z<=9223372036854775807
mutual
def rngT:Ty->Prop
 | .mk h ps=>Wj h.lo/\Wj h.hi/\Wj h.most/\rngP ps
def rngP:Pts->Prop
 | .nil=>True
 | .cons p t r=>Wj p.wide/\Wj p.cn/\rngT t/\rngP r
end
end Go.Proofs.YtadhpeooehkklaaGreat
namespace Go.Proofs.YtadhpeooehkklaaGreat
namespace Dv
open Go Go.RowKit
def TypFs (f:TypeId->List DV->Prop):List TypeId->List DV->Prop
 | [],ds=>ds=[]
 | t :: r,ds=>∃ a b,ds=a ++ b/\f t a/\TypFs f r b
def Typ (P:Program):Nat->TypeId->List DV->Prop
 | 0,_,_=>False
 | n + 1,t,ds=>
  match P.underlying t with
  | some .bool=>∃ b,ds=[.v (.bool b)]
  | some (.int k)=>∃ z,ds=[.v (.int k z)]/\(Lit.int k z).wf=true
  | some .string=>∃ s:ByteArray,ds=[.v (.string s)]
  | some (.slice e)=>∃ es,ds=[.sl (P.cellsOf e) es none]/\∀ cs∈es,Typ P n e cs
  | some (.struct fs)=>TypFs (Typ P n) (fs.toList.map (·.type)) ds
  | _=>False
mutual
def wgD:DV->Nat
 | .v (.string s)=>s.size + 64
 | .sl _ es _=>64 + wgEs es
 | _=>64
def wgL:List DV->Nat
 | []=>0
 | d :: r=>wgD d + wgL r
def wgEs:List (List DV)->Nat
 | []=>0
 | cs :: r=>wgL cs + wgEs r
end
theorem fg:∀ a b:List DV,wgL (a ++ b)=wgL a + wgL b
 | [],b=>by simp [wgL]
 | d :: r,b=>by simp only [List.cons_append,wgL,fg r b];omega
def laidF (P:Program) (S:List TypeId):Nat->List Field->Nat->Bool
 | off,[],n=>decide (off=n)
 | off,f :: r,n=>decide (f.offset=off) && S.contains f.type && laidF P S (off + P.cellsOf f.type) r n
def lE (P:Program) (S:List TypeId) (t:TypeId):Bool:=
 match P.underlying t with
 | some .bool=>decide (P.cellsOf t=1)
 | some (.int _)=>decide (P.cellsOf t=1)
 | some .string=>decide (P.cellsOf t=1)
 | some (.slice e)=>decide (P.cellsOf t=1) && S.contains e && decide (0 < P.cellsOf e)
 | some (.struct fs)=>laidF P S 0 fs.toList (P.cellsOf t)
 | _=>false
def bkS {H:Type} (bk:DataW H->Nat):List (DataW H)->Nat
 | []=>0
 | d :: r=>bk d + bkS bk r
structure Bk {H:Type} (bk:DataW H->Nat):Prop where
 str:∀ l:List UInt8,l.length + 1<=bk (.lit (.string l))
 lit:∀ l,1<=bk (.lit l)
 nil:1<=bk .nil
 slice:∀ es sp,1 + bkS bk es<=bk (.slice es sp)
 agg:∀ l,bkS bk l<=bk (.agg l)
def F2 (w:World):En:=⟨fun a=>w.cell? a,[],[],[]⟩
theorem Qq (w:World):Env (F2 w) [] w where
 len:=rfl
 tl:=rfl
 fk:=by simp
 inj:=List.nodup_nil
 sub:=fun x u hx=>hx
 pc:=by simp [F2]
 cC:=by simp [F2]
 jE:=by simp [F2]
theorem Kd {w:World} {a:Addr} {k:Nat} {v:Value} (h:w.cell? (a.add k)=some v):w.cell? ⟨a.block,a.off + k,none⟩=some v:=by
 unfold Addr.add at h;split at h
 ·rename_i hk;subst hk;unfold World.cell? at h ⊢;split at h
  ·rename_i c e z he;split at h
   ·cases h
   ·simpa [he] using h
  ·cases h
 ·exact h
theorem Ke {w:World} {a:Addr} {v:Value} (h:w.cell? a=some v):a.spot=none:=by
 unfold World.cell? at h;split at h
 ·split at h
  ·cases h
  ·rename_i hs;simpa using hs
 ·cases h
theorem wS {E:En} {b:Nat}:∀ {p:Nat} {ds:List DV} {vs:List Value},RvL E.cl ds vs->(∀ (j:Nat) v,vs[j]? = some v->E.c ⟨b,p + j,none⟩=some v/\v.oneCell'=true)->RvAt E.cl b p ds
 | p,[],vs,h,hc=>by simp only [RvAt]
 | p,d :: r,vs,h,hc=>by
  simp only [RvL] at h;obtain ⟨v,s,rfl,h1,h2⟩:=h;simp only [RvAt];obtain ⟨c1,c2⟩:=hc 0 v rfl;refine ⟨⟨v,c1,c2,h1⟩,wS (p:=p + 1) h2 fun j u hj=>?_⟩;have:=hc (j + 1) u hj;rw [show p + 1 + j=p + (j + 1) by omega];exact this
section
variable {H:Type} {enc:TypeId × Value->H} {P:Program} {w:World} {sp:Nat->Bool} {held:Bool} {S:List TypeId} {bk:DataW H->Nat}
def Rd (enc:TypeId × Value->H) (P:Program) (w:World) (bk:DataW H->Nat) (n:Nat) (t:TypeId) (cs:List Value) (d:DataW H):Prop:=
 ∃ ds,RvL (F2 w) ds cs/\(∀ v∈cs,v.oneCell'=true)/\Typ P n t ds/\wgL ds<=64 * bk d/\cs.length=P.cellsOf t
theorem zZ {n:Nat} (ih:∀ t cs x,t∈S->DataW.trod enc P w 0 sp held n t cs=some x->Rd enc P w bk n t cs x.1) (cs:List Value) :
  ∀ (fs:List Field) (off:Nat) (xs:List (DataW H × List MemPlace)),laidF P S off fs cs.length=true->xs.length=fs.length ->
   (∀ (i:Nat) f,fs[i]? = some f->DataW.trod enc P w 0 sp held n f.type ((cs.drop f.offset).take (P.cellsOf f.type))=xs[i]?) ->
   ∃ ds,RvL (F2 w) ds (cs.drop off)/\(∀ v∈cs.drop off,v.oneCell'=true)/\TypFs (Typ P n) (fs.map (·.type)) ds/\wgL ds<=64 * bkS bk (xs.map (·.1))
 | [],off,xs,hl,C4,hx=>by
  simp only [laidF,decide_eq_true_eq] at hl;subst hl;simp only [List.length_nil,List.length_eq_zero_iff] at C4;subst C4;exact ⟨[],by simpa using c9 _,by simp,by simp [TypFs],by simp [wgL]⟩
 | f :: r,off,xs,hl,C4,hx=>by
  simp only [laidF,aP,decide_eq_true_eq] at hl;obtain ⟨⟨hof,hS⟩,hl⟩:=hl
  match xs,C4 with
  | x :: xs,C4=>
   have h0:=hx 0 f rfl;rw [hof] at h0;simp only [List.getElem?_cons_zero] at h0;obtain ⟨ds0,r1,r2,r3,r4,r5⟩:=ih f.type _ x (sU hS) h0;obtain ⟨ds1,s1,s2,s3,s4⟩:=zZ ih cs r (off + P.cellsOf f.type) xs hl (sU C4) (fun i g hg=>by simpa using hx (i + 1) g (sU hg))
   have MO:cs.drop off=(cs.drop off).take (P.cellsOf f.type) ++ cs.drop (off + P.cellsOf f.type):=by
    rw [<- List.drop_drop,List.take_append_drop]
   refine ⟨ds0 ++ ds1,?_,?_,?_,?_⟩
   ·rw [MO];exact RvL.append r1 s1
   ·rw [MO];intro v hv;rcases List.mem_append.1 hv with hv | hv
    ·exact r2 v hv
    ·exact s2 v hv
   ·simp only [List.map_cons,TypFs];exact ⟨ds0,ds1,rfl,r3,s3⟩
   ·rw [fg];simp only [List.map_cons,bkS];omega
theorem DZ {n e:Nat} (ih:∀ t cs x,t∈S->DataW.trod enc P w 0 sp held n t cs=some x->Rd enc P w bk n t cs x.1) (he:e∈S) (a:Addr) :
  ∀ (xs:List (DataW H × List MemPlace)) (i0:Nat),(∀ i,i < xs.length->(w.cells? 0 (a.add ((i0 + i) * P.cellsOf e)) (P.cellsOf e)).bind (DataW.trod enc P w 0 sp held n e)=xs[i]?) ->
   ∃ es,es.length=xs.length/\RvEs (F2 w) (P.cellsOf e) a.block (a.off + i0 * P.cellsOf e) es/\(∀ cs∈es,Typ P n e cs)/\wgEs es<=64 * bkS bk (xs.map (·.1))
 | [],i0,hx=>⟨[],rfl,by simp only [RvEs],by simp,by simp [wgEs]⟩
 | x :: xs,i0,hx=>by
  have h0:=hx 0 (by simp);simp only [Nat.add_zero,List.getElem?_cons_zero] at h0;obtain ⟨cs,dr,ht⟩:=Option.bind_eq_some_iff.1 h0;obtain ⟨_,hlen,qS⟩:=World.cells?_some dr;obtain ⟨ds0,r1,r2,r3,r4,r5⟩:=ih e cs x he ht
  obtain ⟨es,s1,s2,s3,s4⟩:=DZ ih he a xs (i0 + 1) (fun i hi=>by
   have:=hx (i + 1) (sU hi);simp only [List.getElem?_cons_succ] at this;rw [show i0 + 1 + i=i0 + (i + 1) by omega]
   exact this)
  refine ⟨ds0 :: es,by simp [s1],?_,?_,?_⟩
  ·simp only [RvEs];refine ⟨by rw [<- r1.length,hlen],wS (E:=F2 w) r1 fun j v hj=>⟨?_,r2 v (mG hj)⟩,?_⟩
   ·have nS:j < P.cellsOf e:=by rw [<- hlen];exact (gS hj).1
    have h1:=qS j nS;rw [hj,Deep.add_add] at h1;have h2:=Kd h1;show w.cell? _=_;rw [Nat.add_assoc];exact h2
   ·rw [Nat.add_assoc,show i0 * P.cellsOf e + P.cellsOf e=(i0 + 1) * P.cellsOf e by rw [Nat.add_mul,Nat.one_mul]];exact s2
  ·intro cs' hc;rcases bI hc with hc | hc
   ·subst hc;exact r3
   ·exact s3 cs' hc
  ·simp only [wgEs,List.map_cons,bkS];omega
theorem vi (Lz:Bk bk) (hS:∀ t∈S,lE P S t=true):∀ (n:Nat) (t:TypeId) (cs:List Value) (x:DataW H × List MemPlace),t∈S->DataW.trod enc P w 0 sp held n t cs=some x->Rd enc P w bk n t cs x.1
 | 0,t,cs,x,_,h=>by simp [DataW.trod] at h
 | n + 1,t,cs,x,ht,h=>by
  have hf:=hS t ht;unfold lE at hf;unfold Rd
  cases hu:P.underlying t with
  | none=>rw [hu] at hf;cases hf
  | some D=>
   rw [hu] at hf
   cases D with
   | bool=>
    simp only [decide_eq_true_eq] at hf;obtain ⟨b,rfl,rfl⟩:=DataW.trod_bool hu h;have:=Lz.lit (.bool b);exact ⟨[.v (.bool b)],rvL_one (by unfold Rv;exact ⟨rfl,rfl⟩),by simp [Value.oneCell'],by simp only [Typ,hu];exact ⟨b,rfl⟩,by simp only [wgL,wgD];omega,by simp [hf]⟩
   | int k=>
    simp only [decide_eq_true_eq] at hf;obtain ⟨z,rfl,rfl,hw⟩:=DataW.trod_int hu h;have:=Lz.lit (.int k z);exact ⟨[.v (.int k z)],rvL_one (by unfold Rv;exact ⟨rfl,rfl⟩),by simp [Value.oneCell'],by simp only [Typ,hu];exact ⟨z,rfl,hw⟩,by simp only [wgL,wgD];omega,by simp [hf]⟩
   | string=>
    simp only [decide_eq_true_eq] at hf;obtain ⟨s,rfl,rfl,hw⟩:=DataW.trod_string hu h;have:=Lz.str s.data.toList;have bQ:s.data.toList.length=s.size:=by rw [Array.length_toList];all_goals rfl
    exact ⟨[.v (.string s)],rvL_one (by unfold Rv;exact ⟨rfl,rfl⟩),by simp [Value.oneCell'],by simp only [Typ,hu];exact ⟨s,rfl⟩,by simp only [wgL,wgD];omega,by simp [hf]⟩
   | slice e=>
    simp only [aP,decide_eq_true_eq] at hf;obtain ⟨⟨LA,vU⟩,hf3⟩:=hf;rcases DataW.trod_slice hu h with ⟨rfl,rfl⟩ | ⟨a,len,cap,elems,rest,m,hm,rfl,rfl,_,V6,_,ez,hx,_,_⟩
    ·have:=Lz.nil;refine ⟨[.sl (P.cellsOf e) [] none],rvL_one ?_,by simp [Value.oneCell'],by simp only [Typ,hu];exact ⟨[],rfl,by simp⟩,by simp only [wgL,wgD,wgEs];omega,by simp [LA]⟩;unfold Rv;exact ⟨none,0,0,rfl,⟨rfl,aR _⟩,fun hc=>absurd rfl hc,fun k hk=>by cases hk⟩
    ·simp only [Nat.add_right_cancel_iff] at hm;subst hm;obtain ⟨es,s1,s2,s3,s4⟩:=DZ (fun t cs x=>vi Lz hS n t cs x) (sU vU) a elems 0 (fun i hi=>by simpa using hx i (by omega));have hb:=Lz.slice (elems.map (·.1)) (rest.map (·.1));refine ⟨[.sl (P.cellsOf e) es none],rvL_one ?_,by simp [Value.oneCell'],by simp only [Typ,hu];exact ⟨es,rfl,s3⟩,by simp only [wgL,wgD];omega,by simp [LA]⟩;unfold Rv;refine ⟨some a,len,cap,rfl,⟨by omega,V6⟩,fun bp=>⟨?_,?_⟩,fun k hk=>by cases hk⟩
     ·have jT:0 < len:=by
       rw [<- ez,<- s1];exact List.length_pos_iff.2 bp
      have h0:=hx 0 jT;rw [gE (by omega)] at h0;obtain ⟨cs,dr,_⟩:=Option.bind_eq_some_iff.1 h0;obtain ⟨_,hlen,qS⟩:=World.cells?_some dr;have h1:=qS 0 hf3;rw [gE (by omega),Deep.add_add] at h1;simp only [Nat.zero_mul,Nat.add_zero] at h1;exact Ke (a:=a) h1
     ·have s2':RvEs (F2 w) (P.cellsOf e) a.block a.off es:=sU s2;exact s2'
   | struct fs=>
    obtain ⟨xs,m,hm,rfl,hlen,C4,hx⟩:=DataW.trod_struct hu h;simp only [Nat.add_right_cancel_iff] at hm;subst hm;simp only at hf;obtain ⟨ds,s1,s2,s3,s4⟩:=zZ (fun t cs x=>vi Lz hS n t cs x) cs fs.toList 0 xs (by rw [hlen];exact hf) (sU C4) (fun i f hi=>hx i f (sU hi));have hb:=Lz.agg (xs.map (·.1));refine ⟨ds,by simpa using s1,by simpa using s2,by simp only [Typ,hu];exact s3,by simp only;omega,hlen⟩
   | _=>cases hf
end
theorem IK {P:Program} {n:Nat} {t:TypeId} {k:IntKind} {ds:List DV} (hu:P.underlying t=some (.int k)) (h:Typ P n t ds):∃ z,ds=[.v (.int k z)]/\(Lit.int k z).wf=true:=by
 cases n with
 | zero=>exact h.elim
 | succ n=>simp only [Typ,hu] at h;exact h
theorem MP {P:Program} {n:Nat} {t:TypeId} {ds:List DV} (hu:P.underlying t=some .bool) (h:Typ P n t ds):∃ b,ds=[.v (.bool b)]:=by
 cases n with
 | zero=>exact h.elim
 | succ n=>simp only [Typ,hu] at h;exact h
theorem BZ {P:Program} {n:Nat} {t:TypeId} {ds:List DV} (hu:P.underlying t=some .string) (h:Typ P n t ds):∃ s:ByteArray,ds=[.v (.string s)]:=by
 cases n with
 | zero=>exact h.elim
 | succ n=>simp only [Typ,hu] at h;exact h
theorem sQ {P:Program} {n:Nat} {t e:TypeId} {ds:List DV} (hu:P.underlying t=some (.slice e)) (h:Typ P n t ds):∃ m es,n=m + 1/\ds=[.sl (P.cellsOf e) es none]/\∀ cs∈es,Typ P m e cs:=by
 cases n with
 | zero=>exact h.elim
 | succ n=>
  simp only [Typ,hu] at h;obtain ⟨es,h1,h2⟩:=h;exact ⟨n,es,rfl,h1,h2⟩
theorem mN {P:Program} {n:Nat} {t:TypeId} {fs:Array Field} {ds:List DV} (hu:P.underlying t=some (.struct fs)) (h:Typ P n t ds):∃ m,n=m + 1/\TypFs (Typ P m) (fs.toList.map (·.type)) ds:=by
 cases n with
 | zero=>exact h.elim
 | succ n=>
  simp only [Typ,hu] at h;exact ⟨n,rfl,h⟩
theorem wf_i64 {z:Int} (h:(Lit.int .i64 z).wf=true) : -9223372036854775808<=z/\z<=9223372036854775807:=by
 simpa [Lit.wf,IntKind.min,IntKind.max,IntKind.signed,IntKind.bits] using h
end Dv
end Go.Proofs.YtadhpeooehkklaaGreat
set_option maxRecDepth 100000
namespace Go.Proofs.YtadhpeooehkklaaGreat
open Go Go.RowKit Dv Go.Proofs.Tryz
theorem GK:prog.cellsOf 27=2:=by kernel_rfl
theorem GL:prog.cellsOf 153=18:=by kernel_rfl
theorem sR {n:Nat} {ds:List DV} (h:Typ prog n 27 ds):∃ w:Wd,ds=kH w/\w.wt<=wgL ds:=by
 obtain ⟨m,_,hf⟩:=mN Tryz.underlying27 h;obtain ⟨a,b,rfl,h1,c,d,rfl,h2,rfl⟩:=hf;obtain ⟨s,rfl⟩:=BZ Tryz.underlying9 h1;obtain ⟨z,rfl,_⟩:=IK Tryz.underlying3 h2;exact ⟨⟨s,z⟩,rfl,by simp [wgL,wgD,Wd.wt]⟩
theorem MQ:∀ {m:Nat} {es:List (List DV)},(∀ cs∈es,Typ prog m 27 cs)->∃ l:List Wd,es=bO l/\wdsWt l<=wgEs es
 | m,[],h=>⟨[],rfl,by simp [wdsWt,wgEs]⟩
 | m,cs :: r,h=>by
  obtain ⟨w,rfl,hw⟩:=sR (h cs (by simp));obtain ⟨l,rfl,hl⟩:=MQ (m:=m) (es:=r) (fun c hc=>h c (de _ hc));exact ⟨w :: l,rfl,by simp only [wdsWt,wgEs];omega⟩
theorem vj {n:Nat} {ds:List DV} (h:Typ prog n 22 ds):∃ l:List Wd,ds=[.sl 2 (bO l) none]/\64 + wdsWt l<=wgL ds:=by
 obtain ⟨m,es,_,rfl,he⟩:=sQ Tryz.underlying22 h;obtain ⟨l,rfl,hl⟩:=MQ he;rw [GK];exact ⟨l,rfl,by simp only [wgL,wgD];omega⟩
theorem lV {n:Nat} {ds:List DV} (h:Typ prog n 3 ds):∃ z,ds=[.v (.int .i64 z)]/\Wj z:=by
 obtain ⟨z,rfl,hw⟩:=IK Tryz.underlying3 h;exact ⟨z,rfl,wf_i64 hw⟩
theorem MR {m:Nat} (ih:∀ k,k < m->∀ ds,Typ prog k 29 ds->∃ t:Ty,ds=eE t/\rngT t/\t.wt<=wgL ds) :
  ∀ {es:List (List DV)},(∀ cs∈es,Typ prog m 153 cs)->∃ ps:Pts,es=gA ps/\rngP ps/\ps.wt<=wgEs es
 | [],h=>⟨.nil,by simp [gA],by simp [rngP],by simp [Pts.wt]⟩
 | cs :: r,h=>by
  obtain ⟨ps,rfl,hr,hl⟩:=MR ih (es:=r) (fun c hc=>h c (de _ hc));obtain ⟨k,rfl,hf⟩:=mN Tryz.underlying153 (h cs (by simp));obtain ⟨a1,b1,rfl,h1,a2,b2,rfl,h2,a3,b3,rfl,h3,a4,b4,rfl,h4,a5,b5,rfl,h5,a6,b6,rfl,h6,rfl⟩:=hf;obtain ⟨nm,rfl,w1⟩:=sR h1;obtain ⟨bare,rfl⟩:=MP Tryz.underlying4 h2;obtain ⟨lab,rfl,w3⟩:=vj h3;obtain ⟨wide,rfl,r4⟩:=lV h4;obtain ⟨k5,_,hf5⟩:=mN Tryz.underlying151 h5;obtain ⟨c1,d1,rfl,g1,c2,d2,rfl,g2,c3,d3,rfl,g3,c4,d4,rfl,g4,rfl⟩:=hf5;obtain ⟨ck,rfl,_⟩:=lV g1;obtain ⟨cn,rfl,q2⟩:=lV g2;obtain ⟨ca,rfl,_⟩:=lV g3;obtain ⟨cl,rfl,w5⟩:=vj g4;obtain ⟨t,rfl,rt,wt⟩:=ih k (by omega) _ h6;refine ⟨.cons ⟨nm,bare,lab,wide,ck,cn,ca,cl⟩ t ps,?_,by simp only [rngP];exact ⟨r4,q2,rt,hr⟩,?_⟩
  ·simp only [gA,Gx,kH,List.cons_append,List.nil_append,List.append_nil]
  ·simp only [Pts.wt,Ph.wt,wgEs,fg,wgL,wgD,kH] at *;simp only [Wd.wt] at *;omega
theorem MS:∀ (n:Nat) (ds:List DV),Typ prog n 29 ds->∃ t:Ty,ds=eE t/\rngT t/\t.wt<=wgL ds:=by
 intro n
 induction n using Nat.strongRecOn with
 | _ n ih=>
  intro ds h;obtain ⟨m,rfl,hf⟩:=mN Tryz.underlying29 h;obtain ⟨a1,b1,rfl,h1,a2,b2,rfl,h2,a3,b3,rfl,h3,a4,b4,rfl,h4,a5,b5,rfl,h5,a6,b6,rfl,h6,a7,b7,rfl,h7,a8,b8,rfl,h8,rfl⟩:=hf;obtain ⟨ag,rfl,_⟩:=lV h1;obtain ⟨aX,rfl,_⟩:=lV h2;obtain ⟨lo,rfl,r3⟩:=lV h3;obtain ⟨hi,rfl,r4⟩:=lV h4;obtain ⟨most,rfl,r5⟩:=lV h5;obtain ⟨af,rfl,w6⟩:=vj h6;obtain ⟨k,es,rfl,rfl,gD⟩:=sQ Tryz.underlying25 h7;obtain ⟨ps,rfl,rp,wp⟩:=MR (fun j hj=>ih j (by omega)) gD;obtain ⟨nm,rfl,w8⟩:=sR h8;rw [GL];refine ⟨.mk ⟨ag,aX,lo,hi,most,af,nm⟩ ps,?_,by simp only [rngT];exact ⟨r3,r4,r5,rp⟩,?_⟩
  ·simp only [eE,kH,List.cons_append,List.nil_append,List.append_nil]
  ·simp only [Ty.wt,Hd.wt,fg,wgL,wgD,kH] at *;simp only [Wd.wt] at *;omega
end Go.Proofs.YtadhpeooehkklaaGreat
namespace Go.Proofs.YtadhpeooehkklaaGreat
namespace Dv
open Go Go.RowKit Go.ChangeShapes Go.WideShapes Go.ChangeAt
open Go.ChangeMaps (open_string shut_string)
section
variable {H:Type} {enc:TypeId × Value->H} {P:Program}
theorem pD (hl:laidOutB P=true) {W W':World} (hb:Below W.heap.size W W'):∀ {ts:List TypeId} {vs:List Value} {ds:List (DataW H)} {ps:List MemPlace},(∀ t∈ts,P.readableRec t=true/\t < P.types.size) ->
  DataW.TrodAll enc P W 0 (fun _=>true) true ts vs ds ps->(∀ x∈ps,x.block < W.heap.size)->DataW.TrodAll enc P W' 0 (fun b=>decide (b < W.heap.size)) true ts vs ds ps
 | [],[],[],_,_,h,_=>h
 | t :: ts,v :: vs,d :: ds,_,ht,⟨p,q,h1,h2,e⟩,ap=>by
  subst e;obtain ⟨r1,r2⟩:=ht t (by simp);exact ⟨p,q,Below.trod hl r1 r2 h1 hb (fun x hx=>ap x (List.mem_append_left _ hx)),pD hl hb (fun t pq=>ht t (by simp [pq])) h2 (fun x hx=>ap x (List.mem_append_right _ hx)),rfl⟩
theorem law_post {f:Func} {s:ChangeSpec} {tb:TypeId} (hl:laidOutB P=true) (L2:f.resultTypes = #[tb]) (htb:P.underlying tb=some .bool) (hv:s.vars=[]) (hts:∀ t∈f.params.toList,P.readableRec t=true/\t < P.types.size)
  {W W':World} {args:Array Value} {ds gs:List (DataW H)} {before:List MemPlace} (hW:DataW.Whole enc P f.params.toList s.vars false W args.toList ds gs before) (C5:s.fn H ds={ results:=[.lit (.bool true)],args:=ds }) (hb:Below W.heap.size W W') :
  s.post enc P f false true false false W args (.bool true) W':=by
 have hW':=hW;obtain ⟨p,q,hA,hV,rfl,hfz,hnd⟩:=hW;rw [hv] at hV;obtain ⟨rfl,rfl⟩:=trodVars_none hV;refine ⟨ds,[],p ++ [],[],p,[],hW',?_,?_,?_,hb.frame _,fun h=>by cases h⟩
 ·rw [List.append_nil,C5,L2];exact trodAll_cons_mk (shut_bool htb _) trodAll_mk0
 ·rw [List.append_nil,C5];exact pD hl hb hts hA (fun x hx=>hW'.lt x (List.mem_append_left _ hx))
 ·rw [List.append_nil,C5,hv];rfl
theorem GM {w w':World} {Φ:DV->List (List DV)->List TkE->Prop} {v:Value} (h:po false (F2 w) w Φ v w'):Below w.heap.size w w':=by
 obtain ⟨hm,_⟩:=h;refine ⟨hm.os,hm.tape,hm.output,hm.size,fun k hk=>hm.block k hk ?_⟩;rintro (h1 | ⟨y,h1,_⟩)
 ·simp [F2] at h1
 ·simp [F2] at h1
theorem calls_law {f:FuncId} {args:List DV} {vs:List Value} {w:World} (h:aV P f args (.v (.bool true))) (hv:RvL (F2 w) args vs) :
  Calls P f vs.toArray w fun e w'=>e = .returned (.bool true)/\Below w.heap.size w w':=by
 refine (h (F2 w) w vs (Qq w) rfl hv).mono ?_;rintro e w' ⟨v,rfl,he⟩;have hb:=GM he;obtain ⟨_,_,d,os,E,_,_,_,_,hr,rfl⟩:=he;unfold Rv at hr;rw [hr.1];exact ⟨rfl,hb⟩
variable {W:World} {base:Nat} {S:List TypeId} {bk:DataW H->Nat}
theorem arg_st (Lz:Bk bk) (hS:∀ t∈S,lE P S t=true) {t:TypeId} {fs:Array Field} {v:Value} {d:DataW H} {ps:List MemPlace} (ht:t∈S) (hu:P.underlying t=some (.struct fs))
  (hval:Value.okWide P W .any base t v) (h:DataW.Trod enc P W 0 (fun _=>true) true t v d ps):∃ n ds,Rv (F2 W) (.agg ds) v/\Typ P n t ds/\wgL ds<=64 * bk d:=by
 unfold Value.okWide at hval;rw [hu] at hval;obtain ⟨cs,rfl,_,_⟩:=hval;obtain ⟨n,hn⟩:=h;obtain ⟨ds,h1,h2,h3,h4,_⟩:=vi Lz hS n t _ _ ht hn;refine ⟨n,ds,?_,h3,h4⟩;unfold Rv;exact ⟨cs.toList,by simp,h1,h2⟩
end
end Dv
end Go.Proofs.YtadhpeooehkklaaGreat
namespace Go.Proofs.YtadhpeooehkklaaGreat
open Go Go.RowKit Dv
theorem GN {H:Type}:∀ l:List (DataW H),bkS Rows.uptoBulk l=Rows.uptoBulkAll l
 | []=>by simp [bkS,Rows.uptoBulkAll]
 | d :: r=>by simp only [bkS,Rows.uptoBulkAll,GN r]
theorem bk_ok {H:Type}:Bk (Rows.uptoBulk (H:=H)) where
 str:=fun l=>by simp [Rows.uptoBulk]
 lit:=fun l=>by cases l<;>simp [Rows.uptoBulk]
 nil:=by simp [Rows.uptoBulk]
 slice:=fun es sp=>by simp only [Rows.uptoBulk,GN];omega
 agg:=fun l=>by simp only [Rows.uptoBulk,GN];omega
theorem bulk_le {H:Type} {l:List (DataW H)} (hk:Rows.uptoSmall H l=true):Rows.uptoBulkAll l<=1048576:=of_decide_eq_true hk
theorem laid_out:laidOutB Tryz.prog=true:=by kernel_rfl
theorem own_knob:ownKnob Tryz.prog.godebug=none:=by kernel_rfl
def tyS:List TypeId:=[29,22,27,9,3,25,153,4,151]
end Go.Proofs.YtadhpeooehkklaaGreat
set_option maxRecDepth 100000
namespace Go.Proofs.YtadhpeooehkklaaGreat
open Go Go.RowKit Dv Go.Proofs.Tryz
def Pts.take:Nat->Pts->Pts
 | 0,_=>.nil
 | _ + 1,.nil=>.nil
 | e + 1,.cons p t r=>.cons p t (r.take e)
structure Sch where
 ae:List Wd
 order:List (Wd × Wd)
 types:List (Wd × Ty)
 root:Ty
def LB (p:Wd × Wd):List DV:=[.v (.string p.1.s),.v (.int .i64 p.1.a),.v (.string p.2.s),.v (.int .i64 p.2.a)]
def nD (l:List (Wd × Wd)):List (List DV):=l.map LB
def dNm (x:Wd × Ty):List DV:=.v (.string x.1.s) :: .v (.int .i64 x.1.a) :: eE x.2
def dNms (l:List (Wd × Ty)):List (List DV):=l.map dNm
def gk (s:Sch):List DV:=.sl 2 (bO s.ae) none :: .sl 4 (nD s.order) none :: .sl 11 (dNms s.types) none :: eE s.root
def prsWt:List (Wd × Wd)->Nat
 | []=>0
 | p :: r=>p.1.wt + p.2.wt + prsWt r
def nmsWt:List (Wd × Ty)->Nat
 | []=>0
 | p :: r=>p.1.wt + p.2.wt + nmsWt r
def Sch.wt (s:Sch):Nat:=wdsWt s.ae + prsWt s.order + nmsWt s.types + s.root.wt
theorem gJ (l:List (Wd × Wd)):(nD l).length=l.length:=by simp [nD]
theorem eo (l:List (Wd × Ty)):(dNms l).length=l.length:=by simp [dNms]
theorem iG {l:List (Wd × Wd)} {j:Nat} {p:Wd × Wd} (h:l[j]? = some p):(nD l)[j]? = some (LB p):=by simp [nD,h]
theorem dNms_get {l:List (Wd × Ty)} {j:Nat} {p:Wd × Ty} (h:l[j]? = some p):(dNms l)[j]? = some (dNm p):=by simp [dNms,h]
theorem jr:∀ l:List (Wd × Wd),128 * l.length<=prsWt l
 | []=>aR _
 | p :: r=>by have:=jr r;simp only [List.length_cons,prsWt,Wd.wt];omega
theorem km:∀ l:List (Wd × Ty),256 * l.length<=nmsWt l
 | []=>aR _
 | p :: r=>by have:=km r;have:=p.2.eJ;simp only [List.length_cons,nmsWt,Wd.wt];omega
theorem il:∀ {l:List (Wd × Ty)} {p:Wd × Ty},p∈l->p.1.wt + p.2.wt<=nmsWt l
 | x :: r,p,h=>by
  rcases bI h with h | h
  ·subst h;simp only [nmsWt];omega
  ·have:=il h;simp only [nmsWt];omega
def YG (s:Sch):Prop:=(∀ x∈s.types,rngT x.2)/\rngT s.root
theorem GO:prog.cellsOf 220=4:=by kernel_rfl
theorem D0:prog.cellsOf 87=11:=by kernel_rfl
theorem UG {n:Nat} {ds:List DV} (h:Typ prog n 220 ds):∃ p:Wd × Wd,ds=LB p/\p.1.wt + p.2.wt<=wgL ds:=by
 obtain ⟨m,_,hf⟩:=mN Tryz.underlying220 h;obtain ⟨a,b,rfl,h1,c,d,rfl,h2,rfl⟩:=hf;obtain ⟨x,rfl,w1⟩:=sR h1;obtain ⟨y,rfl,w2⟩:=sR h2;exact ⟨(x,y),rfl,by simp only [fg,wgL];omega⟩
theorem UH {n:Nat} {ds:List DV} (h:Typ prog n 87 ds):∃ p:Wd × Ty,ds=dNm p/\rngT p.2/\p.1.wt + p.2.wt<=wgL ds:=by
 obtain ⟨m,_,hf⟩:=mN Tryz.underlying87 h;obtain ⟨a,b,rfl,h1,c,d,rfl,h2,rfl⟩:=hf;obtain ⟨x,rfl,w1⟩:=sR h1;obtain ⟨y,rfl,r2,w2⟩:=MS _ _ h2;exact ⟨(x,y),by simp [dNm,kH],r2,by simp only [fg,wgL];omega⟩
theorem MT:∀ {m:Nat} {es:List (List DV)},(∀ cs∈es,Typ prog m 220 cs)->∃ l:List (Wd × Wd),es=nD l/\prsWt l<=wgEs es
 | m,[],h=>⟨[],rfl,by simp [prsWt,wgEs]⟩
 | m,cs :: r,h=>by
  obtain ⟨w,rfl,hw⟩:=UG (h cs (by simp));obtain ⟨l,rfl,hl⟩:=MT (m:=m) (es:=r) (fun c hc=>h c (de _ hc));exact ⟨w :: l,rfl,by simp only [prsWt,wgEs];omega⟩
theorem MU:∀ {m:Nat} {es:List (List DV)},(∀ cs∈es,Typ prog m 87 cs)->∃ l:List (Wd × Ty),es=dNms l/\(∀ x∈l,rngT x.2)/\nmsWt l<=wgEs es
 | m,[],h=>⟨[],rfl,by simp,by simp [nmsWt,wgEs]⟩
 | m,cs :: r,h=>by
  obtain ⟨w,rfl,hr,hw⟩:=UH (h cs (by simp));obtain ⟨l,rfl,hlr,hl⟩:=MU (m:=m) (es:=r) (fun c hc=>h c (de _ hc));refine ⟨w :: l,rfl,fun x hx=>?_,by simp only [nmsWt,wgEs];omega⟩;rcases bI hx with rfl | hx
  ·exact hr
  ·exact hlr x hx
theorem typ_sch {n:Nat} {ds:List DV} (h:Typ prog n 31 ds):∃ s:Sch,ds=gk s/\YG s/\s.wt<=wgL ds:=by
 obtain ⟨m,_,hf⟩:=mN Tryz.underlying31 h;obtain ⟨a1,b1,rfl,h1,a2,b2,rfl,h2,a3,b3,rfl,h3,a4,b4,rfl,h4,rfl⟩:=hf;obtain ⟨l1,rfl,w1⟩:=vj h1;obtain ⟨m2,es2,_,rfl,he2⟩:=sQ Tryz.underlying23 h2;obtain ⟨l2,rfl,w2⟩:=MT he2;obtain ⟨m3,es3,_,rfl,he3⟩:=sQ Tryz.underlying24 h3;obtain ⟨l3,rfl,r3,w3⟩:=MU he3;obtain ⟨t,rfl,r4,w4⟩:=MS _ _ h4;rw [GO,D0];refine ⟨⟨l1,l2,l3,t⟩,by simp [gk],⟨r3,r4⟩,?_⟩;simp only [Sch.wt,fg,wgL,wgD] at *;omega
end Go.Proofs.YtadhpeooehkklaaGreat
namespace Go.Proofs.YtadhpeooehkklaaGreat
open Go Go.RowKit Dv
def tySS:List TypeId:=31 :: 23 :: 220 :: 24 :: 87 :: tyS
theorem tySS_ok:∀ t∈tySS,lE Tryz.prog tySS t=true:=by
 have h:(tySS.all fun t=>lE Tryz.prog tySS t)=true:=by kernel_rfl
 exact fun t ht=>List.all_eq_true.1 h t ht
set_option maxRecDepth 100000
noncomputable abbrev PP:Program:=Tryz.pinned.checked.prog
def dft:OpenClaim:={ program := "",sum := "",func := "",spec := "" }
theorem and_ok {a b:Bool} (ha:a=true) (hb:b=true):(a && b)=true:=by rw [ha,hb];all_goals rfl
theorem g_laid:laidOutB PP=true:=laid_out
theorem g_maps:mapsRowed PP=true:=by kernel_rfl
theorem g_stops:(PP.stops == [])=true:=by kernel_rfl
theorem g_knobs:(PP.stopKnobs == [])=true:=by kernel_rfl
theorem g_heard:PP.stopsHeard=true:=by kernel_rfl
theorem g_enter:PP.mayEnter=true:=by kernel_rfl
theorem g_lifts:(dft.lifted == PP.liftsFinal)=true:=by kernel_rfl
theorem g_keys:(true == PP.plainKeys)=true:=by kernel_rfl
theorem g_make:(PP.make == some dft.make)=true:=by kernel_rfl
end Go.Proofs.YtadhpeooehkklaaGreat
set_option maxRecDepth 100000
namespace Go.Proofs.YtadhpeooehkklaaGreat
open Go Go.RowKit Dv Go.Proofs.Tryz
theorem D1 (x b:Nat):(x:Int).fdiv (2 ^ b)=((x / 2 ^ b:Nat):Int):=by
 rw [Int.fdiv_eq_ediv_of_nonneg _ (by exact Int.le_of_lt (Int.pow_pos (by decide)))];simp
theorem jt (m:Nat):BitVec.ofInt 64 (m:Int)=BitVec.ofNat 64 m:=by simp
theorem IL {x b:Nat} (hb:b < 64) (hx:x < 18446744073709551616) :
  decide (IntKind.u64.wrap ((BitVec.ofInt 64 ((x:Int).fdiv (2 ^ (min b 64))) &&& BitVec.ofInt 64 1).toNat:Int)=1)=x.testBit b:=by
 rw [Nat.min_eq_left (by omega),D1,jt,show (BitVec.ofInt 64 1)=BitVec.ofNat 64 1 by decide,BitVec.toNat_and,BitVec.toNat_ofNat,BitVec.toNat_ofNat,Nat.testBit_eq_decide_div_mod_eq];have h1:x / 2 ^ b < 18446744073709551616:=Nat.lt_of_le_of_lt (Nat.div_le_self _ _) hx;rw [Nat.mod_eq_of_lt h1,show (1 % 2 ^ 64:Nat)=1 by decide,Nat.and_one_is_mod];simp only [IntKind.wrap_u64];congr 1;apply propext;omega
theorem GP {x b:Nat} (hb:b < 64) (hx:x < 18446744073709551616) :
  IntKind.u64.wrap ((BitVec.ofInt 64 (x:Int) ||| BitVec.ofInt 64 (IntKind.u64.wrap (1 * 2 ^ (min b 64)))).toNat:Int)=((x ||| 2 ^ b:Nat):Int):=by
 have h2:2 ^ b < 18446744073709551616:=by
  have:2 ^ b<=2 ^ 63:=Nat.pow_le_pow_right (by decide) (by omega);omega
 have e1:IntKind.u64.wrap (1 * 2 ^ (min b 64))=((2 ^ b:Nat):Int):=by
  rw [Nat.min_eq_left (by omega),Int.one_mul];have:((2:Int) ^ b)=((2 ^ b:Nat):Int):=by simp
  rw [this];generalize 2 ^ b=z at h2;simp only [IntKind.wrap_u64];omega
 rw [e1,jt,jt,BitVec.toNat_or,BitVec.toNat_ofNat,BitVec.toNat_ofNat,Nat.mod_eq_of_lt hx,Nat.mod_eq_of_lt h2];have h3:x ||| 2 ^ b < 18446744073709551616:=Nat.or_lt_two_pow (n:=64) hx h2
 simp only [IntKind.wrap_u64];omega
theorem Qr {x y:Nat} (hx:x < 18446744073709551616) (hy:y < 18446744073709551616) :
  IntKind.u64.wrap ((BitVec.ofInt 64 (x:Int) ||| BitVec.ofInt 64 (y:Int)).toNat:Int)=((x ||| y:Nat):Int):=by
 rw [jt,jt,BitVec.toNat_or,BitVec.toNat_ofNat,BitVec.toNat_ofNat,Nat.mod_eq_of_lt hx,Nat.mod_eq_of_lt hy];have h3:x ||| y < 18446744073709551616:=Nat.or_lt_two_pow (n:=64) hx hy
 simp only [IntKind.wrap_u64];omega
theorem iH (x a b:Nat):(x ||| 2 ^ b).testBit a=(x.testBit a || decide (b=a)):=by
 rw [Nat.testBit_or,Nat.testBit_two_pow]
def dU (rows:List Nat):List (List DV):=rows.map fun (x:Nat)=>[DV.v (.int .u64 (x:Int))]
theorem lF (rows:List Nat):(dU rows).length=rows.length:=by simp [dU]
theorem UI {rows:List Nat} {i:Nat} {x:Nat} (h:rows[i]? = some x):(dU rows)[i]? = some [DV.v (.int .u64 (x:Int))]:=by simp [dU,h]
abbrev nE (rows:List Nat):DV:=.pt [.sl 1 (dU rows) none] 0
def eV (rows:List Nat):Prop:=rows.length<=64/\∀ x∈rows,x < 18446744073709551616
def bd (rows:List Nat) (a b:Nat):Bool:=(rows.getD a 0).testBit b
def hasB (rows:List Nat) (a b:Int):Bool:=decide (0<=a) && decide (a < rows.length) && decide (0<=b) && decide (b < rows.length) && bd rows a.toNat b.toNat
theorem z6 (rows:List Nat):aV prog 150 [nE rows] (.v (.int .i64 rows.length)):=by
 refine eG 10 [.tmp 2] func150 rfl ntmps150 rfl fun _ _ _ _=>?_;refine (congrArg (fun z=>DV.v (.int .i64 z)) ?_:_=_);rw [lF]
theorem oS (rows:List Nat) (hr:eV rows) (a b:Int):aV prog 154 [nE rows,.v (.int .i64 a),.v (.int .i64 b)] (.v (.bool (hasB rows a b))):=by
 have hl:=z6 rows;refine eG 38 [.tmp 6] func154 rfl ntmps154 rfl fun _ _ _ _=>?_;refine br ?_ ?_<;>intro g1
 ·have g1:0<=a:=sU g1;refine cP Mo hl ?_;refine br ?_ ?_<;>intro g2
  ·obtain ⟨g2,g3⟩:a < rows.length/\0<=b:=by
    cases h:decide (a < (rows.length:Int))<;>simp [pickB,h] at g2<;>exact ⟨by simpa using h,g2⟩
   refine cP Mo hl ?_;refine br ?_ ?_<;>intro g4
   ·have g4:b < rows.length:=by simpa [pickB,g2,g3] using g4
    obtain ⟨x,hx⟩:∃ x,rows[a.toNat]? = some x:=⟨_,gE (by omega)⟩;have Pz:=hr.2 x (mG hx);have hr1:=hr.1;refine ⟨_,⟨g1,UI hx⟩,?_⟩;refine ⟨g3,?_⟩;refine (congrArg (fun b=>DV.v (.bool b)) ?_:_=_);have Lt:rows.getD a.toNat 0=x:=getD_some hx
    have e1:hasB rows a b=x.testBit b.toNat:=by
     unfold hasB bd;rw [Lt];simp [g1,g2,g3,g4]
    rw [e1];exact IL (x:=x) (b:=b.toNat) (by omega) Pz
   ·have g4:¬ b < rows.length:=by simpa [pickB,g2,g3] using g4
    refine (congrArg (fun b=>DV.v (.bool b)) ?_:_=_);simp [pickB,g2,g3,g4,hasB]
  ·have g5:¬ (a < rows.length/\0<=b):=by
    rintro ⟨h1,h2⟩;simp [pickB,h1,h2] at g2
   refine (congrArg (fun b=>DV.v (.bool b)) ?_:_=_);cases h:decide (a < (rows.length:Int))<;>simp [pickB,h,hasB] at g2 ⊢
   intro _ h0;omega
 ·have g1:¬ 0<=a:=sU g1;refine (congrArg (fun b=>DV.v (.bool b)) ?_:_=_);simp [g1,hasB]
def backN (rows:List Nat) (a:Nat):Nat->Nat
 | 0=>0
 | e + 1=>if bd rows a e && bd rows e a then backN rows a e ||| 2 ^ e else backN rows a e
theorem wT (rows:List Nat) (a:Nat):∀ e,backN rows a e < 2 ^ e
 | 0=>by simp [backN]
 | e + 1=>by
  have ih:=wT rows a e;have h2:2 ^ e < 2 ^ (e + 1):=Nat.pow_lt_pow_right (by decide) (by omega);simp only [backN];split
  ·exact Nat.or_lt_two_pow (by omega) h2
  ·omega
theorem sS (rows:List Nat) (a b:Nat):∀ e,(backN rows a e).testBit b=(decide (b < e) && (bd rows a b && bd rows b a))
 | 0=>by simp [backN]
 | e + 1=>by
  have ih:=sS rows a b e;simp only [backN];by_cases qV:b=e
  ·subst qV;cases hx:(bd rows a b && bd rows b a)
   ·simp [ih,hx]
   ·simp [iH]
  ·have h1:decide (b < e + 1)=decide (b < e):=by congr 1;apply propext;omega
   rw [h1,<- ih];split
   ·rw [iH,decide_eq_false (Ne.symm qV),Bool.or_false]
   ·rfl
abbrev UJ (rows:List Nat) (a e:Nat):St:=
 ⟨[(0,⟨[],nE rows⟩),(1,⟨[],.v (.int .i64 a)⟩),(5,⟨[],.v (.int .u64 (backN rows a e:Nat))⟩),(11,⟨[],.v (.int .i64 (dU rows).length)⟩),(12,⟨[],.v (.int .i64 e)⟩)],[],[]⟩
theorem rf {rows:List Nat} {a b:Nat} (ha:a < rows.length) (hb:b < rows.length):hasB rows a b=bd rows a b:=by
 simp [hasB,ha,hb]
theorem GQ (rows:List Nat) (hr:eV rows) (a:Nat) (ha:a < rows.length):aV prog 152 [nE rows,.v (.int .i64 a)] (.v (.int .u64 (backN rows a rows.length:Nat))):=by
 have hr1:=hr.1;refine eG 31 [.tmp 4] func152 rfl ntmps152 rfl fun _ _ _ _=>?_;refine lJ (fun e=>UJ rows a e) rows.length (aj ⟨_,rfl⟩ wA rfl rfl rfl wB) ?_;intro e he;refine br ?_ ?_<;>intro hL
 ·have ap:e < rows.length:=by have:=hL;simp [lF] at this;exact this
  have h1:=oS rows hr a e;have h2:=oS rows hr e a;rw [rf ha ap] at h1;rw [rf ap ha] at h2;have hbl:=wT rows a e
  have UK:backN rows a e < 18446744073709551616:=by
   have:2 ^ e<=2 ^ 64:=Nat.pow_le_pow_right (by decide) (by omega);omega
  have YH:=GP (x:=backN rows a e) (b:=e) (by omega) UK;have hs:backN rows a (e + 1)=if bd rows a e && bd rows e a then backN rows a e ||| 2 ^ e else backN rows a e:=rfl
  refine cP IB h1 ?_;refine br ?_ ?_<;>intro g1
  ·have g1:bd rows a e=true:=sU g1;refine cP IB h2 ?_;refine br ?_ ?_<;>intro g2
   ·have g2:bd rows e a=true:=by simpa [pickB,g1] using g2
    rw [g1,g2] at hs;have hs:backN rows a (e + 1)=backN rows a e ||| 2 ^ e:=hs
    refine ⟨by omega,?_⟩;exact rE ⟨_,by omega,e + 1,rfl,by omega,rfl⟩ (aj ⟨_,rfl⟩ wA rfl rfl rfl (by repeat' (first | exact trivial | exact az rfl | exact aD (aJ ap (by omega)) | exact aD (YH.trans (by rw [hs])) | refine ⟨⟨_,rfl,?_⟩,?_⟩)))
   ·have g2:bd rows e a=false:=by simpa [pickB,g1] using g2
    rw [g1,g2] at hs;have hs:backN rows a (e + 1)=backN rows a e:=hs;exact rE ⟨_,by omega,e + 1,rfl,by omega,rfl⟩ (aj ⟨_,rfl⟩ wA rfl rfl rfl (by repeat' (first | exact trivial | exact az rfl | exact aD (aJ ap (by omega)) | exact aD (by rw [hs]) | refine ⟨⟨_,rfl,?_⟩,?_⟩)))
  ·have g1:bd rows a e=false:=sU g1;rw [g1] at hs;have hs:backN rows a (e + 1)=backN rows a e:=hs;exact rE ⟨_,by omega,e + 1,rfl,by omega,rfl⟩ (aj ⟨_,rfl⟩ wA rfl rfl rfl (by repeat' (first | exact trivial | exact az rfl | exact aD (aJ ap (by omega)) | exact aD (by rw [hs]) | refine ⟨⟨_,rfl,?_⟩,?_⟩)))
 ·have aQ:e=rows.length:=by have:=hL;simp [lF] at this;omega
  subst aQ;exact (rfl:_=_)
def cU (rows:List Nat):List DV:=rows.map fun (x:Nat)=>DV.v (.int .u64 (x:Int))
theorem pW (rows:List Nat):(cU rows).length=rows.length:=by simp [cU]
theorem MV {rows:List Nat} {i x:Nat} (h:rows[i]? = some x):(cU rows)[i]? = some (DV.v (.int .u64 (x:Int))):=by simp [cU,h]
theorem MW (rows:List Nat) (i x:Nat):(cU rows).set i (DV.v (.int .u64 (x:Int)))=cU (rows.set i x):=by simp [cU,List.map_set]
theorem ri (rows:List Nat):(dU rows).flatten=cU rows:=by
 induction rows with
 | nil=>rfl
 | cons x r ih=>simp only [dU,cU,List.map_cons,List.flatten_cons] at ih ⊢;rw [ih];all_goals rfl
theorem IM {n m:Nat} {tk:List TkE}:∀ l:List Nat,WeL n m tk (cU l) (cU l)
 | []=>rfl
 | b :: r=>⟨_,_,rfl,az rfl,IM r⟩
theorem B0 {n m:Nat} {tk:List TkE} {l:List DV} {ds:List Nat} (h:l=cU ds):WeL n m tk l (cU ds):=by rw [h];exact IM ds
def dNP (p:Nat × Nat):List DV:=[.v (.int .i64 (p.1:Int)),.v (.int .i64 (p.2:Int))]
def mO (l:List (Nat × Nat)):List (List DV):=l.map dNP
theorem iI (l:List (Nat × Nat)):(mO l).length=l.length:=by simp [mO]
theorem wU {l:List (Nat × Nat)} {i:Nat} {p:Nat × Nat} (h:l[i]? = some p):(mO l)[i]? = some (dNP p):=by simp [mO,h]
def wV (rows:List Nat) (p:Nat × Nat):List Nat:=rows.set p.1 (rows.getD p.1 0 ||| 2 ^ p.2)
def fO (n:Nat) (l:List (Nat × Nat)):List Nat:=l.foldl wV (List.replicate n 0)
theorem Kf (n:Nat) (l:List (Nat × Nat)) (e:Nat) {p:Nat × Nat} (h:l[e]? = some p):fO n (l.take (e + 1))=wV (fO n (l.take e)) p:=by
 unfold fO;rw [List.take_add_one,h];simp
theorem rj (rows:List Nat) (p:Nat × Nat):(wV rows p).length=rows.length:=by simp [wV]
theorem kJ (n:Nat):∀ (l:List (Nat × Nat)),(fO n l).length=n:=by
 intro l
 have:∀ (l:List (Nat × Nat)) (r:List Nat),(l.foldl wV r).length=r.length:=by
  intro l
  induction l with
  | nil=>intro r;rfl
  | cons p l ih=>intro r;rw [List.foldl_cons,ih,rj]
 rw [fO,this];simp
theorem Qs {rows:List Nat} {p:Nat × Nat} (h:eV rows) (hp:p.1 < rows.length) (hq:p.2 < 64):eV (wV rows p):=by
 refine ⟨by rw [rj];exact h.1,fun x hx=>?_⟩;rcases List.mem_or_eq_of_mem_set hx with hx | rfl
 ·exact h.2 x hx
 ·refine Nat.or_lt_two_pow (n:=64) ?_ (Nat.pow_lt_pow_right (by decide) hq);rw [aF,gE hp];exact h.2 _ (List.getElem_mem hp)
theorem B1 {n:Nat} (hn:n<=64):∀ (l:List (Nat × Nat)),(∀ p∈l,p.1 < n/\p.2 < n)->eV (fO n l):=by
 intro l hl
 have:∀ (l:List (Nat × Nat)) (r:List Nat),r.length=n->eV r->(∀ p∈l,p.1 < n/\p.2 < n)->eV (l.foldl wV r):=by
  intro l
  induction l with
  | nil=>intro r _ h _;exact h
  | cons p l ih=>
   intro r hr h hp;have:=hp p (by simp);exact ih _ (by rw [rj,hr]) (Qs h (by omega) (by omega)) (fun q hq=>hp q (by simp [hq]))
 refine this l _ (by simp) ⟨by simp [hn],fun x hx=>?_⟩ hl;rw [List.mem_replicate] at hx;omega
abbrev MX (n:Nat) (l:List (Nat × Nat)) (rows:List Nat) (e:Nat):St:=
 ⟨[(0,⟨[],.v (.int .i64 n)⟩),(6,⟨[],.loc 1 0⟩),(19,⟨[],.sl 2 (mO l) none⟩),(20,⟨[],.v (.int .i64 (mO l).length)⟩),(21,⟨[],.v (.int .i64 e)⟩)],
  [cU rows,[.ms 0 1 0 n n]],[]⟩
theorem Kg (n:Nat) (hn:n<=64) (l:List (Nat × Nat)) (hl:∀ p∈l,p.1 < n/\p.2 < n) (hb:l.length<=1099511627776) :
  aV prog 90 [.v (.int .i64 n),.sl 2 (mO l) none] (.tup [nE (fO n l),.v (.bool true)]):=by
 refine eG 60 [.tmp 4,.tmp 5] func90 rfl ntmps90 rfl fun _ _ _ _=>?_;refine br ?_ ?_<;>intro g
 ·exfalso;simp [aw] at g;omega
 refine ⟨⟨rfl,by omega,by omega,by omega⟩,?_⟩
 have h0:(List.replicate (n:Int).toNat [DV.v (.int .u64 0)]).flatten=cU (fO n (l.take 0)):=by
  simp [fO,cU]
 refine lJ (fun e=>MX n l (fO n (l.take e)) e) l.length (au 2 rfl (by repeat' (first | exact rfl | exact az rfl | exact B0 h0 | refine ⟨_,_,rfl,?_,?_⟩)) rfl rfl rfl (by repeat' (first | exact trivial | exact az rfl | exact B0 h0 | refine ⟨⟨_,rfl,?_⟩,?_⟩))) ?_;intro e he;refine br ?_ ?_<;>intro hL
 ·have ap:e < l.length:=by have:=hL;simp [iI] at this;exact this
  obtain ⟨p,hp⟩:=gX ap;obtain ⟨p1,p2⟩:=hl p (mG hp);refine iX (wU hp) ?_;refine ⟨⟨by decide,by decide⟩,?_⟩;refine ⟨⟨by decide,by decide⟩,?_⟩;refine br ?_ ?_<;>intro g
  ·refine ⟨⟨by decide,by decide⟩,?_⟩;refine ⟨⟨by decide,by decide⟩,?_⟩;refine br ?_ ?_<;>intro g2
   ·exfalso;simp [pickB] at g2;omega
   obtain ⟨x,hx⟩:∃ x,(fO n (l.take e))[p.1]? = some x:=⟨_,gE (by rw [kJ];exact p1)⟩;have bw:=B1 hn (l.take e) (fun q hq=>hl q (List.mem_of_mem_take hq));have Pz:=bw.2 x (mG hx);have BB:0 + (p.1:Int).toNat * 1=p.1:=by omega
   refine dS ?_;refine ⟨⟨by decide,by decide⟩,?_⟩;refine ⟨⟨by omega,by omega⟩,?_⟩;refine ⟨_,(by rw [BB];exact MV hx:(cU (fO n (l.take e)))[0 + (p.1:Int).toNat * 1]? = some _),?_⟩;refine ⟨⟨by decide,by decide⟩,?_⟩;refine ⟨by omega,?_⟩;refine ⟨⟨by omega,by omega⟩,?_⟩;refine ⟨by rw [BB,pW,kJ];omega,?_⟩
   have dr:(cU (fO n (l.take e))).set (0 + (p.1:Int).toNat * 1) (DV.v (.int .u64 (IntKind.u64.wrap ((BitVec.ofInt 64 (x:Int) ||| BitVec.ofInt 64 (IntKind.u64.wrap (1 * 2 ^ (min (p.2:Int).toNat 64)))).toNat:Int))))=cU (fO n (l.take (e + 1))):=by
    rw [BB,show ((p.2:Int).toNat)=p.2 by omega,GP (by omega) Pz,MW,Kf n l e hp];simp only [wV];rw [getD_some hx]
   refine ⟨MX n l (fO n (l.take (e + 1))) (e + 1),(au 2 rfl (by repeat' (first | exact rfl | exact az rfl | exact B0 dr | exact aD (aJ ap (by omega)) | refine ⟨_,_,rfl,?_,?_⟩)) rfl rfl rfl (by repeat' (first | exact trivial | exact az rfl | exact B0 dr | exact aD (aJ ap (by omega)) | refine ⟨⟨_,rfl,?_⟩,?_⟩))),l.length - (e + 1),by omega,e + 1,rfl,by omega,rfl⟩
  ·exfalso;simp [pickB] at g;omega
 ·have aQ:e=l.length:=by have:=hL;simp [iI] at this;omega
  subst aQ;rw [List.take_length];refine ⟨_,?_,rfl⟩;have hlen:=kJ n l;generalize fO n l=rows at hlen ⊢;refine ⟨_,rfl,_,_,rfl,.inr ⟨1,_,rfl,Nat.zero_le _,rfl,_,_,rfl,.inr (.inr (.inl ⟨0,0,n,cU rows,by rw [lF,hlen],Nat.zero_le _,rfl,?_,?_,?_⟩)),rfl⟩,_,_,rfl,rfl,rfl⟩
  ·rw [ri,lF,Nat.mul_one,List.drop_zero,List.take_of_length_le (by rw [pW];omega)]
  ·intro x hx;simp only [dU,List.mem_map] at hx;obtain ⟨y,_,rfl⟩:=hx;rfl
  ·intro x hx;rw [ri] at hx;simp only [cU,List.mem_map] at hx;obtain ⟨y,_,rfl⟩:=hx;exact ⟨_,rfl⟩
def j1 (rows:List Nat) (k:Nat):List Nat:=rows.set k (rows.getD k 0 ||| 2 ^ k)
def pF (k:Nat) (rows:List Nat) (a:Nat):List Nat:=if bd rows a k then rows.set a (rows.getD a 0 ||| rows.getD k 0) else rows
def iJ (rows:List Nat) (k e:Nat):List Nat:=(List.range e).foldl (pF k) (j1 rows k)
def closeR (rows:List Nat) (e:Nat):List Nat:=(List.range e).foldl (fun r k=>iJ r k r.length) rows
theorem MY {rows:List Nat} {i x:Nat} (h:eV rows) (hx:x < 18446744073709551616):eV (rows.set i x):=by
 refine ⟨by rw [List.length_set];exact h.1,fun y hy=>?_⟩;rcases List.mem_or_eq_of_mem_set hy with hy | rfl
 ·exact h.2 y hy
 ·exact hx
theorem mP {rows:List Nat} (h:eV rows) (i:Nat):rows.getD i 0 < 18446744073709551616:=by
 rw [aF]
 cases hx:rows[i]? with
 | none=>simp
 | some x=>exact h.2 x (mG hx)
theorem MZ {rows:List Nat} {k:Nat} (h:eV rows) (hk:k < 64):eV (j1 rows k):=
 MY h (Nat.or_lt_two_pow (n:=64) (mP h k) (Nat.pow_lt_pow_right (by decide) hk))
theorem Kh (rows:List Nat) (k:Nat):(j1 rows k).length=rows.length:=by simp [j1]
theorem M0 {rows:List Nat} {k a:Nat} (h:eV rows):eV (pF k rows a):=by
 unfold pF;split
 ·exact MY h (Nat.or_lt_two_pow (n:=64) (mP h a) (mP h k))
 ·exact h
theorem Ki (rows:List Nat) (k a:Nat):(pF k rows a).length=rows.length:=by
 unfold pF;split<;>simp
theorem mQ (rows:List Nat) (k e:Nat):iJ rows k (e + 1)=pF k (iJ rows k e) e:=by simp [iJ,List.range_succ]
theorem oT (rows:List Nat) (k:Nat):∀ e,(iJ rows k e).length=rows.length
 | 0=>by simp [iJ,Kh]
 | e + 1=>by rw [mQ,Ki,oT]
theorem wW {rows:List Nat} {k:Nat} (h:eV rows) (hk:k < 64):∀ e,eV (iJ rows k e)
 | 0=>by simpa [iJ] using MZ h hk
 | e + 1=>by rw [mQ];exact M0 (wW h hk e)
theorem lm (rows:List Nat) (e:Nat):closeR rows (e + 1)=iJ (closeR rows e) e (closeR rows e).length:=by simp [closeR,List.range_succ]
theorem fQ (rows:List Nat):∀ e,(closeR rows e).length=rows.length
 | 0=>by simp [closeR]
 | e + 1=>by rw [lm,oT,fQ]
theorem lW {rows:List Nat} (h:eV rows):∀ e,e<=64->eV (closeR rows e)
 | 0,_=>by simpa [closeR] using h
 | e + 1,he=>by rw [lm];exact wW (lW h e (by omega)) (by omega) _
def spU (m:Nat):List DV:=(List.replicate m (vL [Value.int .u64 0])).flatten
theorem wX {n m:Nat} {tk:List TkE}:∀ l:List DV,(∀ x∈l,∃ y,x = .v y)->WeL n m tk l l
 | [],_=>rfl
 | b :: r,h=>by
  obtain ⟨y,rfl⟩:=h b (by simp);exact ⟨_,_,rfl,az rfl,wX r (fun x hx=>h x (by simp [hx]))⟩
theorem gx {n m:Nat} {tk:List TkE} {l:List DV} {ds:List Nat} {k:Nat} (h:l=cU ds ++ spU k):WeL n m tk l (cU ds ++ spU k):=by
 rw [h];refine wX _ fun x hx=>?_;rcases List.mem_append.1 hx with hx | hx
 ·simp only [cU,List.mem_map] at hx;obtain ⟨y,_,rfl⟩:=hx;exact ⟨_,rfl⟩
 ·simp only [spU,List.mem_flatten,List.mem_replicate] at hx;obtain ⟨y,⟨_,rfl⟩,hx⟩:=hx;simp [vL] at hx;exact ⟨_,hx⟩
theorem B2 {r:List Nat} {k i x:Nat} (h:r[i]? = some x):(cU r ++ spU k)[0 + (i:Int).toNat * 1]? = some (DV.v (.int .u64 (x:Int))):=by
 rw [show 0 + (i:Int).toNat * 1=i by omega,cj (by rw [pW];exact (gS h).1)];exact MV h
theorem M1 {r:List Nat} {k i x:Nat} (h:i < r.length):(cU r ++ spU k).set (0 + (i:Int).toNat * 1) (DV.v (.int .u64 (x:Int)))=cU (r.set i x) ++ spU k:=by
 rw [show 0 + (i:Int).toNat * 1=i by omega,List.set_append_left _ _ (by rw [pW];exact h),MW]
theorem M3 {r:List Nat} {k i:Nat} (h:i < r.length):0 + (i:Int).toNat * 1 + 1<=(cU r ++ spU k).length:=by
 rw [List.length_append,pW];omega
abbrev clSt (rows:List Nat) (cap:Nat) (r:List Nat) (e:Nat):St:=
 ⟨[(3,⟨[],.loc 1 0⟩),(19,⟨[],.v (.int .i64 (dU rows).length)⟩),(20,⟨[],.v (.int .i64 e)⟩)],[cU r ++ spU (cap - (dU rows).length),[.ms 0 1 0 (dU rows).length cap]],[]⟩
abbrev YI (rows:List Nat) (cap:Nat) (r:List Nat) (e f:Nat):St:=
 ⟨[(3,⟨[],.loc 1 0⟩),(4,⟨[],.v (.int .i64 e)⟩),(19,⟨[],.v (.int .i64 (dU rows).length)⟩),(20,⟨[],.v (.int .i64 e)⟩),(38,⟨[],.v (.int .i64 (dU rows).length)⟩),(39,⟨[],.v (.int .i64 f)⟩)],[cU r ++ spU (cap - (dU rows).length),[.ms 0 1 0 (dU rows).length cap]],[]⟩
theorem pX {l:List Nat} {i:Nat} (h:i < l.length):l[i]? = some (l.getD i 0):=sO h
theorem um (rows:List Nat) (hr:eV rows) (h0:rows ≠ []):aV prog 92 [nE rows] (nE (closeR rows rows.length)):=by
 have hr1:=hr.1;have hN:=lF rows;have kX:0 < rows.length:=List.length_pos_iff.2 h0;refine vb (s:=false) (bt:=[]) (mu:=[12]) (hbt:=fun p hp=>by cases hp) (fr:=false) (P:=prog) tt zP 5000 72 [.tmp 2] func92 rfl ntmps92 rfl (nL rfl) (fun _ _ _ _=>?_);refine ⟨⟨by intro h;exact h0 (by simpa [dU] using h),by rw [lF];simp [maxLen];omega,by rw [lF];omega⟩,fun cap JN=>?_⟩
 have iB:(dU rows).flatten.append (List.replicate (cap - (dU rows).length) (vL [Value.int .u64 0])).flatten=cU (closeR rows 0) ++ spU (cap - (dU rows).length):=by
  show (dU rows).flatten ++ _=_;rw [ri];rfl
 refine lJ (fun e=>clSt rows cap (closeR rows e) e) rows.length (au 2 rfl (ny iB) rfl rfl rfl (dt iB)) ?_;intro e he;have bw:=lW hr e (by omega);have hlen:=fQ rows e;have SN:=lm rows e;generalize hce:closeR rows e=r at bw hlen SN ⊢;refine br ?_ ?_<;>intro hL
 ·have ap:e < rows.length:=by have:=hL;simp [hN] at this;exact this
  have hx:=pX (l:=r) (i:=e) (by omega);have YH:=GP (x:=r.getD e 0) (b:=e) (by omega) (mP bw e);refine dS ?_;refine ⟨⟨by omega,by omega⟩,?_⟩;refine ⟨_,B2 hx,?_⟩;refine ⟨by omega,?_⟩;refine ⟨⟨by omega,by omega⟩,?_⟩;refine ⟨M3 (by omega),?_⟩
  have py:(cU r ++ spU (cap - (dU rows).length)).set (0 + (e:Int).toNat * 1) (DV.v (.int .u64 (IntKind.u64.wrap ((BitVec.ofInt 64 ((r.getD e 0:Nat):Int) ||| BitVec.ofInt 64 (IntKind.u64.wrap (1 * 2 ^ (min (e:Int).toNat 64)))).toNat:Int))))=cU (iJ r e 0) ++ spU (cap - (dU rows).length):=by
   rw [show min (e:Int).toNat 64=min e 64 by omega,YH,M1 (by omega)];rfl
  refine lJ (fun f=>YI rows cap (iJ r e f) e f) rows.length (au 2 rfl (ny py) rfl rfl rfl (dt py)) ?_;intro f hf;have UL:=wW (k:=e) bw (by omega) f;have nv:=oT r e f;have YE:=mQ r e f;have dO:e < (iJ r e f).length:=by rw [nv];omega
  refine br ?_ ?_<;>intro hL
  ·have F3:f < rows.length:=by have:=hL;simp [hN] at this;exact this
   have hpf:f < (iJ r e f).length:=by rw [nv];omega
   generalize iJ r e f=q at UL nv YE dO hpf ⊢;have hy:=pX hpf;have hz:=pX dO;have M4:=IL (x:=q.getD f 0) (b:=e) (by omega) (mP UL f);have YH:=Qr (mP UL f) (mP UL e);refine ⟨⟨by omega,by omega⟩,?_⟩;refine ⟨_,B2 hy,?_⟩;refine ⟨by omega,?_⟩;refine br ?_ ?_<;>intro g
   ·have g:bd q f e=true:=M4.symm.trans g;refine dS ?_;refine ⟨⟨by omega,by omega⟩,?_⟩;refine ⟨_,B2 hy,?_⟩;refine ⟨⟨by omega,by omega⟩,?_⟩;refine ⟨_,B2 hz,?_⟩;refine ⟨⟨by omega,by omega⟩,?_⟩;refine ⟨M3 hpf,?_⟩
    have lh:(cU q ++ spU (cap - (dU rows).length)).set (0 + (f:Int).toNat * 1) (DV.v (.int .u64 (IntKind.u64.wrap ((BitVec.ofInt 64 ((q.getD f 0:Nat):Int) ||| BitVec.ofInt 64 ((q.getD e 0:Nat):Int)).toNat:Int))))=cU (iJ r e (f + 1)) ++ spU (cap - (dU rows).length):=by
     rw [YH,M1 hpf,YE,pF,ai g]
    exact rE ⟨_,by omega,f + 1,rfl,by omega,rfl⟩ (au 2 rfl (gF lh (aJ F3 (by omega))) rfl rfl rfl (wB2 lh (aJ F3 (by omega))))
   ·have g:bd q f e=false:=M4.symm.trans g
    have lh:cU q ++ spU (cap - (dU rows).length)=cU (iJ r e (f + 1)) ++ spU (cap - (dU rows).length):=by
     rw [YE,pF,ah (by rw [g];decide)]
    exact rE ⟨_,by omega,f + 1,rfl,by omega,rfl⟩ (au 2 rfl (gF lh (aJ F3 (by omega))) rfl rfl rfl (wB2 lh (aJ F3 (by omega))))
  ·have aQ:f=rows.length:=sW hN hL;subst aQ
   have R1:cU (iJ r e rows.length) ++ spU (cap - (dU rows).length)=cU (closeR rows (e + 1)) ++ spU (cap - (dU rows).length):=by
    rw [SN,hlen]
   exact rE ⟨_,by omega,e + 1,rfl,by omega,rfl⟩ (au 2 rfl (gF R1 (aJ ap (by omega))) rfl rfl rfl (wB2 R1 (aJ ap (by omega))))
 ·have aQ:e=rows.length:=sW hN hL;subst aQ;refine ⟨_,?_,rfl⟩;rw [hce];refine .inr ⟨1,_,rfl,Nat.zero_le _,rfl,_,_,rfl,.inr (.inr (.inl ⟨0,0,cap,cU r ++ spU (cap - (dU rows).length),by rw [lF r,hlen,hN],Nat.zero_le _,rfl,?_,?_,?_⟩)),rfl⟩
  ·rw [ri,lF,Nat.mul_one,List.drop_zero,List.take_append_of_le_length (by rw [pW];omega),List.take_of_length_le (by rw [pW];omega)]
  ·intro x hx;simp only [dU,List.mem_map] at hx;obtain ⟨y,_,rfl⟩:=hx;rfl
  ·intro x hx;rw [ri] at hx;simp only [cU,List.mem_map] at hx;obtain ⟨y,_,rfl⟩:=hx;exact ⟨_,rfl⟩
theorem lX {a b c d:Nat} (ha:a < 256) (hb:b < 256):(a + 256 * c) &&& (b + 256 * d)=(a &&& b) + 256 * (c &&& d):=by
 have h1:a &&& b < 256:=Nat.and_lt_two_pow (n:=8) a hb;apply Nat.eq_of_testBit_eq;intro i
 have e (x y:Nat) (hx:x < 256):(x + 256 * y).testBit i=if i < 8 then x.testBit i else y.testBit (i - 8):=by
  rw [show x + 256 * y=2 ^ 8 * y + x by omega,Nat.testBit_two_pow_mul_add _ (sU hx)]
 rw [Nat.testBit_and,e a c ha,e b d hb,e _ _ h1];split<;>simp [Nat.testBit_and]
def b1 (x:Nat):Nat:=((x / 2) &&& 85) + (x &&& 85)
def b2 (x:Nat):Nat:=((x / 4) &&& 51) + (x &&& 51)
def b3 (x:Nat):Nat:=((x / 16) + x) &&& 15
def pop8 (x:Nat):Nat:=b3 (b2 (b1 x))
theorem IP:∀ x:Fin 256,b1 x.val < 256/\b2 (b1 x.val) < 120/\pop8 x.val<=8/\pop8 x.val=(((((((x.val.testBit 0).toNat + (x.val.testBit 1).toNat) + (x.val.testBit 2).toNat) + (x.val.testBit 3).toNat) + (x.val.testBit 4).toNat) + (x.val.testBit 5).toNat) + (x.val.testBit 6).toNat) + (x.val.testBit 7).toNat:=by decide +kernel
def valB:List Nat->Nat
 | []=>0
 | a :: r=>a + 256 * valB r
def rep (m:Nat):Nat->Nat
 | 0=>0
 | n + 1=>m + 256 * rep m n
theorem m1:∀ (a:Fin 256) (c:Fin 2),(a.val / 2 + 128 * c.val) &&& 85=(a.val / 2) &&& 85:=by decide +kernel
theorem m2:∀ (a:Fin 256) (c:Fin 4),(a.val / 4 + 64 * c.val) &&& 51=(a.val / 4) &&& 51:=by decide +kernel
theorem qC:∀ l:List Nat,(∀ a∈l,a < 256)->((valB l / 2) &&& rep 85 l.length) + (valB l &&& rep 85 l.length)=valB (l.map b1)
 | [],_=>rfl
 | a :: r,h=>by
  have ih:=qC r (fun x hx=>h x (by simp [hx]));have ha:=h a (by simp);have e1:(a + 256 * valB r) / 2=(a / 2 + 128 * (valB r % 2)) + 256 * (valB r / 2):=by omega
  have hm:=m1 ⟨a,ha⟩ ⟨valB r % 2,by omega⟩;simp only at hm;simp only [valB,List.length_cons,rep,List.map_cons,b1];rw [e1,lX (by omega) (by decide),lX ha (by decide),hm,<- ih];omega
theorem DA:∀ l:List Nat,(∀ a∈l,a < 256)->((valB l / 4) &&& rep 51 l.length) + (valB l &&& rep 51 l.length)=valB (l.map b2)
 | [],_=>rfl
 | a :: r,h=>by
  have ih:=DA r (fun x hx=>h x (by simp [hx]));have ha:=h a (by simp);have e1:(a + 256 * valB r) / 4=(a / 4 + 64 * (valB r % 4)) + 256 * (valB r / 4):=by omega
  have hm:=m2 ⟨a,ha⟩ ⟨valB r % 4,by omega⟩;simp only at hm;simp only [valB,List.length_cons,rep,List.map_cons,b2];rw [e1,lX (by omega) (by decide),lX ha (by decide),hm,<- ih];omega
theorem YJ (x y:Nat):(x + 16 * y) &&& 15=x &&& 15:=by
 have h (z:Nat):z &&& 15=z % 16:=Nat.and_two_pow_sub_one_eq_mod z 4;rw [h,h];omega
def D2 (a:Nat):Prop:=a < 70/\a % 16<=4
theorem st3:∀ l:List Nat,(∀ a∈l,D2 a)->((valB l / 16) + valB l) &&& rep 15 l.length=valB (l.map b3)
 | [],_=>rfl
 | a :: r,h=>by
  have ih:=st3 r (fun x hx=>h x (by simp [hx]));have ha:=h a (by simp)
  have hc:valB r % 16<=4:=by
   cases r with
   | nil=>simp [valB]
   | cons b s=>
    have:=(h b (by simp)).2;simp only [valB];omega
  unfold D2 at ha;have e1:(a + 256 * valB r) / 16 + (a + 256 * valB r)=((a / 16 + a) + 16 * (valB r % 16)) + 256 * (valB r / 16 + valB r):=by omega
  simp only [valB,List.length_cons,rep,List.map_cons,b3];rw [e1,lX (by omega) (by decide),YJ,ih]
def fh (x:Nat):List Nat:=[x % 256,x / 256 % 256,x / 65536 % 256,x / 16777216 % 256,x / 4294967296 % 256,x / 1099511627776 % 256,x / 281474976710656 % 256,x / 72057594037927936 % 256]
theorem GR {x:Nat} (h:x < 18446744073709551616):valB (fh x)=x:=by
 simp only [fh,valB];omega
theorem Kj (x:Nat):∀ a∈fh x,a < 256:=by
 intro a ha;simp only [fh,List.mem_cons,List.not_mem_nil,or_false] at ha;omega
def GS (x:Nat):Nat:=((fh x).map pop8).sum
theorem D3:∀ a:Fin 256,b1 a.val < 256/\b2 (b1 a.val) < 70/\b2 (b1 a.val) % 16<=4:=by decide +kernel
theorem B3 {x m:Nat} (hx:x < 18446744073709551616) (hm:m < 18446744073709551616) :
  IntKind.u64.wrap ((BitVec.ofInt 64 (x:Int) &&& BitVec.ofInt 64 (m:Int)).toNat:Int)=((x &&& m:Nat):Int):=by
 rw [jt,jt,BitVec.toNat_and,BitVec.toNat_ofNat,BitVec.toNat_ofNat,Nat.mod_eq_of_lt hx,Nat.mod_eq_of_lt hm];have h3:x &&& m < 18446744073709551616:=Nat.and_lt_two_pow (n:=64) x hm;simp only [IntKind.wrap_u64];omega
theorem GU {x:Nat} {k:Int} (hk:k.toNat < 64):(x:Int).fdiv (2 ^ min k.toNat IntKind.u64.bits)=((x / 2 ^ k.toNat:Nat):Int):=by
 rw [show min k.toNat IntKind.u64.bits=k.toNat from Nat.min_eq_left (by show k.toNat<=64;omega),D1]
theorem B4 {y:Nat} (h:y < 18446744073709551616):IntKind.u64.wrap (y:Int)=(y:Int):=by
 simp only [IntKind.wrap_u64];omega
theorem YK {k M:Int} {m x y:Nat} (hk:k.toNat < 64) (hx:x < 18446744073709551616) (hM:M=(m:Int)) (hm:m < 18446744073709551616) (hy:((x / 2 ^ k.toNat) &&& m) + (x &&& m)=y) (kZ:y < 18446744073709551616) :
  IntKind.u64.wrap (IntKind.u64.wrap ((BitVec.ofInt IntKind.u64.bits ((x:Int).fdiv (2 ^ min k.toNat IntKind.u64.bits)) &&& BitVec.ofInt IntKind.u64.bits M).toNat:Int) + IntKind.u64.wrap ((BitVec.ofInt IntKind.u64.bits (x:Int) &&& BitVec.ofInt IntKind.u64.bits M).toNat:Int))=(y:Int):=by
 subst hM;have h1:x / 2 ^ k.toNat < 18446744073709551616:=Nat.lt_of_le_of_lt (Nat.div_le_self _ _) hx;have e1:IntKind.u64.wrap ((BitVec.ofInt IntKind.u64.bits ((x / 2 ^ k.toNat:Nat):Int) &&& BitVec.ofInt IntKind.u64.bits (m:Int)).toNat:Int)=_:=B3 h1 hm;have e2:IntKind.u64.wrap ((BitVec.ofInt IntKind.u64.bits (x:Int) &&& BitVec.ofInt IntKind.u64.bits (m:Int)).toNat:Int)=_:=B3 hx hm;rw [GU hk,e1,e2,<- Int.natCast_add,hy,B4 kZ]
theorem stgB {k M:Int} {m x y:Nat} (hk:k.toNat < 64) (hs:x / 2 ^ k.toNat + x < 18446744073709551616) (hM:M=(m:Int)) (hm:m < 18446744073709551616) (hy:((x / 2 ^ k.toNat) + x) &&& m=y) :
  IntKind.u64.wrap ((BitVec.ofInt IntKind.u64.bits (IntKind.u64.wrap ((x:Int).fdiv (2 ^ min k.toNat IntKind.u64.bits) + (x:Int))) &&& BitVec.ofInt IntKind.u64.bits M).toNat:Int)=(y:Int):=by
 subst hM;have e2:IntKind.u64.wrap ((BitVec.ofInt IntKind.u64.bits ((x / 2 ^ k.toNat + x:Nat):Int) &&& BitVec.ofInt IntKind.u64.bits (m:Int)).toNat:Int)=_:=B3 hs hm;rw [GU hk,<- Int.natCast_add,B4 hs,e2,hy]
theorem UM {k:Int} {x:Nat} (hk:k.toNat < 64) (hs:x + x / 2 ^ k.toNat < 18446744073709551616) :
  IntKind.u64.wrap ((x:Int) + (x:Int).fdiv (2 ^ min k.toNat IntKind.u64.bits))=((x + x / 2 ^ k.toNat:Nat):Int):=by
 rw [GU hk,<- Int.natCast_add,B4 hs]
theorem IQ:∀ l:List Nat,(∀ a∈l,a < 256)->valB l < 256 ^ l.length
 | [],_=>by simp [valB]
 | a :: r,h=>by
  have ih:=IQ r (fun x hx=>h x (by simp [hx]));have ha:=h a (by simp);simp only [valB,List.length_cons,Nat.pow_succ];omega
theorem M5 {x:Nat} (hx:x < 18446744073709551616):∃ y1 y2 y3:Nat,((x / 2) &&& 6148914691236517205) + (x &&& 6148914691236517205)=y1/\y1 < 18446744073709551616/\((y1 / 4) &&& 3689348814741910323) + (y1 &&& 3689348814741910323)=y2/\y2 / 16 + y2 < 18446744073709551616/\y2 < 18446744073709551616 /\
  ((y2 / 16) + y2) &&& 1085102592571150095=y3/\∃ p0 p1 p2 p3 p4 p5 p6 p7:Nat,y3=valB [p0,p1,p2,p3,p4,p5,p6,p7]/\(p0<=8/\p1<=8/\p2<=8/\p3<=8/\p4<=8/\p5<=8/\p6<=8/\p7<=8)/\GS x=p0 + p1 + p2 + p3 + p4 + p5 + p6 + p7:=by
 have hl:=Kj x;have s1:=qC (fh x) hl;rw [GR hx] at s1
 have l1:∀ a∈(fh x).map b1,a < 256:=by
  intro a ha;obtain ⟨b,hb,rfl⟩:=List.mem_map.1 ha;exact (D3 ⟨b,hl b hb⟩).1
 have l2:∀ a∈((fh x).map b1).map b2,D2 a:=by
  intro a ha;obtain ⟨c,hc,rfl⟩:=List.mem_map.1 ha;obtain ⟨b,hb,rfl⟩:=List.mem_map.1 hc;exact (D3 ⟨b,hl b hb⟩).2
 have s2:=DA ((fh x).map b1) l1;have s3:=st3 (((fh x).map b1).map b2) l2
 have v1:valB ((fh x).map b1) < 18446744073709551616:=by
  have:=IQ _ l1;rw [List.length_map,show (fh x).length=8 from rfl] at this;simpa using this
 rw [show rep 85 (fh x).length=6148914691236517205 from (by decide:rep 85 8=_)] at s1;rw [List.length_map,show rep 51 (fh x).length=3689348814741910323 from (by decide:rep 51 8=_)] at s2;rw [List.length_map,List.length_map,show rep 15 (fh x).length=1085102592571150095 from (by decide:rep 15 8=_)] at s3;refine ⟨_,_,_,s1,v1,s2,?_,?_,s3,_,_,_,_,_,_,_,_,rfl,?_,?_⟩
 ·have:=l2;simp only [fh,List.map_cons,List.map_nil,List.mem_cons,List.not_mem_nil,or_false,forall_eq_or_imp,forall_eq,D2,valB] at this ⊢;omega
 ·have:=l2;simp only [fh,List.map_cons,List.map_nil,List.mem_cons,List.not_mem_nil,or_false,forall_eq_or_imp,forall_eq,D2,valB] at this ⊢;omega
 ·have h (b:Nat) (hb:b < 256):=(IP ⟨b,hb⟩).2.2.1;exact ⟨h _ (by omega),h _ (by omega),h _ (by omega),h _ (by omega),h _ (by omega),h _ (by omega),h _ (by omega),h _ (by omega)⟩
 ·simp only [GS,fh,List.map_cons,List.map_nil,List.sum_cons,List.sum_nil,pop8];omega
theorem dr1 {a r:Nat} (h:a < 256):(a + 256 * r) / 256=r:=by omega
theorem dr2 {a b r:Nat} (h:a < 256) (h2:b < 256):(a + 256 * (b + 256 * r)) / 65536=r:=by omega
theorem dr4 {a b c d r:Nat} (h:a < 256) (h2:b < 256) (h3:c < 256) (h4:d < 256):(a + 256 * (b + 256 * (c + 256 * (d + 256 * r)))) / 4294967296=r:=by omega
theorem M6 {p0 p1 p2 p3 p4 p5 p6 p7:Nat} (hp:p0<=8/\p1<=8/\p2<=8/\p3<=8/\p4<=8/\p5<=8/\p6<=8/\p7<=8):∃ z1 z2 z3:Nat,
  (p0 + 256 * (p1 + 256 * (p2 + 256 * (p3 + 256 * (p4 + 256 * (p5 + 256 * (p6 + 256 * (p7 + 256 * 0)))))))) + (p0 + 256 * (p1 + 256 * (p2 + 256 * (p3 + 256 * (p4 + 256 * (p5 + 256 * (p6 + 256 * (p7 + 256 * 0)))))))) / 256=z1/\z1 < 18446744073709551616 /\
  z1 + z1 / 65536=z2/\z2 < 18446744073709551616/\z2 + z2 / 4294967296=z3/\z3 < 18446744073709551616/\z3 % 128=p0 + p1 + p2 + p3 + p4 + p5 + p6 + p7:=by
 refine ⟨(p0 + p1) + 256 * ((p1 + p2) + 256 * ((p2 + p3) + 256 * ((p3 + p4) + 256 * ((p4 + p5) + 256 * ((p5 + p6) + 256 * ((p6 + p7) + 256 * p7)))))),
  (p0 + p1 + p2 + p3) + 256 * ((p1 + p2 + p3 + p4) + 256 * ((p2 + p3 + p4 + p5) + 256 * ((p3 + p4 + p5 + p6) + 256 * ((p4 + p5 + p6 + p7) + 256 * ((p5 + p6 + p7) + 256 * ((p6 + p7) + 256 * p7)))))),
  (p0 + p1 + p2 + p3 + p4 + p5 + p6 + p7) + 256 * ((p1 + p2 + p3 + p4 + p5 + p6 + p7) + 256 * ((p2 + p3 + p4 + p5 + p6 + p7) + 256 * ((p3 + p4 + p5 + p6 + p7) + 256 * ((p4 + p5 + p6 + p7) + 256 * ((p5 + p6 + p7) + 256 * ((p6 + p7) + 256 * p7)))))),?_,by omega,?_,by omega,?_,by omega,by omega⟩
 ·rw [dr1 (by omega)];omega
 ·rw [dr2 (by omega) (by omega)];omega
 ·rw [dr4 (by omega) (by omega) (by omega) (by omega)];omega
theorem M7 {z:Nat} (h:z < 18446744073709551616):IntKind.i64.wrap ((BitVec.ofInt IntKind.i64.bits (IntKind.i64.wrap (z:Int)) &&& BitVec.ofInt IntKind.i64.bits 127).toNat:Int)=((z % 128:Nat):Int):=by
 have e1:BitVec.ofInt 64 (IntKind.i64.wrap (z:Int))=BitVec.ofNat 64 z:=by
  apply BitVec.eq_of_toNat_eq;rw [BitVec.toNat_ofInt,BitVec.toNat_ofNat,IntKind.wrap_i64];omega
 have e2:(BitVec.ofInt 64 (IntKind.i64.wrap (z:Int)) &&& BitVec.ofInt 64 127).toNat=z % 128:=by
  rw [e1,show BitVec.ofInt 64 127=BitVec.ofNat 64 127 by decide,BitVec.toNat_and,BitVec.toNat_ofNat,BitVec.toNat_ofNat,Nat.mod_eq_of_lt h];exact Nat.and_two_pow_sub_one_eq_mod z 7
 have e3:(BitVec.ofInt IntKind.i64.bits (IntKind.i64.wrap (z:Int)) &&& BitVec.ofInt IntKind.i64.bits 127).toNat=z % 128:=e2;rw [e3,IntKind.wrap_i64];omega
theorem Kl (x:Nat) (hx:x < 18446744073709551616):aV prog 151 [.v (.int .u64 x)] (.v (.int .i64 (GS x:Nat))):=by
 obtain ⟨y1,y2,y3,h1,R6,h2,h2s,h2b,h3,p0,p1,p2,p3,p4,p5,p6,p7,h4,hp,h5⟩:=M5 hx;rw [h5];simp only [valB] at h4;refine eG 35 [.tmp 2] func151 rfl ntmps151 rfl fun _ _ _ _=>?_;refine ⟨by decide,?_⟩;refine ⟨by decide,?_⟩;refine ⟨by decide,?_⟩;refine ⟨by decide,?_⟩;refine ⟨by decide,?_⟩;refine ⟨by decide,?_⟩;refine (congrArg (fun z=>DV.v (.int .i64 z)) ?_:_=_);rw [YK (k:=1) (M:=6148914691236517205) (by decide) hx rfl (by decide) h1 R6,YK (k:=2) (M:=3689348814741910323) (by decide) R6 rfl (by decide) h2 h2b,stgB (k:=4) (M:=1085102592571150095) (by decide) h2s rfl (by decide) h3];obtain ⟨z1,z2,z3,g1,g1b,g2,g2b,g3,g3b,g4⟩:=M6 hp;rw [<- h4] at g1;have k1:y3 + y3 / 2 ^ (8:Int).toNat=z1:=g1;rw [UM (k:=8) (by decide) (by rw [k1];exact g1b),k1];have k2:z1 + z1 / 2 ^ (16:Int).toNat=z2:=g2;rw [UM (k:=16) (by decide) (by rw [k2];exact g2b),k2];have k3:z2 + z2 / 2 ^ (32:Int).toNat=z3:=g3;rw [UM (k:=32) (by decide) (by rw [k3];exact g3b),k3,<- g4];exact M7 g3b
theorem jI (x k i:Nat) (hi:i < 8):(x / 2 ^ (8 * k) % 256).testBit i=x.testBit (8 * k + i):=by
 rw [show (256:Nat)=2 ^ 8 by decide,Nat.testBit_mod_two_pow,decide_eq_true hi,Bool.true_and,Nat.testBit_div_two_pow,Nat.add_comm]
theorem jJ (x k:Nat):pop8 (x / 2 ^ (8 * k) % 256)=(((((((x.testBit (8 * k + 0)).toNat + (x.testBit (8 * k + 1)).toNat) + (x.testBit (8 * k + 2)).toNat) + (x.testBit (8 * k + 3)).toNat) + (x.testBit (8 * k + 4)).toNat) + (x.testBit (8 * k + 5)).toNat) + (x.testBit (8 * k + 6)).toNat) + (x.testBit (8 * k + 7)).toNat:=by
 have h:=(IP ⟨x / 2 ^ (8 * k) % 256,Nat.mod_lt _ (by decide)⟩).2.2.2;simp only at h;rw [h,jI x k 0 (by decide),jI x k 1 (by decide),jI x k 2 (by decide),jI x k 3 (by decide),jI x k 4 (by decide),jI x k 5 (by decide),jI x k 6 (by decide),jI x k 7 (by decide)]
def sumB (x:Nat):Nat->Nat
 | 0=>0
 | n + 1=>sumB x n + (x.testBit n).toNat
theorem M8 (x:Nat):GS x=sumB x 64:=by
 have h0:=jJ x 0;have h1:=jJ x 1;have h2:=jJ x 2;have h3:=jJ x 3;have h4:=jJ x 4;have h5:=jJ x 5;have h6:=jJ x 6;have h7:=jJ x 7;simp only [Nat.mul_zero,Nat.pow_zero,Nat.div_one] at h0;simp only [GS,fh,List.map_cons,List.map_nil,List.sum_cons,List.sum_nil,sumB];rw [h0]
 rw [show x / 256=x / 2 ^ (8 * 1) by rfl,h1,show x / 65536=x / 2 ^ (8 * 2) by rfl,h2,show x / 16777216=x / 2 ^ (8 * 3) by rfl,h3,show x / 4294967296=x / 2 ^ (8 * 4) by rfl,h4,
  show x / 1099511627776=x / 2 ^ (8 * 5) by rfl,h5,show x / 281474976710656=x / 2 ^ (8 * 6) by rfl,h6,show x / 72057594037927936=x / 2 ^ (8 * 7) by rfl,h7]
 simp only [Nat.reduceMul,Nat.reduceAdd];omega
theorem wY (x:Nat):∀ n,0 < sumB x n↔∃ b,b < n/\x.testBit b=true
 | 0=>by simp [sumB]
 | n + 1=>by
  have ih:=wY x n;simp only [sumB];cases h:x.testBit n
  ·simp only [Bool.toNat_false,Nat.add_zero,ih]
   exact ⟨fun ⟨b,hb,hx⟩=>⟨b,by omega,hx⟩,fun ⟨b,hb,hx⟩=>⟨b,by
    rcases eP hb with hb | rfl
    ·exact ⟨hb,hx⟩
    ·rw [h] at hx;cases hx⟩⟩
  ·simp only [Bool.toNat_true];exact ⟨fun _=>⟨n,by omega,h⟩,fun _=>by omega⟩
theorem D4 (x a:Nat) (ha:x.testBit a=true):∀ n,a < n->(1 < sumB x n↔∃ b,b < n/\b≠a/\x.testBit b=true)
 | 0,h=>by omega
 | n + 1,h=>by
  simp only [sumB];by_cases hn:a=n
  ·subst hn;rw [ha,Bool.toNat_true];have:=wY x a;constructor
   ·intro h1;obtain ⟨b,hb,hx⟩:=this.1 (by omega);exact ⟨b,by omega,by omega,hx⟩
   ·rintro ⟨b,hb,bp,hx⟩;have:=this.2 ⟨b,by omega,hx⟩;omega
  ·have ih:=D4 x a ha n (by omega);have hp:=(wY x n).2 ⟨a,by omega,ha⟩;cases hb:x.testBit n
   ·simp only [Bool.toNat_false,Nat.add_zero,ih]
    exact ⟨fun ⟨b,h1,h2,h3⟩=>⟨b,by omega,h2,h3⟩,fun ⟨b,h1,h2,h3⟩=>⟨b,by
     rcases eP h1 with h1 | rfl
     ·exact ⟨h1,h2,h3⟩
     ·rw [hb] at h3;cases h3⟩⟩
   ·simp only [Bool.toNat_true];exact ⟨fun _=>⟨n,by omega,fun e=>hn e.symm,hb⟩,fun _=>by omega⟩
def bN (p:Nat->Bool) (n:Nat):Option Nat:=(List.range n).find? p
theorem bB {p:Nat->Bool} {n e:Nat} (he:e < n) (hp:p e=true) (h:∀ a,a < e->p a=false):bN p n=some e:=by
 unfold bN;rw [List.find?_eq_some_iff_getElem];refine ⟨hp,e,by simpa using he,by simp,fun j hj=>?_⟩;simp [h j hj]
theorem bP {p:Nat->Bool} {n:Nat} (h:∀ a,a < n->p a=false):bN p n=none:=by
 unfold bN;rw [List.find?_eq_none];intro x hx;simp [h x (sU hx)]
theorem cJ {p:Nat->Bool} {n e:Nat} (h:bN p n=some e):e < n/\p e=true/\∀ a,a < e->p a=false:=by
 unfold bN at h;rw [List.find?_eq_some_iff_getElem] at h;obtain ⟨h1,i,hi,rfl,h3⟩:=h;refine ⟨by simpa using hi,h1,fun a ha=>?_⟩;have:=h3 a (sU ha);simpa using this
def rk (c:List Nat) (a:Nat):Bool:=decide (1 < GS (backN c a c.length))
def M9:Option Nat->DV
 | some a=>.tup [.v (.int .i64 (a:Int)),.v (.bool true)]
 | none=>.tup [.v (.int .i64 0),.v (.bool false)]
abbrev Qt (c:List Nat) (e:Nat):St:=
 ⟨[(4,⟨[],nE c⟩),(9,⟨[],.v (.int .i64 c.length)⟩),(10,⟨[],.v (.int .i64 e)⟩)],[],[]⟩
theorem GV (rows:List Nat) (hr:eV rows) (h0:rows ≠ []):aV prog 91 [nE rows] (M9 (bN (rk (closeR rows rows.length)) rows.length)):=by
 have hc:=um rows hr h0;have bw:=lW hr rows.length hr.1;have hlen:=fQ rows rows.length;have hr1:=hr.1;generalize closeR rows rows.length=c at hc bw hlen ⊢;rw [<- hlen];have hl:=z6 c;refine eG 20 [.tmp 2,.tmp 3] func91 rfl ntmps91 rfl fun _ _ _ _=>?_;refine cP XD hc ?_;refine cP Mo hl ?_;refine lI (fun j st=>∃ e:Nat,st=Qt c e/\e<=c.length/\(∀ a,a < e->rk c a=false)/\j=c.length - e) ⟨0,rfl,by omega,fun a h=>by omega,rfl⟩ (aj ⟨_,rfl⟩ wA rfl rfl rfl wB) ?_;rintro j st ⟨e,rfl,he,fq,rfl⟩;refine br ?_ ?_<;>intro hL
 ·have ap:e < c.length:=by have:=hL;simp at this;exact this
  have UK:backN c e c.length < 18446744073709551616:=by
   have h1:=wT c e c.length;have:2 ^ c.length<=2 ^ 64:=Nat.pow_le_pow_right (by decide) (by omega);omega
  refine cP XY (GQ c bw e ap) ?_;refine cP XX (Kl _ UK) ?_;refine br ?_ ?_<;>intro g
  ·have g:rk c e=true:=by
    simp at g;simp [rk];omega
   rw [bB ap g fq];refine ⟨_,?_,rfl⟩;exact ax
  ·have g:rk c e=false:=by
    simp at g;simp [rk];omega
   exact rE ⟨_,by omega,e + 1,rfl,by omega,fun a ha=>by
    rcases eP ha with ha | rfl
    ·exact fq a ha
    ·exact g,rfl⟩ (aj ⟨_,rfl⟩ wA rfl rfl rfl (dt (aJ ap (by omega))))
 ·have aQ:e=c.length:=by have:=hL;simp at this;omega
  subst aQ;rw [bP fq];refine ⟨_,?_,rfl⟩;exact ax
theorem wZ {rows:List Nat} {i x a b:Nat} (hi:i < rows.length):bd (rows.set i x) a b=if a=i then x.testBit b else bd rows a b:=by
 unfold bd;simp only [aF];by_cases h:a=i
 ·subst h;rw [cQ hi,ai rfl];all_goals rfl
 ·rw [List.getElem?_set_ne (Ne.symm h),ah h]
theorem oU {rows:List Nat} {k a b:Nat} (hk:k < rows.length):bd (j1 rows k) a b=(bd rows a b || (decide (a=k) && decide (b=k))):=by
 unfold j1;rw [wZ hk];by_cases h:a=k
 ·subst h;rw [ai rfl,iH];simp only [decide_true,Bool.true_and];rw [show decide (a=b)=decide (b=a) from by simp only [eq_comm]];rfl
 ·rw [ah h];simp [h]
theorem Km {rows:List Nat} {k i a b:Nat} (hi:i < rows.length):bd (pF k rows i) a b=(bd rows a b || (decide (a=i) && (bd rows a k && bd rows k b))):=by
 unfold pF;by_cases h:bd rows i k=true
 ·rw [ai h,wZ hi];by_cases ha:a=i
  ·subst ha;rw [ai rfl,Nat.testBit_or];simp only [decide_true,Bool.true_and,h];rfl
  ·rw [ah ha];simp [ha]
 ·rw [ah h];by_cases ha:a=i
  ·subst ha;simp only [Bool.not_eq_true] at h;simp [h]
  ·simp [ha]
theorem z7 {rows:List Nat} {k:Nat} (hk:k < rows.length):∀ e,e<=rows.length->∀ a b,bd (iJ rows k e) a b=(bd (j1 rows k) a b || (decide (a < e) && (bd (j1 rows k) a k && bd (j1 rows k) k b)))
 | 0,_,a,b=>by simp [iJ]
 | e + 1,he,a,b=>by
  have ih:=z7 hk e (by omega);rw [mQ,Km (by rw [oT];omega),ih a b,ih a k,ih k b];have C1:bd (j1 rows k) k k=true:=by rw [oU hk];simp
  generalize bd (j1 rows k)=s at *;by_cases h1:a=e
  ·subst h1;simp only [Nat.lt_irrefl,decide_false,Bool.false_and,Bool.or_false,decide_true,Bool.true_and,Nat.lt_succ_self,C1];cases s a b<;>cases s a k<;>cases s k b<;>simp
  ·by_cases h2:a < e
   ·have:a < e + 1:=by omega
    simp [h1,h2,this]
   ·have:¬ a < e + 1:=by omega
    simp [h1,h2,this]
inductive vm (p:Nat->Nat->Prop):Nat->Nat->Prop
 | refl (a:Nat):vm p a a
 | step {a b c:Nat}:vm p a b->p b c->vm p a c
theorem vm.trans {p:Nat->Nat->Prop} {a b c:Nat} (h1:vm p a b) (h2:vm p b c):vm p a c:=by
 induction h2 with
 | refl=>exact h1
 | step _ h ih=>exact .step ih h
theorem vm.mono {p q:Nat->Nat->Prop} (h:∀ a b,p a b->vm q a b) {a b:Nat} (h1:vm p a b):vm q a b:=by
 induction h1 with
 | refl=>exact .refl _
 | step _ h2 ih=>exact ih.trans (h _ _ h2)
def wayQ (p:Nat->Nat->Prop):Nat->Nat->Nat->Prop
 | 0,a,b=>a=b∨p a b
 | k + 1,a,b=>wayQ p k a b∨(wayQ p k a k/\wayQ p k k b)
theorem z8 {p:Nat->Nat->Prop} (a:Nat):∀ k,wayQ p k a a
 | 0=>.inl rfl
 | k + 1=>.inl (z8 a k)
theorem Aa {p:Nat->Nat->Prop} {a b:Nat} (h:p a b):∀ k,wayQ p k a b
 | 0=>.inr h
 | k + 1=>.inl (Aa h k)
theorem rm {p:Nat->Nat->Prop}:∀ k a b,wayQ p k a b->vm p a b
 | 0,a,b,h=>by
  rcases h with rfl | h
  ·exact .refl _
  ·exact .step (.refl _) h
 | k + 1,a,b,h=>by
  rcases h with h | ⟨h1,h2⟩
  ·exact rm k a b h
  ·exact (rm k a k h1).trans (rm k k b h2)
theorem mR {p:Nat->Nat->Prop}:∀ k a m b,m < k->wayQ p k a m->wayQ p k m b->wayQ p k a b
 | 0,_,_,_,h,_,_=>by omega
 | k + 1,a,m,b,hm,h1,h2=>by
  by_cases Wl:m=k
  ·subst Wl
   have tV:wayQ p m a m:=by
    rcases h1 with h1 | h1
    ·exact h1
    ·exact h1.1
   have Qu:wayQ p m m b:=by
    rcases h2 with h2 | h2
    ·exact h2
    ·exact h2.2
   exact .inr ⟨tV,Qu⟩
  ·have lQ:m < k:=by omega
   rcases h1 with h1 | ⟨h1,h3⟩
   ·rcases h2 with h2 | ⟨h2,h4⟩
    ·exact .inl (mR k a m b lQ h1 h2)
    ·exact .inr ⟨mR k a m k lQ h1 h2,h4⟩
   ·rcases h2 with h2 | ⟨h2,h4⟩
    ·exact .inr ⟨h1,mR k k m b lQ h3 h2⟩
    ·exact .inr ⟨h1,h4⟩
theorem w7 {rows:List Nat}:∀ k,k<=rows.length->∀ a b,a < rows.length->((bd (closeR rows k) a b=true∨a=b)↔wayQ (fun x y=>bd rows x y=true) k a b)/\(a < k->bd (closeR rows k) a a=true)
 | 0,_,a,b,_=>by
  refine ⟨?_,fun h=>by omega⟩;simp only [closeR,List.range_zero,List.foldl_nil,wayQ];exact or_comm
 | k + 1,hk,a,b,ha=>by
  have ih:=w7 (rows:=rows) k (by omega);have eC:k < (closeR rows k).length:=by rw [fQ];omega
  have hb:∀ a b,a < rows.length->bd (closeR rows (k + 1)) a b=(bd (j1 (closeR rows k) k) a b || (bd (j1 (closeR rows k) k) a k && bd (j1 (closeR rows k) k) k b)):=fun a b ha=>by
   rw [lm,z7 eC _ (aR _)];simp [fQ,ha]
  have Na:∀ a b,(bd (j1 (closeR rows k) k) a b=true∨a=b)↔(bd (closeR rows k) a b=true∨a=b):=fun a b=>by
   rw [oU eC];simp only [Bool.or_eq_true,aP,decide_eq_true_eq];constructor
   ·rintro ((h | ⟨rfl,rfl⟩) | h)
    ·exact .inl h
    ·exact .inr rfl
    ·exact .inr h
   ·rintro (h | h)
    ·exact .inl (.inl h)
    ·exact .inr h
  have C1:bd (j1 (closeR rows k) k) k k=true:=by rw [oU eC];simp
  have key:∀ a b,a < rows.length->((bd (closeR rows (k + 1)) a b=true∨a=b)↔wayQ (fun x y=>bd rows x y=true) (k + 1) a b):=fun a b ha=>by
   rw [hb a b ha];show _↔wayQ _ k a b∨(wayQ _ k a k/\wayQ _ k k b);rw [<- (ih a b ha).1,<- (ih a k ha).1,<- (ih k b (by omega)).1,<- Na a b,<- Na a k,<- Na k b];simp only [Bool.or_eq_true,aP];constructor
   ·rintro ((h | ⟨h1,h2⟩) | h)
    ·exact .inl (.inl h)
    ·exact .inr ⟨.inl h1,.inl h2⟩
    ·exact .inl (.inr h)
   ·rintro ((h | h) | ⟨h1,h2⟩)
    ·exact .inl (.inl h)
    ·exact .inr h
    ·rcases h1 with h1 | rfl
     ·rcases h2 with h2 | rfl
      ·exact .inl (.inr ⟨h1,h2⟩)
      ·exact .inl (.inl h1)
     ·rcases h2 with h2 | rfl
      ·exact .inl (.inl h2)
      ·exact .inr rfl
  refine ⟨key a b ha,fun hak=>?_⟩;rw [hb a a ha];by_cases h:a=k
  ·subst h;rw [C1];all_goals rfl
  ·have:=(ih a a ha).2 (by omega);rw [oU eC,this];all_goals rfl
theorem GW {rows:List Nat} (hb:∀ a b,a < rows.length->bd rows a b=true->b < rows.length) {a b:Nat} (ha:a < rows.length) (hbl:b < rows.length):bd (closeR rows rows.length) a b=true↔vm (fun x y=>x < rows.length/\bd rows x y=true) a b:=by
 have hw:=w7 (rows:=rows) rows.length (aR _) a b ha
 have h1:bd (closeR rows rows.length) a b=true↔wayQ (fun x y=>bd rows x y=true) rows.length a b:=by
  rw [<- hw.1];constructor
  ·exact .inl
  ·rintro (h | rfl)
   ·exact h
   ·exact hw.2 ha
 rw [h1];constructor
 ·intro h
  have ap:∀ {x},vm (fun x y=>bd rows x y=true) a x->vm (fun x y=>x < rows.length/\bd rows x y=true) a x/\x < rows.length:=by
   intro x hx
   induction hx with
   | refl=>exact ⟨.refl _,ha⟩
   | step _ h2 ih=>exact ⟨.step ih.1 ⟨ih.2,h2⟩,hb _ _ ih.2 h2⟩
  exact (ap (rm _ _ _ h)).1
 ·intro h
  have:wayQ (fun x y=>bd rows x y=true) rows.length a b/\b < rows.length:=by
   clear h1 hw hbl
   induction h with
   | refl=>exact ⟨z8 _ _,ha⟩
   | step _ h2 ih=>exact ⟨mR _ _ _ _ ih.2 ih.1 (Aa h2.2 _),hb _ _ h2.1 h2.2⟩
  exact this.1
theorem Nb {rows:List Nat} {p:Nat × Nat} {a b:Nat} (hp:p.1 < rows.length):bd (wV rows p) a b=(bd rows a b || (decide (a=p.1) && decide (b=p.2))):=by
 unfold wV;rw [wZ hp];by_cases h:a=p.1
 ·subst h;rw [ai rfl,iH];simp only [decide_true,Bool.true_and];rw [show decide (p.2=b)=decide (b=p.2) from by simp only [eq_comm]];rfl
 ·rw [ah h];simp [h]
theorem Ab:∀ (l:List (Nat × Nat)) (rows:List Nat) (a b:Nat),(∀ p∈l,p.1 < rows.length)->(bd (l.foldl wV rows) a b=true↔bd rows a b=true∨(a,b)∈l)
 | [],_,_,_,_=>by simp
 | p :: l,rows,a,b,h=>by
  rw [List.foldl_cons,Ab l _ a b (fun q hq=>by rw [rj];exact h q (by simp [hq])),Nb (h p (by simp))];simp only [Bool.or_eq_true,aP,decide_eq_true_eq,List.mem_cons];constructor
  ·rintro ((h1 | ⟨rfl,rfl⟩) | h1)
   ·exact .inl h1
   ·exact .inr (.inl rfl)
   ·exact .inr (.inr h1)
  ·rintro (h1 | rfl | h1)
   ·exact .inl (.inl h1)
   ·exact .inl (.inr ⟨rfl,rfl⟩)
   ·exact .inr h1
theorem xa {n:Nat} {l:List (Nat × Nat)} (h:∀ p∈l,p.1 < n) (a b:Nat):bd (fO n l) a b=true↔(a,b)∈l:=by
 unfold fO;rw [Ab l _ a b (fun p hp=>by rw [List.length_replicate];exact h p hp)];constructor
 ·rintro (h1 | h1)
  ·unfold bd at h1;rw [aF,List.getElem?_replicate] at h1;split at h1<;>simp at h1
  ·exact h1
 ·exact .inr
def fy (n:Nat) (l:List (Nat × Nat)) (a b:Nat):Bool:=bd (closeR (fO n l) n) a b
def sX (n:Nat) (l:List (Nat × Nat)):Prop:=∀ p∈l,p.1 < n/\p.2 < n
theorem n8 {n:Nat} {l:List (Nat × Nat)} (h:sX n l) {a b:Nat} (ha:a < n) (hb:b < n):fy n l a b=true↔vm (fun x y=>(x,y)∈l) a b:=by
 have hlen:(fO n l).length=n:=kJ n l;unfold fy
 have:=GW (rows:=fO n l) (fun a b _ M4=>by
  rw [xa (fun p hp=>(h p hp).1)] at M4
  rw [hlen];exact (h _ M4).2) (a:=a) (b:=b) (by omega) (by omega)
 rw [hlen] at this;rw [this];constructor
 ·exact vm.mono fun x y Gr=>.step (.refl _) ((xa (fun p hp=>(h p hp).1) x y).1 Gr.2)
 ·exact vm.mono fun x y Gr=>.step (.refl _) ⟨(h _ Gr).1,(xa (fun p hp=>(h p hp).1) x y).2 Gr⟩
theorem sY {n:Nat} {l:List (Nat × Nat)} (h:sX n l) {a:Nat} (ha:a < n):fy n l a a=true:=(n8 h ha ha).2 (.refl _)
theorem GX {n:Nat} {l:List (Nat × Nat)} (h:sX n l) {a b c:Nat} (ha:a < n) (hb:b < n) (hc:c < n) (h1:fy n l a b=true) (h2:fy n l b c=true):fy n l a c=true:=
 (n8 h ha hc).2 (((n8 h ha hb).1 h1).trans ((n8 h hb hc).1 h2))
def ln (n:Nat) (f:Nat->Nat->Bool) (a:Nat):Bool:=(List.range n).any fun b=>decide (a≠b) && (f a b && f b a)
theorem Nc {n:Nat} {l:List (Nat × Nat)} (hn:n<=64) (h:sX n l) {a:Nat} (ha:a < n):rk (closeR (fO n l) n) a=ln n (fy n l) a:=by
 have hlen:(closeR (fO n l) n).length=n:=by rw [fQ,kJ]
 unfold rk ln;rw [M8,hlen,Bool.eq_iff_iff,decide_eq_true_eq]
 have haa:(backN (closeR (fO n l) n) a n).testBit a=true:=by
  rw [sS];have:bd (closeR (fO n l) n) a a=true:=sY h ha;simp [ha,this]
 rw [D4 _ a haa 64 (by omega)];simp only [List.any_eq_true,List.mem_range,aP,decide_eq_true_eq,sS];constructor
 ·rintro ⟨b,_,bp,hb,h1,h2⟩;exact ⟨b,hb,fun e=>bp e.symm,h1,h2⟩
 ·rintro ⟨b,hb,bp,h1,h2⟩;exact ⟨b,by omega,fun e=>bp e.symm,hb,h1,h2⟩
theorem B5 {p q:Nat->Bool} {n:Nat} (h:∀ a,a < n->p a=q a):bN p n=bN q n:=by
 unfold bN
 have:∀ (l:List Nat),(∀ a∈l,p a=q a)->l.find? p=l.find? q:=by
  intro l
  induction l with
  | nil=>intro _;rfl
  | cons x r ih=>
   intro hl;rw [List.find?_cons,List.find?_cons,hl x (by simp),ih (fun a ha=>hl a (by simp [ha]))]
 exact this _ fun a ha=>h a (List.mem_range.1 ha)
theorem Qv {n:Nat} {l:List (Nat × Nat)} (hn:n<=64) (h:sX n l):bN (rk (closeR (fO n l) n)) n=bN (ln n (fy n l)) n:=
 B5 fun _ ha=>Nc hn h ha
def iK (r:List Bool) (p:Nat × Nat):List Bool:=if r.getD p.1 false then r.set p.2 true else r
def ju (l:List (Nat × Nat)) (r:List Bool):List Bool:=l.foldl iK r
def dq (l:List (Nat × Nat)) (r:List Bool) (k:Nat):List Bool:=(List.range k).foldl (fun r _=>ju l r) r
def uV (n:Nat) (l:List (Nat × Nat)) (a:Nat):List Bool:=dq l ((List.replicate n false).set a true) n
theorem fi (l:List (Nat × Nat)) (r:List Bool) (k:Nat):dq l r (k + 1)=ju l (dq l r k):=by simp [dq,List.range_succ]
theorem lY (r:List Bool) (p:Nat × Nat):(iK r p).length=r.length:=by unfold iK;split<;>simp
theorem pY (l:List (Nat × Nat)):∀ r,(ju l r).length=r.length:=by
 induction l with
 | nil=>intro r;rfl
 | cons p l ih=>intro r;simp only [ju,List.foldl_cons] at ih ⊢;rw [ih,lY]
theorem fT (l:List (Nat × Nat)) (r:List Bool):∀ k,(dq l r k).length=r.length
 | 0=>by simp [dq]
 | k + 1=>by rw [fi,pY,fT]
theorem rn (n:Nat) (l:List (Nat × Nat)) (a:Nat):(uV n l a).length=n:=by simp [uV,fT]
def Ac (r s:List Bool):Prop:=∀ i:Nat,r.getD i false=true->s.getD i false=true
theorem kK {r:List Bool} {i j:Nat} (hi:i < r.length):(r.set i true).getD j false=(decide (j=i) || r.getD j false):=by
 simp only [aF];by_cases h:j=i
 ·subst h;rw [cQ hi];simp
 ·rw [List.getElem?_set_ne (Ne.symm h)];simp [h]
theorem D5 {r:List Bool} {p:Nat × Nat} (hp:p.2 < r.length):Ac r (iK r p):=by
 intro i hi;unfold iK;split
 ·rw [kK hp,hi];simp
 ·exact hi
theorem oV:∀ {l:List (Nat × Nat)} {r:List Bool},(∀ p∈l,p.2 < r.length)->Ac r (ju l r)
 | [],r,_,i,hi=>hi
 | p :: l,r,h,i,hi=>by
  have:Ac (iK r p) (ju l (iK r p)):=oV fun q hq=>by rw [lY];exact h q (by simp [hq])
  exact this i (D5 (h p (by simp)) i hi)
def kL (r:List Bool):Nat:=r.countP (fun x=>x)
theorem rq (r:List Bool):kL r<=r.length:=List.countP_le_length
theorem lG:∀ {r s:List Bool},r.length=s.length->Ac r s->(r=s∨kL r < kL s)/\kL r<=kL s
 | [],[],_,_=>⟨.inl rfl,aR _⟩
 | x :: r,y :: s,hl,h=>by
  have uP:r.length=s.length:=sU hl;have ih:=lG uP (fun i hi=>by simpa using h (i + 1) (sU hi));have h0:x=true->y=true:=fun hx=>by simpa using h 0 (sU hx)
  simp only [kL,List.countP_cons] at ih ⊢;cases x<;>cases y
  ·refine ⟨?_,by simpa using ih.2⟩;rcases ih.1 with h1 | h1
   ·exact .inl (by rw [h1])
   ·exact .inr (sU h1)
  ·have:=ih.2;exact ⟨.inr (by simp;omega),by simp;omega⟩
  ·exact absurd (h0 rfl) (by decide)
  ·refine ⟨?_,by simpa using ih.2⟩;rcases ih.1 with h1 | h1
   ·exact .inl (by rw [h1])
   ·exact .inr (sU h1)
 | [],_ :: _,h,_=>by simp at h
 | _ :: _,[],h,_=>by simp at h
theorem xc {r s:List Bool} (hl:r.length=s.length) (h1:Ac r s) (h2:Ac s r):r=s:=by
 rcases (lG hl h1).1 with h | h
 ·exact h
 ·have:=(lG hl.symm h2).2;omega
theorem xd:∀ {l:List (Nat × Nat)} {r:List Bool},(∀ p∈l,p.2 < r.length)->ju l r=r->∀ p∈l,r.getD p.1 false=true->r.getD p.2 false=true
 | [],_,_,_,p,hp,_=>by cases hp
 | q :: l,r,h,he,p,hp,h1=>by
  have hq:=h q (by simp);have hl:∀ p∈l,p.2 < (iK r q).length:=fun p hp=>by rw [lY];exact h p (by simp [hp])
  have hs:iK r q=r:=by
   have h2:Ac (iK r q) r:=by
    have:=oV hl;have pT:ju l (iK r q)=r:=he;rw [pT] at this;exact this
   exact (xc (lY r q).symm (D5 hq) h2).symm
  rcases bI hp with rfl | hp
  ·unfold iK at hs;rw [ai h1] at hs;rw [<- hs,kK hq];simp
  ·have pT:ju l r=r:=by
    have:ju l (iK r q)=r:=he
    rwa [hs] at this
   exact xd (fun p hp=>h p (by simp [hp])) pT p hp h1
theorem uo {l:List (Nat × Nat)} {r:List Bool} (h:∀ p∈l,p.2 < r.length):∀ k,ju l (dq l r k)=dq l r k∨kL r + k<=kL (dq l r k)
 | 0=>.inr (by simp [dq])
 | k + 1=>by
  have hk:∀ p∈l,p.2 < (dq l r k).length:=fun p hp=>by rw [fT];exact h p hp
  rcases uo h k with h1 | h1
  ·left;rw [fi,h1,h1]
  ·rcases (lG (pY l _).symm (oV hk)).1 with h2 | h2
   ·left;rw [fi,<- h2,<- h2]
   ·right;rw [fi];omega
theorem Kn {l:List (Nat × Nat)} {a:Nat} {r:List Bool} {p:Nat × Nat} (hp:p∈l) (hl:p.2 < r.length) (h:∀ i,r.getD i false=true->vm (fun x y=>(x,y)∈l) a i):∀ i,(iK r p).getD i false=true->vm (fun x y=>(x,y)∈l) a i:=by
 intro i hi;unfold iK at hi;split at hi
 ·rename_i h1;rw [kK hl] at hi;simp only [Bool.or_eq_true,decide_eq_true_eq] at hi;rcases hi with rfl | hi
  ·exact .step (h _ h1) hp
  ·exact h i hi
 ·exact h i hi
theorem xe {l:List (Nat × Nat)} {a:Nat}:∀ (m:List (Nat × Nat)) {r:List Bool},(∀ p∈m,p∈l/\p.2 < r.length)->(∀ i,r.getD i false=true->vm (fun x y=>(x,y)∈l) a i)->∀ i,(ju m r).getD i false=true->vm (fun x y=>(x,y)∈l) a i
 | [],_,_,h=>h
 | p :: m,r,hm,h=>xe m (r:=iK r p) (fun q hq=>by rw [lY];exact hm q (by simp [hq])) (Kn (hm p (by simp)).1 (hm p (by simp)).2 h)
theorem uq {l:List (Nat × Nat)} {a:Nat} {r:List Bool} (hl:∀ p∈l,p.2 < r.length) (h:∀ i,r.getD i false=true->vm (fun x y=>(x,y)∈l) a i):∀ k i,(dq l r k).getD i false=true->vm (fun x y=>(x,y)∈l) a i
 | 0=>by simpa [dq] using h
 | k + 1=>by
  rw [fi];exact xe l (fun p hp=>⟨hp,by rw [fT];exact hl p hp⟩) (uq hl h k)
theorem xf {l:List (Nat × Nat)} {r:List Bool} (hl:∀ p∈l,p.2 < r.length):∀ k,Ac r (dq l r k)
 | 0=>by intro i hi;simpa [dq] using hi
 | k + 1=>fun i hi=>by
  rw [fi];exact oV (fun p hp=>by rw [fT];exact hl p hp) i (xf hl k i hi)
theorem Nf {n a:Nat} (ha:a < n):1<=kL ((List.replicate n false).set a true):=by
 unfold kL;rw [Nat.succ_le_iff,List.countP_pos_iff];exact ⟨true,List.mem_iff_getElem?.2 ⟨a,by rw [cQ (by simp [ha])]⟩,rfl⟩
theorem Ng {n:Nat} {l:List (Nat × Nat)} (h:sX n l) {a b:Nat} (ha:a < n) (hb:b < n):(uV n l a).getD b false=fy n l a b:=by
 have hl:∀ p∈l,p.2 < ((List.replicate n false).set a true).length:=fun p hp=>by simp;exact (h p hp).2
 have uT:a < (List.replicate n false).length:=by simp [ha]
 rw [Bool.eq_iff_iff,n8 h ha hb];constructor
 ·refine uq hl (fun i hi=>?_) n b;rw [kK uT] at hi;simp only [Bool.or_eq_true,decide_eq_true_eq] at hi;rcases hi with rfl | hi
  ·exact .refl _
  ·rw [aF,List.getElem?_replicate] at hi;split at hi<;>simp at hi
 ·have hfix:ju l (uV n l a)=uV n l a:=by
   rcases uo hl n with h1 | h1
   ·exact h1
   ·have h2:=rq (dq l ((List.replicate n false).set a true) n);rw [fT] at h2;have h3:=Nf ha;simp only [List.length_set,List.length_replicate] at h2;omega
  have eS:=xd (fun p hp=>by rw [rn];exact (h p hp).2) hfix;intro hr;have haa:(uV n l a).getD a false=true:=xf hl n a (by rw [kK uT];simp);clear hb
  induction hr with
  | refl=>exact haa
  | step _ h2 ih=>exact eS _ h2 ih
def dJ (n:Nat) (f:Nat->Nat->Bool):List (List Bool):=(List.range n).map fun a=>(List.range n).map (f a)
theorem Qw {n:Nat} {l:List (Nat × Nat)} (h:sX n l) {a:Nat} (ha:a < n):uV n l a=(List.range n).map (fy n l a):=by
 refine List.ext_getElem? fun i=>?_;by_cases hi:i < n
 ·have:=Ng h ha hi;have hl:=rn n l a;rw [aF,gE (by omega)] at this;rw [gE (by omega),List.getElem?_map,List.getElem?_range hi];simpa using this
 ·rw [cR (by rw [rn];omega),cR (by simp;omega)]
theorem D6 {n:Nat} {f:Nat->Nat->Bool} {a:Nat} (ha:a < n):(dJ n f)[a]? = some ((List.range n).map (f a)):=by
 simp [dJ,List.getElem?_range ha]
theorem Ko {l:List Wd} {i:Nat} {x:Wd} (h:l[i]? = some x):aC (l.take (i + 1))=aC (l.take i) ++ [x.s]:=by
 rw [List.take_add_one,h];simp [aC]
theorem IU (l:List Wd) (s:ByteArray):bT l s=true↔s∈aC l:=by
 simp only [bT,List.any_eq_true,decide_eq_true_eq,aC,List.mem_map]
theorem mS {l:List Wd} {i:Nat} {x:Wd} (h:l[i]? = some x) (hn:(aC (l.take i)).Nodup):(aC (l.take (i + 1))).Nodup↔bT (l.take i) x.s=false:=by
 rw [Ko h,List.nodup_append];constructor
 ·rintro ⟨_,_,h3⟩;cases hb:bT (l.take i) x.s
  ·rfl
  ·exact absurd rfl (h3 x.s ((IU _ _).1 hb) x.s (by simp))
 ·intro hb;refine ⟨hn,by simp,fun a ha b lh=>?_⟩;simp only [List.mem_singleton] at lh;subst lh;rintro rfl;rw [(IU _ _).2 ha] at hb;cases hb
theorem Ad {l:List Wd} {i:Nat} {x:Wd} (a:Int) (h:l[i]? = some x) (hn:(aC (l.take i)).Nodup) :
  iE (aC (l.take (i + 1))) x.s a=if aK l i x≠0 then (aK l i x,a) else (0,0):=by
 have hs:=mS h hn;unfold iE aK;by_cases h1:bi x.s=true
 ·rw [ai h1,ai h1];by_cases h2:bT (l.take i) x.s=true
  ·rw [ai h2,ah (fun hc=>by rw [hs.1 hc] at h2;cases h2)];all_goals rfl
  ·rw [ah h2,ai (hs.2 (sU h2))];all_goals rfl
 ·rw [ah h1,ah h1];all_goals rfl
theorem mT {l:List Wd} {i:Nat} {x:Wd} (h:l[i]? = some x) (hn:(aC (l.take i)).Nodup) (hz:aK l i x=0):(aC (l.take (i + 1))).Nodup:=by
 refine (mS h hn).2 ?_;unfold aK at hz;by_cases h1:bi x.s=true
 ·rw [ai h1] at hz;by_cases h2:bT (l.take i) x.s=true
  ·rw [ai h2] at hz;simp at hz
  ·simpa using h2
 ·rw [ah h1] at hz;simp at hz
theorem Ae (l:List Wd):∀ (d e:Nat),e + d=l.length->(enumP l e)=(0,0)->(aC (l.take e)).Nodup->enumP l l.length=enumL l e (l.drop e)
 | 0,e,hd,hz,hn=>by
  have:e=l.length:=by omega
  subst this;rw [hz,List.drop_length];all_goals rfl
 | d + 1,e,hd,hz,hn=>by
  obtain ⟨x,hx⟩:∃ x,l[e]? = some x:=⟨_,gE (by omega)⟩;have h1:=wR (by rw [hz]) hx;rw [Ad x.a hx hn] at h1;rw [drop_cons hx];simp only [enumL];by_cases hf:aK l e x≠0
  ·rw [ai hf] at h1 ⊢;have aW:=pV (l:=l) (e:=e + 1) (by rw [h1];exact hf) d;rw [show e + 1 + d=l.length by omega] at aW;rw [aW,h1]
  ·rw [ah hf] at h1 ⊢;exact Ae l d (e + 1) (by omega) h1 (mT hx hn (sU hf))
theorem Nh (h:Hd):n7 h=jo h:=by
 unfold n7 jo;by_cases h0:h.af=[]
 ·rw [ai h0,ai (by simp [h0])]
 ·rw [ah h0,ah (sU h0)];by_cases h1:64 < h.af.length
  ·rw [ai h1,ai h1]
  ·rw [ah h1,ah h1];have:=Ae h.af h.af.length 0 (by omega) rfl (by simp [aC]);simpa using this
def n9 (p:Ph):Ph:=⟨p.name,true,[],0,0,0,0,[]⟩
theorem Qx (p:Ph) (t:Ty):dC p t (n9 p) cx=(b9 p fM && sameTy t cx):=by
 have e:b9 p (n9 p)=b9 p fM:=rfl;unfold dC;rw [e];have e2:decide (p.name.s=(n9 p).name.s)=true:=decide_eq_true rfl;rw [e2,Bool.true_and]
theorem empty_eq (p:Ph):dC p cx fw cx=(decide (p.name.s=ay) && b9 p fw):=by
 have e:sameTy cx cx=true:=by simp [cx,My,sameTy,lD,samePts,sameWds]
 simp only [dC,e,Bool.and_true];rfl
def du (L:List ByteArray) (s:ByteArray):Option Nat:=bN (fun i=>decide (L[i]? = some s)) L.length
theorem dD {L:List ByteArray} {s:ByteArray} {p:Nat} (h:du L s=some p):p < L.length/\L[p]? = some s/\∀ j,L[j]? = some s->p<=j:=by
 obtain ⟨h1,h2,h3⟩:=cJ h;refine ⟨h1,by simpa using h2,fun j hj=>?_⟩;rcases Nat.lt_or_ge j p with h4 | h4
 ·have:=h3 j h4;simp [hj] at this
 ·exact h4
theorem B6 {L:List ByteArray} {s:ByteArray} {p:Nat} (h1:L[p]? = some s) (h2:∀ j,L[j]? = some s->p<=j):du L s=some p:=by
 refine bB (gS h1).1 (sU h1) fun a ha=>?_;simp only [decide_eq_false_iff_not];intro h3;have:=h2 a h3;omega
theorem sZ {L:List ByteArray} {s:ByteArray} (h:∀ j:Nat,L[j]? ≠ some s):du L s=none:=bP fun a _=>by simpa using h a
theorem zg {L:List ByteArray} {s:ByteArray}:du L s=none↔s ∉ L:=by
 constructor
 ·intro h hm;obtain ⟨j,hj⟩:=List.mem_iff_getElem?.1 hm;unfold du bN at h;rw [List.find?_eq_none] at h;have:=h j (by simpa using (gS hj).1);simp [hj] at this
 ·intro h;exact sZ fun j hj=>h (mG hj)
theorem jv (L:List ByteArray) (aM:List Nat) (s:ByteArray) (hT:iT L aM) (hl:aM.length<=1099511627776) :
  aV prog 98 [.pt (dz L aM) 0,.v (.string s)] (M9 (du L s)):=by
 by_cases hm:s∈L
 ·obtain ⟨j,hj⟩:=List.mem_iff_getElem?.1 hm;obtain ⟨q,p,hq,hp⟩:=hT.all j s hj;rw [B6 hp fun j' gw=>hT.fst q p j' s hq hp gw];exact find_spec L aM s q p hT hl hq hp
 rw [sZ fun j hj=>hm (mG hj)]
 let pr:Nat->Prop:=fun i=>i=aM.length∨∃ p t,aM[i]? = some p/\L[p]? = some t/\zd t s=false
 obtain ⟨m,kj,Lp⟩:=least (p:=pr) ⟨aM.length,.inl rfl⟩;have jK:m<=aM.length:=Lp _ (.inl rfl);refine eG 47 [.tmp 4,.tmp 5] func98 rfl ntmps98 rfl fun _ _ _ _=>?_
 have eS:∀ i:Nat,i < aM.length->aV prog 162 [.v (.int .i64 i),.pt [.pt (dz L aM) 0] 0,.pt [.v (.string s)] 0] (.v (.bool (decide (m<=i)))):=by
  intro i hi;obtain ⟨p',qX⟩:∃ p',aM[i]? = some p':=⟨_,gE hi⟩;obtain ⟨t,ht⟩:∃ t,L[p']? = some t:=⟨_,gE (hT.lt i p' qX)⟩;have:=wE L aM s i p' t qX ht
  have e:(!zd t s)=decide (m<=i):=by
   by_cases h:m<=i
   ·have:zd t s=false:=by
     rcases kj with kj | ⟨p,u,h1,h2,h3⟩
     ·omega
     ·rcases Nat.lt_or_eq_of_le h with h4 | h4
      ·have h5:=hT.srt m i p p' u t h4 h1 qX h2 ht;cases h6:zd t s
       ·rfl
       ·have:=gR h5 h6;unfold zd at h3;rw [this] at h3;cases h3
      ·subst h4;rw [h1] at qX;simp only [oI] at qX;subst qX;rw [h2] at ht;simp only [oI] at ht;subst ht;exact h3
    simp [this,h]
   ·have:zd t s=true:=by
     cases h6:zd t s
     ·exact absurd (Lp i (.inr ⟨p',t,qX,ht,h6⟩)) h
     ·rfl
    simp [this,h]
  rw [e] at this;exact this
 have hS:=uc 162 Sn [.pt [.pt (dz L aM) 0] 0,.pt [.v (.string s)] 0] aM.length m hl jK ax rfl eS;refine BJ Sm hS (gU (bg aM)) rfl ?_;refine dI ?_;refine br ?_ ?_<;>intro h
 ·have ap:m < aM.length:=by
   have:decide ((m:Int)=((dInts aM).length:Int))=false:=sU h;simp [bg] at this;omega
  rcases kj with kj | ⟨p,t,h1,h2,h3⟩
  ·omega
  refine iX (aG h1) ?_;refine iX (iD h2) ?_;refine br ?_ ?_<;>intro h4
  ·exact ⟨_,ax,rfl⟩
  ·exfalso
   have hts:t=s:=by
    simp [aw] at h4;exact h4
   exact hm (hts ▸ mG h2)
 ·exact ⟨_,ax,rfl⟩
def gK (l:List Wd) (o:List (Wd × Wd)):Ft:=
 if l=[] then (15,0)
 else if 32 < l.length then (8,((l[32]?).getD (⟨ay,0⟩:Wd)).a)
 else if 256 < o.length then (8,((o[256]?).getD ((⟨ay,0⟩,⟨ay,0⟩):Wd × Wd)).1.a)
 else (0,0)
theorem Kp (l:List Wd) (o:List (Wd × Wd)):aV prog 86 [.sl 2 (bO l) none,.sl 4 (nD o) none] (gK l o).d:=by
 refine eG 30 [.cell 4 45] func86 rfl ntmps86 rfl fun _ _ _ _=>?_;refine br ?_ ?_<;>intro h
 ·have h:l=[]:=by simpa [aA] using h
  refine ⟨_,?_,rfl⟩;rw [gK,ai h];exact ax
 have h:¬ l=[]:=by simpa [aA] using h
 refine br ?_ ?_<;>intro h1
 ·have h1:32 < l.length:=by simp [aA] at h1;omega
  obtain ⟨x,hx⟩:∃ x,l[32]? = some x:=⟨_,gE h1⟩;refine ⟨kH x,⟨by omega,aY hx⟩,?_⟩;refine ⟨_,?_,rfl⟩;rw [gK,ah h,ai h1,hx];exact ax
 have h1:¬ 32 < l.length:=by simp [aA] at h1;omega
 refine br ?_ ?_<;>intro h2
 ·have h2:256 < o.length:=by simp [gJ] at h2;omega
  obtain ⟨x,hx⟩:∃ x,o[256]? = some x:=⟨_,gE h2⟩;refine ⟨LB x,⟨by omega,iG hx⟩,?_⟩;refine ⟨_,?_,rfl⟩;rw [gK,ah h,ah h1,ai h2,hx];exact ax
 have h2:¬ 256 < o.length:=by simp [gJ] at h2;omega
 refine ⟨_,?_,rfl⟩;rw [gK,ah h,ah h1,ah h2];exact ax
def YL (f:Ft) (L:List ByteArray):DV:=.tup [if f.1=0 then .sl 1 (fl L) none else .v (.slice none 0 0),f.d]
abbrev SO (l:List Wd) (n e:Nat):St:=
 ⟨[(3,⟨[],.loc 0 0⟩),(4,⟨[],.sl 1 (fl (aC (l.take e))) (some 0)⟩),(7,⟨[],.sl 2 (bO l) none⟩),(8,⟨[],.v (.int .i64 (bO l).length)⟩),(9,⟨[],.v (.int .i64 e)⟩)],[[.v (.int .i64 0),.v (.int .i64 0)]],[⟨n,9,1,none⟩]⟩
theorem pZ {all:List Wd} {e:Nat} {w:Wd} (h:all[e]? = some w):enumL all e (all.drop e)=if aK all e w≠0 then (aK all e w,w.a) else enumL all (e + 1) (all.drop (e + 1)):=by
 rw [drop_cons h,enumL]
theorem D7 (l:List Wd) (hs:wdsWt l<=1099511627776):aV prog 87 [.sl 2 (bO l) none] (YL (enumL l 0 l) (aC l)):=by
 have nK:=bL l;refine eG 36 [.tmp 2,.cell 3 45] func87 rfl ntmps87 rfl fun _ _ _ _=>?_;refine lI (fun j st=>∃ e:Nat,st=SO l e e/\e<=l.length/\(aC (l.take e)).Nodup/\enumL l 0 l=enumL l e (l.drop e)/\j=l.length - e) ⟨0,rfl,by omega,by simp [aC],rfl,rfl⟩ (fJ ⟨0,9,1,none⟩ rfl ⟨_,rfl⟩ rfl wA rfl rfl mi) ?_;rintro j st ⟨e,rfl,he,hnd,aN,rfl⟩;rw [aN];refine br ?_ ?_<;>intro hL
 ·have ap:e < l.length:=by simpa [aA] using hL
  obtain ⟨w,hw⟩:=gX ap;have SM:=jk (mG hw);have dK:=kk hw;have aW:=pZ hw;have yM:=mS hw hnd;have Ni:=pU (aC (l.take (e + 1))) (by simp [aC];omega);rw [<- dK] at Ni;refine ⟨kH w,⟨by omega,aY hw⟩,?_⟩;refine ⟨by simp [ct,aC];omega,⟨by simp [ct,aC,maxLen];omega,by simp [ct,aC];omega⟩,?_⟩;refine cP Gw (jm w.s (by omega)) ?_;refine br ?_ ?_<;>intro hN
  ·have hN:bi w.s=false:=sU hN;have hf:aK l e w=9:=by simp [aK,hN]
   rw [aW,hf,ai (by decide)];refine dS ?_;exact ⟨_,ax,rfl⟩
  ·have hN:bi w.s=true:=sU hN;refine kD Uv rfl Ni ax (fun r hr=>?_);obtain ⟨z,rfl,hz⟩:=hr;refine br ?_ ?_<;>intro h2
   ·have h2:0<=z:=sU h2
    have hd:bT (l.take e) w.s=true:=by
     cases hd:bT (l.take e) w.s
     ·exact absurd (yM.2 hd) (hz.1 h2)
     ·rfl
    have hf:aK l e w=10:=by simp [aK,hN,hd]
    rw [aW,hf,ai (by decide)];refine dS ?_;exact ⟨_,ax,rfl⟩
   ·have h2:¬ 0<=z:=sU h2;have wj:(aC (l.take (e + 1))).Nodup:=Classical.byContradiction fun hn=>h2 (hz.2 hn);have hf:aK l e w=0:=by simp [aK,hN,yM.1 wj]
    rw [hf,ah (by simp)] at aW;refine ⟨SO l (e + 1) (e + 1),(aj ⟨_,rfl⟩ wA rfl rfl rfl (wB2 (aJ ap (by omega)) dK)),l.length - (e + 1),by omega,e + 1,rfl,by omega,wj,aW,rfl⟩
 ·have aQ:e=l.length:=by
   have:=hL;simp [aA] at this;omega
  have h0:enumL l e (l.drop e)=(0,0):=by rw [aQ,List.drop_length];all_goals rfl
  rw [h0];have ht:l.take e=l:=by rw [aQ,List.take_length]
  rw [ht];exact ⟨_,ax,rfl⟩
def numF (L:List ByteArray):List (Wd × Wd)->Ft
 | []=>(0,0)
 | p :: r=>if du L p.1.s=none then (17,p.1.a) else if du L p.2.s=none then (17,p.2.a) else numF L r
def UN (L:List ByteArray) (p:Wd × Wd):Nat × Nat:=((du L p.1.s).getD 0,(du L p.2.s).getD 0)
def dQ (L:List ByteArray) (o:List (Wd × Wd)):List (Nat × Nat):=o.map (UN L)
def YM (f:Ft) (l:List (Nat × Nat)):DV:=.tup [if f.1=0 then .sl 2 (mO l) none else .v (.slice none 0 0),f.d]
theorem Af {L:List ByteArray} {o:List (Wd × Wd)} {e a b:Nat} {x:Wd × Wd} (h:o[e]? = some x) (ha:du L x.1.s=some a) (hb:du L x.2.s=some b):mO (dQ L (o.take e)) ++ [[DV.v (.int .i64 (a:Int)),DV.v (.int .i64 (b:Int))]]=mO (dQ L (o.take (e + 1))):=by
 rw [List.take_add_one,h];simp [mO,dQ,UN,ha,hb,dNP]
abbrev SP (L:List ByteArray) (aM:List Nat) (o:List (Wd × Wd)) (n e:Nat):St:=
 ⟨[(0,⟨[],.pt (dz L aM) 0⟩),(5,⟨[],.loc 0 0⟩),(6,⟨[],.sl 2 (mO (dQ L (o.take e))) (some 0)⟩),(12,⟨[],.sl 4 (nD o) none⟩),(13,⟨[],.v (.int .i64 (nD o).length)⟩),(14,⟨[],.v (.int .i64 e)⟩)],[[.v (.int .i64 0),.v (.int .i64 0)]],[⟨n,225,2,none⟩]⟩
theorem zh (L:List ByteArray) (aM:List Nat) (hT:iT L aM) (hl:aM.length<=1099511627776) (o:List (Wd × Wd)) (hs:prsWt o<=1099511627776) :
  aV prog 89 [.pt (dz L aM) 0,.sl 4 (nD o) none] (YM (numF L o) (dQ L o)):=by
 have nK:=jr o;refine eG 55 [.tmp 4,.cell 5 45] func89 rfl ntmps89 rfl fun _ _ _ _=>?_;refine lI (fun j st=>∃ e:Nat,st=SP L aM o e e/\e<=o.length/\numF L o=numF L (o.drop e)/\j=o.length - e) ⟨0,rfl,by omega,rfl,rfl⟩ (fJ ⟨0,225,2,none⟩ rfl ⟨_,rfl⟩ rfl wA rfl rfl mi) ?_;rintro j st ⟨e,rfl,he,aN,rfl⟩;rw [aN];refine br ?_ ?_<;>intro hL
 ·have ap:e < o.length:=by simpa [gJ] using hL
  obtain ⟨w,hw⟩:=gX ap;have aW:numF L (o.drop e)=if du L w.1.s=none then (17,w.1.a) else if du L w.2.s=none then (17,w.2.a) else numF L (o.drop (e + 1)):=by rw [drop_cons hw,numF]
  have LA:=jv L aM w.1.s hT hl;have vU:=jv L aM w.2.s hT hl;refine ⟨LB w,⟨by omega,iG hw⟩,?_⟩
  cases ha:du L w.1.s with
  | none=>
   rw [ha] at LA;refine cP wu LA ?_;rw [aW,ai ha];refine dS ?_;exact ⟨_,ax,rfl⟩
  | some a=>
   rw [ha] at LA;refine cP wu LA ?_
   cases hb:du L w.2.s with
   | none=>
    rw [hb] at vU;refine cP wu vU ?_;rw [aW,ah (by rw [ha];simp),ai hb];refine dS ?_;exact ⟨_,ax,rfl⟩
   | some b=>
    rw [hb] at vU;refine cP wu vU ?_;rw [ah (by rw [ha];simp),ah (by rw [hb];simp)] at aW;refine ⟨by simp [iI,dQ];omega,⟨by simp [iI,dQ,maxLen];omega,by simp [iI,dQ];omega⟩,?_⟩;refine ⟨SP L aM o (e + 1) (e + 1),(aj ⟨_,rfl⟩ wA rfl rfl rfl (wB2 (aJ ap (by omega)) (Af hw ha hb))),o.length - (e + 1),by omega,e + 1,rfl,by omega,aW,rfl⟩
 ·have aQ:e=o.length:=by
   have:=hL;simp [gJ] at this;omega
  have h0:numF L (o.drop e)=(0,0):=by rw [aQ,List.drop_length];all_goals rfl
  rw [h0];have ht:o.take e=o:=by rw [aQ,List.take_length]
  rw [ht];exact ⟨_,ax,rfl⟩
end Go.Proofs.YtadhpeooehkklaaGreat
