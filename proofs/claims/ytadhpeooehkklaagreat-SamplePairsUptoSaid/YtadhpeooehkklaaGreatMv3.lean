/- Part 3 of the proof: names.New: the table; names.Twice: does a text stand earlier, too?; Contracts: the reference's words, Plain, Same, Zero, own; Contracts: the reference's Same, Zero, own; Contracts: the reference's Label, listed, names, Size, with, coarse; What is wrong with a type: the plain function; the reference's Wrong and parts return it; The program's checks of types: bad, listed, label, words; The program's checks of types: label, coarse; The program's comparing of names and types; The program's Same; The program's own, empty; The program's empty, enum; kinds.Right, once the checker's check is known; Numbers in tens: the reference's Put; Numbers in tens: the program's Put; The text of a type, plain; the reference's Label and comma; The reference's text of a type: Label, comma, part, Type; The reference's text of a part; The reference's text of a type; The library's strings.Join, laid at this program by the kit's tool (lay-plain; wip/tools/lay.sh); The program's text of a label, of what stands behind a part's type, of lists; The program's text of a type: field, tag, kind; unparse.Type, once the checker's check is known; A type with which nothing is wrong is fine for its text; Readable data as data of the evaluator: what the statement's form reads of an argument is a datum of the evaluator, of the argument's type, no heavier than what was read; What is read of a type, as the plain data; From a contract over data to what a law's statement asks: the arguments are read, the call returns true, all that was there stays; What all laws' frames share: the bulk, the program's closed facts; Types without places: plain, and the program's kinds.Strip; Schemas: plain, as the evaluator has them, without places; What is read of a schema, as the plain data; What the frames of laws over schemas share; The program's closed facts, each by itself (all at once they ask more memory than a Lean process has); Relations as rows of bits: plain, and rel's functions that read; rel.back: who leads to a thing and is led to by it; rel.New: the rows of a list of pairs; rel.Close: the closure, by rows; The number of bits that are set, as the library reckons it; math/bits.OnesCount64; When two bits are set; rel.Loop: the least thing in a loop; The plain law of closeR: its bits are what is led to; The program's and the reference's check of names that must differ; The table's Find, whole; lattice.many, called, numbered. No condition. -/
import Derived.Laws.StructEq
import Derived.Shelf.Strings.OnBuilder
import Derived.Deep.Slices
import Derived.ChangeArms
import Derived.DataReads
import Derived.WalkKit
import Derived.ProofKit
import Derived.OpenShut
import Derived.Carry
import Derived.JoinedCond
import Derived.Test.YtadhpeooehkklaaGreatRows
import Derived.Test.YtadhpeooehkklaaGreatMv2
set_option linter.all false
set_option maxRecDepth 100000
namespace Go.Proofs.YtadhpeooehkklaaGreat
open Go Go.RowKit Dv Go.Proofs.Tryz
theorem AB {n m:Nat} {tk:List TkE}:∀ ds:List Nat,WeL n m tk (dInts ds).flatten (dInts ds).flatten
 | []=>rfl
 | b :: r=>⟨_,_,rfl,aA rfl,AB r⟩
theorem rA {n m:Nat} {tk:List TkE} {l:List DV} {ds:List Nat} (h:l=(dInts ds).flatten):WeL n m tk l (dInts ds).flatten:=by rw [h];exact AB ds
def iW (n e:Nat):List Nat:=List.range e ++ List.replicate (n - e) 0
theorem KI {n e:Nat} (h:e<=n):(iW n e).length=n:=by simp [iW];omega
theorem fillA_0 (n:Nat):(List.replicate n [DV.v (.int .i64 0)]).flatten=(dInts (iW n 0)).flatten:=by simp [iW,dInts]
theorem QU (n:Nat):iW n n=List.range n:=by simp [iW]
theorem o6 (ds:List Nat):(dInts ds).flatten=ds.map fun (i:Nat)=>DV.v (.int .i64 (i:Int)):=by
 induction ds with
 | nil=>rfl
 | cons x r ih=>simp only [dInts,List.map_cons,List.flatten_cons] at ih ⊢;rw [ih];all_goals rfl
theorem Hh {n e:Nat} (h:e < n):(dInts (iW n e)).flatten.take e ++ [DV.v (.int .i64 (e:Int))] ++ (dInts (iW n e)).flatten.drop (e + 1)=(dInts (iW n (e + 1))).flatten:=by
 simp only [o6,<- List.map_take,<- List.map_drop];have e1:(iW n e).take e=List.range e:=by simp [iW]
 have e2:(iW n e).drop (e + 1)=List.replicate (n - (e + 1)) 0:=by
  simp only [iW,List.drop_append,List.length_range];rw [List.drop_eq_nil_of_le (by simp),List.nil_append,List.drop_replicate];congr 1;omega
 rw [e1,e2];simp [iW,List.range_succ]
abbrev Nj (L:List ByteArray) (e:Nat):St:=
 ⟨[(3,⟨[],.loc 1 0⟩),(4,⟨[],.loc 3 0⟩),(16,⟨[],.v (.int .i64 (fp L).length)⟩),(17,⟨[],.v (.int .i64 e)⟩)],
  [[.sl 1 (fp L) (some 0),.v (.slice none 0 0)],[.loc 0 0],(dInts (iW (fp L).length e)).flatten,[.ms 2 1 0 (fp L).length (fp L).length]],[⟨(fp L).length,9,1,none⟩]⟩
def gL (L:List ByteArray) (ds:List Nat) (i:Nat):Bool:=decide (i=0) || !decide (L.getD (ds.getD i 0) az=L.getD (ds.getD (i - 1) 0) az)
def fT (L:List ByteArray) (ds:List Nat) (e:Nat):List Nat:=((List.range e).filter (gL L ds)).map fun i=>ds.getD i 0
theorem xA (L:List ByteArray) (ds:List Nat) (e:Nat):fT L ds (e + 1)=fT L ds e ++ (if gL L ds e=true then [ds.getD e 0] else []):=by
 unfold fT;rw [List.range_succ,List.filter_append,List.map_append];congr 1;cases h:gL L ds e<;>simp [h]
theorem KJ (L:List ByteArray) (ds:List Nat) (e:Nat):(fT L ds e).length<=e:=by
 unfold fT;rw [List.length_map];exact Nat.le_trans (List.length_filter_le _ _) (by simp)
abbrev Ve (L:List ByteArray) (ds:List Nat):St:=
 ⟨[(3,⟨[],.loc 1 0⟩),(4,⟨[],.pt [.sl 1 (dInts ds) none] 0⟩),(29,⟨[],.sl 1 (dInts ds) none⟩),(30,⟨[],.v (.int .i64 (fp L).length)⟩),(31,⟨[],.v (.int .i64 0)⟩)],
  [[.sl 1 (fp L) (some 0),.v (.slice none 0 0)],[.loc 0 0]],[⟨(fp L).length,9,1,none⟩]⟩
abbrev Eu (L:List ByteArray) (ds aO:List Nat) (m e:Nat):St:=
 ⟨[(3,⟨[],.loc 1 0⟩),(4,⟨[],.pt [.sl 1 (dInts ds) none] 0⟩),(29,⟨[],.sl 1 (dInts ds) none⟩),(30,⟨[],.v (.int .i64 (fp L).length)⟩),(31,⟨[],.v (.int .i64 e)⟩)],
  [[.sl 1 (fp L) (some 0),.sl 1 (dInts aO) (some 1)],[.loc 0 0]],[⟨(fp L).length,9,1,none⟩,⟨m,3,1,none⟩]⟩
theorem getD_some {α:Type} {l:List α} {i:Nat} {x d:α} (h:l[i]? = some x):l.getD i d=x:=by simp [aH,h]
theorem tu {α:Type} {l:List α} {i:Nat} {d:α} (h:i < l.length):l[i]? = some (l.getD i d):=by
 rw [gE h,aH,gE h];all_goals rfl
theorem Vf {L:List ByteArray} {ds:List Nat} (pQ:ds.Perm (List.range L.length)) (KG:∀ i j p q:Nat,i < j->ds[i]? = some p->ds[j]? = some q->DM L q p=false):iV L (fT L ds L.length):=by
 have hlen:ds.length=L.length:=by rw [pQ.length_eq,List.length_range]
 let D:Nat->Nat:=fun i=>ds.getD i 0
 let T:Nat->ByteArray:=fun i=>L.getD (D i) az
 have hD:∀ i,i < L.length->ds[i]? = some (D i):=fun i hi=>tu (by omega)
 have hDn:∀ i,i < L.length->D i < L.length:=fun i hi=>by
  have:=pQ.mem_iff.1 (mG (hD i hi));exact List.mem_range.1 this
 have hT:∀ i,i < L.length->L[D i]? = some (T i):=fun i hi=>tu (hDn i hi)
 have dK:∀ i j,i < j->j < L.length->T i=T j∨zQ (T i) (T j)=true:=by
  intro i j jF hj;have h:=KG i j (D i) (D j) jF (hD i (by omega)) (hD j hj);unfold DM at h;by_cases he:T j=T i
  ·exact .inl he.symm
  ·rw [ah he] at h;rcases Jm h with h | h
   ·exact absurd h he
   ·exact .inr h
 have Tn:∀ i,i < L.length->gL L ds i=true->∀ j,j < i->zQ (T j) (T i)=true:=by
  intro i hi hh j GR
  have bF:T i≠T (i - 1):=by
   intro he;unfold gL at hh;have:decide (i=0)=false:=by simp;omega
   rw [this] at hh;simp only [Bool.false_or,Bool.not_eq_true',decide_eq_false_iff_not] at hh;exact hh he
  have h1:zQ (T (i - 1)) (T i)=true:=by
   rcases dK (i - 1) i (by omega) hi with h | h
   ·exact absurd h.symm bF
   ·exact h
  by_cases hj:j=i - 1
  ·rw [hj];exact h1
  ·rcases dK j (i - 1) (by omega) (by omega) with h | h
   ·rw [h];exact h1
   ·exact gV h h1
 have Ao:∀ j,j < L.length->∃ k,k < L.length/\D k=j:=by
  intro j hj;have:=pQ.mem_iff.2 (List.mem_range.2 hj);obtain ⟨k,hk⟩:=List.getElem?_of_mem this;have ej:=(gS hk).1;exact ⟨k,by omega,getD_some hk⟩
 let H:=(List.range L.length).filter (gL L ds)
 have hH:∀ (a i:Nat),H[a]? = some i->i < L.length/\gL L ds i=true:=fun a i h=>by
  have:=mG h;simp only [H,List.mem_filter,List.mem_range] at this;exact this
 have KK:∀ (a p:Nat),(fT L ds L.length)[a]? = some p->∃ i,H[a]? = some i/\D i=p:=by
  intro a p h;unfold fT at h;rw [List.getElem?_map] at h
  cases hh:H[a]? with
  | none=>rw [show (List.filter (gL L ds) (List.range L.length))[a]? = none from hh] at h;cases h
  | some i=>
   rw [show (List.filter (gL L ds) (List.range L.length))[a]? = some i from hh] at h;simp only [Option.map_some,oI] at h;exact ⟨i,rfl,h⟩
 have hinc:∀ (a b i k:Nat),a < b->H[a]? = some i->H[b]? = some k->i < k:=by
  intro a b i k zN hi hk;have hp:List.Pairwise (·< ·) H:=List.Pairwise.filter _ List.pairwise_lt_range;obtain ⟨ha,rfl⟩:=List.getElem?_eq_some_iff.1 hi;obtain ⟨hb,rfl⟩:=List.getElem?_eq_some_iff.1 hk;exact List.pairwise_iff_getElem.1 hp a b ha hb zN
 refine ⟨?_,?_,?_,?_⟩
 ·intro a p h;obtain ⟨i,hi,rfl⟩:=KK a p h;exact hDn i (hH a i hi).1
 ·intro a b p q s t zN hp hq hs ht;obtain ⟨i,hi,rfl⟩:=KK a p hp;obtain ⟨k,hk,rfl⟩:=KK b q hq;rw [hT i (hH a i hi).1] at hs;rw [hT k (hH b k hk).1] at ht;simp only [oI] at hs ht;rw [<- hs,<- ht];exact Tn k (hH b k hk).1 (hH b k hk).2 i (hinc a b i k zN hi hk)
 ·intro a p j s hp hs hj;obtain ⟨i,hi,rfl⟩:=KK a p hp;obtain ⟨vC,ri⟩:=hH a i hi;obtain ⟨k,hk,rfl⟩:=Ao j (gS hj).1;rw [hT i vC] at hs;rw [hT k hk] at hj;simp only [oI] at hs hj;rcases Nat.lt_trichotomy k i with h | h | h
  ·have:=Tn i vC ri k h;rw [hs,hj,zQ,lH] at this;cases this
  ·rw [h];exact aU _
  ·have h2:=KG i k (D i) (D k) h (hD i vC) (hD k hk);unfold DM at h2
   have he:L.getD (D k) az=L.getD (D i) az:=by
    show T k=T i;rw [hj,hs]
   rw [ai he] at h2;simp at h2;omega
 ·intro j s hj;obtain ⟨k,hk,rfl⟩:=Ao j (gS hj).1;rw [hT k hk] at hj;simp only [oI] at hj;obtain ⟨i,⟨vC,Y8⟩,hmin⟩:=least (p:=fun i=>i < L.length/\T i=s) ⟨k,hk,hj⟩
  have ri:gL L ds i=true:=by
   unfold gL;by_cases h0:i=0
   ·simp [h0]
   ·have bF:¬ T i=T (i - 1):=fun he=>by
     have:=hmin (i - 1) ⟨by omega,by rw [<- he];exact Y8⟩;omega
    have e1:decide (L.getD (ds.getD i 0) az=L.getD (ds.getD (i - 1) 0) az)=false:=decide_eq_false bF;rw [e1];simp
  have hm:i∈H:=by simp only [H,List.mem_filter,List.mem_range];exact ⟨vC,ri⟩
  obtain ⟨a,ha⟩:=List.getElem?_of_mem hm;refine ⟨a,D i,?_,by rw [hT i vC,Y8]⟩;unfold fT;rw [List.getElem?_map];rw [show (List.filter (gL L ds) (List.range L.length))[a]? = some i from ha];rfl
theorem xB (L:List ByteArray) (hl:L.length<=1099511627776) :
  Ev prog 88 [.sl 1 (fp L) none] [] [] (fun r _ _=>∃ aO,iV L aO/\aO.length<=L.length/\r = .pt (dC L aO) 0):=by
 have hN:=cv L;refine eG 71 [.tmp 2] func88 rfl ntmps88 rfl fun _ _ _ _=>?_;refine ⟨⟨by simp [hN,maxLen];omega,by simp [hN];omega⟩,?_⟩;refine ⟨⟨rfl,by omega,by omega,by omega⟩,?_⟩;refine lJ (fun e=>Nj L e) L.length (aq 4 rfl (by repeat' (first | exact rfl | exact aA rfl | exact rA (fillA_0 _) | refine ⟨_,_,rfl,?_,?_⟩)) rfl rfl rfl (by repeat' (first | exact trivial | exact aA rfl | exact rA (fillA_0 _) | refine ⟨⟨_,rfl,?_⟩,?_⟩))) ?_;intro e he;refine br ?_ ?_<;>intro h
 ·have au:e < (fp L).length:=sU h;refine ⟨⟨by omega,by omega⟩,?_⟩;have e1:(dInts (iW (fp L).length e)).flatten.length=(fp L).length:=by rw [o6,List.length_map,KI (by omega)]
  refine ⟨by rw [e1];omega,?_⟩
  have dw:(dInts (iW (fp L).length e)).flatten.set (0 + (e:Int).toNat * 1) (DV.v (.int .i64 (e:Int)))=(dInts (iW (fp L).length (e + 1))).flatten:=by
   rw [show 0 + (e:Int).toNat * 1=e by omega,List.set_eq_take_append_cons_drop,ai (by rw [e1];omega),<- Hh au];simp
  refine ⟨Nj L (e + 1),(aq 4 rfl (by repeat' (first | exact rfl | exact aA rfl | exact rA dw | exact aE (aK au (by omega)) | refine ⟨_,_,rfl,?_,?_⟩)) rfl rfl rfl (by repeat' (first | exact trivial | exact aA rfl | exact rA dw | exact aE (aK au (by omega)) | refine ⟨⟨_,rfl,?_⟩,?_⟩))),L.length - (e + 1),by omega,e + 1,rfl,by omega,rfl⟩
 ·have aS:e=(fp L).length:=by
   have:¬ e < (fp L).length:=sU h;omega
  subst aS;rw [QU]
  have hms:∀ dk:List Nat,dk.length=(List.range (fp L).length).length->∀ bx:List (List DV),bx[2]? = some (dInts dk).flatten->∀ N0 n0 m0:Nat,N0<=2->Cc bx N0 n0 m0 (.sl 1 (dInts dk) none) (.ms 2 1 0 (fp L).length (fp L).length):=by
   intro dk hdk bx hb N0 n0 m0 hN0;simp only [Cc];refine Or.inr (Or.inr (Or.inl ⟨2,0,(fp L).length,_,?_,hN0,hb,?_,?_,?_⟩))
   ·rw [bi,hdk,List.length_range]
   ·rw [List.drop_zero,List.take_of_length_le];rw [o6,List.length_map,bi];omega
   ·intro x hx;simp only [dInts,List.mem_map] at hx;obtain ⟨_,_,rfl⟩:=hx;rfl
   ·intro x hx;rw [o6] at hx;obtain ⟨_,_,rfl⟩:=List.mem_map.1 hx;exact ⟨_,rfl⟩
  refine KF (ds:=List.range (fp L).length) rfl (by simp) (fp L).length (fun p hp=>List.mem_range.1 hp) (DM L) (QR L) rfl (by simp [hN];omega)
   (fun dk=>[.pt [.sl 1 (dInts dk) none] 0,.pt [.pt [.sl 1 (fp L) none,.v (.slice none 0 0)] 0] 0])
   (fun dk hdk=>⟨_,_,rfl,Or.inr ⟨3,_,rfl,Nat.zero_le _,rfl,⟨_,_,rfl,hms dk hdk _ rfl 0 0 0 (Nat.zero_le _),rfl⟩⟩,ax⟩)
   (fun dk hdk hp i j p q hi hj=>KD L dk i j p q hi hj (by have:=hp p (mG hi);omega) (by have:=hp q (mG hj);omega)) rfl (fun ds pQ KG=>?_)
  have bJ:ds.length=(fp L).length:=by rw [pQ.length_eq,List.length_range]
  have Y9:=hms ds (by rw [bJ,List.length_range])
  refine MM 2 (Ve L ds) rfl rfl rfl ⟨_,_,rfl,⟨_,_,rfl,⟨nL rfl,rfl⟩,_,_,rfl,rfl,rfl⟩,_,_,rfl,⟨_,_,rfl,⟨nL rfl,rfl⟩,rfl⟩,rfl⟩
   ⟨⟨_,rfl,⟨nL rfl,rfl⟩⟩,⟨_,rfl,Or.inr ⟨3,_,rfl,by decide,rfl,⟨_,_,rfl,Y9 _ rfl 2 0 0 (by decide),rfl⟩⟩⟩,⟨_,rfl,Y9 _ rfl 2 2 1 (by decide)⟩,⟨_,rfl,rfl⟩,⟨_,rfl,rfl⟩,trivial⟩ ?_
  refine bA (fun j st=>∃ e m:Nat,st=Eu L ds (fT L ds e) m e/\m=(fT L ds e).length/\e<=(fp L).length/\j=(fp L).length - e) (fp L).length (Eu L ds [] 0 0)
   (cW 2 ⟨0,3,1,none⟩ rfl rfl rfl pO rfl rfl wB) ⟨0,0,rfl,rfl,by omega,by omega⟩ ?_
  rintro j st ⟨e,m,rfl,hm,he,rfl⟩;have jU:=KJ L ds e;refine br ?_ ?_<;>intro h
  ·have au:e < (fp L).length:=sU h;obtain ⟨p,hp⟩:∃ p,ds[e]? = some p:=⟨_,gE (by omega)⟩
   have hpL:p < L.length:=by
    have:=pQ.mem_iff.1 (mG hp);rw [List.mem_range] at this;omega
   obtain ⟨s,hs⟩:∃ s,L[p]? = some s:=⟨_,gE hpL⟩;refine iX (aG hp) ?_;have hgp:ds.getD e 0=p:=by simp [aH,hp]
   have sA:L.getD p az=s:=by simp [aH,hs]
   have cd:gL L ds e=true->fT L ds (e + 1)=fT L ds e ++ [p]:=fun hh=>by rw [xA,ai hh,hgp]
   have hold:gL L ds e=false->fT L ds (e + 1)=fT L ds e:=fun hh=>by rw [xA,ah (by rw [hh];decide),List.append_nil]
   have Jo:gL L ds e=true->dInts (fT L ds e) ++ [[DV.v (.int .i64 (p:Int))]]=dInts (fT L ds (e + 1)):=fun hh=>by rw [cd hh];simp [dInts]
   by_cases h0:e=0
   ·subst h0;have hh:gL L ds 0=true:=by simp [gL]
    refine dI ?_;refine dS ?_;refine ⟨by rw [bi,hm],⟨by simp [bi,maxLen];omega,by simp [bi];omega⟩,?_⟩;refine ⟨Eu L ds (fT L ds 1) (m + 1) 1,(aq 2 rfl (by repeat' (first | exact rfl | exact aA rfl | exact aE (aK au (by omega)) | exact cR (Jo hh) rfl | refine ⟨_,_,rfl,?_,?_⟩)) rfl rfl rfl (by repeat' (first | exact trivial | exact aA rfl | exact aE (aK au (by omega)) | exact cR (Jo hh) rfl | refine ⟨⟨_,rfl,?_⟩,?_⟩))),(fp L).length - 1,by omega,1,m + 1,rfl,by rw [cd hh,List.length_append,hm];rfl,by omega,rfl⟩
   ·obtain ⟨p',qh⟩:∃ p',ds[e - 1]? = some p':=⟨_,gE (by omega)⟩
    have hpL':p' < L.length:=by
     have:=pQ.mem_iff.1 (mG qh);rw [List.mem_range] at this;omega
    obtain ⟨s',uN⟩:∃ s',L[p']? = some s':=⟨_,gE hpL'⟩;have hgp':ds.getD (e - 1) 0=p':=by simp [aH,qh]
    have hgs':L.getD p' az=s':=by simp [aH,uN]
    have hhd:gL L ds e = !decide (s=s'):=by
     unfold gL;rw [hgp,hgp',sA,hgs'];simp [h0]
    have hz:IntKind.i64.wrap ((e:Int) - 1)=((e - 1:Nat):Int):=by rw [wrap64 (by omega) (by omega)];omega
    refine dI ?_;refine br (fun _=>?_) (fun h=>?_)
    ·refine iX (iG hs) ?_;refine ⟨[.v (.int .i64 (p':Int))],⟨by rw [hz];omega,by rw [hz];exact aG qh⟩,?_⟩;refine iX (iG uN) ?_;refine br ?_ ?_<;>intro h2
     ·have hh:gL L ds e=true:=by
       rw [hhd];simp [ay,h0] at h2;simpa using h2
      refine dS ?_;refine ⟨by rw [bi,hm],⟨by simp [bi,maxLen];omega,by simp [bi];omega⟩,?_⟩;refine ⟨Eu L ds (fT L ds (e + 1)) (m + 1) (e + 1),(aq 2 rfl (by repeat' (first | exact rfl | exact aA rfl | exact aE (aK au (by omega)) | exact cR (Jo hh) rfl | refine ⟨_,_,rfl,?_,?_⟩)) rfl rfl rfl (by repeat' (first | exact trivial | exact aA rfl | exact aE (aK au (by omega)) | exact cR (Jo hh) rfl | refine ⟨⟨_,rfl,?_⟩,?_⟩))),(fp L).length - (e + 1),by omega,e + 1,m + 1,rfl,by rw [cd hh,List.length_append,hm];rfl,by omega,rfl⟩
     ·have hh:gL L ds e=false:=by
       rw [hhd];simp [ay,h0] at h2;simpa using h2
      have aP:dInts (fT L ds e)=dInts (fT L ds (e + 1)):=by rw [hold hh]
      refine ⟨Eu L ds (fT L ds (e + 1)) m (e + 1),(aq 2 rfl (gp (aK au (by omega)) aP) rfl rfl rfl (wB2 (aK au (by omega)) aP)),(fp L).length - (e + 1),by omega,e + 1,m,rfl,by rw [hold hh,hm],by omega,rfl⟩
    ·exfalso;have:decide ((e:Int)=0)=true:=sU h;simp at this;exact h0 this
  ·have aS:e=L.length:=by
    have:¬ e < (fp L).length:=sU h;omega
   subst aS;exact ⟨.pt (dC L (fT L ds L.length)) 0,Or.inr ⟨0,_,rfl,Nat.zero_le _,rfl,ax⟩,_,Vf (by rw [<- hN];exact pQ) KG,jU,rfl⟩
abbrev Za (L:List ByteArray) (aO:List Nat) (e:Nat):St:=
 ⟨[(3,⟨[],.pt (dC L aO) 0⟩),(10,⟨[],.sl 1 (fp L) none⟩),(11,⟨[],.v (.int .i64 (fp L).length)⟩),(12,⟨[],.v (.int .i64 e)⟩)],[],[]⟩
theorem Nk {α:Type}:∀ {l:List α},(∀ (i j:Nat) (x:α),j < i->l[i]? = some x->l[j]? ≠ some x)->l.Nodup
 | l,h=>by
  rw [List.nodup_iff_pairwise_ne,List.pairwise_iff_getElem];intro i j hi hj jF he;exact h j i l[j] jF (gE hj) (by rw [gE hi,he])
theorem ql (L:List ByteArray) (hl:L.length<=1099511627776) :
  Ev prog 95 [.sl 1 (fp L) none] [] [] (fun r _ _=>∃ z:Int,r = .v (.int .i64 z)/\(0<=z↔¬ L.Nodup)):=by
 have hN:=cv L;refine eG 28 [.tmp 2] func95 rfl ntmps95 rfl fun _ _ _ _=>?_;refine kG U7 rfl (xB L hl) ax (fun r hr=>?_);obtain ⟨aO,hT,jU,rfl⟩:=hr;refine lI (fun j st=>∃ e:Nat,st=Za L aO e/\e<=L.length/\(∀ (i j:Nat) (x:ByteArray),i < e->j < i->L[i]? = some x->L[j]? ≠ some x)/\j=L.length - e) ⟨0,rfl,by omega,fun i j x hi=>by omega,rfl⟩ (aj ⟨_,rfl⟩ wA rfl rfl rfl wB) ?_;rintro j st ⟨e,rfl,he,hinv,rfl⟩;refine br ?_ ?_<;>intro h
 ·have au:e < L.length:=sV hN h;obtain ⟨s,hs⟩:=gX au;obtain ⟨q,p,hq,hp⟩:=hT.all e s hs;have dR:=hT.fst q p e s hq hp hs;refine iX (iG hs) ?_;refine cP xj (find_spec L aO s q p hT (by omega) hq hp) ?_;refine br ?_ ?_<;>intro h2
  ·have h2:p < e:=sU h2;refine ⟨(e:Int),rfl,⟨fun _ hnd=>?_,fun _=>by omega⟩⟩;rw [List.nodup_iff_pairwise_ne,List.pairwise_iff_getElem] at hnd;obtain ⟨h3,h4⟩:=List.getElem?_eq_some_iff.1 hp;obtain ⟨h5,h6⟩:=List.getElem?_eq_some_iff.1 hs;exact hnd p e h3 h5 h2 (by rw [h4,h6])
  ·have h2:¬ p < e:=sU h2;refine ⟨Za L aO (e + 1),(aj ⟨_,rfl⟩ wA rfl rfl rfl (dy (aK au (by omega)))),L.length - (e + 1),by omega,e + 1,rfl,by omega,fun i j x hi hj hx hjx=>?_,rfl⟩;by_cases zA:i=e
   ·subst zA;rw [hs] at hx;simp only [oI] at hx;subst hx;have:=hT.fst q p j s hq hp hjx;omega
   ·exact hinv i j x (by omega) hj hx hjx
 ·have aS:e=L.length:=by
   have:¬ e < L.length:=sV hN h;omega
  subst aS;refine ⟨-1,rfl,⟨fun h3=>by omega,fun h3=>?_⟩⟩;exact absurd (Nk fun i j x jF hi hj=>hinv i j x (gS hi).1 jF hi hj) h3
def sameWds:List Wd->List Wd->Bool
 | [],[]=>true
 | x :: r,y :: s=>decide (x.s=y.s) && sameWds r s
 | _,_=>false
theorem uO:∀ {a b:List Wd},a.length≠b.length->sameWds a b=false
 | [],[],h=>(h rfl).elim
 | x :: r,y :: s,h=>by
  have:r.length≠s.length:=sU h;simp [sameWds,uO this]
 | [],y :: s,_=>rfl
 | x :: r,[],_=>rfl
abbrev Cv (a b:List Wd) (e:Nat):St:=
 ⟨[(0,⟨[],.sl 2 (bQ a) none⟩),(1,⟨[],.sl 2 (bQ b) none⟩),(5,⟨[],.v (.int .i64 e)⟩)],[],[]⟩
theorem mQ (a b:List Wd) (hs:a.length<=4611686018427387904) :
  aV prog 206 [.sl 2 (bQ a) none,.sl 2 (bQ b) none] (.v (.bool (sameWds a b))):=by
 refine eG 28 [.tmp 4] func206 rfl ntmps206 rfl fun _ _ _ _=>?_;refine br ?_ ?_<;>intro h
 ·have bF:a.length≠b.length:=by have:=h;simp [aC] at this;omega
  exact congrArg (fun b=>DV.v (.bool b)) (uO bF).symm
 ·have hl:a.length=b.length:=by have:=h;simp [aC] at this;omega
  refine bA (fun j st=>∃ e:Nat,st=Cv a b e/\e<=a.length/\sameWds a b=sameWds (a.drop e) (b.drop e)/\j=a.length - e) a.length
   (Cv a b 0) (aj ⟨_,rfl⟩ wA rfl rfl rfl wB) ⟨0,rfl,by omega,rfl,by omega⟩ ?_
  rintro j st ⟨e,rfl,he,aP,rfl⟩;refine br ?_ ?_<;>intro h
  ·have au:e < a.length:=by simpa [aC] using h
   obtain ⟨x,hx⟩:=gX au;obtain ⟨y,hy⟩:∃ y,b[e]? = some y:=⟨_,gE (hl ▸ au)⟩;rw [drop_cons hx,drop_cons hy] at aP;refine dI ?_;refine ⟨kK x,⟨by omega,bg hx⟩,kK y,⟨by omega,bg hy⟩,?_⟩;refine br ?_ ?_<;>intro h
   ·have bF:x.s≠y.s:=sU h;refine (congrArg (fun b=>DV.v (.bool b)) ?_:_=_);rw [aP];simp [sameWds,bF]
   ·have bF:x.s=y.s:=sU h;refine ⟨Cv a b (e + 1),(aj ⟨_,rfl⟩ wA rfl rfl rfl (dy (aK au (by omega)))),a.length - (e + 1),by omega,e + 1,rfl,by omega,?_,rfl⟩;rw [aP];simp [sameWds,bF]
  ·have aS:e=a.length:=by have:=h;simp [aC] at this;omega
   refine (congrArg (fun b=>DV.v (.bool b)) ?_:_=_);rw [aP,aS,hl];simp [sameWds];rw [<- hl];simp [sameWds]
def cf (p q:Ph):Bool:=(p.bare == q.bare) && decide (p.wide=q.wide) && sameWds p.label q.label && decide (p.ck=q.ck) && decide (p.cn=q.cn) && sameWds p.cl q.cl
theorem mR (p q:Ph) (tl tl':List DV) (hs:p.wt<=4611686018427387904) (ht:CcL [] 0 0 0 tl tl) (pG:CcL [] 0 0 0 tl' tl') :
  aV prog 177 [.agg (Ha p tl),.agg (Ha q tl')] (.v (.bool (cf p q))):=by
 refine eG 51 [.tmp 4] func177 rfl ntmps177 rfl fun _ _ _ _=>?_;have h1:=bP p.label;have h2:=bP p.cl;simp only [Ph.wt] at hs;refine br ?_ ?_<;>intro h
 ·refine cP M6 (mQ p.label q.label (by omega)) ?_;refine br ?_ ?_<;>intro h2
  ·refine cP M6 (mQ p.cl q.cl (by omega)) ?_;refine (congrArg (fun b=>DV.v (.bool b)) ?_:_=_);simp [aw] at h h2;simp [cf,aw,h,h2]
  ·refine (congrArg (fun b=>DV.v (.bool b)) ?_:_=_);simp [aw] at h h2;simp [cf,aw,h]
   grind
 ·refine (congrArg (fun b=>DV.v (.bool b)) ?_:_=_);simp [aw] at h;simp [cf]
  grind
def lK (h k:Hd):Bool:=decide (h.ag=k.ag) && decide (h.lo=k.lo) && decide (h.hi=k.hi) && decide (h.most=k.most) && decide (h.name.s=k.name.s) && sameWds h.af k.af
mutual
def sameTy:Ty->Ty->Bool
 | .mk h ps,.mk k qs=>lK h k && samePts ps qs
def samePts:Pts->Pts->Bool
 | .nil,.nil=>true
 | .cons p t r,.cons q u s=>decide (p.name.s=q.name.s) && cf p q && sameTy t u && samePts r s
 | _,_=>false
end
theorem uP:∀ {a b:Pts},a.len≠b.len->samePts a b=false
 | .nil,.nil,h=>(h rfl).elim
 | .cons p t r,.cons q u s,h=>by
  have:r.len≠s.len:=by simpa [Pts.len] using h
  simp [samePts,uP this]
 | .nil,.cons _ _ _,_=>by simp [samePts]
 | .cons _ _ _,.nil,_=>by simp [samePts]
def jY (h:Hd):Hd:=
 ⟨h.ag,0,if h.ag=2 then h.lo else 0,if h.ag=2 then h.hi else 0,if h.ag=3∨h.ag=5 then h.most else 0,if h.ag=4 then h.af else [],if h.ag=9 then h.name else ⟨az,0⟩⟩
def mask:Ty->Ty
 | .mk h ps=>.mk (jY h) (if 4 < h.ag/\h.ag < 9 then ps else .nil)
theorem AD (bx:List (List DV)) (N n m:Nat) (t:Ty):CcL bx N n m (eJ t) (eJ t):=by
 obtain ⟨h,ps⟩:=t;simp only [eJ,CcL,Cc]
 repeat' (first | exact rfl | exact trivial | exact Or.inr (Or.inl ⟨_,rfl⟩) | refine ⟨_,_,rfl,?_,?_⟩)
abbrev Hi (a b:Ty) (e:Nat):St:=
 ⟨[(2,⟨[],.loc 0 0⟩),(3,⟨[],.loc 1 0⟩),(5,⟨[],.v (.int .i64 e)⟩)],[eJ a,eJ b],[]⟩
theorem oa:∀ (n:Nat) (a b:Ty),a.wt<=n->a.wt<=4611686018427387904 ->
  aV prog 205 [.agg (eJ a),.agg (eJ b)] (.v (.bool (sameTy a b)))
 | 0,a,b,hn,_=>by have:=a.eO;omega
 | n + 1,.mk h ps,.mk k qs,hn,cM=>by
  simp only [Ty.wt,Hd.wt] at hn cM;have hl:=bP h.af;have nD:=ps.gD;refine eG 98 [.tmp 4] func205 rfl ntmps205 rfl fun _ _ _ _=>?_;refine br ?_ ?_<;>intro hA
  ·simp [ay] at hA;obtain ⟨⟨⟨⟨e1,e2⟩,e3⟩,e4⟩,e5⟩:=hA;refine cP M6 (mQ h.af k.af (by omega)) ?_;refine br ?_ ?_<;>intro hB
   ·refine (congrArg (fun b=>DV.v (.bool b)) ?_:_=_);simp [ay,e1,e2,e3,e4,e5,aR] at hB;simp only [sameTy,lK];rcases hB with hB | hB
    ·simp [hB]
    ·have:ps.len≠qs.len:=by omega
     simp [uP this]
   ·simp [ay,e1,e2,e3,e4,e5,aR] at hB;obtain ⟨e6,e7⟩:=hB;have e8:ps.len=qs.len:=by omega
    have eh:sameTy (.mk h ps) (.mk k qs)=samePts ps qs:=by simp [sameTy,lK,e1,e2,e3,e4,e5,e6]
    refine bA (fun j st=>∃ e:Nat,st=Hi (.mk h ps) (.mk k qs) e/\e<=ps.len/\samePts ps qs=samePts (ps.drop e) (qs.drop e)/\j=ps.len - e) ps.len
     (Hi (.mk h ps) (.mk k qs) 0) (aj ⟨_,rfl⟩ wA rfl rfl rfl wB) ⟨0,rfl,by omega,rfl,by omega⟩ ?_
    rintro j st ⟨e,rfl,he,aP,rfl⟩;refine br ?_ ?_<;>intro hL
    ·have au:e < ps.len:=by simpa [aR] using hL
     obtain ⟨p,t,hx⟩:=Pts.fh au;obtain ⟨q,u,hy⟩:=Pts.fh (e8 ▸ au);rw [Pts.drop_cons hx,Pts.drop_cons hy] at aP;have hwt:=Pts.gY (mG hx);obtain ⟨t,ts⟩:=t;obtain ⟨u,us⟩:=u;apply oY (fun _=>false) 10 11 [0,1,2,3,4,5,6,7,8,9,10,11,12,13] [0,1,2,3,4,5,6,7,8,9,11,10,12,13] 2 3 mo (by decide +kernel)
     ·refine ⟨_,⟨by omega,cr hx⟩,_,⟨by omega,cr hy⟩,?_⟩;refine (?_:@Eq St _ _);exact rfl
     ·refine ⟨_,⟨by omega,cr hx⟩,_,⟨by omega,cr hy⟩,?_⟩;refine (⟨rfl,rfl,?_⟩:_/\_/\_)
      repeat' (first | exact trivial | refine ⟨rfl,?_⟩)
     ·rfl
     refine br ?_ ?_<;>intro hC
     ·have hC:p.name.s=q.name.s:=sU hC;refine cP M4 (mR p q (eJ (.mk t ts)) (eJ (.mk u us)) (by omega) (AD _ _ _ _ _) (AD _ _ _ _ _)) ?_;refine br ?_ ?_<;>intro hD
      ·have hD:cf p q=true:=by simpa [ay,hC] using hD
       refine cP n9 (oa n (.mk t ts) (.mk u us) (by omega) (by omega)) ?_;refine br ?_ ?_<;>intro hE
       ·refine (congrArg (fun b=>DV.v (.bool b)) ?_:_=_);rw [eh,aP];simp [ay,hC,hD] at hE;simp [samePts,hE]
       ·simp [ay,hC,hD] at hE;refine ⟨Hi (.mk h ps) (.mk k qs) (e + 1),(aj ⟨_,rfl⟩ wA rfl rfl rfl (dy (aK au (by omega)))),ps.len - (e + 1),by omega,e + 1,rfl,by omega,?_,rfl⟩;rw [aP];simp [samePts,hC,hD,hE]
      ·have hD:cf p q=false:=by simpa [ay,hC] using hD
       refine (congrArg (fun b=>DV.v (.bool b)) ?_:_=_);rw [eh,aP];simp [samePts,hD]
     ·have hC:p.name.s≠q.name.s:=sU hC;refine (congrArg (fun b=>DV.v (.bool b)) ?_:_=_);rw [eh,aP];simp [samePts,hC]
    ·have aS:e=ps.len:=by have:=hL;simp [aR] at this;omega
     refine (congrArg (fun b=>DV.v (.bool b)) ?_:_=_);rw [eh,aP,aS,Pts.dM,e8,Pts.dM];simp [samePts]
  ·refine (congrArg (fun b=>DV.v (.bool b)) ?_:_=_);simp [ay] at hA;simp only [sameTy,lK]
   grind
theorem Ew (t:Ty) (cM:t.wt<=4611686018427387904) :
  aV prog 208 [.agg (eJ t)] (.v (.bool (sameTy t cA))):=by
 obtain ⟨h,ps⟩:=t;refine eG 6 [.tmp 2] func208 rfl ntmps208 rfl fun _ _ _ _=>?_;refine cP n9 (oa _ (.mk h ps) cA (aU _) cM) ?_;exact (rfl:_=_)
theorem Hj (t:Ty) (cM:t.wt<=4611686018427387904) :
  aV prog 175 [.agg (eJ t)] (.v (.bool (sameTy t (mask t)))):=by
 obtain ⟨h,ps⟩:=t
 have key:∀ (h':Hd) (ps':Pts),jY h=h' -> (if 4 < h.ag/\h.ag < 9 then ps else .nil)=ps' ->
   aV prog 205 [.agg (eJ (.mk h ps)),.agg (eJ (.mk h' ps'))] (.v (.bool (sameTy (.mk h ps) (mask (.mk h ps))))):=by
  rintro h' ps' rfl rfl;exact oa _ (.mk h ps) _ (aU _) cM
 obtain ⟨ag,ba,lo,hi,most,af,name⟩:=h;by_cases hr:2<=ag/\ag<=9
 ·obtain hk | hk | hk | hk | hk | hk | hk | hk:ag=2∨ag=3∨ag=4∨ag=5∨ag=6∨ag=7∨ag=8∨ag=9:=by omega
  ·subst hk;refine eG 53 [.tmp 2] func175 rfl ntmps175 rfl fun _ _ _ _=>?_;refine cP n9 (key ⟨2,0,lo,hi,0,[],⟨az,0⟩⟩ .nil (by simp [jY]) (by simp)) ?_;exact (rfl:_=_)
  ·subst hk;refine eG 53 [.tmp 2] func175 rfl ntmps175 rfl fun _ _ _ _=>?_;refine cP n9 (key ⟨3,0,0,0,most,[],⟨az,0⟩⟩ .nil (by simp [jY]) (by simp)) ?_;exact (rfl:_=_)
  ·subst hk;refine eG 53 [.tmp 2] func175 rfl ntmps175 rfl fun _ _ _ _=>?_;refine cP n9 (key ⟨4,0,0,0,0,af,⟨az,0⟩⟩ .nil (by simp [jY]) (by simp)) ?_;exact (rfl:_=_)
  ·subst hk;refine eG 53 [.tmp 2] func175 rfl ntmps175 rfl fun _ _ _ _=>?_;refine cP n9 (key ⟨5,0,0,0,most,[],⟨az,0⟩⟩ ps (by simp [jY]) (by simp)) ?_;exact (rfl:_=_)
  ·subst hk;refine eG 53 [.tmp 2] func175 rfl ntmps175 rfl fun _ _ _ _=>?_;refine cP n9 (key ⟨6,0,0,0,0,[],⟨az,0⟩⟩ ps (by simp [jY]) (by simp)) ?_;exact (rfl:_=_)
  ·subst hk;refine eG 53 [.tmp 2] func175 rfl ntmps175 rfl fun _ _ _ _=>?_;refine cP n9 (key ⟨7,0,0,0,0,[],⟨az,0⟩⟩ ps (by simp [jY]) (by simp)) ?_;exact (rfl:_=_)
  ·subst hk;refine eG 53 [.tmp 2] func175 rfl ntmps175 rfl fun _ _ _ _=>?_;refine cP n9 (key ⟨8,0,0,0,0,[],⟨az,0⟩⟩ ps (by simp [jY]) (by simp)) ?_;exact (rfl:_=_)
  ·subst hk;refine eG 53 [.tmp 2] func175 rfl ntmps175 rfl fun _ _ _ _=>?_;refine cP n9 (key ⟨9,0,0,0,0,[],name⟩ .nil (by simp [jY]) (by simp)) ?_;exact (rfl:_=_)
 ·refine eG 53 [.tmp 2] func175 rfl ntmps175 rfl fun _ _ _ _=>?_;refine br (fun c=>?_) (fun c1=>?_)
  ·have:ag=2:=of_decide_eq_true c;omega
  refine br (fun c=>?_) (fun c2=>?_)
  ·simp [ay] at c;omega
  refine br (fun c=>?_) (fun c3=>?_)
  ·have:ag=4:=of_decide_eq_true c;omega
  refine br (fun c=>?_) (fun c4=>?_)
  ·simp [aw] at c;omega
  refine br (fun c=>?_) (fun c5=>?_)
  ·have:ag=9:=of_decide_eq_true c;omega
  have e1:¬ ag=2:=of_decide_eq_false c1;have e3:¬ ag=4:=of_decide_eq_false c3;have e5:¬ ag=9:=of_decide_eq_false c5;simp [ay,aw] at c2 c4;refine cP n9 (key ⟨ag,0,0,0,0,[],⟨az,0⟩⟩ .nil (by simp [jY,e1,c2,e3,e5]) (by simp;omega)) ?_;exact (rfl:_=_)
abbrev Ft:Type:=Int × Int
def Ft.d (f:Ft):DV:=.agg [.v (.int .i64 f.1),.v (.int .i64 f.2)]
def badWd:List Wd->Ft
 | []=>(0,0)
 | w :: r=>if bq w.s then badWd r else (9,w.a)
def cg (l:List Wd):Ft:=
 if l.length<=32 then badWd l else (8,((l[32]?).getD (⟨az,0⟩:Wd)).a)
abbrev Cw (l:List Wd) (e:Nat):St:=
 ⟨[(0,⟨[],.sl 2 (bQ l) none⟩),(2,⟨[],.loc 0 0⟩),(3,⟨[],.v (.int .i64 e)⟩)],[[.v (.int .i64 0),.v (.int .i64 0)]],[]⟩
theorem mS (l:List Wd) (hs:wdsWt l<=4611686018427387904) :
  aV prog 173 [.sl 2 (bQ l) none] (cg l).d:=by
 have nQ:=bP l;refine eG 32 [.cell 2 45] func173 rfl ntmps173 rfl fun _ _ _ _=>?_;refine br ?_ ?_<;>intro h
 ·have au:32 < l.length:=by simp [aC] at h;omega
  obtain ⟨x,hx⟩:=gX au;have:cg l=(8,x.a):=by simp [cg,Nat.not_le.2 au,hx]
  refine ⟨kK x,⟨by omega,bg hx⟩,_,?_,rfl⟩;rw [this];exact ax
 ·have dK:l.length<=32:=by simp [aC] at h;omega
  refine bA (fun j st=>∃ e:Nat,st=Cw l e/\e<=l.length/\badWd l=badWd (l.drop e)/\j=l.length - e) l.length
   (Cw l 0) (aj ⟨_,rfl⟩ wA rfl rfl rfl wB) ⟨0,rfl,by omega,rfl,by omega⟩ ?_
  rintro j st ⟨e,rfl,he,aP,rfl⟩;refine br ?_ ?_<;>intro hL
  ·have au:e < l.length:=by simpa [aC] using hL
   obtain ⟨x,hx⟩:=gX au;rw [drop_cons hx] at aP;have qQ:=jo (mG hx);refine ⟨kK x,⟨by omega,bg hx⟩,?_⟩;refine cP Ej (jL x.s (by omega)) ?_;refine br ?_ ?_<;>intro hN
   ·have hN:bq x.s=false:=sU hN;have:cg l=(9,x.a):=by simp [cg,dK,aP,badWd,hN]
    refine ⟨kK x,⟨by omega,bg hx⟩,_,?_,rfl⟩;rw [this];exact ax
   ·have hN:bq x.s=true:=sU hN;refine ⟨Cw l (e + 1),(aj ⟨_,rfl⟩ wA rfl rfl rfl (dy (aK au (by omega)))),l.length - (e + 1),by omega,e + 1,rfl,by omega,?_,rfl⟩;rw [aP];simp [badWd,hN]
  ·have aS:e=l.length:=by simp [aC] at hL;omega
   have:cg l=(0,0):=by simp [cg,dK,aP,aS,badWd]
   refine ⟨_,?_,rfl⟩;rw [this];exact ax
def bX (l:List Wd) (s:ByteArray):Bool:=l.any fun w=>decide (w.s=s)
def aN (l:List Wd) (i:Nat) (x:Wd):Int:=
 if bq x.s then (if bX (l.take i) x.s then 10 else 0) else 9
abbrev xC (l:List Wd) (i e:Nat):St:=
 ⟨[(0,⟨[],.sl 2 (bQ l) none⟩),(1,⟨[],.v (.int .i64 i)⟩),(5,⟨[],.v (.int .i64 e)⟩)],[],[]⟩
theorem pS (l:List Wd) (i:Nat) (x:Wd) (hs:wdsWt l<=4611686018427387904) (hx:l[i]? = some x) :
  aV prog 176 [.sl 2 (bQ l) none,.v (.int .i64 i)] (.v (.int .i64 (aN l i x))):=by
 have nQ:=bP l;have hi:=(gS hx).1;have qQ:=jo (mG hx);refine eG 29 [.tmp 4] func176 rfl ntmps176 rfl fun _ _ _ _=>?_;refine ⟨kK x,⟨by omega,bg hx⟩,?_⟩;refine cP Ej (jL x.s (by omega)) ?_;refine br ?_ ?_<;>intro hN
 ·have hN:bq x.s=false:=sU hN;refine (congrArg (fun z=>DV.v (.int .i64 z)) ?_:_=_);simp [aN,hN]
 ·have hN:bq x.s=true:=sU hN
  refine bA (fun j st=>∃ e:Nat,st=xC l i e/\e<=i/\bX (l.take e) x.s=false/\j=i - e) i
   (xC l i 0) (aj ⟨_,rfl⟩ wA rfl rfl rfl wB) ⟨0,rfl,by omega,rfl,by omega⟩ ?_
  rintro j st ⟨e,rfl,he,aP,rfl⟩;refine br ?_ ?_<;>intro hL
  ·have au:e < i:=sU hL;obtain ⟨y,hy⟩:∃ y,l[e]? = some y:=⟨_,gE (by omega)⟩;refine dI ?_;refine ⟨kK y,⟨by omega,bg hy⟩,kK x,⟨by omega,bg hx⟩,?_⟩;refine br ?_ ?_<;>intro hE
   ·have hE:y.s=x.s:=sU hE;refine (congrArg (fun z=>DV.v (.int .i64 z)) ?_:_=_)
    have:bX (l.take i) x.s=true:=by
     simp only [bX,List.any_eq_true];exact ⟨y,List.mem_take_iff_getElem.2 ⟨e,by omega,(gS hy).2⟩,by simpa using hE⟩
    simp [aN,hN,this]
   ·have hE:¬ y.s=x.s:=sU hE;refine ⟨xC l i (e + 1),(aj ⟨_,rfl⟩ wA rfl rfl rfl (dy (aK au (by omega)))),i - (e + 1),by omega,e + 1,rfl,by omega,?_,rfl⟩;rw [List.take_add_one,hy];simp only [bX,List.any_append] at aP ⊢;simp [aP,hE]
  ·have aS:e=i:=by have:=of_decide_eq_false hL;omega
   refine (congrArg (fun z=>DV.v (.int .i64 z)) ?_:_=_);subst aS;simp [aN,hN,aP]
def pNames:Pts->List Wd
 | .nil=>[]
 | .cons p _ r=>p.name :: pNames r
theorem gZ:∀ ps:Pts,(pNames ps).length=ps.len
 | .nil=>rfl
 | .cons p t r=>by simp [pNames,Pts.len,gZ r]
theorem hU:∀ {ps:Pts} {j:Nat} {p:Ph} {t:Ty},ps.toList[j]? = some (p,t)->(pNames ps)[j]? = some p.name
 | .nil,j,p,t,h=>by simp [Pts.toList] at h
 | .cons q u r,0,p,t,h=>by
  simp only [Pts.toList,List.getElem?_cons_zero,oI,Prod.mk.injEq] at h;obtain ⟨rfl,rfl⟩:=h;simp [pNames]
 | .cons q u r,j + 1,p,t,h=>by
  simp only [Pts.toList,List.getElem?_cons_succ] at h;simp only [pNames,List.getElem?_cons_succ];exact hU h
theorem tv:∀ ps:Pts,wdsWt (pNames ps)<=ps.wt
 | .nil=>aU _
 | .cons p t r=>by
  have:=tv r;simp only [pNames,wdsWt,Pts.wt,Ph.wt] at this ⊢;omega
abbrev Cx (ps:Pts) (l:List Wd) (n e:Nat):St:=
 ⟨[(0,⟨[],.sl 18 (gF ps) none⟩),(3,⟨[],.sl 2 (bQ l) (some 0)⟩),(4,⟨[],.v (.int .i64 e)⟩)],[],[⟨n,27,2,none⟩]⟩
theorem Cy (ps:Pts) (hs:ps.wt<=1099511627776):aV prog 207 [.sl 18 (gF ps) none] (.sl 2 (bQ (pNames ps)) none):=by
 have nD:=ps.gD;refine eG 20 [.tmp 2] func207 rfl ntmps207 rfl fun _ _ _ _=>?_
 refine bA (fun j st=>∃ (e:Nat),st=Cx ps ((pNames ps).take e) e e/\e<=ps.len/\j=ps.len - e) ps.len
  (Cx ps [] 0 0) (fM ⟨0,27,2,none⟩ rfl ⟨_,rfl⟩ rfl wA rfl rfl lX) ⟨0,by simp,by omega,by omega⟩ ?_
 rintro j st ⟨e,rfl,he,rfl⟩;refine br ?_ ?_<;>intro hL
 ·have au:e < ps.len:=by simpa [aR] using hL
  obtain ⟨p,t,hx⟩:=Pts.fh au;refine iX (cr hx) ?_;refine ⟨by simp [aC,gZ];omega,⟨by simp [aC,gZ,maxLen];omega,by simp [aC,gZ];omega⟩,?_⟩;refine ⟨Cx ps ((pNames ps).take (e + 1)) (e + 1) (e + 1),(aj ⟨_,rfl⟩ wA rfl rfl rfl (wB2 (aK au (by omega)) (Az (hU hx)))),ps.len - (e + 1),by omega,e + 1,rfl,by omega,rfl⟩
 ·have aS:e=ps.len:=by simp [aR] at hL;omega
  rw [aS,List.take_of_length_le (by rw [gZ];omega)];exact ⟨_,ax,rfl⟩
mutual
def Ty.cnt:Ty->Nat
 | .mk _ ps=>1 + ps.cnt
def Pts.cnt:Pts->Nat
 | .nil=>0
 | .cons p t r=>(if p.bare then 0 else t.cnt) + r.cnt
end
mutual
def Ty.deep:Ty->Nat
 | .mk _ ps=>ps.deep + 1
def Pts.deep:Pts->Nat
 | .nil=>0
 | .cons p t r=>max (if p.bare then 0 else t.deep) r.deep
end
mutual
theorem Ty.fi:∀ t:Ty,t.cnt<=t.wt
 | .mk h ps=>by have:=Pts.fi ps;simp only [Ty.cnt,Ty.wt,Hd.wt];omega
theorem Pts.fi:∀ ps:Pts,ps.cnt<=ps.wt
 | .nil=>aU _
 | .cons p t r=>by
  have:=Ty.fi t;have:=Pts.fi r;simp only [Pts.cnt,Pts.wt];split<;>omega
end
mutual
theorem Ty.o7:∀ t:Ty,t.deep<=t.wt
 | .mk h ps=>by have:=Pts.o7 ps;simp only [Ty.deep,Ty.wt,Hd.wt];omega
theorem Pts.o7:∀ ps:Pts,ps.deep<=ps.wt
 | .nil=>aU _
 | .cons p t r=>by
  have:=Ty.o7 t;have:=Pts.o7 r;simp only [Pts.deep,Pts.wt];split<;>omega
end
abbrev Cz (t:Ty) (e n d:Nat):St:=
 ⟨[(1,⟨[],.loc 0 0⟩),(4,⟨[],.v (.int .i64 n)⟩),(5,⟨[],.v (.int .i64 d)⟩),(6,⟨[],.v (.int .i64 e)⟩)],[eJ t],[]⟩
theorem lp:∀ (k:Nat) (t:Ty),t.wt<=k->t.wt<=1099511627776 ->
  aV prog 35 [.agg (eJ t)] (.tup [.v (.int .i64 t.cnt),.v (.int .i64 t.deep)])
 | 0,t,hn,_=>by have:=t.eO;omega
 | k + 1,.mk h ps,hn,cM=>by
  simp only [Ty.wt,Hd.wt] at hn cM;have nD:=ps.gD;have hc:=ps.fi;have lZ:=ps.o7;refine eG 42 [.tmp 2,.tmp 3] func35 rfl ntmps35 rfl fun _ _ _ _=>?_
  refine bA (fun j st=>∃ (e n d:Nat),st=Cz (.mk h ps) e n d/\e<=ps.len/\n + (ps.drop e).cnt=1 + ps.cnt/\max d (ps.drop e).deep=ps.deep/\j=ps.len - e) ps.len
   (Cz (.mk h ps) 0 1 0) (aj ⟨_,rfl⟩ wA rfl rfl rfl wB) ⟨0,1,0,rfl,by omega,rfl,by simp [Pts.drop],by omega⟩ ?_
  rintro j st ⟨e,n,d,rfl,he,bF,L8,rfl⟩;refine br ?_ ?_<;>intro hL
  ·have au:e < ps.len:=by simpa [aR] using hL
   obtain ⟨p,t,hx⟩:=Pts.fh au;have hwt:=Pts.gY (mG hx);rw [Pts.drop_cons hx] at bF L8;simp only [Pts.cnt,Pts.deep] at bF L8;have L9:=t.fi;have hdt:=t.o7;refine iX (cr hx) ?_;refine br ?_ ?_<;>intro hB
   ·rw [ai hB] at bF L8;exact rE ⟨_,by omega,e + 1,n,d,rfl,by omega,by omega,by omega,rfl⟩ (aj ⟨_,rfl⟩ wA rfl rfl rfl (dy (aK au (by omega))))
   ·rw [ah (by simp [hB])] at bF L8;obtain ⟨u,us⟩:=t;refine iX (cr hx) ?_;refine cP QM (lp k (.mk u us) (by omega) (by omega)) ?_;have DN:IntKind.i64.wrap ((n:Int) + (Ty.mk u us).cnt)=((n + (Ty.mk u us).cnt:Nat):Int):=by rw [wrap64 (by omega) (by omega)];omega
    refine br ?_ ?_<;>intro hD
    ·have hD:d < (Ty.mk u us).deep:=sU hD;exact ⟨Cz (.mk h ps) (e + 1) (n + (Ty.mk u us).cnt) (Ty.mk u us).deep,(aj ⟨_,rfl⟩ wA rfl rfl rfl (wB2 DN (aK au (by omega)))),ps.len - (e + 1),by omega,e + 1,_,_,rfl,by omega,by omega,by omega,rfl⟩
    ·have hD:¬ d < (Ty.mk u us).deep:=sU hD;exact ⟨Cz (.mk h ps) (e + 1) (n + (Ty.mk u us).cnt) d,(aj ⟨_,rfl⟩ wA rfl rfl rfl (wB2 DN (aK au (by omega)))),ps.len - (e + 1),by omega,e + 1,_,_,rfl,by omega,by omega,by omega,rfl⟩
  ·have aS:e=ps.len:=by simp [aR] at hL;omega
   rw [aS,Pts.dM] at bF L8;simp only [Pts.cnt,Pts.deep] at bF L8;have e1:IntKind.i64.wrap ((d:Int) + 1)=((Ty.mk h ps).deep:Int):=by rw [wrap64 (by omega) (by omega)];simp only [Ty.deep];omega
   have e2:(n:Int)=((Ty.mk h ps).cnt:Int):=by simp only [Ty.cnt];omega
   refine ⟨_,?_,rfl⟩;rw [<- e1,<- e2];exact ax
def wD (f:Ft) (n:Int):DV:=.agg [.v (.int .i64 f.1),.v (.int .i64 f.2),.v (.int .i64 n)]
theorem eW (f:Ft) (n e a:Int):aV prog 174 [wD f n,.v (.int .i64 e),.v (.int .i64 a)] (wD (e,a) n):=by
 refine eG 13 [.cell 6 192] func174 rfl ntmps174 rfl fun _ _ _ _=>?_;exact ⟨_,ax,rfl⟩
def bz (p:Ph):Ft:=
 if p.ck=0 then (if p.cn=0/\p.cl=[] then (0,0) else (19,p.name.a))
 else if p.ck < 0∨3 < p.ck then (14,p.ca)
 else if (p.ck=1/\p.cn < 1)∨(p.ck=2/\(p.cn < 0∨4096 < p.cn))∨(p.ck=3/\p.cn≠0) then (20,p.ca)
 else cg p.cl
theorem zR (p:Ph) (tl:List DV) (hs:p.wt<=4611686018427387904) :
  aV prog 209 [.agg (Ha p tl)] (bz p).d:=by
 simp only [Ph.wt] at hs;refine eG 73 [.cell 2 45] func209 rfl ntmps209 rfl fun _ _ _ _=>?_;refine br ?_ ?_<;>intro h0
 ·have h0:p.ck=0:=sU h0;refine br ?_ ?_<;>intro h1
  ·have:bz p=(19,p.name.a):=by
    simp [ay,aC] at h1;simp only [bz,h0,if_true];rw [ah];rintro ⟨h2,h3⟩;rcases h1 with h1 | h1
    ·exact h1 h2
    ·simp [h3] at h1
   refine ⟨_,?_,rfl⟩;rw [this];exact ax
  ·have:bz p=(0,0):=by
    simp [ay,aC] at h1;simp [bz,h0,h1.1,h1.2]
   refine ⟨_,?_,rfl⟩;rw [this];exact ax
 ·have h0:¬ p.ck=0:=sU h0;refine br ?_ ?_<;>intro h1
  ·have:bz p=(14,p.ca):=by
    simp [ay] at h1;simp [bz,h0,h1]
   refine ⟨_,?_,rfl⟩;rw [this];exact ax
  ·simp [ay] at h1;refine br ?_ ?_<;>intro h2
   ·have:bz p=(20,p.ca):=by
     simp [ay,aw] at h2;simp only [bz,h0,if_false];rw [ah (by omega),ai (by omega)]
    refine ⟨_,?_,rfl⟩;rw [this];exact ax
   ·have hc:bz p=cg p.cl:=by
     simp [ay,aw] at h2;simp only [bz,h0,if_false];rw [ah (by omega),ah (by omega)]
    refine cP M3 (mS p.cl (by omega)) ?_;refine ⟨_,?_,rfl⟩;rw [hc];exact ax
def enumL (all:List Wd):Nat->List Wd->Ft
 | _,[]=>(0,0)
 | i,x :: r=>if aN all i x≠0 then (aN all i x,x.a) else enumL all (i + 1) r
def jt (h:Hd):Ft:=
 if h.af=[] then (15,h.ba)
 else if 64 < h.af.length then (8,((h.af[64]?).getD (⟨az,0⟩:Wd)).a)
 else enumL h.af 0 h.af
def ep (p:Ph):Ft:=
 if p.wide < 0∨64 < p.wide then (20,p.name.a)
 else if (cg p.label).1≠0 then cg p.label
 else bz p
def vD (t:Ty):Bool:=sameTy t (mask t)
mutual
def wrong:Ty->Int->Int->Ft × Int
 | .mk h ps,depth,m=>
  if 24 < depth then ((6,h.ba),m + 1)
  else if 512 < m + 1 then ((8,h.ba),m + 1)
  else if h.ag < 1∨9 < h.ag then ((14,h.ba),m + 1)
  else if vD (.mk h ps)=false then ((19,h.ba),m + 1)
  else if (h.ag=2/\h.hi < h.lo)∨(h.ag=3/\(h.most < 0∨4096 < h.most)) then ((20,h.ba),m + 1)
  else if h.ag=9/\bq h.name.s=false then ((9,h.name.a),m + 1)
  else if h.ag=4 then (jt h,m + 1)
  else if h.ag=5∨h.ag=6 then wrongOne h ps depth (m + 1)
  else if h.ag=7∨h.ag=8 then
   if h.ag=8/\ps.len=0 then ((15,h.ba),m + 1)
   else if 64 < ps.len then ((8,(((pNames ps)[64]?).getD (⟨az,0⟩:Wd)).a),m + 1)
   else wrongPts h.ag (pNames ps) 0 ps depth (m + 1)
  else ((0,0),m + 1)
def wrongOne:Hd->Pts->Int->Int->Ft × Int
 | h,.cons p t .nil,depth,m=>
  if p.name.s≠az∨cf p fx=false then ((19,h.ba),m)
  else if h.most < 0∨1024 < h.most then ((20,h.ba),m)
  else wrong t (depth + 1) m
 | h,_,_,m=>((19,h.ba),m)
def wrongPts (ag:Int) (all:List Wd):Nat->Pts->Int->Int->Ft × Int
 | _,.nil,_,m=>((0,0),m)
 | i,.cons p t r,depth,m=>
  if aN all i p.name≠0 then ((aN all i p.name,p.name.a),m)
  else if p.bare=true then
   if ag=7∨sameTy t cA=false∨cf p fQ=false then ((19,p.name.a),m) else wrongPts ag all (i + 1) r depth m
  else if (ep p).1≠0 then (ep p,m)
  else if (wrong t (depth + 1) m).1.1≠0 then wrong t (depth + 1) m
  else wrongPts ag all (i + 1) r depth (wrong t (depth + 1) m).2
end
def CA (k:Nat):Prop:=∀ (t:Ty) (depth m:Int),t.wt<=k->t.wt<=1099511627776->0<=depth->depth<=25->0<=m->m<=512 ->
 aV prog 117 [wD (0,0) m,.agg (eJ t),.v (.int .i64 depth)] (wD (wrong t depth m).1 (wrong t depth m).2)
abbrev Jp (t:Ty) (e:Nat) (depth m:Int):St:=
 ⟨[(2,⟨[],.v (.int .i64 depth)⟩),(3,⟨[],.loc 0 0⟩),(4,⟨[],.loc 1 0⟩),(6,⟨[],.loc 2 0⟩),(7,⟨[],.v (.int .i64 e)⟩)],[[.v (.int .i64 0),.v (.int .i64 0),.v (.int .i64 m)],eJ t,[.v (.int .i64 0),.v (.int .i64 0),.v (.int .i64 0)]],[]⟩
def fy (h:Hd) (ps:Pts) (depth m:Int):Ft × Int:=
 if h.ag=8/\ps.len=0 then ((15,h.ba),m)
 else if 64 < ps.len then ((8,(((pNames ps)[64]?).getD (⟨az,0⟩:Wd)).a),m)
 else wrongPts h.ag (pNames ps) 0 ps depth m
theorem Ey (all:List Wd):∀ (l:List Wd) (i:Nat),(enumL all i l).1=0->enumL all i l=(0,0)
 | [],_,_=>rfl
 | x :: r,i,h=>by
  have ih:=Ey all r (i + 1);simp only [enumL] at h ⊢;split at h
  ·rename_i hc;exact (hc h).elim
  ·rename_i hc;rw [ah hc];exact ih h
theorem AE (h:Hd) (he:(jt h).1=0):jt h=(0,0):=by
 unfold jt at he ⊢;split at he
 ·simp at he
 ·split at he
  ·simp at he
  ·rename_i h1 h2;rw [ah h1,ah h2];exact Ey _ _ _ he
mutual
theorem rB:∀ (t:Ty) (depth m:Int),0<=m->(wrong t depth m).1.1=0->(wrong t depth m).1=(0,0)/\0<=(wrong t depth m).2/\(wrong t depth m).2<=512
 | .mk h ps,depth,m,hm,he=>by
  have i1:=Ez h ps depth (m + 1) (by omega);have i2:=ob h.ag (pNames ps) ps 0 depth (m + 1) (by omega);have i3:=AE h;simp only [wrong] at he ⊢;by_cases c0:24 < depth
  ·rw [ai c0] at he;simp at he
  rw [ah c0] at he ⊢;by_cases c1:512 < m + 1
  ·rw [ai c1] at he;simp at he
  rw [ah c1] at he ⊢;by_cases c2:h.ag < 1∨9 < h.ag
  ·rw [ai c2] at he;simp at he
  rw [ah c2] at he ⊢;by_cases c3:vD (.mk h ps)=false
  ·rw [ai c3] at he;simp at he
  rw [ah c3] at he ⊢;by_cases c4:(h.ag=2/\h.hi < h.lo)∨(h.ag=3/\(h.most < 0∨4096 < h.most))
  ·rw [ai c4] at he;simp at he
  rw [ah c4] at he ⊢;by_cases c5:h.ag=9/\bq h.name.s=false
  ·rw [ai c5] at he;simp at he
  rw [ah c5] at he ⊢;by_cases k4:h.ag=4
  ·rw [ai k4] at he ⊢;exact ⟨i3 he,by simp only;omega,by simp only;omega⟩
  rw [ah k4] at he ⊢;by_cases k5:h.ag=5∨h.ag=6
  ·rw [ai k5] at he ⊢;exact i1 (by omega) he
  rw [ah k5] at he ⊢;by_cases k7:h.ag=7∨h.ag=8
  ·rw [ai k7] at he ⊢;by_cases k8:h.ag=8/\ps.len=0
   ·rw [ai k8] at he;simp at he
   rw [ah k8] at he ⊢;by_cases k9:64 < ps.len
   ·rw [ai k9] at he;simp at he
   rw [ah k9] at he ⊢;exact i2 (by omega) he
  ·rw [ah k7];exact ⟨rfl,by simp only;omega,by simp only;omega⟩
theorem Ez:∀ (h:Hd) (ps:Pts) (depth m:Int),0<=m->m<=512->(wrongOne h ps depth m).1.1=0->(wrongOne h ps depth m).1=(0,0)/\0<=(wrongOne h ps depth m).2/\(wrongOne h ps depth m).2<=512
 | h,.nil,depth,m,hm,_,he=>by simp [wrongOne] at he
 | h,.cons p t .nil,depth,m,hm,h5,he=>by
  have ih:=rB t (depth + 1) m hm;simp only [wrongOne] at he ⊢;split at he
  ·simp at he
  ·split at he
   ·simp at he
   ·rename_i h1 h2;rw [ah h1,ah h2];exact ih he
 | h,.cons p t (.cons _ _ _),depth,m,hm,_,he=>by simp [wrongOne] at he
theorem ob (ag:Int) (all:List Wd):∀ (ps:Pts) (i:Nat) (depth m:Int),0<=m->m<=512->(wrongPts ag all i ps depth m).1.1=0->(wrongPts ag all i ps depth m).1=(0,0)/\0<=(wrongPts ag all i ps depth m).2/\(wrongPts ag all i ps depth m).2<=512
 | .nil,i,depth,m,hm,h5,he=>by simp only [wrongPts];exact ⟨trivial,hm,h5⟩
 | .cons p t r,i,depth,m,hm,h5,he=>by
  have i1:=rB t (depth + 1) m hm;simp only [wrongPts] at he ⊢;split at he
  ·rename_i h1;exact (h1 he).elim
  ·rename_i h1;rw [ah h1];split at he
   ·rename_i h2;rw [ai h2];split at he
    ·simp at he
    ·rename_i h3;rw [ah h3];exact ob ag all r (i + 1) depth m hm h5 he
   ·rename_i h2;rw [ah h2];split at he
    ·rename_i h3;exact (h3 he).elim
    ·rename_i h3;rw [ah h3];split at he
     ·rename_i h4;exact (h4 he).elim
     ·rename_i h4;rw [ah h4];have i2:=i1 (sU h4);exact ob ag all r (i + 1) depth _ i2.2.1 i2.2.2 he
end
theorem CB (k:Nat) (ih:CA k) (h:Hd) (ps:Pts) (depth m:Int) (hk:ps.wt<=k) (cM:(Ty.mk h ps).wt<=1099511627776) (vW:0<=depth) (zS:depth<=24) (pD:0<=m) (kp:m<=512) :
  aV prog 178 [wD (0,0) m,.agg (eJ (.mk h ps)),.v (.int .i64 depth)] (wD (fy h ps depth m).1 (fy h ps depth m).2):=by
 simp only [Ty.wt,Hd.wt] at cM;have nD:=ps.gD;have Vg:=tv ps;refine eG 126 [.cell 6 192] func178 rfl ntmps178 rfl fun _ _ _ _=>?_;refine br ?_ ?_<;>intro c1
 ·refine cP iq (eW (0,0) m 15 h.ba) ?_
  have:fy h ps depth m=((15,h.ba),m):=by
   simp [aw,aR] at c1;have:ps.len=0:=by omega
   simp [fy,c1.1,this]
  refine ⟨_,?_,rfl⟩;rw [this];exact ax
 ·have c1':¬ (h.ag=8/\ps.len=0):=by
   simp [aw,aR] at c1;omega
  refine br ?_ ?_<;>intro c2
  ·have au:64 < ps.len:=by simp [aR] at c2;omega
   obtain ⟨p,t,hx⟩:=Pts.fh au;refine vU (fun i=>Nat.beq i 8) mo (by decide +kernel) ?_;refine iX (cr hx) ?_;refine cD iq (eW (0,0) m 8 p.name.a) ?_
   have:fy h ps depth m=((8,p.name.a),m):=by
    simp only [fy,ah c1',ai au,hU hx];rfl
   refine ⟨_,?_,rfl⟩;rw [this];exact ax
  ·have c2':¬ 64 < ps.len:=by simp [aR] at c2;omega
   have hF:fy h ps depth m=wrongPts h.ag (pNames ps) 0 ps depth m:=by simp only [fy,ah c1',ah c2']
   refine bA (fun j st=>∃ (e:Nat) (m':Int),st=Jp (.mk h ps) e depth m' /\ e<=ps.len/\0<=m' /\ m' <= 512 /\
     wrongPts h.ag (pNames ps) 0 ps depth m=wrongPts h.ag (pNames ps) e (ps.drop e) depth m' /\ j=ps.len - e) ps.len
    (Jp (.mk h ps) 0 depth m) (aj ⟨_,rfl⟩ wA rfl rfl rfl wB) ⟨0,m,rfl,by omega,pD,kp,rfl,by omega⟩ ?_
   rintro j st ⟨e,m',rfl,he,CD,EA,aP,rfl⟩;refine br ?_ ?_<;>intro hL
   ·have au:e < ps.len:=by simpa [aR] using hL
    obtain ⟨p,t,hx⟩:=Pts.fh au;rw [Pts.drop_cons hx] at aP;have hwt:=Pts.gY (mG hx);obtain ⟨u,us⟩:=t;refine iX (cr hx) ?_;refine cP YR (Cy ps (by omega)) ?_;refine cP S5 (pS (pNames ps) e p.name (by omega) (hU hx)) ?_;refine br ?_ ?_<;>intro hl
    ·have hl:aN (pNames ps) e p.name≠0:=sU hl;refine cP iq (eW (0,0) m' _ p.name.a) ?_
     have:fy h ps depth m=((aN (pNames ps) e p.name,p.name.a),m'):=by
      rw [hF,aP];simp only [wrongPts];rw [ai hl]
     refine ⟨_,?_,rfl⟩;rw [this];exact ax
    ·have hl:aN (pNames ps) e p.name=0:=sU hl;simp only [wrongPts] at aP;rw [ah (by simp [hl])] at aP;refine br ?_ ?_<;>intro hB
     ·rw [ai hB] at aP;refine br ?_ ?_<;>intro k7
      ·have k7:¬ h.ag=7:=sU k7;refine cP YS (Ew (.mk u us) (by omega)) ?_;refine br ?_ ?_<;>intro z
       ·have z:sameTy (.mk u us) cA=true:=by simpa [ay,k7] using z
        refine cP M4 (mR p fQ (eJ (.mk u us)) (eJ cA) (by omega) (AD _ _ _ _ _) (AD _ _ _ _ _)) ?_;refine br ?_ ?_<;>intro q
        ·have q:cf p fQ=false:=by simpa [ay,k7,z] using q
         refine cP iq (eW (0,0) m' 19 p.name.a) ?_;rw [ai (by simp [q])] at aP;refine ⟨_,?_,rfl⟩;rw [hF,aP];exact ax
        ·have q:cf p fQ=true:=by simpa [ay,k7,z] using q
         rw [ah (by simp [k7,z,q])] at aP;exact rE ⟨_,by omega,e + 1,m',rfl,by omega,CD,EA,aP,rfl⟩ (aj ⟨_,rfl⟩ wA rfl rfl rfl (dy (aK au (by omega))))
       ·have z:sameTy (.mk u us) cA=false:=by simpa [ay,k7] using z
        refine cP iq (eW (0,0) m' 19 p.name.a) ?_;rw [ai (by simp [z])] at aP;refine ⟨_,?_,rfl⟩;rw [hF,aP];exact ax
      ·have k7:h.ag=7:=sU k7;refine cP iq (eW (0,0) m' 19 p.name.a) ?_;rw [ai (by simp [k7])] at aP;refine ⟨_,?_,rfl⟩;rw [hF,aP];exact ax
     ·rw [ah (by simp [hB])] at aP;refine br ?_ ?_<;>intro hw
      ·have hP:ep p=(20,p.name.a):=by
        simp [ay] at hw;simp only [ep,ai hw]
       rw [ai (by rw [hP];simp),hP] at aP;refine ⟨_,?_,rfl⟩;rw [hF,aP];exact ax
      ·have hw:¬ (p.wide < 0∨64 < p.wide):=by simp [ay] at hw;omega
       have hpw:p.wt<=ps.wt:=by omega
       simp only [Ph.wt] at hpw;refine cP M3 (mS p.label (by omega)) ?_;refine br ?_ ?_<;>intro hb
       ·have hb:(cg p.label).1=0:=sU hb;have hP:ep p=bz p:=by simp only [ep,ah hw,hb,ne_eq,not_true_eq_false,if_false]
        rw [hP] at aP;refine cP YT (zR p (eJ (.mk u us)) (by omega)) ?_ (by repeat' (first | exact rfl | exact trivial | exact Or.inr (Or.inl ⟨_,rfl⟩) | exact Or.inr ⟨_,rfl⟩ | exact Or.inl ⟨rfl,rfl⟩ | exact Or.inl rfl | refine Or.inr ⟨_,_,rfl,Nat.zero_le _,rfl,?_⟩ | refine ⟨_,_,rfl,?_,?_⟩ | refine ⟨_,rfl,?_⟩ | exact congrArg DV.agg rfl| refine Or.inr (Or.inr (Or.inr ⟨_,_,rfl,?_⟩)) | exact Or.inl rfl | refine Or.inr ?_));refine br ?_ ?_<;>intro hc
        ·have hc:(bz p).1≠0:=sU hc;rw [ai hc] at aP;refine ⟨_,?_,rfl⟩;rw [hF,aP];exact ax
        ·have hc:(bz p).1=0:=sU hc;rw [ah (by simp [hc])] at aP;have ri:=ih (.mk u us) (depth + 1) m' (by omega) (by omega) (by omega) (by omega) CD EA;have bw:=rB (.mk u us) (depth + 1) m' CD;generalize wrong (.mk u us) (depth + 1) m'=r at ri bw aP;obtain ⟨⟨fe,fa⟩,many⟩:=r;simp only at ri bw aP;refine cP MS ri ?_ (by repeat' (first | exact rfl | exact trivial | exact Or.inr (Or.inl ⟨_,rfl⟩) | exact Or.inr ⟨_,rfl⟩ | exact Or.inl ⟨rfl,rfl⟩ | exact Or.inl rfl | refine Or.inr ⟨_,_,rfl,Nat.zero_le _,rfl,?_⟩ | refine ⟨_,_,rfl,?_,?_⟩ | refine ⟨_,rfl,?_⟩ | exact congrArg (fun z=>DV.v (.int .i64 z)) (wrap64 (by omega) (by omega))| refine Or.inr (Or.inr (Or.inr ⟨_,_,rfl,?_⟩)) | exact Or.inl rfl | refine Or.inr ?_));refine br ?_ ?_<;>intro hd
         ·have hd:fe≠0:=sU hd;rw [ai hd] at aP;refine ⟨_,?_,rfl⟩;rw [hF,aP];exact ax
         ·have hd:fe=0:=sU hd;subst hd;obtain ⟨h1,h2,h3⟩:=bw rfl;simp only [Prod.mk.injEq,true_and] at h1;subst h1;rw [ah (by simp)] at aP;exact rE ⟨_,by omega,e + 1,many,rfl,by omega,h2,h3,aP,rfl⟩ (aj ⟨_,rfl⟩ wA rfl rfl rfl (dy (aK au (by omega))))
       ·have hb:¬ (cg p.label).1=0:=sU hb;have hP:ep p=cg p.label:=by simp only [ep,ah hw];rw [ai hb]
        rw [hP,ai hb] at aP;refine br ?_ ?_<;>intro hc
        ·refine ⟨_,?_,rfl⟩;rw [hF,aP];exact ax
        ·exact (hb (sU hc)).elim
   ·have aS:e=ps.len:=by simp [aR] at hL;omega
    rw [aS,Pts.dM] at aP;refine ⟨_,?_,rfl⟩;rw [hF,aP];simp only [wrongPts];exact ax
theorem bR (e a:Int):aV prog 198 [.v (.int .i64 e),.v (.int .i64 a)] (Ft.d (e,a)):=by
 refine eG 8 [.cell 4 45] func198 rfl ntmps198 rfl fun _ _ _ _=>?_;exact ⟨_,ax,rfl⟩
noncomputable def iH (L:List ByteArray) (x:ByteArray) (a:Int):Ft:=if bq x=true then (if L.Nodup then (0,0) else (10,a)) else (9,a)
theorem uQ (L:List ByteArray) (x:ByteArray) (a:Int) (hx:L[L.length - 1]? = some x) (hl:L.length<=1099511627776) (qQ:x.size<=4611686018427387904) :
  aV prog 231 [.sl 1 (fp L) none,.v (.int .i64 a)] (iH L x a).d:=by
 have hN:=cv L;have jX:=(gS hx).1;have hz:IntKind.i64.wrap (((fp L).length:Int) - 1)=((L.length - 1:Nat):Int):=by rw [hN,wrap64 (by omega) (by omega)];omega
 refine eG 23 [.cell 4 45] func231 rfl ntmps231 rfl fun _ _ _ _=>?_;refine ⟨[.v (.string x)],⟨by rw [hz];omega,by rw [hz];exact iG hx⟩,?_⟩;refine cP G9 (jr x qQ) ?_;refine br ?_ ?_<;>intro h
 ·have h:bq x=false:=sU h;refine cP eN (bR 9 a) ?_;refine ⟨_,?_,rfl⟩;rw [iH,ah (by rw [h];decide)];exact ax
 ·have h:bq x=true:=sU h;refine kG U8 rfl (ql L hl) ax (fun r hr=>?_);obtain ⟨z,rfl,hz⟩:=hr;refine br ?_ ?_<;>intro h2
  ·have h2:0<=z:=sU h2;refine cP eN (bR 10 a) ?_;refine ⟨_,?_,rfl⟩;rw [iH,ai h,ah (hz.1 h2)];exact ax
  ·have h2:¬ 0<=z:=sU h2;refine ⟨_,?_,rfl⟩;rw [iH,ai h,ai (Classical.byContradiction fun hn=>h2 (hz.2 hn))];exact ax
theorem Hk {l:List Wd} {e:Nat} {x:Wd} (h:l[e]? = some x):bQ ((l.map fun w=>(⟨w.s,0⟩:Wd)).take e) ++ [[.v (.string x.s),.v (.int .i64 0)]]=bQ ((l.map fun w=>(⟨w.s,0⟩:Wd)).take (e + 1)):=by
 have h2:(l.map fun w=>(⟨w.s,0⟩:Wd))[e]? = some ⟨x.s,0⟩:=by simp [h]
 exact Az h2
def ju (l:List Wd):List Wd:=l.map fun w=>⟨w.s,0⟩
abbrev Nl (l l':List Wd) (n e:Nat):St:=
 ⟨[(6,⟨[],.sl 2 (bQ l) none⟩),(7,⟨[],.v (.int .i64 (bQ l).length)⟩),(8,⟨[],.v (.int .i64 e)⟩),(3,⟨[],.sl 2 (bQ l') (some 0)⟩)],[],[⟨n,27,2,none⟩]⟩
theorem xD (l:List Wd) (hs:wdsWt l<=1099511627776):aV prog 246 [.sl 2 (bQ l) none] (.sl 2 (bQ (ju l)) none):=by
 have hl:=bP l;refine eG 20 [.tmp 2] func246 rfl ntmps246 rfl fun _ _ _ _=>?_;refine bA (fun j st=>∃ e:Nat,st=Nl l ((ju l).take e) e e/\e<=l.length/\j=l.length - e) l.length (Nl l [] 0 0) (fM ⟨0,27,2,none⟩ rfl ⟨_,rfl⟩ rfl wA rfl rfl lX) ⟨0,by simp,by omega,by omega⟩ ?_;rintro j st ⟨e,rfl,he,rfl⟩;refine br ?_ ?_<;>intro h
 ·have au:e < l.length:=by simpa [aC] using h
  obtain ⟨w,hw⟩:=gX au;refine ⟨kK w,⟨by omega,bg hw⟩,?_⟩;refine ⟨by simp [aC,ju];omega,⟨by simp [aC,ju,maxLen];omega,by simp [aC,ju];omega⟩,?_⟩;refine ⟨Nl l ((ju l).take (e + 1)) (e + 1) (e + 1),(aj ⟨_,rfl⟩ wA rfl rfl rfl (wB2 (aK au (by omega)) (Hk hw))),l.length - (e + 1),by omega,e + 1,rfl,by omega,rfl⟩
 ·have aS:e=l.length:=by
   have:=h;simp [aC] at this;omega
  rw [aS,List.take_of_length_le (by simp [ju])];exact ⟨_,ax,rfl⟩
abbrev xE (l:List Wd) (e:Nat):St:=
 ⟨[(13,⟨[],.sl 2 (bQ l) none⟩),(14,⟨[],.v (.int .i64 (bQ l).length)⟩),(2,⟨[],.loc 0 0⟩),(15,⟨[],.v (.int .i64 e)⟩)],[[.v (.int .i64 0),.v (.int .i64 0)]],[]⟩
theorem jM (l:List Wd) (hs:wdsWt l<=1099511627776) :
  aV prog 240 [.sl 2 (bQ l) none] (cg l).d:=by
 have nQ:=bP l;refine eG 28 [.cell 2 45] func240 rfl ntmps240 rfl fun _ _ _ _=>?_;refine br ?_ ?_<;>intro h
 ·have au:32 < l.length:=by simp [aC] at h;omega
  obtain ⟨x,hx⟩:=gX au;have:cg l=(8,x.a):=by simp [cg,Nat.not_le.2 au,hx]
  refine ⟨kK x,⟨by omega,bg hx⟩,?_⟩;refine cP eN (bR 8 x.a) ?_;refine ⟨_,?_,rfl⟩;rw [this];exact ax
 ·have dK:l.length<=32:=by simp [aC] at h;omega
  refine bA (fun j st=>∃ e:Nat,st=xE l e/\e<=l.length/\badWd l=badWd (l.drop e)/\j=l.length - e) l.length
   (xE l 0) (aj ⟨_,rfl⟩ wA rfl rfl rfl wB) ⟨0,rfl,by omega,rfl,by omega⟩ ?_
  rintro j st ⟨e,rfl,he,aP,rfl⟩;refine br ?_ ?_<;>intro hL
  ·have au:e < l.length:=by simpa [aC] using hL
   obtain ⟨x,hx⟩:=gX au;rw [drop_cons hx] at aP;have qQ:=jo (mG hx);refine ⟨kK x,⟨by omega,bg hx⟩,?_⟩;refine cP G9 (jr x.s (by omega)) ?_;refine br ?_ ?_<;>intro hN
   ·have hN:bq x.s=false:=sU hN;have:cg l=(9,x.a):=by simp [cg,dK,aP,badWd,hN]
    refine cP eN (bR 9 x.a) ?_;refine ⟨_,?_,rfl⟩;rw [this];exact ax
   ·have hN:bq x.s=true:=sU hN;refine ⟨xE l (e + 1),(aj ⟨_,rfl⟩ wA rfl rfl rfl (dy (aK au (by omega)))),l.length - (e + 1),by omega,e + 1,rfl,by omega,?_,rfl⟩;rw [aP];simp [badWd,hN]
  ·have aS:e=l.length:=by simp [aC] at hL;omega
   have:cg l=(0,0):=by simp [cg,dK,aP,aS,badWd]
   refine ⟨_,?_,rfl⟩;rw [this];exact ax
theorem CE (p:Ph) (tl:List DV) (t:Ty) (hY:tl=eJ t) (hs:p.wt<=1099511627776) :
  aV prog 241 [.agg (Ha p tl)] (bz p).d:=by
 subst hY;obtain ⟨u,us⟩:=t;simp only [Ph.wt] at hs;refine eG 55 [.cell 2 45] func241 rfl ntmps241 rfl fun _ _ _ _=>?_;refine br ?_ ?_<;>intro h0
 ·have h0:p.ck=0:=of_decide_eq_true h0;refine br ?_ ?_<;>intro h1
  ·have:bz p=(19,p.name.a):=by
    simp [ay,aC] at h1;simp only [bz,h0,if_true];rw [ah];rintro ⟨h2,h3⟩;rcases h1 with h1 | h1
    ·exact h1 h2
    ·simp [h3] at h1
   refine cP eN (bR 19 p.name.a) ?_;refine ⟨_,?_,rfl⟩;rw [this];exact ax
  ·have eK:p.cl=[]:=by
    simp [ay,aC] at h1;exact h1.2
   have:bz p=(0,0):=by
    simp [ay,aC] at h1;simp [bz,h0,h1.1,h1.2]
   have h00:cg p.cl=(0,0):=by rw [eK];simp [cg,badWd]
   refine cP Ek (jM p.cl (by omega)) ?_;refine ⟨_,?_,rfl⟩;rw [this,<- h00];exact ax
 have h0:¬ p.ck=0:=of_decide_eq_false h0;refine br ?_ ?_<;>intro h1
 ·have h1:p.ck=1:=of_decide_eq_true h1;refine br ?_ ?_<;>intro h2
  ·have:bz p=(20,p.ca):=by
    simp [aw] at h2;simp only [bz,h0,if_false];rw [ah (by omega),ai (by omega)]
   refine cP eN (bR 20 p.ca) ?_;refine ⟨_,?_,rfl⟩;rw [this];exact ax
  ·have:bz p=cg p.cl:=by
    simp [aw] at h2;simp only [bz,h0,if_false];rw [ah (by omega),ah (by omega)]
   refine cP Ek (jM p.cl (by omega)) ?_;refine ⟨_,?_,rfl⟩;rw [this];exact ax
 have h1:¬ p.ck=1:=of_decide_eq_false h1;refine br ?_ ?_<;>intro h3
 ·have h3:p.ck=2:=of_decide_eq_true h3;refine br ?_ ?_<;>intro h2
  ·have:bz p=(20,p.ca):=by
    simp [aw] at h2;simp only [bz,h0,if_false];rw [ah (by omega),ai (by omega)]
   refine cP eN (bR 20 p.ca) ?_;refine ⟨_,?_,rfl⟩;rw [this];exact ax
  ·have:bz p=cg p.cl:=by
    simp [aw] at h2;simp only [bz,h0,if_false];rw [ah (by omega),ah (by omega)]
   refine cP Ek (jM p.cl (by omega)) ?_;refine ⟨_,?_,rfl⟩;rw [this];exact ax
 have h3:¬ p.ck=2:=of_decide_eq_false h3;refine br ?_ ?_<;>intro h4
 ·have h4:p.ck=3:=of_decide_eq_true h4;refine br ?_ ?_<;>intro h2
  ·have:bz p=(20,p.ca):=by
    simp [aw] at h2;simp only [bz,h0,if_false];rw [ah (by omega),ai (by omega)]
   refine cP eN (bR 20 p.ca) ?_;refine ⟨_,?_,rfl⟩;rw [this];exact ax
  ·have:bz p=cg p.cl:=by
    simp [aw] at h2;simp only [bz,h0,if_false];rw [ah (by omega),ah (by omega)]
   refine cP Ek (jM p.cl (by omega)) ?_;refine ⟨_,?_,rfl⟩;rw [this];exact ax
 have h4:¬ p.ck=3:=of_decide_eq_false h4
 have:bz p=(14,p.ca):=by
  simp only [bz,h0,if_false];rw [ai (by omega)]
 refine cP eN (bR 14 p.ca) ?_;refine ⟨_,?_,rfl⟩;rw [this];exact ax
theorem Nn (w:World) (x y:Operand) (vs vs':Array Value):(eqGuard .neq 27 x y (.agg vs) (.agg vs')).run prog w = .ok () w:=by
 have h:prog.eqGuardType prog.depth 27=false:=by kernel_rfl
 simp [eqGuard,run_program,h]
theorem Vh (a b:ByteArray) (p q:Int) (w:World):(binOp .neq 27 (.agg #[.string a,.int .i64 p]) (.agg #[.string b,.int .i64 q])).run prog w = .ok (.bool (!(decide (a=b) && decide (p=q)))) w:=by
 have hf:prog.underlying 27=some (.struct (prog.fieldsOf 27)):=by simp [Program.fieldsOf,Tryz.underlying27]
 have hf2:(prog.fieldsOf 27).toList=[⟨ "Name",9,0,false, "", "",0⟩,⟨ "At",3,1,false, "", "",16⟩]:=by simp [Program.fieldsOf,Tryz.underlying27]
 have hs:prog.stoodInHeld 27=false:=by kernel_rfl
 have hm:∃ d,Op.maxDepth=d + 1 + 1:=⟨Op.maxDepth - 2,by decide⟩;obtain ⟨d,hm⟩:=hm
 have he:(Op.equal 27 (.agg #[.string a,.int .i64 p]) (.agg #[.string b,.int .i64 q])).run prog w = .ok (decide (a=b) && decide (p=q)) w:=by
  unfold Op.equal;rw [hm,run_equalIn_struct w (d + 1) 27 _ _ hf hs,hf2]
  have e1:(a.toList == b.toList)=decide (a=b):=by
   rw [ByteArray.toList_eq,ByteArray.toList_eq];by_cases h:a=b
   ·subst h;simp
   ·have:¬ a.data=b.data:=fun e=>h (ByteArray.ext e);simp [h,this]
  have q9:∀ cs:Array Value,∀ off v,cs[off]? = some v->(part 9 cs off).run prog w = .ok v w:=fun cs off v h=>by
   simp [part,Tryz.isAgg9,h]
  have q3:∀ cs:Array Value,∀ off v,cs[off]? = some v->(part 3 cs off).run prog w = .ok v w:=fun cs off v h=>by
   simp [part,Tryz.isAgg3,h]
  simp only [Op.eqFields,ne_eq,String.reduceEq,not_false_eq_true,if_true,Sem.run_bind,q9 #[.string a,.int .i64 p] 0 (.string a) rfl,q9 #[.string b,.int .i64 q] 0 (.string b) rfl,Result.andThen_ok,run_equalIn_string w d 9 a b Tryz.underlying9,e1];by_cases h:a=b
  ·simp only [h,decide_true,Bool.not_true,Bool.false_eq_true,if_false,Sem.run_bind,q3 #[.string b,.int .i64 p] 1 (.int .i64 p) rfl,q3 #[.string b,.int .i64 q] 1 (.int .i64 q) rfl,Result.andThen_ok,run_equalIn_int w d 3 .i64 .i64 p q Tryz.underlying3];by_cases h2:p=q<;>simp [h2,Sem.run_pure]
  ·simp [h,Sem.run_pure]
 show ((do let r <- Op.equal 27 _ _;pure (Value.bool !r)):Sem Value).run prog w=_;simp only [Sem.run_bind,he,Result.andThen_ok,Sem.run_pure]
theorem QV (x y:Operand) (a b:Wd):B9 prog .neq x y 27 (kK a) (kK b) (!(decide (a.s=b.s) && decide (a.a=b.a))):=
 ⟨[.string a.s,.int .i64 a.a],[.string b.s,.int .i64 b.a],rfl,rfl,fun w=>⟨Nn w x y _ _,Vh a.s b.s a.a b.a w⟩⟩
def eqWds:List Wd->List Wd->Bool
 | [],[]=>true
 | x :: r,y :: s=>(decide (x.s=y.s) && decide (x.a=y.a)) && eqWds r s
 | _,_=>false
theorem AF:∀ {a b:List Wd},a.length≠b.length->eqWds a b=false
 | [],[],h=>(h rfl).elim
 | [],_ :: _,_=>rfl
 | _ :: _,[],_=>rfl
 | x :: r,y :: s,h=>by
  simp only [eqWds];rw [AF (a:=r) (b:=s) (sU h),Bool.and_false]
theorem uR:∀ a b:List Wd,eqWds (ju a) (ju b)=sameWds a b
 | [],[]=>rfl
 | [],_ :: _=>rfl
 | _ :: _,[]=>rfl
 | x :: r,y :: s=>by
  have:=uR r s;simp only [ju,List.map_cons,eqWds,sameWds] at this ⊢;rw [this];simp
abbrev Np (a b:List Wd) (e:Nat):St:=
 ⟨[(0,⟨[],.sl 2 (bQ a) none⟩),(1,⟨[],.sl 2 (bQ b) none⟩),(12,⟨[],.v (.int .i64 (bQ a).length)⟩),(13,⟨[],.v (.int .i64 e)⟩)],[],[]⟩
theorem EB (a b:List Wd) (hs:a.length<=1099511627776) :
  aV prog 245 [.sl 2 (bQ a) none,.sl 2 (bQ b) none] (.v (.bool (eqWds a b))):=by
 refine eG 26 [.tmp 4] func245 rfl ntmps245 rfl fun _ _ _ _=>?_;refine br ?_ ?_<;>intro h
 ·have bF:a.length≠b.length:=by have:=h;simp [aC] at this;omega
  exact congrArg (fun b=>DV.v (.bool b)) (AF bF).symm
 ·have hl:a.length=b.length:=by have:=h;simp [aC] at this;omega
  refine bA (fun j st=>∃ e:Nat,st=Np a b e/\e<=a.length/\eqWds a b=eqWds (a.drop e) (b.drop e)/\j=a.length - e) a.length
   (Np a b 0) (aj ⟨_,rfl⟩ wA rfl rfl rfl wB) ⟨0,rfl,by omega,rfl,by omega⟩ ?_
  rintro j st ⟨e,rfl,he,aP,rfl⟩;refine br ?_ ?_<;>intro h
  ·have au:e < a.length:=by simpa [aC] using h
   obtain ⟨x,hx⟩:=gX au;obtain ⟨y,hy⟩:∃ y,b[e]? = some y:=⟨_,gE (hl ▸ au)⟩;rw [drop_cons hx,drop_cons hy] at aP;refine dI ?_;refine ⟨kK x,⟨by omega,bg hx⟩,kK y,⟨by omega,bg hy⟩,_,QV _ _ x y,?_⟩;refine br ?_ ?_<;>intro h
   ·have bF:(decide (x.s=y.s) && decide (x.a=y.a))=false:=by
     have h:(!(decide (x.s=y.s) && decide (x.a=y.a)))=true:=h
     revert h
     cases (decide (x.s=y.s) && decide (x.a=y.a))<;>decide
    refine (congrArg (fun b=>DV.v (.bool b)) ?_:_=_);rw [aP];simp only [eqWds,bF,Bool.false_and]
   ·have bF:(decide (x.s=y.s) && decide (x.a=y.a))=true:=by
     have h:(!(decide (x.s=y.s) && decide (x.a=y.a)))=false:=h
     revert h
     cases (decide (x.s=y.s) && decide (x.a=y.a))<;>decide
    refine ⟨Np a b (e + 1),(aj ⟨_,rfl⟩ wA rfl rfl rfl (dy (aK au (by omega)))),a.length - (e + 1),by omega,e + 1,rfl,by omega,?_,rfl⟩;rw [aP];simp only [eqWds,bF,Bool.true_and]
  ·have aS:e=a.length:=by have:=h;simp [aC] at this;omega
   refine (congrArg (fun b=>DV.v (.bool b)) ?_:_=_);rw [aP,aS,hl];simp [eqWds];rw [<- hl];simp [eqWds]
theorem iI (a b:List Wd) (ha:wdsWt a<=1099511627776) (hb:wdsWt b<=1099511627776) :
  aV prog 243 [.sl 2 (bQ a) none,.sl 2 (bQ b) none] (.v (.bool (sameWds a b))):=by
 have hl:=bP a;refine eG 10 [.tmp 4] func243 rfl ntmps243 rfl fun _ _ _ _=>?_;refine cP Te (xD a ha) ?_;refine cP Te (xD b hb) ?_;refine cP YZ (EB (ju a) (ju b) (by simp [ju];omega)) ?_;refine (congrArg (fun b=>DV.v (.bool b)) ?_:_=_);exact uR a b
def eqPts (F:Ph->Ty->Ph->Ty->Bool):Pts->Pts->Bool
 | .nil,.nil=>true
 | .cons p t r,.cons q u s=>F p t q u && eqPts F r s
 | _,_=>false
theorem AG {F:Ph->Ty->Ph->Ty->Bool}:∀ {a b:Pts},a.len≠b.len->eqPts F a b=false
 | .nil,.nil,h=>(h rfl).elim
 | .cons p t r,.cons q u s,h=>by
  simp only [eqPts];rw [AG (a:=r) (b:=s) (by simpa [Pts.len] using h),Bool.and_false]
 | .nil,.cons _ _ _,_=>rfl
 | .cons _ _ _,.nil,_=>rfl
def dG (p:Ph) (t:Ty) (q:Ph) (u:Ty):Bool:=decide (p.name.s=q.name.s) && cf p q && sameTy t u
theorem xF:∀ a b:Pts,eqPts dG a b=samePts a b
 | .nil,.nil=>by simp [eqPts,samePts]
 | .cons p t r,.cons q u s=>by simp only [eqPts,samePts,dG,xF r s]
 | .nil,.cons _ _ _=>by simp [eqPts,samePts]
 | .cons _ _ _,.nil=>by simp [eqPts,samePts]
abbrev Nq (a b:Pts) (g e:Nat):St:=
 ⟨[(1,⟨[],.sl 18 (gF b) none⟩),(2,⟨[],.fn g [] []⟩),(15,⟨[],.sl 18 (gF a) none⟩),(16,⟨[],.v (.int .i64 (gF a).length)⟩),(17,⟨[],.v (.int .i64 e)⟩)],[],[]⟩
theorem EC (g:Nat) (mJ:Enters prog g) (F:Ph->Ty->Ph->Ty->Bool) (a b:Pts) (hs:a.wt<=1099511627776)
  (hF:∀ (e:Nat) p t q u,a.toList[e]? = some (p,t)->b.toList[e]? = some (q,u)->aV prog g [.agg (Ha p (eJ t)),.agg (Ha q (eJ u))] (.v (.bool (F p t q u)))) :
  aV prog 247 [.sl 18 (gF a) none,.sl 18 (gF b) none,.fn g [] []] (.v (.bool (eqPts F a b))):=by
 have nE:=a.gD;refine eG 32 [.tmp 6] func247 rfl ntmps247 rfl fun _ _ _ _=>?_;refine br ?_ ?_<;>intro h
 ·have bF:a.len≠b.len:=by have:=h;simp [aR] at this;omega
  exact congrArg (fun b=>DV.v (.bool b)) (AG bF).symm
 ·have hl:a.len=b.len:=by have:=h;simp [aR] at this;omega
  refine bA (fun j st=>∃ e:Nat,st=Nq a b g e/\e<=a.len/\eqPts F a b=eqPts F (a.drop e) (b.drop e)/\j=a.len - e) a.len
   (Nq a b g 0) (aj ⟨_,rfl⟩ wA rfl rfl rfl wB) ⟨0,rfl,by omega,rfl,by omega⟩ ?_
  rintro j st ⟨e,rfl,he,aP,rfl⟩;refine br ?_ ?_<;>intro h
  ·have au:e < a.len:=by simpa [aR] using h
   obtain ⟨p,t,hx⟩:=Pts.fh au;obtain ⟨q,u,hy⟩:=Pts.fh (hl ▸ au);rw [Pts.drop_cons hx,Pts.drop_cons hy] at aP;have UF:=hF e p t q u hx hy;obtain ⟨t,ts⟩:=t;obtain ⟨u,us⟩:=u;refine iX (cr hx) ?_;refine iX (cr hy) ?_;refine cP mJ UF ?_;refine br ?_ ?_<;>intro h
   ·have bF:F p (.mk t ts) q (.mk u us)=false:=sU h;refine (congrArg (fun b=>DV.v (.bool b)) ?_:_=_);rw [aP];simp only [eqPts,bF,Bool.false_and]
   ·have bF:F p (.mk t ts) q (.mk u us)=true:=sU h;refine ⟨Nq a b g (e + 1),(aj ⟨_,rfl⟩ wA rfl rfl rfl (dy (aK au (by omega)))),a.len - (e + 1),by omega,e + 1,rfl,by omega,?_,rfl⟩;rw [aP];simp only [eqPts,bF,Bool.true_and]
  ·have aS:e=a.len:=by have:=h;simp [aR] at this;omega
   refine (congrArg (fun b=>DV.v (.bool b)) ?_:_=_);rw [aP,aS,Pts.dM,hl,Pts.dM];simp [eqPts]
theorem oc (p q:Ph) (t u:Ty) (hp:p.wt<=1099511627776) (hq:q.wt<=1099511627776)
  (ht:aV prog 244 [.agg (eJ t),.agg (eJ u)] (.v (.bool (sameTy t u)))) :
  aV prog 239 [.agg (Ha p (eJ t)),.agg (Ha q (eJ u))] (.v (.bool (dG p t q u))):=by
 simp only [Ph.wt] at hp hq;obtain ⟨th,tps⟩:=t;obtain ⟨uh,ups⟩:=u;refine eG 71 [.tmp 4] func239 rfl ntmps239 rfl fun _ _ _ _=>?_
 have e0:dG p (.mk th tps) q (.mk uh ups)=(((decide (p.name.s=q.name.s) && (p.bare == q.bare)) && decide (p.wide=q.wide)) && sameWds p.label q.label && ((decide (p.ck=q.ck) && decide (p.cn=q.cn)) && sameWds p.cl q.cl) && sameTy (.mk th tps) (.mk uh ups)):=by
  simp only [dG,cf,Bool.and_assoc]
 rw [e0];refine br ?_ ?_<;>intro hA
 ·simp only [aw] at hA;refine cP Jl (iI p.label q.label (by omega) (by omega)) ?_;refine br ?_ ?_<;>intro hB
  ·simp only [aw] at hB;refine cP Jl (iI p.cl q.cl (by omega) (by omega)) ?_;refine br ?_ ?_<;>intro hC
   ·refine cP YY ht ?_;refine (congrArg (fun b=>DV.v (.bool b)) ?_:_=_);simp only [aw,Bool.true_and,Bool.and_true] at hC ⊢
    simp_all
   ·refine (congrArg (fun b=>DV.v (.bool b)) ?_:_=_);simp only [aw,Bool.true_and,Bool.and_true] at hC ⊢
    simp_all
  ·simp only [aw] at hB;refine br ?_ ?_<;>intro hC
   ·exfalso;simp [aw] at hC
   ·refine (congrArg (fun b=>DV.v (.bool b)) ?_:_=_)
    simp_all
 ·simp only [aw,beq_true] at hA;refine br ?_ ?_<;>intro hB
  ·refine cP Jl (iI p.cl q.cl (by omega) (by omega)) ?_;refine (congrArg (fun b=>DV.v (.bool b)) ?_:_=_);rw [hA];rfl
  ·refine (congrArg (fun b=>DV.v (.bool b)) ?_:_=_);rw [hA];rfl
theorem AH:∀ (n:Nat) (a b:Ty),a.wt<=n->a.wt<=1099511627776->b.wt<=1099511627776 ->
  aV prog 244 [.agg (eJ a),.agg (eJ b)] (.v (.bool (sameTy a b)))
 | 0,a,b,hn,_,_=>by have:=a.eO;omega
 | n + 1,.mk h ps,.mk k qs,hn,cM,Zb=>by
  have ih:=AH n;simp only [Ty.wt,Hd.wt] at hn cM Zb
  have hE:aV prog 247 [.sl 18 (gF ps) none,.sl 18 (gF qs) none,.fn 239 [] []] (.v (.bool (samePts ps qs))):=by
   rw [<- xF];refine EC 239 M7 dG ps qs (by omega) fun e p t q u hx hy=>?_;have hw1:=Pts.gY (mG hx);have sX:=Pts.gY (mG hy);exact oc p q t u (by omega) (by omega) (ih t u (by omega) (by omega) (by omega))
  refine eG 53 [.tmp 4] func244 rfl ntmps244 rfl fun _ _ _ _=>?_;refine br ?_ ?_<;>intro hA
  ·simp [ay] at hA;obtain ⟨⟨⟨⟨e1,e2⟩,e3⟩,e4⟩,e5⟩:=hA;refine cP Jl (iI h.af k.af (by omega) (by omega)) ?_;refine br ?_ ?_<;>intro hB
   ·refine (congrArg (fun b=>DV.v (.bool b)) ?_:_=_);simp [ay,e1,e2,e3,e4,e5] at hB;simp [sameTy,lK,hB]
   ·simp [ay,e1,e2,e3,e4,e5] at hB;refine cP Y0 hE ?_;refine (congrArg (fun b=>DV.v (.bool b)) ?_:_=_);simp [sameTy,lK,e1,e2,e3,e4,e5,hB]
  ·refine (congrArg (fun b=>DV.v (.bool b)) ?_:_=_);simp [ay] at hA;simp only [sameTy,lK]
   grind
theorem xG (a b:Ty) (ha:a.wt<=1099511627776) (hb:b.wt<=1099511627776):aV prog 244 [.agg (eJ a),.agg (eJ b)] (.v (.bool (sameTy a b))):=AH _ a b (aU _) ha hb
def xH (h:Hd) (ps:Pts):Bool:=
 (((((decide (h.ag=2) || (decide (h.lo=0) && decide (h.hi=0))) && ((decide (h.ag=3) || decide (h.ag=5)) || decide (h.most=0))) && (decide (ps.len=0) || (decide (5<=h.ag) && decide (h.ag<=8)))) &&
  (decide (h.af.length=0) || decide (h.ag=4))) && (decide (h.name.s=az) || decide (h.ag=9)))
theorem KL (h:Hd) (ps:Pts):aV prog 199 [.agg (eJ (.mk h ps))] (.v (.bool (xH h ps))):=by
 have l1:(((gF ps).length:Int)=0)=(ps.len=0):=by rw [aR];exact propext (by omega)
 have l2:(((bQ h.af).length:Int)=0)=(h.af.length=0):=by rw [aC];exact propext (by omega)
 have he:(⟨#[]⟩:ByteArray)=az:=rfl;refine eG 67 [.tmp 2] func199 rfl ntmps199 rfl fun _ _ _ _=>?_;refine br ?_ ?_<;>intro k2
 ·have k2:h.ag=2:=of_decide_eq_true k2;refine (congrArg (fun b=>DV.v (.bool b)) ?_:_=_);rw [Bool.eq_iff_iff];simp [aw,ay,xH,aR,aC,k2,he]
 have k2:¬ h.ag=2:=of_decide_eq_false k2;refine br ?_ ?_<;>intro k3
 ·have k3:h.ag=3:=of_decide_eq_true k3;refine br (fun _=>?_) (fun hf=>?_)
  ·refine (congrArg (fun b=>DV.v (.bool b)) ?_:_=_);rw [Bool.eq_iff_iff];simp [aw,ay,xH,aR,aC,k3,he]
  ·exact absurd k3 (of_decide_eq_false hf)
 have k3:¬ h.ag=3:=of_decide_eq_false k3;refine br ?_ ?_<;>intro k5
 ·have k5:h.ag=5:=of_decide_eq_true k5;refine (congrArg (fun b=>DV.v (.bool b)) ?_:_=_);rw [Bool.eq_iff_iff];simp [aw,ay,xH,aR,aC,k5,he]
 have k5:¬ h.ag=5:=of_decide_eq_false k5;refine (congrArg (fun b=>DV.v (.bool b)) ?_:_=_);rw [Bool.eq_iff_iff];simp [aw,ay,xH,aR,aC,k2,k3,k5,he]
theorem CF:∀ ps:Pts,samePts ps ps=true:=by
 have wr:∀ l:List Wd,sameWds l l=true:=by
  intro l
  induction l with
  | nil=>rfl
  | cons x r ih=>simp [sameWds,ih]
 have key:∀ n,(∀ t:Ty,t.wt<=n->sameTy t t=true)/\(∀ ps:Pts,ps.wt<=n->samePts ps ps=true):=by
  intro n
  induction n using Nat.strongRecOn with
  | _ n ih=>
   have hp:∀ ps:Pts,ps.wt<=n->(∀ t:Ty,t.wt + 256<=n->sameTy t t=true)->samePts ps ps=true:=by
    intro ps
    induction ps using Pts.rec (motive_1:=fun _=>True) with
    | mk=>trivial
    | nil=>intros;simp [samePts]
    | cons p t r _ ihr=>
     intro hw ht;simp only [Pts.wt,Ph.wt] at hw;simp only [samePts];rw [ht t (by omega),ihr (by omega) ht];simp [cf,wr]
   refine ⟨fun t ht=>?_,fun ps Zc=>?_⟩
   ·obtain ⟨h,ps⟩:=t;simp only [Ty.wt,Hd.wt] at ht;simp only [sameTy,lK];rw [(ih ps.wt (by omega)).2 ps (aU _),wr];simp
   ·exact hp ps Zc fun t ht=>(ih t.wt (by omega)).1 t (aU _)
 exact fun ps=>(key ps.wt).2 ps (aU _)
theorem Jq (h:Hd) (ps:Pts):xH h ps=sameTy (.mk h ps) (mask (.mk h ps)):=by
 have wr:∀ l:List Wd,sameWds l l=true:=by
  intro l
  induction l with
  | nil=>rfl
  | cons x r ih=>simp [sameWds,ih]
 have wn:∀ l:List Wd,sameWds l []=decide (l.length=0):=by
  intro l;cases l<;>simp [sameWds]
 have pn:∀ l:Pts,samePts l .nil=decide (l.len=0):=by
  intro l;cases l<;>simp [samePts,Pts.len]
 have pr:=CF ps;simp only [mask,sameTy,lK,jY]
 have e5:samePts ps (if 4 < h.ag/\h.ag < 9 then ps else .nil)=(decide (ps.len=0) || (decide (5<=h.ag) && decide (h.ag<=8))):=by
  split
  ·rename_i hc;rw [pr,decide_eq_true (by omega:5<=h.ag),decide_eq_true (by omega:h.ag<=8)];simp
  ·rename_i hc;rw [pn,Bool.eq_iff_iff];simp;omega
 have e6:sameWds h.af (if h.ag=4 then h.af else [])=(decide (h.af.length=0) || decide (h.ag=4)):=by
  split
  ·rename_i hc;rw [wr];simp [hc]
  ·rename_i hc;rw [wn];simp [hc]
 rw [e5,e6];unfold xH;by_cases k2:h.ag=2
 ·rw [Bool.eq_iff_iff];simp [k2];grind
 ·by_cases k3:h.ag=3∨h.ag=5
  ·by_cases k9:h.ag=9
   ·omega
   ·rw [Bool.eq_iff_iff];simp [k2,k3,k9];grind
  ·by_cases k9:h.ag=9
   ·rw [Bool.eq_iff_iff];simp [k9];grind
   ·rw [Bool.eq_iff_iff];simp [k2,k3,k9];grind
theorem ED (p:Ph) (t:Ty) (hp:p.wt<=1099511627776):aV prog 232 [.agg (Ha p (eJ t))] (.v (.bool (dG p cA fx cA))):=by
 obtain ⟨th,tps⟩:=t;refine eG 8 [.tmp 2] func232 rfl ntmps232 rfl fun _ _ _ _=>?_;refine cP M7 (oc p fx cA cA hp (by decide) (xG cA cA (by decide) (by decide))) ?_;exact (rfl:_=_)
def aD (l:List Wd):List ByteArray:=l.map fun w=>w.s
noncomputable def enumP (l:List Wd):Nat->Ft
 | 0=>(0,0)
 | e + 1=>
  if (enumP l e).1≠0 then enumP l e
  else match l[e]? with
   | some w=>iH (aD (l.take (e + 1))) w.s w.a
   | none=>(0,0)
theorem qm {l:List Wd} {e:Nat} (h:(enumP l e).1≠0):∀ d,enumP l (e + d)=enumP l e
 | 0=>rfl
 | d + 1=>by
  have ih:=qm h d;rw [<- Nat.add_assoc,enumP,ih,ai h]
theorem CG {L:List ByteArray} {x:ByteArray} {a:Int} (h:(iH L x a).1=0):iH L x a=(0,0):=by
 unfold iH at *;split
 ·rename_i h1;rw [ai h1] at h;split
  ·rfl
  ·rename_i h2;rw [ah h2] at h;simp at h
 ·rename_i h1;rw [ah h1] at h;simp at h
theorem Hl {l:List Wd}:∀ {e:Nat},(enumP l e).1=0->enumP l e=(0,0)
 | 0,_=>rfl
 | e + 1,h=>by
  rw [enumP] at h ⊢;split
  ·rename_i h1;rw [ai h1] at h;exact absurd h h1
  ·rename_i h1;rw [ah h1] at h;split
   ·rename_i w hw;rw [hw] at h;exact CG h
   ·rfl
theorem xI {l:List Wd} {e:Nat} {w:Wd} (h:(enumP l e).1=0) (hw:l[e]? = some w):enumP l (e + 1)=iH (aD (l.take (e + 1))) w.s w.a:=by
 rw [enumP,ah (by rw [h];simp),hw]
noncomputable def od (h:Hd):Ft:=
 if h.af.length=0 then (15,h.ba) else if 64 < h.af.length then (8,((h.af[64]?).getD (⟨az,0⟩:Wd)).a) else enumP h.af h.af.length
abbrev Nr (h:Hd) (ps:Pts) (n e:Nat):St:=
 ⟨[(1,⟨[],.loc 0 0⟩),(2,⟨[],.loc 1 0⟩),(27,⟨[],.sl 2 (bQ h.af) none⟩),(28,⟨[],.v (.int .i64 (bQ h.af).length)⟩),(29,⟨[],.v (.int .i64 e)⟩),(3,⟨[],.sl 1 (fp (aD (h.af.take e))) (some 0)⟩)],
  [eJ (.mk h ps),[.v (.int .i64 0),.v (.int .i64 0)]],[⟨n,9,1,none⟩]⟩
theorem kr {l:List Wd} {e:Nat} {w:Wd} (h:l[e]? = some w):fp (aD (l.take e)) ++ [[DV.v (.string w.s)]]=fp (aD (l.take (e + 1))):=by
 rw [List.take_add_one,h];simp [fp,aD]
theorem Hm (h:Hd) (ps:Pts) (hs:wdsWt h.af<=1099511627776):aV prog 200 [.agg (eJ (.mk h ps))] (od h).d:=by
 have hl:=bP h.af;refine eG 48 [.cell 2 45] func200 rfl ntmps200 rfl fun _ _ _ _=>?_;refine br ?_ ?_<;>intro h0
 ·have h0:h.af.length=0:=by have:=h0;simp [aC] at this;simp [this]
  refine cP eN (bR 15 h.ba) ?_;refine ⟨_,?_,rfl⟩;rw [od,ai h0];exact ax
 have h0:¬ h.af.length=0:=by have:=h0;simp [aC] at this;simpa using this
 refine br ?_ ?_<;>intro h1
 ·have h1:64 < h.af.length:=by have:=h1;simp [aC] at this;omega
  obtain ⟨x,hx⟩:∃ x,h.af[64]? = some x:=⟨_,gE h1⟩;refine ⟨kK x,⟨by omega,bg hx⟩,?_⟩;refine cP eN (bR 8 x.a) ?_;refine ⟨_,?_,rfl⟩;rw [od,ah h0,ai h1,hx];exact ax
 have h1:¬ 64 < h.af.length:=by have:=h1;simp [aC] at this;omega
 have hk:od h=enumP h.af h.af.length:=by rw [od,ah h0,ah h1]
 rw [hk];refine lI (fun j st=>∃ e:Nat,st=Nr h ps e e/\e<=h.af.length/\(enumP h.af e).1=0/\j=h.af.length - e) ⟨0,rfl,by omega,rfl,rfl⟩ (fM ⟨0,9,1,none⟩ rfl ⟨_,rfl⟩ rfl wA rfl rfl lX) ?_;rintro j st ⟨e,rfl,he,hz,rfl⟩;refine br ?_ ?_<;>intro hL
 ·have au:e < h.af.length:=by simpa [aC] using hL
  obtain ⟨w,hw⟩:=gX au;have Tp:=jo (mG hw);have rC:=xI hz hw
  have Ns:(aD (h.af.take (e + 1)))[(aD (h.af.take (e + 1))).length - 1]? = some w.s:=by
   have zJ:(aD (h.af.take (e + 1))).length=e + 1:=by simp [aD];omega
   rw [zJ];simp [aD,hw]
  refine ⟨kK w,⟨by omega,bg hw⟩,?_⟩;refine ⟨by simp [cv,aD];omega,⟨by simp [cv,aD,maxLen];omega,by simp [cv,aD];omega⟩,?_⟩;have du:=kr hw;have Ux:=uQ (aD (h.af.take (e + 1))) w.s w.a Ns (by simp [aD];omega) (by omega);rw [<- du,<- rC] at Ux;refine cP Td Ux ?_;refine br ?_ ?_<;>intro hf
  ·have hf:(enumP h.af (e + 1)).1≠0:=sU hf;refine ⟨_,?_,rfl⟩;have bd:=qm hf (h.af.length - (e + 1));rw [show e + 1 + (h.af.length - (e + 1))=h.af.length by omega] at bd;rw [bd];exact ax
  ·have hf:(enumP h.af (e + 1)).1=0:=sU hf;refine ⟨Nr h ps (e + 1) (e + 1),(aj ⟨_,rfl⟩ wA rfl rfl rfl (wB2 (aK au (by omega)) du)),h.af.length - (e + 1),by omega,e + 1,rfl,by omega,hf,rfl⟩
 ·have aS:e=h.af.length:=by
   have:=hL;simp [aC] at this;omega
  subst aS;have bd:=Hl hz;refine ⟨_,?_,rfl⟩;rw [bd];exact ax
def Zd (t:Ty) (depth m:Int) (r:DV) (os:List (List DV)) (_:List TkE):Prop:=
 r=(wrong t depth m).1.d/\∃ z:Int,os=[[.v (.int .i64 z)]]/\((wrong t depth m).1.1=0->z=(wrong t depth m).2)
theorem Vi {t:Ty} {depth m:Int}:∀ r os tk,Zd t depth m r os tk->clB 0 0 r=true/\∀ sF∈os,clB.clL 0 0 sF=true:=by
 rintro r os tk ⟨rfl,z,rfl,_⟩;refine ⟨rfl,fun sF h=>?_⟩;simp only [List.mem_singleton] at h;subst h;rfl
theorem KM (t:Ty) (hc:Ev prog 160 [.loc 0 0,.agg (eJ t),.v (.int .i64 1)] [[.v (.int .i64 0)]] [] (Zd t 1 0)) :
  aV prog 96 [.agg (eJ t)] (wrong t 1 0).1.d:=by
 obtain ⟨h,ps⟩:=t;refine eG 9 [.cell 2 45] func96 rfl ntmps96 rfl fun _ _ _ _=>?_;refine mP M1 rfl rfl ax ax hc Vi (fun r sF hr=>?_);obtain ⟨rfl,z,hz,_⟩:=hr;simp only [List.cons.injEq,and_true] at hz;subst hz;exact ⟨_,ax,rfl⟩
theorem wr (z:Int) (h1 : -9223372036854775808<=z) (h2:z<=9223372036854775807):IntKind.i64.wrap z=z:=by
 rw [IntKind.wrap_i64];omega
def Qf (z:Int):Prop:=-9223372036854775808<=z/\z<=9223372036854775807
mutual
def rngT:Ty->Prop
 | .mk h ps=>Qf h.lo/\Qf h.hi/\Qf h.most/\rngP ps
def rngP:Pts->Prop
 | .nil=>True
 | .cons p t r=>Qf p.wide/\Qf p.cn/\rngT t/\rngP r
end
end Go.Proofs.YtadhpeooehkklaaGreat
namespace Go.Proofs.YtadhpeooehkklaaGreat
namespace Dv
open Go Go.RowKit
def TypFs (f:TypeId->List DV->Prop):List TypeId->List DV->Prop
 | [],ds=>ds=[]
 | t :: r,ds=>∃ a b,ds=a ++ b/\f t a/\TypFs f r b
def Typ (P:Program):Nat->TypeId->List DV->Prop
 | 0,_,_=>False
 | n + 1,t,ds=>
  match P.underlying t with
  | some .bool=>∃ b,ds=[.v (.bool b)]
  | some (.int k)=>∃ z,ds=[.v (.int k z)]/\(Lit.int k z).wf=true
  | some .string=>∃ s:ByteArray,ds=[.v (.string s)]
  | some (.slice e)=>∃ es,ds=[.sl (P.cellsOf e) es none]/\∀ cs∈es,Typ P n e cs
  | some (.struct fs)=>TypFs (Typ P n) (fs.toList.map (·.type)) ds
  | _=>False
mutual
def wgD:DV->Nat
 | .v (.string s)=>s.size + 64
 | .sl _ es _=>64 + wgEs es
 | _=>64
def wgL:List DV->Nat
 | []=>0
 | d :: r=>wgD d + wgL r
def wgEs:List (List DV)->Nat
 | []=>0
 | cs :: r=>wgL cs + wgEs r
end
theorem fU:∀ a b:List DV,wgL (a ++ b)=wgL a + wgL b
 | [],b=>by simp [wgL]
 | d :: r,b=>by simp only [List.cons_append,wgL,fU r b];omega
def laidF (P:Program) (S:List TypeId):Nat->List Field->Nat->Bool
 | off,[],n=>decide (off=n)
 | off,f :: r,n=>decide (f.offset=off) && S.contains f.type && laidF P S (off + P.cellsOf f.type) r n
def oe (P:Program) (S:List TypeId) (t:TypeId):Bool:=
 match P.underlying t with
 | some .bool=>decide (P.cellsOf t=1)
 | some (.int _)=>decide (P.cellsOf t=1)
 | some .string=>decide (P.cellsOf t=1)
 | some (.slice e)=>decide (P.cellsOf t=1) && S.contains e && decide (0 < P.cellsOf e)
 | some (.struct fs)=>laidF P S 0 fs.toList (P.cellsOf t)
 | _=>false
def bkS {H:Type} (bk:DataW H->Nat):List (DataW H)->Nat
 | []=>0
 | d :: r=>bk d + bkS bk r
structure Bk {H:Type} (bk:DataW H->Nat):Prop where
 str:∀ l:List UInt8,l.length + 1<=bk (.lit (.string l))
 lit:∀ l,1<=bk (.lit l)
 nil:1<=bk .nil
 slice:∀ es sp,1 + bkS bk es<=bk (.slice es sp)
 agg:∀ l,bkS bk l<=bk (.agg l)
def GD (w:World):En:=⟨fun a=>w.cell? a,[],[],[]⟩
theorem QW (w:World):Env (GD w) [] w where
 len:=rfl
 tl:=rfl
 fm:=by simp
 inj:=List.nodup_nil
 sub:=fun x u hx=>hx
 pc:=by simp [GD]
 cG:=by simp [GD]
 jI:=by simp [GD]
theorem KN {w:World} {a:Addr} {k:Nat} {v:Value} (h:w.cell? (a.add k)=some v):w.cell? ⟨a.block,a.off + k,none⟩=some v:=by
 unfold Addr.add at h;split at h
 ·rename_i hk;subst hk;unfold World.cell? at h ⊢;split at h
  ·rename_i c e z he;split at h
   ·cases h
   ·simpa [he] using h
  ·cases h
 ·exact h
theorem KO {w:World} {a:Addr} {v:Value} (h:w.cell? a=some v):a.spot=none:=by
 unfold World.cell? at h;split at h
 ·split at h
  ·cases h
  ·rename_i hs;simpa using hs
 ·cases h
theorem xJ {E:En} {b:Nat}:∀ {p:Nat} {ds:List DV} {vs:List Value},RvL E.cl ds vs->(∀ (j:Nat) v,vs[j]? = some v->E.c ⟨b,p + j,none⟩=some v/\v.oneCell'=true)->RvAt E.cl b p ds
 | p,[],vs,h,hc=>by simp only [RvAt]
 | p,d :: r,vs,h,hc=>by
  simp only [RvL] at h;obtain ⟨v,s,rfl,h1,h2⟩:=h;simp only [RvAt];obtain ⟨c1,c2⟩:=hc 0 v rfl;refine ⟨⟨v,c1,c2,h1⟩,xJ (p:=p + 1) h2 fun j u hj=>?_⟩;have:=hc (j + 1) u hj;rw [show p + 1 + j=p + (j + 1) by omega];exact this
section
variable {H:Type} {enc:TypeId × Value->H} {P:Program} {w:World} {sp:Nat->Bool} {held:Bool} {S:List TypeId} {bk:DataW H->Nat}
def Rd (enc:TypeId × Value->H) (P:Program) (w:World) (bk:DataW H->Nat) (n:Nat) (t:TypeId) (cs:List Value) (d:DataW H):Prop:=
 ∃ ds,RvL (GD w) ds cs/\(∀ v∈cs,v.oneCell'=true)/\Typ P n t ds/\wgL ds<=64 * bk d/\cs.length=P.cellsOf t
theorem AJ {n:Nat} (ih:∀ t cs x,t∈S->DataW.trod enc P w 0 sp held n t cs=some x->Rd enc P w bk n t cs x.1) (cs:List Value) :
  ∀ (fs:List Field) (off:Nat) (xs:List (DataW H × List MemPlace)),laidF P S off fs cs.length=true->xs.length=fs.length ->
   (∀ (i:Nat) f,fs[i]? = some f->DataW.trod enc P w 0 sp held n f.type ((cs.drop f.offset).take (P.cellsOf f.type))=xs[i]?) ->
   ∃ ds,RvL (GD w) ds (cs.drop off)/\(∀ v∈cs.drop off,v.oneCell'=true)/\TypFs (Typ P n) (fs.map (·.type)) ds/\wgL ds<=64 * bkS bk (xs.map (·.1))
 | [],off,xs,hl,DI,hx=>by
  simp only [laidF,decide_eq_true_eq] at hl;subst hl;simp only [List.length_nil,List.length_eq_zero_iff] at DI;subst DI;exact ⟨[],by simpa using dh _,by simp,by simp [TypFs],by simp [wgL]⟩
 | f :: r,off,xs,hl,DI,hx=>by
  simp only [laidF,aQ,decide_eq_true_eq] at hl;obtain ⟨⟨hof,hS⟩,hl⟩:=hl
  match xs,DI with
  | x :: xs,DI=>
   have h0:=hx 0 f rfl;rw [hof] at h0;simp only [List.getElem?_cons_zero] at h0;obtain ⟨ds0,r1,r2,r3,r4,r5⟩:=ih f.type _ x (sU hS) h0;obtain ⟨ds1,s1,s2,s3,s4⟩:=AJ ih cs r (off + P.cellsOf f.type) xs hl (sU DI) (fun i g hg=>by simpa using hx (i + 1) g (sU hg))
   have Nt:cs.drop off=(cs.drop off).take (P.cellsOf f.type) ++ cs.drop (off + P.cellsOf f.type):=by
    rw [<- List.drop_drop,List.take_append_drop]
   refine ⟨ds0 ++ ds1,?_,?_,?_,?_⟩
   ·rw [Nt];exact RvL.append r1 s1
   ·rw [Nt];intro v hv;rcases List.mem_append.1 hv with hv | hv
    ·exact r2 v hv
    ·exact s2 v hv
   ·simp only [List.map_cons,TypFs];exact ⟨ds0,ds1,rfl,r3,s3⟩
   ·rw [fU];simp only [List.map_cons,bkS];omega
theorem EE {n e:Nat} (ih:∀ t cs x,t∈S->DataW.trod enc P w 0 sp held n t cs=some x->Rd enc P w bk n t cs x.1) (he:e∈S) (a:Addr) :
  ∀ (xs:List (DataW H × List MemPlace)) (i0:Nat),(∀ i,i < xs.length->(w.cells? 0 (a.add ((i0 + i) * P.cellsOf e)) (P.cellsOf e)).bind (DataW.trod enc P w 0 sp held n e)=xs[i]?) ->
   ∃ es,es.length=xs.length/\RvEs (GD w) (P.cellsOf e) a.block (a.off + i0 * P.cellsOf e) es/\(∀ cs∈es,Typ P n e cs)/\wgEs es<=64 * bkS bk (xs.map (·.1))
 | [],i0,hx=>⟨[],rfl,by simp only [RvEs],by simp,by simp [wgEs]⟩
 | x :: xs,i0,hx=>by
  have h0:=hx 0 (by simp);simp only [Nat.add_zero,List.getElem?_cons_zero] at h0;obtain ⟨cs,dw,ht⟩:=Option.bind_eq_some_iff.1 h0;obtain ⟨_,hlen,rb⟩:=World.cells?_some dw;obtain ⟨ds0,r1,r2,r3,r4,r5⟩:=ih e cs x he ht
  obtain ⟨es,s1,s2,s3,s4⟩:=EE ih he a xs (i0 + 1) (fun i hi=>by
   have:=hx (i + 1) (sU hi);simp only [List.getElem?_cons_succ] at this;rw [show i0 + 1 + i=i0 + (i + 1) by omega]
   exact this)
  refine ⟨ds0 :: es,by simp [s1],?_,?_,?_⟩
  ·simp only [RvEs];refine ⟨by rw [<- r1.length,hlen],xJ (E:=GD w) r1 fun j v hj=>⟨?_,r2 v (mG hj)⟩,?_⟩
   ·have nY:j < P.cellsOf e:=by rw [<- hlen];exact (gS hj).1
    have h1:=rb j nY;rw [hj,Deep.add_add] at h1;have h2:=KN h1;show w.cell? _=_;rw [Nat.add_assoc];exact h2
   ·rw [Nat.add_assoc,show i0 * P.cellsOf e + P.cellsOf e=(i0 + 1) * P.cellsOf e by rw [Nat.add_mul,Nat.one_mul]];exact s2
  ·intro cs' hc;rcases bL hc with hc | hc
   ·subst hc;exact r3
   ·exact s3 cs' hc
  ·simp only [wgEs,List.map_cons,bkS];omega
theorem vX (Ma:Bk bk) (hS:∀ t∈S,oe P S t=true):∀ (n:Nat) (t:TypeId) (cs:List Value) (x:DataW H × List MemPlace),t∈S->DataW.trod enc P w 0 sp held n t cs=some x->Rd enc P w bk n t cs x.1
 | 0,t,cs,x,_,h=>by simp [DataW.trod] at h
 | n + 1,t,cs,x,ht,h=>by
  have hf:=hS t ht;unfold oe at hf;unfold Rd
  cases hu:P.underlying t with
  | none=>rw [hu] at hf;cases hf
  | some D=>
   rw [hu] at hf
   cases D with
   | bool=>
    simp only [decide_eq_true_eq] at hf;obtain ⟨b,rfl,rfl⟩:=DataW.trod_bool hu h;have:=Ma.lit (.bool b);exact ⟨[.v (.bool b)],rvL_one (by unfold Rv;exact ⟨rfl,rfl⟩),by simp [Value.oneCell'],by simp only [Typ,hu];exact ⟨b,rfl⟩,by simp only [wgL,wgD];omega,by simp [hf]⟩
   | int k=>
    simp only [decide_eq_true_eq] at hf;obtain ⟨z,rfl,rfl,hw⟩:=DataW.trod_int hu h;have:=Ma.lit (.int k z);exact ⟨[.v (.int k z)],rvL_one (by unfold Rv;exact ⟨rfl,rfl⟩),by simp [Value.oneCell'],by simp only [Typ,hu];exact ⟨z,rfl,hw⟩,by simp only [wgL,wgD];omega,by simp [hf]⟩
   | string=>
    simp only [decide_eq_true_eq] at hf;obtain ⟨s,rfl,rfl,hw⟩:=DataW.trod_string hu h;have:=Ma.str s.data.toList;have bT:s.data.toList.length=s.size:=by rw [Array.length_toList];all_goals rfl
    exact ⟨[.v (.string s)],rvL_one (by unfold Rv;exact ⟨rfl,rfl⟩),by simp [Value.oneCell'],by simp only [Typ,hu];exact ⟨s,rfl⟩,by simp only [wgL,wgD];omega,by simp [hf]⟩
   | slice e=>
    simp only [aQ,decide_eq_true_eq] at hf;obtain ⟨⟨hf1,hf2⟩,hf3⟩:=hf;rcases DataW.trod_slice hu h with ⟨rfl,rfl⟩ | ⟨a,len,cap,elems,rest,m,hm,rfl,rfl,_,WR,_,ef,hx,_,_⟩
    ·have:=Ma.nil;refine ⟨[.sl (P.cellsOf e) [] none],rvL_one ?_,by simp [Value.oneCell'],by simp only [Typ,hu];exact ⟨[],rfl,by simp⟩,by simp only [wgL,wgD,wgEs];omega,by simp [hf1]⟩;unfold Rv;exact ⟨none,0,0,rfl,⟨rfl,aU _⟩,fun hc=>absurd rfl hc,fun k hk=>by cases hk⟩
    ·simp only [Nat.add_right_cancel_iff] at hm;subst hm;obtain ⟨es,s1,s2,s3,s4⟩:=EE (fun t cs x=>vX Ma hS n t cs x) (sU hf2) a elems 0 (fun i hi=>by simpa using hx i (by omega));have hb:=Ma.slice (elems.map (·.1)) (rest.map (·.1));refine ⟨[.sl (P.cellsOf e) es none],rvL_one ?_,by simp [Value.oneCell'],by simp only [Typ,hu];exact ⟨es,rfl,s3⟩,by simp only [wgL,wgD];omega,by simp [hf1]⟩;unfold Rv;refine ⟨some a,len,cap,rfl,⟨by omega,WR⟩,fun bF=>⟨?_,?_⟩,fun k hk=>by cases hk⟩
     ·have jX:0 < len:=by
       rw [<- ef,<- s1];exact List.length_pos_iff.2 bF
      have h0:=hx 0 jX;rw [gE (by omega)] at h0;obtain ⟨cs,dw,_⟩:=Option.bind_eq_some_iff.1 h0;obtain ⟨_,hlen,rb⟩:=World.cells?_some dw;have h1:=rb 0 hf3;rw [gE (by omega),Deep.add_add] at h1;simp only [Nat.zero_mul,Nat.add_zero] at h1;exact KO (a:=a) h1
     ·have s2':RvEs (GD w) (P.cellsOf e) a.block a.off es:=sU s2;exact s2'
   | struct fs=>
    obtain ⟨xs,m,hm,rfl,hlen,DI,hx⟩:=DataW.trod_struct hu h;simp only [Nat.add_right_cancel_iff] at hm;subst hm;simp only at hf;obtain ⟨ds,s1,s2,s3,s4⟩:=AJ (fun t cs x=>vX Ma hS n t cs x) cs fs.toList 0 xs (by rw [hlen];exact hf) (sU DI) (fun i f hi=>hx i f (sU hi));have hb:=Ma.agg (xs.map (·.1));refine ⟨ds,by simpa using s1,by simpa using s2,by simp only [Typ,hu];exact s3,by simp only;omega,hlen⟩
   | _=>cases hf
end
theorem Jr {P:Program} {n:Nat} {t:TypeId} {k:IntKind} {ds:List DV} (hu:P.underlying t=some (.int k)) (h:Typ P n t ds):∃ z,ds=[.v (.int k z)]/\(Lit.int k z).wf=true:=by
 cases n with
 | zero=>exact h.elim
 | succ n=>simp only [Typ,hu] at h;exact h
theorem Nu {P:Program} {n:Nat} {t:TypeId} {ds:List DV} (hu:P.underlying t=some .bool) (h:Typ P n t ds):∃ b,ds=[.v (.bool b)]:=by
 cases n with
 | zero=>exact h.elim
 | succ n=>simp only [Typ,hu] at h;exact h
theorem Js {P:Program} {n:Nat} {t:TypeId} {ds:List DV} (hu:P.underlying t=some .string) (h:Typ P n t ds):∃ s:ByteArray,ds=[.v (.string s)]:=by
 cases n with
 | zero=>exact h.elim
 | succ n=>simp only [Typ,hu] at h;exact h
theorem xK {P:Program} {n:Nat} {t e:TypeId} {ds:List DV} (hu:P.underlying t=some (.slice e)) (h:Typ P n t ds):∃ m es,n=m + 1/\ds=[.sl (P.cellsOf e) es none]/\∀ cs∈es,Typ P m e cs:=by
 cases n with
 | zero=>exact h.elim
 | succ n=>
  simp only [Typ,hu] at h;obtain ⟨es,h1,h2⟩:=h;exact ⟨n,es,rfl,h1,h2⟩
theorem og {P:Program} {n:Nat} {t:TypeId} {fs:Array Field} {ds:List DV} (hu:P.underlying t=some (.struct fs)) (h:Typ P n t ds):∃ m,n=m + 1/\TypFs (Typ P m) (fs.toList.map (·.type)) ds:=by
 cases n with
 | zero=>exact h.elim
 | succ n=>
  simp only [Typ,hu] at h;exact ⟨n,rfl,h⟩
theorem wf_i64 {z:Int} (h:(Lit.int .i64 z).wf=true) : -9223372036854775808<=z/\z<=9223372036854775807:=by
 simpa [Lit.wf,IntKind.min,IntKind.max,IntKind.signed,IntKind.bits] using h
end Dv
end Go.Proofs.YtadhpeooehkklaaGreat
set_option maxRecDepth 100000
namespace Go.Proofs.YtadhpeooehkklaaGreat
open Go Go.RowKit Dv Go.Proofs.Tryz
theorem Hn:prog.cellsOf 27=2:=by kernel_rfl
theorem Ho:prog.cellsOf 153=18:=by kernel_rfl
theorem tw {n:Nat} {ds:List DV} (h:Typ prog n 27 ds):∃ w:Wd,ds=kK w/\w.wt<=wgL ds:=by
 obtain ⟨m,_,hf⟩:=og Tryz.underlying27 h;obtain ⟨a,b,rfl,h1,c,d,rfl,h2,rfl⟩:=hf;obtain ⟨s,rfl⟩:=Js Tryz.underlying9 h1;obtain ⟨z,rfl,_⟩:=Jr Tryz.underlying3 h2;exact ⟨⟨s,z⟩,rfl,by simp [wgL,wgD,Wd.wt]⟩
theorem Nv:∀ {m:Nat} {es:List (List DV)},(∀ cs∈es,Typ prog m 27 cs)->∃ l:List Wd,es=bQ l/\wdsWt l<=wgEs es
 | m,[],h=>⟨[],rfl,by simp [wdsWt,wgEs]⟩
 | m,cs :: r,h=>by
  obtain ⟨w,rfl,hw⟩:=tw (h cs (by simp));obtain ⟨l,rfl,hl⟩:=Nv (m:=m) (es:=r) (fun c hc=>h c (dj _ hc));exact ⟨w :: l,rfl,by simp only [wdsWt,wgEs];omega⟩
theorem vY {n:Nat} {ds:List DV} (h:Typ prog n 22 ds):∃ l:List Wd,ds=[.sl 2 (bQ l) none]/\64 + wdsWt l<=wgL ds:=by
 obtain ⟨m,es,_,rfl,he⟩:=xK Tryz.underlying22 h;obtain ⟨l,rfl,hl⟩:=Nv he;rw [Hn];exact ⟨l,rfl,by simp only [wgL,wgD];omega⟩
theorem oh {n:Nat} {ds:List DV} (h:Typ prog n 3 ds):∃ z,ds=[.v (.int .i64 z)]/\Qf z:=by
 obtain ⟨z,rfl,hw⟩:=Jr Tryz.underlying3 h;exact ⟨z,rfl,wf_i64 hw⟩
theorem Nx {m:Nat} (ih:∀ k,k < m->∀ ds,Typ prog k 29 ds->∃ t:Ty,ds=eJ t/\rngT t/\t.wt<=wgL ds) :
  ∀ {es:List (List DV)},(∀ cs∈es,Typ prog m 153 cs)->∃ ps:Pts,es=gF ps/\rngP ps/\ps.wt<=wgEs es
 | [],h=>⟨.nil,by simp [gF],by simp [rngP],by simp [Pts.wt]⟩
 | cs :: r,h=>by
  obtain ⟨ps,rfl,hr,hl⟩:=Nx ih (es:=r) (fun c hc=>h c (dj _ hc));obtain ⟨k,rfl,hf⟩:=og Tryz.underlying153 (h cs (by simp));obtain ⟨a1,b1,rfl,h1,a2,b2,rfl,h2,a3,b3,rfl,h3,a4,b4,rfl,h4,a5,b5,rfl,h5,a6,b6,rfl,h6,rfl⟩:=hf;obtain ⟨nm,rfl,w1⟩:=tw h1;obtain ⟨bare,rfl⟩:=Nu Tryz.underlying4 h2;obtain ⟨lab,rfl,w3⟩:=vY h3;obtain ⟨wide,rfl,r4⟩:=oh h4;obtain ⟨k5,_,hf5⟩:=og Tryz.underlying151 h5;obtain ⟨c1,d1,rfl,g1,c2,d2,rfl,g2,c3,d3,rfl,g3,c4,d4,rfl,g4,rfl⟩:=hf5;obtain ⟨ck,rfl,_⟩:=oh g1;obtain ⟨cn,rfl,q2⟩:=oh g2;obtain ⟨ca,rfl,_⟩:=oh g3;obtain ⟨cl,rfl,w5⟩:=vY g4;obtain ⟨t,rfl,rt,wt⟩:=ih k (by omega) _ h6;refine ⟨.cons ⟨nm,bare,lab,wide,ck,cn,ca,cl⟩ t ps,?_,by simp only [rngP];exact ⟨r4,q2,rt,hr⟩,?_⟩
  ·simp only [gF,Ha,kK,List.cons_append,List.nil_append,List.append_nil]
  ·simp only [Pts.wt,Ph.wt,wgEs,fU,wgL,wgD,kK] at *;simp only [Wd.wt] at *;omega
theorem Ny:∀ (n:Nat) (ds:List DV),Typ prog n 29 ds->∃ t:Ty,ds=eJ t/\rngT t/\t.wt<=wgL ds:=by
 intro n
 induction n using Nat.strongRecOn with
 | _ n ih=>
  intro ds h;obtain ⟨m,rfl,hf⟩:=og Tryz.underlying29 h;obtain ⟨a1,b1,rfl,h1,a2,b2,rfl,h2,a3,b3,rfl,h3,a4,b4,rfl,h4,a5,b5,rfl,h5,a6,b6,rfl,h6,a7,b7,rfl,h7,a8,b8,rfl,h8,rfl⟩:=hf;obtain ⟨ag,rfl,_⟩:=oh h1;obtain ⟨ba,rfl,_⟩:=oh h2;obtain ⟨lo,rfl,r3⟩:=oh h3;obtain ⟨hi,rfl,r4⟩:=oh h4;obtain ⟨most,rfl,r5⟩:=oh h5;obtain ⟨af,rfl,w6⟩:=vY h6;obtain ⟨k,es,rfl,rfl,gT⟩:=xK Tryz.underlying25 h7;obtain ⟨ps,rfl,rp,wp⟩:=Nx (fun j hj=>ih j (by omega)) gT;obtain ⟨nm,rfl,w8⟩:=tw h8;rw [Ho];refine ⟨.mk ⟨ag,ba,lo,hi,most,af,nm⟩ ps,?_,by simp only [rngT];exact ⟨r3,r4,r5,rp⟩,?_⟩
  ·simp only [eJ,kK,List.cons_append,List.nil_append,List.append_nil]
  ·simp only [Ty.wt,Hd.wt,fU,wgL,wgD,kK] at *;simp only [Wd.wt] at *;omega
end Go.Proofs.YtadhpeooehkklaaGreat
namespace Go.Proofs.YtadhpeooehkklaaGreat
namespace Dv
open Go Go.RowKit Go.ChangeShapes Go.WideShapes Go.ChangeAt
open Go.ChangeMaps (open_string shut_string)
section
variable {H:Type} {enc:TypeId × Value->H} {P:Program}
theorem pT (hl:laidOutB P=true) {W W':World} (hb:Below W.heap.size W W'):∀ {ts:List TypeId} {vs:List Value} {ds:List (DataW H)} {ps:List MemPlace},(∀ t∈ts,P.readableRec t=true/\t < P.types.size) ->
  DataW.TrodAll enc P W 0 (fun _=>true) true ts vs ds ps->(∀ x∈ps,x.block < W.heap.size)->DataW.TrodAll enc P W' 0 (fun b=>decide (b < W.heap.size)) true ts vs ds ps
 | [],[],[],_,_,h,_=>h
 | t :: ts,v :: vs,d :: ds,_,ht,⟨p,q,h1,h2,e⟩,au=>by
  subst e;obtain ⟨r1,r2⟩:=ht t (by simp);exact ⟨p,q,Below.trod hl r1 r2 h1 hb (fun x hx=>au x (List.mem_append_left _ hx)),pT hl hb (fun t pG=>ht t (by simp [pG])) h2 (fun x hx=>au x (List.mem_append_right _ hx)),rfl⟩
theorem law_post {f:Func} {s:ChangeSpec} {tb:TypeId} (hl:laidOutB P=true) (MA:f.resultTypes = #[tb]) (htb:P.underlying tb=some .bool) (hv:s.vars=[]) (hts:∀ t∈f.params.toList,P.readableRec t=true/\t < P.types.size)
  {W W':World} {args:Array Value} {ds gs:List (DataW H)} {before:List MemPlace} (hW:DataW.Whole enc P f.params.toList s.vars false W args.toList ds gs before) (DJ:s.fn H ds={ results:=[.lit (.bool true)],args:=ds }) (hb:Below W.heap.size W W') :
  s.post enc P f false true false false W args (.bool true) W':=by
 have hW':=hW;obtain ⟨p,q,hA,hV,rfl,hfz,hnd⟩:=hW;rw [hv] at hV;obtain ⟨rfl,rfl⟩:=trodVars_none hV;refine ⟨ds,[],p ++ [],[],p,[],hW',?_,?_,?_,hb.frame _,fun h=>by cases h⟩
 ·rw [List.append_nil,DJ,MA];exact trodAll_cons_mk (shut_bool htb _) trodAll_mk0
 ·rw [List.append_nil,DJ];exact pT hl hb hts hA (fun x hx=>hW'.lt x (List.mem_append_left _ hx))
 ·rw [List.append_nil,DJ,hv];rfl
theorem Hp {w w':World} {Φ:DV->List (List DV)->List TkE->Prop} {v:Value} (h:pF false (GD w) w Φ v w'):Below w.heap.size w w':=by
 obtain ⟨hm,_⟩:=h;refine ⟨hm.os,hm.tape,hm.output,hm.size,fun k hk=>hm.block k hk ?_⟩;rintro (h1 | ⟨y,h1,_⟩)
 ·simp [GD] at h1
 ·simp [GD] at h1
theorem calls_law {f:FuncId} {args:List DV} {vs:List Value} {w:World} (h:aV P f args (.v (.bool true))) (hv:RvL (GD w) args vs) :
  Calls P f vs.toArray w fun e w'=>e = .returned (.bool true)/\Below w.heap.size w w':=by
 refine (h (GD w) w vs (QW w) rfl hv).mono ?_;rintro e w' ⟨v,rfl,he⟩;have hb:=Hp he;obtain ⟨_,_,d,os,E,_,_,_,_,hr,rfl⟩:=he;unfold Rv at hr;rw [hr.1];exact ⟨rfl,hb⟩
variable {W:World} {base:Nat} {S:List TypeId} {bk:DataW H->Nat}
theorem arg_st (Ma:Bk bk) (hS:∀ t∈S,oe P S t=true) {t:TypeId} {fs:Array Field} {v:Value} {d:DataW H} {ps:List MemPlace} (ht:t∈S) (hu:P.underlying t=some (.struct fs))
  (hval:Value.okWide P W .any base t v) (h:DataW.Trod enc P W 0 (fun _=>true) true t v d ps):∃ n ds,Rv (GD W) (.agg ds) v/\Typ P n t ds/\wgL ds<=64 * bk d:=by
 unfold Value.okWide at hval;rw [hu] at hval;obtain ⟨cs,rfl,_,_⟩:=hval;obtain ⟨n,hn⟩:=h;obtain ⟨ds,h1,h2,h3,h4,_⟩:=vX Ma hS n t _ _ ht hn;refine ⟨n,ds,?_,h3,h4⟩;unfold Rv;exact ⟨cs.toList,by simp,h1,h2⟩
end
end Dv
end Go.Proofs.YtadhpeooehkklaaGreat
namespace Go.Proofs.YtadhpeooehkklaaGreat
open Go Go.RowKit Dv
theorem Hq {H:Type}:∀ l:List (DataW H),bkS Rows.uptoBulk l=Rows.uptoBulkAll l
 | []=>by simp [bkS,Rows.uptoBulkAll]
 | d :: r=>by simp only [bkS,Rows.uptoBulkAll,Hq r]
theorem bk_ok {H:Type}:Bk (Rows.uptoBulk (H:=H)) where
 str:=fun l=>by simp [Rows.uptoBulk]
 lit:=fun l=>by cases l<;>simp [Rows.uptoBulk]
 nil:=by simp [Rows.uptoBulk]
 slice:=fun es sp=>by simp only [Rows.uptoBulk,Hq];omega
 agg:=fun l=>by simp only [Rows.uptoBulk,Hq];omega
theorem bulk_le {H:Type} {l:List (DataW H)} (hk:Rows.uptoSmall H l=true):Rows.uptoBulkAll l<=1048576:=of_decide_eq_true hk
theorem laid_out:laidOutB Tryz.prog=true:=by kernel_rfl
theorem own_knob:ownKnob Tryz.prog.godebug=none:=by kernel_rfl
def tyS:List TypeId:=[29,22,27,9,3,25,153,4,151]
end Go.Proofs.YtadhpeooehkklaaGreat
set_option maxRecDepth 100000
namespace Go.Proofs.YtadhpeooehkklaaGreat
open Go Go.RowKit Dv Go.Proofs.Tryz
def Pts.take:Nat->Pts->Pts
 | 0,_=>.nil
 | _ + 1,.nil=>.nil
 | e + 1,.cons p t r=>.cons p t (r.take e)
structure Sch where
 ae:List Wd
 order:List (Wd × Wd)
 types:List (Wd × Ty)
 root:Ty
def Mb (p:Wd × Wd):List DV:=[.v (.string p.1.s),.v (.int .i64 p.1.a),.v (.string p.2.s),.v (.int .i64 p.2.a)]
def nJ (l:List (Wd × Wd)):List (List DV):=l.map Mb
def dNm (x:Wd × Ty):List DV:=.v (.string x.1.s) :: .v (.int .i64 x.1.a) :: eJ x.2
def dNms (l:List (Wd × Ty)):List (List DV):=l.map dNm
def gm (s:Sch):List DV:=.sl 2 (bQ s.ae) none :: .sl 4 (nJ s.order) none :: .sl 11 (dNms s.types) none :: eJ s.root
def prsWt:List (Wd × Wd)->Nat
 | []=>0
 | p :: r=>p.1.wt + p.2.wt + prsWt r
def nmsWt:List (Wd × Ty)->Nat
 | []=>0
 | p :: r=>p.1.wt + p.2.wt + nmsWt r
def Sch.wt (s:Sch):Nat:=wdsWt s.ae + prsWt s.order + nmsWt s.types + s.root.wt
theorem gM (l:List (Wd × Wd)):(nJ l).length=l.length:=by simp [nJ]
theorem eB (l:List (Wd × Ty)):(dNms l).length=l.length:=by simp [dNms]
theorem iJ {l:List (Wd × Wd)} {j:Nat} {p:Wd × Wd} (h:l[j]? = some p):(nJ l)[j]? = some (Mb p):=by simp [nJ,h]
theorem dNms_get {l:List (Wd × Ty)} {j:Nat} {p:Wd × Ty} (h:l[j]? = some p):(dNms l)[j]? = some (dNm p):=by simp [dNms,h]
theorem jv:∀ l:List (Wd × Wd),128 * l.length<=prsWt l
 | []=>aU _
 | p :: r=>by have:=jv r;simp only [List.length_cons,prsWt,Wd.wt];omega
theorem ku:∀ l:List (Wd × Ty),256 * l.length<=nmsWt l
 | []=>aU _
 | p :: r=>by have:=ku r;have:=p.2.eO;simp only [List.length_cons,nmsWt,Wd.wt];omega
theorem ir:∀ {l:List (Wd × Ty)} {p:Wd × Ty},p∈l->p.1.wt + p.2.wt<=nmsWt l
 | x :: r,p,h=>by
  rcases bL h with h | h
  ·subst h;simp only [nmsWt];omega
  ·have:=ir h;simp only [nmsWt];omega
def QX (s:Sch):Prop:=(∀ x∈s.types,rngT x.2)/\rngT s.root
theorem Hr:prog.cellsOf 220=4:=by kernel_rfl
theorem EF:prog.cellsOf 87=11:=by kernel_rfl
theorem Vj {n:Nat} {ds:List DV} (h:Typ prog n 220 ds):∃ p:Wd × Wd,ds=Mb p/\p.1.wt + p.2.wt<=wgL ds:=by
 obtain ⟨m,_,hf⟩:=og Tryz.underlying220 h;obtain ⟨a,b,rfl,h1,c,d,rfl,h2,rfl⟩:=hf;obtain ⟨x,rfl,w1⟩:=tw h1;obtain ⟨y,rfl,w2⟩:=tw h2;exact ⟨(x,y),rfl,by simp only [fU,wgL];omega⟩
theorem Vk {n:Nat} {ds:List DV} (h:Typ prog n 87 ds):∃ p:Wd × Ty,ds=dNm p/\rngT p.2/\p.1.wt + p.2.wt<=wgL ds:=by
 obtain ⟨m,_,hf⟩:=og Tryz.underlying87 h;obtain ⟨a,b,rfl,h1,c,d,rfl,h2,rfl⟩:=hf;obtain ⟨x,rfl,w1⟩:=tw h1;obtain ⟨y,rfl,r2,w2⟩:=Ny _ _ h2;exact ⟨(x,y),by simp [dNm,kK],r2,by simp only [fU,wgL];omega⟩
theorem Nz:∀ {m:Nat} {es:List (List DV)},(∀ cs∈es,Typ prog m 220 cs)->∃ l:List (Wd × Wd),es=nJ l/\prsWt l<=wgEs es
 | m,[],h=>⟨[],rfl,by simp [prsWt,wgEs]⟩
 | m,cs :: r,h=>by
  obtain ⟨w,rfl,hw⟩:=Vj (h cs (by simp));obtain ⟨l,rfl,hl⟩:=Nz (m:=m) (es:=r) (fun c hc=>h c (dj _ hc));exact ⟨w :: l,rfl,by simp only [prsWt,wgEs];omega⟩
theorem NA:∀ {m:Nat} {es:List (List DV)},(∀ cs∈es,Typ prog m 87 cs)->∃ l:List (Wd × Ty),es=dNms l/\(∀ x∈l,rngT x.2)/\nmsWt l<=wgEs es
 | m,[],h=>⟨[],rfl,by simp,by simp [nmsWt,wgEs]⟩
 | m,cs :: r,h=>by
  obtain ⟨w,rfl,hr,hw⟩:=Vk (h cs (by simp));obtain ⟨l,rfl,hlr,hl⟩:=NA (m:=m) (es:=r) (fun c hc=>h c (dj _ hc));refine ⟨w :: l,rfl,fun x hx=>?_,by simp only [nmsWt,wgEs];omega⟩;rcases bL hx with rfl | hx
  ·exact hr
  ·exact hlr x hx
theorem typ_sch {n:Nat} {ds:List DV} (h:Typ prog n 31 ds):∃ s:Sch,ds=gm s/\QX s/\s.wt<=wgL ds:=by
 obtain ⟨m,_,hf⟩:=og Tryz.underlying31 h;obtain ⟨a1,b1,rfl,h1,a2,b2,rfl,h2,a3,b3,rfl,h3,a4,b4,rfl,h4,rfl⟩:=hf;obtain ⟨l1,rfl,w1⟩:=vY h1;obtain ⟨m2,es2,_,rfl,he2⟩:=xK Tryz.underlying23 h2;obtain ⟨l2,rfl,w2⟩:=Nz he2;obtain ⟨m3,es3,_,rfl,he3⟩:=xK Tryz.underlying24 h3;obtain ⟨l3,rfl,r3,w3⟩:=NA he3;obtain ⟨t,rfl,r4,w4⟩:=Ny _ _ h4;rw [Hr,EF];refine ⟨⟨l1,l2,l3,t⟩,by simp [gm],⟨r3,r4⟩,?_⟩;simp only [Sch.wt,fU,wgL,wgD] at *;omega
end Go.Proofs.YtadhpeooehkklaaGreat
namespace Go.Proofs.YtadhpeooehkklaaGreat
open Go Go.RowKit Dv
def tySS:List TypeId:=31 :: 23 :: 220 :: 24 :: 87 :: tyS
theorem tySS_ok:∀ t∈tySS,oe Tryz.prog tySS t=true:=by
 have h:(tySS.all fun t=>oe Tryz.prog tySS t)=true:=by kernel_rfl
 exact fun t ht=>List.all_eq_true.1 h t ht
set_option maxRecDepth 100000
noncomputable abbrev PP:Program:=Tryz.pinned.checked.prog
def dft:OpenClaim:={ program := "",sum := "",func := "",spec := "" }
theorem and_ok {a b:Bool} (ha:a=true) (hb:b=true):(a && b)=true:=by rw [ha,hb];all_goals rfl
theorem g_laid:laidOutB PP=true:=laid_out
theorem g_maps:mapsRowed PP=true:=by kernel_rfl
theorem g_stops:(PP.stops == [])=true:=by kernel_rfl
theorem g_knobs:(PP.stopKnobs == [])=true:=by kernel_rfl
theorem g_heard:PP.stopsHeard=true:=by kernel_rfl
theorem g_enter:PP.mayEnter=true:=by kernel_rfl
theorem g_lifts:(dft.lifted == PP.liftsFinal)=true:=by kernel_rfl
theorem g_keys:(true == PP.plainKeys)=true:=by kernel_rfl
theorem g_make:(PP.make == some dft.make)=true:=by kernel_rfl
end Go.Proofs.YtadhpeooehkklaaGreat
set_option maxRecDepth 100000
namespace Go.Proofs.YtadhpeooehkklaaGreat
open Go Go.RowKit Dv Go.Proofs.Tryz
theorem EG (x b:Nat):(x:Int).fdiv (2 ^ b)=((x / 2 ^ b:Nat):Int):=by
 rw [Int.fdiv_eq_ediv_of_nonneg _ (by exact Int.le_of_lt (Int.pow_pos (by decide)))];simp
theorem jx (m:Nat):BitVec.ofInt 64 (m:Int)=BitVec.ofNat 64 m:=by simp
theorem Jt {x b:Nat} (hb:b < 64) (hx:x < 18446744073709551616) :
  decide (IntKind.u64.wrap ((BitVec.ofInt 64 ((x:Int).fdiv (2 ^ (min b 64))) &&& BitVec.ofInt 64 1).toNat:Int)=1)=x.testBit b:=by
 rw [Nat.min_eq_left (by omega),EG,jx,show (BitVec.ofInt 64 1)=BitVec.ofNat 64 1 by decide,BitVec.toNat_and,BitVec.toNat_ofNat,BitVec.toNat_ofNat,Nat.testBit_eq_decide_div_mod_eq];have h1:x / 2 ^ b < 18446744073709551616:=Nat.lt_of_le_of_lt (Nat.div_le_self _ _) hx;rw [Nat.mod_eq_of_lt h1,show (1 % 2 ^ 64:Nat)=1 by decide,Nat.and_one_is_mod];simp only [IntKind.wrap_u64];congr 1;apply propext;omega
theorem Hs {x b:Nat} (hb:b < 64) (hx:x < 18446744073709551616) :
  IntKind.u64.wrap ((BitVec.ofInt 64 (x:Int) ||| BitVec.ofInt 64 (IntKind.u64.wrap (1 * 2 ^ (min b 64)))).toNat:Int)=((x ||| 2 ^ b:Nat):Int):=by
 have h2:2 ^ b < 18446744073709551616:=by
  have:2 ^ b<=2 ^ 63:=Nat.pow_le_pow_right (by decide) (by omega);omega
 have e1:IntKind.u64.wrap (1 * 2 ^ (min b 64))=((2 ^ b:Nat):Int):=by
  rw [Nat.min_eq_left (by omega),Int.one_mul];have:((2:Int) ^ b)=((2 ^ b:Nat):Int):=by simp
  rw [this];generalize 2 ^ b=z at h2;simp only [IntKind.wrap_u64];omega
 rw [e1,jx,jx,BitVec.toNat_or,BitVec.toNat_ofNat,BitVec.toNat_ofNat,Nat.mod_eq_of_lt hx,Nat.mod_eq_of_lt h2];have h3:x ||| 2 ^ b < 18446744073709551616:=Nat.or_lt_two_pow (n:=64) hx h2
 simp only [IntKind.wrap_u64];omega
theorem QY {x y:Nat} (hx:x < 18446744073709551616) (hy:y < 18446744073709551616) :
  IntKind.u64.wrap ((BitVec.ofInt 64 (x:Int) ||| BitVec.ofInt 64 (y:Int)).toNat:Int)=((x ||| y:Nat):Int):=by
 rw [jx,jx,BitVec.toNat_or,BitVec.toNat_ofNat,BitVec.toNat_ofNat,Nat.mod_eq_of_lt hx,Nat.mod_eq_of_lt hy];have h3:x ||| y < 18446744073709551616:=Nat.or_lt_two_pow (n:=64) hx hy
 simp only [IntKind.wrap_u64];omega
theorem iK (x a b:Nat):(x ||| 2 ^ b).testBit a=(x.testBit a || decide (b=a)):=by
 rw [Nat.testBit_or,Nat.testBit_two_pow]
def dU (rows:List Nat):List (List DV):=rows.map fun (x:Nat)=>[DV.v (.int .u64 (x:Int))]
theorem lL (rows:List Nat):(dU rows).length=rows.length:=by simp [dU]
theorem Vl {rows:List Nat} {i:Nat} {x:Nat} (h:rows[i]? = some x):(dU rows)[i]? = some [DV.v (.int .u64 (x:Int))]:=by simp [dU,h]
abbrev nK (rows:List Nat):DV:=.pt [.sl 1 (dU rows) none] 0
def eX (rows:List Nat):Prop:=rows.length<=64/\∀ x∈rows,x < 18446744073709551616
def bo (rows:List Nat) (a b:Nat):Bool:=(rows.getD a 0).testBit b
def hasB (rows:List Nat) (a b:Int):Bool:=decide (0<=a) && decide (a < rows.length) && decide (0<=b) && decide (b < rows.length) && bo rows a.toNat b.toNat
theorem AK (rows:List Nat):aV prog 150 [nK rows] (.v (.int .i64 rows.length)):=by
 refine eG 10 [.tmp 2] func150 rfl ntmps150 rfl fun _ _ _ _=>?_;refine (congrArg (fun z=>DV.v (.int .i64 z)) ?_:_=_);rw [lL]
theorem o8 (rows:List Nat) (hr:eX rows) (a b:Int):aV prog 154 [nK rows,.v (.int .i64 a),.v (.int .i64 b)] (.v (.bool (hasB rows a b))):=by
 have hl:=AK rows;refine eG 38 [.tmp 6] func154 rfl ntmps154 rfl fun _ _ _ _=>?_;refine br ?_ ?_<;>intro g1
 ·have g1:0<=a:=sU g1;refine cP MY hl ?_;refine br ?_ ?_<;>intro g2
  ·obtain ⟨g2,g3⟩:a < rows.length/\0<=b:=by
    cases h:decide (a < (rows.length:Int))<;>simp [pickB,h] at g2<;>exact ⟨by simpa using h,g2⟩
   refine cP MY hl ?_;refine br ?_ ?_<;>intro g4
   ·have g4:b < rows.length:=by simpa [pickB,g2,g3] using g4
    obtain ⟨x,hx⟩:∃ x,rows[a.toNat]? = some x:=⟨_,gE (by omega)⟩;have Qd:=hr.2 x (mG hx);have hr1:=hr.1;refine ⟨_,⟨g1,Vl hx⟩,?_⟩;refine ⟨g3,?_⟩;refine (congrArg (fun b=>DV.v (.bool b)) ?_:_=_);have L5:rows.getD a.toNat 0=x:=getD_some hx
    have e1:hasB rows a b=x.testBit b.toNat:=by
     unfold hasB bo;rw [L5];simp [g1,g2,g3,g4]
    rw [e1];exact Jt (x:=x) (b:=b.toNat) (by omega) Qd
   ·have g4:¬ b < rows.length:=by simpa [pickB,g2,g3] using g4
    refine (congrArg (fun b=>DV.v (.bool b)) ?_:_=_);simp [pickB,g2,g3,g4,hasB]
  ·have g5:¬ (a < rows.length/\0<=b):=by
    rintro ⟨h1,h2⟩;simp [pickB,h1,h2] at g2
   refine (congrArg (fun b=>DV.v (.bool b)) ?_:_=_);cases h:decide (a < (rows.length:Int))<;>simp [pickB,h,hasB] at g2 ⊢
   intro _ h0;omega
 ·have g1:¬ 0<=a:=sU g1;refine (congrArg (fun b=>DV.v (.bool b)) ?_:_=_);simp [g1,hasB]
def backN (rows:List Nat) (a:Nat):Nat->Nat
 | 0=>0
 | e + 1=>if bo rows a e && bo rows e a then backN rows a e ||| 2 ^ e else backN rows a e
theorem xL (rows:List Nat) (a:Nat):∀ e,backN rows a e < 2 ^ e
 | 0=>by simp [backN]
 | e + 1=>by
  have ih:=xL rows a e;have h2:2 ^ e < 2 ^ (e + 1):=Nat.pow_lt_pow_right (by decide) (by omega);simp only [backN];split
  ·exact Nat.or_lt_two_pow (by omega) h2
  ·omega
theorem tx (rows:List Nat) (a b:Nat):∀ e,(backN rows a e).testBit b=(decide (b < e) && (bo rows a b && bo rows b a))
 | 0=>by simp [backN]
 | e + 1=>by
  have ih:=tx rows a b e;simp only [backN];by_cases rf:b=e
  ·subst rf;cases hx:(bo rows a b && bo rows b a)
   ·simp [ih,hx]
   ·simp [iK]
  ·have h1:decide (b < e + 1)=decide (b < e):=by congr 1;apply propext;omega
   rw [h1,<- ih];split
   ·rw [iK,decide_eq_false (Ne.symm rf),Bool.or_false]
   ·rfl
abbrev Vm (rows:List Nat) (a e:Nat):St:=
 ⟨[(0,⟨[],nK rows⟩),(1,⟨[],.v (.int .i64 a)⟩),(5,⟨[],.v (.int .u64 (backN rows a e:Nat))⟩),(11,⟨[],.v (.int .i64 (dU rows).length)⟩),(12,⟨[],.v (.int .i64 e)⟩)],[],[]⟩
theorem rD {rows:List Nat} {a b:Nat} (ha:a < rows.length) (hb:b < rows.length):hasB rows a b=bo rows a b:=by
 simp [hasB,ha,hb]
theorem Ht (rows:List Nat) (hr:eX rows) (a:Nat) (ha:a < rows.length):aV prog 152 [nK rows,.v (.int .i64 a)] (.v (.int .u64 (backN rows a rows.length:Nat))):=by
 have hr1:=hr.1;refine eG 31 [.tmp 4] func152 rfl ntmps152 rfl fun _ _ _ _=>?_;refine lJ (fun e=>Vm rows a e) rows.length (aj ⟨_,rfl⟩ wA rfl rfl rfl wB) ?_;intro e he;refine br ?_ ?_<;>intro hL
 ·have au:e < rows.length:=by have:=hL;simp [lL] at this;exact this
  have h1:=o8 rows hr a e;have h2:=o8 rows hr e a;rw [rD ha au] at h1;rw [rD au ha] at h2;have hbl:=xL rows a e
  have Vn:backN rows a e < 18446744073709551616:=by
   have:2 ^ e<=2 ^ 64:=Nat.pow_le_pow_right (by decide) (by omega);omega
  have Ze:=Hs (x:=backN rows a e) (b:=e) (by omega) Vn;have hs:backN rows a (e + 1)=if bo rows a e && bo rows e a then backN rows a e ||| 2 ^ e else backN rows a e:=rfl
  refine cP Ji h1 ?_;refine br ?_ ?_<;>intro g1
  ·have g1:bo rows a e=true:=sU g1;refine cP Ji h2 ?_;refine br ?_ ?_<;>intro g2
   ·have g2:bo rows e a=true:=by simpa [pickB,g1] using g2
    rw [g1,g2] at hs;have hs:backN rows a (e + 1)=backN rows a e ||| 2 ^ e:=hs
    refine ⟨by omega,?_⟩;exact rE ⟨_,by omega,e + 1,rfl,by omega,rfl⟩ (aj ⟨_,rfl⟩ wA rfl rfl rfl (by repeat' (first | exact trivial | exact aA rfl | exact aE (aK au (by omega)) | exact aE (Ze.trans (by rw [hs])) | refine ⟨⟨_,rfl,?_⟩,?_⟩)))
   ·have g2:bo rows e a=false:=by simpa [pickB,g1] using g2
    rw [g1,g2] at hs;have hs:backN rows a (e + 1)=backN rows a e:=hs;exact rE ⟨_,by omega,e + 1,rfl,by omega,rfl⟩ (aj ⟨_,rfl⟩ wA rfl rfl rfl (by repeat' (first | exact trivial | exact aA rfl | exact aE (aK au (by omega)) | exact aE (by rw [hs]) | refine ⟨⟨_,rfl,?_⟩,?_⟩)))
  ·have g1:bo rows a e=false:=sU g1;rw [g1] at hs;have hs:backN rows a (e + 1)=backN rows a e:=hs;exact rE ⟨_,by omega,e + 1,rfl,by omega,rfl⟩ (aj ⟨_,rfl⟩ wA rfl rfl rfl (by repeat' (first | exact trivial | exact aA rfl | exact aE (aK au (by omega)) | exact aE (by rw [hs]) | refine ⟨⟨_,rfl,?_⟩,?_⟩)))
 ·have aS:e=rows.length:=by have:=hL;simp [lL] at this;omega
  subst aS;exact (rfl:_=_)
def cU (rows:List Nat):List DV:=rows.map fun (x:Nat)=>DV.v (.int .u64 (x:Int))
theorem qp (rows:List Nat):(cU rows).length=rows.length:=by simp [cU]
theorem NB {rows:List Nat} {i x:Nat} (h:rows[i]? = some x):(cU rows)[i]? = some (DV.v (.int .u64 (x:Int))):=by simp [cU,h]
theorem NC (rows:List Nat) (i x:Nat):(cU rows).set i (DV.v (.int .u64 (x:Int)))=cU (rows.set i x):=by simp [cU,List.map_set]
theorem rF (rows:List Nat):(dU rows).flatten=cU rows:=by
 induction rows with
 | nil=>rfl
 | cons x r ih=>simp only [dU,cU,List.map_cons,List.flatten_cons] at ih ⊢;rw [ih];all_goals rfl
theorem Ju {n m:Nat} {tk:List TkE}:∀ l:List Nat,WeL n m tk (cU l) (cU l)
 | []=>rfl
 | b :: r=>⟨_,_,rfl,aA rfl,Ju r⟩
theorem CH {n m:Nat} {tk:List TkE} {l:List DV} {ds:List Nat} (h:l=cU ds):WeL n m tk l (cU ds):=by rw [h];exact Ju ds
def dNP (p:Nat × Nat):List DV:=[.v (.int .i64 (p.1:Int)),.v (.int .i64 (p.2:Int))]
def mT (l:List (Nat × Nat)):List (List DV):=l.map dNP
theorem iL (l:List (Nat × Nat)):(mT l).length=l.length:=by simp [mT]
theorem xM {l:List (Nat × Nat)} {i:Nat} {p:Nat × Nat} (h:l[i]? = some p):(mT l)[i]? = some (dNP p):=by simp [mT,h]
def xN (rows:List Nat) (p:Nat × Nat):List Nat:=rows.set p.1 (rows.getD p.1 0 ||| 2 ^ p.2)
def fV (n:Nat) (l:List (Nat × Nat)):List Nat:=l.foldl xN (List.replicate n 0)
theorem KQ (n:Nat) (l:List (Nat × Nat)) (e:Nat) {p:Nat × Nat} (h:l[e]? = some p):fV n (l.take (e + 1))=xN (fV n (l.take e)) p:=by
 unfold fV;rw [List.take_add_one,h];simp
theorem rG (rows:List Nat) (p:Nat × Nat):(xN rows p).length=rows.length:=by simp [xN]
theorem kM (n:Nat):∀ (l:List (Nat × Nat)),(fV n l).length=n:=by
 intro l
 have:∀ (l:List (Nat × Nat)) (r:List Nat),(l.foldl xN r).length=r.length:=by
  intro l
  induction l with
  | nil=>intro r;rfl
  | cons p l ih=>intro r;rw [List.foldl_cons,ih,rG]
 rw [fV,this];simp
theorem QZ {rows:List Nat} {p:Nat × Nat} (h:eX rows) (hp:p.1 < rows.length) (hq:p.2 < 64):eX (xN rows p):=by
 refine ⟨by rw [rG];exact h.1,fun x hx=>?_⟩;rcases List.mem_or_eq_of_mem_set hx with hx | rfl
 ·exact h.2 x hx
 ·refine Nat.or_lt_two_pow (n:=64) ?_ (Nat.pow_lt_pow_right (by decide) hq);rw [aH,gE hp];exact h.2 _ (List.getElem_mem hp)
theorem CI {n:Nat} (hn:n<=64):∀ (l:List (Nat × Nat)),(∀ p∈l,p.1 < n/\p.2 < n)->eX (fV n l):=by
 intro l hl
 have:∀ (l:List (Nat × Nat)) (r:List Nat),r.length=n->eX r->(∀ p∈l,p.1 < n/\p.2 < n)->eX (l.foldl xN r):=by
  intro l
  induction l with
  | nil=>intro r _ h _;exact h
  | cons p l ih=>
   intro r hr h hp;have:=hp p (by simp);exact ih _ (by rw [rG,hr]) (QZ h (by omega) (by omega)) (fun q hq=>hp q (by simp [hq]))
 refine this l _ (by simp) ⟨by simp [hn],fun x hx=>?_⟩ hl;rw [List.mem_replicate] at hx;omega
abbrev NE (n:Nat) (l:List (Nat × Nat)) (rows:List Nat) (e:Nat):St:=
 ⟨[(0,⟨[],.v (.int .i64 n)⟩),(6,⟨[],.loc 1 0⟩),(19,⟨[],.sl 2 (mT l) none⟩),(20,⟨[],.v (.int .i64 (mT l).length)⟩),(21,⟨[],.v (.int .i64 e)⟩)],
  [cU rows,[.ms 0 1 0 n n]],[]⟩
theorem KR (n:Nat) (hn:n<=64) (l:List (Nat × Nat)) (hl:∀ p∈l,p.1 < n/\p.2 < n) (hb:l.length<=1099511627776) :
  aV prog 90 [.v (.int .i64 n),.sl 2 (mT l) none] (.tup [nK (fV n l),.v (.bool true)]):=by
 refine eG 60 [.tmp 4,.tmp 5] func90 rfl ntmps90 rfl fun _ _ _ _=>?_;refine br ?_ ?_<;>intro g
 ·exfalso;simp [ay] at g;omega
 refine ⟨⟨rfl,by omega,by omega,by omega⟩,?_⟩
 have h0:(List.replicate (n:Int).toNat [DV.v (.int .u64 0)]).flatten=cU (fV n (l.take 0)):=by
  simp [fV,cU]
 refine lJ (fun e=>NE n l (fV n (l.take e)) e) l.length (aq 2 rfl (by repeat' (first | exact rfl | exact aA rfl | exact CH h0 | refine ⟨_,_,rfl,?_,?_⟩)) rfl rfl rfl (by repeat' (first | exact trivial | exact aA rfl | exact CH h0 | refine ⟨⟨_,rfl,?_⟩,?_⟩))) ?_;intro e he;refine br ?_ ?_<;>intro hL
 ·have au:e < l.length:=by have:=hL;simp [iL] at this;exact this
  obtain ⟨p,hp⟩:=gX au;obtain ⟨p1,p2⟩:=hl p (mG hp);refine iX (xM hp) ?_;refine ⟨⟨by decide,by decide⟩,?_⟩;refine ⟨⟨by decide,by decide⟩,?_⟩;refine br ?_ ?_<;>intro g
  ·refine ⟨⟨by decide,by decide⟩,?_⟩;refine ⟨⟨by decide,by decide⟩,?_⟩;refine br ?_ ?_<;>intro g2
   ·exfalso;simp [pickB] at g2;omega
   obtain ⟨x,hx⟩:∃ x,(fV n (l.take e))[p.1]? = some x:=⟨_,gE (by rw [kM];exact p1)⟩;have bw:=CI hn (l.take e) (fun q hq=>hl q (List.mem_of_mem_take hq));have Qd:=bw.2 x (mG hx);have Ch:0 + (p.1:Int).toNat * 1=p.1:=by omega
   refine dS ?_;refine ⟨⟨by decide,by decide⟩,?_⟩;refine ⟨⟨by omega,by omega⟩,?_⟩;refine ⟨_,(by rw [Ch];exact NB hx:(cU (fV n (l.take e)))[0 + (p.1:Int).toNat * 1]? = some _),?_⟩;refine ⟨⟨by decide,by decide⟩,?_⟩;refine ⟨by omega,?_⟩;refine ⟨⟨by omega,by omega⟩,?_⟩;refine ⟨by rw [Ch,qp,kM];omega,?_⟩
   have dw:(cU (fV n (l.take e))).set (0 + (p.1:Int).toNat * 1) (DV.v (.int .u64 (IntKind.u64.wrap ((BitVec.ofInt 64 (x:Int) ||| BitVec.ofInt 64 (IntKind.u64.wrap (1 * 2 ^ (min (p.2:Int).toNat 64)))).toNat:Int))))=cU (fV n (l.take (e + 1))):=by
    rw [Ch,show ((p.2:Int).toNat)=p.2 by omega,Hs (by omega) Qd,NC,KQ n l e hp];simp only [xN];rw [getD_some hx]
   refine ⟨NE n l (fV n (l.take (e + 1))) (e + 1),(aq 2 rfl (by repeat' (first | exact rfl | exact aA rfl | exact CH dw | exact aE (aK au (by omega)) | refine ⟨_,_,rfl,?_,?_⟩)) rfl rfl rfl (by repeat' (first | exact trivial | exact aA rfl | exact CH dw | exact aE (aK au (by omega)) | refine ⟨⟨_,rfl,?_⟩,?_⟩))),l.length - (e + 1),by omega,e + 1,rfl,by omega,rfl⟩
  ·exfalso;simp [pickB] at g;omega
 ·have aS:e=l.length:=by have:=hL;simp [iL] at this;omega
  subst aS;rw [List.take_length];refine ⟨_,?_,rfl⟩;have hlen:=kM n l;generalize fV n l=rows at hlen ⊢;refine ⟨_,rfl,_,_,rfl,.inr ⟨1,_,rfl,Nat.zero_le _,rfl,_,_,rfl,.inr (.inr (.inl ⟨0,0,n,cU rows,by rw [lL,hlen],Nat.zero_le _,rfl,?_,?_,?_⟩)),rfl⟩,_,_,rfl,rfl,rfl⟩
  ·rw [rF,lL,Nat.mul_one,List.drop_zero,List.take_of_length_le (by rw [qp];omega)]
  ·intro x hx;simp only [dU,List.mem_map] at hx;obtain ⟨y,_,rfl⟩:=hx;rfl
  ·intro x hx;rw [rF] at hx;simp only [cU,List.mem_map] at hx;obtain ⟨y,_,rfl⟩:=hx;exact ⟨_,rfl⟩
def j5 (rows:List Nat) (k:Nat):List Nat:=rows.set k (rows.getD k 0 ||| 2 ^ k)
def pU (k:Nat) (rows:List Nat) (a:Nat):List Nat:=if bo rows a k then rows.set a (rows.getD a 0 ||| rows.getD k 0) else rows
def iM (rows:List Nat) (k e:Nat):List Nat:=(List.range e).foldl (pU k) (j5 rows k)
def closeR (rows:List Nat) (e:Nat):List Nat:=(List.range e).foldl (fun r k=>iM r k r.length) rows
theorem NF {rows:List Nat} {i x:Nat} (h:eX rows) (hx:x < 18446744073709551616):eX (rows.set i x):=by
 refine ⟨by rw [List.length_set];exact h.1,fun y hy=>?_⟩;rcases List.mem_or_eq_of_mem_set hy with hy | rfl
 ·exact h.2 y hy
 ·exact hx
theorem mU {rows:List Nat} (h:eX rows) (i:Nat):rows.getD i 0 < 18446744073709551616:=by
 rw [aH]
 cases hx:rows[i]? with
 | none=>simp
 | some x=>exact h.2 x (mG hx)
theorem NG {rows:List Nat} {k:Nat} (h:eX rows) (hk:k < 64):eX (j5 rows k):=
 NF h (Nat.or_lt_two_pow (n:=64) (mU h k) (Nat.pow_lt_pow_right (by decide) hk))
theorem KS (rows:List Nat) (k:Nat):(j5 rows k).length=rows.length:=by simp [j5]
theorem NH {rows:List Nat} {k a:Nat} (h:eX rows):eX (pU k rows a):=by
 unfold pU;split
 ·exact NF h (Nat.or_lt_two_pow (n:=64) (mU h a) (mU h k))
 ·exact h
theorem KT (rows:List Nat) (k a:Nat):(pU k rows a).length=rows.length:=by
 unfold pU;split<;>simp
theorem mV (rows:List Nat) (k e:Nat):iM rows k (e + 1)=pU k (iM rows k e) e:=by simp [iM,List.range_succ]
theorem o9 (rows:List Nat) (k:Nat):∀ e,(iM rows k e).length=rows.length
 | 0=>by simp [iM,KS]
 | e + 1=>by rw [mV,KT,o9]
theorem xO {rows:List Nat} {k:Nat} (h:eX rows) (hk:k < 64):∀ e,eX (iM rows k e)
 | 0=>by simpa [iM] using NG h hk
 | e + 1=>by rw [mV];exact NH (xO h hk e)
theorem lr (rows:List Nat) (e:Nat):closeR rows (e + 1)=iM (closeR rows e) e (closeR rows e).length:=by simp [closeR,List.range_succ]
theorem fW (rows:List Nat):∀ e,(closeR rows e).length=rows.length
 | 0=>by simp [closeR]
 | e + 1=>by rw [lr,o9,fW]
theorem l4 {rows:List Nat} (h:eX rows):∀ e,e<=64->eX (closeR rows e)
 | 0,_=>by simpa [closeR] using h
 | e + 1,he=>by rw [lr];exact xO (l4 h e (by omega)) (by omega) _
def spU (m:Nat):List DV:=(List.replicate m (vL [Value.int .u64 0])).flatten
theorem xP {n m:Nat} {tk:List TkE}:∀ l:List DV,(∀ x∈l,∃ y,x = .v y)->WeL n m tk l l
 | [],_=>rfl
 | b :: r,h=>by
  obtain ⟨y,rfl⟩:=h b (by simp);exact ⟨_,_,rfl,aA rfl,xP r (fun x hx=>h x (by simp [hx]))⟩
theorem gC {n m:Nat} {tk:List TkE} {l:List DV} {ds:List Nat} {k:Nat} (h:l=cU ds ++ spU k):WeL n m tk l (cU ds ++ spU k):=by
 rw [h];refine xP _ fun x hx=>?_;rcases List.mem_append.1 hx with hx | hx
 ·simp only [cU,List.mem_map] at hx;obtain ⟨y,_,rfl⟩:=hx;exact ⟨_,rfl⟩
 ·simp only [spU,List.mem_flatten,List.mem_replicate] at hx;obtain ⟨y,⟨_,rfl⟩,hx⟩:=hx;simp [vL] at hx;exact ⟨_,hx⟩
theorem CJ {r:List Nat} {k i x:Nat} (h:r[i]? = some x):(cU r ++ spU k)[0 + (i:Int).toNat * 1]? = some (DV.v (.int .u64 (x:Int))):=by
 rw [show 0 + (i:Int).toNat * 1=i by omega,cm (by rw [qp];exact (gS h).1)];exact NB h
theorem NI {r:List Nat} {k i x:Nat} (h:i < r.length):(cU r ++ spU k).set (0 + (i:Int).toNat * 1) (DV.v (.int .u64 (x:Int)))=cU (r.set i x) ++ spU k:=by
 rw [show 0 + (i:Int).toNat * 1=i by omega,List.set_append_left _ _ (by rw [qp];exact h),NC]
theorem NJ {r:List Nat} {k i:Nat} (h:i < r.length):0 + (i:Int).toNat * 1 + 1<=(cU r ++ spU k).length:=by
 rw [List.length_append,qp];omega
abbrev clSt (rows:List Nat) (cap:Nat) (r:List Nat) (e:Nat):St:=
 ⟨[(3,⟨[],.loc 1 0⟩),(19,⟨[],.v (.int .i64 (dU rows).length)⟩),(20,⟨[],.v (.int .i64 e)⟩)],[cU r ++ spU (cap - (dU rows).length),[.ms 0 1 0 (dU rows).length cap]],[]⟩
abbrev Zf (rows:List Nat) (cap:Nat) (r:List Nat) (e f:Nat):St:=
 ⟨[(3,⟨[],.loc 1 0⟩),(4,⟨[],.v (.int .i64 e)⟩),(19,⟨[],.v (.int .i64 (dU rows).length)⟩),(20,⟨[],.v (.int .i64 e)⟩),(38,⟨[],.v (.int .i64 (dU rows).length)⟩),(39,⟨[],.v (.int .i64 f)⟩)],[cU r ++ spU (cap - (dU rows).length),[.ms 0 1 0 (dU rows).length cap]],[]⟩
theorem qq {l:List Nat} {i:Nat} (h:i < l.length):l[i]? = some (l.getD i 0):=tu h
theorem uS (rows:List Nat) (hr:eX rows) (h0:rows ≠ []):aV prog 92 [nK rows] (nK (closeR rows rows.length)):=by
 have hr1:=hr.1;have hN:=lL rows;have la:0 < rows.length:=List.length_pos_iff.2 h0;refine vT (s:=false) (bt:=[]) (mu:=[12]) (hbt:=fun p hp=>by cases hp) (fr:=false) (P:=prog) tt Ax 5000 72 [.tmp 2] func92 rfl ntmps92 rfl (nL rfl) (fun _ _ _ _=>?_);refine ⟨⟨by intro h;exact h0 (by simpa [dU] using h),by rw [lL];simp [maxLen];omega,by rw [lL];omega⟩,fun cap Kp=>?_⟩
 have iE:(dU rows).flatten.append (List.replicate (cap - (dU rows).length) (vL [Value.int .u64 0])).flatten=cU (closeR rows 0) ++ spU (cap - (dU rows).length):=by
  show (dU rows).flatten ++ _=_;rw [rF];rfl
 refine lJ (fun e=>clSt rows cap (closeR rows e) e) rows.length (aq 2 rfl (nF iE) rfl rfl rfl (dy iE)) ?_;intro e he;have bw:=l4 hr e (by omega);have hlen:=fW rows e;have Tq:=lr rows e;generalize hce:closeR rows e=r at bw hlen Tq ⊢;refine br ?_ ?_<;>intro hL
 ·have au:e < rows.length:=by have:=hL;simp [hN] at this;exact this
  have hx:=qq (l:=r) (i:=e) (by omega);have Ze:=Hs (x:=r.getD e 0) (b:=e) (by omega) (mU bw e);refine dS ?_;refine ⟨⟨by omega,by omega⟩,?_⟩;refine ⟨_,CJ hx,?_⟩;refine ⟨by omega,?_⟩;refine ⟨⟨by omega,by omega⟩,?_⟩;refine ⟨NJ (by omega),?_⟩
  have pN:(cU r ++ spU (cap - (dU rows).length)).set (0 + (e:Int).toNat * 1) (DV.v (.int .u64 (IntKind.u64.wrap ((BitVec.ofInt 64 ((r.getD e 0:Nat):Int) ||| BitVec.ofInt 64 (IntKind.u64.wrap (1 * 2 ^ (min (e:Int).toNat 64)))).toNat:Int))))=cU (iM r e 0) ++ spU (cap - (dU rows).length):=by
   rw [show min (e:Int).toNat 64=min e 64 by omega,Ze,NI (by omega)];rfl
  refine lJ (fun f=>Zf rows cap (iM r e f) e f) rows.length (aq 2 rfl (nF pN) rfl rfl rfl (dy pN)) ?_;intro f hf;have Vo:=xO (k:=e) bw (by omega) f;have nD:=o9 r e f;have Zc:=mV r e f;have dR:e < (iM r e f).length:=by rw [nD];omega
  refine br ?_ ?_<;>intro hL
  ·have GF:f < rows.length:=by have:=hL;simp [hN] at this;exact this
   have hpf:f < (iM r e f).length:=by rw [nD];omega
   generalize iM r e f=q at Vo nD Zc dR hpf ⊢;have hy:=qq hpf;have hz:=qq dR;have NK:=Jt (x:=q.getD f 0) (b:=e) (by omega) (mU Vo f);have Ze:=QY (mU Vo f) (mU Vo e);refine ⟨⟨by omega,by omega⟩,?_⟩;refine ⟨_,CJ hy,?_⟩;refine ⟨by omega,?_⟩;refine br ?_ ?_<;>intro g
   ·have g:bo q f e=true:=NK.symm.trans g;refine dS ?_;refine ⟨⟨by omega,by omega⟩,?_⟩;refine ⟨_,CJ hy,?_⟩;refine ⟨⟨by omega,by omega⟩,?_⟩;refine ⟨_,CJ hz,?_⟩;refine ⟨⟨by omega,by omega⟩,?_⟩;refine ⟨NJ hpf,?_⟩
    have ll:(cU q ++ spU (cap - (dU rows).length)).set (0 + (f:Int).toNat * 1) (DV.v (.int .u64 (IntKind.u64.wrap ((BitVec.ofInt 64 ((q.getD f 0:Nat):Int) ||| BitVec.ofInt 64 ((q.getD e 0:Nat):Int)).toNat:Int))))=cU (iM r e (f + 1)) ++ spU (cap - (dU rows).length):=by
     rw [Ze,NI hpf,Zc,pU,ai g]
    exact rE ⟨_,by omega,f + 1,rfl,by omega,rfl⟩ (aq 2 rfl (gp ll (aK GF (by omega))) rfl rfl rfl (wB2 ll (aK GF (by omega))))
   ·have g:bo q f e=false:=NK.symm.trans g
    have ll:cU q ++ spU (cap - (dU rows).length)=cU (iM r e (f + 1)) ++ spU (cap - (dU rows).length):=by
     rw [Zc,pU,ah (by rw [g];decide)]
    exact rE ⟨_,by omega,f + 1,rfl,by omega,rfl⟩ (aq 2 rfl (gp ll (aK GF (by omega))) rfl rfl rfl (wB2 ll (aK GF (by omega))))
  ·have aS:f=rows.length:=sW hN hL;subst aS
   have SF:cU (iM r e rows.length) ++ spU (cap - (dU rows).length)=cU (closeR rows (e + 1)) ++ spU (cap - (dU rows).length):=by
    rw [Tq,hlen]
   exact rE ⟨_,by omega,e + 1,rfl,by omega,rfl⟩ (aq 2 rfl (gp SF (aK au (by omega))) rfl rfl rfl (wB2 SF (aK au (by omega))))
 ·have aS:e=rows.length:=sW hN hL;subst aS;refine ⟨_,?_,rfl⟩;rw [hce];refine .inr ⟨1,_,rfl,Nat.zero_le _,rfl,_,_,rfl,.inr (.inr (.inl ⟨0,0,cap,cU r ++ spU (cap - (dU rows).length),by rw [lL r,hlen,hN],Nat.zero_le _,rfl,?_,?_,?_⟩)),rfl⟩
  ·rw [rF,lL,Nat.mul_one,List.drop_zero,List.take_append_of_le_length (by rw [qp];omega),List.take_of_length_le (by rw [qp];omega)]
  ·intro x hx;simp only [dU,List.mem_map] at hx;obtain ⟨y,_,rfl⟩:=hx;rfl
  ·intro x hx;rw [rF] at hx;simp only [cU,List.mem_map] at hx;obtain ⟨y,_,rfl⟩:=hx;exact ⟨_,rfl⟩
theorem l5 {a b c d:Nat} (ha:a < 256) (hb:b < 256):(a + 256 * c) &&& (b + 256 * d)=(a &&& b) + 256 * (c &&& d):=by
 have h1:a &&& b < 256:=Nat.and_lt_two_pow (n:=8) a hb;apply Nat.eq_of_testBit_eq;intro i
 have e (x y:Nat) (hx:x < 256):(x + 256 * y).testBit i=if i < 8 then x.testBit i else y.testBit (i - 8):=by
  rw [show x + 256 * y=2 ^ 8 * y + x by omega,Nat.testBit_two_pow_mul_add _ (sU hx)]
 rw [Nat.testBit_and,e a c ha,e b d hb,e _ _ h1];split<;>simp [Nat.testBit_and]
def b1 (x:Nat):Nat:=((x / 2) &&& 85) + (x &&& 85)
def b2 (x:Nat):Nat:=((x / 4) &&& 51) + (x &&& 51)
def b3 (x:Nat):Nat:=((x / 16) + x) &&& 15
def pop8 (x:Nat):Nat:=b3 (b2 (b1 x))
theorem Jv:∀ x:Fin 256,b1 x.val < 256/\b2 (b1 x.val) < 120/\pop8 x.val<=8/\pop8 x.val=(((((((x.val.testBit 0).toNat + (x.val.testBit 1).toNat) + (x.val.testBit 2).toNat) + (x.val.testBit 3).toNat) + (x.val.testBit 4).toNat) + (x.val.testBit 5).toNat) + (x.val.testBit 6).toNat) + (x.val.testBit 7).toNat:=by decide +kernel
def valB:List Nat->Nat
 | []=>0
 | a :: r=>a + 256 * valB r
def rep (m:Nat):Nat->Nat
 | 0=>0
 | n + 1=>m + 256 * rep m n
theorem m1:∀ (a:Fin 256) (c:Fin 2),(a.val / 2 + 128 * c.val) &&& 85=(a.val / 2) &&& 85:=by decide +kernel
theorem m2:∀ (a:Fin 256) (c:Fin 4),(a.val / 4 + 64 * c.val) &&& 51=(a.val / 4) &&& 51:=by decide +kernel
theorem qS:∀ l:List Nat,(∀ a∈l,a < 256)->((valB l / 2) &&& rep 85 l.length) + (valB l &&& rep 85 l.length)=valB (l.map b1)
 | [],_=>rfl
 | a :: r,h=>by
  have ih:=qS r (fun x hx=>h x (by simp [hx]));have ha:=h a (by simp);have e1:(a + 256 * valB r) / 2=(a / 2 + 128 * (valB r % 2)) + 256 * (valB r / 2):=by omega
  have hm:=m1 ⟨a,ha⟩ ⟨valB r % 2,by omega⟩;simp only at hm;simp only [valB,List.length_cons,rep,List.map_cons,b1];rw [e1,l5 (by omega) (by decide),l5 ha (by decide),hm,<- ih];omega
theorem Ea:∀ l:List Nat,(∀ a∈l,a < 256)->((valB l / 4) &&& rep 51 l.length) + (valB l &&& rep 51 l.length)=valB (l.map b2)
 | [],_=>rfl
 | a :: r,h=>by
  have ih:=Ea r (fun x hx=>h x (by simp [hx]));have ha:=h a (by simp);have e1:(a + 256 * valB r) / 4=(a / 4 + 64 * (valB r % 4)) + 256 * (valB r / 4):=by omega
  have hm:=m2 ⟨a,ha⟩ ⟨valB r % 4,by omega⟩;simp only at hm;simp only [valB,List.length_cons,rep,List.map_cons,b2];rw [e1,l5 (by omega) (by decide),l5 ha (by decide),hm,<- ih];omega
theorem Zg (x y:Nat):(x + 16 * y) &&& 15=x &&& 15:=by
 have h (z:Nat):z &&& 15=z % 16:=Nat.and_two_pow_sub_one_eq_mod z 4;rw [h,h];omega
def EH (a:Nat):Prop:=a < 70/\a % 16<=4
theorem st3:∀ l:List Nat,(∀ a∈l,EH a)->((valB l / 16) + valB l) &&& rep 15 l.length=valB (l.map b3)
 | [],_=>rfl
 | a :: r,h=>by
  have ih:=st3 r (fun x hx=>h x (by simp [hx]));have ha:=h a (by simp)
  have hc:valB r % 16<=4:=by
   cases r with
   | nil=>simp [valB]
   | cons b s=>
    have:=(h b (by simp)).2;simp only [valB];omega
  unfold EH at ha;have e1:(a + 256 * valB r) / 16 + (a + 256 * valB r)=((a / 16 + a) + 16 * (valB r % 16)) + 256 * (valB r / 16 + valB r):=by omega
  simp only [valB,List.length_cons,rep,List.map_cons,b3];rw [e1,l5 (by omega) (by decide),Zg,ih]
def fj (x:Nat):List Nat:=[x % 256,x / 256 % 256,x / 65536 % 256,x / 16777216 % 256,x / 4294967296 % 256,x / 1099511627776 % 256,x / 281474976710656 % 256,x / 72057594037927936 % 256]
theorem Hu {x:Nat} (h:x < 18446744073709551616):valB (fj x)=x:=by
 simp only [fj,valB];omega
theorem KU (x:Nat):∀ a∈fj x,a < 256:=by
 intro a ha;simp only [fj,List.mem_cons,List.not_mem_nil,or_false] at ha;omega
def Hv (x:Nat):Nat:=((fj x).map pop8).sum
theorem EI:∀ a:Fin 256,b1 a.val < 256/\b2 (b1 a.val) < 70/\b2 (b1 a.val) % 16<=4:=by decide +kernel
theorem CK {x m:Nat} (hx:x < 18446744073709551616) (hm:m < 18446744073709551616) :
  IntKind.u64.wrap ((BitVec.ofInt 64 (x:Int) &&& BitVec.ofInt 64 (m:Int)).toNat:Int)=((x &&& m:Nat):Int):=by
 rw [jx,jx,BitVec.toNat_and,BitVec.toNat_ofNat,BitVec.toNat_ofNat,Nat.mod_eq_of_lt hx,Nat.mod_eq_of_lt hm];have h3:x &&& m < 18446744073709551616:=Nat.and_lt_two_pow (n:=64) x hm;simp only [IntKind.wrap_u64];omega
theorem Hw {x:Nat} {k:Int} (hk:k.toNat < 64):(x:Int).fdiv (2 ^ min k.toNat IntKind.u64.bits)=((x / 2 ^ k.toNat:Nat):Int):=by
 rw [show min k.toNat IntKind.u64.bits=k.toNat from Nat.min_eq_left (by show k.toNat<=64;omega),EG]
theorem CL {y:Nat} (h:y < 18446744073709551616):IntKind.u64.wrap (y:Int)=(y:Int):=by
 simp only [IntKind.wrap_u64];omega
theorem Zh {k M:Int} {m x y:Nat} (hk:k.toNat < 64) (hx:x < 18446744073709551616) (hM:M=(m:Int)) (hm:m < 18446744073709551616) (hy:((x / 2 ^ k.toNat) &&& m) + (x &&& m)=y) (lf:y < 18446744073709551616) :
  IntKind.u64.wrap (IntKind.u64.wrap ((BitVec.ofInt IntKind.u64.bits ((x:Int).fdiv (2 ^ min k.toNat IntKind.u64.bits)) &&& BitVec.ofInt IntKind.u64.bits M).toNat:Int) + IntKind.u64.wrap ((BitVec.ofInt IntKind.u64.bits (x:Int) &&& BitVec.ofInt IntKind.u64.bits M).toNat:Int))=(y:Int):=by
 subst hM;have h1:x / 2 ^ k.toNat < 18446744073709551616:=Nat.lt_of_le_of_lt (Nat.div_le_self _ _) hx;have e1:IntKind.u64.wrap ((BitVec.ofInt IntKind.u64.bits ((x / 2 ^ k.toNat:Nat):Int) &&& BitVec.ofInt IntKind.u64.bits (m:Int)).toNat:Int)=_:=CK h1 hm;have e2:IntKind.u64.wrap ((BitVec.ofInt IntKind.u64.bits (x:Int) &&& BitVec.ofInt IntKind.u64.bits (m:Int)).toNat:Int)=_:=CK hx hm;rw [Hw hk,e1,e2,<- Int.natCast_add,hy,CL lf]
theorem stgB {k M:Int} {m x y:Nat} (hk:k.toNat < 64) (hs:x / 2 ^ k.toNat + x < 18446744073709551616) (hM:M=(m:Int)) (hm:m < 18446744073709551616) (hy:((x / 2 ^ k.toNat) + x) &&& m=y) :
  IntKind.u64.wrap ((BitVec.ofInt IntKind.u64.bits (IntKind.u64.wrap ((x:Int).fdiv (2 ^ min k.toNat IntKind.u64.bits) + (x:Int))) &&& BitVec.ofInt IntKind.u64.bits M).toNat:Int)=(y:Int):=by
 subst hM;have e2:IntKind.u64.wrap ((BitVec.ofInt IntKind.u64.bits ((x / 2 ^ k.toNat + x:Nat):Int) &&& BitVec.ofInt IntKind.u64.bits (m:Int)).toNat:Int)=_:=CK hs hm;rw [Hw hk,<- Int.natCast_add,CL hs,e2,hy]
theorem Vp {k:Int} {x:Nat} (hk:k.toNat < 64) (hs:x + x / 2 ^ k.toNat < 18446744073709551616) :
  IntKind.u64.wrap ((x:Int) + (x:Int).fdiv (2 ^ min k.toNat IntKind.u64.bits))=((x + x / 2 ^ k.toNat:Nat):Int):=by
 rw [Hw hk,<- Int.natCast_add,CL hs]
theorem Jw:∀ l:List Nat,(∀ a∈l,a < 256)->valB l < 256 ^ l.length
 | [],_=>by simp [valB]
 | a :: r,h=>by
  have ih:=Jw r (fun x hx=>h x (by simp [hx]));have ha:=h a (by simp);simp only [valB,List.length_cons,Nat.pow_succ];omega
theorem NL {x:Nat} (hx:x < 18446744073709551616):∃ y1 y2 y3:Nat,((x / 2) &&& 6148914691236517205) + (x &&& 6148914691236517205)=y1/\y1 < 18446744073709551616/\((y1 / 4) &&& 3689348814741910323) + (y1 &&& 3689348814741910323)=y2/\y2 / 16 + y2 < 18446744073709551616/\y2 < 18446744073709551616 /\
  ((y2 / 16) + y2) &&& 1085102592571150095=y3/\∃ p0 p1 p2 p3 p4 p5 p6 p7:Nat,y3=valB [p0,p1,p2,p3,p4,p5,p6,p7]/\(p0<=8/\p1<=8/\p2<=8/\p3<=8/\p4<=8/\p5<=8/\p6<=8/\p7<=8)/\Hv x=p0 + p1 + p2 + p3 + p4 + p5 + p6 + p7:=by
 have hl:=KU x;have s1:=qS (fj x) hl;rw [Hu hx] at s1
 have l1:∀ a∈(fj x).map b1,a < 256:=by
  intro a ha;obtain ⟨b,hb,rfl⟩:=List.mem_map.1 ha;exact (EI ⟨b,hl b hb⟩).1
 have l2:∀ a∈((fj x).map b1).map b2,EH a:=by
  intro a ha;obtain ⟨c,hc,rfl⟩:=List.mem_map.1 ha;obtain ⟨b,hb,rfl⟩:=List.mem_map.1 hc;exact (EI ⟨b,hl b hb⟩).2
 have s2:=Ea ((fj x).map b1) l1;have s3:=st3 (((fj x).map b1).map b2) l2
 have v1:valB ((fj x).map b1) < 18446744073709551616:=by
  have:=Jw _ l1;rw [List.length_map,show (fj x).length=8 from rfl] at this;simpa using this
 rw [show rep 85 (fj x).length=6148914691236517205 from (by decide:rep 85 8=_)] at s1;rw [List.length_map,show rep 51 (fj x).length=3689348814741910323 from (by decide:rep 51 8=_)] at s2;rw [List.length_map,List.length_map,show rep 15 (fj x).length=1085102592571150095 from (by decide:rep 15 8=_)] at s3;refine ⟨_,_,_,s1,v1,s2,?_,?_,s3,_,_,_,_,_,_,_,_,rfl,?_,?_⟩
 ·have:=l2;simp only [fj,List.map_cons,List.map_nil,List.mem_cons,List.not_mem_nil,or_false,forall_eq_or_imp,forall_eq,EH,valB] at this ⊢;omega
 ·have:=l2;simp only [fj,List.map_cons,List.map_nil,List.mem_cons,List.not_mem_nil,or_false,forall_eq_or_imp,forall_eq,EH,valB] at this ⊢;omega
 ·have h (b:Nat) (hb:b < 256):=(Jv ⟨b,hb⟩).2.2.1;exact ⟨h _ (by omega),h _ (by omega),h _ (by omega),h _ (by omega),h _ (by omega),h _ (by omega),h _ (by omega),h _ (by omega)⟩
 ·simp only [Hv,fj,List.map_cons,List.map_nil,List.sum_cons,List.sum_nil,pop8];omega
theorem dr1 {a r:Nat} (h:a < 256):(a + 256 * r) / 256=r:=by omega
theorem dr2 {a b r:Nat} (h:a < 256) (h2:b < 256):(a + 256 * (b + 256 * r)) / 65536=r:=by omega
theorem dr4 {a b c d r:Nat} (h:a < 256) (h2:b < 256) (h3:c < 256) (h4:d < 256):(a + 256 * (b + 256 * (c + 256 * (d + 256 * r)))) / 4294967296=r:=by omega
theorem NM {p0 p1 p2 p3 p4 p5 p6 p7:Nat} (hp:p0<=8/\p1<=8/\p2<=8/\p3<=8/\p4<=8/\p5<=8/\p6<=8/\p7<=8):∃ z1 z2 z3:Nat,
  (p0 + 256 * (p1 + 256 * (p2 + 256 * (p3 + 256 * (p4 + 256 * (p5 + 256 * (p6 + 256 * (p7 + 256 * 0)))))))) + (p0 + 256 * (p1 + 256 * (p2 + 256 * (p3 + 256 * (p4 + 256 * (p5 + 256 * (p6 + 256 * (p7 + 256 * 0)))))))) / 256=z1/\z1 < 18446744073709551616 /\
  z1 + z1 / 65536=z2/\z2 < 18446744073709551616/\z2 + z2 / 4294967296=z3/\z3 < 18446744073709551616/\z3 % 128=p0 + p1 + p2 + p3 + p4 + p5 + p6 + p7:=by
 refine ⟨(p0 + p1) + 256 * ((p1 + p2) + 256 * ((p2 + p3) + 256 * ((p3 + p4) + 256 * ((p4 + p5) + 256 * ((p5 + p6) + 256 * ((p6 + p7) + 256 * p7)))))),
  (p0 + p1 + p2 + p3) + 256 * ((p1 + p2 + p3 + p4) + 256 * ((p2 + p3 + p4 + p5) + 256 * ((p3 + p4 + p5 + p6) + 256 * ((p4 + p5 + p6 + p7) + 256 * ((p5 + p6 + p7) + 256 * ((p6 + p7) + 256 * p7)))))),
  (p0 + p1 + p2 + p3 + p4 + p5 + p6 + p7) + 256 * ((p1 + p2 + p3 + p4 + p5 + p6 + p7) + 256 * ((p2 + p3 + p4 + p5 + p6 + p7) + 256 * ((p3 + p4 + p5 + p6 + p7) + 256 * ((p4 + p5 + p6 + p7) + 256 * ((p5 + p6 + p7) + 256 * ((p6 + p7) + 256 * p7)))))),?_,by omega,?_,by omega,?_,by omega,by omega⟩
 ·rw [dr1 (by omega)];omega
 ·rw [dr2 (by omega) (by omega)];omega
 ·rw [dr4 (by omega) (by omega) (by omega) (by omega)];omega
theorem NN {z:Nat} (h:z < 18446744073709551616):IntKind.i64.wrap ((BitVec.ofInt IntKind.i64.bits (IntKind.i64.wrap (z:Int)) &&& BitVec.ofInt IntKind.i64.bits 127).toNat:Int)=((z % 128:Nat):Int):=by
 have e1:BitVec.ofInt 64 (IntKind.i64.wrap (z:Int))=BitVec.ofNat 64 z:=by
  apply BitVec.eq_of_toNat_eq;rw [BitVec.toNat_ofInt,BitVec.toNat_ofNat,IntKind.wrap_i64];omega
 have e2:(BitVec.ofInt 64 (IntKind.i64.wrap (z:Int)) &&& BitVec.ofInt 64 127).toNat=z % 128:=by
  rw [e1,show BitVec.ofInt 64 127=BitVec.ofNat 64 127 by decide,BitVec.toNat_and,BitVec.toNat_ofNat,BitVec.toNat_ofNat,Nat.mod_eq_of_lt h];exact Nat.and_two_pow_sub_one_eq_mod z 7
 have e3:(BitVec.ofInt IntKind.i64.bits (IntKind.i64.wrap (z:Int)) &&& BitVec.ofInt IntKind.i64.bits 127).toNat=z % 128:=e2;rw [e3,IntKind.wrap_i64];omega
theorem KV (x:Nat) (hx:x < 18446744073709551616):aV prog 151 [.v (.int .u64 x)] (.v (.int .i64 (Hv x:Nat))):=by
 obtain ⟨y1,y2,y3,h1,SJ,h2,h2s,h2b,h3,p0,p1,p2,p3,p4,p5,p6,p7,h4,hp,h5⟩:=NL hx;rw [h5];simp only [valB] at h4;refine eG 35 [.tmp 2] func151 rfl ntmps151 rfl fun _ _ _ _=>?_;refine ⟨by decide,?_⟩;refine ⟨by decide,?_⟩;refine ⟨by decide,?_⟩;refine ⟨by decide,?_⟩;refine ⟨by decide,?_⟩;refine ⟨by decide,?_⟩;refine (congrArg (fun z=>DV.v (.int .i64 z)) ?_:_=_);rw [Zh (k:=1) (M:=6148914691236517205) (by decide) hx rfl (by decide) h1 SJ,Zh (k:=2) (M:=3689348814741910323) (by decide) SJ rfl (by decide) h2 h2b,stgB (k:=4) (M:=1085102592571150095) (by decide) h2s rfl (by decide) h3];obtain ⟨z1,z2,z3,g1,g1b,g2,g2b,g3,g3b,g4⟩:=NM hp;rw [<- h4] at g1;have k1:y3 + y3 / 2 ^ (8:Int).toNat=z1:=g1;rw [Vp (k:=8) (by decide) (by rw [k1];exact g1b),k1];have k2:z1 + z1 / 2 ^ (16:Int).toNat=z2:=g2;rw [Vp (k:=16) (by decide) (by rw [k2];exact g2b),k2];have k3:z2 + z2 / 2 ^ (32:Int).toNat=z3:=g3;rw [Vp (k:=32) (by decide) (by rw [k3];exact g3b),k3,<- g4];exact NN g3b
theorem jN (x k i:Nat) (hi:i < 8):(x / 2 ^ (8 * k) % 256).testBit i=x.testBit (8 * k + i):=by
 rw [show (256:Nat)=2 ^ 8 by decide,Nat.testBit_mod_two_pow,decide_eq_true hi,Bool.true_and,Nat.testBit_div_two_pow,Nat.add_comm]
theorem jO (x k:Nat):pop8 (x / 2 ^ (8 * k) % 256)=(((((((x.testBit (8 * k + 0)).toNat + (x.testBit (8 * k + 1)).toNat) + (x.testBit (8 * k + 2)).toNat) + (x.testBit (8 * k + 3)).toNat) + (x.testBit (8 * k + 4)).toNat) + (x.testBit (8 * k + 5)).toNat) + (x.testBit (8 * k + 6)).toNat) + (x.testBit (8 * k + 7)).toNat:=by
 have h:=(Jv ⟨x / 2 ^ (8 * k) % 256,Nat.mod_lt _ (by decide)⟩).2.2.2;simp only at h;rw [h,jN x k 0 (by decide),jN x k 1 (by decide),jN x k 2 (by decide),jN x k 3 (by decide),jN x k 4 (by decide),jN x k 5 (by decide),jN x k 6 (by decide),jN x k 7 (by decide)]
def sumB (x:Nat):Nat->Nat
 | 0=>0
 | n + 1=>sumB x n + (x.testBit n).toNat
theorem NO (x:Nat):Hv x=sumB x 64:=by
 have h0:=jO x 0;have h1:=jO x 1;have h2:=jO x 2;have h3:=jO x 3;have h4:=jO x 4;have h5:=jO x 5;have h6:=jO x 6;have h7:=jO x 7;simp only [Nat.mul_zero,Nat.pow_zero,Nat.div_one] at h0;simp only [Hv,fj,List.map_cons,List.map_nil,List.sum_cons,List.sum_nil,sumB];rw [h0]
 rw [show x / 256=x / 2 ^ (8 * 1) by rfl,h1,show x / 65536=x / 2 ^ (8 * 2) by rfl,h2,show x / 16777216=x / 2 ^ (8 * 3) by rfl,h3,show x / 4294967296=x / 2 ^ (8 * 4) by rfl,h4,
  show x / 1099511627776=x / 2 ^ (8 * 5) by rfl,h5,show x / 281474976710656=x / 2 ^ (8 * 6) by rfl,h6,show x / 72057594037927936=x / 2 ^ (8 * 7) by rfl,h7]
 simp only [Nat.reduceMul,Nat.reduceAdd];omega
theorem xQ (x:Nat):∀ n,0 < sumB x n↔∃ b,b < n/\x.testBit b=true
 | 0=>by simp [sumB]
 | n + 1=>by
  have ih:=xQ x n;simp only [sumB];cases h:x.testBit n
  ·simp only [Bool.toNat_false,Nat.add_zero,ih]
   exact ⟨fun ⟨b,hb,hx⟩=>⟨b,by omega,hx⟩,fun ⟨b,hb,hx⟩=>⟨b,by
    rcases eT hb with hb | rfl
    ·exact ⟨hb,hx⟩
    ·rw [h] at hx;cases hx⟩⟩
  ·simp only [Bool.toNat_true];exact ⟨fun _=>⟨n,by omega,h⟩,fun _=>by omega⟩
theorem EJ (x a:Nat) (ha:x.testBit a=true):∀ n,a < n->(1 < sumB x n↔∃ b,b < n/\b≠a/\x.testBit b=true)
 | 0,h=>by omega
 | n + 1,h=>by
  simp only [sumB];by_cases hn:a=n
  ·subst hn;rw [ha,Bool.toNat_true];have:=xQ x a;constructor
   ·intro h1;obtain ⟨b,hb,hx⟩:=this.1 (by omega);exact ⟨b,by omega,by omega,hx⟩
   ·rintro ⟨b,hb,bF,hx⟩;have:=this.2 ⟨b,by omega,hx⟩;omega
  ·have ih:=EJ x a ha n (by omega);have hp:=(xQ x n).2 ⟨a,by omega,ha⟩;cases hb:x.testBit n
   ·simp only [Bool.toNat_false,Nat.add_zero,ih]
    exact ⟨fun ⟨b,h1,h2,h3⟩=>⟨b,by omega,h2,h3⟩,fun ⟨b,h1,h2,h3⟩=>⟨b,by
     rcases eT h1 with h1 | rfl
     ·exact ⟨h1,h2,h3⟩
     ·rw [hb] at h3;cases h3⟩⟩
   ·simp only [Bool.toNat_true];exact ⟨fun _=>⟨n,by omega,fun e=>hn e.symm,hb⟩,fun _=>by omega⟩
def bS (p:Nat->Bool) (n:Nat):Option Nat:=(List.range n).find? p
theorem bI {p:Nat->Bool} {n e:Nat} (he:e < n) (hp:p e=true) (h:∀ a,a < e->p a=false):bS p n=some e:=by
 unfold bS;rw [List.find?_eq_some_iff_getElem];refine ⟨hp,e,by simpa using he,by simp,fun j hj=>?_⟩;simp [h j hj]
theorem bU {p:Nat->Bool} {n:Nat} (h:∀ a,a < n->p a=false):bS p n=none:=by
 unfold bS;rw [List.find?_eq_none];intro x hx;simp [h x (sU hx)]
theorem cL {p:Nat->Bool} {n e:Nat} (h:bS p n=some e):e < n/\p e=true/\∀ a,a < e->p a=false:=by
 unfold bS at h;rw [List.find?_eq_some_iff_getElem] at h;obtain ⟨h1,i,hi,rfl,h3⟩:=h;refine ⟨by simpa using hi,h1,fun a ha=>?_⟩;have:=h3 a (sU ha);simpa using this
def rH (c:List Nat) (a:Nat):Bool:=decide (1 < Hv (backN c a c.length))
def NP:Option Nat->DV
 | some a=>.tup [.v (.int .i64 (a:Int)),.v (.bool true)]
 | none=>.tup [.v (.int .i64 0),.v (.bool false)]
abbrev Q0 (c:List Nat) (e:Nat):St:=
 ⟨[(4,⟨[],nK c⟩),(9,⟨[],.v (.int .i64 c.length)⟩),(10,⟨[],.v (.int .i64 e)⟩)],[],[]⟩
theorem Hx (rows:List Nat) (hr:eX rows) (h0:rows ≠ []):aV prog 91 [nK rows] (NP (bS (rH (closeR rows rows.length)) rows.length)):=by
 have hc:=uS rows hr h0;have bw:=l4 hr rows.length hr.1;have hlen:=fW rows rows.length;have hr1:=hr.1;generalize closeR rows rows.length=c at hc bw hlen ⊢;rw [<- hlen];have hl:=AK c;refine eG 20 [.tmp 2,.tmp 3] func91 rfl ntmps91 rfl fun _ _ _ _=>?_;refine cP Yc hc ?_;refine cP MY hl ?_;refine lI (fun j st=>∃ e:Nat,st=Q0 c e/\e<=c.length/\(∀ a,a < e->rH c a=false)/\j=c.length - e) ⟨0,rfl,by omega,fun a h=>by omega,rfl⟩ (aj ⟨_,rfl⟩ wA rfl rfl rfl wB) ?_;rintro j st ⟨e,rfl,he,fv,rfl⟩;refine br ?_ ?_<;>intro hL
 ·have au:e < c.length:=by have:=hL;simp at this;exact this
  have Vn:backN c e c.length < 18446744073709551616:=by
   have h1:=xL c e c.length;have:2 ^ c.length<=2 ^ 64:=Nat.pow_le_pow_right (by decide) (by omega);omega
  refine cP YA (Ht c bw e au) ?_;refine cP Yz (KV _ Vn) ?_;refine br ?_ ?_<;>intro g
  ·have g:rH c e=true:=by
    simp at g;simp [rH];omega
   rw [bI au g fv];refine ⟨_,?_,rfl⟩;exact ax
  ·have g:rH c e=false:=by
    simp at g;simp [rH];omega
   exact rE ⟨_,by omega,e + 1,rfl,by omega,fun a ha=>by
    rcases eT ha with ha | rfl
    ·exact fv a ha
    ·exact g,rfl⟩ (aj ⟨_,rfl⟩ wA rfl rfl rfl (dy (aK au (by omega))))
 ·have aS:e=c.length:=by have:=hL;simp at this;omega
  subst aS;rw [bU fv];refine ⟨_,?_,rfl⟩;exact ax
theorem xR {rows:List Nat} {i x a b:Nat} (hi:i < rows.length):bo (rows.set i x) a b=if a=i then x.testBit b else bo rows a b:=by
 unfold bo;simp only [aH];by_cases h:a=i
 ·subst h;rw [cO hi,ai rfl];all_goals rfl
 ·rw [List.getElem?_set_ne (Ne.symm h),ah h]
theorem pa {rows:List Nat} {k a b:Nat} (hk:k < rows.length):bo (j5 rows k) a b=(bo rows a b || (decide (a=k) && decide (b=k))):=by
 unfold j5;rw [xR hk];by_cases h:a=k
 ·subst h;rw [ai rfl,iK];simp only [decide_true,Bool.true_and];rw [show decide (a=b)=decide (b=a) from by simp only [eq_comm]];rfl
 ·rw [ah h];simp [h]
theorem KW {rows:List Nat} {k i a b:Nat} (hi:i < rows.length):bo (pU k rows i) a b=(bo rows a b || (decide (a=i) && (bo rows a k && bo rows k b))):=by
 unfold pU;by_cases h:bo rows i k=true
 ·rw [ai h,xR hi];by_cases ha:a=i
  ·subst ha;rw [ai rfl,Nat.testBit_or];simp only [decide_true,Bool.true_and,h];rfl
  ·rw [ah ha];simp [ha]
 ·rw [ah h];by_cases ha:a=i
  ·subst ha;simp only [Bool.not_eq_true] at h;simp [h]
  ·simp [ha]
theorem AL {rows:List Nat} {k:Nat} (hk:k < rows.length):∀ e,e<=rows.length->∀ a b,bo (iM rows k e) a b=(bo (j5 rows k) a b || (decide (a < e) && (bo (j5 rows k) a k && bo (j5 rows k) k b)))
 | 0,_,a,b=>by simp [iM]
 | e + 1,he,a,b=>by
  have ih:=AL hk e (by omega);rw [mV,KW (by rw [o9];omega),ih a b,ih a k,ih k b];have DF:bo (j5 rows k) k k=true:=by rw [pa hk];simp
  generalize bo (j5 rows k)=s at *;by_cases h1:a=e
  ·subst h1;simp only [Nat.lt_irrefl,decide_false,Bool.false_and,Bool.or_false,decide_true,Bool.true_and,Nat.lt_succ_self,DF];cases s a b<;>cases s a k<;>cases s k b<;>simp
  ·by_cases h2:a < e
   ·have:a < e + 1:=by omega
    simp [h1,h2,this]
   ·have:¬ a < e + 1:=by omega
    simp [h1,h2,this]
inductive vZ (p:Nat->Nat->Prop):Nat->Nat->Prop
 | refl (a:Nat):vZ p a a
 | step {a b c:Nat}:vZ p a b->p b c->vZ p a c
theorem vZ.trans {p:Nat->Nat->Prop} {a b c:Nat} (h1:vZ p a b) (h2:vZ p b c):vZ p a c:=by
 induction h2 with
 | refl=>exact h1
 | step _ h ih=>exact .step ih h
theorem vZ.mono {p q:Nat->Nat->Prop} (h:∀ a b,p a b->vZ q a b) {a b:Nat} (h1:vZ p a b):vZ q a b:=by
 induction h1 with
 | refl=>exact .refl _
 | step _ h2 ih=>exact ih.trans (h _ _ h2)
def wayQ (p:Nat->Nat->Prop):Nat->Nat->Nat->Prop
 | 0,a,b=>a=b∨p a b
 | k + 1,a,b=>wayQ p k a b∨(wayQ p k a k/\wayQ p k k b)
theorem AM {p:Nat->Nat->Prop} (a:Nat):∀ k,wayQ p k a a
 | 0=>.inl rfl
 | k + 1=>.inl (AM a k)
theorem AN {p:Nat->Nat->Prop} {a b:Nat} (h:p a b):∀ k,wayQ p k a b
 | 0=>.inr h
 | k + 1=>.inl (AN h k)
theorem rI {p:Nat->Nat->Prop}:∀ k a b,wayQ p k a b->vZ p a b
 | 0,a,b,h=>by
  rcases h with rfl | h
  ·exact .refl _
  ·exact .step (.refl _) h
 | k + 1,a,b,h=>by
  rcases h with h | ⟨h1,h2⟩
  ·exact rI k a b h
  ·exact (rI k a k h1).trans (rI k k b h2)
theorem mW {p:Nat->Nat->Prop}:∀ k a m b,m < k->wayQ p k a m->wayQ p k m b->wayQ p k a b
 | 0,_,_,_,h,_,_=>by omega
 | k + 1,a,m,b,hm,h1,h2=>by
  by_cases hmk:m=k
  ·subst hmk
   have sS:wayQ p m a m:=by
    rcases h1 with h1 | h1
    ·exact h1
    ·exact h1.1
   have Q3:wayQ p m m b:=by
    rcases h2 with h2 | h2
    ·exact h2
    ·exact h2.2
   exact .inr ⟨sS,Q3⟩
  ·have lU:m < k:=by omega
   rcases h1 with h1 | ⟨h1,h3⟩
   ·rcases h2 with h2 | ⟨h2,h4⟩
    ·exact .inl (mW k a m b lU h1 h2)
    ·exact .inr ⟨mW k a m k lU h1 h2,h4⟩
   ·rcases h2 with h2 | ⟨h2,h4⟩
    ·exact .inr ⟨h1,mW k k m b lU h3 h2⟩
    ·exact .inr ⟨h1,h4⟩
theorem xS {rows:List Nat}:∀ k,k<=rows.length->∀ a b,a < rows.length->((bo (closeR rows k) a b=true∨a=b)↔wayQ (fun x y=>bo rows x y=true) k a b)/\(a < k->bo (closeR rows k) a a=true)
 | 0,_,a,b,_=>by
  refine ⟨?_,fun h=>by omega⟩;simp only [closeR,List.range_zero,List.foldl_nil,wayQ];exact or_comm
 | k + 1,hk,a,b,ha=>by
  have ih:=xS (rows:=rows) k (by omega);have ej:k < (closeR rows k).length:=by rw [fW];omega
  have hb:∀ a b,a < rows.length->bo (closeR rows (k + 1)) a b=(bo (j5 (closeR rows k) k) a b || (bo (j5 (closeR rows k) k) a k && bo (j5 (closeR rows k) k) k b)):=fun a b ha=>by
   rw [lr,AL ej _ (aU _)];simp [fW,ha]
  have NQ:∀ a b,(bo (j5 (closeR rows k) k) a b=true∨a=b)↔(bo (closeR rows k) a b=true∨a=b):=fun a b=>by
   rw [pa ej];simp only [Bool.or_eq_true,aQ,decide_eq_true_eq];constructor
   ·rintro ((h | ⟨rfl,rfl⟩) | h)
    ·exact .inl h
    ·exact .inr rfl
    ·exact .inr h
   ·rintro (h | h)
    ·exact .inl (.inl h)
    ·exact .inr h
  have DF:bo (j5 (closeR rows k) k) k k=true:=by rw [pa ej];simp
  have key:∀ a b,a < rows.length->((bo (closeR rows (k + 1)) a b=true∨a=b)↔wayQ (fun x y=>bo rows x y=true) (k + 1) a b):=fun a b ha=>by
   rw [hb a b ha];show _↔wayQ _ k a b∨(wayQ _ k a k/\wayQ _ k k b);rw [<- (ih a b ha).1,<- (ih a k ha).1,<- (ih k b (by omega)).1,<- NQ a b,<- NQ a k,<- NQ k b];simp only [Bool.or_eq_true,aQ];constructor
   ·rintro ((h | ⟨h1,h2⟩) | h)
    ·exact .inl (.inl h)
    ·exact .inr ⟨.inl h1,.inl h2⟩
    ·exact .inl (.inr h)
   ·rintro ((h | h) | ⟨h1,h2⟩)
    ·exact .inl (.inl h)
    ·exact .inr h
    ·rcases h1 with h1 | rfl
     ·rcases h2 with h2 | rfl
      ·exact .inl (.inr ⟨h1,h2⟩)
      ·exact .inl (.inl h1)
     ·rcases h2 with h2 | rfl
      ·exact .inl (.inl h2)
      ·exact .inr rfl
  refine ⟨key a b ha,fun hak=>?_⟩;rw [hb a a ha];by_cases h:a=k
  ·subst h;rw [DF];all_goals rfl
  ·have:=(ih a a ha).2 (by omega);rw [pa ej,this];all_goals rfl
theorem Hy {rows:List Nat} (hb:∀ a b,a < rows.length->bo rows a b=true->b < rows.length) {a b:Nat} (ha:a < rows.length) (hbl:b < rows.length):bo (closeR rows rows.length) a b=true↔vZ (fun x y=>x < rows.length/\bo rows x y=true) a b:=by
 have hw:=xS (rows:=rows) rows.length (aU _) a b ha
 have h1:bo (closeR rows rows.length) a b=true↔wayQ (fun x y=>bo rows x y=true) rows.length a b:=by
  rw [<- hw.1];constructor
  ·exact .inl
  ·rintro (h | rfl)
   ·exact h
   ·exact hw.2 ha
 rw [h1];constructor
 ·intro h
  have au:∀ {x},vZ (fun x y=>bo rows x y=true) a x->vZ (fun x y=>x < rows.length/\bo rows x y=true) a x/\x < rows.length:=by
   intro x hx
   induction hx with
   | refl=>exact ⟨.refl _,ha⟩
   | step _ h2 ih=>exact ⟨.step ih.1 ⟨ih.2,h2⟩,hb _ _ ih.2 h2⟩
  exact (au (rI _ _ _ h)).1
 ·intro h
  have:wayQ (fun x y=>bo rows x y=true) rows.length a b/\b < rows.length:=by
   clear h1 hw hbl
   induction h with
   | refl=>exact ⟨AM _ _,ha⟩
   | step _ h2 ih=>exact ⟨mW _ _ _ _ ih.2 ih.1 (AN h2.2 _),hb _ _ h2.1 h2.2⟩
  exact this.1
theorem NR {rows:List Nat} {p:Nat × Nat} {a b:Nat} (hp:p.1 < rows.length):bo (xN rows p) a b=(bo rows a b || (decide (a=p.1) && decide (b=p.2))):=by
 unfold xN;rw [xR hp];by_cases h:a=p.1
 ·subst h;rw [ai rfl,iK];simp only [decide_true,Bool.true_and];rw [show decide (p.2=b)=decide (b=p.2) from by simp only [eq_comm]];rfl
 ·rw [ah h];simp [h]
theorem AO:∀ (l:List (Nat × Nat)) (rows:List Nat) (a b:Nat),(∀ p∈l,p.1 < rows.length)->(bo (l.foldl xN rows) a b=true↔bo rows a b=true∨(a,b)∈l)
 | [],_,_,_,_=>by simp
 | p :: l,rows,a,b,h=>by
  rw [List.foldl_cons,AO l _ a b (fun q hq=>by rw [rG];exact h q (by simp [hq])),NR (h p (by simp))];simp only [Bool.or_eq_true,aQ,decide_eq_true_eq,List.mem_cons];constructor
  ·rintro ((h1 | ⟨rfl,rfl⟩) | h1)
   ·exact .inl h1
   ·exact .inr (.inl rfl)
   ·exact .inr (.inr h1)
  ·rintro (h1 | rfl | h1)
   ·exact .inl (.inl h1)
   ·exact .inl (.inr ⟨rfl,rfl⟩)
   ·exact .inr h1
theorem xT {n:Nat} {l:List (Nat × Nat)} (h:∀ p∈l,p.1 < n) (a b:Nat):bo (fV n l) a b=true↔(a,b)∈l:=by
 unfold fV;rw [AO l _ a b (fun p hp=>by rw [List.length_replicate];exact h p hp)];constructor
 ·rintro (h1 | h1)
  ·unfold bo at h1;rw [aH,List.getElem?_replicate] at h1;split at h1<;>simp at h1
  ·exact h1
 ·exact .inr
def fA (n:Nat) (l:List (Nat × Nat)) (a b:Nat):Bool:=bo (closeR (fV n l) n) a b
def tz (n:Nat) (l:List (Nat × Nat)):Prop:=∀ p∈l,p.1 < n/\p.2 < n
theorem oi {n:Nat} {l:List (Nat × Nat)} (h:tz n l) {a b:Nat} (ha:a < n) (hb:b < n):fA n l a b=true↔vZ (fun x y=>(x,y)∈l) a b:=by
 have hlen:(fV n l).length=n:=kM n l;unfold fA
 have:=Hy (rows:=fV n l) (fun a b _ NK=>by
  rw [xT (fun p hp=>(h p hp).1)] at NK
  rw [hlen];exact (h _ NK).2) (a:=a) (b:=b) (by omega) (by omega)
 rw [hlen] at this;rw [this];constructor
 ·exact vZ.mono fun x y G3=>.step (.refl _) ((xT (fun p hp=>(h p hp).1) x y).1 G3.2)
 ·exact vZ.mono fun x y G3=>.step (.refl _) ⟨(h _ G3).1,(xT (fun p hp=>(h p hp).1) x y).2 G3⟩
theorem tA {n:Nat} {l:List (Nat × Nat)} (h:tz n l) {a:Nat} (ha:a < n):fA n l a a=true:=(oi h ha ha).2 (.refl _)
theorem Hz {n:Nat} {l:List (Nat × Nat)} (h:tz n l) {a b c:Nat} (ha:a < n) (hb:b < n) (hc:c < n) (h1:fA n l a b=true) (h2:fA n l b c=true):fA n l a c=true:=
 (oi h ha hc).2 (((oi h ha hb).1 h1).trans ((oi h hb hc).1 h2))
def lu (n:Nat) (f:Nat->Nat->Bool) (a:Nat):Bool:=(List.range n).any fun b=>decide (a≠b) && (f a b && f b a)
theorem NS {n:Nat} {l:List (Nat × Nat)} (hn:n<=64) (h:tz n l) {a:Nat} (ha:a < n):rH (closeR (fV n l) n) a=lu n (fA n l) a:=by
 have hlen:(closeR (fV n l) n).length=n:=by rw [fW,kM]
 unfold rH lu;rw [NO,hlen,Bool.eq_iff_iff,decide_eq_true_eq]
 have haa:(backN (closeR (fV n l) n) a n).testBit a=true:=by
  rw [tx];have:bo (closeR (fV n l) n) a a=true:=tA h ha;simp [ha,this]
 rw [EJ _ a haa 64 (by omega)];simp only [List.any_eq_true,List.mem_range,aQ,decide_eq_true_eq,tx];constructor
 ·rintro ⟨b,_,bF,hb,h1,h2⟩;exact ⟨b,hb,fun e=>bF e.symm,h1,h2⟩
 ·rintro ⟨b,hb,bF,h1,h2⟩;exact ⟨b,by omega,fun e=>bF e.symm,hb,h1,h2⟩
theorem CM {p q:Nat->Bool} {n:Nat} (h:∀ a,a < n->p a=q a):bS p n=bS q n:=by
 unfold bS
 have:∀ (l:List Nat),(∀ a∈l,p a=q a)->l.find? p=l.find? q:=by
  intro l
  induction l with
  | nil=>intro _;rfl
  | cons x r ih=>
   intro hl;rw [List.find?_cons,List.find?_cons,hl x (by simp),ih (fun a ha=>hl a (by simp [ha]))]
 exact this _ fun a ha=>h a (List.mem_range.1 ha)
theorem Q4 {n:Nat} {l:List (Nat × Nat)} (hn:n<=64) (h:tz n l):bS (rH (closeR (fV n l) n)) n=bS (lu n (fA n l)) n:=
 CM fun _ ha=>NS hn h ha
def iN (r:List Bool) (p:Nat × Nat):List Bool:=if r.getD p.1 false then r.set p.2 true else r
def jy (l:List (Nat × Nat)) (r:List Bool):List Bool:=l.foldl iN r
def dt (l:List (Nat × Nat)) (r:List Bool) (k:Nat):List Bool:=(List.range k).foldl (fun r _=>jy l r) r
def vE (n:Nat) (l:List (Nat × Nat)) (a:Nat):List Bool:=dt l ((List.replicate n false).set a true) n
theorem fk (l:List (Nat × Nat)) (r:List Bool) (k:Nat):dt l r (k + 1)=jy l (dt l r k):=by simp [dt,List.range_succ]
theorem l6 (r:List Bool) (p:Nat × Nat):(iN r p).length=r.length:=by unfold iN;split<;>simp
theorem qu (l:List (Nat × Nat)):∀ r,(jy l r).length=r.length:=by
 induction l with
 | nil=>intro r;rfl
 | cons p l ih=>intro r;simp only [jy,List.foldl_cons] at ih ⊢;rw [ih,l6]
theorem fX (l:List (Nat × Nat)) (r:List Bool):∀ k,(dt l r k).length=r.length
 | 0=>by simp [dt]
 | k + 1=>by rw [fk,qu,fX]
theorem rJ (n:Nat) (l:List (Nat × Nat)) (a:Nat):(vE n l a).length=n:=by simp [vE,fX]
def AP (r s:List Bool):Prop:=∀ i:Nat,r.getD i false=true->s.getD i false=true
theorem kN {r:List Bool} {i j:Nat} (hi:i < r.length):(r.set i true).getD j false=(decide (j=i) || r.getD j false):=by
 simp only [aH];by_cases h:j=i
 ·subst h;rw [cO hi];simp
 ·rw [List.getElem?_set_ne (Ne.symm h)];simp [h]
theorem EK {r:List Bool} {p:Nat × Nat} (hp:p.2 < r.length):AP r (iN r p):=by
 intro i hi;unfold iN;split
 ·rw [kN hp,hi];simp
 ·exact hi
theorem pe:∀ {l:List (Nat × Nat)} {r:List Bool},(∀ p∈l,p.2 < r.length)->AP r (jy l r)
 | [],r,_,i,hi=>hi
 | p :: l,r,h,i,hi=>by
  have:AP (iN r p) (jy l (iN r p)):=pe fun q hq=>by rw [l6];exact h q (by simp [hq])
  exact this i (EK (h p (by simp)) i hi)
def kO (r:List Bool):Nat:=r.countP (fun x=>x)
theorem rK (r:List Bool):kO r<=r.length:=List.countP_le_length
theorem lM:∀ {r s:List Bool},r.length=s.length->AP r s->(r=s∨kO r < kO s)/\kO r<=kO s
 | [],[],_,_=>⟨.inl rfl,aU _⟩
 | x :: r,y :: s,hl,h=>by
  have vy:r.length=s.length:=sU hl;have ih:=lM vy (fun i hi=>by simpa using h (i + 1) (sU hi));have h0:x=true->y=true:=fun hx=>by simpa using h 0 (sU hx)
  simp only [kO,List.countP_cons] at ih ⊢;cases x<;>cases y
  ·refine ⟨?_,by simpa using ih.2⟩;rcases ih.1 with h1 | h1
   ·exact .inl (by rw [h1])
   ·exact .inr (sU h1)
  ·have:=ih.2;exact ⟨.inr (by simp;omega),by simp;omega⟩
  ·exact absurd (h0 rfl) (by decide)
  ·refine ⟨?_,by simpa using ih.2⟩;rcases ih.1 with h1 | h1
   ·exact .inl (by rw [h1])
   ·exact .inr (sU h1)
 | [],_ :: _,h,_=>by simp at h
 | _ :: _,[],h,_=>by simp at h
theorem xU {r s:List Bool} (hl:r.length=s.length) (h1:AP r s) (h2:AP s r):r=s:=by
 rcases (lM hl h1).1 with h | h
 ·exact h
 ·have:=(lM hl.symm h2).2;omega
theorem xV:∀ {l:List (Nat × Nat)} {r:List Bool},(∀ p∈l,p.2 < r.length)->jy l r=r->∀ p∈l,r.getD p.1 false=true->r.getD p.2 false=true
 | [],_,_,_,p,hp,_=>by cases hp
 | q :: l,r,h,he,p,hp,h1=>by
  have hq:=h q (by simp);have hl:∀ p∈l,p.2 < (iN r q).length:=fun p hp=>by rw [l6];exact h p (by simp [hp])
  have hs:iN r q=r:=by
   have h2:AP (iN r q) r:=by
    have:=pe hl;have qj:jy l (iN r q)=r:=he;rw [qj] at this;exact this
   exact (xU (l6 r q).symm (EK hq) h2).symm
  rcases bL hp with rfl | hp
  ·unfold iN at hs;rw [ai h1] at hs;rw [<- hs,kN hq];simp
  ·have qj:jy l r=r:=by
    have:jy l (iN r q)=r:=he
    rwa [hs] at this
   exact xV (fun p hp=>h p (by simp [hp])) qj p hp h1
theorem uT {l:List (Nat × Nat)} {r:List Bool} (h:∀ p∈l,p.2 < r.length):∀ k,jy l (dt l r k)=dt l r k∨kO r + k<=kO (dt l r k)
 | 0=>.inr (by simp [dt])
 | k + 1=>by
  have hk:∀ p∈l,p.2 < (dt l r k).length:=fun p hp=>by rw [fX];exact h p hp
  rcases uT h k with h1 | h1
  ·left;rw [fk,h1,h1]
  ·rcases (lM (qu l _).symm (pe hk)).1 with h2 | h2
   ·left;rw [fk,<- h2,<- h2]
   ·right;rw [fk];omega
theorem KX {l:List (Nat × Nat)} {a:Nat} {r:List Bool} {p:Nat × Nat} (hp:p∈l) (hl:p.2 < r.length) (h:∀ i,r.getD i false=true->vZ (fun x y=>(x,y)∈l) a i):∀ i,(iN r p).getD i false=true->vZ (fun x y=>(x,y)∈l) a i:=by
 intro i hi;unfold iN at hi;split at hi
 ·rename_i h1;rw [kN hl] at hi;simp only [Bool.or_eq_true,decide_eq_true_eq] at hi;rcases hi with rfl | hi
  ·exact .step (h _ h1) hp
  ·exact h i hi
 ·exact h i hi
theorem xW {l:List (Nat × Nat)} {a:Nat}:∀ (m:List (Nat × Nat)) {r:List Bool},(∀ p∈m,p∈l/\p.2 < r.length)->(∀ i,r.getD i false=true->vZ (fun x y=>(x,y)∈l) a i)->∀ i,(jy m r).getD i false=true->vZ (fun x y=>(x,y)∈l) a i
 | [],_,_,h=>h
 | p :: m,r,hm,h=>xW m (r:=iN r p) (fun q hq=>by rw [l6];exact hm q (by simp [hq])) (KX (hm p (by simp)).1 (hm p (by simp)).2 h)
theorem uU {l:List (Nat × Nat)} {a:Nat} {r:List Bool} (hl:∀ p∈l,p.2 < r.length) (h:∀ i,r.getD i false=true->vZ (fun x y=>(x,y)∈l) a i):∀ k i,(dt l r k).getD i false=true->vZ (fun x y=>(x,y)∈l) a i
 | 0=>by simpa [dt] using h
 | k + 1=>by
  rw [fk];exact xW l (fun p hp=>⟨hp,by rw [fX];exact hl p hp⟩) (uU hl h k)
theorem xX {l:List (Nat × Nat)} {r:List Bool} (hl:∀ p∈l,p.2 < r.length):∀ k,AP r (dt l r k)
 | 0=>by intro i hi;simpa [dt] using hi
 | k + 1=>fun i hi=>by
  rw [fk];exact pe (fun p hp=>by rw [fX];exact hl p hp) i (xX hl k i hi)
theorem NT {n a:Nat} (ha:a < n):1<=kO ((List.replicate n false).set a true):=by
 unfold kO;rw [Nat.succ_le_iff,List.countP_pos_iff];exact ⟨true,List.mem_iff_getElem?.2 ⟨a,by rw [cO (by simp [ha])]⟩,rfl⟩
theorem NU {n:Nat} {l:List (Nat × Nat)} (h:tz n l) {a b:Nat} (ha:a < n) (hb:b < n):(vE n l a).getD b false=fA n l a b:=by
 have hl:∀ p∈l,p.2 < ((List.replicate n false).set a true).length:=fun p hp=>by simp;exact (h p hp).2
 have vC:a < (List.replicate n false).length:=by simp [ha]
 rw [Bool.eq_iff_iff,oi h ha hb];constructor
 ·refine uU hl (fun i hi=>?_) n b;rw [kN vC] at hi;simp only [Bool.or_eq_true,decide_eq_true_eq] at hi;rcases hi with rfl | hi
  ·exact .refl _
  ·rw [aH,List.getElem?_replicate] at hi;split at hi<;>simp at hi
 ·have hfix:jy l (vE n l a)=vE n l a:=by
   rcases uT hl n with h1 | h1
   ·exact h1
   ·have h2:=rK (dt l ((List.replicate n false).set a true) n);rw [fX] at h2;have h3:=NT ha;simp only [List.length_set,List.length_replicate] at h2;omega
  have eK:=xV (fun p hp=>by rw [rJ];exact (h p hp).2) hfix;intro hr;have haa:(vE n l a).getD a false=true:=xX hl n a (by rw [kN vC];simp);clear hb
  induction hr with
  | refl=>exact haa
  | step _ h2 ih=>exact eK _ h2 ih
def dD (n:Nat) (f:Nat->Nat->Bool):List (List Bool):=(List.range n).map fun a=>(List.range n).map (f a)
theorem Q5 {n:Nat} {l:List (Nat × Nat)} (h:tz n l) {a:Nat} (ha:a < n):vE n l a=(List.range n).map (fA n l a):=by
 refine List.ext_getElem? fun i=>?_;by_cases hi:i < n
 ·have:=NU h ha hi;have hl:=rJ n l a;rw [aH,gE (by omega)] at this;rw [gE (by omega),List.getElem?_map,List.getElem?_range hi];simpa using this
 ·rw [cQ (by rw [rJ];omega),cQ (by simp;omega)]
theorem EL {n:Nat} {f:Nat->Nat->Bool} {a:Nat} (ha:a < n):(dD n f)[a]? = some ((List.range n).map (f a)):=by
 simp [dD,List.getElem?_range ha]
theorem KY {l:List Wd} {i:Nat} {x:Wd} (h:l[i]? = some x):aD (l.take (i + 1))=aD (l.take i) ++ [x.s]:=by
 rw [List.take_add_one,h];simp [aD]
theorem Jx (l:List Wd) (s:ByteArray):bX l s=true↔s∈aD l:=by
 simp only [bX,List.any_eq_true,decide_eq_true_eq,aD,List.mem_map]
theorem mX {l:List Wd} {i:Nat} {x:Wd} (h:l[i]? = some x) (hn:(aD (l.take i)).Nodup):(aD (l.take (i + 1))).Nodup↔bX (l.take i) x.s=false:=by
 rw [KY h,List.nodup_append];constructor
 ·rintro ⟨_,_,h3⟩;cases hb:bX (l.take i) x.s
  ·rfl
  ·exact absurd rfl (h3 x.s ((Jx _ _).1 hb) x.s (by simp))
 ·intro hb;refine ⟨hn,by simp,fun a ha b ll=>?_⟩;simp only [List.mem_singleton] at ll;subst ll;rintro rfl;rw [(Jx _ _).2 ha] at hb;cases hb
theorem AQ {l:List Wd} {i:Nat} {x:Wd} (a:Int) (h:l[i]? = some x) (hn:(aD (l.take i)).Nodup) :
  iH (aD (l.take (i + 1))) x.s a=if aN l i x≠0 then (aN l i x,a) else (0,0):=by
 have hs:=mX h hn;unfold iH aN;by_cases h1:bq x.s=true
 ·rw [ai h1,ai h1];by_cases h2:bX (l.take i) x.s=true
  ·rw [ai h2,ah (fun hc=>by rw [hs.1 hc] at h2;cases h2)];all_goals rfl
  ·rw [ah h2,ai (hs.2 (sU h2))];all_goals rfl
 ·rw [ah h1,ah h1];all_goals rfl
theorem mY {l:List Wd} {i:Nat} {x:Wd} (h:l[i]? = some x) (hn:(aD (l.take i)).Nodup) (hz:aN l i x=0):(aD (l.take (i + 1))).Nodup:=by
 refine (mX h hn).2 ?_;unfold aN at hz;by_cases h1:bq x.s=true
 ·rw [ai h1] at hz;by_cases h2:bX (l.take i) x.s=true
  ·rw [ai h2] at hz;simp at hz
  ·simpa using h2
 ·rw [ah h1] at hz;simp at hz
theorem AR (l:List Wd):∀ (d e:Nat),e + d=l.length->(enumP l e)=(0,0)->(aD (l.take e)).Nodup->enumP l l.length=enumL l e (l.drop e)
 | 0,e,hd,hz,hn=>by
  have:e=l.length:=by omega
  subst this;rw [hz,List.drop_length];all_goals rfl
 | d + 1,e,hd,hz,hn=>by
  obtain ⟨x,hx⟩:∃ x,l[e]? = some x:=⟨_,gE (by omega)⟩;have h1:=xI (by rw [hz]) hx;rw [AQ x.a hx hn] at h1;rw [drop_cons hx];simp only [enumL];by_cases hf:aN l e x≠0
  ·rw [ai hf] at h1 ⊢;have bd:=qm (l:=l) (e:=e + 1) (by rw [h1];exact hf) d;rw [show e + 1 + d=l.length by omega] at bd;rw [bd,h1]
  ·rw [ah hf] at h1 ⊢;exact AR l d (e + 1) (by omega) h1 (mY hx hn (sU hf))
theorem NV (h:Hd):od h=jt h:=by
 unfold od jt;by_cases h0:h.af=[]
 ·rw [ai h0,ai (by simp [h0])]
 ·rw [ah h0,ah (sU h0)];by_cases h1:64 < h.af.length
  ·rw [ai h1,ai h1]
  ·rw [ah h1,ah h1];have:=AR h.af h.af.length 0 (by omega) rfl (by simp [aD]);simpa using this
def om (p:Ph):Ph:=⟨p.name,true,[],0,0,0,0,[]⟩
theorem Q6 (p:Ph) (t:Ty):dG p t (om p) cA=(cf p fQ && sameTy t cA):=by
 have e:cf p (om p)=cf p fQ:=rfl;unfold dG;rw [e];have e2:decide (p.name.s=(om p).name.s)=true:=decide_eq_true rfl;rw [e2,Bool.true_and]
theorem empty_eq (p:Ph):dG p cA fx cA=(decide (p.name.s=az) && cf p fx):=by
 have e:sameTy cA cA=true:=by simp [cA,M9,sameTy,lK,samePts,sameWds]
 simp only [dG,e,Bool.and_true];rfl
def dz (L:List ByteArray) (s:ByteArray):Option Nat:=bS (fun i=>decide (L[i]? = some s)) L.length
theorem dH {L:List ByteArray} {s:ByteArray} {p:Nat} (h:dz L s=some p):p < L.length/\L[p]? = some s/\∀ j,L[j]? = some s->p<=j:=by
 obtain ⟨h1,h2,h3⟩:=cL h;refine ⟨h1,by simpa using h2,fun j hj=>?_⟩;rcases Nat.lt_or_ge j p with h4 | h4
 ·have:=h3 j h4;simp [hj] at this
 ·exact h4
theorem CN {L:List ByteArray} {s:ByteArray} {p:Nat} (h1:L[p]? = some s) (h2:∀ j,L[j]? = some s->p<=j):dz L s=some p:=by
 refine bI (gS h1).1 (sU h1) fun a ha=>?_;simp only [decide_eq_false_iff_not];intro h3;have:=h2 a h3;omega
theorem tB {L:List ByteArray} {s:ByteArray} (h:∀ j:Nat,L[j]? ≠ some s):dz L s=none:=bU fun a _=>by simpa using h a
theorem zT {L:List ByteArray} {s:ByteArray}:dz L s=none↔s ∉ L:=by
 constructor
 ·intro h hm;obtain ⟨j,hj⟩:=List.mem_iff_getElem?.1 hm;unfold dz bS at h;rw [List.find?_eq_none] at h;have:=h j (by simpa using (gS hj).1);simp [hj] at this
 ·intro h;exact tB fun j hj=>h (mG hj)
theorem jz (L:List ByteArray) (aO:List Nat) (s:ByteArray) (hT:iV L aO) (hl:aO.length<=1099511627776) :
  aV prog 98 [.pt (dC L aO) 0,.v (.string s)] (NP (dz L s)):=by
 by_cases hm:s∈L
 ·obtain ⟨j,hj⟩:=List.mem_iff_getElem?.1 hm;obtain ⟨q,p,hq,hp⟩:=hT.all j s hj;rw [CN hp fun j' gB=>hT.fst q p j' s hq hp gB];exact find_spec L aO s q p hT hl hq hp
 rw [tB fun j hj=>hm (mG hj)]
 let pr:Nat->Prop:=fun i=>i=aO.length∨∃ p t,aO[i]? = some p/\L[p]? = some t/\zQ t s=false
 obtain ⟨m,kp,L2⟩:=least (p:=pr) ⟨aO.length,.inl rfl⟩;have jP:m<=aO.length:=L2 _ (.inl rfl);refine eG 47 [.tmp 4,.tmp 5] func98 rfl ntmps98 rfl fun _ _ _ _=>?_
 have eK:∀ i:Nat,i < aO.length->aV prog 162 [.v (.int .i64 i),.pt [.pt (dC L aO) 0] 0,.pt [.v (.string s)] 0] (.v (.bool (decide (m<=i)))):=by
  intro i hi;obtain ⟨p',qh⟩:∃ p',aO[i]? = some p':=⟨_,gE hi⟩;obtain ⟨t,ht⟩:∃ t,L[p']? = some t:=⟨_,gE (hT.lt i p' qh)⟩;have:=xx L aO s i p' t qh ht
  have e:(!zQ t s)=decide (m<=i):=by
   by_cases h:m<=i
   ·have:zQ t s=false:=by
     rcases kp with kp | ⟨p,u,h1,h2,h3⟩
     ·omega
     ·rcases Nat.lt_or_eq_of_le h with h4 | h4
      ·have h5:=hT.srt m i p p' u t h4 h1 qh h2 ht;cases h6:zQ t s
       ·rfl
       ·have:=gV h5 h6;unfold zQ at h3;rw [this] at h3;cases h3
      ·subst h4;rw [h1] at qh;simp only [oI] at qh;subst qh;rw [h2] at ht;simp only [oI] at ht;subst ht;exact h3
    simp [this,h]
   ·have:zQ t s=true:=by
     cases h6:zQ t s
     ·exact absurd (L2 i (.inr ⟨p',t,qh,ht,h6⟩)) h
     ·rfl
    simp [this,h]
  rw [e] at this;exact this
 have hS:=uM 162 S2 [.pt [.pt (dC L aO) 0] 0,.pt [.v (.string s)] 0] aO.length m hl jP ax rfl eK;refine Cq S1 hS (gU (bi aO)) rfl ?_;refine dI ?_;refine br ?_ ?_<;>intro h
 ·have au:m < aO.length:=by
   have:decide ((m:Int)=((dInts aO).length:Int))=false:=sU h;simp [bi] at this;omega
  rcases kp with kp | ⟨p,t,h1,h2,h3⟩
  ·omega
  refine iX (aG h1) ?_;refine iX (iG h2) ?_;refine br ?_ ?_<;>intro h4
  ·exact ⟨_,ax,rfl⟩
  ·exfalso
   have hts:t=s:=by
    simp [ay] at h4;exact h4
   exact hm (hts ▸ mG h2)
 ·exact ⟨_,ax,rfl⟩
def gN (l:List Wd) (o:List (Wd × Wd)):Ft:=
 if l=[] then (15,0)
 else if 32 < l.length then (8,((l[32]?).getD (⟨az,0⟩:Wd)).a)
 else if 256 < o.length then (8,((o[256]?).getD ((⟨az,0⟩,⟨az,0⟩):Wd × Wd)).1.a)
 else (0,0)
theorem KZ (l:List Wd) (o:List (Wd × Wd)):aV prog 86 [.sl 2 (bQ l) none,.sl 4 (nJ o) none] (gN l o).d:=by
 refine eG 30 [.cell 4 45] func86 rfl ntmps86 rfl fun _ _ _ _=>?_;refine br ?_ ?_<;>intro h
 ·have h:l=[]:=by simpa [aC] using h
  refine ⟨_,?_,rfl⟩;rw [gN,ai h];exact ax
 have h:¬ l=[]:=by simpa [aC] using h
 refine br ?_ ?_<;>intro h1
 ·have h1:32 < l.length:=by simp [aC] at h1;omega
  obtain ⟨x,hx⟩:∃ x,l[32]? = some x:=⟨_,gE h1⟩;refine ⟨kK x,⟨by omega,bg hx⟩,?_⟩;refine ⟨_,?_,rfl⟩;rw [gN,ah h,ai h1,hx];exact ax
 have h1:¬ 32 < l.length:=by simp [aC] at h1;omega
 refine br ?_ ?_<;>intro h2
 ·have h2:256 < o.length:=by simp [gM] at h2;omega
  obtain ⟨x,hx⟩:∃ x,o[256]? = some x:=⟨_,gE h2⟩;refine ⟨Mb x,⟨by omega,iJ hx⟩,?_⟩;refine ⟨_,?_,rfl⟩;rw [gN,ah h,ah h1,ai h2,hx];exact ax
 have h2:¬ 256 < o.length:=by simp [gM] at h2;omega
 refine ⟨_,?_,rfl⟩;rw [gN,ah h,ah h1,ah h2];exact ax
def Zi (f:Ft) (L:List ByteArray):DV:=.tup [if f.1=0 then .sl 1 (fp L) none else .v (.slice none 0 0),f.d]
abbrev Tr (l:List Wd) (n e:Nat):St:=
 ⟨[(3,⟨[],.loc 0 0⟩),(4,⟨[],.sl 1 (fp (aD (l.take e))) (some 0)⟩),(7,⟨[],.sl 2 (bQ l) none⟩),(8,⟨[],.v (.int .i64 (bQ l).length)⟩),(9,⟨[],.v (.int .i64 e)⟩)],[[.v (.int .i64 0),.v (.int .i64 0)]],[⟨n,9,1,none⟩]⟩
theorem qv {all:List Wd} {e:Nat} {w:Wd} (h:all[e]? = some w):enumL all e (all.drop e)=if aN all e w≠0 then (aN all e w,w.a) else enumL all (e + 1) (all.drop (e + 1)):=by
 rw [drop_cons h,enumL]
theorem EM (l:List Wd) (hs:wdsWt l<=1099511627776):aV prog 87 [.sl 2 (bQ l) none] (Zi (enumL l 0 l) (aD l)):=by
 have nQ:=bP l;refine eG 36 [.tmp 2,.cell 3 45] func87 rfl ntmps87 rfl fun _ _ _ _=>?_;refine lI (fun j st=>∃ e:Nat,st=Tr l e e/\e<=l.length/\(aD (l.take e)).Nodup/\enumL l 0 l=enumL l e (l.drop e)/\j=l.length - e) ⟨0,rfl,by omega,by simp [aD],rfl,rfl⟩ (fM ⟨0,9,1,none⟩ rfl ⟨_,rfl⟩ rfl wA rfl rfl lX) ?_;rintro j st ⟨e,rfl,he,hnd,aP,rfl⟩;rw [aP];refine br ?_ ?_<;>intro hL
 ·have au:e < l.length:=by simpa [aC] using hL
  obtain ⟨w,hw⟩:=gX au;have Tp:=jo (mG hw);have du:=kr hw;have bd:=qv hw;have zx:=mX hw hnd;have NW:=ql (aD (l.take (e + 1))) (by simp [aD];omega);rw [<- du] at NW;refine ⟨kK w,⟨by omega,bg hw⟩,?_⟩;refine ⟨by simp [cv,aD];omega,⟨by simp [cv,aD,maxLen];omega,by simp [cv,aD];omega⟩,?_⟩;refine cP G9 (jr w.s (by omega)) ?_;refine br ?_ ?_<;>intro hN
  ·have hN:bq w.s=false:=sU hN;have hf:aN l e w=9:=by simp [aN,hN]
   rw [bd,hf,ai (by decide)];refine dS ?_;exact ⟨_,ax,rfl⟩
  ·have hN:bq w.s=true:=sU hN;refine kG U8 rfl NW ax (fun r hr=>?_);obtain ⟨z,rfl,hz⟩:=hr;refine br ?_ ?_<;>intro h2
   ·have h2:0<=z:=sU h2
    have hd:bX (l.take e) w.s=true:=by
     cases hd:bX (l.take e) w.s
     ·exact absurd (zx.2 hd) (hz.1 h2)
     ·rfl
    have hf:aN l e w=10:=by simp [aN,hN,hd]
    rw [bd,hf,ai (by decide)];refine dS ?_;exact ⟨_,ax,rfl⟩
   ·have h2:¬ 0<=z:=sU h2;have xd:(aD (l.take (e + 1))).Nodup:=Classical.byContradiction fun hn=>h2 (hz.2 hn);have hf:aN l e w=0:=by simp [aN,hN,zx.1 xd]
    rw [hf,ah (by simp)] at bd;refine ⟨Tr l (e + 1) (e + 1),(aj ⟨_,rfl⟩ wA rfl rfl rfl (wB2 (aK au (by omega)) du)),l.length - (e + 1),by omega,e + 1,rfl,by omega,xd,bd,rfl⟩
 ·have aS:e=l.length:=by
   have:=hL;simp [aC] at this;omega
  have h0:enumL l e (l.drop e)=(0,0):=by rw [aS,List.drop_length];all_goals rfl
  rw [h0];have ht:l.take e=l:=by rw [aS,List.take_length]
  rw [ht];exact ⟨_,ax,rfl⟩
def numF (L:List ByteArray):List (Wd × Wd)->Ft
 | []=>(0,0)
 | p :: r=>if dz L p.1.s=none then (17,p.1.a) else if dz L p.2.s=none then (17,p.2.a) else numF L r
def Vq (L:List ByteArray) (p:Wd × Wd):Nat × Nat:=((dz L p.1.s).getD 0,(dz L p.2.s).getD 0)
def dV (L:List ByteArray) (o:List (Wd × Wd)):List (Nat × Nat):=o.map (Vq L)
def Zj (f:Ft) (l:List (Nat × Nat)):DV:=.tup [if f.1=0 then .sl 2 (mT l) none else .v (.slice none 0 0),f.d]
theorem AS {L:List ByteArray} {o:List (Wd × Wd)} {e a b:Nat} {x:Wd × Wd} (h:o[e]? = some x) (ha:dz L x.1.s=some a) (hb:dz L x.2.s=some b):mT (dV L (o.take e)) ++ [[DV.v (.int .i64 (a:Int)),DV.v (.int .i64 (b:Int))]]=mT (dV L (o.take (e + 1))):=by
 rw [List.take_add_one,h];simp [mT,dV,Vq,ha,hb,dNP]
abbrev Ts (L:List ByteArray) (aO:List Nat) (o:List (Wd × Wd)) (n e:Nat):St:=
 ⟨[(0,⟨[],.pt (dC L aO) 0⟩),(5,⟨[],.loc 0 0⟩),(6,⟨[],.sl 2 (mT (dV L (o.take e))) (some 0)⟩),(12,⟨[],.sl 4 (nJ o) none⟩),(13,⟨[],.v (.int .i64 (nJ o).length)⟩),(14,⟨[],.v (.int .i64 e)⟩)],[[.v (.int .i64 0),.v (.int .i64 0)]],[⟨n,225,2,none⟩]⟩
theorem zU (L:List ByteArray) (aO:List Nat) (hT:iV L aO) (hl:aO.length<=1099511627776) (o:List (Wd × Wd)) (hs:prsWt o<=1099511627776) :
  aV prog 89 [.pt (dC L aO) 0,.sl 4 (nJ o) none] (Zj (numF L o) (dV L o)):=by
 have nQ:=jv o;refine eG 55 [.tmp 4,.cell 5 45] func89 rfl ntmps89 rfl fun _ _ _ _=>?_;refine lI (fun j st=>∃ e:Nat,st=Ts L aO o e e/\e<=o.length/\numF L o=numF L (o.drop e)/\j=o.length - e) ⟨0,rfl,by omega,rfl,rfl⟩ (fM ⟨0,225,2,none⟩ rfl ⟨_,rfl⟩ rfl wA rfl rfl lX) ?_;rintro j st ⟨e,rfl,he,aP,rfl⟩;rw [aP];refine br ?_ ?_<;>intro hL
 ·have au:e < o.length:=by simpa [gM] using hL
  obtain ⟨w,hw⟩:=gX au;have bd:numF L (o.drop e)=if dz L w.1.s=none then (17,w.1.a) else if dz L w.2.s=none then (17,w.2.a) else numF L (o.drop (e + 1)):=by rw [drop_cons hw,numF]
  have hf1:=jz L aO w.1.s hT hl;have hf2:=jz L aO w.2.s hT hl;refine ⟨Mb w,⟨by omega,iJ hw⟩,?_⟩
  cases ha:dz L w.1.s with
  | none=>
   rw [ha] at hf1;refine cP xj hf1 ?_;rw [bd,ai ha];refine dS ?_;exact ⟨_,ax,rfl⟩
  | some a=>
   rw [ha] at hf1;refine cP xj hf1 ?_
   cases hb:dz L w.2.s with
   | none=>
    rw [hb] at hf2;refine cP xj hf2 ?_;rw [bd,ah (by rw [ha];simp),ai hb];refine dS ?_;exact ⟨_,ax,rfl⟩
   | some b=>
    rw [hb] at hf2;refine cP xj hf2 ?_;rw [ah (by rw [ha];simp),ah (by rw [hb];simp)] at bd;refine ⟨by simp [iL,dV];omega,⟨by simp [iL,dV,maxLen];omega,by simp [iL,dV];omega⟩,?_⟩;refine ⟨Ts L aO o (e + 1) (e + 1),(aj ⟨_,rfl⟩ wA rfl rfl rfl (wB2 (aK au (by omega)) (AS hw ha hb))),o.length - (e + 1),by omega,e + 1,rfl,by omega,bd,rfl⟩
 ·have aS:e=o.length:=by
   have:=hL;simp [gM] at this;omega
  have h0:numF L (o.drop e)=(0,0):=by rw [aS,List.drop_length];all_goals rfl
  rw [h0];have ht:o.take e=o:=by rw [aS,List.take_length]
  rw [ht];exact ⟨_,ax,rfl⟩
end Go.Proofs.YtadhpeooehkklaaGreat
