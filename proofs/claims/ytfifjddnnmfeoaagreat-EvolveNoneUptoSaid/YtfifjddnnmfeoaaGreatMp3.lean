/- Part 3 of the proof: names.New: the table; names.Twice: does a text stand earlier, too?; Contracts: the reference's words, Plain, Same, Zero, own; Contracts: the reference's Same, Zero, own; Contracts: the reference's Label, listed, names, Size, with, coarse; What is wrong with a type: the plain function; the reference's Wrong and parts return it; The program's checks of types: bad, listed, label, words; The program's checks of types: label, coarse; The program's comparing of names and types; The program's Same; The program's own, empty; The program's empty, enum; kinds.Right, once the checker's check is known; Numbers in tens: the reference's Put; Numbers in tens: the program's Put; The text of a type, plain; the reference's Label and comma; The reference's text of a type: Label, comma, part, Type; The reference's text of a part; The reference's text of a type; The library's strings.Join, laid at this program by the kit's tool (lay-plain; wip/tools/lay.sh); The program's text of a label, of what stands behind a part's type, of lists; The program's text of a type: field, tag, kind; unparse.Type, once the checker's check is known; A type with which nothing is wrong is fine for its text; Readable data as data of the evaluator: what the statement's form reads of an argument is a datum of the evaluator, of the argument's type, no heavier than what was read; What is read of a type, as the plain data; From a contract over data to what a law's statement asks: the arguments are read, the call returns true, all that was there stays; What all laws' frames share: the bulk, the program's closed facts; The program's closed facts, each by itself (all at once they ask more memory than a Lean process has); Relations as rows of bits: plain, and rel's functions that read; rel.back: who leads to a thing and is led to by it; rel.New: the rows of a list of pairs; rel.Close: the closure, by rows; The number of bits that are set, as the library reckons it; math/bits.OnesCount64; When two bits are set; rel.Loop: the least thing in a loop; The plain law of closeR: its bits are what is led to; Types without places: plain, and the program's kinds.Strip; Schemas: plain, as the evaluator has them, without places; What is read of a schema, as the plain data; The program's and the reference's check of names that must differ; The table's Find, whole; lattice.many, called, numbered; Rules for the evaluator: a call that is handed the caller's first objects and rows; rows whose cells nobody else knows; lattice.best, and the closures of bounds; lattice.bounds: all joins and meets; lattice.Build. No condition. -/
import Derived.Laws.StructEq
import Derived.Shelf.Strings.OnBuilder
import Derived.Deep.Slices
import Derived.ChangeArms
import Derived.DataReads
import Derived.WalkKit
import Derived.ProofKit
import Derived.OpenShut
import Derived.Carry
import Derived.JoinedCond
import Derived.Test.YtfifjddnnmfeoaaGreatRows
import Derived.Test.YtfifjddnnmfeoaaGreatMp2
set_option linter.all false
set_option maxRecDepth 100000
namespace Go.Proofs.YtfifjddnnmfeoaaGreat
open Go Go.RowKit Dv Tryz
theorem oc {n m:Nat} {tk:List TkE}:∀ ds:List Nat,WeL n m tk (dInts ds).flatten (dInts ds).flatten
 | []=>rfl
 | b :: r=>⟨_,_,rfl,ah rfl,oc r⟩
theorem jH {n m:Nat} {tk:List TkE} {l:List DV} {ds:List Nat} (h:l=(dInts ds).flatten):WeL n m tk l (dInts ds).flatten:=by rw [h];exact oc ds
def dj (n e:Nat):List Nat:=List.range e ++ List.replicate (n - e) 0
theorem vF {n e:Nat} (h:e<=n):(dj n e).length=n:=by simp [dj];omega
theorem fillA_0 (n:Nat):(List.replicate n [DV.v (.int .i64 0)]).flatten=(dInts (dj n 0)).flatten:=by simp [dj,dInts]
theorem AM (n:Nat):dj n n=List.range n:=by simp [dj]
theorem im (ds:List Nat):(dInts ds).flatten=ds.map fun (i:Nat)=>DV.v (.int .i64 (i:Int)):=by
 induction ds with
 | nil=>rfl
 | cons x r ih=>simp only [dInts,List.map_cons,List.flatten_cons] at ih ⊢;rw [ih];all_goals rfl
theorem sX {n e:Nat} (h:e < n):(dInts (dj n e)).flatten.take e ++ [DV.v (.int .i64 (e:Int))] ++ (dInts (dj n e)).flatten.drop (e + 1)=(dInts (dj n (e + 1))).flatten:=by
 simp only [im,<- List.map_take,<- List.map_drop];have e1:(dj n e).take e=List.range e:=by simp [dj]
 have e2:(dj n e).drop (e + 1)=List.replicate (n - (e + 1)) 0:=by
  simp only [dj,List.drop_append,List.length_range];rw [List.drop_eq_nil_of_le (by simp),List.nil_append,List.drop_replicate];congr 1;omega
 rw [e1,e2];simp [dj,List.range_succ]
abbrev sY (L:List ByteArray) (e:Nat):St:=
 ⟨[(3,⟨[],.loc 1 0⟩),(4,⟨[],.loc 3 0⟩),(16,⟨[],.v (.int .i64 (bV L).length)⟩),(17,⟨[],.v (.int .i64 e)⟩)],
  [[.sl 1 (bV L) (some 0),.v (.slice none 0 0)],[.loc 0 0],(dInts (dj (bV L).length e)).flatten,[.ms 2 1 0 (bV L).length (bV L).length]],[⟨(bV L).length,9,1,none⟩]⟩
def cG (L:List ByteArray) (ds:List Nat) (i:Nat):Bool:=decide (i=0) || !decide (L.getD (ds.getD i 0) aE=L.getD (ds.getD (i - 1) 0) aE)
def cu (L:List ByteArray) (ds:List Nat) (e:Nat):List Nat:=((List.range e).filter (cG L ds)).map fun i=>ds.getD i 0
theorem mr (L:List ByteArray) (ds:List Nat) (e:Nat):cu L ds (e + 1)=cu L ds e ++ (if cG L ds e=true then [ds.getD e 0] else []):=by
 unfold cu;rw [List.range_succ,List.filter_append,List.map_append];congr 1;cases h:cG L ds e<;>simp [h]
theorem vG (L:List ByteArray) (ds:List Nat) (e:Nat):(cu L ds e).length<=e:=by
 unfold cu;rw [List.length_map];exact Nat.le_trans (List.length_filter_le _ _) (by simp)
abbrev Du (L:List ByteArray) (ds:List Nat):St:=
 ⟨[(3,⟨[],.loc 1 0⟩),(4,⟨[],.pt [.sl 1 (dInts ds) none] 0⟩),(29,⟨[],.sl 1 (dInts ds) none⟩),(30,⟨[],.v (.int .i64 (bV L).length)⟩),(31,⟨[],.v (.int .i64 0)⟩)],
  [[.sl 1 (bV L) (some 0),.v (.slice none 0 0)],[.loc 0 0]],[⟨(bV L).length,9,1,none⟩]⟩
abbrev q7 (L:List ByteArray) (ds ak:List Nat) (m e:Nat):St:=
 ⟨[(3,⟨[],.loc 1 0⟩),(4,⟨[],.pt [.sl 1 (dInts ds) none] 0⟩),(29,⟨[],.sl 1 (dInts ds) none⟩),(30,⟨[],.v (.int .i64 (bV L).length)⟩),(31,⟨[],.v (.int .i64 e)⟩)],
  [[.sl 1 (bV L) (some 0),.sl 1 (dInts ak) (some 1)],[.loc 0 0]],[⟨(bV L).length,9,1,none⟩,⟨m,3,1,none⟩]⟩
theorem getD_some {α:Type} {l:List α} {i:Nat} {x d:α} (h:l[i]? = some x):l.getD i d=x:=by simp [List.getD_eq_getElem?_getD,h]
theorem kp {α:Type} {l:List α} {i:Nat} {d:α} (h:i < l.length):l[i]? = some (l.getD i d):=by
 rw [gE h,List.getD_eq_getElem?_getD,gE h];all_goals rfl
theorem Dx {L:List ByteArray} {ds:List Nat} (iD:ds.Perm (List.range L.length)) (vC:∀ i j p q:Nat,i < j->ds[i]? = some p->ds[j]? = some q->qi L q p=false):di L (cu L ds L.length):=by
 have hlen:ds.length=L.length:=by rw [iD.length_eq,List.length_range]
 let D:Nat->Nat:=fun i=>ds.getD i 0
 let T:Nat->ByteArray:=fun i=>L.getD (D i) aE
 have hD:∀ i,i < L.length->ds[i]? = some (D i):=fun i hi=>kp (by omega)
 have Ld:∀ i,i < L.length->D i < L.length:=fun i hi=>by
  have:=iD.mem_iff.1 (mG (hD i hi));exact List.mem_range.1 this
 have hT:∀ i,i < L.length->L[D i]? = some (T i):=fun i hi=>kp (Ld i hi)
 have fL:∀ i j,i < j->j < L.length->T i=T j∨nE (T i) (T j)=true:=by
  intro i j gv hj;have h:=vC i j (D i) (D j) gv (hD i (by omega)) (hD j hj);unfold qi at h;by_cases he:T j=T i
  ·exact .inl he.symm
  ·rw [if_neg he] at h;rcases uJ h with h | h
   ·exact absurd h he
   ·exact .inr h
 have Cf:∀ i,i < L.length->cG L ds i=true->∀ j,j < i->nE (T j) (T i)=true:=by
  intro i hi hh j CO
  have aT:T i≠T (i - 1):=by
   intro he;unfold cG at hh;have:decide (i=0)=false:=by simp;omega
   rw [this] at hh;simp only [Bool.false_or,Bool.not_eq_true',decide_eq_false_iff_not] at hh;exact hh he
  have h1:nE (T (i - 1)) (T i)=true:=by
   rcases fL (i - 1) i (by omega) hi with h | h
   ·exact absurd h.symm aT
   ·exact h
  by_cases hj:j=i - 1
  ·rw [hj];exact h1
  ·rcases fL j (i - 1) (by omega) (by omega) with h | h
   ·rw [h];exact h1
   ·exact cJ h h1
 have nX:∀ j,j < L.length->∃ k,k < L.length/\D k=j:=by
  intro j hj;have:=iD.mem_iff.2 (List.mem_range.2 hj);obtain ⟨k,hk⟩:=List.getElem?_of_mem this;have sK:=(gS hk).1;exact ⟨k,by omega,getD_some hk⟩
 let H:=(List.range L.length).filter (cG L ds)
 have hH:∀ (a i:Nat),H[a]? = some i->i < L.length/\cG L ds i=true:=fun a i h=>by
  have:=mG h;simp only [H,List.mem_filter,List.mem_range] at this;exact this
 have vH:∀ (a p:Nat),(cu L ds L.length)[a]? = some p->∃ i,H[a]? = some i/\D i=p:=by
  intro a p h;unfold cu at h;rw [List.getElem?_map] at h
  cases hh:H[a]? with
  | none=>rw [show (List.filter (cG L ds) (List.range L.length))[a]? = none from hh] at h;cases h
  | some i=>
   rw [show (List.filter (cG L ds) (List.range L.length))[a]? = some i from hh] at h;simp only [Option.map_some,oI] at h;exact ⟨i,rfl,h⟩
 have Jx:∀ (a b i k:Nat),a < b->H[a]? = some i->H[b]? = some k->i < k:=by
  intro a b i k qg hi hk;have hp:List.Pairwise (·< ·) H:=List.Pairwise.filter _ List.pairwise_lt_range;obtain ⟨ha,rfl⟩:=List.getElem?_eq_some_iff.1 hi;obtain ⟨hb,rfl⟩:=List.getElem?_eq_some_iff.1 hk;exact List.pairwise_iff_getElem.1 hp a b ha hb qg
 refine ⟨?_,?_,?_,?_⟩
 ·intro a p h;obtain ⟨i,hi,rfl⟩:=vH a p h;exact Ld i (hH a i hi).1
 ·intro a b p q s t qg hp hq hs ht;obtain ⟨i,hi,rfl⟩:=vH a p hp;obtain ⟨k,hk,rfl⟩:=vH b q hq;rw [hT i (hH a i hi).1] at hs;rw [hT k (hH b k hk).1] at ht;simp only [oI] at hs ht;rw [<- hs,<- ht];exact Cf k (hH b k hk).1 (hH b k hk).2 i (Jx a b i k qg hi hk)
 ·intro a p j s hp hs hj;obtain ⟨i,hi,rfl⟩:=vH a p hp;obtain ⟨ye,sr⟩:=hH a i hi;obtain ⟨k,hk,rfl⟩:=nX j (gS hj).1;rw [hT i ye] at hs;rw [hT k hk] at hj;simp only [oI] at hs hj;rcases Nat.lt_trichotomy k i with h | h | h
  ·have:=Cf i ye sr k h;rw [hs,hj,nE,fb] at this;cases this
  ·rw [h];exact Nat.le_refl _
  ·have h2:=vC i k (D i) (D k) h (hD i ye) (hD k hk);unfold qi at h2
   have he:L.getD (D k) aE=L.getD (D i) aE:=by
    show T k=T i;rw [hj,hs]
   rw [if_pos he] at h2;simp at h2;omega
 ·intro j s hj;obtain ⟨k,hk,rfl⟩:=nX j (gS hj).1;rw [hT k hk] at hj;simp only [oI] at hj;obtain ⟨i,⟨ye,Le⟩,Jy⟩:=least (p:=fun i=>i < L.length/\T i=s) ⟨k,hk,hj⟩
  have sr:cG L ds i=true:=by
   unfold cG;by_cases h0:i=0
   ·simp [h0]
   ·have aT:¬ T i=T (i - 1):=fun he=>by
     have:=Jy (i - 1) ⟨by omega,by rw [<- he];exact Le⟩;omega
    have e1:decide (L.getD (ds.getD i 0) aE=L.getD (ds.getD (i - 1) 0) aE)=false:=decide_eq_false aT;rw [e1];simp
  have hm:i∈H:=by simp only [H,List.mem_filter,List.mem_range];exact ⟨ye,sr⟩
  obtain ⟨a,ha⟩:=List.getElem?_of_mem hm;refine ⟨a,D i,?_,by rw [hT i ye,Le]⟩;unfold cu;rw [List.getElem?_map];rw [show (List.filter (cG L ds) (List.range L.length))[a]? = some i from ha];rfl
theorem mv (L:List ByteArray) (hl:L.length<=1099511627776) :
  Ev Tryz.prog 96 [.sl 1 (bV L) none] [] [] (fun r _ _=>∃ ak,di L ak/\ak.length<=L.length/\r = .pt (bA L ak) 0):=by
 have hN:=aX L;refine ev_go (P:=Tryz.prog) tt tt_ok 5000 71 [.tmp 2] Tryz.func96 rfl Tryz.ntmps96 rfl (nL rfl) (fun E9 w9 hn9 hm9=>?_);refine ⟨⟨by simp [hN,maxLen];omega,by simp [hN];omega⟩,?_⟩;refine ⟨⟨rfl,by omega,by omega,by omega⟩,?_⟩;refine aF (fun j st=>∃ e:Nat,st=sY L e/\e<=L.length/\j=L.length - e) L.length (sY L 0) (bw 4 rfl (by repeat' (first | exact rfl | exact ah rfl | exact jH (fillA_0 _) | refine ⟨_,_,rfl,?_,?_⟩)) rfl rfl rfl (by repeat' (first | exact trivial | exact ah rfl | exact jH (fillA_0 _) | refine ⟨⟨_,rfl,?_⟩,?_⟩))) ⟨0,rfl,by omega,rfl⟩ ?_;rintro j st ⟨e,rfl,he,rfl⟩;refine br (fun h=>?_) (fun h=>?_)
 ·have av:e < (bV L).length:=by simpa using h
  refine ⟨⟨by omega,by omega⟩,?_⟩;have e1:(dInts (dj (bV L).length e)).flatten.length=(bV L).length:=by rw [im,List.length_map,vF (by omega)]
  refine ⟨by rw [e1];omega,?_⟩
  have bK:(dInts (dj (bV L).length e)).flatten.set (0 + (e:Int).toNat * 1) (DV.v (.int .i64 (e:Int)))=(dInts (dj (bV L).length (e + 1))).flatten:=by
   rw [show 0 + (e:Int).toNat * 1=e by omega,List.set_eq_take_append_cons_drop,if_pos (by rw [e1];omega),<- sX av];simp
  refine ⟨sY L (e + 1),(bw 4 rfl (by repeat' (first | exact rfl | exact ah rfl | exact jH bK | exact ap (ei av (by omega)) | refine ⟨_,_,rfl,?_,?_⟩)) rfl rfl rfl (by repeat' (first | exact trivial | exact ah rfl | exact jH bK | exact ap (ei av (by omega)) | refine ⟨⟨_,rfl,?_⟩,?_⟩))),L.length - (e + 1),by omega,e + 1,rfl,by omega,rfl⟩
 ·have ch:e=(bV L).length:=by
   have:¬ e < (bV L).length:=by simpa using h
   omega
  subst ch;rw [AM]
  have Lf:∀ dk:List Nat,dk.length=(List.range (bV L).length).length->∀ bx:List (List DV),bx[2]? = some (dInts dk).flatten->∀ N0 n0 m0:Nat,N0<=2->Cc bx N0 n0 m0 (.sl 1 (dInts dk) none) (.ms 2 1 0 (bV L).length (bV L).length):=by
   intro dk HV bx hb N0 n0 m0 hN0;simp only [Cc];refine Or.inr (Or.inr (Or.inl ⟨2,0,(bV L).length,_,?_,hN0,hb,?_,?_,?_⟩))
   ·rw [ba,HV,List.length_range]
   ·rw [List.drop_zero,List.take_of_length_le];rw [im,List.length_map,ba];omega
   ·intro x hx;simp only [dInts,List.mem_map] at hx;obtain ⟨_,_,rfl⟩:=hx;rfl
   ·intro x hx;rw [im] at hx;obtain ⟨_,_,rfl⟩:=List.mem_map.1 hx;exact .inl ⟨_,rfl⟩
  refine vB (ds:=List.range (bV L).length) rfl (by simp) (bV L).length (fun p hp=>List.mem_range.1 hp) (qi L) (AH L) rfl (by simp [hN];omega)
   (fun dk=>[.pt [.sl 1 (dInts dk) none] 0,.pt [.pt [.sl 1 (bV L) none,.v (.slice none 0 0)] 0] 0])
   (fun dk HV=>⟨_,_,rfl,Or.inr ⟨3,_,rfl,Nat.zero_le _,rfl,⟨_,_,rfl,Lf dk HV _ rfl 0 0 0 (Nat.zero_le _),rfl⟩⟩,ax⟩)
   (fun dk HV hp i j p q hi hj=>vA L dk i j p q hi hj (by have:=hp p (mG hi);omega) (by have:=hp q (mG hj);omega)) rfl (fun ds iD vC=>?_)
  have Et:ds.length=(bV L).length:=by rw [iD.length_eq,List.length_range]
  have Gp:=Lf ds (by rw [Et,List.length_range])
  refine xV 2 (Du L ds) rfl rfl rfl ⟨_,_,rfl,⟨_,_,rfl,⟨nL rfl,rfl⟩,_,_,rfl,rfl,rfl⟩,_,_,rfl,⟨_,_,rfl,⟨nL rfl,rfl⟩,rfl⟩,rfl⟩
   ⟨⟨_,rfl,⟨nL rfl,rfl⟩⟩,⟨_,rfl,Or.inr ⟨3,_,rfl,by decide,rfl,⟨_,_,rfl,Gp _ rfl 2 0 0 (by decide),rfl⟩⟩⟩,⟨_,rfl,Gp _ rfl 2 2 1 (by decide)⟩,⟨_,rfl,rfl⟩,⟨_,rfl,rfl⟩,trivial⟩ ?_
  refine aF (fun j st=>∃ e m:Nat,st=q7 L ds (cu L ds e) m e/\m=(cu L ds e).length/\e<=(bV L).length/\j=(bV L).length - e) (bV L).length (q7 L ds [] 0 0)
   (ij 2 ⟨0,3,1,none⟩ rfl rfl rfl wTA rfl rfl wB) ⟨0,0,rfl,rfl,by omega,by omega⟩ ?_
  rintro j st ⟨e,m,rfl,hm,he,rfl⟩;have fj:=vG L ds e;refine br (fun h=>?_) (fun h=>?_)
  ·have av:e < (bV L).length:=by simpa using h
   obtain ⟨p,hp⟩:∃ p,ds[e]? = some p:=⟨_,gE (by omega)⟩
   have hpL:p < L.length:=by
    have:=iD.mem_iff.1 (mG hp);rw [List.mem_range] at this;omega
   obtain ⟨s,hs⟩:∃ s,L[p]? = some s:=⟨_,gE hpL⟩;refine ⟨_,⟨by omega,cx hp⟩,?_⟩;have Lg:ds.getD e 0=p:=by simp [List.getD_eq_getElem?_getD,hp]
   have sx:L.getD p aE=s:=by simp [List.getD_eq_getElem?_getD,hs]
   have bZ:cG L ds e=true->cu L ds (e + 1)=cu L ds e ++ [p]:=fun hh=>by rw [mr,if_pos hh,Lg]
   have hold:cG L ds e=false->cu L ds (e + 1)=cu L ds e:=fun hh=>by rw [mr,if_neg (by rw [hh];decide),List.append_nil]
   have uK:cG L ds e=true->dInts (cu L ds e) ++ [[DV.v (.int .i64 (p:Int))]]=dInts (cu L ds (e + 1)):=fun hh=>by rw [bZ hh];simp [dInts]
   by_cases h0:e=0
   ·subst h0;have hh:cG L ds 0=true:=by simp [cG]
    refine cw (fun _=>false) mo (by decide +kernel) ?_;refine aV mo (by decide +kernel) ?_;refine ⟨by rw [ba,hm],⟨by simp [ba,maxLen];omega,by simp [ba];omega⟩,?_⟩;refine ⟨q7 L ds (cu L ds 1) (m + 1) 1,(bw 2 rfl (by repeat' (first | exact rfl | exact ah rfl | exact ap (ei av (by omega)) | exact gw (uK hh) rfl | refine ⟨_,_,rfl,?_,?_⟩)) rfl rfl rfl (by repeat' (first | exact trivial | exact ah rfl | exact ap (ei av (by omega)) | exact gw (uK hh) rfl | refine ⟨⟨_,rfl,?_⟩,?_⟩))),(bV L).length - 1,by omega,1,m + 1,rfl,by rw [bZ hh,List.length_append,hm];rfl,by omega,rfl⟩
   ·obtain ⟨p',jC⟩:∃ p',ds[e - 1]? = some p':=⟨_,gE (by omega)⟩
    have Jz:p' < L.length:=by
     have:=iD.mem_iff.1 (mG jC);rw [List.mem_range] at this;omega
    obtain ⟨s',Lh⟩:∃ s',L[p']? = some s':=⟨_,gE Jz⟩;have JA:ds.getD (e - 1) 0=p':=by simp [List.getD_eq_getElem?_getD,jC]
    have JB:L.getD p' aE=s':=by simp [List.getD_eq_getElem?_getD,Lh]
    have Li:cG L ds e = !decide (s=s'):=by
     unfold cG;rw [Lg,JA,sx,JB];simp [h0]
    have hz:IntKind.i64.wrap ((e:Int) - 1)=((e - 1:Nat):Int):=by rw [wrap64 (by omega) (by omega)];omega
    refine cw (fun _=>false) mo (by decide +kernel) ?_;refine br (fun _=>?_) (fun h=>?_)
    ·refine ⟨_,⟨by omega,cT hs⟩,?_⟩;refine ⟨[.v (.int .i64 (p':Int))],⟨by rw [hz];omega,by rw [hz];exact cx jC⟩,?_⟩;refine ⟨_,⟨by omega,cT Lh⟩,?_⟩;refine br (fun h2=>?_) (fun h2=>?_)
     ·have hh:cG L ds e=true:=by
       rw [Li];simp [aH,h0] at h2;simpa using h2
      refine aV mo (by decide +kernel) ?_;refine ⟨by rw [ba,hm],⟨by simp [ba,maxLen];omega,by simp [ba];omega⟩,?_⟩;refine ⟨q7 L ds (cu L ds (e + 1)) (m + 1) (e + 1),(bw 2 rfl (by repeat' (first | exact rfl | exact ah rfl | exact ap (ei av (by omega)) | exact gw (uK hh) rfl | refine ⟨_,_,rfl,?_,?_⟩)) rfl rfl rfl (by repeat' (first | exact trivial | exact ah rfl | exact ap (ei av (by omega)) | exact gw (uK hh) rfl | refine ⟨⟨_,rfl,?_⟩,?_⟩))),(bV L).length - (e + 1),by omega,e + 1,m + 1,rfl,by rw [bZ hh,List.length_append,hm];rfl,by omega,rfl⟩
     ·have hh:cG L ds e=false:=by
       rw [Li];simp [aH,h0] at h2;simpa using h2
      have bd:dInts (cu L ds e)=dInts (cu L ds (e + 1)):=by rw [hold hh]
      refine ⟨q7 L ds (cu L ds (e + 1)) m (e + 1),(bw 2 rfl (IJ av bd) rfl rfl rfl (Ej av bd)),(bV L).length - (e + 1),by omega,e + 1,m,rfl,by rw [hold hh,hm],by omega,rfl⟩
    ·exfalso;have:decide ((e:Int)=0)=true:=by simpa using h
     simp at this;exact h0 this
  ·have ch:e=L.length:=by
    have:¬ e < (bV L).length:=by simpa using h
    omega
   subst ch;exact ⟨.pt (bA L (cu L ds L.length)) 0,Or.inr ⟨0,_,rfl,Nat.zero_le _,rfl,ax⟩,_,Dx (by rw [<- hN];exact iD) vC,fj,rfl⟩
abbrev Dy (L:List ByteArray) (ak:List Nat) (e:Nat):St:=
 ⟨[(3,⟨[],.pt (bA L ak) 0⟩),(10,⟨[],.sl 1 (bV L) none⟩),(11,⟨[],.v (.int .i64 (bV L).length)⟩),(12,⟨[],.v (.int .i64 e)⟩)],[],[]⟩
theorem yf {α:Type}:∀ {l:List α},(∀ (i j:Nat) (x:α),j < i->l[i]? = some x->l[j]? ≠ some x)->l.Nodup
 | l,h=>by
  rw [List.nodup_iff_pairwise_ne,List.pairwise_iff_getElem];intro i j hi hj gv he;exact h j i l[j] gv (gE hj) (by rw [gE hi,he])
theorem iT (L:List ByteArray) (hl:L.length<=1099511627776) :
  Ev Tryz.prog 103 [.sl 1 (bV L) none] [] [] (fun r _ _=>∃ z:Int,r = .v (.int .i64 z)/\(0<=z↔¬ L.Nodup)):=by
 have hN:=aX L;refine ev_go (P:=Tryz.prog) tt tt_ok 5000 28 [.tmp 2] Tryz.func103 rfl Tryz.ntmps103 rfl (nL rfl) (fun E9 w9 hn9 hm9=>?_);refine cj Dk rfl (mv L hl) ax (fun r hr=>?_);obtain ⟨ak,hT,fj,rfl⟩:=hr;refine aF (fun j st=>∃ e:Nat,st=Dy L ak e/\e<=L.length/\(∀ (i j:Nat) (x:ByteArray),i < e->j < i->L[i]? = some x->L[j]? ≠ some x)/\j=L.length - e) L.length (Dy L ak 0) (aj ⟨_,rfl⟩ wA rfl rfl rfl wB) ⟨0,rfl,by omega,fun i j x hi=>by omega,rfl⟩ ?_;rintro j st ⟨e,rfl,he,hinv,rfl⟩;refine br (fun h=>?_) (fun h=>?_)
 ·have av:e < L.length:=by simpa [hN] using h
  obtain ⟨s,hs⟩:∃ s,L[e]? = some s:=⟨_,gE av⟩;obtain ⟨q,p,hq,hp⟩:=hT.all e s hs;have bM:=hT.fst q p e s hq hp hs;refine ⟨_,⟨by omega,cT hs⟩,?_⟩;refine call_p mi (find_spec L ak s q p hT (by omega) hq hp) ax rfl ?_;refine br (fun h2=>?_) (fun h2=>?_)
  ·have h2:p < e:=by simpa using h2
   refine ⟨(e:Int),rfl,⟨fun _ hnd=>?_,fun _=>by omega⟩⟩;rw [List.nodup_iff_pairwise_ne,List.pairwise_iff_getElem] at hnd;obtain ⟨h3,h4⟩:=List.getElem?_eq_some_iff.1 hp;obtain ⟨h5,h6⟩:=List.getElem?_eq_some_iff.1 hs;exact hnd p e h3 h5 h2 (by rw [h4,h6])
  ·have h2:¬ p < e:=by simpa using h2
   refine ⟨Dy L ak (e + 1),(aj ⟨_,rfl⟩ wA rfl rfl rfl (pj av)),L.length - (e + 1),by omega,e + 1,rfl,by omega,fun i j x hi hj hx Lj=>?_,rfl⟩;by_cases B8:i=e
   ·subst B8;rw [hs] at hx;simp only [oI] at hx;subst hx;have:=hT.fst q p j s hq hp Lj;omega
   ·exact hinv i j x (by omega) hj hx Lj
 ·have ch:e=L.length:=by
   have:¬ e < L.length:=by simpa [hN] using h
   omega
  subst ch;refine ⟨-1,rfl,⟨fun h3=>by omega,fun h3=>?_⟩⟩;exact absurd (yf fun i j x gv hi hj=>hinv i j x (gS hi).1 gv hi hj) h3
def sameWds:List Wd->List Wd->Bool
 | [],[]=>true
 | x :: r,y :: s=>decide (x.s=y.s) && sameWds r s
 | _,_=>false
def bz (p q:Ph):Bool:=(p.bare == q.bare) && decide (p.wide=q.wide) && sameWds p.label q.label && decide (p.ck=q.ck) && decide (p.cn=q.cn) && sameWds p.cl q.cl
def iU (h k:Hd):Bool:=decide (h.ai=k.ai) && decide (h.lo=k.lo) && decide (h.hi=k.hi) && decide (h.most=k.most) && decide (h.name.s=k.name.s) && sameWds h.af k.af
mutual
def sameTy:Ty->Ty->Bool
 | .mk h ps,.mk k qs=>iU h k && samePts ps qs
def samePts:Pts->Pts->Bool
 | .nil,.nil=>true
 | .cons p t r,.cons q u s=>decide (p.name.s=q.name.s) && bz p q && sameTy t u && samePts r s
 | _,_=>false
end
def yg (h:Hd):Hd:=
 ⟨h.ai,0,if h.ai=2 then h.lo else 0,if h.ai=2 then h.hi else 0,if h.ai=3∨h.ai=5 then h.most else 0,if h.ai=4 then h.af else [],if h.ai=9 then h.name else ⟨aE,0⟩⟩
def mask:Ty->Ty
 | .mk h ps=>.mk (yg h) (if 4 < h.ai/\h.ai < 9 then ps else .nil)
end Go.Proofs.YtfifjddnnmfeoaaGreat
set_option maxRecDepth 100000
namespace Go.Proofs.YtfifjddnnmfeoaaGreat
open Go Go.RowKit Dv Tryz
end Go.Proofs.YtfifjddnnmfeoaaGreat
set_option maxRecDepth 100000
namespace Go.Proofs.YtfifjddnnmfeoaaGreat
open Go Go.RowKit Dv Tryz
abbrev Ft:Type:=Int × Int
def Ft.d (f:Ft):DV:=.agg [.v (.int .i64 f.1),.v (.int .i64 f.2)]
def badWd:List Wd->Ft
 | []=>(0,0)
 | w :: r=>if bf w.s then badWd r else (9,w.a)
def bW (l:List Wd):Ft:=
 if l.length<=32 then badWd l else (8,((l[32]?).getD (⟨aE,0⟩:Wd)).a)
def bX (l:List Wd) (s:ByteArray):Bool:=l.any fun w=>decide (w.s=s)
def aC (l:List Wd) (i:Nat) (x:Wd):Int:=
 if bf x.s then (if bX (l.take i) x.s then 10 else 0) else 9
def pNames:Pts->List Wd
 | .nil=>[]
 | .cons p _ r=>p.name :: pNames r
theorem iV:∀ ps:Pts,(pNames ps).length=ps.len
 | .nil=>rfl
 | .cons p t r=>by simp [pNames,Pts.len,iV r]
theorem gd:∀ {ps:Pts} {j:Nat} {p:Ph} {t:Ty},ps.toList[j]? = some (p,t)->(pNames ps)[j]? = some p.name
 | .nil,j,p,t,h=>by simp [Pts.toList] at h
 | .cons q u r,0,p,t,h=>by
  simp only [Pts.toList,List.getElem?_cons_zero,oI,Prod.mk.injEq] at h;obtain ⟨rfl,rfl⟩:=h;simp [pNames]
 | .cons q u r,j + 1,p,t,h=>by
  simp only [Pts.toList,List.getElem?_cons_succ] at h;simp only [pNames,List.getElem?_cons_succ];exact gd h
theorem od:∀ ps:Pts,wdsWt (pNames ps)<=ps.wt
 | .nil=>Nat.le_refl _
 | .cons p t r=>by
  have:=od r;simp only [pNames,wdsWt,Pts.wt,Ph.wt] at this ⊢;omega
mutual
def Ty.cnt:Ty->Nat
 | .mk _ ps=>1 + ps.cnt
def Pts.cnt:Pts->Nat
 | .nil=>0
 | .cons p t r=>(if p.bare then 0 else t.cnt) + r.cnt
end
mutual
theorem Ty.dr:∀ t:Ty,t.cnt<=t.wt
 | .mk h ps=>by have:=Pts.dr ps;simp only [Ty.cnt,Ty.wt,Hd.wt];omega
theorem Pts.dr:∀ ps:Pts,ps.cnt<=ps.wt
 | .nil=>Nat.le_refl _
 | .cons p t r=>by
  have:=Ty.dr t;have:=Pts.dr r;simp only [Pts.cnt,Pts.wt];split<;>omega
end
def aS (p:Ph):Ft:=
 if p.ck=0 then (if p.cn=0/\p.cl=[] then (0,0) else (19,p.name.a))
 else if p.ck < 0∨3 < p.ck then (14,p.ca)
 else if (p.ck=1/\p.cn < 1)∨(p.ck=2/\(p.cn < 0∨4096 < p.cn))∨(p.ck=3/\p.cn≠0) then (20,p.ca)
 else bW p.cl
def enumL (all:List Wd):Nat->List Wd->Ft
 | _,[]=>(0,0)
 | i,x :: r=>if aC all i x≠0 then (aC all i x,x.a) else enumL all (i + 1) r
def gf (h:Hd):Ft:=
 if h.af=[] then (15,h.dD)
 else if 64 < h.af.length then (8,((h.af[64]?).getD (⟨aE,0⟩:Wd)).a)
 else enumL h.af 0 h.af
def cB (p:Ph):Ft:=
 if p.wide < 0∨64 < p.wide then (20,p.name.a)
 else if (bW p.label).1≠0 then bW p.label
 else aS p
def q8 (t:Ty):Bool:=sameTy t (mask t)
mutual
def wrong:Ty->Int->Int->Ft × Int
 | .mk h ps,depth,m=>
  if 24 < depth then ((6,h.dD),m + 1)
  else if 512 < m + 1 then ((8,h.dD),m + 1)
  else if h.ai < 1∨9 < h.ai then ((14,h.dD),m + 1)
  else if q8 (.mk h ps)=false then ((19,h.dD),m + 1)
  else if (h.ai=2/\h.hi < h.lo)∨(h.ai=3/\(h.most < 0∨4096 < h.most)) then ((20,h.dD),m + 1)
  else if h.ai=9/\bf h.name.s=false then ((9,h.name.a),m + 1)
  else if h.ai=4 then (gf h,m + 1)
  else if h.ai=5∨h.ai=6 then wrongOne h ps depth (m + 1)
  else if h.ai=7∨h.ai=8 then
   if h.ai=8/\ps.len=0 then ((15,h.dD),m + 1)
   else if 64 < ps.len then ((8,(((pNames ps)[64]?).getD (⟨aE,0⟩:Wd)).a),m + 1)
   else wrongPts h.ai (pNames ps) 0 ps depth (m + 1)
  else ((0,0),m + 1)
def wrongOne:Hd->Pts->Int->Int->Ft × Int
 | h,.cons p t .nil,depth,m=>
  if p.name.s≠aE∨bz p cM=false then ((19,h.dD),m)
  else if h.most < 0∨1024 < h.most then ((20,h.dD),m)
  else wrong t (depth + 1) m
 | h,_,_,m=>((19,h.dD),m)
def wrongPts (ai:Int) (all:List Wd):Nat->Pts->Int->Int->Ft × Int
 | _,.nil,_,m=>((0,0),m)
 | i,.cons p t r,depth,m=>
  if aC all i p.name≠0 then ((aC all i p.name,p.name.a),m)
  else if p.bare=true then
   if ai=7∨sameTy t bl=false∨bz p cS=false then ((19,p.name.a),m) else wrongPts ai all (i + 1) r depth m
  else if (cB p).1≠0 then (cB p,m)
  else if (wrong t (depth + 1) m).1.1≠0 then wrong t (depth + 1) m
  else wrongPts ai all (i + 1) r depth (wrong t (depth + 1) m).2
end
def gM (h:Hd) (ps:Pts) (depth m:Int):Ft × Int:=
 if h.ai=8/\ps.len=0 then ((15,h.dD),m)
 else if 64 < ps.len then ((8,(((pNames ps)[64]?).getD (⟨aE,0⟩:Wd)).a),m)
 else wrongPts h.ai (pNames ps) 0 ps depth m
theorem ra (all:List Wd):∀ (l:List Wd) (i:Nat),(enumL all i l).1=0->enumL all i l=(0,0)
 | [],_,_=>rfl
 | x :: r,i,h=>by
  have ih:=ra all r (i + 1);simp only [enumL] at h ⊢;split at h
  ·rename_i hc;exact (hc h).elim
  ·rename_i hc;rw [if_neg hc];exact ih h
theorem oe (h:Hd) (he:(gf h).1=0):gf h=(0,0):=by
 unfold gf at he ⊢;split at he
 ·simp at he
 ·split at he
  ·simp at he
  ·rename_i h1 h2;rw [if_neg h1,if_neg h2];exact ra _ _ _ he
mutual
theorem mw:∀ (t:Ty) (depth m:Int),0<=m->(wrong t depth m).1.1=0->(wrong t depth m).1=(0,0)/\0<=(wrong t depth m).2/\(wrong t depth m).2<=512
 | .mk h ps,depth,m,hm,he=>by
  have i1:=rb h ps depth (m + 1) (by omega);have i2:=gN h.ai (pNames ps) ps 0 depth (m + 1) (by omega);have i3:=oe h;simp only [wrong] at he ⊢;by_cases c0:24 < depth
  ·rw [if_pos c0] at he;simp at he
  rw [if_neg c0] at he ⊢;by_cases c1:512 < m + 1
  ·rw [if_pos c1] at he;simp at he
  rw [if_neg c1] at he ⊢;by_cases c2:h.ai < 1∨9 < h.ai
  ·rw [if_pos c2] at he;simp at he
  rw [if_neg c2] at he ⊢;by_cases c3:q8 (.mk h ps)=false
  ·rw [if_pos c3] at he;simp at he
  rw [if_neg c3] at he ⊢;by_cases c4:(h.ai=2/\h.hi < h.lo)∨(h.ai=3/\(h.most < 0∨4096 < h.most))
  ·rw [if_pos c4] at he;simp at he
  rw [if_neg c4] at he ⊢;by_cases c5:h.ai=9/\bf h.name.s=false
  ·rw [if_pos c5] at he;simp at he
  rw [if_neg c5] at he ⊢;by_cases k4:h.ai=4
  ·rw [if_pos k4] at he ⊢;exact ⟨i3 he,by simp only;omega,by simp only;omega⟩
  rw [if_neg k4] at he ⊢;by_cases k5:h.ai=5∨h.ai=6
  ·rw [if_pos k5] at he ⊢;exact i1 (by omega) he
  rw [if_neg k5] at he ⊢;by_cases k7:h.ai=7∨h.ai=8
  ·rw [if_pos k7] at he ⊢;by_cases k8:h.ai=8/\ps.len=0
   ·rw [if_pos k8] at he;simp at he
   rw [if_neg k8] at he ⊢;by_cases k9:64 < ps.len
   ·rw [if_pos k9] at he;simp at he
   rw [if_neg k9] at he ⊢;exact i2 (by omega) he
  ·rw [if_neg k7];exact ⟨rfl,by simp only;omega,by simp only;omega⟩
theorem rb:∀ (h:Hd) (ps:Pts) (depth m:Int),0<=m->m<=512->(wrongOne h ps depth m).1.1=0->(wrongOne h ps depth m).1=(0,0)/\0<=(wrongOne h ps depth m).2/\(wrongOne h ps depth m).2<=512
 | h,.nil,depth,m,hm,_,he=>by simp [wrongOne] at he
 | h,.cons p t .nil,depth,m,hm,h5,he=>by
  have ih:=mw t (depth + 1) m hm;simp only [wrongOne] at he ⊢;split at he
  ·simp at he
  ·split at he
   ·simp at he
   ·rename_i h1 h2;rw [if_neg h1,if_neg h2];exact ih he
 | h,.cons p t (.cons _ _ _),depth,m,hm,_,he=>by simp [wrongOne] at he
theorem gN (ai:Int) (all:List Wd):∀ (ps:Pts) (i:Nat) (depth m:Int),0<=m->m<=512->(wrongPts ai all i ps depth m).1.1=0->(wrongPts ai all i ps depth m).1=(0,0)/\0<=(wrongPts ai all i ps depth m).2/\(wrongPts ai all i ps depth m).2<=512
 | .nil,i,depth,m,hm,h5,he=>by simp only [wrongPts];exact ⟨trivial,hm,h5⟩
 | .cons p t r,i,depth,m,hm,h5,he=>by
  have i1:=mw t (depth + 1) m hm;simp only [wrongPts] at he ⊢;split at he
  ·rename_i h1;exact (h1 he).elim
  ·rename_i h1;rw [if_neg h1];split at he
   ·rename_i h2;rw [if_pos h2];split at he
    ·simp at he
    ·rename_i h3;rw [if_neg h3];exact gN ai all r (i + 1) depth m hm h5 he
   ·rename_i h2;rw [if_neg h2];split at he
    ·rename_i h3;exact (h3 he).elim
    ·rename_i h3;rw [if_neg h3];split at he
     ·rename_i h4;exact (h4 he).elim
     ·rename_i h4;rw [if_neg h4];have i2:=i1 (by simpa using h4);exact gN ai all r (i + 1) depth _ i2.2.1 i2.2.2 he
end
theorem aM (e a:Int):bD Tryz.prog 214 [.v (.int .i64 e),.v (.int .i64 a)] (Ft.d (e,a)):=by
 refine ev_go (P:=Tryz.prog) tt tt_ok 5000 8 [.cell 4 54] Tryz.func214 rfl Tryz.ntmps214 rfl (nL rfl) (fun E9 w9 hn9 hm9=>?_);exact ⟨_,ax,rfl⟩
noncomputable def cV (L:List ByteArray) (x:ByteArray) (a:Int):Ft:=if bf x=true then (if L.Nodup then (0,0) else (10,a)) else (9,a)
theorem kS (L:List ByteArray) (x:ByteArray) (a:Int) (hx:L[L.length - 1]? = some x) (hl:L.length<=1099511627776) (xB:x.size<=4611686018427387904) :
  bD Tryz.prog 260 [.sl 1 (bV L) none,.v (.int .i64 a)] (cV L x a).d:=by
 have hN:=aX L;have sF:=(gS hx).1;have hz:IntKind.i64.wrap (((bV L).length:Int) - 1)=((L.length - 1:Nat):Int):=by rw [hN,wrap64 (by omega) (by omega)];omega
 refine ev_go (P:=Tryz.prog) tt tt_ok 5000 23 [.cell 4 54] Tryz.func260 rfl Tryz.ntmps260 rfl (nL rfl) (fun E9 w9 hn9 hm9=>?_);refine ⟨[.v (.string x)],⟨by rw [hz];omega,by rw [hz];exact cT hx⟩,?_⟩;refine call_p qV (eD x xB) ax rfl ?_;refine br (fun h=>?_) (fun h=>?_)
 ·have h:bf x=false:=by simpa using h
  refine call_p bS (aM 9 a) ax rfl ?_;refine ⟨_,?_,rfl⟩;rw [cV,if_neg (by rw [h];decide)];exact ax
 ·have h:bf x=true:=by simpa using h
  refine cj xX rfl (iT L hl) ax (fun r hr=>?_);obtain ⟨z,rfl,hz⟩:=hr;refine br (fun h2=>?_) (fun h2=>?_)
  ·have h2:0<=z:=by simpa using h2
   refine call_p bS (aM 10 a) ax rfl ?_;refine ⟨_,?_,rfl⟩;rw [cV,if_pos h,if_neg (hz.1 h2)];exact ax
  ·have h2:¬ 0<=z:=by simpa using h2
   refine ⟨_,?_,rfl⟩;rw [cV,if_pos h,if_pos (Classical.byContradiction fun hn=>h2 (hz.2 hn))];exact ax
theorem sZ {l:List Wd} {e:Nat} {x:Wd} (h:l[e]? = some x):bL ((l.map fun w=>(⟨w.s,0⟩:Wd)).take e) ++ [[.v (.string x.s),.v (.int .i64 0)]]=bL ((l.map fun w=>(⟨w.s,0⟩:Wd)).take (e + 1)):=by
 have h2:(l.map fun w=>(⟨w.s,0⟩:Wd))[e]? = some ⟨x.s,0⟩:=by simp [h]
 exact vv h2
def dt (l:List Wd):List Wd:=l.map fun w=>⟨w.s,0⟩
abbrev yh (l l':List Wd) (n e:Nat):St:=
 ⟨[(6,⟨[],.sl 2 (bL l) none⟩),(7,⟨[],.v (.int .i64 (bL l).length)⟩),(8,⟨[],.v (.int .i64 e)⟩),(3,⟨[],.sl 2 (bL l') (some 0)⟩)],[],[⟨n,38,2,none⟩]⟩
theorem my (l:List Wd) (hs:wdsWt l<=1099511627776):bD Tryz.prog 305 [.sl 2 (bL l) none] (.sl 2 (bL (dt l)) none):=by
 have hl:=bT l;refine ev_go (P:=Tryz.prog) tt tt_ok 5000 20 [.tmp 2] Tryz.func305 rfl Tryz.ntmps305 rfl (nL rfl) (fun E9 w9 hn9 hm9=>?_);refine aF (fun j st=>∃ e:Nat,st=yh l ((dt l).take e) e e/\e<=l.length/\j=l.length - e) l.length (yh l [] 0 0) (fu ⟨0,38,2,none⟩ rfl ⟨_,rfl⟩ rfl wA rfl rfl BM) ⟨0,by simp,by omega,by omega⟩ ?_;rintro j st ⟨e,rfl,he,rfl⟩;refine br (fun h=>?_) (fun h=>?_)
 ·have av:e < l.length:=by simpa [aw] using h
  obtain ⟨w,hw⟩:∃ w,l[e]? = some w:=⟨_,gE av⟩;refine ⟨qh w,⟨by omega,bU hw⟩,?_⟩;refine ⟨by simp [aw,dt];omega,⟨by simp [aw,dt,maxLen];omega,by simp [aw,dt];omega⟩,?_⟩;refine ⟨yh l ((dt l).take (e + 1)) (e + 1) (e + 1),(aj ⟨_,rfl⟩ wA rfl rfl rfl (by repeat' (first | exact trivial | exact ah rfl | exact ap (ei av (by omega)) | exact gw (sZ hw) rfl | refine ⟨⟨_,rfl,?_⟩,?_⟩))),l.length - (e + 1),by omega,e + 1,rfl,by omega,rfl⟩
 ·have ch:e=l.length:=by
   have:=h;simp [aw] at this;omega
  rw [ch,List.take_of_length_le (by simp [dt])];exact ⟨_,ax,rfl⟩
abbrev mz (l:List Wd) (e:Nat):St:=
 ⟨[(13,⟨[],.sl 2 (bL l) none⟩),(14,⟨[],.v (.int .i64 (bL l).length)⟩),(2,⟨[],.loc 0 0⟩),(15,⟨[],.v (.int .i64 e)⟩)],[[.v (.int .i64 0),.v (.int .i64 0)]],[]⟩
theorem dE (l:List Wd) (hs:wdsWt l<=1099511627776) :
  bD Tryz.prog 288 [.sl 2 (bL l) none] (bW l).d:=by
 have sE:=bT l;refine ev_go (P:=Tryz.prog) tt tt_ok 5000 28 [.cell 2 54] Tryz.func288 rfl Tryz.ntmps288 rfl (nL rfl) (fun E9 w9 hn9 hm9=>?_);refine br (fun h=>?_) (fun h=>?_)
 ·have av:32 < l.length:=by simp [aw] at h;omega
  obtain ⟨x,hx⟩:∃ x,l[32]? = some x:=⟨_,gE av⟩;have:bW l=(8,x.a):=by simp [bW,Nat.not_le.2 av,hx]
  refine ⟨qh x,⟨by omega,bU hx⟩,?_⟩;refine call_p bS (aM 8 x.a) ax rfl ?_;refine ⟨_,?_,rfl⟩;rw [this];exact ax
 ·have fL:l.length<=32:=by simp [aw] at h;omega
  refine aF (fun j st=>∃ e:Nat,st=mz l e/\e<=l.length/\badWd l=badWd (l.drop e)/\j=l.length - e) l.length
   (mz l 0) (aj ⟨_,rfl⟩ wA rfl rfl rfl wB) ⟨0,rfl,by omega,rfl,by omega⟩ ?_
  rintro j st ⟨e,rfl,he,bd,rfl⟩;refine br (fun hL=>?_) (fun hL=>?_)
  ·have av:e < l.length:=by simpa [aw] using hL
   obtain ⟨x,hx⟩:∃ x,l[e]? = some x:=⟨_,gE av⟩;rw [drop_cons hx] at bd;have xB:=ik (mG hx);refine ⟨qh x,⟨by omega,bU hx⟩,?_⟩;refine call_p qV (eD x.s (by omega)) ax rfl ?_;refine br (fun hN=>?_) (fun hN=>?_)
   ·have hN:bf x.s=false:=by simpa using hN
    have:bW l=(9,x.a):=by simp [bW,fL,bd,badWd,hN]
    refine call_p bS (aM 9 x.a) ax rfl ?_;refine ⟨_,?_,rfl⟩;rw [this];exact ax
   ·have hN:bf x.s=true:=by simpa using hN
    refine ⟨mz l (e + 1),(aj ⟨_,rfl⟩ wA rfl rfl rfl (pj av)),l.length - (e + 1),by omega,e + 1,rfl,by omega,?_,rfl⟩;rw [bd];simp [badWd,hN]
  ·have ch:e=l.length:=by simp [aw] at hL;omega
   have:bW l=(0,0):=by simp [bW,fL,bd,ch,badWd]
   refine ⟨_,?_,rfl⟩;rw [this];exact ax
theorem py (p:Ph) (tl:List DV) (t:Ty) (vI:tl=eV t) (hs:p.wt<=1099511627776) :
  bD Tryz.prog 289 [.agg (x5 p tl)] (aS p).d:=by
 subst vI;obtain ⟨u,us⟩:=t;simp only [Ph.wt] at hs;refine ev_go (P:=Tryz.prog) tt tt_ok 5000 55 [.cell 2 54] Tryz.func289 rfl Tryz.ntmps289 rfl (nL rfl) (fun E9 w9 hn9 hm9=>?_);refine br (fun h0=>?_) (fun h0=>?_)
 ·have h0:p.ck=0:=of_decide_eq_true h0;refine br (fun h1=>?_) (fun h1=>?_)
  ·have:aS p=(19,p.name.a):=by
    simp [aH,aw] at h1;simp only [aS,h0,if_true];rw [if_neg];rintro ⟨h2,h3⟩;rcases h1 with h1 | h1
    ·exact h1 h2
    ·simp [h3] at h1
   refine call_p bS (aM 19 p.name.a) ax rfl ?_;refine ⟨_,?_,rfl⟩;rw [this];exact ax
  ·have dS:p.cl=[]:=by
    simp [aH,aw] at h1;exact h1.2
   have:aS p=(0,0):=by
    simp [aH,aw] at h1;simp [aS,h0,h1.1,h1.2]
   have h00:bW p.cl=(0,0):=by rw [dS];simp [bW,badWd]
   refine call_p qY (dE p.cl (by omega)) ax rfl ?_;refine ⟨_,?_,rfl⟩;rw [this,<- h00];exact ax
 have h0:¬ p.ck=0:=of_decide_eq_false h0;refine br (fun h1=>?_) (fun h1=>?_)
 ·have h1:p.ck=1:=of_decide_eq_true h1;refine br (fun h2=>?_) (fun h2=>?_)
  ·have:aS p=(20,p.ca):=by
    simp [aD] at h2;simp only [aS,h0,if_false];rw [if_neg (by omega),if_pos (by omega)]
   refine call_p bS (aM 20 p.ca) ax rfl ?_;refine ⟨_,?_,rfl⟩;rw [this];exact ax
  ·have:aS p=bW p.cl:=by
    simp [aD] at h2;simp only [aS,h0,if_false];rw [if_neg (by omega),if_neg (by omega)]
   refine call_p qY (dE p.cl (by omega)) ax rfl ?_;refine ⟨_,?_,rfl⟩;rw [this];exact ax
 have h1:¬ p.ck=1:=of_decide_eq_false h1;refine br (fun h3=>?_) (fun h3=>?_)
 ·have h3:p.ck=2:=of_decide_eq_true h3;refine br (fun h2=>?_) (fun h2=>?_)
  ·have:aS p=(20,p.ca):=by
    simp [aD] at h2;simp only [aS,h0,if_false];rw [if_neg (by omega),if_pos (by omega)]
   refine call_p bS (aM 20 p.ca) ax rfl ?_;refine ⟨_,?_,rfl⟩;rw [this];exact ax
  ·have:aS p=bW p.cl:=by
    simp [aD] at h2;simp only [aS,h0,if_false];rw [if_neg (by omega),if_neg (by omega)]
   refine call_p qY (dE p.cl (by omega)) ax rfl ?_;refine ⟨_,?_,rfl⟩;rw [this];exact ax
 have h3:¬ p.ck=2:=of_decide_eq_false h3;refine br (fun h4=>?_) (fun h4=>?_)
 ·have h4:p.ck=3:=of_decide_eq_true h4;refine br (fun h2=>?_) (fun h2=>?_)
  ·have:aS p=(20,p.ca):=by
    simp [aD] at h2;simp only [aS,h0,if_false];rw [if_neg (by omega),if_pos (by omega)]
   refine call_p bS (aM 20 p.ca) ax rfl ?_;refine ⟨_,?_,rfl⟩;rw [this];exact ax
  ·have:aS p=bW p.cl:=by
    simp [aD] at h2;simp only [aS,h0,if_false];rw [if_neg (by omega),if_neg (by omega)]
   refine call_p qY (dE p.cl (by omega)) ax rfl ?_;refine ⟨_,?_,rfl⟩;rw [this];exact ax
 have h4:¬ p.ck=3:=of_decide_eq_false h4
 have:aS p=(14,p.ca):=by
  simp only [aS,h0,if_false];rw [if_pos (by omega)]
 refine call_p bS (aM 14 p.ca) ax rfl ?_;refine ⟨_,?_,rfl⟩;rw [this];exact ax
theorem yi (w:World) (x y:Operand) (vs vs':Array Value):(eqGuard .neq 38 x y (.agg vs) (.agg vs')).run Tryz.prog w = .ok () w:=by
 have h:Tryz.prog.eqGuardType Tryz.prog.depth 38=false:=by kernel_rfl
 simp [eqGuard,run_program,h]
theorem Dz (a b:ByteArray) (p q:Int) (w:World):(binOp .neq 38 (.agg #[.string a,.int .i64 p]) (.agg #[.string b,.int .i64 q])).run Tryz.prog w = .ok (.bool (!(decide (a=b) && decide (p=q)))) w:=by
 have hf:Tryz.prog.underlying 38=some (.struct (Tryz.prog.fieldsOf 38)):=by simp [Program.fieldsOf,Tryz.underlying38]
 have uv:(Tryz.prog.fieldsOf 38).toList=[⟨ "Name",9,0,false, "", "",0⟩,⟨ "At",3,1,false, "", "",16⟩]:=by simp [Program.fieldsOf,Tryz.underlying38]
 have hs:Tryz.prog.stoodInHeld 38=false:=by kernel_rfl
 have hm:∃ d,Op.maxDepth=d + 1 + 1:=⟨Op.maxDepth - 2,by decide⟩;obtain ⟨d,hm⟩:=hm
 have he:(Op.equal 38 (.agg #[.string a,.int .i64 p]) (.agg #[.string b,.int .i64 q])).run Tryz.prog w = .ok (decide (a=b) && decide (p=q)) w:=by
  unfold Op.equal;rw [hm,run_equalIn_struct w (d + 1) 38 _ _ hf hs,uv]
  have e1:(a.toList == b.toList)=decide (a=b):=by
   rw [ByteArray.toList_eq,ByteArray.toList_eq];by_cases h:a=b
   ·subst h;simp
   ·have:¬ a.data=b.data:=fun e=>h (ByteArray.ext e);simp [h,this]
  have q9:∀ cs:Array Value,∀ off v,cs[off]? = some v->(part 9 cs off).run Tryz.prog w = .ok v w:=fun cs off v h=>by
   simp [part,Tryz.isAgg9,h]
  have q3:∀ cs:Array Value,∀ off v,cs[off]? = some v->(part 3 cs off).run Tryz.prog w = .ok v w:=fun cs off v h=>by
   simp [part,Tryz.isAgg3,h]
  simp only [Op.eqFields,ne_eq,String.reduceEq,not_false_eq_true,if_true,Sem.run_bind,q9 #[.string a,.int .i64 p] 0 (.string a) rfl,q9 #[.string b,.int .i64 q] 0 (.string b) rfl,Result.andThen_ok,run_equalIn_string w d 9 a b Tryz.underlying9,e1];by_cases h:a=b
  ·simp only [h,decide_true,Bool.not_true,Bool.false_eq_true,if_false,Sem.run_bind,q3 #[.string b,.int .i64 p] 1 (.int .i64 p) rfl,q3 #[.string b,.int .i64 q] 1 (.int .i64 q) rfl,Result.andThen_ok,run_equalIn_int w d 3 .i64 .i64 p q Tryz.underlying3];by_cases h2:p=q<;>simp [h2,Sem.run_pure]
  ·simp [h,Sem.run_pure]
 show ((do let r <- Op.equal 38 _ _;pure (Value.bool !r)):Sem Value).run Tryz.prog w=_;simp only [Sem.run_bind,he,Result.andThen_ok,Sem.run_pure]
theorem AN (x y:Operand) (a b:Wd):xf Tryz.prog .neq x y 38 (qh a) (qh b) (!(decide (a.s=b.s) && decide (a.a=b.a))):=
 ⟨[.string a.s,.int .i64 a.a],[.string b.s,.int .i64 b.a],rfl,rfl,fun w=>⟨yi w x y _ _,Dz a.s b.s a.a b.a w⟩⟩
def eqWds:List Wd->List Wd->Bool
 | [],[]=>true
 | x :: r,y :: s=>(decide (x.s=y.s) && decide (x.a=y.a)) && eqWds r s
 | _,_=>false
theorem og:∀ {a b:List Wd},a.length≠b.length->eqWds a b=false
 | [],[],h=>(h rfl).elim
 | [],_ :: _,_=>rfl
 | _ :: _,[],_=>rfl
 | x :: r,y :: s,h=>by
  simp only [eqWds];rw [og (a:=r) (b:=s) (by simpa using h),Bool.and_false]
theorem kT:∀ a b:List Wd,eqWds (dt a) (dt b)=sameWds a b
 | [],[]=>rfl
 | [],_ :: _=>rfl
 | _ :: _,[]=>rfl
 | x :: r,y :: s=>by
  have:=kT r s;simp only [dt,List.map_cons,eqWds,sameWds] at this ⊢;rw [this];simp
abbrev yj (a b:List Wd) (e:Nat):St:=
 ⟨[(0,⟨[],.sl 2 (bL a) none⟩),(1,⟨[],.sl 2 (bL b) none⟩),(12,⟨[],.v (.int .i64 (bL a).length)⟩),(13,⟨[],.v (.int .i64 e)⟩)],[],[]⟩
theorem rc (a b:List Wd) (hs:a.length<=1099511627776) :
  bD Tryz.prog 304 [.sl 2 (bL a) none,.sl 2 (bL b) none] (.v (.bool (eqWds a b))):=by
 refine ev_go (P:=Tryz.prog) tt tt_ok 5000 26 [.tmp 4] Tryz.func304 rfl Tryz.ntmps304 rfl (nL rfl) (fun E9 w9 hn9 hm9=>?_);refine br (fun h=>?_) (fun h=>?_)
 ·have aT:a.length≠b.length:=by have:=h;simp [aw] at this;omega
  exact congrArg (fun b=>DV.v (.bool b)) (og aT).symm
 ·have hl:a.length=b.length:=by have:=h;simp [aw] at this;omega
  refine aF (fun j st=>∃ e:Nat,st=yj a b e/\e<=a.length/\eqWds a b=eqWds (a.drop e) (b.drop e)/\j=a.length - e) a.length
   (yj a b 0) (aj ⟨_,rfl⟩ wA rfl rfl rfl wB) ⟨0,rfl,by omega,rfl,by omega⟩ ?_
  rintro j st ⟨e,rfl,he,bd,rfl⟩;refine br (fun h=>?_) (fun h=>?_)
  ·have av:e < a.length:=by simpa [aw] using h
   obtain ⟨x,hx⟩:∃ x,a[e]? = some x:=⟨_,gE av⟩;obtain ⟨y,hy⟩:∃ y,b[e]? = some y:=⟨_,gE (hl ▸ av)⟩;rw [drop_cons hx,drop_cons hy] at bd;refine cw (fun _=>false) mo (by decide +kernel) ?_;refine ⟨qh x,⟨by omega,bU hx⟩,qh y,⟨by omega,bU hy⟩,_,AN _ _ x y,?_⟩;refine br (fun h=>?_) (fun h=>?_)
   ·have aT:(decide (x.s=y.s) && decide (x.a=y.a))=false:=by
     have h:(!(decide (x.s=y.s) && decide (x.a=y.a)))=true:=h
     revert h
     cases (decide (x.s=y.s) && decide (x.a=y.a))<;>decide
    refine (congrArg (fun b=>DV.v (.bool b)) ?_:_=_);rw [bd];simp only [eqWds,aT,Bool.false_and]
   ·have aT:(decide (x.s=y.s) && decide (x.a=y.a))=true:=by
     have h:(!(decide (x.s=y.s) && decide (x.a=y.a)))=false:=h
     revert h
     cases (decide (x.s=y.s) && decide (x.a=y.a))<;>decide
    refine ⟨yj a b (e + 1),(aj ⟨_,rfl⟩ wA rfl rfl rfl (pj av)),a.length - (e + 1),by omega,e + 1,rfl,by omega,?_,rfl⟩;rw [bd];simp only [eqWds,aT,Bool.true_and]
  ·have ch:e=a.length:=by have:=h;simp [aw] at this;omega
   refine (congrArg (fun b=>DV.v (.bool b)) ?_:_=_);rw [bd,ch,hl];simp [eqWds];rw [<- hl];simp [eqWds]
theorem cW (a b:List Wd) (ha:wdsWt a<=1099511627776) (hb:wdsWt b<=1099511627776) :
  bD Tryz.prog 300 [.sl 2 (bL a) none,.sl 2 (bL b) none] (.v (.bool (sameWds a b))):=by
 have hl:=bT a;refine ev_go (P:=Tryz.prog) tt tt_ok 5000 10 [.tmp 4] Tryz.func300 rfl Tryz.ntmps300 rfl (nL rfl) (fun E9 w9 hn9 hm9=>?_);refine call_p B7 (my a ha) ax rfl ?_;refine call_p B7 (my b hb) ax rfl ?_;refine call_p F8 (rc (dt a) (dt b) (by simp [dt];omega)) ax rfl ?_;refine (congrArg (fun b=>DV.v (.bool b)) ?_:_=_);exact kT a b
def eqPts (F:Ph->Ty->Ph->Ty->Bool):Pts->Pts->Bool
 | .nil,.nil=>true
 | .cons p t r,.cons q u s=>F p t q u && eqPts F r s
 | _,_=>false
theorem oh {F:Ph->Ty->Ph->Ty->Bool}:∀ {a b:Pts},a.len≠b.len->eqPts F a b=false
 | .nil,.nil,h=>(h rfl).elim
 | .cons p t r,.cons q u s,h=>by
  simp only [eqPts];rw [oh (a:=r) (b:=s) (by simpa [Pts.len] using h),Bool.and_false]
 | .nil,.cons _ _ _,_=>rfl
 | .cons _ _ _,.nil,_=>rfl
def bE (p:Ph) (t:Ty) (q:Ph) (u:Ty):Bool:=decide (p.name.s=q.name.s) && bz p q && sameTy t u
theorem mA:∀ a b:Pts,eqPts bE a b=samePts a b
 | .nil,.nil=>by simp [eqPts,samePts]
 | .cons p t r,.cons q u s=>by simp only [eqPts,samePts,bE,mA r s]
 | .nil,.cons _ _ _=>by simp [eqPts,samePts]
 | .cons _ _ _,.nil=>by simp [eqPts,samePts]
abbrev yk (a b:Pts) (g e:Nat):St:=
 ⟨[(1,⟨[],.sl 18 (dg b) none⟩),(2,⟨[],.fn g [] []⟩),(15,⟨[],.sl 18 (dg a) none⟩),(16,⟨[],.v (.int .i64 (dg a).length)⟩),(17,⟨[],.v (.int .i64 e)⟩)],[],[]⟩
theorem re (g:Nat) (iM:Enters Tryz.prog g) (F:Ph->Ty->Ph->Ty->Bool) (a b:Pts) (hs:a.wt<=1099511627776)
  (hF:∀ (e:Nat) p t q u,a.toList[e]? = some (p,t)->b.toList[e]? = some (q,u)->bD Tryz.prog g [.agg (x5 p (eV t)),.agg (x5 q (eV u))] (.v (.bool (F p t q u)))) :
  bD Tryz.prog 306 [.sl 18 (dg a) none,.sl 18 (dg b) none,.fn g [] []] (.v (.bool (eqPts F a b))):=by
 have EY:=a.gL;refine ev_go (P:=Tryz.prog) tt tt_ok 5000 32 [.tmp 6] Tryz.func306 rfl Tryz.ntmps306 rfl (nL rfl) (fun E9 w9 hn9 hm9=>?_);refine br (fun h=>?_) (fun h=>?_)
 ·have aT:a.len≠b.len:=by have:=h;simp [aN] at this;omega
  exact congrArg (fun b=>DV.v (.bool b)) (oh aT).symm
 ·have hl:a.len=b.len:=by have:=h;simp [aN] at this;omega
  refine aF (fun j st=>∃ e:Nat,st=yk a b g e/\e<=a.len/\eqPts F a b=eqPts F (a.drop e) (b.drop e)/\j=a.len - e) a.len
   (yk a b g 0) (aj ⟨_,rfl⟩ wA rfl rfl rfl wB) ⟨0,rfl,by omega,rfl,by omega⟩ ?_
  rintro j st ⟨e,rfl,he,bd,rfl⟩;refine br (fun h=>?_) (fun h=>?_)
  ·have av:e < a.len:=by simpa [aN] using h
   obtain ⟨p,t,hx⟩:=Pts.e9 av;obtain ⟨q,u,hy⟩:=Pts.e9 (hl ▸ av);rw [Pts.drop_cons hx,Pts.drop_cons hy] at bd;have Fa:=hF e p t q u hx hy;obtain ⟨t,ts⟩:=t;obtain ⟨u,us⟩:=u;refine ⟨_,⟨by omega,cF hx⟩,?_⟩;refine ⟨_,⟨by omega,cF hy⟩,?_⟩;refine call_p iM Fa ax rfl ?_;refine br (fun h=>?_) (fun h=>?_)
   ·have aT:F p (.mk t ts) q (.mk u us)=false:=by simpa using h
    refine (congrArg (fun b=>DV.v (.bool b)) ?_:_=_);rw [bd];simp only [eqPts,aT,Bool.false_and]
   ·have aT:F p (.mk t ts) q (.mk u us)=true:=by simpa using h
    refine ⟨yk a b g (e + 1),(aj ⟨_,rfl⟩ wA rfl rfl rfl (pj av)),a.len - (e + 1),by omega,e + 1,rfl,by omega,?_,rfl⟩;rw [bd];simp only [eqPts,aT,Bool.true_and]
  ·have ch:e=a.len:=by have:=h;simp [aN] at this;omega
   refine (congrArg (fun b=>DV.v (.bool b)) ?_:_=_);rw [bd,ch,Pts.cR,hl,Pts.cR];simp [eqPts]
theorem gO (p q:Ph) (t u:Ty) (hp:p.wt<=1099511627776) (hq:q.wt<=1099511627776)
  (ht:bD Tryz.prog 301 [.agg (eV t),.agg (eV u)] (.v (.bool (sameTy t u)))) :
  bD Tryz.prog 287 [.agg (x5 p (eV t)),.agg (x5 q (eV u))] (.v (.bool (bE p t q u))):=by
 simp only [Ph.wt] at hp hq;obtain ⟨th,JC⟩:=t;obtain ⟨uh,Lk⟩:=u;refine ev_go (P:=Tryz.prog) tt tt_ok 5000 71 [.tmp 4] Tryz.func287 rfl Tryz.ntmps287 rfl (nL rfl) (fun E9 w9 hn9 hm9=>?_)
 have e0:bE p (.mk th JC) q (.mk uh Lk)=(((decide (p.name.s=q.name.s) && (p.bare == q.bare)) && decide (p.wide=q.wide)) && sameWds p.label q.label && ((decide (p.ck=q.ck) && decide (p.cn=q.cn)) && sameWds p.cl q.cl) && sameTy (.mk th JC) (.mk uh Lk)):=by
  simp only [bE,bz,Bool.and_assoc]
 rw [e0];refine br (fun hA=>?_) (fun hA=>?_)
 ·simp only [aD] at hA;refine call_p uI (cW p.label q.label (by omega) (by omega)) ax rfl ?_;refine br (fun hB=>?_) (fun hB=>?_)
  ·simp only [aD] at hB;refine call_p uI (cW p.cl q.cl (by omega) (by omega)) ax rfl ?_;refine br (fun hC=>?_) (fun hC=>?_)
   ·refine call_p F7 (ht) ax rfl ?_;refine (congrArg (fun b=>DV.v (.bool b)) ?_:_=_);simp only [aD,Bool.true_and,Bool.and_true] at hC ⊢
    simp_all
   ·refine (congrArg (fun b=>DV.v (.bool b)) ?_:_=_);simp only [aD,Bool.true_and,Bool.and_true] at hC ⊢
    simp_all
  ·simp only [aD] at hB;refine br (fun hC=>?_) (fun hC=>?_)
   ·exfalso;simp [aD] at hC
   ·refine (congrArg (fun b=>DV.v (.bool b)) ?_:_=_)
    simp_all
 ·simp only [aD,beq_true] at hA;refine br (fun hB=>?_) (fun hB=>?_)
  ·refine call_p uI (cW p.cl q.cl (by omega) (by omega)) ax rfl ?_;refine (congrArg (fun b=>DV.v (.bool b)) ?_:_=_);rw [hA];rfl
  ·refine (congrArg (fun b=>DV.v (.bool b)) ?_:_=_);rw [hA];rfl
theorem oi:∀ (n:Nat) (a b:Ty),a.wt<=n->a.wt<=1099511627776->b.wt<=1099511627776 ->
  bD Tryz.prog 301 [.agg (eV a),.agg (eV b)] (.v (.bool (sameTy a b)))
 | 0,a,b,hn,_,_=>by have:=a.iS;omega
 | n + 1,.mk h ps,.mk k qs,hn,cm,Gq=>by
  have ih:=oi n;simp only [Ty.wt,Hd.wt] at hn cm Gq
  have hE:bD Tryz.prog 306 [.sl 18 (dg ps) none,.sl 18 (dg qs) none,.fn 287 [] []] (.v (.bool (samePts ps qs))):=by
   rw [<- mA];refine re 287 x3 bE ps qs (by omega) fun e p t q u hx hy=>?_;have yl:=Pts.fZ (mG hx);have sj:=Pts.fZ (mG hy);exact gO p q t u (by omega) (by omega) (ih t u (by omega) (by omega) (by omega))
  refine ev_go (P:=Tryz.prog) tt tt_ok 5000 53 [.tmp 4] Tryz.func301 rfl Tryz.ntmps301 rfl (nL rfl) (fun E9 w9 hn9 hm9=>?_);refine br (fun hA=>?_) (fun hA=>?_)
  ·simp [aH] at hA;obtain ⟨⟨⟨⟨e1,e2⟩,e3⟩,e4⟩,e5⟩:=hA;refine call_p uI (cW h.af k.af (by omega) (by omega)) ax rfl ?_;refine br (fun hB=>?_) (fun hB=>?_)
   ·refine (congrArg (fun b=>DV.v (.bool b)) ?_:_=_);simp [aH,e1,e2,e3,e4,e5] at hB;simp [sameTy,iU,hB]
   ·simp [aH,e1,e2,e3,e4,e5] at hB;refine call_p F9 (hE) ax rfl ?_;refine (congrArg (fun b=>DV.v (.bool b)) ?_:_=_);simp [sameTy,iU,e1,e2,e3,e4,e5,hB]
  ·refine (congrArg (fun b=>DV.v (.bool b)) ?_:_=_);simp [aH] at hA;simp only [sameTy,iU]
   grind
theorem mB (a b:Ty) (ha:a.wt<=1099511627776) (hb:b.wt<=1099511627776):bD Tryz.prog 301 [.agg (eV a),.agg (eV b)] (.v (.bool (sameTy a b))):=oi _ a b (Nat.le_refl _) ha hb
def mC (h:Hd) (ps:Pts):Bool:=
 (((((decide (h.ai=2) || (decide (h.lo=0) && decide (h.hi=0))) && ((decide (h.ai=3) || decide (h.ai=5)) || decide (h.most=0))) && (decide (ps.len=0) || (decide (5<=h.ai) && decide (h.ai<=8)))) &&
  (decide (h.af.length=0) || decide (h.ai=4))) && (decide (h.name.s=aE) || decide (h.ai=9)))
theorem vJ (h:Hd) (ps:Pts):bD Tryz.prog 215 [.agg (eV (.mk h ps))] (.v (.bool (mC h ps))):=by
 have l1:(((dg ps).length:Int)=0)=(ps.len=0):=by rw [aN];exact propext (by omega)
 have l2:(((bL h.af).length:Int)=0)=(h.af.length=0):=by rw [aw];exact propext (by omega)
 have he:(⟨#[]⟩:ByteArray)=aE:=rfl;refine ev_go (P:=Tryz.prog) tt tt_ok 5000 67 [.tmp 2] Tryz.func215 rfl Tryz.ntmps215 rfl (nL rfl) (fun E9 w9 hn9 hm9=>?_);refine br (fun k2=>?_) (fun k2=>?_)
 ·have k2:h.ai=2:=of_decide_eq_true k2;refine (congrArg (fun b=>DV.v (.bool b)) ?_:_=_);rw [Bool.eq_iff_iff];simp [aD,aH,mC,aN,aw,k2,he]
 have k2:¬ h.ai=2:=of_decide_eq_false k2;refine br (fun k3=>?_) (fun k3=>?_)
 ·have k3:h.ai=3:=of_decide_eq_true k3;refine br (fun _=>?_) (fun hf=>?_)
  ·refine (congrArg (fun b=>DV.v (.bool b)) ?_:_=_);rw [Bool.eq_iff_iff];simp [aD,aH,mC,aN,aw,k3,he]
  ·exact absurd k3 (of_decide_eq_false hf)
 have k3:¬ h.ai=3:=of_decide_eq_false k3;refine br (fun k5=>?_) (fun k5=>?_)
 ·have k5:h.ai=5:=of_decide_eq_true k5;refine (congrArg (fun b=>DV.v (.bool b)) ?_:_=_);rw [Bool.eq_iff_iff];simp [aD,aH,mC,aN,aw,k5,he]
 have k5:¬ h.ai=5:=of_decide_eq_false k5;refine (congrArg (fun b=>DV.v (.bool b)) ?_:_=_);rw [Bool.eq_iff_iff];simp [aD,aH,mC,aN,aw,k2,k3,k5,he]
theorem pz:∀ ps:Pts,samePts ps ps=true:=by
 have wr:∀ l:List Wd,sameWds l l=true:=by
  intro l
  induction l with
  | nil=>rfl
  | cons x r ih=>simp [sameWds,ih]
 have key:∀ n,(∀ t:Ty,t.wt<=n->sameTy t t=true)/\(∀ ps:Pts,ps.wt<=n->samePts ps ps=true):=by
  intro n
  induction n using Nat.strongRecOn with
  | _ n ih=>
   have hp:∀ ps:Pts,ps.wt<=n->(∀ t:Ty,t.wt + 256<=n->sameTy t t=true)->samePts ps ps=true:=by
    intro ps
    induction ps using Pts.rec (motive_1:=fun _=>True) with
    | mk=>trivial
    | nil=>intros;simp [samePts]
    | cons p t r _ ihr=>
     intro hw ht;simp only [Pts.wt,Ph.wt] at hw;simp only [samePts];rw [ht t (by omega),ihr (by omega) ht];simp [bz,wr]
   refine ⟨fun t ht=>?_,fun ps Gr=>?_⟩
   ·obtain ⟨h,ps⟩:=t;simp only [Ty.wt,Hd.wt] at ht;simp only [sameTy,iU];rw [(ih ps.wt (by omega)).2 ps (Nat.le_refl _),wr];simp
   ·exact hp ps Gr fun t ht=>(ih t.wt (by omega)).1 t (Nat.le_refl _)
 exact fun ps=>(key ps.wt).2 ps (Nat.le_refl _)
theorem uL (h:Hd) (ps:Pts):mC h ps=sameTy (.mk h ps) (mask (.mk h ps)):=by
 have wr:∀ l:List Wd,sameWds l l=true:=by
  intro l
  induction l with
  | nil=>rfl
  | cons x r ih=>simp [sameWds,ih]
 have wn:∀ l:List Wd,sameWds l []=decide (l.length=0):=by
  intro l;cases l<;>simp [sameWds]
 have pn:∀ l:Pts,samePts l .nil=decide (l.len=0):=by
  intro l;cases l<;>simp [samePts,Pts.len]
 have pr:=pz ps;simp only [mask,sameTy,iU,yg]
 have e5:samePts ps (if 4 < h.ai/\h.ai < 9 then ps else .nil)=(decide (ps.len=0) || (decide (5<=h.ai) && decide (h.ai<=8))):=by
  split
  ·rename_i hc;rw [pr,decide_eq_true (by omega:5<=h.ai),decide_eq_true (by omega:h.ai<=8)];simp
  ·rename_i hc;rw [pn,Bool.eq_iff_iff];simp;omega
 have e6:sameWds h.af (if h.ai=4 then h.af else [])=(decide (h.af.length=0) || decide (h.ai=4)):=by
  split
  ·rename_i hc;rw [wr];simp [hc]
  ·rename_i hc;rw [wn];simp [hc]
 rw [e5,e6];unfold mC;by_cases k2:h.ai=2
 ·rw [Bool.eq_iff_iff];simp [k2];grind
 ·by_cases k3:h.ai=3∨h.ai=5
  ·by_cases k9:h.ai=9
   ·omega
   ·rw [Bool.eq_iff_iff];simp [k2,k3,k9];grind
  ·by_cases k9:h.ai=9
   ·rw [Bool.eq_iff_iff];simp [k9];grind
   ·rw [Bool.eq_iff_iff];simp [k2,k3,k9];grind
theorem rf (p:Ph) (t:Ty) (hp:p.wt<=1099511627776):bD Tryz.prog 261 [.agg (x5 p (eV t))] (.v (.bool (bE p bl cM bl))):=by
 obtain ⟨th,JC⟩:=t;refine ev_go (P:=Tryz.prog) tt tt_ok 5000 8 [.tmp 2] Tryz.func261 rfl Tryz.ntmps261 rfl (nL rfl) (fun E9 w9 hn9 hm9=>?_);refine call_p x3 (gO p cM bl bl hp (by decide) (mB bl bl (by decide) (by decide))) ax rfl ?_;exact (rfl:_=_)
def al (l:List Wd):List ByteArray:=l.map fun w=>w.s
noncomputable def enumP (l:List Wd):Nat->Ft
 | 0=>(0,0)
 | e + 1=>
  if (enumP l e).1≠0 then enumP l e
  else match l[e]? with
   | some w=>cV (al (l.take (e + 1))) w.s w.a
   | none=>(0,0)
theorem iW {l:List Wd} {e:Nat} (h:(enumP l e).1≠0):∀ d,enumP l (e + d)=enumP l e
 | 0=>rfl
 | d + 1=>by
  have ih:=iW h d;rw [<- Nat.add_assoc,enumP,ih,if_pos h]
theorem pA {L:List ByteArray} {x:ByteArray} {a:Int} (h:(cV L x a).1=0):cV L x a=(0,0):=by
 unfold cV at *;split
 ·rename_i h1;rw [if_pos h1] at h;split
  ·rfl
  ·rename_i h2;rw [if_neg h2] at h;simp at h
 ·rename_i h1;rw [if_neg h1] at h;simp at h
theorem s4 {l:List Wd}:∀ {e:Nat},(enumP l e).1=0->enumP l e=(0,0)
 | 0,_=>rfl
 | e + 1,h=>by
  rw [enumP] at h ⊢;split
  ·rename_i h1;rw [if_pos h1] at h;exact absurd h h1
  ·rename_i h1;rw [if_neg h1] at h;split
   ·rename_i w hw;rw [hw] at h;exact pA h
   ·rfl
theorem mD {l:List Wd} {e:Nat} {w:Wd} (h:(enumP l e).1=0) (hw:l[e]? = some w):enumP l (e + 1)=cV (al (l.take (e + 1))) w.s w.a:=by
 rw [enumP,if_neg (by rw [h];simp),hw]
noncomputable def gP (h:Hd):Ft:=
 if h.af.length=0 then (15,h.dD) else if 64 < h.af.length then (8,((h.af[64]?).getD (⟨aE,0⟩:Wd)).a) else enumP h.af h.af.length
abbrev s5 (h:Hd) (ps:Pts) (n e:Nat):St:=
 ⟨[(1,⟨[],.loc 0 0⟩),(2,⟨[],.loc 1 0⟩),(27,⟨[],.sl 2 (bL h.af) none⟩),(28,⟨[],.v (.int .i64 (bL h.af).length)⟩),(29,⟨[],.v (.int .i64 e)⟩),(3,⟨[],.sl 1 (bV (al (h.af.take e))) (some 0)⟩)],
  [eV (.mk h ps),[.v (.int .i64 0),.v (.int .i64 0)]],[⟨n,9,1,none⟩]⟩
theorem fw {l:List Wd} {e:Nat} {w:Wd} (h:l[e]? = some w):bV (al (l.take e)) ++ [[DV.v (.string w.s)]]=bV (al (l.take (e + 1))):=by
 rw [List.take_add_one,h];simp [bV,al]
theorem s6 (h:Hd) (ps:Pts) (hs:wdsWt h.af<=1099511627776):bD Tryz.prog 216 [.agg (eV (.mk h ps))] (gP h).d:=by
 have hl:=bT h.af;refine ev_go (P:=Tryz.prog) tt tt_ok 5000 48 [.cell 2 54] Tryz.func216 rfl Tryz.ntmps216 rfl (nL rfl) (fun E9 w9 hn9 hm9=>?_);refine br (fun h0=>?_) (fun h0=>?_)
 ·have h0:h.af.length=0:=by have:=h0;simp [aw] at this;simp [this]
  refine call_p bS (aM 15 h.dD) ax rfl ?_;refine ⟨_,?_,rfl⟩;rw [gP,if_pos h0];exact ax
 have h0:¬ h.af.length=0:=by have:=h0;simp [aw] at this;simpa using this
 refine br (fun h1=>?_) (fun h1=>?_)
 ·have h1:64 < h.af.length:=by have:=h1;simp [aw] at this;omega
  obtain ⟨x,hx⟩:∃ x,h.af[64]? = some x:=⟨_,gE h1⟩;refine ⟨qh x,⟨by omega,bU hx⟩,?_⟩;refine call_p bS (aM 8 x.a) ax rfl ?_;refine ⟨_,?_,rfl⟩;rw [gP,if_neg h0,if_pos h1,hx];exact ax
 have h1:¬ 64 < h.af.length:=by have:=h1;simp [aw] at this;omega
 have hk:gP h=enumP h.af h.af.length:=by rw [gP,if_neg h0,if_neg h1]
 rw [hk];refine aF (fun j st=>∃ e:Nat,st=s5 h ps e e/\e<=h.af.length/\(enumP h.af e).1=0/\j=h.af.length - e) h.af.length (s5 h ps 0 0) (fu ⟨0,9,1,none⟩ rfl ⟨_,rfl⟩ rfl wA rfl rfl BM) ⟨0,rfl,by omega,rfl,by omega⟩ ?_;rintro j st ⟨e,rfl,he,hz,rfl⟩;refine br (fun hL=>?_) (fun hL=>?_)
 ·have av:e < h.af.length:=by simpa [aw] using hL
  obtain ⟨w,hw⟩:∃ w,h.af[e]? = some w:=⟨_,gE av⟩;have JD:=ik (mG hw);have Gs:=mD hz hw
  have ym:(al (h.af.take (e + 1)))[(al (h.af.take (e + 1))).length - 1]? = some w.s:=by
   have uy:(al (h.af.take (e + 1))).length=e + 1:=by simp [al];omega
   rw [uy];simp [al,hw]
  refine ⟨qh w,⟨by omega,bU hw⟩,?_⟩;refine ⟨by simp [aX,al];omega,⟨by simp [aX,al,maxLen];omega,by simp [aX,al];omega⟩,?_⟩;have qj:=fw hw;have CL:=kS (al (h.af.take (e + 1))) w.s w.a ym (by simp [al];omega) (by omega);rw [<- qj,<- Gs] at CL;refine call_p B6 (CL) ax rfl ?_;refine br (fun hf=>?_) (fun hf=>?_)
  ·have hf:(enumP h.af (e + 1)).1≠0:=by simpa using hf
   refine ⟨_,?_,rfl⟩;have a7:=iW hf (h.af.length - (e + 1));rw [show e + 1 + (h.af.length - (e + 1))=h.af.length by omega] at a7;rw [a7];exact ax
  ·have hf:(enumP h.af (e + 1)).1=0:=by simpa using hf
   refine ⟨s5 h ps (e + 1) (e + 1),(aj ⟨_,rfl⟩ wA rfl rfl rfl (Ej av qj)),h.af.length - (e + 1),by omega,e + 1,rfl,by omega,hf,rfl⟩
 ·have ch:e=h.af.length:=by
   have:=hL;simp [aw] at this;omega
  subst ch;have a7:=s4 hz;refine ⟨_,?_,rfl⟩;rw [a7];exact ax
def Gt (t:Ty) (depth m:Int) (r:DV) (os:List (List DV)) (_:List TkE):Prop:=
 r=(wrong t depth m).1.d/\∃ z:Int,os=[[.v (.int .i64 z)]]/\((wrong t depth m).1.1=0->z=(wrong t depth m).2)
theorem DA {t:Ty} {depth m:Int}:∀ r os tk,Gt t depth m r os tk->clB 0 0 r=true/\∀ ji∈os,clB.clL 0 0 ji=true:=by
 rintro r os tk ⟨rfl,z,rfl,_⟩;refine ⟨rfl,fun ji h=>?_⟩;simp only [List.mem_singleton] at h;subst h;rfl
theorem vK (t:Ty) (hc:Ev Tryz.prog 172 [.loc 0 0,.agg (eV t),.v (.int .i64 1)] [[.v (.int .i64 0)]] [] (Gt t 1 0)) :
  bD Tryz.prog 104 [.agg (eV t)] (wrong t 1 0).1.d:=by
 obtain ⟨h,ps⟩:=t;refine ev_go (P:=Tryz.prog) tt tt_ok 5000 9 [.cell 2 54] Tryz.func104 rfl Tryz.ntmps104 rfl (nL rfl) (fun E9 w9 hn9 hm9=>?_);refine e8 x1 rfl rfl ax ax hc DA (fun r ji hr=>?_);obtain ⟨rfl,z,hz,_⟩:=hr;simp only [List.cons.injEq,and_true] at hz;subst hz;exact ⟨_,ax,rfl⟩
theorem wr (z:Int) (h1 : -9223372036854775808<=z) (h2:z<=9223372036854775807):IntKind.i64.wrap z=z:=by
 rw [IntKind.wrap_i64];omega
end Go.Proofs.YtfifjddnnmfeoaaGreat
set_option maxRecDepth 100000
namespace Go.Proofs.YtfifjddnnmfeoaaGreat
open Go Go.RowKit Dv Tryz
end Go.Proofs.YtfifjddnnmfeoaaGreat
set_option maxRecDepth 100000
namespace Go.Proofs.YtfifjddnnmfeoaaGreat
open Go Go.RowKit Dv Tryz
end Go.Proofs.YtfifjddnnmfeoaaGreat
set_option maxRecDepth 100000
namespace Go.Proofs.YtfifjddnnmfeoaaGreat
open Go Go.RowKit Dv Tryz
end Go.Proofs.YtfifjddnnmfeoaaGreat
set_option maxRecDepth 100000
namespace Go.Proofs.YtfifjddnnmfeoaaGreat
open Go Go.RowKit Dv Tryz
end Go.Proofs.YtfifjddnnmfeoaaGreat
set_option maxRecDepth 100000
namespace Go.Proofs.YtfifjddnnmfeoaaGreat
open Go Go.RowKit Dv Tryz
end Go.Proofs.YtfifjddnnmfeoaaGreat
set_option maxRecDepth 100000
namespace Go.Proofs
open Go.Shelf
end Go.Proofs
namespace Go.Proofs.YtfifjddnnmfeoaaGreat
open Go Go.RowKit Dv Tryz
theorem vM {P:Program} {f:FuncId} {args:List DV} {d:DV}
  (h:∀ (E:En) (w:World) (vs:List Value),Env E [] w->RvL E args vs->Calls P f vs.toArray w fun e w'=>∃ v,e = .returned v/\Rv E d v/\Below w.heap.size w w'):bD P f args d:=by
 intro E w vs hE nD hv;refine (h E w vs hE hv).mono ?_;rintro e w' ⟨v,rfl,hr,hb⟩;exact ⟨v,rfl,⟨hb.os,hb.tape,hb.output,hb.size,fun k hk _=>hb.block k hk⟩,fun hf=>(by cases hf),d,[],E,hE.ew hb.block,rfl,rfl,Nw.refl hE,hr,rfl⟩
end Go.Proofs.YtfifjddnnmfeoaaGreat
set_option maxRecDepth 100000
namespace Go.Proofs.YtfifjddnnmfeoaaGreat
open Go Go.RowKit Dv Tryz
end Go.Proofs.YtfifjddnnmfeoaaGreat
set_option maxRecDepth 100000
namespace Go.Proofs.YtfifjddnnmfeoaaGreat
open Go Go.RowKit Dv Tryz
end Go.Proofs.YtfifjddnnmfeoaaGreat
set_option maxRecDepth 100000
namespace Go.Proofs.YtfifjddnnmfeoaaGreat
open Go Go.RowKit Dv Tryz
end Go.Proofs.YtfifjddnnmfeoaaGreat
set_option maxRecDepth 100000
namespace Go.Proofs.YtfifjddnnmfeoaaGreat
open Go Go.RowKit Dv Tryz
end Go.Proofs.YtfifjddnnmfeoaaGreat
namespace Go.Proofs.YtfifjddnnmfeoaaGreat
namespace Dv
open Go Go.RowKit
def AO (w:World):En:=⟨fun a=>w.cell? a,[],[],[]⟩
theorem AP (w:World):Env (AO w) [] w where
 len:=rfl
 tl:=rfl
 cr:=by simp
 inj:=List.nodup_nil
 sub:=fun x u hx=>hx
 pc:=by simp [AO]
 bI:=by simp [AO]
 eL:=by simp [AO]
section
variable {H:Type} {enc:TypeId × Value->H} {P:Program} {w:World} {sp:Nat->Bool} {held:Bool} {S:List TypeId} {bk:DataW H->Nat}
end
end Dv
end Go.Proofs.YtfifjddnnmfeoaaGreat
set_option maxRecDepth 100000
namespace Go.Proofs.YtfifjddnnmfeoaaGreat
open Go Go.RowKit Dv Tryz
end Go.Proofs.YtfifjddnnmfeoaaGreat
namespace Go.Proofs.YtfifjddnnmfeoaaGreat
namespace Dv
open Go Go.RowKit Go.ChangeShapes Go.WideShapes Go.ChangeAt
open Go.ChangeMaps (open_string shut_string)
section
variable {H:Type} {enc:TypeId × Value->H} {P:Program}
theorem iE (hl:laidOutB P=true) {W W':World} (hb:Below W.heap.size W W'):∀ {ts:List TypeId} {vs:List Value} {ds:List (DataW H)} {ps:List MemPlace},(∀ t∈ts,P.readableRec t=true/\t < P.types.size) ->
  DataW.TrodAll enc P W 0 (fun _=>true) true ts vs ds ps->(∀ x∈ps,x.block < W.heap.size)->DataW.TrodAll enc P W' 0 (fun b=>decide (b < W.heap.size)) true ts vs ds ps
 | [],[],[],_,_,h,_=>h
 | t :: ts,v :: vs,d :: ds,_,ht,⟨p,q,h1,h2,e⟩,av=>by
  subst e;obtain ⟨r1,r2⟩:=ht t (by simp);exact ⟨p,q,Below.trod hl r1 r2 h1 hb (fun x hx=>av x (List.mem_append_left _ hx)),iE hl hb (fun t lE=>ht t (by simp [lE])) h2 (fun x hx=>av x (List.mem_append_right _ hx)),rfl⟩
theorem law_post {f:Func} {s:ChangeSpec} {tb:TypeId} (hl:laidOutB P=true) (xI:f.resultTypes = #[tb]) (htb:P.underlying tb=some .bool) (hv:s.vars=[]) (hts:∀ t∈f.params.toList,P.readableRec t=true/\t < P.types.size)
  {W W':World} {args:Array Value} {ds gs:List (DataW H)} {before:List MemPlace} (hW:DataW.Whole enc P f.params.toList s.vars false W args.toList ds gs before) (sn:s.fn H ds={ results:=[.lit (.bool true)],args:=ds }) (hb:Below W.heap.size W W') :
  s.post enc P f false true false false W args (.bool true) W':=by
 have hW':=hW;obtain ⟨p,q,hA,hV,rfl,hfz,hnd⟩:=hW;rw [hv] at hV;obtain ⟨rfl,rfl⟩:=trodVars_none hV;refine ⟨ds,[],p ++ [],[],p,[],hW',?_,?_,?_,hb.frame _,fun h=>by cases h⟩
 ·rw [List.append_nil,sn,xI];exact trodAll_cons_mk (shut_bool htb _) trodAll_mk0
 ·rw [List.append_nil,sn];exact iE hl hb hts hA (fun x hx=>hW'.lt x (List.mem_append_left _ hx))
 ·rw [List.append_nil,sn,hv];rfl
theorem s7 {w w':World} {Φ:DV->List (List DV)->List TkE->Prop} {v:Value} (h:oZ false (AO w) w Φ v w'):Below w.heap.size w w':=by
 obtain ⟨hm,_⟩:=h;refine ⟨hm.os,hm.tape,hm.output,hm.size,fun k hk=>hm.block k hk ?_⟩;rintro (h1 | ⟨y,h1,_⟩)
 ·simp [AO] at h1
 ·simp [AO] at h1
theorem calls_law {f:FuncId} {args:List DV} {vs:List Value} {w:World} (h:bD P f args (.v (.bool true))) (hv:RvL (AO w) args vs) :
  Calls P f vs.toArray w fun e w'=>e = .returned (.bool true)/\Below w.heap.size w w':=by
 refine (h (AO w) w vs (AP w) rfl hv).mono ?_;rintro e w' ⟨v,rfl,he⟩;have hb:=s7 he;obtain ⟨_,_,d,os,E,_,_,_,_,hr,rfl⟩:=he;unfold Rv at hr;rw [hr.1];exact ⟨rfl,hb⟩
variable {W:World} {base:Nat} {S:List TypeId} {bk:DataW H->Nat}
end
end Dv
end Go.Proofs.YtfifjddnnmfeoaaGreat
namespace Go.Proofs.YtfifjddnnmfeoaaGreat
open Go Go.RowKit Dv
theorem bulk_le {H:Type} {l:List (DataW H)} (hk:Rows.uptoSmall H l=true):Rows.uptoBulkAll l<=1048576:=of_decide_eq_true hk
theorem laid_out:laidOutB Tryz.prog=true:=by kernel_rfl
theorem own_knob:ownKnob Tryz.prog.godebug=none:=by kernel_rfl
set_option maxRecDepth 100000
noncomputable abbrev PP:Program:=Tryz.pinned.checked.prog
def Ll:OpenClaim:={ program := "",sum := "",func := "",spec := "" }
theorem and_ok {a b:Bool} (ha:a=true) (hb:b=true):(a && b)=true:=by rw [ha,hb];all_goals rfl
theorem g_laid:laidOutB PP=true:=laid_out
theorem g_maps:mapsRowed PP=true:=by kernel_rfl
theorem g_stops:(PP.stops == [])=true:=by kernel_rfl
theorem g_knobs:(PP.stopKnobs == [])=true:=by kernel_rfl
theorem g_heard:PP.stopsHeard=true:=by kernel_rfl
theorem g_enter:PP.mayEnter=true:=by kernel_rfl
theorem g_lifts:(Ll.lifted == PP.liftsFinal)=true:=by kernel_rfl
theorem g_keys:(false == PP.plainKeys)=true:=by kernel_rfl
theorem g_make:(PP.make == some Ll.make)=true:=by kernel_rfl
end Go.Proofs.YtfifjddnnmfeoaaGreat
set_option maxRecDepth 100000
namespace Go.Proofs.YtfifjddnnmfeoaaGreat
open Go Go.RowKit Dv Tryz
theorem ri (x b:Nat):(x:Int).fdiv (2 ^ b)=((x / 2 ^ b:Nat):Int):=by
 rw [Int.fdiv_eq_ediv_of_nonneg _ (by exact Int.le_of_lt (Int.pow_pos (by decide)))];simp
theorem du (m:Nat):BitVec.ofInt 64 (m:Int)=BitVec.ofNat 64 m:=by simp
theorem uM {x b:Nat} (hb:b < 64) (hx:x < 18446744073709551616) :
  decide (IntKind.u64.wrap ((BitVec.ofInt 64 ((x:Int).fdiv (2 ^ (min b 64))) &&& BitVec.ofInt 64 1).toNat:Int)=1)=x.testBit b:=by
 rw [Nat.min_eq_left (by omega),ri,du,show (BitVec.ofInt 64 1)=BitVec.ofNat 64 1 by decide,BitVec.toNat_and,BitVec.toNat_ofNat,BitVec.toNat_ofNat,Nat.testBit_eq_decide_div_mod_eq];have h1:x / 2 ^ b < 18446744073709551616:=Nat.lt_of_le_of_lt (Nat.div_le_self _ _) hx;rw [Nat.mod_eq_of_lt h1,show (1 % 2 ^ 64:Nat)=1 by decide,Nat.and_one_is_mod];simp only [IntKind.wrap_u64];congr 1;apply propext;omega
theorem s8 {x b:Nat} (hb:b < 64) (hx:x < 18446744073709551616) :
  IntKind.u64.wrap ((BitVec.ofInt 64 (x:Int) ||| BitVec.ofInt 64 (IntKind.u64.wrap (1 * 2 ^ (min b 64)))).toNat:Int)=((x ||| 2 ^ b:Nat):Int):=by
 have h2:2 ^ b < 18446744073709551616:=by
  have:2 ^ b<=2 ^ 63:=Nat.pow_le_pow_right (by decide) (by omega);omega
 have e1:IntKind.u64.wrap (1 * 2 ^ (min b 64))=((2 ^ b:Nat):Int):=by
  rw [Nat.min_eq_left (by omega),Int.one_mul];have:((2:Int) ^ b)=((2 ^ b:Nat):Int):=by simp
  rw [this];generalize 2 ^ b=z at h2;simp only [IntKind.wrap_u64];omega
 rw [e1,du,du,BitVec.toNat_or,BitVec.toNat_ofNat,BitVec.toNat_ofNat,Nat.mod_eq_of_lt hx,Nat.mod_eq_of_lt h2];have h3:x ||| 2 ^ b < 18446744073709551616:=Nat.or_lt_two_pow (n:=64) hx h2
 simp only [IntKind.wrap_u64];omega
theorem AQ {x y:Nat} (hx:x < 18446744073709551616) (hy:y < 18446744073709551616) :
  IntKind.u64.wrap ((BitVec.ofInt 64 (x:Int) ||| BitVec.ofInt 64 (y:Int)).toNat:Int)=((x ||| y:Nat):Int):=by
 rw [du,du,BitVec.toNat_or,BitVec.toNat_ofNat,BitVec.toNat_ofNat,Nat.mod_eq_of_lt hx,Nat.mod_eq_of_lt hy];have h3:x ||| y < 18446744073709551616:=Nat.or_lt_two_pow (n:=64) hx hy
 simp only [IntKind.wrap_u64];omega
theorem cX (x a b:Nat):(x ||| 2 ^ b).testBit a=(x.testBit a || decide (b=a)):=by
 rw [Nat.testBit_or,Nat.testBit_two_pow]
def dU (rows:List Nat):List (List DV):=rows.map fun (x:Nat)=>[DV.v (.int .u64 (x:Int))]
theorem fc (rows:List Nat):(dU rows).length=rows.length:=by simp [dU]
theorem DB {rows:List Nat} {i:Nat} {x:Nat} (h:rows[i]? = some x):(dU rows)[i]? = some [DV.v (.int .u64 (x:Int))]:=by simp [dU,h]
abbrev gB (rows:List Nat):DV:=.pt [.sl 1 (dU rows) none] 0
def bY (rows:List Nat):Prop:=rows.length<=64/\∀ x∈rows,x < 18446744073709551616
def ay (rows:List Nat) (a b:Nat):Bool:=(rows.getD a 0).testBit b
def hasB (rows:List Nat) (a b:Int):Bool:=decide (0<=a) && decide (a < rows.length) && decide (0<=b) && decide (b < rows.length) && ay rows a.toNat b.toNat
theorem om (rows:List Nat):bD Tryz.prog 163 [gB rows] (.v (.int .i64 rows.length)):=by
 refine ev_go (P:=Tryz.prog) tt tt_ok 5000 10 [.tmp 2] Tryz.func163 rfl Tryz.ntmps163 rfl (nL rfl) (fun E9 w9 hn9 hm9=>?_);refine (congrArg (fun z=>DV.v (.int .i64 z)) ?_:_=_);rw [fc]
theorem fx (rows:List Nat) (hr:bY rows) (a b:Int):bD Tryz.prog 156 [gB rows,.v (.int .i64 a),.v (.int .i64 b)] (.v (.bool (hasB rows a b))):=by
 have hl:=om rows;refine ev_go (P:=Tryz.prog) tt tt_ok 5000 38 [.tmp 6] Tryz.func156 rfl Tryz.ntmps156 rfl (nL rfl) (fun E9 w9 hn9 hm9=>?_);refine br (fun g1=>?_) (fun g1=>?_)
 ·have g1:0<=a:=by simpa using g1
  refine call_p xY (hl) ax rfl ?_;refine br (fun g2=>?_) (fun g2=>?_)
  ·obtain ⟨g2,g3⟩:a < rows.length/\0<=b:=by
    cases h:decide (a < (rows.length:Int))<;>simp [pickB,h] at g2<;>exact ⟨by simpa using h,g2⟩
   refine call_p xY (hl) ax rfl ?_;refine br (fun g4=>?_) (fun g4=>?_)
   ·have g4:b < rows.length:=by simpa [pickB,g2,g3] using g4
    obtain ⟨x,hx⟩:∃ x,rows[a.toNat]? = some x:=⟨_,gE (by omega)⟩;have zR:=hr.2 x (mG hx);have hr1:=hr.1;refine ⟨_,⟨g1,DB hx⟩,?_⟩;refine ⟨g3,?_⟩;refine (congrArg (fun b=>DV.v (.bool b)) ?_:_=_);have CW:rows.getD a.toNat 0=x:=getD_some hx
    have e1:hasB rows a b=x.testBit b.toNat:=by
     unfold hasB ay;rw [CW];simp [g1,g2,g3,g4]
    rw [e1];exact uM (x:=x) (b:=b.toNat) (by omega) zR
   ·have g4:¬ b < rows.length:=by simpa [pickB,g2,g3] using g4
    refine (congrArg (fun b=>DV.v (.bool b)) ?_:_=_);simp [pickB,g2,g3,g4,hasB]
  ·have g5:¬ (a < rows.length/\0<=b):=by
    rintro ⟨h1,h2⟩;simp [pickB,h1,h2] at g2
   refine (congrArg (fun b=>DV.v (.bool b)) ?_:_=_);cases h:decide (a < (rows.length:Int))<;>simp [pickB,h,hasB] at g2 ⊢
   intro _ h0;omega
 ·have g1:¬ 0<=a:=by simpa using g1
  refine (congrArg (fun b=>DV.v (.bool b)) ?_:_=_);simp [g1,hasB]
def backN (rows:List Nat) (a:Nat):Nat->Nat
 | 0=>0
 | e + 1=>if ay rows a e && ay rows e a then backN rows a e ||| 2 ^ e else backN rows a e
theorem mE (rows:List Nat) (a:Nat):∀ e,backN rows a e < 2 ^ e
 | 0=>by simp [backN]
 | e + 1=>by
  have ih:=mE rows a e;have h2:2 ^ e < 2 ^ (e + 1):=Nat.pow_lt_pow_right (by decide) (by omega);simp only [backN];split
  ·exact Nat.or_lt_two_pow (by omega) h2
  ·omega
theorem kr (rows:List Nat) (a b:Nat):∀ e,(backN rows a e).testBit b=(decide (b < e) && (ay rows a b && ay rows b a))
 | 0=>by simp [backN]
 | e + 1=>by
  have ih:=kr rows a b e;simp only [backN];by_cases sq:b=e
  ·subst sq;cases hx:(ay rows a b && ay rows b a)
   ·simp [ih,hx]
   ·simp [cX]
  ·have h1:decide (b < e + 1)=decide (b < e):=by congr 1;apply propext;omega
   rw [h1,<- ih];split
   ·rw [cX,decide_eq_false (Ne.symm sq),Bool.or_false]
   ·rfl
abbrev mF (rows:List Nat) (a e:Nat):St:=
 ⟨[(0,⟨[],gB rows⟩),(1,⟨[],.v (.int .i64 a)⟩),(5,⟨[],.v (.int .u64 (backN rows a e:Nat))⟩),(11,⟨[],.v (.int .i64 (dU rows).length)⟩),(12,⟨[],.v (.int .i64 e)⟩)],[],[]⟩
theorem jI {rows:List Nat} {a b:Nat} (ha:a < rows.length) (hb:b < rows.length):hasB rows a b=ay rows a b:=by
 simp [hasB,ha,hb]
theorem s9 (rows:List Nat) (hr:bY rows) (a:Nat) (ha:a < rows.length):bD Tryz.prog 165 [gB rows,.v (.int .i64 a)] (.v (.int .u64 (backN rows a rows.length:Nat))):=by
 have hr1:=hr.1;refine ev_go (P:=Tryz.prog) tt tt_ok 5000 31 [.tmp 4] Tryz.func165 rfl Tryz.ntmps165 rfl (nL rfl) (fun E9 w9 hn9 hm9=>?_);refine aF (fun j st=>∃ e:Nat,st=mF rows a e/\e<=rows.length/\j=rows.length - e) rows.length (mF rows a 0) (aj ⟨_,rfl⟩ wA rfl rfl rfl wB) ⟨0,rfl,by omega,by omega⟩ ?_;rintro j st ⟨e,rfl,he,rfl⟩;refine br (fun hL=>?_) (fun hL=>?_)
 ·have av:e < rows.length:=by have:=hL;simp [fc] at this;exact this
  have h1:=fx rows hr a e;have h2:=fx rows hr e a;rw [jI ha av] at h1;rw [jI av ha] at h2;have hbl:=mE rows a e
  have DC:backN rows a e < 18446744073709551616:=by
   have:2 ^ e<=2 ^ 64:=Nat.pow_le_pow_right (by decide) (by omega);omega
  have Gu:=s8 (x:=backN rows a e) (b:=e) (by omega) DC;have hs:backN rows a (e + 1)=if ay rows a e && ay rows e a then backN rows a e ||| 2 ^ e else backN rows a e:=rfl
  refine call_p qX (h1) ax rfl ?_;refine br (fun g1=>?_) (fun g1=>?_)
  ·have g1:ay rows a e=true:=by simpa using g1
   refine call_p qX (h2) ax rfl ?_;refine br (fun g2=>?_) (fun g2=>?_)
   ·have g2:ay rows e a=true:=by simpa [pickB,g1] using g2
    rw [g1,g2] at hs;have hs:backN rows a (e + 1)=backN rows a e ||| 2 ^ e:=hs
    refine ⟨by omega,?_⟩;exact ⟨mF rows a (e + 1),(aj ⟨_,rfl⟩ wA rfl rfl rfl (by repeat' (first | exact trivial | exact ah rfl | exact ap (ei av (by omega)) | exact ap (Gu.trans (by rw [hs])) | refine ⟨⟨_,rfl,?_⟩,?_⟩))),rows.length - (e + 1),by omega,e + 1,rfl,by omega,rfl⟩
   ·have g2:ay rows e a=false:=by simpa [pickB,g1] using g2
    rw [g1,g2] at hs;have hs:backN rows a (e + 1)=backN rows a e:=hs;exact ⟨mF rows a (e + 1),(aj ⟨_,rfl⟩ wA rfl rfl rfl (by repeat' (first | exact trivial | exact ah rfl | exact ap (ei av (by omega)) | exact ap (by rw [hs]) | refine ⟨⟨_,rfl,?_⟩,?_⟩))),rows.length - (e + 1),by omega,e + 1,rfl,by omega,rfl⟩
  ·have g1:ay rows a e=false:=by simpa using g1
   rw [g1] at hs;have hs:backN rows a (e + 1)=backN rows a e:=hs;exact ⟨mF rows a (e + 1),(aj ⟨_,rfl⟩ wA rfl rfl rfl (by repeat' (first | exact trivial | exact ah rfl | exact ap (ei av (by omega)) | exact ap (by rw [hs]) | refine ⟨⟨_,rfl,?_⟩,?_⟩))),rows.length - (e + 1),by omega,e + 1,rfl,by omega,rfl⟩
 ·have ch:e=rows.length:=by have:=hL;simp [fc] at this;omega
  subst ch;exact (rfl:_=_)
def cU (rows:List Nat):List DV:=rows.map fun (x:Nat)=>DV.v (.int .u64 (x:Int))
theorem iX (rows:List Nat):(cU rows).length=rows.length:=by simp [cU]
theorem yn {rows:List Nat} {i x:Nat} (h:rows[i]? = some x):(cU rows)[i]? = some (DV.v (.int .u64 (x:Int))):=by simp [cU,h]
theorem yo (rows:List Nat) (i x:Nat):(cU rows).set i (DV.v (.int .u64 (x:Int)))=cU (rows.set i x):=by simp [cU,List.map_set]
theorem jJ (rows:List Nat):(dU rows).flatten=cU rows:=by
 induction rows with
 | nil=>rfl
 | cons x r ih=>simp only [dU,cU,List.map_cons,List.flatten_cons] at ih ⊢;rw [ih];all_goals rfl
theorem uN {n m:Nat} {tk:List TkE}:∀ l:List Nat,WeL n m tk (cU l) (cU l)
 | []=>rfl
 | b :: r=>⟨_,_,rfl,ah rfl,uN r⟩
theorem pB {n m:Nat} {tk:List TkE} {l:List DV} {ds:List Nat} (h:l=cU ds):WeL n m tk l (cU ds):=by rw [h];exact uN ds
def JE (p:Nat × Nat):List DV:=[.v (.int .i64 (p.1:Int)),.v (.int .i64 (p.2:Int))]
def lr (l:List (Nat × Nat)):List (List DV):=l.map JE
theorem gQ (l:List (Nat × Nat)):(lr l).length=l.length:=by simp [lr]
theorem yp {l:List (Nat × Nat)} {i:Nat} {p:Nat × Nat} (h:l[i]? = some p):(lr l)[i]? = some (JE p):=by simp [lr,h]
def mH (rows:List Nat) (p:Nat × Nat):List Nat:=rows.set p.1 (rows.getD p.1 0 ||| 2 ^ p.2)
def cp (n:Nat) (l:List (Nat × Nat)):List Nat:=l.foldl mH (List.replicate n 0)
theorem vN (n:Nat) (l:List (Nat × Nat)) (e:Nat) {p:Nat × Nat} (h:l[e]? = some p):cp n (l.take (e + 1))=mH (cp n (l.take e)) p:=by
 unfold cp;rw [List.take_add_one,h];simp
theorem jK (rows:List Nat) (p:Nat × Nat):(mH rows p).length=rows.length:=by simp [mH]
theorem eF (n:Nat):∀ (l:List (Nat × Nat)),(cp n l).length=n:=by
 intro l
 have:∀ (l:List (Nat × Nat)) (r:List Nat),(l.foldl mH r).length=r.length:=by
  intro l
  induction l with
  | nil=>intro r;rfl
  | cons p l ih=>intro r;rw [List.foldl_cons,ih,jK]
 rw [cp,this];simp
theorem AR {rows:List Nat} {p:Nat × Nat} (h:bY rows) (hp:p.1 < rows.length) (hq:p.2 < 64):bY (mH rows p):=by
 refine ⟨by rw [jK];exact h.1,fun x hx=>?_⟩;rcases List.mem_or_eq_of_mem_set hx with hx | rfl
 ·exact h.2 x hx
 ·refine Nat.or_lt_two_pow (n:=64) ?_ (Nat.pow_lt_pow_right (by decide) hq);rw [List.getD_eq_getElem?_getD,gE hp];exact h.2 _ (List.getElem_mem hp)
theorem pD {n:Nat} (hn:n<=64):∀ (l:List (Nat × Nat)),(∀ p∈l,p.1 < n/\p.2 < n)->bY (cp n l):=by
 intro l hl
 have:∀ (l:List (Nat × Nat)) (r:List Nat),r.length=n->bY r->(∀ p∈l,p.1 < n/\p.2 < n)->bY (l.foldl mH r):=by
  intro l
  induction l with
  | nil=>intro r _ h _;exact h
  | cons p l ih=>
   intro r hr h hp;have:=hp p (by simp);exact ih _ (by rw [jK,hr]) (AR h (by omega) (by omega)) (fun q hq=>hp q (by simp [hq]))
 refine this l _ (by simp) ⟨by simp [hn],fun x hx=>?_⟩ hl;rw [List.mem_replicate] at hx;omega
abbrev ta (n:Nat) (l:List (Nat × Nat)) (rows:List Nat) (e:Nat):St:=
 ⟨[(0,⟨[],.v (.int .i64 n)⟩),(6,⟨[],.loc 1 0⟩),(19,⟨[],.sl 2 (lr l) none⟩),(20,⟨[],.v (.int .i64 (lr l).length)⟩),(21,⟨[],.v (.int .i64 e)⟩)],
  [cU rows,[.ms 0 1 0 n n]],[]⟩
theorem vO (n:Nat) (hn:n<=64) (l:List (Nat × Nat)) (hl:∀ p∈l,p.1 < n/\p.2 < n) (hb:l.length<=1099511627776) :
  bD Tryz.prog 98 [.v (.int .i64 n),.sl 2 (lr l) none] (.cP [gB (cp n l),.v (.bool true)]):=by
 refine ev_go (P:=Tryz.prog) tt tt_ok 5000 60 [.tmp 4,.tmp 5] Tryz.func98 rfl Tryz.ntmps98 rfl (nL rfl) (fun E9 w9 hn9 hm9=>?_);refine br (fun g=>?_) (fun g=>?_)
 ·exfalso;simp [aH] at g;omega
 refine ⟨⟨rfl,by omega,by omega,by omega⟩,?_⟩
 have h0:(List.replicate (n:Int).toNat [DV.v (.int .u64 0)]).flatten=cU (cp n (l.take 0)):=by
  simp [cp,cU]
 refine aF (fun j st=>∃ e:Nat,st=ta n l (cp n (l.take e)) e/\e<=l.length/\j=l.length - e) l.length (ta n l (cp n (l.take 0)) 0) (bw 2 rfl (by repeat' (first | exact rfl | exact ah rfl | exact pB h0 | refine ⟨_,_,rfl,?_,?_⟩)) rfl rfl rfl (by repeat' (first | exact trivial | exact ah rfl | exact pB h0 | refine ⟨⟨_,rfl,?_⟩,?_⟩))) ⟨0,rfl,by omega,by omega⟩ ?_;rintro j st ⟨e,rfl,he,rfl⟩;refine br (fun hL=>?_) (fun hL=>?_)
 ·have av:e < l.length:=by have:=hL;simp [gQ] at this;exact this
  obtain ⟨p,hp⟩:∃ p,l[e]? = some p:=⟨_,gE av⟩;obtain ⟨p1,p2⟩:=hl p (mG hp);refine ⟨_,⟨by omega,yp hp⟩,?_⟩;refine ⟨⟨by decide,by decide⟩,?_⟩;refine ⟨⟨by decide,by decide⟩,?_⟩;refine br (fun g=>?_) (fun g=>?_)
  ·refine ⟨⟨by decide,by decide⟩,?_⟩;refine ⟨⟨by decide,by decide⟩,?_⟩;refine br (fun g2=>?_) (fun g2=>?_)
   ·exfalso;simp [pickB] at g2;omega
   obtain ⟨x,hx⟩:∃ x,(cp n (l.take e))[p.1]? = some x:=⟨_,gE (by rw [eF];exact p1)⟩;have gD:=pD hn (l.take e) (fun q hq=>hl q (List.mem_of_mem_take hq));have zR:=gD.2 x (mG hx);have pa:0 + (p.1:Int).toNat * 1=p.1:=by omega
   refine aV mo (by decide +kernel) ?_;refine ⟨⟨by decide,by decide⟩,?_⟩;refine ⟨⟨by omega,by omega⟩,?_⟩;refine ⟨_,(by rw [pa];exact yn hx:(cU (cp n (l.take e)))[0 + (p.1:Int).toNat * 1]? = some _),?_⟩;refine ⟨⟨by decide,by decide⟩,?_⟩;refine ⟨by omega,?_⟩;refine ⟨⟨by omega,by omega⟩,?_⟩;refine ⟨by rw [pa,iX,eF];omega,?_⟩
   have bK:(cU (cp n (l.take e))).set (0 + (p.1:Int).toNat * 1) (DV.v (.int .u64 (IntKind.u64.wrap ((BitVec.ofInt 64 (x:Int) ||| BitVec.ofInt 64 (IntKind.u64.wrap (1 * 2 ^ (min (p.2:Int).toNat 64)))).toNat:Int))))=cU (cp n (l.take (e + 1))):=by
    rw [pa,show ((p.2:Int).toNat)=p.2 by omega,s8 (by omega) zR,yo,vN n l e hp];simp only [mH];rw [getD_some hx]
   refine ⟨ta n l (cp n (l.take (e + 1))) (e + 1),(bw 2 rfl (by repeat' (first | exact rfl | exact ah rfl | exact pB bK | exact ap (ei av (by omega)) | refine ⟨_,_,rfl,?_,?_⟩)) rfl rfl rfl (by repeat' (first | exact trivial | exact ah rfl | exact pB bK | exact ap (ei av (by omega)) | refine ⟨⟨_,rfl,?_⟩,?_⟩))),l.length - (e + 1),by omega,e + 1,rfl,by omega,rfl⟩
  ·exfalso;simp [pickB] at g;omega
 ·have ch:e=l.length:=by have:=hL;simp [gQ] at this;omega
  subst ch;rw [List.take_length];refine ⟨_,?_,rfl⟩;have hlen:=eF n l;generalize cp n l=rows at hlen ⊢;refine ⟨_,rfl,_,_,rfl,.inr ⟨1,_,rfl,Nat.zero_le _,rfl,_,_,rfl,.inr (.inr (.inl ⟨0,0,n,cU rows,by rw [fc,hlen],Nat.zero_le _,rfl,?_,?_,?_⟩)),rfl⟩,_,_,rfl,rfl,rfl⟩
  ·rw [jJ,fc,Nat.mul_one,List.drop_zero,List.take_of_length_le (by rw [iX];omega)]
  ·intro x hx;simp only [dU,List.mem_map] at hx;obtain ⟨y,_,rfl⟩:=hx;rfl
  ·intro x hx;rw [jJ] at hx;simp only [cU,List.mem_map] at hx;obtain ⟨y,_,rfl⟩:=hx;exact .inl ⟨_,rfl⟩
def dX (rows:List Nat) (k:Nat):List Nat:=rows.set k (rows.getD k 0 ||| 2 ^ k)
def iF (k:Nat) (rows:List Nat) (a:Nat):List Nat:=if ay rows a k then rows.set a (rows.getD a 0 ||| rows.getD k 0) else rows
def cy (rows:List Nat) (k e:Nat):List Nat:=(List.range e).foldl (iF k) (dX rows k)
def closeR (rows:List Nat) (e:Nat):List Nat:=(List.range e).foldl (fun r k=>cy r k r.length) rows
theorem yq {rows:List Nat} {i x:Nat} (h:bY rows) (hx:x < 18446744073709551616):bY (rows.set i x):=by
 refine ⟨by rw [List.length_set];exact h.1,fun y hy=>?_⟩;rcases List.mem_or_eq_of_mem_set hy with hy | rfl
 ·exact h.2 y hy
 ·exact hx
theorem gg {rows:List Nat} (h:bY rows) (i:Nat):rows.getD i 0 < 18446744073709551616:=by
 rw [List.getD_eq_getElem?_getD]
 cases hx:rows[i]? with
 | none=>simp
 | some x=>exact h.2 x (mG hx)
theorem yr {rows:List Nat} {k:Nat} (h:bY rows) (hk:k < 64):bY (dX rows k):=
 yq h (Nat.or_lt_two_pow (n:=64) (gg h k) (Nat.pow_lt_pow_right (by decide) hk))
theorem vP (rows:List Nat) (k:Nat):(dX rows k).length=rows.length:=by simp [dX]
theorem ys {rows:List Nat} {k a:Nat} (h:bY rows):bY (iF k rows a):=by
 unfold iF;split
 ·exact yq h (Nat.or_lt_two_pow (n:=64) (gg h a) (gg h k))
 ·exact h
theorem vQ (rows:List Nat) (k a:Nat):(iF k rows a).length=rows.length:=by
 unfold iF;split<;>simp
theorem gh (rows:List Nat) (k e:Nat):cy rows k (e + 1)=iF k (cy rows k e) e:=by simp [cy,List.range_succ]
theorem iq (rows:List Nat) (k:Nat):∀ e,(cy rows k e).length=rows.length
 | 0=>by simp [cy,vP]
 | e + 1=>by rw [gh,vQ,iq]
theorem mI {rows:List Nat} {k:Nat} (h:bY rows) (hk:k < 64):∀ e,bY (cy rows k e)
 | 0=>by simpa [cy] using yr h hk
 | e + 1=>by rw [gh];exact ys (mI h hk e)
theorem eW (rows:List Nat) (e:Nat):closeR rows (e + 1)=cy (closeR rows e) e (closeR rows e).length:=by simp [closeR,List.range_succ]
theorem cv (rows:List Nat):∀ e,(closeR rows e).length=rows.length
 | 0=>by simp [closeR]
 | e + 1=>by rw [eW,iq,cv]
theorem fy {rows:List Nat} (h:bY rows):∀ e,e<=64->bY (closeR rows e)
 | 0,_=>by simpa [closeR] using h
 | e + 1,he=>by rw [eW];exact mI (fy h e (by omega)) (by omega) _
def spU (m:Nat):List DV:=(List.replicate m (vL [Value.int .u64 0])).flatten
theorem td {n m:Nat} {tk:List TkE}:∀ l:List DV,(∀ x∈l,∃ y,x = .v y)->WeL n m tk l l
 | [],_=>rfl
 | b :: r,h=>by
  obtain ⟨y,rfl⟩:=h b (by simp);exact ⟨_,_,rfl,ah rfl,td r (fun x hx=>h x (by simp [hx]))⟩
theorem ff {n m:Nat} {tk:List TkE} {l:List DV} {ds:List Nat} {k:Nat} (h:l=cU ds ++ spU k):WeL n m tk l (cU ds ++ spU k):=by
 rw [h];refine td _ fun x hx=>?_;rcases List.mem_append.1 hx with hx | hx
 ·simp only [cU,List.mem_map] at hx;obtain ⟨y,_,rfl⟩:=hx;exact ⟨_,rfl⟩
 ·simp only [spU,List.mem_flatten,List.mem_replicate] at hx;obtain ⟨y,⟨_,rfl⟩,hx⟩:=hx;simp [vL] at hx;exact ⟨_,hx⟩
theorem pE {r:List Nat} {k i x:Nat} (h:r[i]? = some x):(cU r ++ spU k)[0 + (i:Int).toNat * 1]? = some (DV.v (.int .u64 (x:Int))):=by
 rw [show 0 + (i:Int).toNat * 1=i by omega,List.getElem?_append_left (by rw [iX];exact (gS h).1)];exact yn h
theorem yt {r:List Nat} {k i x:Nat} (h:i < r.length):(cU r ++ spU k).set (0 + (i:Int).toNat * 1) (DV.v (.int .u64 (x:Int)))=cU (r.set i x) ++ spU k:=by
 rw [show 0 + (i:Int).toNat * 1=i by omega,List.set_append_left _ _ (by rw [iX];exact h),yo]
theorem yu {r:List Nat} {k i:Nat} (h:i < r.length):0 + (i:Int).toNat * 1 + 1<=(cU r ++ spU k).length:=by
 rw [List.length_append,iX];omega
abbrev DD (rows:List Nat) (cap:Nat) (r:List Nat) (e:Nat):St:=
 ⟨[(3,⟨[],.loc 1 0⟩),(19,⟨[],.v (.int .i64 (dU rows).length)⟩),(20,⟨[],.v (.int .i64 e)⟩)],[cU r ++ spU (cap - (dU rows).length),[.ms 0 1 0 (dU rows).length cap]],[]⟩
abbrev uO (rows:List Nat) (cap:Nat) (r:List Nat) (e f:Nat):St:=
 ⟨[(3,⟨[],.loc 1 0⟩),(4,⟨[],.v (.int .i64 e)⟩),(19,⟨[],.v (.int .i64 (dU rows).length)⟩),(20,⟨[],.v (.int .i64 e)⟩),(38,⟨[],.v (.int .i64 (dU rows).length)⟩),(39,⟨[],.v (.int .i64 f)⟩)],[cU r ++ spU (cap - (dU rows).length),[.ms 0 1 0 (dU rows).length cap]],[]⟩
theorem iY {l:List Nat} {i:Nat} (h:i < l.length):l[i]? = some (l.getD i 0):=kp h
theorem kU (rows:List Nat) (hr:bY rows) (h0:rows ≠ []):bD Tryz.prog 100 [gB rows] (gB (closeR rows rows.length)):=by
 have hr1:=hr.1;have hN:=fc rows;have lB:0 < rows.length:=List.length_pos_iff.2 h0;refine uz (s:=false) (bt:=[]) (mu:=[12]) (hbt:=fun p hp=>by cases hp) (fr:=false) (P:=Tryz.prog) tt tt_ok 5000 72 [.tmp 2] Tryz.func100 rfl Tryz.ntmps100 rfl (nL rfl) (fun E9 w9 hn9 hm9=>?_);refine ⟨⟨by intro h;exact h0 (by simpa [dU] using h),by rw [fc];simp [maxLen];omega,by rw [fc];omega⟩,fun cap Ac=>?_⟩
 have ed:(dU rows).flatten.append (List.replicate (cap - (dU rows).length) (vL [Value.int .u64 0])).flatten=cU (closeR rows 0) ++ spU (cap - (dU rows).length):=by
  show (dU rows).flatten ++ _=_;rw [jJ];rfl
 refine aF (fun j st=>∃ e:Nat,st=DD rows cap (closeR rows e) e/\e<=rows.length/\j=rows.length - e) rows.length (DD rows cap (closeR rows 0) 0) (bw 2 rfl (by repeat' (first | exact rfl | exact ah rfl | exact ff ed | refine ⟨_,_,rfl,?_,?_⟩)) rfl rfl rfl (by repeat' (first | exact trivial | exact ah rfl | exact ff ed | refine ⟨⟨_,rfl,?_⟩,?_⟩))) ⟨0,rfl,by omega,by omega⟩ ?_;rintro j st ⟨e,rfl,he,rfl⟩;have gD:=fy hr e (by omega);have hlen:=cv rows e;have Cg:=eW rows e;generalize hce:closeR rows e=r at gD hlen Cg ⊢;refine br (fun hL=>?_) (fun hL=>?_)
 ·have av:e < rows.length:=by have:=hL;simp [hN] at this;exact this
  have hx:=iY (l:=r) (i:=e) (by omega);have Gu:=s8 (x:=r.getD e 0) (b:=e) (by omega) (gg gD e);refine aV mo (by decide +kernel) ?_;refine ⟨⟨by omega,by omega⟩,?_⟩;refine ⟨_,pE hx,?_⟩;refine ⟨by omega,?_⟩;refine ⟨⟨by omega,by omega⟩,?_⟩;refine ⟨yu (by omega),?_⟩
  have jz:(cU r ++ spU (cap - (dU rows).length)).set (0 + (e:Int).toNat * 1) (DV.v (.int .u64 (IntKind.u64.wrap ((BitVec.ofInt 64 ((r.getD e 0:Nat):Int) ||| BitVec.ofInt 64 (IntKind.u64.wrap (1 * 2 ^ (min (e:Int).toNat 64)))).toNat:Int))))=cU (cy r e 0) ++ spU (cap - (dU rows).length):=by
   rw [show min (e:Int).toNat 64=min e 64 by omega,Gu,yt (by omega)];rfl
  refine aF (fun j st=>∃ f:Nat,st=uO rows cap (cy r e f) e f/\f<=rows.length/\j=rows.length - f) rows.length (uO rows cap (cy r e 0) e 0) (bw 2 rfl (by repeat' (first | exact rfl | exact ah rfl | exact ff jz | refine ⟨_,_,rfl,?_,?_⟩)) rfl rfl rfl (by repeat' (first | exact trivial | exact ah rfl | exact ff jz | refine ⟨⟨_,rfl,?_⟩,?_⟩))) ⟨0,rfl,by omega,by omega⟩ ?_;rintro j st ⟨f,rfl,hf,rfl⟩;have HX:=mI (k:=e) gD (by omega) f;have qB:=iq r e f;have Gr:=gh r e f;have bM:e < (cy r e f).length:=by rw [qB];omega
  refine br (fun hL=>?_) (fun hL=>?_)
  ·have Eu:f < rows.length:=by have:=hL;simp [hN] at this;exact this
   have HY:f < (cy r e f).length:=by rw [qB];omega
   generalize cy r e f=q at HX qB Gr bM HY ⊢;have hy:=iY HY;have hz:=iY bM;have yv:=uM (x:=q.getD f 0) (b:=e) (by omega) (gg HX f);have Gu:=AQ (gg HX f) (gg HX e);refine ⟨⟨by omega,by omega⟩,?_⟩;refine ⟨_,pE hy,?_⟩;refine ⟨by omega,?_⟩;refine br (fun g=>?_) (fun g=>?_)
   ·have g:ay q f e=true:=yv.symm.trans g;refine aV mo (by decide +kernel) ?_;refine ⟨⟨by omega,by omega⟩,?_⟩;refine ⟨_,pE hy,?_⟩;refine ⟨⟨by omega,by omega⟩,?_⟩;refine ⟨_,pE hz,?_⟩;refine ⟨⟨by omega,by omega⟩,?_⟩;refine ⟨yu HY,?_⟩
    have iB:(cU q ++ spU (cap - (dU rows).length)).set (0 + (f:Int).toNat * 1) (DV.v (.int .u64 (IntKind.u64.wrap ((BitVec.ofInt 64 ((q.getD f 0:Nat):Int) ||| BitVec.ofInt 64 ((q.getD e 0:Nat):Int)).toNat:Int))))=cU (cy r e (f + 1)) ++ spU (cap - (dU rows).length):=by
     rw [Gu,yt HY,Gr,iF,if_pos g]
    exact ⟨uO rows cap (cy r e (f + 1)) e (f + 1),(bw 2 rfl (by repeat' (first | exact rfl | exact ah rfl | exact ff iB | exact ap (ei Eu (by omega)) | refine ⟨_,_,rfl,?_,?_⟩)) rfl rfl rfl (by repeat' (first | exact trivial | exact ah rfl | exact ff iB | exact ap (ei Eu (by omega)) | refine ⟨⟨_,rfl,?_⟩,?_⟩))),rows.length - (f + 1),by omega,f + 1,rfl,by omega,rfl⟩
   ·have g:ay q f e=false:=yv.symm.trans g
    have iB:cU q ++ spU (cap - (dU rows).length)=cU (cy r e (f + 1)) ++ spU (cap - (dU rows).length):=by
     rw [Gr,iF,if_neg (by rw [g];decide)]
    exact ⟨uO rows cap (cy r e (f + 1)) e (f + 1),(bw 2 rfl (by repeat' (first | exact rfl | exact ah rfl | exact ff iB | exact ap (ei Eu (by omega)) | refine ⟨_,_,rfl,?_,?_⟩)) rfl rfl rfl (by repeat' (first | exact trivial | exact ah rfl | exact ff iB | exact ap (ei Eu (by omega)) | refine ⟨⟨_,rfl,?_⟩,?_⟩))),rows.length - (f + 1),by omega,f + 1,rfl,by omega,rfl⟩
  ·have ch:f=rows.length:=by have:=hL;simp [hN] at this;omega
   subst ch
   have xG:cU (cy r e rows.length) ++ spU (cap - (dU rows).length)=cU (closeR rows (e + 1)) ++ spU (cap - (dU rows).length):=by
    rw [Cg,hlen]
   exact ⟨DD rows cap (closeR rows (e + 1)) (e + 1),(bw 2 rfl (by repeat' (first | exact rfl | exact ah rfl | exact ff xG | exact ap (ei av (by omega)) | refine ⟨_,_,rfl,?_,?_⟩)) rfl rfl rfl (by repeat' (first | exact trivial | exact ah rfl | exact ff xG | exact ap (ei av (by omega)) | refine ⟨⟨_,rfl,?_⟩,?_⟩))),rows.length - (e + 1),by omega,e + 1,rfl,by omega,rfl⟩
 ·have ch:e=rows.length:=by have:=hL;simp [hN] at this;omega
  subst ch;refine ⟨_,?_,rfl⟩;rw [hce];refine .inr ⟨1,_,rfl,Nat.zero_le _,rfl,_,_,rfl,.inr (.inr (.inl ⟨0,0,cap,cU r ++ spU (cap - (dU rows).length),by rw [fc r,hlen,hN],Nat.zero_le _,rfl,?_,?_,?_⟩)),rfl⟩
  ·rw [jJ,fc,Nat.mul_one,List.drop_zero,List.take_append_of_le_length (by rw [iX];omega),List.take_of_length_le (by rw [iX];omega)]
  ·intro x hx;simp only [dU,List.mem_map] at hx;obtain ⟨y,_,rfl⟩:=hx;rfl
  ·intro x hx;rw [jJ] at hx;simp only [cU,List.mem_map] at hx;obtain ⟨y,_,rfl⟩:=hx;exact .inl ⟨_,rfl⟩
theorem fA {a b c d:Nat} (ha:a < 256) (hb:b < 256):(a + 256 * c) &&& (b + 256 * d)=(a &&& b) + 256 * (c &&& d):=by
 have h1:a &&& b < 256:=Nat.and_lt_two_pow (n:=8) a hb;apply Nat.eq_of_testBit_eq;intro i
 have e (x y:Nat) (hx:x < 256):(x + 256 * y).testBit i=if i < 8 then x.testBit i else y.testBit (i - 8):=by
  rw [show x + 256 * y=2 ^ 8 * y + x by omega,Nat.testBit_two_pow_mul_add _ (by simpa using hx)]
 rw [Nat.testBit_and,e a c ha,e b d hb,e _ _ h1];split<;>simp [Nat.testBit_and]
def b1 (x:Nat):Nat:=((x / 2) &&& 85) + (x &&& 85)
def b2 (x:Nat):Nat:=((x / 4) &&& 51) + (x &&& 51)
def b3 (x:Nat):Nat:=((x / 16) + x) &&& 15
def pop8 (x:Nat):Nat:=b3 (b2 (b1 x))
theorem uP:∀ x:Fin 256,b1 x.val < 256/\b2 (b1 x.val) < 120/\pop8 x.val<=8/\pop8 x.val=(((((((x.val.testBit 0).toNat + (x.val.testBit 1).toNat) + (x.val.testBit 2).toNat) + (x.val.testBit 3).toNat) + (x.val.testBit 4).toNat) + (x.val.testBit 5).toNat) + (x.val.testBit 6).toNat) + (x.val.testBit 7).toNat:=by decide +kernel
def valB:List Nat->Nat
 | []=>0
 | a :: r=>a + 256 * valB r
def rep (m:Nat):Nat->Nat
 | 0=>0
 | n + 1=>m + 256 * rep m n
theorem m1:∀ (a:Fin 256) (c:Fin 2),(a.val / 2 + 128 * c.val) &&& 85=(a.val / 2) &&& 85:=by decide +kernel
theorem m2:∀ (a:Fin 256) (c:Fin 4),(a.val / 4 + 64 * c.val) &&& 51=(a.val / 4) &&& 51:=by decide +kernel
theorem j3:∀ l:List Nat,(∀ a∈l,a < 256)->((valB l / 2) &&& rep 85 l.length) + (valB l &&& rep 85 l.length)=valB (l.map b1)
 | [],_=>rfl
 | a :: r,h=>by
  have ih:=j3 r (fun x hx=>h x (by simp [hx]));have ha:=h a (by simp);have e1:(a + 256 * valB r) / 2=(a / 2 + 128 * (valB r % 2)) + 256 * (valB r / 2):=by omega
  have hm:=m1 ⟨a,ha⟩ ⟨valB r % 2,by omega⟩;simp only at hm;simp only [valB,List.length_cons,rep,List.map_cons,b1];rw [e1,fA (by omega) (by decide),fA ha (by decide),hm,<- ih];omega
theorem wV:∀ l:List Nat,(∀ a∈l,a < 256)->((valB l / 4) &&& rep 51 l.length) + (valB l &&& rep 51 l.length)=valB (l.map b2)
 | [],_=>rfl
 | a :: r,h=>by
  have ih:=wV r (fun x hx=>h x (by simp [hx]));have ha:=h a (by simp);have e1:(a + 256 * valB r) / 4=(a / 4 + 64 * (valB r % 4)) + 256 * (valB r / 4):=by omega
  have hm:=m2 ⟨a,ha⟩ ⟨valB r % 4,by omega⟩;simp only at hm;simp only [valB,List.length_cons,rep,List.map_cons,b2];rw [e1,fA (by omega) (by decide),fA ha (by decide),hm,<- ih];omega
theorem Gv (x y:Nat):(x + 16 * y) &&& 15=x &&& 15:=by
 have h (z:Nat):z &&& 15=z % 16:=Nat.and_two_pow_sub_one_eq_mod z 4;rw [h,h];omega
def rj (a:Nat):Prop:=a < 70/\a % 16<=4
theorem Lm:∀ l:List Nat,(∀ a∈l,rj a)->((valB l / 16) + valB l) &&& rep 15 l.length=valB (l.map b3)
 | [],_=>rfl
 | a :: r,h=>by
  have ih:=Lm r (fun x hx=>h x (by simp [hx]));have ha:=h a (by simp)
  have hc:valB r % 16<=4:=by
   cases r with
   | nil=>simp [valB]
   | cons b s=>
    have:=(h b (by simp)).2;simp only [valB];omega
  unfold rj at ha;have e1:(a + 256 * valB r) / 16 + (a + 256 * valB r)=((a / 16 + a) + 16 * (valB r % 16)) + 256 * (valB r / 16 + valB r):=by omega
  simp only [valB,List.length_cons,rep,List.map_cons,b3];rw [e1,fA (by omega) (by decide),Gv,ih]
def cd (x:Nat):List Nat:=[x % 256,x / 256 % 256,x / 65536 % 256,x / 16777216 % 256,x / 4294967296 % 256,x / 1099511627776 % 256,x / 281474976710656 % 256,x / 72057594037927936 % 256]
theorem te {x:Nat} (h:x < 18446744073709551616):valB (cd x)=x:=by
 simp only [cd,valB];omega
theorem vR (x:Nat):∀ a∈cd x,a < 256:=by
 intro a ha;simp only [cd,List.mem_cons,List.not_mem_nil,or_false] at ha;omega
def tf (x:Nat):Nat:=((cd x).map pop8).sum
theorem rk:∀ a:Fin 256,b1 a.val < 256/\b2 (b1 a.val) < 70/\b2 (b1 a.val) % 16<=4:=by decide +kernel
theorem pF {x m:Nat} (hx:x < 18446744073709551616) (hm:m < 18446744073709551616) :
  IntKind.u64.wrap ((BitVec.ofInt 64 (x:Int) &&& BitVec.ofInt 64 (m:Int)).toNat:Int)=((x &&& m:Nat):Int):=by
 rw [du,du,BitVec.toNat_and,BitVec.toNat_ofNat,BitVec.toNat_ofNat,Nat.mod_eq_of_lt hx,Nat.mod_eq_of_lt hm];have h3:x &&& m < 18446744073709551616:=Nat.and_lt_two_pow (n:=64) x hm;simp only [IntKind.wrap_u64];omega
theorem tg {x:Nat} {k:Int} (hk:k.toNat < 64):(x:Int).fdiv (2 ^ min k.toNat IntKind.u64.bits)=((x / 2 ^ k.toNat:Nat):Int):=by
 rw [show min k.toNat IntKind.u64.bits=k.toNat from Nat.min_eq_left (by show k.toNat<=64;omega),ri]
theorem pG {y:Nat} (h:y < 18446744073709551616):IntKind.u64.wrap (y:Int)=(y:Int):=by
 simp only [IntKind.wrap_u64];omega
theorem Gw {k M:Int} {m x y:Nat} (hk:k.toNat < 64) (hx:x < 18446744073709551616) (hM:M=(m:Int)) (hm:m < 18446744073709551616) (hy:((x / 2 ^ k.toNat) &&& m) + (x &&& m)=y) (iz:y < 18446744073709551616) :
  IntKind.u64.wrap (IntKind.u64.wrap ((BitVec.ofInt IntKind.u64.bits ((x:Int).fdiv (2 ^ min k.toNat IntKind.u64.bits)) &&& BitVec.ofInt IntKind.u64.bits M).toNat:Int) + IntKind.u64.wrap ((BitVec.ofInt IntKind.u64.bits (x:Int) &&& BitVec.ofInt IntKind.u64.bits M).toNat:Int))=(y:Int):=by
 subst hM;have h1:x / 2 ^ k.toNat < 18446744073709551616:=Nat.lt_of_le_of_lt (Nat.div_le_self _ _) hx;have e1:IntKind.u64.wrap ((BitVec.ofInt IntKind.u64.bits ((x / 2 ^ k.toNat:Nat):Int) &&& BitVec.ofInt IntKind.u64.bits (m:Int)).toNat:Int)=_:=pF h1 hm;have e2:IntKind.u64.wrap ((BitVec.ofInt IntKind.u64.bits (x:Int) &&& BitVec.ofInt IntKind.u64.bits (m:Int)).toNat:Int)=_:=pF hx hm;rw [tg hk,e1,e2,<- Int.natCast_add,hy,pG iz]
theorem JF {k M:Int} {m x y:Nat} (hk:k.toNat < 64) (hs:x / 2 ^ k.toNat + x < 18446744073709551616) (hM:M=(m:Int)) (hm:m < 18446744073709551616) (hy:((x / 2 ^ k.toNat) + x) &&& m=y) :
  IntKind.u64.wrap ((BitVec.ofInt IntKind.u64.bits (IntKind.u64.wrap ((x:Int).fdiv (2 ^ min k.toNat IntKind.u64.bits) + (x:Int))) &&& BitVec.ofInt IntKind.u64.bits M).toNat:Int)=(y:Int):=by
 subst hM;have e2:IntKind.u64.wrap ((BitVec.ofInt IntKind.u64.bits ((x / 2 ^ k.toNat + x:Nat):Int) &&& BitVec.ofInt IntKind.u64.bits (m:Int)).toNat:Int)=_:=pF hs hm;rw [tg hk,<- Int.natCast_add,pG hs,e2,hy]
theorem DE {k:Int} {x:Nat} (hk:k.toNat < 64) (hs:x + x / 2 ^ k.toNat < 18446744073709551616) :
  IntKind.u64.wrap ((x:Int) + (x:Int).fdiv (2 ^ min k.toNat IntKind.u64.bits))=((x + x / 2 ^ k.toNat:Nat):Int):=by
 rw [tg hk,<- Int.natCast_add,pG hs]
theorem uQ:∀ l:List Nat,(∀ a∈l,a < 256)->valB l < 256 ^ l.length
 | [],_=>by simp [valB]
 | a :: r,h=>by
  have ih:=uQ r (fun x hx=>h x (by simp [hx]));have ha:=h a (by simp);simp only [valB,List.length_cons,Nat.pow_succ];omega
theorem yw {x:Nat} (hx:x < 18446744073709551616):∃ y1 y2 y3:Nat,((x / 2) &&& 6148914691236517205) + (x &&& 6148914691236517205)=y1/\y1 < 18446744073709551616/\((y1 / 4) &&& 3689348814741910323) + (y1 &&& 3689348814741910323)=y2/\y2 / 16 + y2 < 18446744073709551616/\y2 < 18446744073709551616 /\
  ((y2 / 16) + y2) &&& 1085102592571150095=y3/\∃ p0 p1 p2 p3 p4 p5 p6 p7:Nat,y3=valB [p0,p1,p2,p3,p4,p5,p6,p7]/\(p0<=8/\p1<=8/\p2<=8/\p3<=8/\p4<=8/\p5<=8/\p6<=8/\p7<=8)/\tf x=p0 + p1 + p2 + p3 + p4 + p5 + p6 + p7:=by
 have hl:=vR x;have s1:=j3 (cd x) hl;rw [te hx] at s1
 have l1:∀ a∈(cd x).map b1,a < 256:=by
  intro a ha;obtain ⟨b,hb,rfl⟩:=List.mem_map.1 ha;exact (rk ⟨b,hl b hb⟩).1
 have l2:∀ a∈((cd x).map b1).map b2,rj a:=by
  intro a ha;obtain ⟨c,hc,rfl⟩:=List.mem_map.1 ha;obtain ⟨b,hb,rfl⟩:=List.mem_map.1 hc;exact (rk ⟨b,hl b hb⟩).2
 have s2:=wV ((cd x).map b1) l1;have s3:=Lm (((cd x).map b1).map b2) l2
 have v1:valB ((cd x).map b1) < 18446744073709551616:=by
  have:=uQ _ l1;rw [List.length_map,show (cd x).length=8 from rfl] at this;simpa using this
 rw [show rep 85 (cd x).length=6148914691236517205 from (by decide:rep 85 8=_)] at s1;rw [List.length_map,show rep 51 (cd x).length=3689348814741910323 from (by decide:rep 51 8=_)] at s2;rw [List.length_map,List.length_map,show rep 15 (cd x).length=1085102592571150095 from (by decide:rep 15 8=_)] at s3;refine ⟨_,_,_,s1,v1,s2,?_,?_,s3,_,_,_,_,_,_,_,_,rfl,?_,?_⟩
 ·have:=l2;simp only [cd,List.map_cons,List.map_nil,List.mem_cons,List.not_mem_nil,or_false,forall_eq_or_imp,forall_eq,rj,valB] at this ⊢;omega
 ·have:=l2;simp only [cd,List.map_cons,List.map_nil,List.mem_cons,List.not_mem_nil,or_false,forall_eq_or_imp,forall_eq,rj,valB] at this ⊢;omega
 ·have h (b:Nat) (hb:b < 256):=(uP ⟨b,hb⟩).2.2.1;exact ⟨h _ (by omega),h _ (by omega),h _ (by omega),h _ (by omega),h _ (by omega),h _ (by omega),h _ (by omega),h _ (by omega)⟩
 ·simp only [tf,cd,List.map_cons,List.map_nil,List.sum_cons,List.sum_nil,pop8];omega
theorem dr1 {a r:Nat} (h:a < 256):(a + 256 * r) / 256=r:=by omega
theorem dr2 {a b r:Nat} (h:a < 256) (h2:b < 256):(a + 256 * (b + 256 * r)) / 65536=r:=by omega
theorem dr4 {a b c d r:Nat} (h:a < 256) (h2:b < 256) (h3:c < 256) (h4:d < 256):(a + 256 * (b + 256 * (c + 256 * (d + 256 * r)))) / 4294967296=r:=by omega
theorem yx {p0 p1 p2 p3 p4 p5 p6 p7:Nat} (hp:p0<=8/\p1<=8/\p2<=8/\p3<=8/\p4<=8/\p5<=8/\p6<=8/\p7<=8):∃ z1 z2 z3:Nat,
  (p0 + 256 * (p1 + 256 * (p2 + 256 * (p3 + 256 * (p4 + 256 * (p5 + 256 * (p6 + 256 * (p7 + 256 * 0)))))))) + (p0 + 256 * (p1 + 256 * (p2 + 256 * (p3 + 256 * (p4 + 256 * (p5 + 256 * (p6 + 256 * (p7 + 256 * 0)))))))) / 256=z1/\z1 < 18446744073709551616 /\
  z1 + z1 / 65536=z2/\z2 < 18446744073709551616/\z2 + z2 / 4294967296=z3/\z3 < 18446744073709551616/\z3 % 128=p0 + p1 + p2 + p3 + p4 + p5 + p6 + p7:=by
 refine ⟨(p0 + p1) + 256 * ((p1 + p2) + 256 * ((p2 + p3) + 256 * ((p3 + p4) + 256 * ((p4 + p5) + 256 * ((p5 + p6) + 256 * ((p6 + p7) + 256 * p7)))))),
  (p0 + p1 + p2 + p3) + 256 * ((p1 + p2 + p3 + p4) + 256 * ((p2 + p3 + p4 + p5) + 256 * ((p3 + p4 + p5 + p6) + 256 * ((p4 + p5 + p6 + p7) + 256 * ((p5 + p6 + p7) + 256 * ((p6 + p7) + 256 * p7)))))),
  (p0 + p1 + p2 + p3 + p4 + p5 + p6 + p7) + 256 * ((p1 + p2 + p3 + p4 + p5 + p6 + p7) + 256 * ((p2 + p3 + p4 + p5 + p6 + p7) + 256 * ((p3 + p4 + p5 + p6 + p7) + 256 * ((p4 + p5 + p6 + p7) + 256 * ((p5 + p6 + p7) + 256 * ((p6 + p7) + 256 * p7)))))),?_,by omega,?_,by omega,?_,by omega,by omega⟩
 ·rw [dr1 (by omega)];omega
 ·rw [dr2 (by omega) (by omega)];omega
 ·rw [dr4 (by omega) (by omega) (by omega) (by omega)];omega
theorem yy {z:Nat} (h:z < 18446744073709551616):IntKind.i64.wrap ((BitVec.ofInt IntKind.i64.bits (IntKind.i64.wrap (z:Int)) &&& BitVec.ofInt IntKind.i64.bits 127).toNat:Int)=((z % 128:Nat):Int):=by
 have e1:BitVec.ofInt 64 (IntKind.i64.wrap (z:Int))=BitVec.ofNat 64 z:=by
  apply BitVec.eq_of_toNat_eq;rw [BitVec.toNat_ofInt,BitVec.toNat_ofNat,IntKind.wrap_i64];omega
 have e2:(BitVec.ofInt 64 (IntKind.i64.wrap (z:Int)) &&& BitVec.ofInt 64 127).toNat=z % 128:=by
  rw [e1,show BitVec.ofInt 64 127=BitVec.ofNat 64 127 by decide,BitVec.toNat_and,BitVec.toNat_ofNat,BitVec.toNat_ofNat,Nat.mod_eq_of_lt h];exact Nat.and_two_pow_sub_one_eq_mod z 7
 have e3:(BitVec.ofInt IntKind.i64.bits (IntKind.i64.wrap (z:Int)) &&& BitVec.ofInt IntKind.i64.bits 127).toNat=z % 128:=e2;rw [e3,IntKind.wrap_i64];omega
theorem vS (x:Nat) (hx:x < 18446744073709551616):bD Tryz.prog 164 [.v (.int .u64 x)] (.v (.int .i64 (tf x:Nat))):=by
 obtain ⟨y1,y2,y3,h1,Em,h2,h2s,I4,h3,p0,p1,p2,p3,p4,p5,p6,p7,h4,hp,h5⟩:=yw hx;rw [h5];simp only [valB] at h4;refine ev_go (P:=Tryz.prog) tt tt_ok 5000 35 [.tmp 2] Tryz.func164 rfl Tryz.ntmps164 rfl (nL rfl) (fun E9 w9 hn9 hm9=>?_);refine ⟨by decide,?_⟩;refine ⟨by decide,?_⟩;refine ⟨by decide,?_⟩;refine ⟨by decide,?_⟩;refine ⟨by decide,?_⟩;refine ⟨by decide,?_⟩;refine (congrArg (fun z=>DV.v (.int .i64 z)) ?_:_=_);rw [Gw (k:=1) (M:=6148914691236517205) (by decide) hx rfl (by decide) h1 Em,Gw (k:=2) (M:=3689348814741910323) (by decide) Em rfl (by decide) h2 I4,JF (k:=4) (M:=1085102592571150095) (by decide) h2s rfl (by decide) h3];obtain ⟨z1,z2,z3,g1,g1b,g2,g2b,g3,Ln,g4⟩:=yx hp;rw [<- h4] at g1;have k1:y3 + y3 / 2 ^ (8:Int).toNat=z1:=g1;rw [DE (k:=8) (by decide) (by rw [k1];exact g1b),k1];have k2:z1 + z1 / 2 ^ (16:Int).toNat=z2:=g2;rw [DE (k:=16) (by decide) (by rw [k2];exact g2b),k2];have k3:z2 + z2 / 2 ^ (32:Int).toNat=z3:=g3;rw [DE (k:=32) (by decide) (by rw [k3];exact Ln),k3,<- g4];exact yy Ln
theorem dF (x k i:Nat) (hi:i < 8):(x / 2 ^ (8 * k) % 256).testBit i=x.testBit (8 * k + i):=by
 rw [show (256:Nat)=2 ^ 8 by decide,Nat.testBit_mod_two_pow,decide_eq_true hi,Bool.true_and,Nat.testBit_div_two_pow,Nat.add_comm]
theorem dG (x k:Nat):pop8 (x / 2 ^ (8 * k) % 256)=(((((((x.testBit (8 * k + 0)).toNat + (x.testBit (8 * k + 1)).toNat) + (x.testBit (8 * k + 2)).toNat) + (x.testBit (8 * k + 3)).toNat) + (x.testBit (8 * k + 4)).toNat) + (x.testBit (8 * k + 5)).toNat) + (x.testBit (8 * k + 6)).toNat) + (x.testBit (8 * k + 7)).toNat:=by
 have h:=(uP ⟨x / 2 ^ (8 * k) % 256,Nat.mod_lt _ (by decide)⟩).2.2.2;simp only at h;rw [h,dF x k 0 (by decide),dF x k 1 (by decide),dF x k 2 (by decide),dF x k 3 (by decide),dF x k 4 (by decide),dF x k 5 (by decide),dF x k 6 (by decide),dF x k 7 (by decide)]
def sumB (x:Nat):Nat->Nat
 | 0=>0
 | n + 1=>sumB x n + (x.testBit n).toNat
theorem yz (x:Nat):tf x=sumB x 64:=by
 have h0:=dG x 0;have h1:=dG x 1;have h2:=dG x 2;have h3:=dG x 3;have h4:=dG x 4;have h5:=dG x 5;have h6:=dG x 6;have h7:=dG x 7;simp only [Nat.mul_zero,Nat.pow_zero,Nat.div_one] at h0;simp only [tf,cd,List.map_cons,List.map_nil,List.sum_cons,List.sum_nil,sumB];rw [h0]
 rw [show x / 256=x / 2 ^ (8 * 1) by rfl,h1,show x / 65536=x / 2 ^ (8 * 2) by rfl,h2,show x / 16777216=x / 2 ^ (8 * 3) by rfl,h3,show x / 4294967296=x / 2 ^ (8 * 4) by rfl,h4,
  show x / 1099511627776=x / 2 ^ (8 * 5) by rfl,h5,show x / 281474976710656=x / 2 ^ (8 * 6) by rfl,h6,show x / 72057594037927936=x / 2 ^ (8 * 7) by rfl,h7]
 simp only [Nat.reduceMul,Nat.reduceAdd];omega
theorem mJ (x:Nat):∀ n,0 < sumB x n↔∃ b,b < n/\x.testBit b=true
 | 0=>by simp [sumB]
 | n + 1=>by
  have ih:=mJ x n;simp only [sumB];cases h:x.testBit n
  ·simp only [Bool.toNat_false,Nat.add_zero,ih]
   exact ⟨fun ⟨b,hb,hx⟩=>⟨b,by omega,hx⟩,fun ⟨b,hb,hx⟩=>⟨b,by
    rcases Nat.lt_succ_iff_lt_or_eq.1 hb with hb | rfl
    ·exact ⟨hb,hx⟩
    ·rw [h] at hx;cases hx⟩⟩
  ·simp only [Bool.toNat_true];exact ⟨fun _=>⟨n,by omega,h⟩,fun _=>by omega⟩
theorem rm (x a:Nat) (ha:x.testBit a=true):∀ n,a < n->(1 < sumB x n↔∃ b,b < n/\b≠a/\x.testBit b=true)
 | 0,h=>by omega
 | n + 1,h=>by
  simp only [sumB];by_cases hn:a=n
  ·subst hn;rw [ha,Bool.toNat_true];have:=mJ x a;constructor
   ·intro h1;obtain ⟨b,hb,hx⟩:=this.1 (by omega);exact ⟨b,by omega,by omega,hx⟩
   ·rintro ⟨b,hb,aT,hx⟩;have:=this.2 ⟨b,by omega,hx⟩;omega
  ·have ih:=rm x a ha n (by omega);have hp:=(mJ x n).2 ⟨a,by omega,ha⟩;cases hb:x.testBit n
   ·simp only [Bool.toNat_false,Nat.add_zero,ih]
    exact ⟨fun ⟨b,h1,h2,h3⟩=>⟨b,by omega,h2,h3⟩,fun ⟨b,h1,h2,h3⟩=>⟨b,by
     rcases Nat.lt_succ_iff_lt_or_eq.1 h1 with h1 | rfl
     ·exact ⟨h1,h2,h3⟩
     ·rw [hb] at h3;cases h3⟩⟩
   ·simp only [Bool.toNat_true];exact ⟨fun _=>⟨n,by omega,fun e=>hn e.symm,hb⟩,fun _=>by omega⟩
def bm (p:Nat->Bool) (n:Nat):Option Nat:=(List.range n).find? p
theorem dH {p:Nat->Bool} {n e:Nat} (he:e < n) (hp:p e=true) (h:∀ a,a < e->p a=false):bm p n=some e:=by
 unfold bm;rw [List.find?_eq_some_iff_getElem];refine ⟨hp,e,by simpa using he,by simp,fun j hj=>?_⟩;simp [h j hj]
theorem eX {p:Nat->Bool} {n:Nat} (h:∀ a,a < n->p a=false):bm p n=none:=by
 unfold bm;rw [List.find?_eq_none];intro x hx;simp [h x (by simpa using hx)]
theorem dI {p:Nat->Bool} {n e:Nat} (h:bm p n=some e):e < n/\p e=true/\∀ a,a < e->p a=false:=by
 unfold bm at h;rw [List.find?_eq_some_iff_getElem] at h;obtain ⟨h1,i,hi,rfl,h3⟩:=h;refine ⟨by simpa using hi,h1,fun a ha=>?_⟩;have:=h3 a (by simpa using ha);simpa using this
def jL (c:List Nat) (a:Nat):Bool:=decide (1 < tf (backN c a c.length))
def yA:Option Nat->DV
 | some a=>.cP [.v (.int .i64 (a:Int)),.v (.bool true)]
 | none=>.cP [.v (.int .i64 0),.v (.bool false)]
abbrev pH (c:List Nat) (e:Nat):St:=
 ⟨[(4,⟨[],gB c⟩),(9,⟨[],.v (.int .i64 c.length)⟩),(10,⟨[],.v (.int .i64 e)⟩)],[],[]⟩
theorem ti (rows:List Nat) (hr:bY rows) (h0:rows ≠ []):bD Tryz.prog 99 [gB rows] (yA (bm (jL (closeR rows rows.length)) rows.length)):=by
 have hc:=kU rows hr h0;have gD:=fy hr rows.length hr.1;have hlen:=cv rows rows.length;have hr1:=hr.1;generalize closeR rows rows.length=c at hc gD hlen ⊢;rw [<- hlen];have hl:=om c;refine ev_go (P:=Tryz.prog) tt tt_ok 5000 20 [.tmp 2,.tmp 3] Tryz.func99 rfl Tryz.ntmps99 rfl (nL rfl) (fun E9 w9 hn9 hm9=>?_);refine call_p BT (hc) ax rfl ?_;refine call_p xY (hl) ax rfl ?_;refine aF (fun j st=>∃ e:Nat,st=pH c e/\e<=c.length/\(∀ a,a < e->jL c a=false)/\j=c.length - e) c.length (pH c 0) (aj ⟨_,rfl⟩ wA rfl rfl rfl wB) ⟨0,rfl,by omega,fun a h=>by omega,by omega⟩ ?_;rintro j st ⟨e,rfl,he,n4,rfl⟩;refine br (fun hL=>?_) (fun hL=>?_)
 ·have av:e < c.length:=by have:=hL;simp at this;exact this
  have DC:backN c e c.length < 18446744073709551616:=by
   have h1:=mE c e c.length;have:2 ^ c.length<=2 ^ 64:=Nat.pow_le_pow_right (by decide) (by omega);omega
  refine call_p FW (s9 c gD e av) ax rfl ?_;refine call_p FV (vS _ DC) ax rfl ?_;refine br (fun g=>?_) (fun g=>?_)
  ·have g:jL c e=true:=by
    simp at g;simp [jL];omega
   rw [dH av g n4];refine ⟨_,?_,rfl⟩;exact ax
  ·have g:jL c e=false:=by
    simp at g;simp [jL];omega
   exact ⟨pH c (e + 1),(aj ⟨_,rfl⟩ wA rfl rfl rfl (pj av)),c.length - (e + 1),by omega,e + 1,rfl,by omega,fun a ha=>by
    rcases Nat.lt_succ_iff_lt_or_eq.1 ha with ha | rfl
    ·exact n4 a ha
    ·exact g,rfl⟩
 ·have ch:e=c.length:=by have:=hL;simp at this;omega
  subst ch;rw [eX n4];refine ⟨_,?_,rfl⟩;exact ax
theorem mK {rows:List Nat} {i x a b:Nat} (hi:i < rows.length):ay (rows.set i x) a b=if a=i then x.testBit b else ay rows a b:=by
 unfold ay;simp only [List.getD_eq_getElem?_getD];by_cases h:a=i
 ·subst h;rw [List.getElem?_set_self hi,if_pos rfl];all_goals rfl
 ·rw [List.getElem?_set_ne (Ne.symm h),if_neg h]
theorem ir {rows:List Nat} {k a b:Nat} (hk:k < rows.length):ay (dX rows k) a b=(ay rows a b || (decide (a=k) && decide (b=k))):=by
 unfold dX;rw [mK hk];by_cases h:a=k
 ·subst h;rw [if_pos rfl,cX];simp only [decide_true,Bool.true_and];rw [show decide (a=b)=decide (b=a) from by simp only [eq_comm]];rfl
 ·rw [if_neg h];simp [h]
theorem vT {rows:List Nat} {k i a b:Nat} (hi:i < rows.length):ay (iF k rows i) a b=(ay rows a b || (decide (a=i) && (ay rows a k && ay rows k b))):=by
 unfold iF;by_cases h:ay rows i k=true
 ·rw [if_pos h,mK hi];by_cases ha:a=i
  ·subst ha;rw [if_pos rfl,Nat.testBit_or];simp only [decide_true,Bool.true_and,h];rfl
  ·rw [if_neg ha];simp [ha]
 ·rw [if_neg h];by_cases ha:a=i
  ·subst ha;simp only [Bool.not_eq_true] at h;simp [h]
  ·simp [ha]
theorem oo {rows:List Nat} {k:Nat} (hk:k < rows.length):∀ e,e<=rows.length->∀ a b,ay (cy rows k e) a b=(ay (dX rows k) a b || (decide (a < e) && (ay (dX rows k) a k && ay (dX rows k) k b)))
 | 0,_,a,b=>by simp [cy]
 | e + 1,he,a,b=>by
  have ih:=oo hk e (by omega);rw [gh,vT (by rw [iq];omega),ih a b,ih a k,ih k b];have wO:ay (dX rows k) k k=true:=by rw [ir hk];simp
  generalize ay (dX rows k)=s at *;by_cases h1:a=e
  ·subst h1;simp only [Nat.lt_irrefl,decide_false,Bool.false_and,Bool.or_false,decide_true,Bool.true_and,Nat.lt_succ_self,wO];cases s a b<;>cases s a k<;>cases s k b<;>simp
  ·by_cases h2:a < e
   ·have:a < e + 1:=by omega
    simp [h1,h2,this]
   ·have:¬ a < e + 1:=by omega
    simp [h1,h2,this]
inductive qk (p:Nat->Nat->Prop):Nat->Nat->Prop
 | refl (a:Nat):qk p a a
 | step {a b c:Nat}:qk p a b->p b c->qk p a c
theorem qk.trans {p:Nat->Nat->Prop} {a b c:Nat} (h1:qk p a b) (h2:qk p b c):qk p a c:=by
 induction h2 with
 | refl=>exact h1
 | step _ h ih=>exact .step ih h
theorem qk.mono {p q:Nat->Nat->Prop} (h:∀ a b,p a b->qk q a b) {a b:Nat} (h1:qk p a b):qk q a b:=by
 induction h1 with
 | refl=>exact .refl _
 | step _ h2 ih=>exact ih.trans (h _ _ h2)
def wayQ (p:Nat->Nat->Prop):Nat->Nat->Nat->Prop
 | 0,a,b=>a=b∨p a b
 | k + 1,a,b=>wayQ p k a b∨(wayQ p k a k/\wayQ p k k b)
theorem oq {p:Nat->Nat->Prop} (a:Nat):∀ k,wayQ p k a a
 | 0=>.inl rfl
 | k + 1=>.inl (oq a k)
theorem ou {p:Nat->Nat->Prop} {a b:Nat} (h:p a b):∀ k,wayQ p k a b
 | 0=>.inr h
 | k + 1=>.inl (ou h k)
theorem jM {p:Nat->Nat->Prop}:∀ k a b,wayQ p k a b->qk p a b
 | 0,a,b,h=>by
  rcases h with rfl | h
  ·exact .refl _
  ·exact .step (.refl _) h
 | k + 1,a,b,h=>by
  rcases h with h | ⟨h1,h2⟩
  ·exact jM k a b h
  ·exact (jM k a k h1).trans (jM k k b h2)
theorem gj {p:Nat->Nat->Prop}:∀ k a m b,m < k->wayQ p k a m->wayQ p k m b->wayQ p k a b
 | 0,_,_,_,h,_,_=>by omega
 | k + 1,a,m,b,hm,h1,h2=>by
  by_cases hmk:m=k
  ·subst hmk
   have ny:wayQ p m a m:=by
    rcases h1 with h1 | h1
    ·exact h1
    ·exact h1.1
   have h2':wayQ p m m b:=by
    rcases h2 with h2 | h2
    ·exact h2
    ·exact h2.2
   exact .inr ⟨ny,h2'⟩
  ·have jv:m < k:=by omega
   rcases h1 with h1 | ⟨h1,h3⟩
   ·rcases h2 with h2 | ⟨h2,h4⟩
    ·exact .inl (gj k a m b jv h1 h2)
    ·exact .inr ⟨gj k a m k jv h1 h2,h4⟩
   ·rcases h2 with h2 | ⟨h2,h4⟩
    ·exact .inr ⟨h1,gj k k m b jv h3 h2⟩
    ·exact .inr ⟨h1,h4⟩
theorem mL {rows:List Nat}:∀ k,k<=rows.length->∀ a b,a < rows.length->((ay (closeR rows k) a b=true∨a=b)↔wayQ (fun x y=>ay rows x y=true) k a b)/\(a < k->ay (closeR rows k) a a=true)
 | 0,_,a,b,_=>by
  refine ⟨?_,fun h=>by omega⟩;simp only [closeR,List.range_zero,List.foldl_nil,wayQ];exact or_comm
 | k + 1,hk,a,b,ha=>by
  have ih:=mL (rows:=rows) k (by omega);have sK:k < (closeR rows k).length:=by rw [cv];omega
  have hb:∀ a b,a < rows.length->ay (closeR rows (k + 1)) a b=(ay (dX (closeR rows k) k) a b || (ay (dX (closeR rows k) k) a k && ay (dX (closeR rows k) k) k b)):=fun a b ha=>by
   rw [eW,oo sK _ (Nat.le_refl _)];simp [cv,ha]
  have yB:∀ a b,(ay (dX (closeR rows k) k) a b=true∨a=b)↔(ay (closeR rows k) a b=true∨a=b):=fun a b=>by
   rw [ir sK];simp only [Bool.or_eq_true,Bool.and_eq_true,decide_eq_true_eq];constructor
   ·rintro ((h | ⟨rfl,rfl⟩) | h)
    ·exact .inl h
    ·exact .inr rfl
    ·exact .inr h
   ·rintro (h | h)
    ·exact .inl (.inl h)
    ·exact .inr h
  have wO:ay (dX (closeR rows k) k) k k=true:=by rw [ir sK];simp
  have key:∀ a b,a < rows.length->((ay (closeR rows (k + 1)) a b=true∨a=b)↔wayQ (fun x y=>ay rows x y=true) (k + 1) a b):=fun a b ha=>by
   rw [hb a b ha];show _↔wayQ _ k a b∨(wayQ _ k a k/\wayQ _ k k b);rw [<- (ih a b ha).1,<- (ih a k ha).1,<- (ih k b (by omega)).1,<- yB a b,<- yB a k,<- yB k b];simp only [Bool.or_eq_true,Bool.and_eq_true];constructor
   ·rintro ((h | ⟨h1,h2⟩) | h)
    ·exact .inl (.inl h)
    ·exact .inr ⟨.inl h1,.inl h2⟩
    ·exact .inl (.inr h)
   ·rintro ((h | h) | ⟨h1,h2⟩)
    ·exact .inl (.inl h)
    ·exact .inr h
    ·rcases h1 with h1 | rfl
     ·rcases h2 with h2 | rfl
      ·exact .inl (.inr ⟨h1,h2⟩)
      ·exact .inl (.inl h1)
     ·rcases h2 with h2 | rfl
      ·exact .inl (.inl h2)
      ·exact .inr rfl
  refine ⟨key a b ha,fun hak=>?_⟩;rw [hb a a ha];by_cases h:a=k
  ·subst h;rw [wO];all_goals rfl
  ·have:=(ih a a ha).2 (by omega);rw [ir sK,this];all_goals rfl
theorem tj {rows:List Nat} (hb:∀ a b,a < rows.length->ay rows a b=true->b < rows.length) {a b:Nat} (ha:a < rows.length) (hbl:b < rows.length):ay (closeR rows rows.length) a b=true↔qk (fun x y=>x < rows.length/\ay rows x y=true) a b:=by
 have hw:=mL (rows:=rows) rows.length (Nat.le_refl _) a b ha
 have h1:ay (closeR rows rows.length) a b=true↔wayQ (fun x y=>ay rows x y=true) rows.length a b:=by
  rw [<- hw.1];constructor
  ·exact .inl
  ·rintro (h | rfl)
   ·exact h
   ·exact hw.2 ha
 rw [h1];constructor
 ·intro h
  have av:∀ {x},qk (fun x y=>ay rows x y=true) a x->qk (fun x y=>x < rows.length/\ay rows x y=true) a x/\x < rows.length:=by
   intro x hx
   induction hx with
   | refl=>exact ⟨.refl _,ha⟩
   | step _ h2 ih=>exact ⟨.step ih.1 ⟨ih.2,h2⟩,hb _ _ ih.2 h2⟩
  exact (av (jM _ _ _ h)).1
 ·intro h
  have:wayQ (fun x y=>ay rows x y=true) rows.length a b/\b < rows.length:=by
   clear h1 hw hbl
   induction h with
   | refl=>exact ⟨oq _ _,ha⟩
   | step _ h2 ih=>exact ⟨gj _ _ _ _ ih.2 ih.1 (ou h2.2 _),hb _ _ h2.1 h2.2⟩
  exact this.1
theorem yC {rows:List Nat} {p:Nat × Nat} {a b:Nat} (hp:p.1 < rows.length):ay (mH rows p) a b=(ay rows a b || (decide (a=p.1) && decide (b=p.2))):=by
 unfold mH;rw [mK hp];by_cases h:a=p.1
 ·subst h;rw [if_pos rfl,cX];simp only [decide_true,Bool.true_and];rw [show decide (p.2=b)=decide (b=p.2) from by simp only [eq_comm]];rfl
 ·rw [if_neg h];simp [h]
theorem ov:∀ (l:List (Nat × Nat)) (rows:List Nat) (a b:Nat),(∀ p∈l,p.1 < rows.length)->(ay (l.foldl mH rows) a b=true↔ay rows a b=true∨(a,b)∈l)
 | [],_,_,_,_=>by simp
 | p :: l,rows,a,b,h=>by
  rw [List.foldl_cons,ov l _ a b (fun q hq=>by rw [jK];exact h q (by simp [hq])),yC (h p (by simp))];simp only [Bool.or_eq_true,Bool.and_eq_true,decide_eq_true_eq,List.mem_cons];constructor
  ·rintro ((h1 | ⟨rfl,rfl⟩) | h1)
   ·exact .inl h1
   ·exact .inr (.inl rfl)
   ·exact .inr (.inr h1)
  ·rintro (h1 | rfl | h1)
   ·exact .inl (.inl h1)
   ·exact .inl (.inr ⟨rfl,rfl⟩)
   ·exact .inr h1
theorem mM {n:Nat} {l:List (Nat × Nat)} (h:∀ p∈l,p.1 < n) (a b:Nat):ay (cp n l) a b=true↔(a,b)∈l:=by
 unfold cp;rw [ov l _ a b (fun p hp=>by rw [List.length_replicate];exact h p hp)];constructor
 ·rintro (h1 | h1)
  ·unfold ay at h1;rw [List.getD_eq_getElem?_getD,List.getElem?_replicate] at h1;split at h1<;>simp at h1
  ·exact h1
 ·exact .inr
def eP (n:Nat) (l:List (Nat × Nat)) (a b:Nat):Bool:=ay (closeR (cp n l) n) a b
def vU (n:Nat) (l:List (Nat × Nat)):Prop:=∀ p∈l,p.1 < n/\p.2 < n
theorem jN {n:Nat} {l:List (Nat × Nat)} (h:vU n l) {a b:Nat} (ha:a < n) (hb:b < n):eP n l a b=true↔qk (fun x y=>(x,y)∈l) a b:=by
 have hlen:(cp n l).length=n:=eF n l;unfold eP
 have:=tj (rows:=cp n l) (fun a b _ yv=>by
  rw [mM (fun p hp=>(h p hp).1)] at yv
  rw [hlen];exact (h _ yv).2) (a:=a) (b:=b) (by omega) (by omega)
 rw [hlen] at this;rw [this];constructor
 ·exact qk.mono fun x y pu=>.step (.refl _) ((mM (fun p hp=>(h p hp).1) x y).1 pu.2)
 ·exact qk.mono fun x y pu=>.step (.refl _) ⟨(h _ pu).1,(mM (fun p hp=>(h p hp).1) x y).2 pu⟩
theorem ow {n:Nat} {l:List (Nat × Nat)} (h:vU n l) {a:Nat} (ha:a < n):eP n l a a=true:=(jN h ha ha).2 (.refl _)
theorem tp {n:Nat} {l:List (Nat × Nat)} (h:vU n l) {a b c:Nat} (ha:a < n) (hb:b < n) (hc:c < n) (h1:eP n l a b=true) (h2:eP n l b c=true):eP n l a c=true:=
 (jN h ha hc).2 (((jN h ha hb).1 h1).trans ((jN h hb hc).1 h2))
def mN (n:Nat) (f:Nat->Nat->Bool) (a:Nat):Bool:=(List.range n).any fun b=>decide (a≠b) && (f a b && f b a)
theorem yD {n:Nat} {l:List (Nat × Nat)} (hn:n<=64) (h:vU n l) {a:Nat} (ha:a < n):jL (closeR (cp n l) n) a=mN n (eP n l) a:=by
 have hlen:(closeR (cp n l) n).length=n:=by rw [cv,eF]
 unfold jL mN;rw [yz,hlen,Bool.eq_iff_iff,decide_eq_true_eq]
 have haa:(backN (closeR (cp n l) n) a n).testBit a=true:=by
  rw [kr];have:ay (closeR (cp n l) n) a a=true:=ow h ha;simp [ha,this]
 rw [rm _ a haa 64 (by omega)];simp only [List.any_eq_true,List.mem_range,Bool.and_eq_true,decide_eq_true_eq,kr];constructor
 ·rintro ⟨b,_,aT,hb,h1,h2⟩;exact ⟨b,hb,fun e=>aT e.symm,h1,h2⟩
 ·rintro ⟨b,hb,aT,h1,h2⟩;exact ⟨b,by omega,fun e=>aT e.symm,hb,h1,h2⟩
theorem pI {p q:Nat->Bool} {n:Nat} (h:∀ a,a < n->p a=q a):bm p n=bm q n:=by
 unfold bm
 have:∀ (l:List Nat),(∀ a∈l,p a=q a)->l.find? p=l.find? q:=by
  intro l
  induction l with
  | nil=>intro _;rfl
  | cons x r ih=>
   intro hl;rw [List.find?_cons,List.find?_cons,hl x (by simp),ih (fun a ha=>hl a (by simp [ha]))]
 exact this _ fun a ha=>h a (List.mem_range.1 ha)
theorem AS {n:Nat} {l:List (Nat × Nat)} (hn:n<=64) (h:vU n l):bm (jL (closeR (cp n l) n)) n=bm (mN n (eP n l)) n:=
 pI fun _ ha=>yD hn h ha
def Pts.take:Nat->Pts->Pts
 | 0,_=>.nil
 | _ + 1,.nil=>.nil
 | e + 1,.cons p t r=>.cons p t (r.take e)
structure Sch where
 ae:List Wd
 order:List (Wd × Wd)
 types:List (Wd × Ty)
 root:Ty
def HZ (p:Wd × Wd):List DV:=[.v (.string p.1.s),.v (.int .i64 p.1.a),.v (.string p.2.s),.v (.int .i64 p.2.a)]
def mO (l:List (Wd × Wd)):List (List DV):=l.map HZ
def Lo (x:Wd × Ty):List DV:=.v (.string x.1.s) :: .v (.int .i64 x.1.a) :: eV x.2
def dNms (l:List (Wd × Ty)):List (List DV):=l.map Lo
def Gx (s:Sch):List DV:=.sl 2 (bL s.ae) none :: .sl 4 (mO s.order) none :: .sl 11 (dNms s.types) none :: eV s.root
def prsWt:List (Wd × Wd)->Nat
 | []=>0
 | p :: r=>p.1.wt + p.2.wt + prsWt r
def nmsWt:List (Wd × Ty)->Nat
 | []=>0
 | p :: r=>p.1.wt + p.2.wt + nmsWt r
def Sch.wt (s:Sch):Nat:=wdsWt s.ae + prsWt s.order + nmsWt s.types + s.root.wt
theorem jO (l:List (Wd × Wd)):(mO l).length=l.length:=by simp [mO]
theorem eG (l:List (Wd × Ty)):(dNms l).length=l.length:=by simp [dNms]
theorem rn {l:List (Wd × Wd)} {j:Nat} {p:Wd × Wd} (h:l[j]? = some p):(mO l)[j]? = some (HZ p):=by simp [mO,h]
theorem dNms_get {l:List (Wd × Ty)} {j:Nat} {p:Wd × Ty} (h:l[j]? = some p):(dNms l)[j]? = some (Lo p):=by simp [dNms,h]
theorem ku:∀ l:List (Wd × Wd),128 * l.length<=prsWt l
 | []=>Nat.le_refl _
 | p :: r=>by have:=ku r;simp only [List.length_cons,prsWt,Wd.wt];omega
theorem kv:∀ l:List (Wd × Ty),256 * l.length<=nmsWt l
 | []=>Nat.le_refl _
 | p :: r=>by have:=kv r;have:=p.2.iS;simp only [List.length_cons,nmsWt,Wd.wt];omega
theorem fB:∀ {l:List (Wd × Ty)} {p:Wd × Ty},p∈l->p.1.wt + p.2.wt<=nmsWt l
 | x :: r,p,h=>by
  rcases List.mem_cons.1 h with h | h
  ·subst h;simp only [nmsWt];omega
  ·have:=fB h;simp only [nmsWt];omega
end Go.Proofs.YtfifjddnnmfeoaaGreat
set_option maxRecDepth 100000
namespace Go.Proofs.YtfifjddnnmfeoaaGreat
open Go Go.RowKit Dv Tryz
end Go.Proofs.YtfifjddnnmfeoaaGreat
set_option maxRecDepth 100000
namespace Go.Proofs.YtfifjddnnmfeoaaGreat
open Go Go.RowKit Dv Tryz
theorem vV {l:List Wd} {i:Nat} {x:Wd} (h:l[i]? = some x):al (l.take (i + 1))=al (l.take i) ++ [x.s]:=by
 rw [List.take_add_one,h];simp [al]
theorem uR (l:List Wd) (s:ByteArray):bX l s=true↔s∈al l:=by
 simp only [bX,List.any_eq_true,decide_eq_true_eq,al,List.mem_map]
theorem gk {l:List Wd} {i:Nat} {x:Wd} (h:l[i]? = some x) (hn:(al (l.take i)).Nodup):(al (l.take (i + 1))).Nodup↔bX (l.take i) x.s=false:=by
 rw [vV h,List.nodup_append];constructor
 ·rintro ⟨_,_,h3⟩;cases hb:bX (l.take i) x.s
  ·rfl
  ·exact absurd rfl (h3 x.s ((uR _ _).1 hb) x.s (by simp))
 ·intro hb;refine ⟨hn,by simp,fun a ha b iB=>?_⟩;simp only [List.mem_singleton] at iB;subst iB;rintro rfl;rw [(uR _ _).2 ha] at hb;cases hb
theorem ox {l:List Wd} {i:Nat} {x:Wd} (a:Int) (h:l[i]? = some x) (hn:(al (l.take i)).Nodup) :
  cV (al (l.take (i + 1))) x.s a=if aC l i x≠0 then (aC l i x,a) else (0,0):=by
 have hs:=gk h hn;unfold cV aC;by_cases h1:bf x.s=true
 ·rw [if_pos h1,if_pos h1];by_cases h2:bX (l.take i) x.s=true
  ·rw [if_pos h2,if_neg (fun hc=>by rw [hs.1 hc] at h2;cases h2)];all_goals rfl
  ·rw [if_neg h2,if_pos (hs.2 (by simpa using h2))];all_goals rfl
 ·rw [if_neg h1,if_neg h1];all_goals rfl
theorem gl {l:List Wd} {i:Nat} {x:Wd} (h:l[i]? = some x) (hn:(al (l.take i)).Nodup) (hz:aC l i x=0):(al (l.take (i + 1))).Nodup:=by
 refine (gk h hn).2 ?_;unfold aC at hz;by_cases h1:bf x.s=true
 ·rw [if_pos h1] at hz;by_cases h2:bX (l.take i) x.s=true
  ·rw [if_pos h2] at hz;simp at hz
  ·simpa using h2
 ·rw [if_neg h1] at hz;simp at hz
theorem oy (l:List Wd):∀ (d e:Nat),e + d=l.length->(enumP l e)=(0,0)->(al (l.take e)).Nodup->enumP l l.length=enumL l e (l.drop e)
 | 0,e,hd,hz,hn=>by
  have:e=l.length:=by omega
  subst this;rw [hz,List.drop_length];all_goals rfl
 | d + 1,e,hd,hz,hn=>by
  obtain ⟨x,hx⟩:∃ x,l[e]? = some x:=⟨_,gE (by omega)⟩;have h1:=mD (by rw [hz]) hx;rw [ox x.a hx hn] at h1;rw [drop_cons hx];simp only [enumL];by_cases hf:aC l e x≠0
  ·rw [if_pos hf] at h1 ⊢;have a7:=iW (l:=l) (e:=e + 1) (by rw [h1];exact hf) d;rw [show e + 1 + d=l.length by omega] at a7;rw [a7,h1]
  ·rw [if_neg hf] at h1 ⊢;exact oy l d (e + 1) (by omega) h1 (gl hx hn (by simpa using hf))
theorem yE (h:Hd):gP h=gf h:=by
 unfold gP gf;by_cases h0:h.af=[]
 ·rw [if_pos h0,if_pos (by simp [h0])]
 ·rw [if_neg h0,if_neg (by simpa using h0)];by_cases h1:64 < h.af.length
  ·rw [if_pos h1,if_pos h1]
  ·rw [if_neg h1,if_neg h1];have:=oy h.af h.af.length 0 (by omega) rfl (by simp [al]);simpa using this
def gR (p:Ph):Ph:=⟨p.name,true,[],0,0,0,0,[]⟩
theorem AU (p:Ph) (t:Ty):bE p t (gR p) bl=(bz p cS && sameTy t bl):=by
 have e:bz p (gR p)=bz p cS:=rfl;unfold bE;rw [e];have e2:decide (p.name.s=(gR p).name.s)=true:=decide_eq_true rfl;rw [e2,Bool.true_and]
theorem empty_eq (p:Ph):bE p bl cM bl=(decide (p.name.s=aE) && bz p cM):=by
 have e:sameTy bl bl=true:=by simp [bl,x6,sameTy,iU,samePts,sameWds]
 simp only [bE,e,Bool.and_true];rfl
def cH (L:List ByteArray) (s:ByteArray):Option Nat:=bm (fun i=>decide (L[i]? = some s)) L.length
theorem dw {L:List ByteArray} {s:ByteArray} {p:Nat} (h:cH L s=some p):p < L.length/\L[p]? = some s/\∀ j,L[j]? = some s->p<=j:=by
 obtain ⟨h1,h2,h3⟩:=dI h;refine ⟨h1,by simpa using h2,fun j hj=>?_⟩;rcases Nat.lt_or_ge j p with h4 | h4
 ·have:=h3 j h4;simp [hj] at this
 ·exact h4
theorem AV {L:List ByteArray} {s:ByteArray} {p:Nat} (h1:L[p]? = some s) (h2:∀ j,L[j]? = some s->p<=j):cH L s=some p:=by
 refine dH (gS h1).1 (by simpa using h1) fun a ha=>?_;simp only [decide_eq_false_iff_not];intro h3;have:=h2 a h3;omega
theorem vW {L:List ByteArray} {s:ByteArray} (h:∀ j:Nat,L[j]? ≠ some s):cH L s=none:=eX fun a _=>by simpa using h a
theorem dx (L:List ByteArray) (ak:List Nat) (s:ByteArray) (hT:di L ak) (hl:ak.length<=1099511627776) :
  bD Tryz.prog 93 [.pt (bA L ak) 0,.v (.string s)] (yA (cH L s)):=by
 by_cases hm:s∈L
 ·obtain ⟨j,hj⟩:=List.mem_iff_getElem?.1 hm;obtain ⟨q,p,hq,hp⟩:=hT.all j s hj;rw [AV hp fun j' dN=>hT.fst q p j' s hq hp dN];exact find_spec L ak s q p hT hl hq hp
 rw [vW fun j hj=>hm (mG hj)]
 let pr:Nat->Prop:=fun i=>i=ak.length∨∃ p t,ak[i]? = some p/\L[p]? = some t/\nE t s=false
 obtain ⟨m,eO,zL⟩:=least (p:=pr) ⟨ak.length,.inl rfl⟩;have hmn:m<=ak.length:=zL _ (.inl rfl);refine ev_go (P:=Tryz.prog) tt tt_ok 5000 47 [.tmp 4,.tmp 5] Tryz.func93 rfl Tryz.ntmps93 rfl (nL rfl) (fun E9 w9 hn9 hm9=>?_)
 have dS:∀ i:Nat,i < ak.length->bD Tryz.prog 160 [.v (.int .i64 i),.pt [.pt (bA L ak) 0] 0,.pt [.v (.string s)] 0] (.v (.bool (decide (m<=i)))):=by
  intro i hi;obtain ⟨p',jC⟩:∃ p',ak[i]? = some p':=⟨_,gE hi⟩;obtain ⟨t,ht⟩:∃ t,L[p']? = some t:=⟨_,gE (hT.lt i p' jC)⟩;have:=ml L ak s i p' t jC ht
  have e:(!nE t s)=decide (m<=i):=by
   by_cases h:m<=i
   ·have:nE t s=false:=by
     rcases eO with eO | ⟨p,u,h1,h2,h3⟩
     ·omega
     ·rcases Nat.lt_or_eq_of_le h with h4 | h4
      ·have h5:=hT.Jm m i p p' u t h4 h1 jC h2 ht;cases h6:nE t s
       ·rfl
       ·have:=cJ h5 h6;unfold nE at h3;rw [this] at h3;cases h3
      ·subst h4;rw [h1] at jC;simp only [oI] at jC;subst jC;rw [h2] at ht;simp only [oI] at ht;subst ht;exact h3
    simp [this,h]
   ·have:nE t s=true:=by
     cases h6:nE t s
     ·exact absurd (zL i (.inr ⟨p',t,jC,ht,h6⟩)) h
     ·rfl
    simp [this,h]
  rw [e] at this;exact this
 have hS:=kR 160 B0 [.pt [.pt (bA L ak) 0] 0,.pt [.v (.string s)] 0] ak.length m hl hmn ax rfl dS;refine pv BZ hS (by repeat' (first | exact rfl | exact trivial | exact Or.inr (Or.inl ⟨_,rfl⟩) | exact Or.inr ⟨_,rfl⟩ | exact Or.inl ⟨rfl,rfl⟩ | exact Or.inl rfl | refine Or.inr ⟨_,_,rfl,Nat.zero_le _,rfl,?_⟩ | refine ⟨_,_,rfl,?_,?_⟩ | refine ⟨_,rfl,?_⟩ | exact congrArg (fun z=>DV.v (.int .i64 z)) (congrArg Nat.cast (ba ak)) | refine Or.inr (Or.inr (Or.inr ⟨_,_,rfl,?_⟩)) | exact Or.inl rfl | refine Or.inr ?_)) rfl ?_;refine cw (fun _=>false) mo (by decide +kernel) ?_;refine br (fun h=>?_) (fun h=>?_)
 ·have av:m < ak.length:=by
   have:decide ((m:Int)=((dInts ak).length:Int))=false:=by simpa using h
   simp [ba] at this;omega
  rcases eO with eO | ⟨p,t,h1,h2,h3⟩
  ·omega
  refine ⟨_,⟨by omega,cx h1⟩,?_⟩;refine ⟨_,⟨by omega,cT h2⟩,?_⟩;refine br (fun h4=>?_) (fun h4=>?_)
  ·exact ⟨_,ax,rfl⟩
  ·exfalso
   have hts:t=s:=by
    simp [aH] at h4;exact h4
   exact hm (hts ▸ mG h2)
 ·exact ⟨_,ax,rfl⟩
def fC (l:List Wd) (o:List (Wd × Wd)):Ft:=
 if l=[] then (15,0)
 else if 32 < l.length then (8,((l[32]?).getD (⟨aE,0⟩:Wd)).a)
 else if 256 < o.length then (8,((o[256]?).getD ((⟨aE,0⟩,⟨aE,0⟩):Wd × Wd)).1.a)
 else (0,0)
theorem vX (l:List Wd) (o:List (Wd × Wd)):bD Tryz.prog 94 [.sl 2 (bL l) none,.sl 4 (mO o) none] (fC l o).d:=by
 refine ev_go (P:=Tryz.prog) tt tt_ok 5000 30 [.cell 4 54] Tryz.func94 rfl Tryz.ntmps94 rfl (nL rfl) (fun E9 w9 hn9 hm9=>?_);refine br (fun h=>?_) (fun h=>?_)
 ·have h:l=[]:=by simpa [aw] using h
  refine ⟨_,?_,rfl⟩;rw [fC,if_pos h];exact ax
 have h:¬ l=[]:=by simpa [aw] using h
 refine br (fun h1=>?_) (fun h1=>?_)
 ·have h1:32 < l.length:=by simp [aw] at h1;omega
  obtain ⟨x,hx⟩:∃ x,l[32]? = some x:=⟨_,gE h1⟩;refine ⟨qh x,⟨by omega,bU hx⟩,?_⟩;refine ⟨_,?_,rfl⟩;rw [fC,if_neg h,if_pos h1,hx];exact ax
 have h1:¬ 32 < l.length:=by simp [aw] at h1;omega
 refine br (fun h2=>?_) (fun h2=>?_)
 ·have h2:256 < o.length:=by simp [jO] at h2;omega
  obtain ⟨x,hx⟩:∃ x,o[256]? = some x:=⟨_,gE h2⟩;refine ⟨HZ x,⟨by omega,rn hx⟩,?_⟩;refine ⟨_,?_,rfl⟩;rw [fC,if_neg h,if_neg h1,if_pos h2,hx];exact ax
 have h2:¬ 256 < o.length:=by simp [jO] at h2;omega
 refine ⟨_,?_,rfl⟩;rw [fC,if_neg h,if_neg h1,if_neg h2];exact ax
def Gy (f:Ft) (L:List ByteArray):DV:=.cP [if f.1=0 then .sl 1 (bV L) none else .v (.slice none 0 0),f.d]
abbrev yF (l:List Wd) (n e:Nat):St:=
 ⟨[(3,⟨[],.loc 0 0⟩),(4,⟨[],.sl 1 (bV (al (l.take e))) (some 0)⟩),(7,⟨[],.sl 2 (bL l) none⟩),(8,⟨[],.v (.int .i64 (bL l).length)⟩),(9,⟨[],.v (.int .i64 e)⟩)],[[.v (.int .i64 0),.v (.int .i64 0)]],[⟨n,9,1,none⟩]⟩
theorem mP {all:List Wd} {e:Nat} {w:Wd} (h:all[e]? = some w):enumL all e (all.drop e)=if aC all e w≠0 then (aC all e w,w.a) else enumL all (e + 1) (all.drop (e + 1)):=by
 rw [drop_cons h,enumL]
theorem rq (l:List Wd) (hs:wdsWt l<=1099511627776):bD Tryz.prog 95 [.sl 2 (bL l) none] (Gy (enumL l 0 l) (al l)):=by
 have sE:=bT l;refine ev_go (P:=Tryz.prog) tt tt_ok 5000 36 [.tmp 2,.cell 3 54] Tryz.func95 rfl Tryz.ntmps95 rfl (nL rfl) (fun E9 w9 hn9 hm9=>?_);refine aF (fun j st=>∃ e:Nat,st=yF l e e/\e<=l.length/\(al (l.take e)).Nodup/\enumL l 0 l=enumL l e (l.drop e)/\j=l.length - e) l.length (yF l 0 0) (fu ⟨0,9,1,none⟩ rfl ⟨_,rfl⟩ rfl wA rfl rfl BM) ⟨0,rfl,by omega,by simp [al],rfl,by omega⟩ ?_;rintro j st ⟨e,rfl,he,hnd,bd,rfl⟩;rw [bd];refine br (fun hL=>?_) (fun hL=>?_)
 ·have av:e < l.length:=by simpa [aw] using hL
  obtain ⟨w,hw⟩:∃ w,l[e]? = some w:=⟨_,gE av⟩;have JD:=ik (mG hw);have qj:=fw hw;have a7:=mP hw;have qf:=gk hw hnd;have Ew:=iT (al (l.take (e + 1))) (by simp [al];omega);rw [<- qj] at Ew;refine ⟨qh w,⟨by omega,bU hw⟩,?_⟩;refine ⟨by simp [aX,al];omega,⟨by simp [aX,al,maxLen];omega,by simp [aX,al];omega⟩,?_⟩;refine call_p qV (eD w.s (by omega)) ax rfl ?_;refine br (fun hN=>?_) (fun hN=>?_)
  ·have hN:bf w.s=false:=by simpa using hN
   have hf:aC l e w=9:=by simp [aC,hN]
   rw [a7,hf,if_pos (by decide)];refine aV mo (by decide +kernel) ?_;exact ⟨_,ax,rfl⟩
  ·have hN:bf w.s=true:=by simpa using hN
   refine cj xX rfl Ew ax (fun r hr=>?_);obtain ⟨z,rfl,hz⟩:=hr;refine br (fun h2=>?_) (fun h2=>?_)
   ·have h2:0<=z:=by simpa using h2
    have hd:bX (l.take e) w.s=true:=by
     cases hd:bX (l.take e) w.s
     ·exact absurd (qf.2 hd) (hz.1 h2)
     ·rfl
    have hf:aC l e w=10:=by simp [aC,hN,hd]
    rw [a7,hf,if_pos (by decide)];refine aV mo (by decide +kernel) ?_;exact ⟨_,ax,rfl⟩
   ·have h2:¬ 0<=z:=by simpa using h2
    have mf:(al (l.take (e + 1))).Nodup:=Classical.byContradiction fun hn=>h2 (hz.2 hn);have hf:aC l e w=0:=by simp [aC,hN,qf.1 mf]
    rw [hf,if_neg (by simp)] at a7;refine ⟨yF l (e + 1) (e + 1),(aj ⟨_,rfl⟩ wA rfl rfl rfl (Ej av qj)),l.length - (e + 1),by omega,e + 1,rfl,by omega,mf,a7,rfl⟩
 ·have ch:e=l.length:=by
   have:=hL;simp [aw] at this;omega
  have h0:enumL l e (l.drop e)=(0,0):=by rw [ch,List.drop_length];all_goals rfl
  rw [h0];have ht:l.take e=l:=by rw [ch,List.take_length]
  rw [ht];exact ⟨_,ax,rfl⟩
def numF (L:List ByteArray):List (Wd × Wd)->Ft
 | []=>(0,0)
 | p :: r=>if cH L p.1.s=none then (17,p.1.a) else if cH L p.2.s=none then (17,p.2.a) else numF L r
def DF (L:List ByteArray) (p:Wd × Wd):Nat × Nat:=((cH L p.1.s).getD 0,(cH L p.2.s).getD 0)
def cC (L:List ByteArray) (o:List (Wd × Wd)):List (Nat × Nat):=o.map (DF L)
def Gz (f:Ft) (l:List (Nat × Nat)):DV:=.cP [if f.1=0 then .sl 2 (lr l) none else .v (.slice none 0 0),f.d]
theorem vY {L:List ByteArray} {o:List (Wd × Wd)} {e a b:Nat} {x:Wd × Wd} (h:o[e]? = some x) (ha:cH L x.1.s=some a) (hb:cH L x.2.s=some b):lr (cC L (o.take e)) ++ [[DV.v (.int .i64 (a:Int)),DV.v (.int .i64 (b:Int))]]=lr (cC L (o.take (e + 1))):=by
 rw [List.take_add_one,h];simp [lr,cC,DF,ha,hb,JE]
abbrev yG (L:List ByteArray) (ak:List Nat) (o:List (Wd × Wd)) (n e:Nat):St:=
 ⟨[(0,⟨[],.pt (bA L ak) 0⟩),(5,⟨[],.loc 0 0⟩),(6,⟨[],.sl 2 (lr (cC L (o.take e))) (some 0)⟩),(12,⟨[],.sl 4 (mO o) none⟩),(13,⟨[],.v (.int .i64 (mO o).length)⟩),(14,⟨[],.v (.int .i64 e)⟩)],[[.v (.int .i64 0),.v (.int .i64 0)]],[⟨n,257,2,none⟩]⟩
theorem nF (L:List ByteArray) (ak:List Nat) (hT:di L ak) (hl:ak.length<=1099511627776) (o:List (Wd × Wd)) (hs:prsWt o<=1099511627776) :
  bD Tryz.prog 97 [.pt (bA L ak) 0,.sl 4 (mO o) none] (Gz (numF L o) (cC L o)):=by
 have sE:=ku o;refine ev_go (P:=Tryz.prog) tt tt_ok 5000 55 [.tmp 4,.cell 5 54] Tryz.func97 rfl Tryz.ntmps97 rfl (nL rfl) (fun E9 w9 hn9 hm9=>?_);refine aF (fun j st=>∃ e:Nat,st=yG L ak o e e/\e<=o.length/\numF L o=numF L (o.drop e)/\j=o.length - e) o.length (yG L ak o 0 0) (fu ⟨0,257,2,none⟩ rfl ⟨_,rfl⟩ rfl wA rfl rfl BM) ⟨0,rfl,by omega,rfl,by omega⟩ ?_;rintro j st ⟨e,rfl,he,bd,rfl⟩;rw [bd];refine br (fun hL=>?_) (fun hL=>?_)
 ·have av:e < o.length:=by simpa [jO] using hL
  obtain ⟨w,hw⟩:∃ w,o[e]? = some w:=⟨_,gE av⟩;have a7:numF L (o.drop e)=if cH L w.1.s=none then (17,w.1.a) else if cH L w.2.s=none then (17,w.2.a) else numF L (o.drop (e + 1)):=by rw [drop_cons hw,numF]
  have Ex:=dx L ak w.1.s hT hl;have uv:=dx L ak w.2.s hT hl;refine ⟨HZ w,⟨by omega,rn hw⟩,?_⟩
  cases ha:cH L w.1.s with
  | none=>
   rw [ha] at Ex;refine call_p mi (Ex) ax rfl ?_;rw [a7,if_pos ha];refine aV mo (by decide +kernel) ?_;exact ⟨_,ax,rfl⟩
  | some a=>
   rw [ha] at Ex;refine call_p mi (Ex) ax rfl ?_
   cases hb:cH L w.2.s with
   | none=>
    rw [hb] at uv;refine call_p mi (uv) ax rfl ?_;rw [a7,if_neg (by rw [ha];simp),if_pos hb];refine aV mo (by decide +kernel) ?_;exact ⟨_,ax,rfl⟩
   | some b=>
    rw [hb] at uv;refine call_p mi (uv) ax rfl ?_;rw [if_neg (by rw [ha];simp),if_neg (by rw [hb];simp)] at a7;refine ⟨by simp [gQ,cC];omega,⟨by simp [gQ,cC,maxLen];omega,by simp [gQ,cC];omega⟩,?_⟩;refine ⟨yG L ak o (e + 1) (e + 1),(aj ⟨_,rfl⟩ wA rfl rfl rfl (by repeat' (first | exact trivial | exact ah rfl | exact ap (ei av (by omega)) | exact gw (vY hw ha hb) rfl | refine ⟨⟨_,rfl,?_⟩,?_⟩))),o.length - (e + 1),by omega,e + 1,rfl,by omega,a7,rfl⟩
 ·have ch:e=o.length:=by
   have:=hL;simp [jO] at this;omega
  have h0:numF L (o.drop e)=(0,0):=by rw [ch,List.drop_length];all_goals rfl
  rw [h0];have ht:o.take e=o:=by rw [ch,List.take_length]
  rw [ht];exact ⟨_,ax,rfl⟩
end Go.Proofs.YtfifjddnnmfeoaaGreat
namespace Go.Proofs.YtfifjddnnmfeoaaGreat
namespace Dv
open Go Go.RowKit
section
variable {X:Ctx} {st:St} {k:List It} {E:En} {a:Act} {w:World}
def Wk (X:Ctx) (st aK:St):Prop:=∀ E a w,Rel X E st a w->∃ E',Rel X E' aK a w
theorem Wk.refl (X:Ctx) (st:St):Wk X st st:=fun E _ _ h=>⟨E,h⟩
theorem Wk.trans {X:Ctx} {s1 s2 s3:St} (h1:Wk X s1 s2) (h2:Wk X s2 s3):Wk X s1 s3:=fun _ _ _ h=>by
 obtain ⟨E1,h3⟩:=h1 _ _ _ h;exact h2 _ _ _ h3
theorem Wk.DG {X:Ctx} {s1 s2:St} (h:qL X.n0 X.m0 s1 s2):Wk X s1 s2:=fun _ _ _ hr=>ma hr h
theorem vZ {f:FuncId} {args aU:List DV} {os:List (List DV)} (n1 m1:Nat) (qC:Nat.ble n1 st.bx.length=true) (eO:Nat.ble m1 st.tk.length=true)
  (lh:gG [] n1 n1 m1 os (st.bx.take n1)) (ha:CcL [] n1 n1 m1 aU args)
  {Φ:DV->List (List DV)->List TkE->Prop} (hc:IG false X.P f aU os (st.tk.take m1) X.bt Φ) (a7:X.still=false) {vs:List Value} (h:Rel X E st a w) (hv:RvL E args vs) :
  Calls X.P f vs.toArray w fun e w'=>∃ v r eH bF E',e = .returned v/\Φ r eH bF /\ eH.length=n1/\bF.length=m1/\Rel X E' ⟨st.sl,eH ++ st.bx.drop n1,bF ++ st.tk.drop m1⟩ a w' /\ Rv E' r v/\Ext E E' /\ E'.β=E.β /\
   ∀ (i:Nat) b,n1<=i->E.β[i]? = some b->w'.heap[b]? = w.heap[b]?:=by
 have qC:=nL qC;have eO:=nL eO;have hlen:=h.env.len;have vI:=h.env.tl;have nD:=h.tk;have htkl:E.tk.length=st.tk.length:=by rw [nD]
 let E1:En:=⟨E.c,E.β.take n1,E.tk.take m1,E.τ.take m1⟩
 have hfz:wT E E1 [] n1:=⟨fun _ _ h=>h,fun i cs _ hi=>by simp at hi⟩
 have nC:vg E E1 n1 m1:={
  β:=fun i b hi hb=>by show (E.β.take n1)[i]? = _;rw [List.getElem?_take,if_pos hi];exact hb
  tk:=fun k hk=>⟨by show (E.tk.take m1)[k]? = _;rw [List.getElem?_take,if_pos hk],by show (E.τ.take m1)[k]? = _;rw [List.getElem?_take,if_pos hk]⟩ }
 obtain ⟨fj,Ff⟩:=lh.get;have JG:os.length=n1:=by rw [fj,List.length_take];omega
 have GA:∀ (j:Nat) y,(E.τ.take m1)[j]? = some y->j < m1/\E.τ[j]? = some y:=fun j y hy=>by
  rw [List.getElem?_take] at hy;split at hy
  ·rename_i hj;exact ⟨hj,hy⟩
  ·cases hy
 have hkg:∀ (j:Nat) q,(E.tk.take m1)[j]? = some q->j < m1/\E.tk[j]? = some q:=fun j y hy=>by
  rw [List.getElem?_take] at hy;split at hy
  ·rename_i hj;exact ⟨hj,hy⟩
  ·cases hy
 have FB:Env E1 os w:={
  len:=by show (E.β.take n1).length=_;rw [List.length_take,JG];omega
  tl:=by show (E.τ.take m1).length=(E.tk.take m1).length;rw [List.length_take,List.length_take,vI]
  cr:=fun i cs' hi=>by
   obtain ⟨cs,bK,sm⟩:=Ff i cs' hi;rw [List.getElem?_take] at bK;split at bK
   ·rename_i av;obtain ⟨b,ty,arr,hb,hw,hc⟩:=h.env.cr i cs bK;exact ⟨b,ty,arr,nC.β i b av hb,hw,CcL.sound hfz nC sm hc.1,hc.2⟩
   ·cases bK
  inj:=h.env.inj.sublist (List.take_sublist _ _)
  sub:=h.env.sub
  pc:=fun x v hx hm=>h.env.pc x v hx (List.mem_of_mem_take hm)
  bI:=fun j q y hq hy=>by
   obtain ⟨_,hq⟩:=hkg j q hq;obtain ⟨_,hy⟩:=GA j y hy;rcases h.env.bI j q y hq hy with h1 | ⟨g,cap,cur,rfl,h1,h2,h3,h4,h5,h6⟩
   ·exact .inl h1
   ·exact .inr ⟨g,cap,cur,rfl,h1,h2,h3,h4,fun hm=>h5 (List.mem_of_mem_take hm),h6⟩
  eL:=fun j j' y y' g uq hy dM=>h.env.eL j j' y y' g uq (GA j y hy).2 (GA j' y' dM).2 }
 refine (hc E1 w _ FB (by show E.tk.take m1=_;rw [nD]) (h.bt.sub n1) (CcL.sound hfz nC ha hv)).mono ?_;rintro e w' ⟨v,rfl,⟨hm,_,r,eH,E2,he,hβ,pJ,hn,Aq,hΦ⟩,JH⟩;have pJ:E2.tk.length=E1.tk.length:=pJ;have JI:E1.tk.length=m1:=by show (E.tk.take m1).length=_;rw [List.length_take];omega
 have hE1τ:E1.τ.length=m1:=by show (E.τ.take m1).length=_;rw [List.length_take];omega
 have JJ:E1.β.length=n1:=by show (E.β.take n1).length=_;rw [List.length_take];omega
 rw [JI] at pJ;have HH:E2.τ.length=m1:=by rw [he.tl,pJ]
 have yH:eH.length=n1:=by rw [<- he.len,hβ,JJ]
 have hS:∀ j,E1.S j->j∈E.β.take n1∨∃ i y,i < m1/\E.τ[i]? = some y/\y.ownBlock=some j:=fun j hj=>by
  rcases hj with h1 | ⟨y,h1,h2⟩
  ·exact .inl h1
  ·obtain ⟨i,hi,he⟩:=List.getElem_of_mem h1;have fm:E1.τ[i]? = some y:=by rw [gE hi,he]
   obtain ⟨h3,h4⟩:=GA i y fm;exact .inr ⟨i,y,h3,h4,h2⟩
 have hh:∀ j,j < w.heap.size->¬ E1.S j->w'.heap[j]? = w.heap[j]?:=fun j hj aT=>hm.block j hj aT;have dc:∀ (i:Nat) y g,E.τ[i]? = some y->y.ownBlock=some g->g < w.heap.size/\g ∉ E.β:=fun i y g hy hg=>h.env.own (mG hy) hg
 have bZ:∀ x v,E2.c x=some v->E.c x=some v∨w.heap.size<=x.block∨∃ i y,i < m1/\E.τ[i]? = some y/\y.ownBlock=some x.block:=fun x v hx=>by
  rcases hn.cn x v hx with h1 | h1 | ⟨y,h1,h2⟩
  ·exact .inl h1
  ·exact .inr (.inl h1)
  ·obtain ⟨i,hi,he⟩:=List.getElem_of_mem h1;have fm:E1.τ[i]? = some y:=by rw [gE hi,he]
   obtain ⟨h3,h4⟩:=GA i y fm;exact .inr (.inr ⟨i,y,h3,h4,h2⟩)
 have l5:∀ (j:Nat) q,j < m1->E.tk[j]? = some q->∃ y q' y',E.τ[j]? = some y/\E2.tk[j]? = some q' /\ E2.τ[j]? = some y' /\ q.ty=q'.ty/\q.e=q'.e/\((q'.n=q.n/\y'=y)∨q.n < q'.n)/\(y'.ownBlock=y.ownBlock∨∀ g,y'.ownBlock=some g->w.heap.size<=g):=fun j q hj hq=>by
  have nQ:j < E.τ.length:=by rw [vI];omega
  obtain ⟨q',y',h1,h2,h3⟩:=hn.tk j q E.τ[j] (by show (E.tk.take m1)[j]? = _;rw [List.getElem?_take,if_pos hj];exact hq) (by show (E.τ.take m1)[j]? = _;rw [List.getElem?_take,if_pos hj,gE nQ]);exact ⟨_,q',y',gE nQ,h1,h2,h3⟩
 have uS:∀ (j:Nat) y',j < m1->E2.τ[j]? = some y' -> ∃ y,E.τ[j]? = some y/\(y'.ownBlock=y.ownBlock∨∀ g,y'.ownBlock=some g->w.heap.size<=g):=fun j y' hj hy=>by
  have nQ:j < E.tk.length:=by omega
  obtain ⟨y,q1,y1,h1,_,h3,_,_,_,h7⟩:=l5 j _ hj (gE nQ);rw [hy] at h3;simp only [oI] at h3;subst h3;exact ⟨y,h1,h7⟩
 let E':En:=⟨E2.c,E.β,E2.tk ++ E.tk.drop m1,E2.τ ++ E.τ.drop m1⟩
 have dW:∀ (j:Nat),m1<=j->E'.tk[j]? = E.tk[j]?:=fun j hj=>by
  show (E2.tk ++ E.tk.drop m1)[j]? = _;rw [List.getElem?_append_right (by omega),List.getElem?_drop,pJ];congr 1;omega
 have DH:∀ (j:Nat),m1<=j->E'.τ[j]? = E.τ[j]?:=fun j hj=>by
  show (E2.τ ++ E.τ.drop m1)[j]? = _;rw [List.getElem?_append_right (by omega),List.getElem?_drop,HH];congr 1;omega
 have vn:∀ (j:Nat),j < m1->E'.tk[j]? = E2.tk[j]?:=fun j hj=>by
  show (E2.tk ++ E.tk.drop m1)[j]? = _;rw [List.getElem?_append_left (by omega)]
 have zN:∀ (j:Nat),j < m1->E'.τ[j]? = E2.τ[j]?:=fun j hj=>by
  show (E2.τ ++ E.τ.drop m1)[j]? = _;rw [List.getElem?_append_left (by omega)]
 have hx:Ext E E':=⟨hn.c,fun _ _ h=>h,fun j q hq=>by
  rcases Nat.lt_or_ge j m1 with hj | hj
  ·obtain ⟨y,q',y',h1,h2,h3,_,_,h6,_⟩:=l5 j q hj hq;refine ⟨q',by rw [vn j hj];exact h2,?_⟩;rcases h6 with ⟨h6,rfl⟩ | h6
   ·exact .inl ⟨h6,by rw [zN j hj,h3,h1]⟩
   ·exact .inr h6
  ·exact ⟨q,by rw [dW j hj];exact hq,.inl ⟨rfl,DH j hj⟩⟩⟩
 have zR:Ext E2 E':={
  c:=fun _ _ h=>h
  β:=fun j b hj=>by
   rw [hβ] at hj;have hj:(E.β.take n1)[j]? = some b:=hj;rw [List.getElem?_take] at hj;split at hj
   ·exact hj
   ·cases hj
  tk:=fun j q hq=>by
   have hj:j < m1:=by have:=(gS hq).1;omega
   exact ⟨q,by rw [vn j hj];exact hq,.inl ⟨rfl,zN j hj⟩⟩ }
 have Ch:∀ (i:Nat) b,n1<=i->E.β[i]? = some b->w'.heap[b]? = w.heap[b]?:=fun i b hi hb=>by
  refine hh b (h.env.aG (mG hb)) fun hs=>?_;rcases hS b hs with h1 | ⟨i',y,_,h2,h3⟩
  ·obtain ⟨i',fm,zQ⟩:=List.getElem_of_mem h1;have h4:(E.β.take n1)[i']? = some b:=by rw [gE fm,zQ]
   rw [List.getElem?_take] at h4;split at h4
   ·rename_i av;have:=(List.getElem?_inj (gS hb).1 h.env.inj).1 (hb.trans h4.symm);omega
   ·cases h4
  ·exact (dc i' y b h2 h3).2 (mG hb)
 have JK:iy X.bt E.β w':=fun p hp b hb=>by
  rcases Nat.lt_or_ge p.1 n1 with av | ch
  ·exact JH p hp b (by show (E.β.take n1)[p.1]? = _;rw [List.getElem?_take,if_pos av];exact hb)
  ·obtain ⟨cs,bK⟩:=h.bt p hp b hb;exact ⟨cs,by rw [Ch p.1 b ch hb];exact bK⟩
 have bg:Rel X E' ⟨st.sl,eH ++ st.bx.drop n1,E2.tk ++ st.tk.drop m1⟩ a w':=by
  refine bO h hx ?_ (by show E2.tk ++ E.tk.drop m1=_;rw [nD]) ?_ (h.fr.bh hm.os hm.tape hm.output hm.size fun j hj=>?_) (jx a7) JK
  ·exact {
    len:=by show E.β.length=_;rw [List.length_append,List.length_drop,yH,hlen];omega
    tl:=by show (E2.τ ++ E.τ.drop m1).length=(E2.tk ++ E.tk.drop m1).length;simp only [List.length_append,List.length_drop,HH,pJ,vI]
    cr:=fun i FC hi=>by
     rcases Nat.lt_or_ge i n1 with ye | ye
     ·rw [List.getElem?_append_left (by omega)] at hi;obtain ⟨b2,I8,Df,iB,sj,jg⟩:=he.cr i FC hi;exact ⟨b2,I8,Df,zR.β i b2 iB,sj,jg.mono zR⟩
     ·rw [List.getElem?_append_right (by omega),List.getElem?_drop,yH] at hi;rw [show n1 + (i - n1)=i by omega] at hi;obtain ⟨bj,I9,Dg,BS,FD,xr⟩:=h.env.cr i FC hi;refine ⟨bj,I9,Dg,BS,(hh bj (bB FD) ?_).trans FD,xr.mono hx⟩;intro hs;rcases hS bj hs with h1 | ⟨i',y,_,h2,h3⟩
      ·obtain ⟨i',fm,zQ⟩:=List.getElem_of_mem h1;have h4:(E.β.take n1)[i']? = some bj:=by rw [gE fm,zQ]
       rw [List.getElem?_take] at h4;split at h4
       ·rename_i av;have:=(List.getElem?_inj (gS BS).1 h.env.inj).1 (BS.trans h4.symm);omega
       ·cases h4
      ·exact (dc i' y bj h2 h3).2 (mG BS)
    inj:=h.env.inj
    sub:=he.sub
    pc:=fun x v hc jv=>by
     rcases bZ x v hc with h1 | h1 | ⟨i,y,_,h2,h3⟩
     ·exact h.env.pc x v h1 jv
     ·have:=h.env.aG jv;omega
     ·exact (dc i y _ h2 h3).2 jv
    bI:=fun j q y hq hy=>by
     rcases Nat.lt_or_ge j m1 with hj | hj
     ·rw [vn j hj] at hq;rw [zN j hj] at hy;rcases he.bI j q y hq hy with h1 | ⟨g,cap,cur,rfl,h1,h2,h3,h4,h5,h6⟩
      ·exact .inl h1
      ·refine .inr ⟨g,cap,cur,rfl,h1,h2,h3,h4,fun jv=>?_,h6⟩;obtain ⟨y0,h7,h8⟩:=uS j _ hj hy;rcases h8 with h8 | h8
       ·exact (dc j y0 g h7 (by rw [<- h8];rfl)).2 jv
       ·have:=h8 g rfl;have:=h.env.aG jv;omega
     ·rw [dW j hj] at hq;rw [DH j hj] at hy;rcases h.env.bI j q y hq hy with h1 | ⟨g,cap,cur,rfl,h1,h2,h3,h4,h5,h6⟩
      ·exact .inl h1
      ·have aT:∀ i y',i < m1->E.τ[i]? = some y' -> y'.ownBlock≠some g:=fun i y' hi dM=>h.env.eL j i _ y' g (by omega) hy dM rfl
       have qf:¬ E1.S g:=fun hs=>by
        rcases hS g hs with h7 | ⟨i,y',h7,h8,h9⟩
        ·exact h5 (List.mem_of_mem_take h7)
        ·exact aT i y' h7 h8 h9
       refine .inr ⟨g,cap,cur,rfl,by rw [hh g (bB h1) qf];exact h1,⟨h2.1,h2.2.mono hn.c⟩,h3,h4,h5,fun x v hc hg=>?_⟩
       ·rcases bZ x v hc with h7 | h7 | ⟨i,y',h7,h8,h9⟩
        ·exact h6 x v h7 hg
        ·have:=bB h1;omega
        ·exact (aT i y' h7 h8 (by rw [h9,hg])).elim
    eL:=fun j j' y y' g uq hy dM hg si=>by
     rcases Nat.lt_or_ge j m1 with hj | hj
     ·rw [zN j hj] at hy;obtain ⟨y0,h7,h8⟩:=uS j _ hj hy;rcases Nat.lt_or_ge j' m1 with dN | dN
      ·rw [zN j' dN] at dM;exact he.eL j j' y y' g uq hy dM hg si
      ·rw [DH j' dN] at dM;rcases h8 with h8 | h8
       ·exact h.env.eL j j' y0 y' g uq h7 dM (by rw [<- h8];exact hg) si
       ·have:=h8 g hg;have:=(dc j' y' g dM si).1;omega
     ·rw [DH j hj] at hy;rcases Nat.lt_or_ge j' m1 with dN | dN
      ·rw [zN j' dN] at dM;obtain ⟨y0,h7,h8⟩:=uS j' _ dN dM;rcases h8 with h8 | h8
       ·exact h.env.eL j j' y y0 g uq hy h7 hg (by rw [<- h8];exact si)
       ·have:=h8 g si;have:=(dc j y g hy hg).1;omega
      ·rw [DH j' dN] at dM
       exact h.env.eL j j' y y' g uq hy dM hg si }
  ·exact {
    c:=fun x v hc=>hn.c x v (h.nw.c x v hc)
    cn:=fun x v hc=>by
     rcases bZ x v hc with h1 | h1 | ⟨i,y,_,h2,h3⟩
     ·exact h.nw.cn x v h1
     ·have:=h.fr.size;exact .inr (.inl (by omega))
     ·rcases h.nw.own h2 h3 with h4 | h4
      ·exact .inr (.inr h4)
      ·exact .inr (.inl h4)
    β:=h.nw.β
    tk:=fun j q0 y0 sB va=>by
     obtain ⟨q1,y1,h1,h2,h3,h4,h5,h6⟩:=h.nw.tk j q0 y0 sB va;rcases Nat.lt_or_ge j m1 with hj | hj
     ·obtain ⟨y,q',y',g1,g2,g3,g4,g5,g6,g7⟩:=l5 j q1 hj h1;rw [h2] at g1;simp only [oI] at g1;subst g1;refine ⟨q',y',by rw [vn j hj];exact g2,by rw [zN j hj];exact g3,h3.trans g4,h4.trans g5,?_,?_⟩
      ·rcases g6 with ⟨g6,rfl⟩ | g6
       ·rcases h5 with ⟨h5,rfl⟩ | h5
        ·exact .inl ⟨by omega,rfl⟩
        ·exact .inr (by omega)
       ·rcases h5 with ⟨h5,_⟩ | h5
        ·exact .inr (by omega)
        ·exact .inr (by omega)
      ·rcases g7 with g7 | g7
       ·rcases h6 with h6 | h6
        ·exact .inl (g7.trans h6)
        ·exact .inr fun g hg=>h6 g (by rw [<- g7];exact hg)
       ·refine .inr fun g hg=>?_;have:=g7 g hg;have:=h.fr.size;omega
     ·exact ⟨q1,y1,by rw [dW j hj];exact h1,by rw [DH j hj];exact h2,h3,h4,h5,h6⟩
    tn:=fun j y g qc hy hg=>by
     rcases Nat.lt_or_ge j m1 with hj | hj
     ·rw [zN j hj] at hy;obtain ⟨y0,h7,h8⟩:=uS j _ hj hy;rcases h8 with h8 | h8
      ·exact h.nw.tn j y0 g qc h7 (by rw [<- h8];exact hg)
      ·have:=h8 g hg;have:=h.fr.size;omega
     ·rw [DH j hj] at hy;exact h.nw.tn j y g qc hy hg
    l0:=h.nw.l0 }
  ·by_cases Lp:E1.S j
   ·left;rcases hS j Lp with h1 | ⟨i,y,_,h2,h3⟩
    ·have ko:=List.mem_of_mem_take h1;obtain ⟨r0,wU,wW⟩:=h.nw.β;rw [wU] at ko;rcases List.mem_append.1 ko with ko | ko
     ·exact .inl (.inl ko)
     ·exact .inr (wW j ko)
    ·rcases h.nw.own h2 h3 with h4 | h4
     ·exact .inl (.inr h4)
     ·exact .inr h4
   ·exact .inr (hh j hj Lp)
 exact ⟨v,r,eH,E2.tk,E',rfl,hΦ,yH,pJ,bg,Rv.mono zR Aq,hx,rfl,Ch⟩
theorem rr {f:FuncId} {args aU:List DV} {os:List (List DV)} (n1 m1:Nat) (qC:Nat.ble n1 st.bx.length=true) (eO:Nat.ble m1 st.tk.length=true)
  (lh:gG [] n1 n1 m1 os (st.bx.take n1)) (ha:CcL [] n1 n1 m1 aU args)
  {Φ:DV->List (List DV)->List TkE->Prop} (hc:Ev X.P f aU os (st.tk.take m1) Φ) (a7:X.still=false) (hX:X.bt=[]) {vs:List Value} (h:Rel X E st a w) (hv:RvL E args vs) :
  Calls X.P f vs.toArray w fun e w'=>∃ v r eH bF E',e = .returned v/\Φ r eH bF /\ eH.length=n1/\bF.length=m1/\Rel X E' ⟨st.sl,eH ++ st.bx.drop n1,bF ++ st.tk.drop m1⟩ a w' /\ Rv E' r v/\Ext E E' /\ E'.β=E.β /\
   ∀ (i:Nat) b,n1<=i->E.β[i]? = some b->w'.heap[b]? = w.heap[b]?:=
 vZ n1 m1 (by exact qC) (by exact eO) lh ha (hc.Fg hX) a7 h hv
theorem yI {f:FuncId} {args aU:List DV} {os:List (List DV)} {d:Nat} (n1 m1:Nat) (iM:Enters X.P f) (hd:dm X.nt st.sl (some d)=true) (qC:Nat.ble n1 st.bx.length=true) (eO:Nat.ble m1 st.tk.length=true)
  (lh:gG [] n1 n1 m1 os (st.bx.take n1)) (ha:CcL [] n1 n1 m1 aU args)
  {Φ:DV->List (List DV)->List TkE->Prop} (hc:Ev X.P f aU os (st.tk.take m1) Φ)
  (hk:∀ r eH bF,Φ r eH bF -> eH.length=n1->bF.length=m1->∃ aK,Wk X ⟨(d,⟨[],r⟩) :: st.sl,eH ++ st.bx.drop n1,bF ++ st.tk.drop m1⟩ aK /\ go X 4000 k aK) (a7:X.still=false:=by exact rfl) (hX:X.bt=[]:=by exact rfl):dh X f args (some d) k st:=by
 refine ⟨iM,a7,fun E a w vs h hv=>(rr n1 m1 qC eO lh ha hc a7 hX h hv).mono ?_⟩;rintro e w' ⟨v,r,eH,bF,E',rfl,hΦ,yH,pJ,bg,Ca,_,_,_⟩;obtain ⟨aK,Fj,nB⟩:=hk r eH bF hΦ yH pJ;obtain ⟨E3,hr3⟩:=Fj _ _ _ (aP bg hd r v Ca);exact go_sound 4000 _ _ nB E3 _ w' hr3
theorem ef {f:FuncId} {args aU:List DV} {os:List (List DV)} {d:Nat} (n1 m1:Nat) (iM:Enters X.P f) (hd:dm X.nt st.sl (some d)=true) (qC:Nat.ble n1 st.bx.length=true) (eO:Nat.ble m1 st.tk.length=true)
  (lh:gG [] n1 n1 m1 os (st.bx.take n1)) (ha:CcL [] n1 n1 m1 aU args)
  {Φ:DV->List (List DV)->List TkE->Prop} (hc:Ev X.P f aU os (st.tk.take m1) Φ)
  (hk:∀ r eH bF,Φ r eH bF -> eH.length=n1->bF.length=m1->go X 4000 k ⟨(d,⟨[],r⟩) :: st.sl,eH ++ st.bx.drop n1,bF ++ st.tk.drop m1⟩) (a7:X.still=false:=by exact rfl) (hX:X.bt=[]:=by exact rfl):dh X f args (some d) k st:=
 yI n1 m1 iM hd qC eO lh ha hc (fun r eH bF h1 h2 h3=>⟨_,Wk.refl _ _,hk r eH bF h1 h2 h3⟩) a7 hX
theorem v7 {all:Array Oper} {o1 o2 o3:Oper} {r:List Oper} {d1 d2 kt t sT f off ft ty et e fh m Ci nn:Nat} {bb:Bool} {zz:List Value} {z:Int} {kd:IntKind} {es:List (List DV)} {cs:List DV} {s ix x:Operand} {dv GB:DV}
  (h1:o1.op = .indexAddr t s ix/\o1.dst=some d1) (h2:o2.op = .fieldAddr sT (.tmp d1) f/\o2.dst=some d2/\o2.guard=none) (h3:o3.op = .store ty (.tmp d2) x/\o3.dst=none/\o3.guard=none)
  (zT:dm X.nt st.sl (some d1)=true) (C6:dm X.nt ((d1,⟨[],.pt [] 0⟩) :: st.sl) (some d2)=true)
  (hs:rv st [] s=some (.sl 0 es (some kt))) (hi:rv st [] ix=some (.v (.int kd z))) (hx:rv ⟨(d2,⟨[],.pt [] 0⟩) :: (d1,⟨[],.pt [] 0⟩) :: st.sl,st.bx,st.tk⟩ [] x=some dv) (hdv:eraD dv=some GB) (Lq:dv.cells=[dv])
  (hT:X.T.find t=some ⟨nn,bb,.sl et e fh,zz⟩) (pa:X.T.off sT f=some (off,ft)) (bQ:X.T.sz ty=some 1)
  (hq:st.tk[kt]? = some ⟨m,Ci,e,some cs⟩) (pf:es.length=m) (hz:0<=z/\z < m) (EM:off + 1<=e)
  (hk:go X 4000 (.ops all r :: k) ⟨(d2,⟨[],.pt [] 0⟩) :: (d1,⟨[],.pt [] 0⟩) :: st.sl,st.bx,st.tk.set kt ⟨m,Ci,e,some (cs.set (z.toNat * e + off) GB)⟩⟩)
  (a7:X.still=false:=by exact rfl):CA X o1 (.ops all (o2 :: o3 :: r) :: k) st:=by
 intro E a w h;have fi:=h.rl;have e1:=az fi hs;have e2:=aW (az fi hi);unfold Rv at e1;obtain ⟨bs,ns,iL,e1,⟨qf,BK⟩,HG,xC⟩:=e1;subst qf;obtain ⟨q',ic,_,E7⟩:=xC kt rfl;have fQ:E.tk[kt]? = some ⟨m,Ci,e,some cs⟩:=by rw [h.tk];exact hq
 rw [fQ] at ic;simp only [oI] at ic;subst ic;have hy:=E7 pf;rw [e1,pf] at hy;rw [pf] at e1;have GC:=h.env.bI kt _ _ fQ hy;rcases GC with ⟨kM,lB,_⟩ | ⟨g,cap,cur,kM,sG,⟨xE,xF⟩,vd,ve,ed,wS⟩
 ·simp only at lB;omega
 injection kM with i1 i2 i3
 subst i1 i3;obtain ⟨hu,ii,zv,qd,_,JL,_,_⟩:=cz X.hT hT;have lj:dB X.P et=some e:=by rw [cQ qd,JL]
 have GD:(execOp a.eval o1).run X.P w = .ok (.value (.pointer (some ⟨g,z.toNat * e,none⟩))) w:=by
  have bc:(Instr.indexAt t (.slice (some ⟨g,0,none⟩) m iL) (.int kd z)).run X.P w = .ok (.pointer (some ⟨g,z.toNat * e,none⟩)) w:=by
   simp [Instr.indexAt,asIntOf,run_underlying hu,hz.1,hz.2,au lj,Addr.add_lit]
  simp only [execOp,h1.1,e1,e2,Sem.run_bind,bc,Result.andThen_ok,Sem.run_pure]
 refine fp GD ?_;rw [h1.2];have hr1:Rel X E ⟨(d1,⟨[],.pt [] 0⟩) :: st.sl,st.bx,st.tk⟩ (a.put (some d1) (.pointer (some ⟨g,z.toNat * e,none⟩))) w:=aP h zT (.pt [] 0) _ (by unfold Rv;exact ⟨g,z.toNat * e,rfl,by simp only [RvAt]⟩);generalize ha1:a.put (some d1) (.pointer (some ⟨g,z.toNat * e,none⟩))=a1 at hr1
 have ht1:a1.eval (.tmp d1) = .pointer (some ⟨g,z.toNat * e,none⟩):=by
  subst ha1;simp only [dm,Bool.and_eq_true,Nat.blt_eq] at zT;simp [Act.eval,Act.put,h.sz,zT.1]
 show kq X (.ops all (o2 :: o3 :: r) :: k) .normal a1 w;simp only [kq,wpList,Region.wanted,h2.2.2,h3.2.2,if_true];refine .inl (fp (v:=.pointer (some ⟨g,z.toNat * e + off,none⟩)) (w':=w) ?_ ?_)
 ·simp only [execOp,h2.1,ht1,Sem.run_bind,eb (j7 X.hT pa),Result.andThen_ok,Sem.run_pure]
 rw [h2.2.1];have lf:Rel X E ⟨(d2,⟨[],.pt [] 0⟩) :: (d1,⟨[],.pt [] 0⟩) :: st.sl,st.bx,st.tk⟩ (a1.put (some d2) (.pointer (some ⟨g,z.toNat * e + off,none⟩))) w:=aP hr1 C6 (.pt [] 0) _ (by unfold Rv;exact ⟨g,z.toNat * e + off,rfl,by simp only [RvAt]⟩);generalize Af:a1.put (some d2) (.pointer (some ⟨g,z.toNat * e + off,none⟩))=a2 at lf
 have ht2:a2.eval (.tmp d2) = .pointer (some ⟨g,z.toNat * e + off,none⟩):=by
  subst Af;simp only [dm,Bool.and_eq_true,Nat.blt_eq] at C6;simp [Act.eval,Act.put,hr1.sz,C6.1]
 have e3:=az lf.rl hx
 have dS:RvC E [dv] (a2.eval x).cells.toList:=by
  have:=e3.cells (eh (n:=1) (by rw [Lq];rfl) (by omega))
  rwa [Lq] at this
 have Ah:(a2.eval x).cells.toList.length=1:=by rw [dS.1.length];all_goals rfl
 obtain ⟨xv,H0⟩:∃ xv,(a2.eval x).cells.toList=[xv]:=by
  match hh:(a2.eval x).cells.toList,Ah with
  | [y],_=>exact ⟨y,rfl⟩
 obtain ⟨h5,h6⟩:=xF cs rfl;simp only at h5 h6 xE sG vd;have GF:cur.toList.length=iL * e:=by simpa using xE
 have hme:m * e<=iL * e:=Nat.mul_le_mul_right _ vd
 have sF:z.toNat * e + off + 1<=m * e:=by
  have:(z.toNat + 1) * e<=m * e:=Nat.mul_le_mul_right _ (by omega);rw [Nat.add_mul] at this;omega
 have EZ:=fK (P:=X.P) (t:=ty) (off:=z.toNat * e + off) (n:=1) sG (ui X.hT bQ) Ah (by rw [xE];omega) (List.all_eq_true.2 dS.2);refine .inl (Ag (w':=World.bP w g (.cells ((cur.toList.take (z.toNat * e + off) ++ (a2.eval x).cells.toList ++ cur.toList.drop (z.toNat * e + off + 1)).toArray) Ci (0,0))) ?_ ?_)
 ·simp only [execOp,h3.1,ht2,Instr.storeAt,Instr.sureAddr,Sem.run_bind,Sem.run_pure,Result.andThen_ok,EZ]
 rw [h3.2.1]
 have CT:cur.toList.take (z.toNat * e + off) ++ (a2.eval x).cells.toList ++ cur.toList.drop (z.toNat * e + off + 1)=cur.toList.set (z.toNat * e + off) xv:=by
  rw [H0,List.set_eq_take_append_cons_drop,if_pos (by omega)];simp
 rw [CT]
 have hx1:RvC E.cl [GB] [xv]:=by
  rw [H0] at dS;have h7:=dS.1;simp only [RvL] at h7;obtain ⟨v,s',h8,h9,nR⟩:=h7;simp only [List.cons.injEq] at h8;obtain ⟨rfl,rfl⟩:=h8;exact ⟨rvL_cons (lY hdv h9) (by simp only [RvL]),dS.2⟩
 have BI:sv (World.bP w g (.cells (cur.toList.set (z.toNat * e + off) xv).toArray Ci (0,0))) E.c E.β ⟨m,Ci,e,some (cs.set (z.toNat * e + off) GB)⟩ (.slice (some ⟨g,0,none⟩) m iL):=by
  refine .inr ⟨g,iL,_,rfl,dC sG,⟨by simpa using GF,fun cs' xq=>?_⟩,vd,ve,ed,wS⟩;simp only [oI] at xq;subst xq;simp only;refine ⟨by rw [List.length_set];exact h5,?_⟩;rw [List.take_set];have av:z.toNat * e + off < (cur.toList.take (m * e)).length:=by rw [List.length_take];omega
  rw [List.set_eq_take_append_cons_drop,if_pos (by omega),List.set_eq_take_append_cons_drop,if_pos av];have h8:=(RvC.take (z.toNat * e + off) h6).append (RvC.append hx1 (RvC.drop (z.toNat * e + off + 1) h6));simpa using h8
 have BO:some g≠some g->False:=fun h=>h rfl
 obtain ⟨bg,hext⟩:=ur (q':=⟨m,Ci,e,some (cs.set (z.toNat * e + off) GB)⟩) (w':=World.bP w g (.cells (cur.toList.set (z.toNat * e + off) xv).toArray Ci (0,0))) lf a7 fQ hy rfl rfl rfl (.inl ⟨rfl,rfl⟩) BI (.inl rfl) rfl rfl rfl (by rw [cN];exact Nat.le_refl _) (fun j _ aT=>bH (by
  rintro rfl
  exact aT rfl))
 exact go_sound 4000 _ _ hk _ _ _ bg
open Classical in
noncomputable def ru (E:En) (w:World) (y:Value) (n:Nat):Addr->Option Value:=
 fun x=>if y.ownBlock=some x.block/\x.spot=none/\x.off < n then w.cell? x else E.c x
theorem eI {y:Value} {n:Nat} {x:Addr} {v:Value} (h:ru E w y n x=some v):(y.ownBlock=some x.block/\x.spot=none/\x.off < n/\w.cell? x=some v)∨E.c x=some v:=by
 unfold ru at h;split at h
 ·rename_i hc;exact .inl ⟨hc.1,hc.2.1,hc.2.2,h⟩
 ·exact .inr h
theorem AW (h:Rel X E st a w) {k n ty e:Nat} {cs:List DV} {ns:List (List DV)} (hq:st.tk[k]? = some ⟨n,ty,e,some cs⟩) (bK:cs=ns.flatten) (qf:∀ x∈ns,x.length=e) (lp:ns.length=n) :
  ∃ E',Rel X E' ⟨st.sl,st.bx,st.tk.set k ⟨n,ty,e,none⟩⟩ a w/\Ext E E' /\ ∀ es y,es.length=n->Rv E (.sl 0 es (some k)) y->Rv E' (.sl e ns (some k)) y:=by
 subst bK;have fQ:E.tk[k]? = some ⟨n,ty,e,some ns.flatten⟩:=by rw [h.tk];exact hq
 have xy:=(gS fQ).1;have EX:k < E.τ.length:=by rw [h.env.tl];exact xy
 have hv:E.τ[k]? = some E.τ[k]:=gE EX;generalize E.τ[k]=v at hv;have GC:=h.env.bI k _ v fQ hv
 have fL:∀ x u,E.c x=some u->ru E w v (n * e) x=some u:=fun x u hx=>by
  unfold ru;split
  ·exact h.env.sub x u hx
  ·exact hx
 have hext:Ext E ⟨ru E w v (n * e),E.β,E.tk.set k ⟨n,ty,e,none⟩,E.τ⟩:=⟨fL,fun _ _ h=>h,fun j q H2=>by
  by_cases hj:j=k
  ·subst hj;rw [fQ] at H2;simp only [oI] at H2;subst H2;exact ⟨_,List.getElem?_set_self xy,.inl ⟨rfl,rfl⟩⟩
  ·exact ⟨q,by rw [List.getElem?_set_ne (Ne.symm hj)];exact H2,.inl ⟨rfl,rfl⟩⟩⟩
 refine ⟨⟨ru E w v (n * e),E.β,E.tk.set k ⟨n,ty,e,none⟩,E.τ⟩,bO h hext ?_ (by rw [h.tk]) ?_ h.fr h.sh h.bt,hext,?_⟩
 ·exact {
   len:=h.env.len
   tl:=by simp only [List.length_set];exact h.env.tl
   cr:=fun i cs hi=>by
    obtain ⟨b,t,arr,hb,hw,hc⟩:=h.env.cr i cs hi;exact ⟨b,t,arr,hb,hw,hc.mono hext⟩
   inj:=h.env.inj
   sub:=fun x u hx=>by
    rcases eI hx with ⟨_,_,_,h1⟩ | h1
    ·exact h1
    ·exact h.env.sub x u h1
   pc:=fun x u hx hm=>by
    rcases eI hx with ⟨h1,_⟩ | h1
    ·exact (dR GC h1).2 hm
    ·exact h.env.pc x u h1 hm
   bI:=fun j q y hj hy=>by
    by_cases CY:j=k
    ·subst CY;have dN:(E.tk.set j ⟨n,ty,e,none⟩)[j]? = some q:=hj;rw [List.getElem?_set_self xy] at dN;have dM:E.τ[j]? = some y:=hy;rw [hv] at dM;simp only [oI] at dN dM;subst dN dM;rcases GC with ⟨h1,h2,_⟩ | ⟨g,cap,cur,rfl,h1,h2,h3,h4,h5,h6⟩
     ·exact .inl ⟨h1,h2,fun cs hc=>by cases hc⟩
     ·refine .inr ⟨g,cap,cur,rfl,h1,⟨h2.1,jl.none rfl⟩,h3,h4,h5,fun x u hx uo=>?_⟩;rcases eI hx with ⟨_,_,h7,_⟩ | h7
      ·exact h7
      ·have:=h6 x u h7 uo;simp only [TkE.kn] at this;omega
    ·have dN:E.tk[j]? = some q:=by
      have:(E.tk.set k ⟨n,ty,e,none⟩)[j]? = some q:=hj
      rwa [List.getElem?_set_ne (Ne.symm CY)] at this
     rcases h.env.bI j q y dN hy with h1 | ⟨g,cap,cur,rfl,h1,h2,h3,h4,h5,h6⟩
     ·exact .inl h1
     ·refine .inr ⟨g,cap,cur,rfl,h1,⟨h2.1,h2.2.mono fL⟩,h3,h4,h5,fun x u hx uo=>?_⟩;rcases eI hx with ⟨h7,_⟩ | h7
      ·exact (h.env.eL j k _ v g CY hy hv rfl (by rw [h7,uo])).elim
      ·exact h6 x u h7 uo
   eL:=h.env.eL }
 ·exact {
   c:=fun x u hx=>fL x u (h.nw.c x u hx)
   cn:=fun x u hx=>by
    rcases eI hx with ⟨h1,_⟩ | h1
    ·rcases h.nw.own hv h1 with h2 | h2
     ·exact .inr (.inr h2)
     ·exact .inr (.inl h2)
    ·exact h.nw.cn x u h1
   β:=h.nw.β
   tk:=fun j q0 y0 sB va=>by
    obtain ⟨q1,y1,h1,h2,h3,h4,h5,h6⟩:=h.nw.tk j q0 y0 sB va;by_cases hj:j=k
    ·subst hj;rw [fQ] at h1;simp only [oI] at h1;subst h1;exact ⟨_,y1,List.getElem?_set_self xy,h2,h3,h4,h5,h6⟩
    ·exact ⟨q1,y1,by rw [List.getElem?_set_ne (Ne.symm hj)];exact h1,h2,h3,h4,h5,h6⟩
   tn:=fun j y g hj hy=>h.nw.tn j y g hj hy
   l0:=h.nw.l0 }
 ·intro es y pf hy;unfold Rv at hy ⊢;obtain ⟨b,m,cap,rfl,⟨rfl,hmc⟩,hr,a7⟩:=hy;obtain ⟨q',ic,_,hτ⟩:=a7 k rfl;rw [fQ] at ic;simp only [oI] at ic;subst ic;have hy:=hτ pf;rw [hv] at hy;simp only [oI] at hy;subst hy;refine ⟨b,es.length,cap,rfl,⟨by omega,hmc⟩,fun aT=>?_,fun k' dW=>?_⟩
  ·rcases GC with ⟨h1,h2,h3⟩ | ⟨g,ET,cur,h0,h1,h2,h3,h4,h5,h6⟩
   ·simp only at h2;exact (aT (List.eq_nil_of_length_eq_zero (by omega))).elim
   ·injection h0 with i1 i2 i3
    subst i1;refine ⟨rfl,?_⟩;obtain ⟨h7,h8⟩:=h2.2 _ rfl;refine rvEs_flat (h8.mono (E:=⟨E.c,[],[],[]⟩) ⟨fL,fun _ _ h=>by simp at h,fun _ _ h=>by simp at h⟩) qf fun j u hj=>?_;rw [List.getElem?_take] at hj;split at hj
    ·rename_i nQ;show ru E w _ (n * e) _=_;unfold ru;rw [if_pos ⟨rfl,rfl,by simpa [ao] using nQ⟩];simp only [ab,ao,Nat.zero_add];rw [bu h1];simpa using hj
    ·cases hj
  ·cases dW;exact ⟨_,List.getElem?_set_self xy,by simp only;omega,fun _=>hv⟩
theorem DI {j o k n ty e:Nat} {wX:List DV} {es ns:List (List DV)} (hq:st.tk[k]? = some ⟨n,ty,e,some ns.flatten⟩) (qf:∀ x∈ns,x.length=e) (lp:ns.length=n) (hj:st.bx[j]? = some wX) (ho:wX[o]? = some (.sl 0 es (some k))) (pf:es.length=n) :
  Wk X st ⟨st.sl,st.bx.set j (wX.set o (.sl e ns none)),st.tk.set k ⟨n,ty,e,none⟩⟩:=by
 intro E a w h;obtain ⟨E',hr,hx,l5⟩:=AW h hq rfl qf lp;refine ⟨E',{ hr with env:=?_ }⟩
 exact { hr.env with
  len:=by simp only [List.length_set];exact hr.env.len
  cr:=fun i cs' hi=>by
   by_cases gv:i=j
   ·subst gv;have av:=(gS hj).1;have fm:(st.bx.set i (wX.set o (.sl e ns none)))[i]? = some cs':=hi;rw [List.getElem?_set_self av] at fm;simp only [oI] at fm;subst fm;obtain ⟨b,t,arr,hb,hw,hc⟩:=hr.env.cr i wX hj;obtain ⟨b0,t0,vf,ed,sG,wS⟩:=h.env.cr i wX hj;have jz:=hx.β i b0 ed;rw [hb] at jz;simp only [oI] at jz;subst jz;rw [hw] at sG;simp only [oI,Obj.cells.injEq] at sG
    have yc:arr=vf:=by
     have:=sG.1;simpa using this
    subst yc;refine ⟨b,t,arr,hb,hw,?_,hc.2⟩;obtain ⟨v,j9,wM⟩:=wS.1.get ho;have Ca:=l5 es v pf wM;have fj:=(gS ho).1;have EY:arr.length=wX.length:=hc.1.length
    have h1:=(RvL.take o hc.1).append (rvL_cons (d:=.sl e ns none) (v:=v) (by
     unfold Rv at Ca ⊢;obtain ⟨b,n,cap,g1,g2,g3,_⟩:=Ca
     exact ⟨b,n,cap,g1,g2,g3,fun k hk=>by cases hk⟩) (RvL.drop (o + 1) hc.1))
    rw [List.set_eq_take_append_cons_drop,if_pos fj]
    have h2:arr.take o ++ v :: arr.drop (o + 1)=arr:=by
     have hoa:o < arr.length:=by omega
     have:arr[o]=v:=by
      rw [gE hoa] at j9;simpa using j9
     rw [<- this];simp
    rwa [h2] at h1
   ·have fm:(st.bx.set j (wX.set o (.sl e ns none)))[i]? = some cs':=hi;rw [List.getElem?_set_ne (Ne.symm gv)] at fm
    exact hr.env.cr i cs' fm }
theorem Wk.sU (i j:Nat) (S S':St) (he:S'=cE i j S) (wN:Nat.ble X.n0 i=true) (qc:Nat.ble X.n0 j=true) (hi:Nat.blt i S.bx.length=true) (hj:Nat.blt j S.bx.length=true) (hX:X.bt=[]:=by exact rfl):Wk X S' S:=fun E a w h=>by
 subst he;simp only [Nat.blt_eq] at hi hj;exact uF hX h (nL wN) (nL qc) hi hj
theorem DJ {c:Code} (I:Nat->St->Prop) (j0:Nat) (fq:St) (hw:Wk X st fq) (h0:I j0 fq)
  (hr:∀ j s,I j s->go X 4000 (.code c :: .sg (fun s'=>∃ xM,Wk X s' xM /\ ∃ j',j' < j/\I j' xM) :: k) s):nM X c k st:=by
 intro E a w h;obtain ⟨E0,wU⟩:=hw _ _ _ h
 classical
 let Inv:Act->World->Prop:=fun a w=>∃ j s E,Rel X E s a w/\I j s
 let μ:Act->World->Nat:=fun a w=>if hI:Inv a w then Classical.choose (least hI) else 0
 refine wp_loop Inv μ ⟨j0,fq,E0,wU,h0⟩ ?_;intro a1 w1 hI;have nX:=(Classical.choose_spec (least hI)).1;obtain ⟨s,E1,bg,II⟩:=nX;have hs:=go_sound 4000 _ _ (hr _ s II) E1 a1 w1 bg;rw [ct] at hs;refine wp_mono hs ?_;intro e a2 w2 hq
 cases e with
 | normal=>
  obtain ⟨s',E2,qN,xM,Fj,j',dN,Fk⟩:=hq;obtain ⟨E3,qO⟩:=Fj _ _ _ qN;have CZ:Inv a2 w2:=⟨j',xM,E3,qO,Fk⟩;refine ⟨CZ,?_⟩;simp only [μ,dif_pos hI,dif_pos CZ];exact Nat.lt_of_le_of_lt ((Classical.choose_spec (least CZ)).2 j' ⟨xM,E3,qO,Fk⟩) dN
 | exit id=>exact hq
 | goto l=>exact hq
 | ret=>exact hq
 | panic c=>exact hq
 | outgrown=>exact hq
mutual
def flatD:DV->Bool
 | .v _=>true
 | .agg l=>flatL l
 | .cP l=>flatL l
 | _=>false
def flatL:List DV->Bool
 | []=>true
 | d :: r=>flatD d && flatL r
end
mutual
theorem Rv.flat {E E':En}:∀ {d:DV} {v:Value},flatD d=true->Rv E d v->Rv E' d v
 | .v x,v,_,h=>by unfold Rv at h ⊢;exact h
 | .agg l,v,hf,h=>by
  simp only [flatD] at hf;simp only [Rv] at h ⊢;obtain ⟨vs,h1,h2,h3⟩:=h;exact ⟨vs,h1,RvL.flat hf h2,h3⟩
 | .cP l,v,hf,h=>by
  simp only [flatD] at hf;simp only [Rv] at h ⊢;obtain ⟨vs,h1,h2⟩:=h;exact ⟨vs,h1,RvL.flat hf h2⟩
 | .ud,_,hf,_=>by simp [flatD] at hf
 | .sl _ _ _,_,hf,_=>by simp [flatD] at hf
 | .pt _ _,_,hf,_=>by simp [flatD] at hf
 | .loc _ _,_,hf,_=>by simp [flatD] at hf
 | .el _ _,_,hf,_=>by simp [flatD] at hf
 | .ms _ _ _ _ _,_,hf,_=>by simp [flatD] at hf
 | .fn _ _ _,_,hf,_=>by simp [flatD] at hf
 | .kJ _ _,_,hf,_=>by simp [flatD] at hf
theorem RvL.flat {E E':En}:∀ {l:List DV} {vs:List Value},flatL l=true->RvL E l vs->RvL E' l vs
 | [],vs,_,h=>by simpa only [RvL] using h
 | d :: r,vs,hf,h=>by
  simp only [flatL,Bool.and_eq_true] at hf;simp only [RvL] at h ⊢;obtain ⟨v,s,h1,h2,h3⟩:=h;exact ⟨v,s,h1,Rv.flat hf.1 h2,RvL.flat hf.2 h3⟩
end
theorem uT {f:FuncId} {args aU:List DV} {d:Nat} {y:DV} (iM:Enters X.P f) (hc:bD X.P f aU y) (ha:CcL st.bx 0 0 0 aU args) (hy:flatD y=true) (hd:dm X.nt st.sl (some d)=true)
  (hk:go X 4000 k ⟨(d,⟨[],y⟩) :: st.sl,st.bx,st.tk⟩) (a7:X.still=false:=by exact rfl):dh X f args (some d) k st:=by
 refine ⟨iM,a7,fun E a w vs h hv=>(ee h.env hc ha hv).mono ?_⟩;rintro e w' ⟨v,E2,rfl,hr,hm,_⟩;have hh:∀ i,i < w.heap.size->w'.heap[i]? = w.heap[i]?:=fun i hi=>hm.block i hi (fun h=>h);have bg:Rel X E st a w':=bO h (Ext.refl E) (h.env.ew hh) h.tk h.nw (h.fr.bh hm.os hm.tape hm.output hm.size fun i hi=>.inr (hh i hi)) (jx a7) (h.bt.ew fun b hb=>hh b (h.env.aG hb));exact go_sound 4000 _ _ hk E _ w' (aP bg hd y v (Rv.flat hy hr))
theorem jP {D:Dr} {c:Bool} {i:Nat} {s0:List (Nat × Sl)} {f:FuncId} {args aU:List DV} {d:Nat} {y:DV} {r:List (Nat × Oper)} (iM:Enters X.P f) (hc:bD X.P f aU y) (ha:CcL st.bx 0 0 0 aU args) (hy:flatD y=true) (hd:(dm X.nt st.sl (some d) && dm X.nt s0 (some d))=true)
  (hk:put2 s0 st (some d) true [] y (goD X D 3000 c r)) (a7:X.still=false:=by exact rfl):uA X D c i r f args (some d) s0 st:=by
 refine ⟨iM,fun hl E0 wr hD E a w vs h hv=>(ee h.rel.env hc ha hv).mono ?_⟩;rintro e w' ⟨v,E2,rfl,hr,hm,_⟩;have hh:∀ i,i < w.heap.size->w'.heap[i]? = w.heap[i]?:=fun i hi=>hm.block i hi (fun h=>h);have bg:Rel X E st a w':=bO h.rel (Ext.refl E) (h.rel.env.ew hh) h.rel.tk h.rel.nw (h.rel.fr.bh hm.os hm.tape hm.output hm.size fun i hi=>.inr (hh i hi)) (jx a7) (h.rel.bt.ew fun b hb=>hh b (h.rel.env.aG hb));have hs:wR none E w E w':=⟨Ext.refl E,⟨[],by simp⟩,fun j b hb _=>hh b (h.rel.env.aG (mG hb))⟩;have hC:=uD h hs bg (fun j hj=>by cases hj);refine ⟨v,rfl,fun _=>hC,?_⟩;have xS:cA X ⟨D,E0,wr⟩ c E s0 st (a.put none v) w':=mb h hs bg (fun h1=>hC (h.cc h1)) (fun i x hx=>.inr ⟨hx,fun d hd=>by cases hd⟩) rfl;obtain ⟨s1,j3,ki,cq⟩:=eB xS hd true [] y v (fun _ _ p hp=>by cases hp) (fun _=>Rv.flat hy hr) (fun _ _=>Rv.flat hy hr) (fun hn=>(hn (aA _)).elim) hk;exact cO (D:=⟨D,E0,wr⟩) hD 3000 c r _ _ ki hl E _ w' cq
theorem dh.sU {S:St} {f:FuncId} {args aU:List DV} {dst:Option Nat} (i j:Nat) (hS:st=cE i j S) (ha:args=renL (swp i j) aU) (wN:Nat.ble X.n0 i=true) (qc:Nat.ble X.n0 j=true) (hi:Nat.blt i S.bx.length=true) (hj:Nat.blt j S.bx.length=true)
  (h:dh X f aU dst k S) (hX:X.bt=[]:=by exact rfl):dh X f args dst k st:=by
 subst hS ha;simp only [Nat.blt_eq] at hi hj;refine ⟨h.1,h.2.1,fun E a w vs hr hv=>?_⟩
 have hlen:E.β.length=S.bx.length:=by
  rw [hr.env.len];simp only [cE,bi,bJ]
 exact h.2.2 _ a w vs (qT hX hr (nL wN) (nL qc) hi hj) (RvL.sU (by rw [hlen];exact hi) (by rw [hlen];exact hj) hv)
end
end Dv
end Go.Proofs.YtfifjddnnmfeoaaGreat
set_option maxRecDepth 100000
namespace Go.Proofs.YtfifjddnnmfeoaaGreat
open Go Go.RowKit Dv Tryz
def cZ (l:List Int):List DV:=l.map fun z=>DV.v (.int .i64 z)
def lG (af:List ByteArray) (tb lq:DV) (js:List Int):List DV:=.sl 1 (bV af) none :: tb :: lq :: cZ js
def oz:Option Nat->Int
 | none=>-1
 | some k=>(k:Int)
def uU (pb:Nat->Nat->Bool) (e:Nat):Option Nat->Bool
 | none=>true
 | some o=>pb e o
def bestA (dY:Nat->Bool) (pb:Nat->Nat->Bool):Nat->Option Nat
 | 0=>none
 | e + 1=>if dY e && uU pb e (bestA dY pb e) then some e else bestA dY pb e
def iG (dY:Nat->Bool) (pb:Nat->Nat->Bool) (n:Nat):Option Nat:=
 match bestA dY pb n with
 | none=>none
 | some o=>if (List.range n).any (fun c=>dY c && !pb o c) then none else some o
theorem jQ {dY:Nat->Bool} {pb:Nat->Nat->Bool}:∀ {e k:Nat},bestA dY pb e=some k->k < e
 | 0,k,h=>by cases h
 | e + 1,k,h=>by
  rw [bestA] at h;split at h
  ·simp only [oI] at h;omega
  ·have:=jQ h;omega
theorem kx (af:List ByteArray) (tb:DV) (rows:List Nat) (js:List Int) (hr:bY rows) (a b:Nat) (ha:a < rows.length) (hb:b < rows.length) :
  bD Tryz.prog 166 [.v (.int .i64 a),.v (.int .i64 b),.pt [.pt (lG af tb (gB rows) js) 0] 0] (.v (.bool (ay rows a b))):=by
 have h1:=fx rows hr a b;rw [jI ha hb] at h1;refine ev_go (P:=Tryz.prog) tt tt_ok 5000 13 [.tmp 5] Tryz.func166 rfl Tryz.ntmps166 rfl (nL rfl) (fun E9 w9 hn9 hm9=>?_);refine call_p qX (h1) ax rfl ?_;exact (rfl:_=_)
theorem ky (af:List ByteArray) (tb:DV) (rows:List Nat) (js:List Int) (hr:bY rows) (a b:Nat) (ha:a < rows.length) (hb:b < rows.length) :
  bD Tryz.prog 167 [.v (.int .i64 a),.v (.int .i64 b),.pt [.pt (lG af tb (gB rows) js) 0] 0] (.v (.bool (ay rows b a))):=by
 have h1:=fx rows hr b a;rw [jI hb ha] at h1;refine ev_go (P:=Tryz.prog) tt tt_ok 5000 13 [.tmp 5] Tryz.func167 rfl Tryz.ntmps167 rfl (nL rfl) (fun E9 w9 hn9 hm9=>?_);refine call_p qX (h1) ax rfl ?_;exact (rfl:_=_)
abbrev Cj (L:List DV):DV:=.fn 166 [] [.pt [.pt L 0] 0]
abbrev Ck (L:List DV):DV:=.fn 167 [] [.pt [.pt L 0] 0]
theorem wa (af:List ByteArray) (tb:DV) (rows:List Nat) (js:List Int) (hr:bY rows) (a b c:Nat) (ha:a < rows.length) (hb:b < rows.length) (hc:c < rows.length) :
  bD Tryz.prog 169 [.v (.int .i64 c),.pt [Cj (lG af tb (gB rows) js)] 0,.pt [.v (.int .i64 a)] 0,.pt [.v (.int .i64 b)] 0] (.v (.bool (ay rows a c && ay rows b c))):=by
 have h1:=kx af tb rows js hr a c ha hc;have h2:=kx af tb rows js hr b c hb hc;refine ev_go (P:=Tryz.prog) tt tt_ok 5000 16 [.tmp 5] Tryz.func169 rfl Tryz.ntmps169 rfl (nL rfl) (fun E9 w9 hn9 hm9=>?_);refine call_p xZ (h1) ax rfl ?_;refine br (fun g=>?_) (fun g=>?_)
 ·have g:ay rows a c=true:=by simpa using g
  refine call_p xZ (h2) ax rfl ?_;refine (congrArg (fun b=>DV.v (.bool b)) ?_:_=_);simp [g,pickB]
 ·have g:ay rows a c=false:=by simpa using g
  refine (congrArg (fun b=>DV.v (.bool b)) ?_:_=_);simp [g,pickB]
theorem wb (af:List ByteArray) (tb:DV) (rows:List Nat) (js:List Int) (hr:bY rows) (a b c:Nat) (ha:a < rows.length) (hb:b < rows.length) (hc:c < rows.length) :
  bD Tryz.prog 170 [.v (.int .i64 c),.pt [Ck (lG af tb (gB rows) js)] 0,.pt [.v (.int .i64 a)] 0,.pt [.v (.int .i64 b)] 0] (.v (.bool (ay rows c a && ay rows c b))):=by
 have h1:=ky af tb rows js hr a c ha hc;have h2:=ky af tb rows js hr b c hb hc;refine ev_go (P:=Tryz.prog) tt tt_ok 5000 16 [.tmp 5] Tryz.func170 rfl Tryz.ntmps170 rfl (nL rfl) (fun E9 w9 hn9 hm9=>?_);refine call_p x0 (h1) ax rfl ?_;refine br (fun g=>?_) (fun g=>?_)
 ·have g:ay rows c a=true:=by simpa using g
  refine call_p x0 (h2) ax rfl ?_;refine (congrArg (fun b=>DV.v (.bool b)) ?_:_=_);simp [g,pickB]
 ·have g:ay rows c a=false:=by simpa using g
  refine (congrArg (fun b=>DV.v (.bool b)) ?_:_=_);simp [g,pickB]
abbrev iZ (L:List DV) (gi gb:Nat) (ci cb:List DV) (n:Nat) (o:Int) (e:Nat):St:=
 ⟨[(0,⟨[],.pt L 0⟩),(1,⟨[],.fn gi [] ci⟩),(2,⟨[],.fn gb [] cb⟩),(7,⟨[],.v (.int .i64 o)⟩),(14,⟨[],.v (.int .i64 n)⟩),(15,⟨[],.v (.int .i64 e)⟩)],[],[]⟩
abbrev jR (L:List DV) (gi gb:Nat) (ci cb:List DV) (n:Nat) (o:Int) (e:Nat):St:=
 ⟨[(0,⟨[],.pt L 0⟩),(1,⟨[],.fn gi [] ci⟩),(2,⟨[],.fn gb [] cb⟩),(7,⟨[],.v (.int .i64 o)⟩),(37,⟨[],.v (.int .i64 n)⟩),(38,⟨[],.v (.int .i64 e)⟩)],[],[]⟩
theorem oA (af:List ByteArray) (tb lq:DV) (js:List Int) (gi gb:Nat) (Lr:Enters Tryz.prog gi) (Ls:Enters Tryz.prog gb) (ci cb:List DV) (dY:Nat->Bool) (pb:Nat->Nat->Bool)
  (GG:CcL [] 0 0 0 ci ci) (GH:CcL [] 0 0 0 cb cb) (JN:clB.clL 0 0 ci=true) (JO:clB.clL 0 0 cb=true) (hn:af.length<=64)
  (ye:∀ c:Nat,c < af.length->bD Tryz.prog gi (.v (.int .i64 c) :: ci) (.v (.bool (dY c))))
  (Lt:∀ a b:Nat,a < af.length->b < af.length->bD Tryz.prog gb (.v (.int .i64 a) :: .v (.int .i64 b) :: cb) (.v (.bool (pb a b)))) :
  bD Tryz.prog 168 [.pt (lG af tb lq js) 0,.fn gi [] ci,.fn gb [] cb] (.v (.int .i64 (oz (iG dY pb af.length)))):=by
 have hN:=aX af;have ry:clB 0 0 (.fn gi [] ci)=true:=by simp only [clB,Bool.and_eq_true];exact ⟨rfl,JN⟩
 have zU:clB 0 0 (.fn gb [] cb)=true:=by simp only [clB,Bool.and_eq_true];exact ⟨rfl,JO⟩
 refine ev_go (P:=Tryz.prog) tt tt_ok 5000 57 [.tmp 6] Tryz.func168 rfl Tryz.ntmps168 rfl (nL rfl) (fun E9 w9 hn9 hm9=>?_);refine aF (fun j st=>∃ e:Nat,st=iZ (lG af tb lq js) gi gb ci cb (bV af).length (oz (bestA dY pb e)) e/\e<=af.length/\j=af.length - e) af.length (iZ (lG af tb lq js) gi gb ci cb (bV af).length (oz (bestA dY pb 0)) 0) (aj ⟨_,rfl⟩ wA rfl rfl rfl (by repeat' (first | exact trivial | exact ah rfl | exact ah ry | exact ah zU | refine ⟨⟨_,rfl,?_⟩,?_⟩))) ⟨0,rfl,by omega,by omega⟩ ?_;rintro j st ⟨e,rfl,he,rfl⟩;refine br (fun hL=>?_) (fun hL=>?_)
 ·have av:e < af.length:=by have:=hL;simp [hN] at this;exact this
  have hs:bestA dY pb (e + 1)=if dY e && uU pb e (bestA dY pb e) then some e else bestA dY pb e:=rfl
  refine call_p Lr (ye e av) ⟨_,_,rfl,rfl,GG⟩ rfl ?_
  cases hA:bestA dY pb e with
  | none=>
   rw [hA] at hs;refine br (fun g=>?_) (fun g=>?_)
   ·have g:dY e=true:=by simpa [lastG] using g
    have hz:(e:Int)=oz (bestA dY pb (e + 1)):=by rw [hs,g];all_goals rfl
    exact ⟨iZ (lG af tb lq js) gi gb ci cb (bV af).length (oz (bestA dY pb (e + 1))) (e + 1),(aj ⟨_,rfl⟩ wA rfl rfl rfl (by repeat' (first | exact trivial | exact ah rfl | exact ah ry | exact ah zU | exact ap (ei av (by omega)) | exact ap hz | refine ⟨⟨_,rfl,?_⟩,?_⟩))),af.length - (e + 1),by omega,e + 1,rfl,by omega,rfl⟩
   ·have g:dY e=false:=by simpa [lastG] using g
    have hz:oz none=oz (bestA dY pb (e + 1)):=by rw [hs,g];all_goals rfl
    exact ⟨iZ (lG af tb lq js) gi gb ci cb (bV af).length (oz (bestA dY pb (e + 1))) (e + 1),(aj ⟨_,rfl⟩ wA rfl rfl rfl (by repeat' (first | exact trivial | exact ah rfl | exact ah ry | exact ah zU | exact ap (ei av (by omega)) | exact ap hz | refine ⟨⟨_,rfl,?_⟩,?_⟩))),af.length - (e + 1),by omega,e + 1,rfl,by omega,rfl⟩
  | some k=>
   rw [hA] at hs;have hk:=jQ hA;refine br (fun g=>?_) (fun g=>?_)
   ·have g:dY e=true:=by simpa [lastG] using g
    refine call_p Ls (Lt e k av (by omega)) ⟨_,_,rfl,rfl,_,_,rfl,rfl,GH⟩ rfl ?_;refine br (fun g2=>?_) (fun g2=>?_)
    ·have g2:pb e k=true:=by simpa [pickB,g,lastG] using g2
     have hz:(e:Int)=oz (bestA dY pb (e + 1)):=by rw [hs,g,uU,g2];all_goals rfl
     exact ⟨iZ (lG af tb lq js) gi gb ci cb (bV af).length (oz (bestA dY pb (e + 1))) (e + 1),(aj ⟨_,rfl⟩ wA rfl rfl rfl (by repeat' (first | exact trivial | exact ah rfl | exact ah ry | exact ah zU | exact ap (ei av (by omega)) | exact ap hz | refine ⟨⟨_,rfl,?_⟩,?_⟩))),af.length - (e + 1),by omega,e + 1,rfl,by omega,rfl⟩
    ·have g2:pb e k=false:=by simpa [pickB,g,lastG] using g2
     have hz:oz (some k)=oz (bestA dY pb (e + 1)):=by rw [hs,g,uU,g2];all_goals rfl
     exact ⟨iZ (lG af tb lq js) gi gb ci cb (bV af).length (oz (bestA dY pb (e + 1))) (e + 1),(aj ⟨_,rfl⟩ wA rfl rfl rfl (by repeat' (first | exact trivial | exact ah rfl | exact ah ry | exact ah zU | exact ap (ei av (by omega)) | exact ap hz | refine ⟨⟨_,rfl,?_⟩,?_⟩))),af.length - (e + 1),by omega,e + 1,rfl,by omega,rfl⟩
   ·have g:dY e=false:=by simpa [lastG] using g
    have hz:oz (some k)=oz (bestA dY pb (e + 1)):=by rw [hs,g];all_goals rfl
    exact ⟨iZ (lG af tb lq js) gi gb ci cb (bV af).length (oz (bestA dY pb (e + 1))) (e + 1),(aj ⟨_,rfl⟩ wA rfl rfl rfl (by repeat' (first | exact trivial | exact ah rfl | exact ah ry | exact ah zU | exact ap (ei av (by omega)) | exact ap hz | refine ⟨⟨_,rfl,?_⟩,?_⟩))),af.length - (e + 1),by omega,e + 1,rfl,by omega,rfl⟩
 ·have ch:e=af.length:=by have:=hL;simp [hN] at this;omega
  subst ch;refine aF (fun j st=>∃ e:Nat,st=jR (lG af tb lq js) gi gb ci cb (bV af).length (oz (bestA dY pb af.length)) e/\e<=af.length/\(∀ o,bestA dY pb af.length=some o->∀ c,c < e->(dY c && !pb o c)=false)/\j=af.length - e) af.length (jR (lG af tb lq js) gi gb ci cb (bV af).length (oz (bestA dY pb af.length)) 0) (aj ⟨_,rfl⟩ wA rfl rfl rfl (by repeat' (first | exact trivial | exact ah rfl | exact ah ry | exact ah zU | refine ⟨⟨_,rfl,?_⟩,?_⟩))) ⟨0,rfl,by omega,fun _ _ c hc=>by omega,by omega⟩ ?_;rintro j st ⟨e,rfl,he,n4,rfl⟩;refine br (fun hL=>?_) (fun hL=>?_)
  ·have av:e < af.length:=by have:=hL;simp [hN] at this;exact this
   cases hA:bestA dY pb af.length with
   | none=>
    exact ⟨jR (lG af tb lq js) gi gb ci cb (bV af).length (oz none) (e + 1),(aj ⟨_,rfl⟩ wA rfl rfl rfl (by repeat' (first | exact trivial | exact ah rfl | exact ah ry | exact ah zU | exact ap (ei av (by omega)) | refine ⟨⟨_,rfl,?_⟩,?_⟩))),af.length - (e + 1),by omega,e + 1,rfl,by omega,(fun _ h=>by cases h),rfl⟩
   | some o=>
    have ho:=jQ hA;have n4:=n4 o hA;refine call_p Lr (ye e av) ⟨_,_,rfl,rfl,GG⟩ rfl ?_;refine br (fun g=>?_) (fun g=>?_)
    ·have g:dY e=true:=by simpa [pickB] using g
     refine call_p Ls (Lt o e ho av) ⟨_,_,rfl,rfl,_,_,rfl,rfl,GH⟩ rfl ?_;refine br (fun g2=>?_) (fun g2=>?_)
     ·have g2:pb o e=false:=by simpa [pickB,g,lastG] using g2
      have:iG dY pb af.length=none:=by
       rw [iG,hA];simp only;rw [if_pos];rw [List.any_eq_true];exact ⟨e,by simpa using av,by simp [g,g2]⟩
      rw [this];exact (rfl:_=_)
     ·have g2:pb o e=true:=by simpa [pickB,g,lastG] using g2
      exact ⟨jR (lG af tb lq js) gi gb ci cb (bV af).length (oz (some o)) (e + 1),(aj ⟨_,rfl⟩ wA rfl rfl rfl (by repeat' (first | exact trivial | exact ah rfl | exact ah ry | exact ah zU | exact ap (ei av (by omega)) | refine ⟨⟨_,rfl,?_⟩,?_⟩))),af.length - (e + 1),by omega,e + 1,rfl,by omega,fun o' o9 c hc=>by
       cases o9;rcases Nat.lt_succ_iff_lt_or_eq.1 hc with hc | rfl
       ·exact n4 c hc
       ·simp [g2],rfl⟩
    ·have g:dY e=false:=by simpa [pickB] using g
     exact ⟨jR (lG af tb lq js) gi gb ci cb (bV af).length (oz (some o)) (e + 1),(aj ⟨_,rfl⟩ wA rfl rfl rfl (by repeat' (first | exact trivial | exact ah rfl | exact ah ry | exact ah zU | exact ap (ei av (by omega)) | refine ⟨⟨_,rfl,?_⟩,?_⟩))),af.length - (e + 1),by omega,e + 1,rfl,by omega,fun o' o9 c hc=>by
       cases o9;rcases Nat.lt_succ_iff_lt_or_eq.1 hc with hc | rfl
       ·exact n4 c hc
       ·simp [g],rfl⟩
  ·have ch:e=af.length:=by have:=hL;simp [hN] at this;omega
   subst ch
   have:iG dY pb af.length=bestA dY pb af.length:=by
    cases hA:bestA dY pb af.length with
    | none=>rw [iG,hA]
    | some o=>
     rw [iG,hA];simp only;rw [if_neg];rw [List.any_eq_true];rintro ⟨c,hc,h2⟩;rw [n4 o hA c (by simpa using hc)] at h2;cases h2
   rw [this];exact (rfl:_=_)
theorem kz (js:List Int) (bx:List (List DV)) (N n m:Nat):CcL bx N n m (cZ js) (cZ js):=by
 induction js with
 | nil=>exact rfl
 | cons z r ih=>exact ⟨_,_,rfl,rfl,ih⟩
theorem cY {n m:Nat} {tk:List TkE} (js:List Int):WeL n m tk (cZ js) (cZ js):=td _ fun x hx=>by
 obtain ⟨z,_,rfl⟩:=List.mem_map.1 hx;exact ⟨_,rfl⟩
theorem DK (f:Nat->Nat) (js:List Int):renL f (cZ js)=cZ js:=by
 induction js with
 | nil=>rfl
 | cons z r ih=>simp only [cZ,List.map_cons,renL,renD] at ih ⊢;rw [ih]
theorem DL (js:List Int):(cZ js).length=js.length:=by simp [cZ]
theorem yJ (js:List Int) (i:Nat) (z:Int):(cZ js).set i (.v (.int .i64 z))=cZ (js.set i z):=by simp [cZ,List.map_set]
abbrev c7 (af:List ByteArray) (tc:List DV) (rows:List Nat) (js:List Int):List DV:=lG af (.pt tc 0) (gB rows) js
theorem AX (af:List ByteArray) (tc:List DV) (rows:List Nat) (js:List Int):(c7 af tc rows js).length=js.length + 3:=by simp [lG,cZ]
theorem lH {af:List ByteArray} {tc:List DV} {rows:List Nat} {js:List Int} {i k:Nat} {z:Int} (h:k=i + 3):(c7 af tc rows js).set k (.v (.int .i64 z))=c7 af tc rows (js.set i z):=by
 subst h;simp only [lG,List.set_cons_succ,yJ]
theorem AY (f:Nat->Nat) (af:List ByteArray) (tc:List DV) (rows:List Nat) (js:List Int):renL f (c7 af tc rows js)=c7 af tc rows js:=by
 simp only [lG,renL,DK];rfl
theorem uV {n m:Nat} {tk:List TkE} {l:List DV} {af:List ByteArray} {tc:List DV} {rows:List Nat} {js:List Int} (h:l=c7 af tc rows js):WeL n m tk l (c7 af tc rows js):=by
 subst h;exact ⟨_,_,rfl,ah rfl,_,_,rfl,ah rfl,_,_,rfl,ah rfl,cY js⟩
def dJ (f:Nat->Nat->Bool) (n a b:Nat):Option Nat:=iG (fun c=>f a c && f b c) f n
def dZ (f:Nat->Nat->Bool) (n a b:Nat):Option Nat:=iG (fun c=>f c a && f c b) (fun x y=>f y x) n
theorem mQ (f:Nat->Nat->Bool) (n a b:Nat):dJ f n a b=dJ f n b a:=by
 unfold dJ;congr 1;funext c;exact Bool.and_comm _ _
theorem mR (f:Nat->Nat->Bool) (n a b:Nat):dZ f n a b=dZ f n b a:=by
 unfold dZ;congr 1;funext c;exact Bool.and_comm _ _
def gT (f:Nat->Nat->Bool) (n a b:Nat):Bool:=(dJ f n a b).isNone || (dZ f n a b).isNone
def jS (f:Nat->Nat->Bool) (n b:Nat):Bool:=(List.range (b + 1)).any fun a=>gT f n a b
def JM (f:Nat->Nat->Bool) (n:Nat) (js:List Int) (a b:Nat):Prop:=js[a * 32 + b]? = some (oz (dJ f n a b))/\js[1024 + (a * 32 + b)]? = some (oz (dZ f n a b))
def nG (js:List Int) (a b:Nat) (j m:Int):List Int:=(((js.set (a * 32 + b) j).set (b * 32 + a) j).set (1024 + (a * 32 + b)) m).set (1024 + (b * 32 + a)) m
theorem yK (js:List Int) (a b:Nat) (j m:Int):(nG js a b j m).length=js.length:=by simp [nG]
theorem aY {js:List Int} {i k:Nat} {z:Int} (h:k≠i):(js.set k z)[i]? = js[i]?:=List.getElem?_set_ne h
theorem jT {f:Nat->Nat->Bool} {n:Nat} {js:List Int} (hl:js.length=2048) {a b:Nat} (ha:a < 32) (hb:b < 32) {x y:Nat} (hx:x < 32) (hy:y < 32)
  (h:JM f n js x y∨(x=a/\y=b)∨(x=b/\y=a)):JM f n (nG js a b (oz (dJ f n a b)) (oz (dZ f n a b))) x y:=by
 have key:(x=a/\y=b)∨(x=b/\y=a)∨(JM f n js x y/\¬ (x=a/\y=b)/\¬ (x=b/\y=a)):=by
  by_cases h1:x=a/\y=b
  ·exact .inl h1
  ·by_cases h2:x=b/\y=a
   ·exact .inr (.inl h2)
   ·rcases h with h | h | h
    ·exact .inr (.inr ⟨h,h1,h2⟩)
    ·exact (h1 h).elim
    ·exact (h2 h).elim
 rcases key with ⟨rfl,rfl⟩ | ⟨rfl,rfl⟩ | ⟨h,h1,h2⟩
 ·unfold JM nG;refine ⟨?_,?_⟩
  ·rw [aY (by omega),aY (by omega)];by_cases pu:x=y
   ·subst pu;rw [List.getElem?_set_self (by simp;omega)]
   ·rw [aY (by omega),List.getElem?_set_self (by omega)]
  ·by_cases pu:x=y
   ·subst pu;rw [List.getElem?_set_self (by simp;omega)]
   ·rw [aY (by omega),List.getElem?_set_self (by simp;omega)]
 ·unfold JM nG;rw [mQ f n x y,mR f n x y];refine ⟨?_,?_⟩
  ·rw [aY (by omega),aY (by omega),List.getElem?_set_self (by simp;omega)]
  ·rw [List.getElem?_set_self (by simp;omega)]
 ·unfold JM nG;have g1:a * 32 + b≠x * 32 + y:=fun he=>h1 ⟨by omega,by omega⟩;have g2:b * 32 + a≠x * 32 + y:=fun he=>h2 ⟨by omega,by omega⟩;refine ⟨?_,?_⟩
  ·rw [aY (by omega),aY (by omega),aY g2,aY g1];exact h.1
  ·rw [aY (by omega),aY (by omega),aY (by omega),aY (by omega)];exact h.2
abbrev yL (af:List ByteArray) (tc:List DV) (rows:List Nat) (js:List Int) (e:Nat):St:=
 ⟨[(1,⟨[],.loc 1 0⟩),(3,⟨[],.loc 2 0⟩),(4,⟨[],.loc 3 0⟩),(15,⟨[],.v (.int .i64 (bV af).length)⟩),(16,⟨[],.v (.int .i64 e)⟩)],
  [c7 af tc rows js,[.loc 0 0],[.fn 166 [] [.loc 1 0]],[.fn 167 [] [.loc 1 0]]],[]⟩
abbrev tq (af:List ByteArray) (tc:List DV) (rows:List Nat) (js:List Int) (e f:Nat):St:=
 ⟨[(1,⟨[],.loc 1 0⟩),(3,⟨[],.loc 2 0⟩),(4,⟨[],.loc 3 0⟩),(15,⟨[],.v (.int .i64 (bV af).length)⟩),(16,⟨[],.v (.int .i64 e)⟩),(5,⟨[],.loc 4 0⟩),(6,⟨[],.loc 5 0⟩)],
  [c7 af tc rows js,[.loc 0 0],[.fn 166 [] [.loc 1 0]],[.fn 167 [] [.loc 1 0]],[.v (.int .i64 e)],[.v (.int .i64 f)]],[]⟩
abbrev yM (af:List ByteArray) (tc:List DV) (rows:List Nat) (js:List Int) (e f:Nat):St:=
 ⟨[(1,⟨[],.loc 1 0⟩),(3,⟨[],.loc 2 0⟩),(4,⟨[],.loc 3 0⟩),(15,⟨[],.v (.int .i64 (bV af).length)⟩),(16,⟨[],.v (.int .i64 e)⟩),(5,⟨[],.loc 4 0⟩),(6,⟨[],.loc 6 0⟩)],
  [c7 af tc rows js,[.loc 0 0],[.fn 166 [] [.loc 1 0]],[.fn 167 [] [.loc 1 0]],[.v (.int .i64 e)],[.v (.int .i64 f)],[.v (.int .i64 (f + 1:Nat))]],[]⟩
abbrev yN (af:List ByteArray) (tc:List DV) (rows:List Nat) (js:List Int) (e f:Nat):St:=
 ⟨[(1,⟨[],.loc 1 0⟩),(3,⟨[],.loc 2 0⟩),(4,⟨[],.loc 3 0⟩),(15,⟨[],.v (.int .i64 (bV af).length)⟩),(16,⟨[],.v (.int .i64 e)⟩),(5,⟨[],.loc 4 0⟩),(6,⟨[],.loc 5 0⟩)],
  [c7 af tc rows js,[.loc 0 0],[.fn 166 [] [.loc 1 0]],[.fn 167 [] [.loc 1 0]],[.v (.int .i64 e)],[.v (.int .i64 (f + 1:Nat))],[.v (.int .i64 f)]],[]⟩
theorem AZ (af:List ByteArray) (tc:List DV) (rows:List Nat) (js:List Int) (e f:Nat):yM af tc rows js e f=cE 5 6 (yN af tc rows js e f):=by
 simp only [cE,renO,AY];rfl
def JP (af:List ByteArray) (tc:List DV) (rows:List Nat) (r:DV) (os:List (List DV)) (_:List TkE):Prop:=
 ∃ DM,os=[c7 af tc rows DM]/\DM.length=2048/\r = .v (.int .i64 (oz (bm (jS (ay rows) af.length) af.length))) /\
  (bm (jS (ay rows) af.length) af.length=none->∀ x y,x < af.length->y < af.length->JM (ay rows) af.length DM x y)
theorem rz (af:List ByteArray) (tc:List DV) (rows:List Nat) (js:List Int) (hr:bY rows) (hlen:rows.length=af.length) (hn:af.length<=32) (hj:js.length=2048) :
  Ev Tryz.prog 101 [.loc 0 0] [c7 af tc rows js] [] (JP af tc rows):=by
 have hN:=aX af;refine ev_go (P:=Tryz.prog) tt tt_ok 5000 73 [.tmp 2] Tryz.func101 rfl Tryz.ntmps101 rfl (nL rfl) (fun E9 w9 hn9 hm9=>?_);refine aF (fun j st=>∃ (e:Nat) (js:List Int),st=yL af tc rows js e/\e<=af.length/\js.length=2048/\(∀ b,b < e->jS (ay rows) af.length b=false)/\(∀ x y,x < e->y < e->JM (ay rows) af.length js x y)/\j=af.length - e) af.length (yL af tc rows js 0) (bw 4 rfl (by repeat' (first | exact rfl | exact ah rfl | exact cY _ | refine ⟨_,_,rfl,?_,?_⟩)) rfl rfl rfl (by repeat' (first | exact trivial | exact ah rfl | exact cY _ | refine ⟨⟨_,rfl,?_⟩,?_⟩))) ⟨0,js,rfl,by omega,hj,fun _ h=>by omega,fun _ _ h=>by omega,by omega⟩ ?_;rintro j st ⟨e,js,rfl,he,hj,n4,lI,rfl⟩;refine br (fun hL=>?_) (fun hL=>?_)
 ·have av:e < af.length:=by have:=hL;simp [hN] at this;exact this
  refine DJ (fun j st=>∃ (f:Nat) (js:List Int),st=tq af tc rows js e f/\f<=e + 1/\js.length=2048/\(∀ a,a < f->gT (ay rows) af.length a e=false)/\(∀ x y,x < e->y < e->JM (ay rows) af.length js x y)/\(∀ x,x < f->JM (ay rows) af.length js x e/\JM (ay rows) af.length js e x)/\j=e + 1 - f) (e + 1) (tq af tc rows js e 0) (.DG (bw 6 rfl (by repeat' (first | exact rfl | exact ah rfl | exact cY _ | refine ⟨_,_,rfl,?_,?_⟩)) rfl rfl rfl (by repeat' (first | exact trivial | exact ah rfl | exact cY _ | refine ⟨⟨_,rfl,?_⟩,?_⟩)))) ⟨0,js,rfl,by omega,hj,fun _ h=>by omega,lI,fun _ h=>by omega,by omega⟩ ?_;clear lI hj;rintro j st ⟨f,js,rfl,hf,hj,Ef,lI,wY,rfl⟩;refine br (fun yO=>?_) (fun yO=>?_)
  ·have Ae:f<=e:=by have:=yO;simp at this;exact this
   have jz:=oA af (.pt tc 0) (gB rows) js 169 166 FX xZ
    [.pt [Cj (c7 af tc rows js)] 0,.pt [.v (.int .i64 f)] 0,.pt [.v (.int .i64 e)] 0] [.pt [.pt (c7 af tc rows js) 0] 0] (fun c=>ay rows f c && ay rows e c) (ay rows) ax ax rfl rfl (by omega)
    (fun c hc=>wa af (.pt tc 0) rows js hr f e c (by omega) (by omega) (by omega)) (fun a b ha hb=>kx af (.pt tc 0) rows js hr a b (by omega) (by omega))
   have iB:=oA af (.pt tc 0) (gB rows) js 170 167 FY x0
    [.pt [Ck (c7 af tc rows js)] 0,.pt [.v (.int .i64 f)] 0,.pt [.v (.int .i64 e)] 0] [.pt [.pt (c7 af tc rows js) 0] 0] (fun c=>ay rows c f && ay rows c e) (fun x y=>ay rows y x) ax ax rfl rfl (by omega)
    (fun c hc=>wb af (.pt tc 0) rows js hr f e c (by omega) (by omega) (by omega)) (fun a b ha hb=>ky af (.pt tc 0) rows js hr a b (by omega) (by omega))
   refine pv B1 jz (by repeat' (first | exact rfl | exact trivial | exact Or.inr (Or.inl ⟨_,rfl⟩) | exact Or.inr ⟨_,rfl⟩ | exact Or.inl ⟨rfl,rfl⟩ | exact Or.inl rfl | refine Or.inr ⟨_,_,rfl,Nat.zero_le _,rfl,?_⟩ | refine ⟨_,_,rfl,?_,?_⟩ | refine ⟨_,rfl,?_⟩ | exact kz _ _ _ _ _ | refine Or.inr (Or.inr (Or.inr ⟨_,_,rfl,?_⟩)) | exact Or.inl rfl | refine Or.inr ?_)) rfl ?_;refine pv B1 iB (by repeat' (first | exact rfl | exact trivial | exact Or.inr (Or.inl ⟨_,rfl⟩) | exact Or.inr ⟨_,rfl⟩ | exact Or.inl ⟨rfl,rfl⟩ | exact Or.inl rfl | refine Or.inr ⟨_,_,rfl,Nat.zero_le _,rfl,?_⟩ | refine ⟨_,_,rfl,?_,?_⟩ | refine ⟨_,rfl,?_⟩ | exact kz _ _ _ _ _ | refine Or.inr (Or.inr (Or.inr ⟨_,_,rfl,?_⟩)) | exact Or.inl rfl | refine Or.inr ?_)) rfl ?_
   have DN:pickB (decide (oz (dJ (ay rows) af.length f e) = -1)) true (decide (oz (dZ (ay rows) af.length f e) = -1))=gT (ay rows) af.length f e:=by
    unfold gT
    cases dJ (ay rows) af.length f e with
    | none=>rfl
    | some j=>
     have:decide (oz (some j) = -1)=false:=by simp [oz]
     rw [this]
     cases dZ (ay rows) af.length f e with
     | none=>rfl
     | some m=>
      have:decide (oz (some m) = -1)=false:=by simp [oz]
      rw [this];rfl
   refine br (fun g=>?_) (fun g=>?_)
   ·have g:gT (ay rows) af.length f e=true:=DN.symm.trans g
    have hb:jS (ay rows) af.length e=true:=by
     unfold jS;rw [List.any_eq_true];exact ⟨f,by simp;omega,g⟩
    have sn:=dH (p:=jS (ay rows) af.length) av hb n4;refine ⟨.v (.int .i64 e),[c7 af tc rows js],ax,(by repeat' (first | exact rfl | exact trivial | exact Or.inr (Or.inl ⟨_,rfl⟩) | exact Or.inr ⟨_,rfl⟩ | exact Or.inl ⟨rfl,rfl⟩ | exact Or.inl rfl | refine Or.inr ⟨_,_,rfl,Nat.zero_le _,rfl,?_⟩ | refine ⟨_,_,rfl,?_,?_⟩ | refine ⟨_,rfl,?_⟩ | exact kz _ _ _ _ _ | refine Or.inr (Or.inr (Or.inr ⟨_,_,rfl,?_⟩)) | exact Or.inl rfl | refine Or.inr ?_)),js,rfl,hj,?_,fun h=>by rw [sn] at h;cases h⟩;rw [sn];rfl
   ·have g:gT (ay rows) af.length f e=false:=DN.symm.trans g;refine lF [0] (fun _=>false) mo (by decide +kernel) ?_;have Et:=AX af tc rows js;refine ⟨⟨by omega,by omega⟩,?_⟩;refine ⟨⟨by omega,by omega⟩,?_⟩;refine ⟨by rw [Et];omega,?_⟩;refine ⟨⟨by omega,by omega⟩,?_⟩;refine ⟨⟨by omega,by omega⟩,?_⟩;refine ⟨by rw [List.length_set,Et];omega,?_⟩;refine lF [0] (fun _=>false) mo (by decide +kernel) ?_;refine ⟨⟨by omega,by omega⟩,?_⟩;refine ⟨⟨by omega,by omega⟩,?_⟩;refine ⟨by rw [List.length_set,List.length_set,Et];omega,?_⟩;refine ⟨⟨by omega,by omega⟩,?_⟩;refine ⟨⟨by omega,by omega⟩,?_⟩;refine ⟨by rw [List.length_set,List.length_set,List.length_set,Et];omega,?_⟩
    have ed:((((c7 af tc rows js).set (0 + 0 + 3 + (f:Int).toNat * 32 + (e:Int).toNat * 1) (DV.v (.int .i64 (oz (dJ (ay rows) af.length f e))))).set (0 + 0 + 3 + (e:Int).toNat * 32 + (f:Int).toNat * 1) (DV.v (.int .i64 (oz (dJ (ay rows) af.length f e))))).set (0 + 0 + 1027 + (f:Int).toNat * 32 + (e:Int).toNat * 1) (DV.v (.int .i64 (oz (dZ (ay rows) af.length f e))))).set (0 + 0 + 1027 + (e:Int).toNat * 32 + (f:Int).toNat * 1) (DV.v (.int .i64 (oz (dZ (ay rows) af.length f e))))=c7 af tc rows (nG js f e (oz (dJ (ay rows) af.length f e)) (oz (dZ (ay rows) af.length f e))):=by
     rw [lH (i:=f * 32 + e) (by omega),lH (i:=e * 32 + f) (by omega),lH (i:=1024 + (f * 32 + e)) (by omega),lH (i:=1024 + (e * 32 + f)) (by omega)];rfl
    refine ⟨tq af tc rows (nG js f e (oz (dJ (ay rows) af.length f e)) (oz (dZ (ay rows) af.length f e))) e (f + 1),
     .trans (.DG (s2:=yM af tc rows (nG js f e (oz (dJ (ay rows) af.length f e)) (oz (dZ (ay rows) af.length f e))) e f) (bw 7 rfl (by repeat' (first | exact rfl | exact ah rfl | exact uV ed | exact ap (ei (n:=e + 1) (by omega) (by omega)) | refine ⟨_,_,rfl,?_,?_⟩)) rfl rfl rfl (by repeat' (first | exact trivial | exact ah rfl | exact uV ed | exact ap (ei (n:=e + 1) (by omega) (by omega)) | refine ⟨⟨_,rfl,?_⟩,?_⟩))))
      (.trans (.sU 5 6 (yN af tc rows (nG js f e (oz (dJ (ay rows) af.length f e)) (oz (dZ (ay rows) af.length f e))) e f) _ (AZ _ _ _ _ _ _) rfl rfl rfl rfl) (.DG (bw 6 rfl (by repeat' (first | exact rfl | exact ah rfl | exact cY _ | refine ⟨_,_,rfl,?_,?_⟩)) rfl rfl rfl (by repeat' (first | exact trivial | exact ah rfl | exact cY _ | refine ⟨⟨_,rfl,?_⟩,?_⟩))))),
     e + 1 - (f + 1),by omega,f + 1,_,rfl,by omega,by rw [yK];exact hj,fun a ha=>?_,fun x y hx hy=>?_,fun x hx=>?_,rfl⟩
    ·rcases Nat.lt_succ_iff_lt_or_eq.1 ha with ha | rfl
     ·exact Ef a ha
     ·exact g
    ·exact jT hj (by omega) (by omega) (by omega) (by omega) (.inl (lI x y hx hy))
    ·rcases Nat.lt_succ_iff_lt_or_eq.1 hx with hx | rfl
     ·exact ⟨jT hj (by omega) (by omega) (by omega) (by omega) (.inl (wY x hx).1),jT hj (by omega) (by omega) (by omega) (by omega) (.inl (wY x hx).2)⟩
     ·exact ⟨jT hj (by omega) (by omega) (by omega) (by omega) (.inr (.inl ⟨rfl,rfl⟩)),jT hj (by omega) (by omega) (by omega) (by omega) (.inr (.inr ⟨rfl,rfl⟩))⟩
  ·have Ae:f=e + 1:=by have:=yO;simp at this;omega
   subst Ae
   have hb:jS (ay rows) af.length e=false:=by
    unfold jS;rw [List.any_eq_false];intro a ha;rw [Ef a (by simpa using ha)];decide
   refine ⟨yL af tc rows js (e + 1),(bw 4 rfl (by repeat' (first | exact rfl | exact ah rfl | exact cY _ | exact ap (ei av (by omega)) | refine ⟨_,_,rfl,?_,?_⟩)) rfl rfl rfl (by repeat' (first | exact trivial | exact ah rfl | exact cY _ | exact ap (ei av (by omega)) | refine ⟨⟨_,rfl,?_⟩,?_⟩))),af.length - (e + 1),by omega,e + 1,js,rfl,by omega,hj,fun b cI=>?_,fun x y hx hy=>?_,rfl⟩
   ·rcases Nat.lt_succ_iff_lt_or_eq.1 cI with h | rfl
    ·exact n4 b h
    ·exact hb
   ·rcases Nat.lt_succ_iff_lt_or_eq.1 hx with hx | rfl
    ·rcases Nat.lt_succ_iff_lt_or_eq.1 hy with hy | rfl
     ·exact lI x y hx hy
     ·exact (wY x (by omega)).1
    ·exact (wY y (by omega)).2
 ·have ch:e=af.length:=by have:=hL;simp [hN] at this;omega
  subst ch;refine ⟨.v (.int .i64 (-1)),[c7 af tc rows js],ax,(by repeat' (first | exact rfl | exact trivial | exact Or.inr (Or.inl ⟨_,rfl⟩) | exact Or.inr ⟨_,rfl⟩ | exact Or.inl ⟨rfl,rfl⟩ | exact Or.inl rfl | refine Or.inr ⟨_,_,rfl,Nat.zero_le _,rfl,?_⟩ | refine ⟨_,_,rfl,?_,?_⟩ | refine ⟨_,rfl,?_⟩ | exact kz _ _ _ _ _ | refine Or.inr (Or.inr (Or.inr ⟨_,_,rfl,?_⟩)) | exact Or.inl rfl | refine Or.inr ?_)),js,rfl,hj,?_,fun _=>lI⟩;rw [eX n4];rfl
def Ey (l:List Wd) (k:Nat):Int:=((l[k]?).getD (⟨aE,0⟩:Wd)).a
def latF (l:List Wd) (o:List (Wd × Wd)):Ft:=
 if (fC l o).1≠0 then fC l o
 else if (enumL l 0 l).1≠0 then enumL l 0 l
 else if (numF (al l) o).1≠0 then numF (al l) o
 else match bm (mN l.length (eP l.length (cC (al l) o))) l.length with
  | some a=>(11,Ey l a)
  | none=>
   match bm (jS (eP l.length (cC (al l) o)) l.length) l.length with
   | some b=>(12,Ey l b)
   | none=>(0,0)
def DO (l:List Wd) (o:List (Wd × Wd)) (d:DV):Prop:=
 ∃ ak js,di (al l) ak/\ak.length<=l.length/\js.length=2048/\(∀ x y,x < l.length->y < l.length->JM (eP l.length (cC (al l) o)) l.length js x y) /\
  d = .pt (c7 (al l) (bA (al l) ak) (closeR (cp l.length (cC (al l) o)) l.length) js) 0
def tu (l:List Wd) (o:List (Wd × Wd)) (r:DV) (_:List (List DV)) (_:List TkE):Prop:=
 if (latF l o).1≠0 then r = .cP [.v (.pointer none),(latF l o).d] else ∃ d,DO l o d/\r = .cP [d,(latF l o).d]
theorem pK {L:List ByteArray}:∀ {o:List (Wd × Wd)},(numF L o).1=0->vU L.length (cC L o)
 | [],_=>by intro p hp;simp [cC] at hp
 | q :: r,h=>by
  rw [numF] at h;split at h
  ·cases h
  ·rename_i h1;split at h
   ·cases h
   ·rename_i h2;have ih:=pK (o:=r) h;intro p hp;simp only [cC,List.map_cons,List.mem_cons] at hp;rcases hp with rfl | hp
    ·obtain ⟨a,ha⟩:=Option.ne_none_iff_exists'.1 h1;obtain ⟨b,hb⟩:=Option.ne_none_iff_exists'.1 h2;simp only [DF,ha,hb,Option.getD_some];exact ⟨(dw ha).1,(dw hb).1⟩
    ·exact ih p hp
theorem dK (l:List Wd):(al l).length=l.length:=by simp [al]
theorem mS {all:List Wd}:∀ {l:List Wd} {i:Nat},(enumL all i l).1=0->enumL all i l=(0,0)
 | [],_,_=>rfl
 | x :: r,i,h=>by
  rw [enumL] at h ⊢;split at h
  ·rename_i h1;exact (h1 h).elim
  ·rename_i h1;rw [if_neg h1];exact mS h
theorem oB {L:List ByteArray}:∀ {o:List (Wd × Wd)},(numF L o).1=0->numF L o=(0,0)
 | [],_=>rfl
 | q :: r,h=>by
  rw [numF] at h ⊢;split at h
  ·cases h
  ·rename_i h1;split at h
   ·cases h
   ·rename_i h2;rw [if_neg h1,if_neg h2];exact oB h
theorem lJ {l:List Wd} {k:Nat} {w:Wd} (h:l[k]? = some w):Ey l k=w.a:=by simp [Ey,h]
theorem DP (n:Nat):vL (List.replicate n (.int .i64 0))=cZ (List.replicate n 0):=by
 induction n with
 | zero=>rfl
 | succ n ih=>simp only [List.replicate_succ,vL,cZ,List.map_cons] at ih ⊢;rw [ih]
theorem gU {l:List Wd} {o:List (Wd × Wd)} {f:Ft} {os:List (List DV)} {tk:List TkE} (h:latF l o=f) (hf:f.1≠0):tu l o (.cP [.v (.pointer none),f.d]) os tk:=by
 unfold tu;rw [h,if_pos hf]
theorem A0 {l:List Wd} {o:List (Wd × Wd)} {d:DV} {os:List (List DV)} {tk:List TkE} (h:latF l o=(0,0)) (hd:DO l o d):tu l o (.cP [d,Ft.d (0,0)]) os tk:=by
 unfold tu;rw [h,if_neg (by simp)];exact ⟨d,hd,rfl⟩
theorem A1 (n m:Nat) (af:List ByteArray) (tc:List DV) (rows:List Nat) (js:List Int):clB.clL n m (c7 af tc rows js)=true:=by
 have h:∀ l:List Int,clB.clL n m (cZ l)=true:=by
  intro l
  induction l with
  | nil=>rfl
  | cons z r ih=>simp only [cZ,List.map_cons,clB.clL,clB,Bool.true_and] at ih ⊢;exact ih
 simp only [lG,clB.clL,clB,h,gB,Bool.and_self]
theorem rA (l:List Wd) (o:List (Wd × Wd)) (hs:wdsWt l<=1099511627776) (um:prsWt o<=1099511627776) :
  Ev Tryz.prog 43 [.sl 2 (bL l) none,.sl 4 (mO o) none] [] [] (tu l o):=by
 have sE:=bT l;have BO:=ku o;have lp:=dK l;have hF:=latF.eq_1 l o;refine ev_go (P:=Tryz.prog) tt tt_ok 5000 86 [.tmp 4,.cell 5 54] Tryz.func43 rfl Tryz.ntmps43 rfl (nL rfl) (fun E9 w9 hn9 hm9=>?_);refine call_p Jj (vX l o) ax rfl ?_;by_cases hm:(fC l o).1≠0
 ·rw [if_pos hm] at hF;refine br (fun h=>?_) (fun h=>?_)
  ·refine aV mo (by decide +kernel) ?_;exact ⟨_,ax,gU (os:=[]) (tk:=[]) hF hm⟩
  ·exfalso;simp at h;exact hm h
 rw [if_neg hm] at hF;refine br (fun h=>?_) (fun _=>?_)
 ·exfalso;simp at h;exact hm h
 have wW:l ≠ []:=by
  rintro rfl;simp [fC] at hm
 have hl32:l.length<=32:=by
  rcases Nat.lt_or_ge 32 l.length with h | h
  ·simp [fC,wW,h] at hm
  ·exact h
 have lm:=rq l hs;unfold Gy at lm;by_cases hE:(enumL l 0 l).1≠0
 ·rw [if_neg hE] at lm;rw [if_pos hE] at hF;refine call_p FK (lm) ax rfl ?_;refine br (fun h=>?_) (fun h=>?_)
  ·refine aV mo (by decide +kernel) ?_;exact ⟨_,ax,gU (os:=[]) (tk:=[]) hF hE⟩
  ·exfalso;simp at h;exact hE h
 rw [if_neg hE] at hF;have hE:(enumL l 0 l).1=0:=by simpa using hE
 rw [if_pos hE] at lm;rw [mS hE] at lm;refine call_p FK (lm) ax rfl ?_;refine cj Dk rfl (mv (al l) (by omega)) ax (fun r hr=>?_);obtain ⟨ak,hT,fj,rfl⟩:=hr;have tv:=nF (al l) ak hT (by omega) o um;unfold Gz at tv;by_cases hN:(numF (al l) o).1≠0
 ·rw [if_neg hN] at tv;rw [if_pos hN] at hF;refine call_p FL (tv) ax rfl ?_;refine br (fun h=>?_) (fun h=>?_)
  ·refine aV mo (by decide +kernel) ?_;exact ⟨_,ax,gU (os:=[]) (tk:=[]) hF hN⟩
  ·exfalso;simp at h;exact hN h
 rw [if_neg hN] at hF;have hN:(numF (al l) o).1=0:=by simpa using hN
 rw [if_pos hN] at tv;rw [oB hN] at tv;have hP:=pK hN;rw [lp] at hP;have hPl:(cC (al l) o).length=o.length:=by simp [cC]
 generalize Lu:cC (al l) o=P at tv hF hP hPl;refine call_p FL (tv) ax rfl ?_;have hLn:(bV (al l)).length=l.length:=by rw [aX,lp]
 have hPb:P.length<=1099511627776:=by omega
 have JQ:=pD (n:=l.length) (by omega) P hP;have fi:=eF l.length P;have wU:cp l.length P ≠ []:=fun h=>wW (List.eq_nil_of_length_eq_zero (by rw [<- fi,h];rfl));refine call_p Jk (vO l.length (by omega) P hP hPb) (by repeat' (first | exact rfl | exact trivial | exact Or.inr (Or.inl ⟨_,rfl⟩) | exact Or.inr ⟨_,rfl⟩ | exact Or.inl ⟨rfl,rfl⟩ | exact Or.inl rfl | refine Or.inr ⟨_,_,rfl,Nat.zero_le _,rfl,?_⟩ | refine ⟨_,_,rfl,?_,?_⟩ | refine ⟨_,rfl,?_⟩ | exact congrArg (fun z=>DV.v (.int .i64 z)) (congrArg Nat.cast hLn)| refine Or.inr (Or.inr (Or.inr ⟨_,_,rfl,?_⟩)) | exact Or.inl rfl | refine Or.inr ?_)) rfl ?_;have hlo:=ti _ JQ wU;rw [fi,AS (by omega) hP] at hlo
 cases hA:bm (mN l.length (eP l.length P)) l.length with
 | some a=>
  rw [hA] at hlo hF;simp only at hF;have EY:=(dI hA).1;obtain ⟨w,hw⟩:∃ w,l[a]? = some w:=⟨_,gE EY⟩;rw [lJ hw] at hF;refine call_p FM (hlo) ax rfl ?_;refine aV mo (by decide +kernel) ?_;refine ⟨qh w,⟨by omega,bU hw⟩,?_⟩;exact ⟨_,ax,gU (os:=[]) (tk:=[]) hF (by simp)⟩
 | none=>
 rw [hA] at hlo hF;simp only at hF;refine call_p FM (hlo) ax rfl ?_;have dS:=kU _ JQ wU;rw [fi] at dS;have JR:=fy JQ l.length (by omega);have GI:=cv (cp l.length P) l.length;rw [fi] at GI;refine call_p BT (dS) ax rfl ?_;have JS:(List.replicate 2048 (0:Int)).length=2048:=List.length_replicate
 have bK:CcL [] 0 0 0 (c7 (al l) (bA (al l) ak) (closeR (cp l.length P) l.length) (List.replicate 2048 0)) (.sl 1 (bV (al l)) none :: .pt (bA (al l) ak) 0 :: gB (closeR (cp l.length P) l.length) :: vL (List.replicate 2048 (.int .i64 0))):=by
  refine ⟨_,_,rfl,Or.inr (Or.inl ⟨_,rfl⟩),_,_,rfl,Or.inl rfl,_,_,rfl,Or.inl rfl,?_⟩;rw [DP];exact kz _ _ _ _ _
 have hbn:=rz (al l) (bA (al l) ak) _ (List.replicate 2048 0) JR (by omega) (by omega) JS;refine e8 FN rfl rfl bK ax hbn (fun r os tk h=>?_) (fun r ji h=>?_)
 ·obtain ⟨DM,rfl,_,rfl,_⟩:=h;refine ⟨rfl,fun ji h=>?_⟩;rw [List.mem_singleton.1 h];exact A1 _ _ _ _ _ _
 obtain ⟨DM,h1,hj2,hr,lI⟩:=h;simp only [List.cons.injEq,and_true] at h1;subst h1
 have hB:bm (jS (ay (closeR (cp l.length P) l.length)) (al l).length) (al l).length=bm (jS (eP l.length P) l.length) l.length:=by
  rw [lp];rfl
 rw [hB] at hr lI
 cases hb:bm (jS (eP l.length P) l.length) l.length with
 | some b=>
  rw [hb] at hr hF;subst hr;simp only at hF;have hbl:=(dI hb).1;obtain ⟨w,hw⟩:∃ w,l[b]? = some w:=⟨_,gE hbl⟩;rw [lJ hw] at hF;refine aV mo (by decide +kernel) ?_;refine ⟨qh w,⟨by simp only [oz];omega,bU hw⟩,?_⟩;exact ⟨_,ax,gU (os:=[]) (tk:=[]) hF (by simp)⟩
 | none=>
  rw [hb] at hr hF;subst hr;simp only at hF;refine ⟨.cP [.pt (c7 (al l) (bA (al l) ak) (closeR (cp l.length P) l.length) DM) 0,Ft.d (0,0)],(by repeat' (first | exact rfl | exact trivial | exact Or.inr (Or.inl ⟨_,rfl⟩) | exact Or.inr ⟨_,rfl⟩ | exact Or.inl ⟨rfl,rfl⟩ | exact Or.inl rfl | refine Or.inr ⟨_,_,rfl,Nat.zero_le _,rfl,?_⟩ | refine ⟨_,_,rfl,?_,?_⟩ | refine ⟨_,rfl,?_⟩ | exact kz _ _ _ _ _ | refine Or.inr (Or.inr (Or.inr ⟨_,_,rfl,?_⟩)) | exact Or.inl rfl | refine Or.inr ?_)),A0 (os:=[]) (tk:=[]) hF ⟨ak,DM,hT,by omega,hj2,?_,by rw [Lu]⟩⟩;rw [Lu];rw [lp] at lI;exact lI hb
end Go.Proofs.YtfifjddnnmfeoaaGreat
