/- Part 3 of the proof: names.New: the table; names.Twice: does a text stand earlier, too?; Contracts: the reference's words, Plain, Same, Zero, own; Contracts: the reference's Same, Zero, own; Contracts: the reference's Label, listed, names, Size, with, coarse; What is wrong with a type: the plain function; the reference's Wrong and parts return it; The program's checks of types: bad, listed, label, words; The program's checks of types: label, coarse; The program's comparing of names and types; The program's Same; The program's own, empty; The program's empty, enum; kinds.Right, once the checker's check is known; Numbers in tens: the reference's Put; Numbers in tens: the program's Put; The text of a type, plain; the reference's Label and comma; The reference's text of a type: Label, comma, part, Type; The reference's text of a part; The reference's text of a type; The library's strings.Join, laid at this program by the kit's tool (lay-plain; wip/tools/lay.sh); The program's text of a label, of what stands behind a part's type, of lists; The program's text of a type: field, tag, kind; unparse.Type, once the checker's check is known; A type with which nothing is wrong is fine for its text; Readable data as data of the evaluator: what the statement's form reads of an argument is a datum of the evaluator, of the argument's type, no heavier than what was read; What is read of a type, as the plain data; From a contract over data to what a law's statement asks: the arguments are read, the call returns true, all that was there stays; What all laws' frames share: the bulk, the program's closed facts; Types without places: plain, and the program's kinds.Strip; Schemas: plain, as the evaluator has them, without places; What is read of a schema, as the plain data; What the frames of laws over schemas share; The program's closed facts, each by itself (all at once they ask more memory than a Lean process has); Relations as rows of bits: plain, and rel's functions that read; rel.back: who leads to a thing and is led to by it; rel.New: the rows of a list of pairs; rel.Close: the closure, by rows; The number of bits that are set, as the library reckons it; math/bits.OnesCount64; When two bits are set; rel.Loop: the least thing in a loop; The plain law of closeR: its bits are what is led to; The program's and the reference's check of names that must differ; The table's Find, whole; lattice.many, called, numbered. No condition. -/
import Derived.Laws.StructEq
import Derived.Shelf.Strings.OnBuilder
import Derived.Deep.Slices
import Derived.ChangeArms
import Derived.DataReads
import Derived.WalkKit
import Derived.ProofKit
import Derived.OpenShut
import Derived.Carry
import Derived.JoinedCond
import Derived.Test.YtgjagnmeonoehaaGreatRows
import Derived.Test.YtgjagnmeonoehaaGreatMv2
set_option linter.all false
set_option maxRecDepth 100000
namespace Go.Proofs.YtgjagnmeonoehaaGreat
open Go Go.RowKit Dv Go.Proofs.Tryz
theorem zx {n m:Nat} {tk:List TkE}:∀ ds:List Nat,WeL n m tk (dInts ds).flatten (dInts ds).flatten
 | []=>rfl
 | b :: r=>⟨_,_,rfl,az rfl,zx r⟩
theorem qu {n m:Nat} {tk:List TkE} {l:List DV} {ds:List Nat} (h:l=(dInts ds).flatten):WeL n m tk l (dInts ds).flatten:=by rw [h];exact zx ds
def ik (n e:Nat):List Nat:=List.range e ++ List.replicate (n - e) 0
theorem K8 {n e:Nat} (h:e<=n):(ik n e).length=n:=by simp [ik];omega
theorem fillA_0 (n:Nat):(List.replicate n [DV.v (.int .i64 0)]).flatten=(dInts (ik n 0)).flatten:=by simp [ik,dInts]
theorem R5 (n:Nat):ik n n=List.range n:=by simp [ik]
theorem oc (ds:List Nat):(dInts ds).flatten=ds.map fun (i:Nat)=>DV.v (.int .i64 (i:Int)):=by
 induction ds with
 | nil=>rfl
 | cons x r ih=>simp only [dInts,List.map_cons,List.flatten_cons] at ih ⊢;rw [ih];all_goals rfl
theorem G2 {n e:Nat} (h:e < n):(dInts (ik n e)).flatten.take e ++ [DV.v (.int .i64 (e:Int))] ++ (dInts (ik n e)).flatten.drop (e + 1)=(dInts (ik n (e + 1))).flatten:=by
 simp only [oc,<- List.map_take,<- List.map_drop];have e1:(ik n e).take e=List.range e:=by simp [ik]
 have e2:(ik n e).drop (e + 1)=List.replicate (n - (e + 1)) 0:=by
  simp only [ik,List.drop_append,List.length_range];rw [List.drop_eq_nil_of_le (by simp),List.nil_append,List.drop_replicate];congr 1;omega
 rw [e1,e2];simp [ik,List.range_succ]
abbrev Oh (L:List ByteArray) (e:Nat):St:=
 ⟨[aE 3 1,aE 4 3,ay 16 ((eV L).length),ay 17 e],
  [[.sl 1 (eV L) (some 0),.v (.slice none 0 0)],[.loc 0 0],(dInts (ik (eV L).length e)).flatten,[.ms 2 1 0 (eV L).length (eV L).length]],[⟨(eV L).length,9,1,none⟩]⟩
def gP (L:List ByteArray) (ds:List Nat) (i:Nat):Bool:=decide (i=0) || !decide (L.getD (ds.getD i 0) av=L.getD (ds.getD (i - 1) 0) av)
def fq (L:List ByteArray) (ds:List Nat) (e:Nat):List Nat:=((List.range e).filter (gP L ds)).map fun i=>ds.getD i 0
theorem vP (L:List ByteArray) (ds:List Nat) (e:Nat):fq L ds (e + 1)=fq L ds e ++ (if gP L ds e=true then [ds.getD e 0] else []):=by
 unfold fq;rw [List.range_succ,List.filter_append,List.map_append];congr 1;cases h:gP L ds e<;>simp [h]
theorem K9 (L:List ByteArray) (ds:List Nat) (e:Nat):(fq L ds e).length<=e:=by grind [fq]
abbrev Wr (L:List ByteArray) (ds:List Nat):St:=
 ⟨[aE 3 1,mQ 4 [.sl 1 (dInts ds) none],bh 29 1 (dInts ds),ay 30 ((eV L).length),ay 31 0],
  [[.sl 1 (eV L) (some 0),.v (.slice none 0 0)],[.loc 0 0]],[⟨(eV L).length,9,1,none⟩]⟩
abbrev DZ (L:List ByteArray) (ds aF:List Nat) (m e:Nat):St:=
 ⟨[aE 3 1,mQ 4 [.sl 1 (dInts ds) none],bh 29 1 (dInts ds),ay 30 ((eV L).length),ay 31 e],
  [[.sl 1 (eV L) (some 0),.sl 1 (dInts aF) (some 1)],[.loc 0 0]],[⟨(eV L).length,9,1,none⟩,⟨m,3,1,none⟩]⟩
theorem getD_some {α:Type} {l:List α} {i:Nat} {x d:α} (h:l[i]? = some x):l.getD i d=x:=by simp [eN,h]
theorem rV {α:Type} {l:List α} {i:Nat} {d:α} (h:i < l.length):l[i]? = some (l.getD i d):=by grind
theorem Ws {L:List ByteArray} {ds:List Nat} (oM:ds.Perm (List.range L.length)) (Ob:∀ i j p q:Nat,i < j->ds[i]? = some p->ds[j]? = some q->DW L q p=false):ij L (fq L ds L.length):=by
 have hlen:ds.length=L.length:=by rw [oM.length_eq,List.length_range]
 let D:Nat->Nat:=fun i=>ds.getD i 0
 let T:Nat->ByteArray:=fun i=>L.getD (D i) av
 have hD:∀ i,i < L.length->ds[i]? = some (D i):=fun i hi=>rV (by omega)
 have hDn:∀ i,i < L.length->D i < L.length:=fun i hi=>by
  have:=oM.mem_iff.1 (mG (hD i hi));exact List.mem_range.1 this
 have hT:∀ i,i < L.length->L[D i]? = some (T i):=fun i hi=>rV (hDn i hi);have fF:∀ i j,i < j->j < L.length->T i=T j∨Bm (T i) (T j)=true:=by grind [DW,JI]
 have aaM:∀ i,i < L.length->gP L ds i=true->∀ j,j < i->Bm (T j) (T i)=true:=by
  intro i hi hh j VM;have bf:T i≠T (i - 1):=by grind [gP]
  grind [Bm,gk]
 have zi:∀ j,j < L.length->∃ k,k < L.length/\D k=j:=by
  intro j hj;have:=oM.mem_iff.2 (List.mem_range.2 hj);obtain ⟨k,hk⟩:=List.getElem?_of_mem this
  grind
 let H:=(List.range L.length).filter (gP L ds)
 have hH:∀ (a i:Nat),H[a]? = some i->i < L.length/\gP L ds i=true:=fun a i h=>by
  have:=mG h
  grind
 have La:∀ (a p:Nat),(fq L ds L.length)[a]? = some p->∃ i,H[a]? = some i/\D i=p:=by grind [fq,gP]
 have hinc:∀ (a b i k:Nat),a < b->H[a]? = some i->H[b]? = some k->i < k:=by
  intro a b i k MO hi hk;have hp:List.Pairwise (·< ·) H:=List.Pairwise.filter _ List.pairwise_lt_range;obtain ⟨ha,rfl⟩:=List.getElem?_eq_some_iff.1 hi;obtain ⟨hb,rfl⟩:=List.getElem?_eq_some_iff.1 hk;exact List.pairwise_iff_getElem.1 hp a b ha hb MO
 refine ⟨?_,?_,?_,?_⟩
 ·intro a p h;obtain ⟨i,hi,rfl⟩:=La a p h;exact hDn i (hH a i hi).1
 ·intro a b p q s t MO hp hq hs ht;obtain ⟨i,hi,rfl⟩:=La a p hp;obtain ⟨k,hk,rfl⟩:=La b q hq;rw [hT i (hH a i hi).1] at hs;rw [hT k (hH b k hk).1] at ht
  grind
 ·intro a p j s hp hs hj;obtain ⟨i,hi,rfl⟩:=La a p hp;obtain ⟨uL,yz⟩:=hH a i hi;obtain ⟨k,hk,rfl⟩:=zi j (gS hj).1;rw [hT i uL] at hs;rw [hT k hk] at hj;simp only [oI] at hs hj;rcases Nat.lt_trichotomy k i with h | h | h
  ·have:=aaM i uL yz k h;rw [hs,hj,Bm,kI] at this;cases this
  ·rw [h];exact aQ _
  ·have h2:=Ob i k (D i) (D k) h (hD i uL) (hD k hk)
   grind [DW,av]
 ·intro j s hj;obtain ⟨k,hk,rfl⟩:=zi j (gS hj).1;rw [hT k hk] at hj;simp only [oI] at hj;obtain ⟨i,⟨uL,his⟩,hmin⟩:=least (p:=fun i=>i < L.length/\T i=s) ⟨k,hk,hj⟩;have yz:gP L ds i=true:=by grind [gP,av]
  have hm:i∈H:=by simp only [H,List.mem_filter,List.mem_range];exact ⟨uL,yz⟩
  obtain ⟨a,ha⟩:=List.getElem?_of_mem hm;refine ⟨a,D i,?_,by rw [hT i uL,his]⟩;unfold fq
  grind
theorem vQ (L:List ByteArray) (hl:L.length<=1099511627776) :
  Ev prog 105 [.sl 1 (eV L) none] [] [] (fun r _ _=>∃ aF,ij L aF/\aF.length<=L.length/\r = .pt (cQ L aF) 0):=by
 have hN:=cg L;refine eG 71 [.tmp 2] func105 rfl ntmps105 rfl fun _ _ _ _=>?_;refine ⟨⟨by simp [hN,maxLen];omega,by simp [hN];omega⟩,?_⟩;refine ⟨⟨rfl,by omega,by omega,by omega⟩,?_⟩;refine lJ (fun e=>Oh L e) L.length (dj 4 (by repeat' (first | exact rfl | exact az rfl | exact qu (fillA_0 _) | refine ⟨_,_,rfl,?_,?_⟩)) (by repeat' (first | exact trivial | exact az rfl | exact qu (fillA_0 _) | refine ⟨⟨_,rfl,?_⟩,?_⟩))) ?_;intro e he;refine br ?_ ?_<;>intro h
 ·have au:e < (eV L).length:=sU h;refine ⟨⟨by omega,by omega⟩,?_⟩;have e1:(dInts (ik (eV L).length e)).flatten.length=(eV L).length:=by rw [oc,List.length_map,K8 (by omega)]
  refine ⟨by rw [e1];omega,?_⟩
  have hcs:(dInts (ik (eV L).length e)).flatten.set (0 + (e:Int).toNat * 1) (DV.v (.int .i64 (e:Int)))=(dInts (ik (eV L).length (e + 1))).flatten:=by
   rw [show 0 + (e:Int).toNat * 1=e by omega,List.set_eq_take_append_cons_drop,ap (by rw [e1];omega),<- G2 au];simp
  refine ⟨Oh L (e + 1),(dj 4 (by repeat' (first | exact rfl | exact az rfl | exact qu hcs | exact aD (aN au (by omega)) | refine ⟨_,_,rfl,?_,?_⟩)) (by repeat' (first | exact trivial | exact az rfl | exact qu hcs | exact aD (aN au (by omega)) | refine ⟨⟨_,rfl,?_⟩,?_⟩))),L.length - (e + 1),by omega,e + 1,rfl,by omega,rfl⟩
 ·have hge:e=(eV L).length:=by grind
  subst hge;rw [R5]
  have hms:∀ dk:List Nat,dk.length=(List.range (eV L).length).length->∀ bx:List (List DV),bx[2]? = some (dInts dk).flatten->∀ N0 n0 m0:Nat,N0<=2->Cc bx N0 n0 m0 (.sl 1 (dInts dk) none) (.ms 2 1 0 (eV L).length (eV L).length):=by
   intro dk hdk bx hb N0 n0 m0 hN0;simp only [Cc];refine Or.inr (Or.inr (Or.inl ⟨2,0,(eV L).length,_,?_,hN0,hb,?_,?_,?_⟩))
   ·rw [bz,hdk,List.length_range]
   ·rw [List.drop_zero,List.take_of_length_le];rw [oc,List.length_map,bz];omega
   ·grind [dInts]
   ·grind [oc]
  refine K6 (ds:=List.range (eV L).length) rfl (by simp) (eV L).length (fun p hp=>List.mem_range.1 hp) (DW L) (R0 L) rfl (by simp [hN];omega)
   (fun dk=>[.pt [.sl 1 (dInts dk) none] 0,.pt [.pt [.sl 1 (eV L) none,.v (.slice none 0 0)] 0] 0])
   (fun dk hdk=>⟨_,_,rfl,Or.inr ⟨3,_,rfl,Nat.zero_le _,rfl,⟨_,_,rfl,hms dk hdk _ rfl 0 0 0 (Nat.zero_le _),rfl⟩⟩,ax⟩)
   (fun dk hdk hp i j p q hi hj=>K5 L dk i j p q hi hj (by have:=hp p (mG hi);omega) (by have:=hp q (mG hj);omega)) rfl (fun ds oM Ob=>?_)
  have de:ds.length=(eV L).length:=by rw [oM.length_eq,List.length_range]
  have aaN:=hms ds (by rw [de,List.length_range])
  refine NB 2 (Wr L ds) rfl rfl rfl ⟨_,_,rfl,⟨_,_,rfl,⟨nL rfl,rfl⟩,_,_,rfl,rfl,rfl⟩,_,_,rfl,⟨_,_,rfl,⟨nL rfl,rfl⟩,rfl⟩,rfl⟩
   ⟨⟨_,rfl,⟨nL rfl,rfl⟩⟩,⟨_,rfl,Or.inr ⟨3,_,rfl,by decide,rfl,⟨_,_,rfl,aaN _ rfl 2 0 0 (by decide),rfl⟩⟩⟩,⟨_,rfl,aaN _ rfl 2 2 1 (by decide)⟩,⟨_,rfl,rfl⟩,⟨_,rfl,rfl⟩,trivial⟩ ?_
  refine aV (fun j st=>∃ e m:Nat,st=DZ L ds (fq L ds e) m e/\m=(fq L ds e).length/\e<=(eV L).length/\j=(eV L).length - e) (eV L).length (DZ L ds [] 0 0)
   (dx 2 ⟨0,3,1,none⟩ rfl rfl rfl pP rfl rfl wB) ⟨0,0,rfl,rfl,by omega,by omega⟩ ?_
  rintro j st ⟨e,m,rfl,hm,he,rfl⟩;have kZ:=K9 L ds e;refine br ?_ ?_<;>intro h
  ·have au:e < (eV L).length:=sU h;obtain ⟨p,hp⟩:∃ p,ds[e]? = some p:=⟨_,gE (by omega)⟩
   have hpL:p < L.length:=by
    have:=oM.mem_iff.1 (mG hp);rw [List.mem_range] at this;omega
   obtain ⟨s,hs⟩:∃ s,L[p]? = some s:=⟨_,gE hpL⟩;refine iX (ef hp) ?_;have hgp:ds.getD e 0=p:=by simp [eN,hp]
   have KR:L.getD p av=s:=by simp [eN,hs]
   have eB:gP L ds e=true->fq L ds (e + 1)=fq L ds e ++ [p]:=fun hh=>by rw [vP,ap hh,hgp]
   have hold:gP L ds e=false->fq L ds (e + 1)=fq L ds e:=fun hh=>by rw [vP,aj (by rw [hh];decide),List.append_nil]
   have JJ:gP L ds e=true->dInts (fq L ds e) ++ [[DV.v (.int .i64 (p:Int))]]=dInts (fq L ds (e + 1)):=fun hh=>by rw [eB hh];simp [dInts]
   by_cases h0:e=0
   ·subst h0;have hh:gP L ds 0=true:=by simp [gP]
    refine dI ?_;refine dS ?_;refine ⟨by rw [bz,hm],⟨by simp [bz,maxLen];omega,by simp [bz];omega⟩,?_⟩;refine ⟨DZ L ds (fq L ds 1) (m + 1) 1,(dj 2 (by repeat' (first | exact rfl | exact az rfl | exact aD (aN au (by omega)) | exact cy (JJ hh) rfl | refine ⟨_,_,rfl,?_,?_⟩)) (by repeat' (first | exact trivial | exact az rfl | exact aD (aN au (by omega)) | exact cy (JJ hh) rfl | refine ⟨⟨_,rfl,?_⟩,?_⟩))),(eV L).length - 1,by omega,1,m + 1,rfl,by rw [eB hh,List.length_append,hm];rfl,by omega,rfl⟩
   ·obtain ⟨p',yI⟩:∃ p',ds[e - 1]? = some p':=⟨_,gE (by omega)⟩
    have hpL':p' < L.length:=by
     have:=oM.mem_iff.1 (mG yI);rw [List.mem_range] at this;omega
    obtain ⟨s',hs'⟩:∃ s',L[p']? = some s':=⟨_,gE hpL'⟩;have hgp':ds.getD (e - 1) 0=p':=by simp [eN,yI]
    have hgs':L.getD p' av=s':=by simp [eN,hs']
    have hhd:gP L ds e = !decide (s=s'):=by grind [gP]
    have hz:IntKind.i64.wrap ((e:Int) - 1)=((e - 1:Nat):Int):=by rw [wrap64 (by omega) (by omega)];omega
    refine dI ?_;refine br (fun _=>?_) (fun h=>?_)
    ·refine iX (fc hs) ?_;refine ⟨[.v (.int .i64 (p':Int))],⟨by rw [hz];omega,by rw [hz];exact ef yI⟩,?_⟩;refine iX (fc hs') ?_;refine br ?_ ?_<;>intro h2
     ·have hh:gP L ds e=true:=by grind [aq]
      refine dS ?_;refine ⟨by rw [bz,hm],⟨by simp [bz,maxLen];omega,by simp [bz];omega⟩,?_⟩;refine ⟨DZ L ds (fq L ds (e + 1)) (m + 1) (e + 1),(dj 2 (by repeat' (first | exact rfl | exact az rfl | exact aD (aN au (by omega)) | exact cy (JJ hh) rfl | refine ⟨_,_,rfl,?_,?_⟩)) (by repeat' (first | exact trivial | exact az rfl | exact aD (aN au (by omega)) | exact cy (JJ hh) rfl | refine ⟨⟨_,rfl,?_⟩,?_⟩))),(eV L).length - (e + 1),by omega,e + 1,m + 1,rfl,by rw [eB hh,List.length_append,hm];rfl,by omega,rfl⟩
     ·have hh:gP L ds e=false:=by grind [aq]
      have aO:dInts (fq L ds e)=dInts (fq L ds (e + 1)):=by rw [hold hh]
      refine ⟨DZ L ds (fq L ds (e + 1)) m (e + 1),(dj 2 (yy (aN au (by omega)) aO) (iT (aN au (by omega)) aO)),(eV L).length - (e + 1),by omega,e + 1,m,rfl,by rw [hold hh,hm],by omega,rfl⟩
    ·grind
  ·have hge:e=L.length:=by grind
   subst hge;exact ⟨.pt (cQ L (fq L ds L.length)) 0,Or.inr ⟨0,_,rfl,Nat.zero_le _,rfl,ax⟩,_,Ws (by rw [<- hN];exact oM) Ob,kZ,rfl⟩
abbrev aaO (L:List ByteArray) (aF:List Nat) (e:Nat):St:=
 ⟨[mQ 3 (cQ L aF),bh 10 1 (eV L),ay 11 ((eV L).length),ay 12 e],[],[]⟩
theorem Oi {α:Type}:∀ {l:List α},(∀ (i j:Nat) (x:α),j < i->l[i]? = some x->l[j]? ≠ some x)->l.Nodup
 | l,h=>by
  rw [List.nodup_iff_pairwise_ne,List.pairwise_iff_getElem];intro i j hi hj za he;exact h j i l[j] za (gE hj) (by rw [gE hi,he])
theorem pa (L:List ByteArray) (hl:L.length<=1099511627776) :
  Ev prog 112 [.sl 1 (eV L) none] [] [] (fun r _ _=>∃ z:Int,r = .v (.int .i64 z)/\(0<=z↔¬ L.Nodup)):=by
 have hN:=cg L;refine eG 28 [.tmp 2] func112 rfl ntmps112 rfl fun _ _ _ _=>?_;refine bS NH rfl (vQ L hl) ax (fun r hr=>?_);obtain ⟨aF,hT,kZ,rfl⟩:=hr;refine lI (fun j st=>∃ e:Nat,st=aaO L aF e/\e<=L.length/\(∀ (i j:Nat) (x:ByteArray),i < e->j < i->L[i]? = some x->L[j]? ≠ some x)/\j=L.length - e) ⟨0,rfl,by omega,fun i j x hi=>by omega,rfl⟩ (bp wB) ?_;rintro j st ⟨e,rfl,he,hinv,rfl⟩;refine br ?_ ?_<;>intro h
 ·have au:e < L.length:=sV hN h;obtain ⟨s,hs⟩:=gX au;obtain ⟨q,p,hq,hp⟩:=hT.all e s hs;have dG:=hT.fst q p e s hq hp hs;refine iX (fc hs) ?_;refine cP ni (find_spec L aF s q p hT (by omega) hq hp) ?_;refine br ?_ ?_<;>intro h2
  ·have h2:p < e:=sU h2;refine ⟨(e:Int),rfl,⟨fun _ hnd=>?_,fun _=>by omega⟩⟩;rw [List.nodup_iff_pairwise_ne,List.pairwise_iff_getElem] at hnd;obtain ⟨h3,h4⟩:=List.getElem?_eq_some_iff.1 hp;obtain ⟨h5,h6⟩:=List.getElem?_eq_some_iff.1 hs;exact hnd p e h3 h5 h2 (by rw [h4,h6])
  ·have h2:¬ p < e:=sU h2;refine ⟨aaO L aF (e + 1),(bp (cY (aN au (by omega)))),L.length - (e + 1),by omega,e + 1,rfl,by omega,fun i j x hi hj hx hjx=>?_,rfl⟩;by_cases MN:i=e
   ·subst MN;rw [hs] at hx;simp only [oI] at hx;subst hx;have:=hT.fst q p j s hq hp hjx;omega
   ·exact hinv i j x (by omega) hj hx hjx
 ·have hge:e=L.length:=by grind
  subst hge;refine ⟨-1,rfl,⟨fun h3=>by omega,fun h3=>?_⟩⟩;exact absurd (Oi fun i j x za hi hj=>hinv i j x (gS hi).1 za hi hj) h3
def sameWds:List Wd->List Wd->Bool
 | [],[]=>true
 | x :: r,y :: s=>decide (x.s=y.s) && sameWds r s
 | _,_=>false
theorem tp:∀ {a b:List Wd},a.length≠b.length->sameWds a b=false
 | [],[],h=>(h rfl).elim
 | x :: r,y :: s,h=>by
  have:r.length≠s.length:=sU h;simp [sameWds,tp this]
 | [],y :: s,_=>rfl
 | x :: r,[],_=>rfl
abbrev Bo (a b:List Wd) (e:Nat):St:=
 ⟨[bh 0 2 (bG a),bh 1 2 (bG b),ay 5 e],[],[]⟩
theorem l6 (a b:List Wd) (hs:a.length<=4611686018427387904) :
  EvP prog 318 [.sl 2 (bG a) none,.sl 2 (bG b) none] (.v (.bool (sameWds a b))):=by
 refine eG 28 [.tmp 4] func318 rfl ntmps318 rfl fun _ _ _ _=>?_;refine br ?_ ?_<;>intro h
 ·have bf:a.length≠b.length:=by have:=h;simp [aC] at this;omega
  exact congrArg (fun b=>DV.v (.bool b)) (tp bf).symm
 ·have hl:a.length=b.length:=by have:=h;simp [aC] at this;omega
  refine aV (fun j st=>∃ e:Nat,st=Bo a b e/\e<=a.length/\sameWds a b=sameWds (a.drop e) (b.drop e)/\j=a.length - e) a.length
   (Bo a b 0) (bp wB) ⟨0,rfl,by omega,rfl,by omega⟩ ?_
  rintro j st ⟨e,rfl,he,aO,rfl⟩;refine br ?_ ?_<;>intro h
  ·have au:e < a.length:=by simpa [aC] using h
   obtain ⟨x,hx⟩:=gX au;obtain ⟨y,hy⟩:∃ y,b[e]? = some y:=⟨_,gE (hl ▸ au)⟩;rw [drop_cons hx,drop_cons hy] at aO;refine dI ?_;refine ⟨j2 x,⟨by omega,aT hx⟩,j2 y,⟨by omega,aT hy⟩,?_⟩;refine br ?_ ?_<;>intro h
   ·have bf:x.s≠y.s:=sU h;refine (bF ?_:);rw [aO];simp [sameWds,bf]
   ·have bf:x.s=y.s:=sU h;refine ⟨Bo a b (e + 1),(bp (cY (aN au (by omega)))),a.length - (e + 1),by omega,e + 1,rfl,by omega,?_,rfl⟩;rw [aO];simp [sameWds,bf]
  ·have hge:e=a.length:=by have:=h;simp [aC] at this;omega
   refine (bF ?_:);rw [aO,hge,hl];simp [sameWds];rw [<- hl];simp [sameWds]
def cC (p q:Ph):Bool:=(p.bare == q.bare) && decide (p.wide=q.wide) && sameWds p.label q.label && decide (p.ck=q.ck) && decide (p.cn=q.cn) && sameWds p.cl q.cl
theorem l7 (p q:Ph) (tl tl':List DV) (hs:p.wt<=4611686018427387904) (ht:CcL [] 0 0 0 tl tl) (ug:CcL [] 0 0 0 tl' tl') :
  EvP prog 281 [.agg (GX p tl),.agg (GX q tl')] (.v (.bool (cC p q))):=by
 refine eG 51 [.tmp 4] func281 rfl ntmps281 rfl fun _ _ _ _=>?_;have h1:=bu p.label;have h2:=bu p.cl;simp only [Ph.wt] at hs;refine br ?_ ?_<;>intro h
 ·refine cP NZ (l6 p.label q.label (by omega)) ?_;refine br ?_ ?_<;>intro h2
  ·refine cP NZ (l6 p.cl q.cl (by omega)) ?_;refine (bF ?_:);simp [ai] at h h2;simp [cC,ai,h,h2]
  ·refine (bF ?_:);simp [ai] at h h2;simp [cC,ai,h]
   grind
 ·refine (bF ?_:);simp [ai] at h;simp [cC]
  grind
def kJ (h k:Hd):Bool:=decide (h.ag=k.ag) && decide (h.lo=k.lo) && decide (h.hi=k.hi) && decide (h.most=k.most) && decide (h.name.s=k.name.s) && sameWds h.af k.af
mutual
def sameTy:Ty->Ty->Bool
 | .mk h ps,.mk k qs=>kJ h k && samePts ps qs
def samePts:Pts->Pts->Bool
 | .nil,.nil=>true
 | .cons p t r,.cons q u s=>decide (p.name.s=q.name.s) && cC p q && sameTy t u && samePts r s
 | _,_=>false
end
theorem tq:∀ {a b:Pts},a.len≠b.len->samePts a b=false
 | .nil,.nil,h=>(h rfl).elim
 | .cons p t r,.cons q u s,h=>by
  have:r.len≠s.len:=by simpa [Pts.len] using h
  simp [samePts,tq this]
 | .nil,.cons _ _ _,_=>by simp [samePts]
 | .cons _ _ _,.nil,_=>by simp [samePts]
def jq (h:Hd):Hd:=
 ⟨h.ag,0,if h.ag=2 then h.lo else 0,if h.ag=2 then h.hi else 0,if h.ag=3∨h.ag=5 then h.most else 0,if h.ag=4 then h.af else [],if h.ag=9 then h.name else ⟨av,0⟩⟩
def mask:Ty->Ty
 | .mk h ps=>.mk (jq h) (if 4 < h.ag/\h.ag < 9 then ps else .nil)
theorem zy (bx:List (List DV)) (N n m:Nat) (t:Ty):CcL bx N n m (dX t) (dX t):=by
 obtain ⟨h,ps⟩:=t;simp only [dX,CcL,Cc]
 repeat' (first | exact rfl | exact trivial | exact Or.inr (Or.inl ⟨_,rfl⟩) | refine ⟨_,_,rfl,?_,?_⟩)
abbrev G3 (a b:Ty) (e:Nat):St:=
 ⟨[aE 2 0,aE 3 1,ay 5 e],[dX a,dX b],[]⟩
theorem nk:∀ (n:Nat) (a b:Ty),a.wt<=n->a.wt<=4611686018427387904 ->
  EvP prog 317 [.agg (dX a),.agg (dX b)] (.v (.bool (sameTy a b)))
 | 0,a,b,hn,_=>by have:=a.dy;omega
 | n + 1,.mk h ps,.mk k qs,hn,cw=>by
  simp only [Ty.wt,Hd.wt] at hn cw;have hl:=bu h.af;have gn:=ps.fK;refine eG 98 [.tmp 4] func317 rfl ntmps317 rfl fun _ _ _ _=>?_;refine br ?_ ?_<;>intro hA
  ·simp [aq] at hA;obtain ⟨⟨⟨⟨e1,e2⟩,e3⟩,e4⟩,e5⟩:=hA;refine cP NZ (l6 h.af k.af (by omega)) ?_;refine br ?_ ?_<;>intro hB
   ·refine (bF ?_:);simp [aq,e1,e2,e3,e4,e5,aH] at hB;simp only [sameTy,kJ];rcases hB with hB | hB
    ·simp [hB]
    ·have:ps.len≠qs.len:=by omega
     simp [tq this]
   ·simp [aq,e1,e2,e3,e4,e5,aH] at hB;obtain ⟨e6,e7⟩:=hB;have e8:ps.len=qs.len:=by omega
    have eh:sameTy (.mk h ps) (.mk k qs)=samePts ps qs:=by simp [sameTy,kJ,e1,e2,e3,e4,e5,e6]
    refine aV (fun j st=>∃ e:Nat,st=G3 (.mk h ps) (.mk k qs) e/\e<=ps.len/\samePts ps qs=samePts (ps.drop e) (qs.drop e)/\j=ps.len - e) ps.len
     (G3 (.mk h ps) (.mk k qs) 0) (bp wB) ⟨0,rfl,by omega,rfl,by omega⟩ ?_
    rintro j st ⟨e,rfl,he,aO,rfl⟩;refine br ?_ ?_<;>intro hL
    ·have au:e < ps.len:=by simpa [aH] using hL
     obtain ⟨p,t,hx⟩:=Pts.eE au;obtain ⟨q,u,hy⟩:=Pts.eE (e8 ▸ au);rw [Pts.drop_cons hx,Pts.drop_cons hy] at aO;have D0:=Pts.gq (mG hx);obtain ⟨t,ts⟩:=t;obtain ⟨u,us⟩:=u;apply n8 (fun _=>false) 10 11 [0,1,2,3,4,5,6,7,8,9,10,11,12,13] [0,1,2,3,4,5,6,7,8,9,11,10,12,13] 2 3 mo (by decide +kernel)
     ·refine ⟨_,⟨by omega,bQ hx⟩,_,⟨by omega,bQ hy⟩,?_⟩;refine (?_:@Eq St _ _);exact rfl
     ·refine ⟨_,⟨by omega,bQ hx⟩,_,⟨by omega,bQ hy⟩,?_⟩;refine (⟨rfl,rfl,?_⟩:_/\_/\_)
      repeat' (first | exact trivial | refine ⟨rfl,?_⟩)
     ·rfl
     refine br ?_ ?_<;>intro hC
     ·have hC:p.name.s=q.name.s:=sU hC;refine cP NX (l7 p q (dX (.mk t ts)) (dX (.mk u us)) (by omega) (zy _ _ _ _ _) (zy _ _ _ _ _)) ?_;refine br ?_ ?_<;>intro hD
      ·have hD:cC p q=true:=by simpa [aq,hC] using hD
       refine cP nj (nk n (.mk t ts) (.mk u us) (by omega) (by omega)) ?_;refine br ?_ ?_<;>intro hE
       ·refine (bF ?_:);rw [eh,aO];simp [aq,hC,hD] at hE;simp [samePts,hE]
       ·simp [aq,hC,hD] at hE;refine ⟨G3 (.mk h ps) (.mk k qs) (e + 1),(bp (cY (aN au (by omega)))),ps.len - (e + 1),by omega,e + 1,rfl,by omega,?_,rfl⟩;rw [aO];simp [samePts,hC,hD,hE]
      ·have hD:cC p q=false:=by simpa [aq,hC] using hD
       refine (bF ?_:);rw [eh,aO];simp [samePts,hD]
     ·have hC:p.name.s≠q.name.s:=sU hC;refine (bF ?_:);rw [eh,aO];simp [samePts,hC]
    ·have hge:e=ps.len:=by have:=hL;simp [aH] at this;omega
     refine (bF ?_:);rw [eh,aO,hge,Pts.dn,e8,Pts.dn];simp [samePts]
  ·refine (bF ?_:);simp [aq] at hA;simp only [sameTy,kJ]
   grind
theorem D1 (t:Ty) (cw:t.wt<=4611686018427387904) :
  EvP prog 320 [.agg (dX t)] (.v (.bool (sameTy t cJ))):=by
 obtain ⟨h,ps⟩:=t;refine eG 6 [.tmp 2] func320 rfl ntmps320 rfl fun _ _ _ _=>?_;refine cP nj (nk _ (.mk h ps) cJ (aQ _) cw) ?_;exact (rfl:_=_)
theorem G4 (t:Ty) (cw:t.wt<=4611686018427387904) :
  EvP prog 279 [.agg (dX t)] (.v (.bool (sameTy t (mask t)))):=by
 obtain ⟨h,ps⟩:=t
 have key:∀ (h':Hd) (ps':Pts),jq h=h' -> (if 4 < h.ag/\h.ag < 9 then ps else .nil)=ps' ->
   EvP prog 317 [.agg (dX (.mk h ps)),.agg (dX (.mk h' ps'))] (.v (.bool (sameTy (.mk h ps) (mask (.mk h ps))))):=by
  rintro h' ps' rfl rfl;exact nk _ (.mk h ps) _ (aQ _) cw
 obtain ⟨ag,at',lo,hi,most,af,name⟩:=h;by_cases hr:2<=ag/\ag<=9
 ·obtain hk | hk | hk | hk | hk | hk | hk | hk:ag=2∨ag=3∨ag=4∨ag=5∨ag=6∨ag=7∨ag=8∨ag=9:=by omega
  ·subst hk;refine eG 53 [.tmp 2] func279 rfl ntmps279 rfl fun _ _ _ _=>?_;refine cP nj (key ⟨2,0,lo,hi,0,[],⟨av,0⟩⟩ .nil (by simp [jq]) (by simp)) ?_;exact (rfl:_=_)
  ·subst hk;refine eG 53 [.tmp 2] func279 rfl ntmps279 rfl fun _ _ _ _=>?_;refine cP nj (key ⟨3,0,0,0,most,[],⟨av,0⟩⟩ .nil (by simp [jq]) (by simp)) ?_;exact (rfl:_=_)
  ·subst hk;refine eG 53 [.tmp 2] func279 rfl ntmps279 rfl fun _ _ _ _=>?_;refine cP nj (key ⟨4,0,0,0,0,af,⟨av,0⟩⟩ .nil (by simp [jq]) (by simp)) ?_;exact (rfl:_=_)
  ·subst hk;refine eG 53 [.tmp 2] func279 rfl ntmps279 rfl fun _ _ _ _=>?_;refine cP nj (key ⟨5,0,0,0,most,[],⟨av,0⟩⟩ ps (by simp [jq]) (by simp)) ?_;exact (rfl:_=_)
  ·subst hk;refine eG 53 [.tmp 2] func279 rfl ntmps279 rfl fun _ _ _ _=>?_;refine cP nj (key ⟨6,0,0,0,0,[],⟨av,0⟩⟩ ps (by simp [jq]) (by simp)) ?_;exact (rfl:_=_)
  ·subst hk;refine eG 53 [.tmp 2] func279 rfl ntmps279 rfl fun _ _ _ _=>?_;refine cP nj (key ⟨7,0,0,0,0,[],⟨av,0⟩⟩ ps (by simp [jq]) (by simp)) ?_;exact (rfl:_=_)
  ·subst hk;refine eG 53 [.tmp 2] func279 rfl ntmps279 rfl fun _ _ _ _=>?_;refine cP nj (key ⟨8,0,0,0,0,[],⟨av,0⟩⟩ ps (by simp [jq]) (by simp)) ?_;exact (rfl:_=_)
  ·subst hk;refine eG 53 [.tmp 2] func279 rfl ntmps279 rfl fun _ _ _ _=>?_;refine cP nj (key ⟨9,0,0,0,0,[],name⟩ .nil (by simp [jq]) (by simp)) ?_;exact (rfl:_=_)
 ·refine eG 53 [.tmp 2] func279 rfl ntmps279 rfl fun _ _ _ _=>?_;refine br (fun c=>?_) (fun c1=>?_)
  ·have:ag=2:=of_decide_eq_true c;omega
  refine br (fun c=>?_) (fun c2=>?_)
  ·simp [aq] at c;omega
  refine br (fun c=>?_) (fun c3=>?_)
  ·have:ag=4:=of_decide_eq_true c;omega
  refine br (fun c=>?_) (fun c4=>?_)
  ·simp [ai] at c;omega
  refine br (fun c=>?_) (fun c5=>?_)
  ·have:ag=9:=of_decide_eq_true c;omega
  have e1:¬ ag=2:=of_decide_eq_false c1;have e3:¬ ag=4:=of_decide_eq_false c3;have e5:¬ ag=9:=of_decide_eq_false c5;simp [aq,ai] at c2 c4;refine cP nj (key ⟨ag,0,0,0,0,[],⟨av,0⟩⟩ .nil (by simp [jq,e1,c2,e3,e5]) (by simp;omega)) ?_;exact (rfl:_=_)
abbrev Ft:Type:=Int × Int
def Ft.d (f:Ft):DV:=.agg [.v (.int .i64 f.1),.v (.int .i64 f.2)]
def badWd:List Wd->Ft
 | []=>(0,0)
 | w :: r=>if bd w.s then badWd r else (9,w.a)
def bM (l:List Wd):Ft:=
 if l.length<=32 then badWd l else (8,((l[32]?).getD (⟨av,0⟩:Wd)).a)
abbrev Bp (l:List Wd) (e:Nat):St:=
 ⟨[bh 0 2 (bG l),aE 2 0,ay 3 e],[[.v (.int .i64 0),.v (.int .i64 0)]],[]⟩
theorem l8 (l:List Wd) (hs:wdsWt l<=4611686018427387904) :
  EvP prog 277 [.sl 2 (bG l) none] (bM l).d:=by
 have mW:=bu l;refine eG 32 [.cell 2 44] func277 rfl ntmps277 rfl fun _ _ _ _=>?_;refine br ?_ ?_<;>intro h
 ·have au:32 < l.length:=by simp [aC] at h;omega
  obtain ⟨x,hx⟩:=gX au;have:bM l=(8,x.a):=by simp [bM,Nat.not_le.2 au,hx]
  refine ⟨j2 x,⟨by omega,aT hx⟩,_,?_,rfl⟩;rw [this];exact ax
 ·have fF:l.length<=32:=by simp [aC] at h;omega
  refine aV (fun j st=>∃ e:Nat,st=Bp l e/\e<=l.length/\badWd l=badWd (l.drop e)/\j=l.length - e) l.length
   (Bp l 0) (bp wB) ⟨0,rfl,by omega,rfl,by omega⟩ ?_
  rintro j st ⟨e,rfl,he,aO,rfl⟩;refine br ?_ ?_<;>intro hL
  ·have au:e < l.length:=by simpa [aC] using hL
   obtain ⟨x,hx⟩:=gX au;rw [drop_cons hx] at aO;have CW:=iE (mG hx);refine ⟨j2 x,⟨by omega,aT hx⟩,?_⟩;refine cP JA (kp x.s (by omega)) ?_;refine br ?_ ?_<;>intro hN
   ·have hN:bd x.s=false:=sU hN;have:bM l=(9,x.a):=by simp [bM,fF,aO,badWd,hN]
    refine ⟨j2 x,⟨by omega,aT hx⟩,_,?_,rfl⟩;rw [this];exact ax
   ·have hN:bd x.s=true:=sU hN;refine ⟨Bp l (e + 1),(bp (cY (aN au (by omega)))),l.length - (e + 1),by omega,e + 1,rfl,by omega,?_,rfl⟩;rw [aO];simp [badWd,hN]
  ·have hge:e=l.length:=by simp [aC] at hL;omega
   have:bM l=(0,0):=by simp [bM,fF,aO,hge,badWd]
   refine ⟨_,?_,rfl⟩;rw [this];exact ax
def cH (l:List Wd) (s:ByteArray):Bool:=l.any fun w=>decide (w.s=s)
def aG (l:List Wd) (i:Nat) (x:Wd):Int:=
 if bd x.s then (if cH (l.take i) x.s then 10 else 0) else 9
abbrev vR (l:List Wd) (i e:Nat):St:=
 ⟨[bh 0 2 (bG l),ay 1 i,ay 5 e],[],[]⟩
theorem oN (l:List Wd) (i:Nat) (x:Wd) (hs:wdsWt l<=4611686018427387904) (hx:l[i]? = some x) :
  EvP prog 280 [.sl 2 (bG l) none,.v (.int .i64 i)] (.v (.int .i64 (aG l i x))):=by
 have mW:=bu l;have hi:=(gS hx).1;have CW:=iE (mG hx);refine eG 29 [.tmp 4] func280 rfl ntmps280 rfl fun _ _ _ _=>?_;refine ⟨j2 x,⟨by omega,aT hx⟩,?_⟩;refine cP JA (kp x.s (by omega)) ?_;refine br ?_ ?_<;>intro hN
 ·have hN:bd x.s=false:=sU hN;refine (Be ?_:);simp [aG,hN]
 ·have hN:bd x.s=true:=sU hN
  refine aV (fun j st=>∃ e:Nat,st=vR l i e/\e<=i/\cH (l.take e) x.s=false/\j=i - e) i
   (vR l i 0) (bp wB) ⟨0,rfl,by omega,rfl,by omega⟩ ?_
  rintro j st ⟨e,rfl,he,aO,rfl⟩;refine br ?_ ?_<;>intro hL
  ·have au:e < i:=sU hL;obtain ⟨y,hy⟩:∃ y,l[e]? = some y:=⟨_,gE (by omega)⟩;refine dI ?_;refine ⟨j2 y,⟨by omega,aT hy⟩,j2 x,⟨by omega,aT hx⟩,?_⟩;refine br ?_ ?_<;>intro hE
   ·have hE:y.s=x.s:=sU hE;refine (Be ?_:)
    have:cH (l.take i) x.s=true:=by
     simp only [cH,List.any_eq_true];exact ⟨y,List.mem_take_iff_getElem.2 ⟨e,by omega,(gS hy).2⟩,by simpa using hE⟩
    simp [aG,hN,this]
   ·have hE:¬ y.s=x.s:=sU hE;refine ⟨vR l i (e + 1),(bp (cY (aN au (by omega)))),i - (e + 1),by omega,e + 1,rfl,by omega,?_,rfl⟩;rw [List.take_add_one,hy];simp only [cH,List.any_append] at aO ⊢;simp [aO,hE]
  ·have hge:e=i:=by have:=of_decide_eq_false hL;omega
   refine (Be ?_:);subst hge;simp [aG,hN,aO]
def pNames:Pts->List Wd
 | .nil=>[]
 | .cons p _ r=>p.name :: pNames r
theorem gw:∀ ps:Pts,(pNames ps).length=ps.len
 | .nil=>rfl
 | .cons p t r=>by simp [pNames,Pts.len,gw r]
theorem gx:∀ {ps:Pts} {j:Nat} {p:Ph} {t:Ty},ps.toList[j]? = some (p,t)->(pNames ps)[j]? = some p.name
 | .nil,j,p,t,h=>by simp [Pts.toList] at h
 | .cons q u r,0,p,t,h=>by grind [Pts.toList,pNames]
 | .cons q u r,j + 1,p,t,h=>by
  simp only [Pts.toList,List.getElem?_cons_succ] at h;simp only [pNames,List.getElem?_cons_succ];exact gx h
theorem rW:∀ ps:Pts,wdsWt (pNames ps)<=ps.wt
 | .nil=>aQ _
 | .cons p t r=>by
  have:=rW r
  grind [pNames,wdsWt,Pts.wt,Ph.wt]
abbrev Bq (ps:Pts) (l:List Wd) (n e:Nat):St:=
 ⟨[bh 0 18 (fL ps),(3,⟨[],.sl 2 (bG l) (some 0)⟩),ay 4 e],[],[⟨n,27,2,none⟩]⟩
theorem Bs (ps:Pts) (hs:ps.wt<=1099511627776):EvP prog 319 [.sl 18 (fL ps) none] (.sl 2 (bG (pNames ps)) none):=by
 have gn:=ps.fK;refine eG 20 [.tmp 2] func319 rfl ntmps319 rfl fun _ _ _ _=>?_
 refine aV (fun j st=>∃ (e:Nat),st=Bq ps ((pNames ps).take e) e e/\e<=ps.len/\j=ps.len - e) ps.len
  (Bq ps [] 0 0) (fU ⟨0,27,2,none⟩ rfl ⟨_,rfl⟩ rfl wA rfl rfl kj) ⟨0,by simp,by omega,by omega⟩ ?_
 rintro j st ⟨e,rfl,he,rfl⟩;refine br ?_ ?_<;>intro hL
 ·have au:e < ps.len:=by simpa [aH] using hL
  obtain ⟨p,t,hx⟩:=Pts.eE au;refine iX (bQ hx) ?_;refine ⟨by simp [aC,gw];omega,⟨by simp [aC,gw,maxLen];omega,by simp [aC,gw];omega⟩,?_⟩;refine ⟨Bq ps ((pNames ps).take (e + 1)) (e + 1) (e + 1),(bp (iT (aN au (by omega)) (zt (gx hx)))),ps.len - (e + 1),by omega,e + 1,rfl,by omega,rfl⟩
 ·have hge:e=ps.len:=by simp [aH] at hL;omega
  rw [hge,List.take_of_length_le (by rw [gw];omega)];exact ⟨_,ax,rfl⟩
mutual
def Ty.cnt:Ty->Nat
 | .mk _ ps=>1 + ps.cnt
def Pts.cnt:Pts->Nat
 | .nil=>0
 | .cons p t r=>(if p.bare then 0 else t.cnt) + r.cnt
end
mutual
def Ty.deep:Ty->Nat
 | .mk _ ps=>ps.deep + 1
def Pts.deep:Pts->Nat
 | .nil=>0
 | .cons p t r=>max (if p.bare then 0 else t.deep) r.deep
end
mutual
theorem Ty.eF:∀ t:Ty,t.cnt<=t.wt
 | .mk h ps=>by have:=Pts.eF ps;simp only [Ty.cnt,Ty.wt,Hd.wt];omega
theorem Pts.eF:∀ ps:Pts,ps.cnt<=ps.wt
 | .nil=>aQ _
 | .cons p t r=>by
  have:=Ty.eF t;have:=Pts.eF r;simp only [Pts.cnt,Pts.wt];split<;>omega
end
mutual
theorem Ty.od:∀ t:Ty,t.deep<=t.wt
 | .mk h ps=>by have:=Pts.od ps;simp only [Ty.deep,Ty.wt,Hd.wt];omega
theorem Pts.od:∀ ps:Pts,ps.deep<=ps.wt
 | .nil=>aQ _
 | .cons p t r=>by
  have:=Ty.od t;have:=Pts.od r
  grind [Pts.deep,Pts.wt]
end
abbrev Bt (t:Ty) (e n d:Nat):St:=
 ⟨[aE 1 0,ay 4 n,ay 5 d,ay 6 e],[dX t],[]⟩
theorem ku:∀ (k:Nat) (t:Ty),t.wt<=k->t.wt<=1099511627776 ->
  EvP prog 101 [.agg (dX t)] (.tup [.v (.int .i64 t.cnt),.v (.int .i64 t.deep)])
 | 0,t,hn,_=>by have:=t.dy;omega
 | k + 1,.mk h ps,hn,cw=>by
  simp only [Ty.wt,Hd.wt] at hn cw;have gn:=ps.fK;have hc:=ps.eF;have hdp:=ps.od;refine eG 42 [.tmp 2,.tmp 3] func101 rfl ntmps101 rfl fun _ _ _ _=>?_
  refine aV (fun j st=>∃ (e n d:Nat),st=Bt (.mk h ps) e n d/\e<=ps.len/\n + (ps.drop e).cnt=1 + ps.cnt/\max d (ps.drop e).deep=ps.deep/\j=ps.len - e) ps.len
   (Bt (.mk h ps) 0 1 0) (bp wB) ⟨0,1,0,rfl,by omega,rfl,by simp [Pts.drop],by omega⟩ ?_
  rintro j st ⟨e,n,d,rfl,he,bf,Yb,rfl⟩;refine br ?_ ?_<;>intro hL
  ·have au:e < ps.len:=by simpa [aH] using hL
   obtain ⟨p,t,hx⟩:=Pts.eE au;have D0:=Pts.gq (mG hx);rw [Pts.drop_cons hx] at bf Yb;simp only [Pts.cnt,Pts.deep] at bf Yb;have hct:=t.eF;have hdt:=t.od;refine iX (bQ hx) ?_;refine br ?_ ?_<;>intro hB
   ·rw [ap hB] at bf Yb;exact rE ⟨_,by omega,e + 1,n,d,rfl,by omega,by omega,by omega,rfl⟩ (bp (cY (aN au (by omega))))
   ·rw [aj (by simp [hB])] at bf Yb;obtain ⟨u,us⟩:=t;refine iX (bQ hx) ?_;refine cP Jy (ku k (.mk u us) (by omega) (by omega)) ?_;have yB:IntKind.i64.wrap ((n:Int) + (Ty.mk u us).cnt)=((n + (Ty.mk u us).cnt:Nat):Int):=by rw [wrap64 (by omega) (by omega)];omega
    refine br ?_ ?_<;>intro hD
    ·have hD:d < (Ty.mk u us).deep:=sU hD;exact ⟨Bt (.mk h ps) (e + 1) (n + (Ty.mk u us).cnt) (Ty.mk u us).deep,(bp (iT yB (aN au (by omega)))),ps.len - (e + 1),by omega,e + 1,_,_,rfl,by omega,by omega,by omega,rfl⟩
    ·have hD:¬ d < (Ty.mk u us).deep:=sU hD;exact ⟨Bt (.mk h ps) (e + 1) (n + (Ty.mk u us).cnt) d,(bp (iT yB (aN au (by omega)))),ps.len - (e + 1),by omega,e + 1,_,_,rfl,by omega,by omega,by omega,rfl⟩
  ·have hge:e=ps.len:=by simp [aH] at hL;omega
   rw [hge,Pts.dn] at bf Yb;simp only [Pts.cnt,Pts.deep] at bf Yb;have e1:IntKind.i64.wrap ((d:Int) + 1)=((Ty.mk h ps).deep:Int):=by rw [wrap64 (by omega) (by omega)];simp only [Ty.deep];omega
   have e2:(n:Int)=((Ty.mk h ps).cnt:Int):=by simp only [Ty.cnt];omega
   refine ⟨_,?_,rfl⟩;rw [<- e1,<- e2];exact ax
def wD (f:Ft) (n:Int):DV:=.agg [.v (.int .i64 f.1),.v (.int .i64 f.2),.v (.int .i64 n)]
theorem eu (f:Ft) (n e a:Int):EvP prog 278 [wD f n,.v (.int .i64 e),.v (.int .i64 a)] (wD (e,a) n):=by
 refine eG 13 [.cell 6 335] func278 rfl ntmps278 rfl fun _ _ _ _=>?_;exact ⟨_,ax,rfl⟩
def aY (p:Ph):Ft:=
 if p.ck=0 then (if p.cn=0/\p.cl=[] then (0,0) else (19,p.name.a))
 else if p.ck < 0∨3 < p.ck then (14,p.ca)
 else if (p.ck=1/\p.cn < 1)∨(p.ck=2/\(p.cn < 0∨4096 < p.cn))∨(p.ck=3/\p.cn≠0) then (20,p.ca)
 else bM p.cl
theorem yL (p:Ph) (tl:List DV) (hs:p.wt<=4611686018427387904) :
  EvP prog 321 [.agg (GX p tl)] (aY p).d:=by
 simp only [Ph.wt] at hs;refine eG 73 [.cell 2 44] func321 rfl ntmps321 rfl fun _ _ _ _=>?_;refine br ?_ ?_<;>intro h0
 ·have h0:p.ck=0:=sU h0;refine br ?_ ?_<;>intro h1
  ·have:aY p=(19,p.name.a):=by grind [aq,aC,aY]
   refine ⟨_,?_,rfl⟩;rw [this];exact ax
  ·have:aY p=(0,0):=by
    simp [aq,aC] at h1;simp [aY,h0,h1.1,h1.2]
   refine ⟨_,?_,rfl⟩;rw [this];exact ax
 ·have h0:¬ p.ck=0:=sU h0;refine br ?_ ?_<;>intro h1
  ·have:aY p=(14,p.ca):=by grind [aq,aY]
   refine ⟨_,?_,rfl⟩;rw [this];exact ax
  ·simp [aq] at h1;refine br ?_ ?_<;>intro h2
   ·have:aY p=(20,p.ca):=by grind [aq,ai,aY]
    refine ⟨_,?_,rfl⟩;rw [this];exact ax
   ·have hc:aY p=bM p.cl:=by grind [aq,ai,aY]
    refine cP NW (l8 p.cl (by omega)) ?_;refine ⟨_,?_,rfl⟩;rw [hc];exact ax
def enumL (all:List Wd):Nat->List Wd->Ft
 | _,[]=>(0,0)
 | i,x :: r=>if aG all i x≠0 then (aG all i x,x.a) else enumL all (i + 1) r
def iG (h:Hd):Ft:=
 if h.af=[] then (15,h.at')
 else if 64 < h.af.length then (8,((h.af[64]?).getD (⟨av,0⟩:Wd)).a)
 else enumL h.af 0 h.af
def dT (p:Ph):Ft:=
 if p.wide < 0∨64 < p.wide then (20,p.name.a)
 else if (bM p.label).1≠0 then bM p.label
 else aY p
def vS (t:Ty):Bool:=sameTy t (mask t)
mutual
def wrong:Ty->Int->Int->Ft × Int
 | .mk h ps,depth,m=>
  if 24 < depth then ((6,h.at'),m + 1)
  else if 512 < m + 1 then ((8,h.at'),m + 1)
  else if h.ag < 1∨9 < h.ag then ((14,h.at'),m + 1)
  else if vS (.mk h ps)=false then ((19,h.at'),m + 1)
  else if (h.ag=2/\h.hi < h.lo)∨(h.ag=3/\(h.most < 0∨4096 < h.most)) then ((20,h.at'),m + 1)
  else if h.ag=9/\bd h.name.s=false then ((9,h.name.a),m + 1)
  else if h.ag=4 then (iG h,m + 1)
  else if h.ag=5∨h.ag=6 then wrongOne h ps depth (m + 1)
  else if h.ag=7∨h.ag=8 then
   if h.ag=8/\ps.len=0 then ((15,h.at'),m + 1)
   else if 64 < ps.len then ((8,(((pNames ps)[64]?).getD (⟨av,0⟩:Wd)).a),m + 1)
   else wrongPts h.ag (pNames ps) 0 ps depth (m + 1)
  else ((0,0),m + 1)
def wrongOne:Hd->Pts->Int->Int->Ft × Int
 | h,.cons p t .nil,depth,m=>
  if p.name.s≠av∨cC p fp=false then ((19,h.at'),m)
  else if h.most < 0∨1024 < h.most then ((20,h.at'),m)
  else wrong t (depth + 1) m
 | h,_,_,m=>((19,h.at'),m)
def wrongPts (ag:Int) (all:List Wd):Nat->Pts->Int->Int->Ft × Int
 | _,.nil,_,m=>((0,0),m)
 | i,.cons p t r,depth,m=>
  if aG all i p.name≠0 then ((aG all i p.name,p.name.a),m)
  else if p.bare=true then
   if ag=7∨sameTy t cJ=false∨cC p jo=false then ((19,p.name.a),m) else wrongPts ag all (i + 1) r depth m
  else if (dT p).1≠0 then (dT p,m)
  else if (wrong t (depth + 1) m).1.1≠0 then wrong t (depth + 1) m
  else wrongPts ag all (i + 1) r depth (wrong t (depth + 1) m).2
end
def Bu (k:Nat):Prop:=∀ (t:Ty) (depth m:Int),t.wt<=k->t.wt<=1099511627776->0<=depth->depth<=25->0<=m->m<=512 ->
 EvP prog 242 [wD (0,0) m,.agg (dX t),.v (.int .i64 depth)] (wD (wrong t depth m).1 (wrong t depth m).2)
abbrev JK (t:Ty) (e:Nat) (depth m:Int):St:=
 ⟨[ay 2 depth,aE 3 0,aE 4 1,aE 6 2,ay 7 e],[[.v (.int .i64 0),.v (.int .i64 0),.v (.int .i64 m)],dX t,[.v (.int .i64 0),.v (.int .i64 0),.v (.int .i64 0)]],[]⟩
def eX (h:Hd) (ps:Pts) (depth m:Int):Ft × Int:=
 if h.ag=8/\ps.len=0 then ((15,h.at'),m)
 else if 64 < ps.len then ((8,(((pNames ps)[64]?).getD (⟨av,0⟩:Wd)).a),m)
 else wrongPts h.ag (pNames ps) 0 ps depth m
theorem D2 (all:List Wd):∀ (l:List Wd) (i:Nat),(enumL all i l).1=0->enumL all i l=(0,0)
 | [],_,_=>rfl
 | x :: r,i,h=>by
  have ih:=D2 all r (i + 1)
  grind [enumL]
theorem zA (h:Hd) (he:(iG h).1=0):iG h=(0,0):=by grind [iG,D2]
mutual
theorem qv:∀ (t:Ty) (depth m:Int),0<=m->(wrong t depth m).1.1=0->(wrong t depth m).1=(0,0)/\0<=(wrong t depth m).2/\(wrong t depth m).2<=512
 | .mk h ps,depth,m,hm,he=>by
  have i1:=D3 h ps depth (m + 1) (by omega);have i2:=np h.ag (pNames ps) ps 0 depth (m + 1) (by omega);have i3:=zA h;simp only [wrong] at he ⊢;by_cases c0:24 < depth
  ·rw [ap c0] at he;simp at he
  rw [aj c0] at he ⊢;by_cases c1:512 < m + 1
  ·rw [ap c1] at he;simp at he
  rw [aj c1] at he ⊢;by_cases c2:h.ag < 1∨9 < h.ag
  all_goals grind
theorem D3:∀ (h:Hd) (ps:Pts) (depth m:Int),0<=m->m<=512->(wrongOne h ps depth m).1.1=0->(wrongOne h ps depth m).1=(0,0)/\0<=(wrongOne h ps depth m).2/\(wrongOne h ps depth m).2<=512
 | h,.nil,depth,m,hm,_,he=>by simp [wrongOne] at he
 | h,.cons p t .nil,depth,m,hm,h5,he=>by
  have ih:=qv t (depth + 1) m hm
  grind [wrongOne]
 | h,.cons p t (.cons _ _ _),depth,m,hm,_,he=>by simp [wrongOne] at he
theorem np (ag:Int) (all:List Wd):∀ (ps:Pts) (i:Nat) (depth m:Int),0<=m->m<=512->(wrongPts ag all i ps depth m).1.1=0->(wrongPts ag all i ps depth m).1=(0,0)/\0<=(wrongPts ag all i ps depth m).2/\(wrongPts ag all i ps depth m).2<=512
 | .nil,i,depth,m,hm,h5,he=>by simp only [wrongPts];exact ⟨trivial,hm,h5⟩
 | .cons p t r,i,depth,m,hm,h5,he=>by
  have i1:=qv t (depth + 1) m hm;simp only [wrongPts] at he ⊢;split at he
  ·rename_i h1;exact (h1 he).elim
  ·rename_i h1;rw [aj h1];split at he
   ·rename_i h2;rw [ap h2];split at he
    ·simp at he
    ·rename_i h3;rw [aj h3];exact np ag all r (i + 1) depth m hm h5 he
   ·rename_i h2;rw [aj h2];split at he
    ·rename_i h3;exact (h3 he).elim
    ·rename_i h3;rw [aj h3];split at he
     ·rename_i h4;exact (h4 he).elim
     ·rename_i h4;rw [aj h4];have i2:=i1 (sU h4);exact np ag all r (i + 1) depth _ i2.2.1 i2.2.2 he
end
theorem Bv (k:Nat) (ih:Bu k) (h:Hd) (ps:Pts) (depth m:Int) (hk:ps.wt<=k) (cw:(Ty.mk h ps).wt<=1099511627776) (zu:0<=depth) (uM:depth<=24) (lN:0<=m) (jk:m<=512) :
  EvP prog 282 [wD (0,0) m,.agg (dX (.mk h ps)),.v (.int .i64 depth)] (wD (eX h ps depth m).1 (eX h ps depth m).2):=by
 simp only [Ty.wt,Hd.wt] at cw;have gn:=ps.fK;have Wt:=rW ps;refine eG 126 [.cell 6 335] func282 rfl ntmps282 rfl fun _ _ _ _=>?_;refine br ?_ ?_<;>intro c1
 ·refine cP gH (eu (0,0) m 15 h.at') ?_;have:eX h ps depth m=((15,h.at'),m):=by grind [ai,aH,eX]
  refine ⟨_,?_,rfl⟩;rw [this];exact ax
 ·have c1':¬ (h.ag=8/\ps.len=0):=by
   simp [ai,aH] at c1;omega
  refine br ?_ ?_<;>intro c2
  ·have au:64 < ps.len:=by simp [aH] at c2;omega
   obtain ⟨p,t,hx⟩:=Pts.eE au;refine e9 (fun i=>Nat.beq i 8) mo (by decide +kernel) ?_;refine iX (bQ hx) ?_;refine cD gH (eu (0,0) m 8 p.name.a) ?_;have:eX h ps depth m=((8,p.name.a),m):=by grind [eX,gx]
   refine ⟨_,?_,rfl⟩;rw [this];exact ax
  ·have c2':¬ 64 < ps.len:=by simp [aH] at c2;omega
   have hF:eX h ps depth m=wrongPts h.ag (pNames ps) 0 ps depth m:=by simp only [eX,aj c1',aj c2']
   refine aV (fun j st=>∃ (e:Nat) (m':Int),st=JK (.mk h ps) e depth m' /\ e<=ps.len/\0<=m' /\ m' <= 512 /\
     wrongPts h.ag (pNames ps) 0 ps depth m=wrongPts h.ag (pNames ps) e (ps.drop e) depth m' /\ j=ps.len - e) ps.len
    (JK (.mk h ps) 0 depth m) (bp wB) ⟨0,m,rfl,by omega,lN,jk,rfl,by omega⟩ ?_
   rintro j st ⟨e,m',rfl,he,uv,D4,aO,rfl⟩;refine br ?_ ?_<;>intro hL
   ·have au:e < ps.len:=by simpa [aH] using hL
    obtain ⟨p,t,hx⟩:=Pts.eE au;rw [Pts.drop_cons hx] at aO;have D0:=Pts.gq (mG hx);obtain ⟨u,us⟩:=t;refine iX (bQ hx) ?_;refine cP aaf (Bs ps (by omega)) ?_;refine cP Uq (oN (pNames ps) e p.name (by omega) (gx hx)) ?_;refine br ?_ ?_<;>intro hl
    ·have hl:aG (pNames ps) e p.name≠0:=sU hl;refine cP gH (eu (0,0) m' _ p.name.a) ?_;have:eX h ps depth m=((aG (pNames ps) e p.name,p.name.a),m'):=by grind [wrongPts]
     refine ⟨_,?_,rfl⟩;rw [this];exact ax
    ·have hl:aG (pNames ps) e p.name=0:=sU hl;simp only [wrongPts] at aO;rw [aj (by simp [hl])] at aO;refine br ?_ ?_<;>intro hB
     ·rw [ap hB] at aO;refine br ?_ ?_<;>intro k7
      ·have k7:¬ h.ag=7:=sU k7;refine cP aag (D1 (.mk u us) (by omega)) ?_;refine br ?_ ?_<;>intro z
       ·have z:sameTy (.mk u us) cJ=true:=by simpa [aq,k7] using z
        refine cP NX (l7 p jo (dX (.mk u us)) (dX cJ) (by omega) (zy _ _ _ _ _) (zy _ _ _ _ _)) ?_;refine br ?_ ?_<;>intro q
        ·have q:cC p jo=false:=by simpa [aq,k7,z] using q
         refine cP gH (eu (0,0) m' 19 p.name.a) ?_;rw [ap (by simp [q])] at aO;refine ⟨_,?_,rfl⟩;rw [hF,aO];exact ax
        ·have q:cC p jo=true:=by simpa [aq,k7,z] using q
         rw [aj (by simp [k7,z,q])] at aO;exact rE ⟨_,by omega,e + 1,m',rfl,by omega,uv,D4,aO,rfl⟩ (bp (cY (aN au (by omega))))
       ·have z:sameTy (.mk u us) cJ=false:=by simpa [aq,k7] using z
        refine cP gH (eu (0,0) m' 19 p.name.a) ?_;rw [ap (by simp [z])] at aO;refine ⟨_,?_,rfl⟩;rw [hF,aO];exact ax
      ·have k7:h.ag=7:=sU k7;refine cP gH (eu (0,0) m' 19 p.name.a) ?_;rw [ap (by simp [k7])] at aO;refine ⟨_,?_,rfl⟩;rw [hF,aO];exact ax
     ·rw [aj (by simp [hB])] at aO;refine br ?_ ?_<;>intro hw
      ·have hP:dT p=(20,p.name.a):=by grind [aq,dT]
       rw [ap (by rw [hP];simp),hP] at aO;refine ⟨_,?_,rfl⟩;rw [hF,aO];exact ax
      ·have hw:¬ (p.wide < 0∨64 < p.wide):=by simp [aq] at hw;omega
       have hpw:p.wt<=ps.wt:=by omega
       simp only [Ph.wt] at hpw;refine cP NW (l8 p.label (by omega)) ?_;refine br ?_ ?_<;>intro hb
       ·have hb:(bM p.label).1=0:=sU hb;have hP:dT p=aY p:=by simp only [dT,aj hw,hb,ne_eq,not_true_eq_false,if_false]
        rw [hP] at aO;refine cP aah (yL p (dX (.mk u us)) (by omega)) ?_ (by repeat' (first | exact rfl | exact trivial | exact Or.inr (Or.inl ⟨_,rfl⟩) | exact Or.inr ⟨_,rfl⟩ | exact Or.inl ⟨rfl,rfl⟩ | exact Or.inl rfl | refine Or.inr ⟨_,_,rfl,Nat.zero_le _,rfl,?_⟩ | refine ⟨_,_,rfl,?_,?_⟩ | refine ⟨_,rfl,?_⟩ | exact congrArg DV.agg rfl| refine Or.inr (Or.inr (Or.inr ⟨_,_,rfl,?_⟩)) | exact Or.inl rfl | refine Or.inr ?_));refine br ?_ ?_<;>intro hc
        ·have hc:(aY p).1≠0:=sU hc;rw [ap hc] at aO;refine ⟨_,?_,rfl⟩;rw [hF,aO];exact ax
        ·have hc:(aY p).1=0:=sU hc;rw [aj (by simp [hc])] at aO;have yz:=ih (.mk u us) (depth + 1) m' (by omega) (by omega) (by omega) (by omega) uv D4;have bI:=qv (.mk u us) (depth + 1) m' uv;generalize wrong (.mk u us) (depth + 1) m'=r at yz bI aO;obtain ⟨⟨fe,fa⟩,many⟩:=r;simp only at yz bI aO;refine cP NU yz ?_ (by repeat' (first | exact rfl | exact trivial | exact Or.inr (Or.inl ⟨_,rfl⟩) | exact Or.inr ⟨_,rfl⟩ | exact Or.inl ⟨rfl,rfl⟩ | exact Or.inl rfl | refine Or.inr ⟨_,_,rfl,Nat.zero_le _,rfl,?_⟩ | refine ⟨_,_,rfl,?_,?_⟩ | refine ⟨_,rfl,?_⟩ | exact congrArg (fun z=>DV.v (.int .i64 z)) (wrap64 (by omega) (by omega))| refine Or.inr (Or.inr (Or.inr ⟨_,_,rfl,?_⟩)) | exact Or.inl rfl | refine Or.inr ?_));refine br ?_ ?_<;>intro hd
         ·have hd:fe≠0:=sU hd;rw [ap hd] at aO;refine ⟨_,?_,rfl⟩;rw [hF,aO];exact ax
         ·have hd:fe=0:=sU hd;subst hd;obtain ⟨h1,h2,h3⟩:=bI rfl;simp only [Prod.mk.injEq,true_and] at h1;subst h1;rw [aj (by simp)] at aO;exact rE ⟨_,by omega,e + 1,many,rfl,by omega,h2,h3,aO,rfl⟩ (bp (cY (aN au (by omega))))
       ·have hb:¬ (bM p.label).1=0:=sU hb;have hP:dT p=bM p.label:=by simp only [dT,aj hw];rw [ap hb]
        rw [hP,ap hb] at aO;refine br ?_ ?_<;>intro hc
        ·refine ⟨_,?_,rfl⟩;rw [hF,aO];exact ax
        ·exact (hb (sU hc)).elim
   ·have hge:e=ps.len:=by simp [aH] at hL;omega
    rw [hge,Pts.dn] at aO;refine ⟨_,?_,rfl⟩;rw [hF,aO];simp only [wrongPts];exact ax
theorem bA (e a:Int):EvP prog 252 [.v (.int .i64 e),.v (.int .i64 a)] (Ft.d (e,a)):=by
 refine eG 8 [.cell 4 44] func252 rfl ntmps252 rfl fun _ _ _ _=>?_;exact ⟨_,ax,rfl⟩
noncomputable def gQ (L:List ByteArray) (x:ByteArray) (a:Int):Ft:=if bd x=true then (if L.Nodup then (0,0) else (10,a)) else (9,a)
theorem tu (L:List ByteArray) (x:ByteArray) (a:Int) (hx:L[L.length - 1]? = some x) (hl:L.length<=1099511627776) (CW:x.size<=4611686018427387904) :
  EvP prog 303 [.sl 1 (eV L) none,.v (.int .i64 a)] (gQ L x a).d:=by
 have hN:=cg L;have jX:=(gS hx).1;have hz:IntKind.i64.wrap (((eV L).length:Int) - 1)=((L.length - 1:Nat):Int):=by rw [hN,wrap64 (by omega) (by omega)];omega
 refine eG 23 [.cell 4 44] func303 rfl ntmps303 rfl fun _ _ _ _=>?_;refine ⟨[.v (.string x)],⟨by rw [hz];omega,by rw [hz];exact fc hx⟩,?_⟩;refine cP tf (gv x CW) ?_;refine br ?_ ?_<;>intro h
 ·have h:bd x=false:=sU h;refine cP ee (bA 9 a) ?_;refine ⟨_,?_,rfl⟩;rw [gQ,aj (by rw [h];decide)];exact ax
 ·have h:bd x=true:=sU h;refine bS NI rfl (pa L hl) ax (fun r hr=>?_);obtain ⟨z,rfl,hz⟩:=hr;refine br ?_ ?_<;>intro h2
  ·have h2:0<=z:=sU h2;refine cP ee (bA 10 a) ?_;refine ⟨_,?_,rfl⟩;rw [gQ,ap h,aj (hz.1 h2)];exact ax
  ·have h2:¬ 0<=z:=sU h2;refine ⟨_,?_,rfl⟩;rw [gQ,ap h,ap (Classical.byContradiction fun hn=>h2 (hz.2 hn))];exact ax
theorem G5 {l:List Wd} {e:Nat} {x:Wd} (h:l[e]? = some x):bG ((l.map fun w=>(⟨w.s,0⟩:Wd)).take e) ++ [[.v (.string x.s),.v (.int .i64 0)]]=bG ((l.map fun w=>(⟨w.s,0⟩:Wd)).take (e + 1)):=by
 have h2:(l.map fun w=>(⟨w.s,0⟩:Wd))[e]? = some ⟨x.s,0⟩:=by simp [h]
 exact zt h2
def iH (l:List Wd):List Wd:=l.map fun w=>⟨w.s,0⟩
abbrev Oj (l l':List Wd) (n e:Nat):St:=
 ⟨[bh 6 2 (bG l),ay 7 ((bG l).length),ay 8 e,(3,⟨[],.sl 2 (bG l') (some 0)⟩)],[],[⟨n,27,2,none⟩]⟩
theorem vT (l:List Wd) (hs:wdsWt l<=1099511627776):EvP prog 371 [.sl 2 (bG l) none] (.sl 2 (bG (iH l)) none):=by
 have hl:=bu l;refine eG 20 [.tmp 2] func371 rfl ntmps371 rfl fun _ _ _ _=>?_;refine aV (fun j st=>∃ e:Nat,st=Oj l ((iH l).take e) e e/\e<=l.length/\j=l.length - e) l.length (Oj l [] 0 0) (fU ⟨0,27,2,none⟩ rfl ⟨_,rfl⟩ rfl wA rfl rfl kj) ⟨0,by simp,by omega,by omega⟩ ?_;rintro j st ⟨e,rfl,he,rfl⟩;refine br ?_ ?_<;>intro h
 ·have au:e < l.length:=by simpa [aC] using h
  obtain ⟨w,hw⟩:=gX au;refine ⟨j2 w,⟨by omega,aT hw⟩,?_⟩;refine ⟨by simp [aC,iH];omega,⟨by simp [aC,iH,maxLen];omega,by simp [aC,iH];omega⟩,?_⟩;refine ⟨Oj l ((iH l).take (e + 1)) (e + 1) (e + 1),(bp (iT (aN au (by omega)) (G5 hw))),l.length - (e + 1),by omega,e + 1,rfl,by omega,rfl⟩
 ·have hge:e=l.length:=by
   have:=h;simp [aC] at this;omega
  rw [hge,List.take_of_length_le (by simp [iH])];exact ⟨_,ax,rfl⟩
abbrev vU (l:List Wd) (e:Nat):St:=
 ⟨[bh 13 2 (bG l),ay 14 ((bG l).length),aE 2 0,ay 15 e],[[.v (.int .i64 0),.v (.int .i64 0)]],[]⟩
theorem iZ (l:List Wd) (hs:wdsWt l<=1099511627776) :
  EvP prog 328 [.sl 2 (bG l) none] (bM l).d:=by
 have mW:=bu l;refine eG 28 [.cell 2 44] func328 rfl ntmps328 rfl fun _ _ _ _=>?_;refine br ?_ ?_<;>intro h
 ·have au:32 < l.length:=by simp [aC] at h;omega
  obtain ⟨x,hx⟩:=gX au;have:bM l=(8,x.a):=by simp [bM,Nat.not_le.2 au,hx]
  refine ⟨j2 x,⟨by omega,aT hx⟩,?_⟩;refine cP ee (bA 8 x.a) ?_;refine ⟨_,?_,rfl⟩;rw [this];exact ax
 ·have fF:l.length<=32:=by simp [aC] at h;omega
  refine aV (fun j st=>∃ e:Nat,st=vU l e/\e<=l.length/\badWd l=badWd (l.drop e)/\j=l.length - e) l.length
   (vU l 0) (bp wB) ⟨0,rfl,by omega,rfl,by omega⟩ ?_
  rintro j st ⟨e,rfl,he,aO,rfl⟩;refine br ?_ ?_<;>intro hL
  ·have au:e < l.length:=by simpa [aC] using hL
   obtain ⟨x,hx⟩:=gX au;rw [drop_cons hx] at aO;have CW:=iE (mG hx);refine ⟨j2 x,⟨by omega,aT hx⟩,?_⟩;refine cP tf (gv x.s (by omega)) ?_;refine br ?_ ?_<;>intro hN
   ·have hN:bd x.s=false:=sU hN;have:bM l=(9,x.a):=by simp [bM,fF,aO,badWd,hN]
    refine cP ee (bA 9 x.a) ?_;refine ⟨_,?_,rfl⟩;rw [this];exact ax
   ·have hN:bd x.s=true:=sU hN;refine ⟨vU l (e + 1),(bp (cY (aN au (by omega)))),l.length - (e + 1),by omega,e + 1,rfl,by omega,?_,rfl⟩;rw [aO];simp [badWd,hN]
  ·have hge:e=l.length:=by simp [aC] at hL;omega
   have:bM l=(0,0):=by simp [bM,fF,aO,hge,badWd]
   refine ⟨_,?_,rfl⟩;rw [this];exact ax
theorem Bw (p:Ph) (tl:List DV) (t:Ty) (gl:tl=dX t) (hs:p.wt<=1099511627776) :
  EvP prog 329 [.agg (GX p tl)] (aY p).d:=by
 subst gl;obtain ⟨u,us⟩:=t;simp only [Ph.wt] at hs;refine eG 55 [.cell 2 44] func329 rfl ntmps329 rfl fun _ _ _ _=>?_;refine br ?_ ?_<;>intro h0
 ·have h0:p.ck=0:=of_decide_eq_true h0;refine br ?_ ?_<;>intro h1
  ·have:aY p=(19,p.name.a):=by grind [aq,aC,aY]
   refine cP ee (bA 19 p.name.a) ?_;refine ⟨_,?_,rfl⟩;rw [this];exact ax
  ·have jH:p.cl=[]:=by
    simp [aq,aC] at h1;exact h1.2
   have:aY p=(0,0):=by grind [aq,aC,aY]
   have h00:bM p.cl=(0,0):=by rw [jH];simp [bM,badWd]
   refine cP DP (iZ p.cl (by omega)) ?_;refine ⟨_,?_,rfl⟩;rw [this,<- h00];exact ax
 have h0:¬ p.ck=0:=of_decide_eq_false h0;refine br ?_ ?_<;>intro h1
 ·have h1:p.ck=1:=of_decide_eq_true h1;refine br ?_ ?_<;>intro h2
  ·have:aY p=(20,p.ca):=by grind [ai,aY]
   refine cP ee (bA 20 p.ca) ?_;refine ⟨_,?_,rfl⟩;rw [this];exact ax
  ·have:aY p=bM p.cl:=by grind [ai,aY]
   refine cP DP (iZ p.cl (by omega)) ?_;refine ⟨_,?_,rfl⟩;rw [this];exact ax
 have h1:¬ p.ck=1:=of_decide_eq_false h1;refine br ?_ ?_<;>intro h3
 ·have h3:p.ck=2:=of_decide_eq_true h3;refine br ?_ ?_<;>intro h2
  ·have:aY p=(20,p.ca):=by grind [ai,aY]
   refine cP ee (bA 20 p.ca) ?_;refine ⟨_,?_,rfl⟩;rw [this];exact ax
  ·have:aY p=bM p.cl:=by grind [ai,aY]
   refine cP DP (iZ p.cl (by omega)) ?_;refine ⟨_,?_,rfl⟩;rw [this];exact ax
 have h3:¬ p.ck=2:=of_decide_eq_false h3;refine br ?_ ?_<;>intro h4
 ·have h4:p.ck=3:=of_decide_eq_true h4;refine br ?_ ?_<;>intro h2
  ·have:aY p=(20,p.ca):=by grind [ai,aY]
   refine cP ee (bA 20 p.ca) ?_;refine ⟨_,?_,rfl⟩;rw [this];exact ax
  ·have:aY p=bM p.cl:=by grind [ai,aY]
   refine cP DP (iZ p.cl (by omega)) ?_;refine ⟨_,?_,rfl⟩;rw [this];exact ax
 have h4:¬ p.ck=3:=of_decide_eq_false h4;have:aY p=(14,p.ca):=by grind [aY]
 refine cP ee (bA 14 p.ca) ?_;refine ⟨_,?_,rfl⟩;rw [this];exact ax
theorem Ol (w:World) (x y:Operand) (vs vs':Array Value):(eqGuard .neq 27 x y (.agg vs) (.agg vs')).run prog w = .ok () w:=by
 have h:prog.eqGuardType prog.depth 27=false:=by kernel_rfl
 simp [eqGuard,run_program,h]
theorem Wu (a b:ByteArray) (p q:Int) (w:World):(binOp .neq 27 (.agg #[.string a,.int .i64 p]) (.agg #[.string b,.int .i64 q])).run prog w = .ok (.bool (!(decide (a=b) && decide (p=q)))) w:=by
 have hf:prog.underlying 27=some (.struct (prog.fieldsOf 27)):=by simp [Program.fieldsOf,Tryz.underlying27]
 have yG:(prog.fieldsOf 27).toList=[⟨ "Name",9,0,false, "", "",0⟩,⟨ "At",3,1,false, "", "",16⟩]:=by simp [Program.fieldsOf,Tryz.underlying27]
 have hs:prog.stoodInHeld 27=false:=by kernel_rfl
 have hm:∃ d,Op.maxDepth=d + 1 + 1:=⟨Op.maxDepth - 2,by decide⟩;obtain ⟨d,hm⟩:=hm
 have he:(Op.equal 27 (.agg #[.string a,.int .i64 p]) (.agg #[.string b,.int .i64 q])).run prog w = .ok (decide (a=b) && decide (p=q)) w:=by
  unfold Op.equal;rw [hm,run_equalIn_struct w (d + 1) 27 _ _ hf hs,yG]
  have e1:(a.toList == b.toList)=decide (a=b):=by
   rw [ByteArray.toList_eq,ByteArray.toList_eq];by_cases h:a=b
   ·subst h;simp
   ·have:¬ a.data=b.data:=fun e=>h (ByteArray.ext e);simp [h,this]
  have q9:∀ cs:Array Value,∀ off v,cs[off]? = some v->(part 9 cs off).run prog w = .ok v w:=fun cs off v h=>by
   simp [part,Tryz.isAgg9,h]
  have q3:∀ cs:Array Value,∀ off v,cs[off]? = some v->(part 3 cs off).run prog w = .ok v w:=fun cs off v h=>by
   simp [part,Tryz.isAgg3,h]
  simp only [Op.eqFields,ne_eq,String.reduceEq,not_false_eq_true,if_true,Sem.run_bind,q9 #[.string a,.int .i64 p] 0 (.string a) rfl,q9 #[.string b,.int .i64 q] 0 (.string b) rfl,Result.andThen_ok,run_equalIn_string w d 9 a b Tryz.underlying9,e1];by_cases h:a=b
  ·simp only [h,decide_true,Bool.not_true,Bool.false_eq_true,if_false,Sem.run_bind,q3 #[.string b,.int .i64 p] 1 (.int .i64 p) rfl,q3 #[.string b,.int .i64 q] 1 (.int .i64 q) rfl,Result.andThen_ok,run_equalIn_int w d 3 .i64 .i64 p q Tryz.underlying3];by_cases h2:p=q<;>simp [h2,Sem.run_pure]
  ·simp [h,Sem.run_pure]
 show ((do let r <- Op.equal 27 _ _;pure (Value.bool !r)):Sem Value).run prog w=_;simp only [Sem.run_bind,he,Result.andThen_ok,Sem.run_pure]
theorem R6 (x y:Operand) (a b:Wd):GC prog .neq x y 27 (j2 a) (j2 b) (!(decide (a.s=b.s) && decide (a.a=b.a))):=
 ⟨[.string a.s,.int .i64 a.a],[.string b.s,.int .i64 b.a],rfl,rfl,fun w=>⟨Ol w x y _ _,Wu a.s b.s a.a b.a w⟩⟩
def eqWds:List Wd->List Wd->Bool
 | [],[]=>true
 | x :: r,y :: s=>(decide (x.s=y.s) && decide (x.a=y.a)) && eqWds r s
 | _,_=>false
theorem zB:∀ {a b:List Wd},a.length≠b.length->eqWds a b=false
 | [],[],h=>(h rfl).elim
 | [],_ :: _,_=>rfl
 | _ :: _,[],_=>rfl
 | x :: r,y :: s,h=>by
  simp only [eqWds];rw [zB (a:=r) (b:=s) (sU h),Bool.and_false]
theorem tv:∀ a b:List Wd,eqWds (iH a) (iH b)=sameWds a b
 | [],[]=>rfl
 | [],_ :: _=>rfl
 | _ :: _,[]=>rfl
 | x :: r,y :: s=>by
  have:=tv r s
  grind [iH,eqWds,sameWds]
abbrev Om (a b:List Wd) (e:Nat):St:=
 ⟨[bh 0 2 (bG a),bh 1 2 (bG b),ay 12 ((bG a).length),ay 13 e],[],[]⟩
theorem D5 (a b:List Wd) (hs:a.length<=1099511627776) :
  EvP prog 370 [.sl 2 (bG a) none,.sl 2 (bG b) none] (.v (.bool (eqWds a b))):=by
 refine eG 26 [.tmp 4] func370 rfl ntmps370 rfl fun _ _ _ _=>?_;refine br ?_ ?_<;>intro h
 ·have bf:a.length≠b.length:=by have:=h;simp [aC] at this;omega
  exact congrArg (fun b=>DV.v (.bool b)) (zB bf).symm
 ·have hl:a.length=b.length:=by have:=h;simp [aC] at this;omega
  refine aV (fun j st=>∃ e:Nat,st=Om a b e/\e<=a.length/\eqWds a b=eqWds (a.drop e) (b.drop e)/\j=a.length - e) a.length
   (Om a b 0) (bp wB) ⟨0,rfl,by omega,rfl,by omega⟩ ?_
  rintro j st ⟨e,rfl,he,aO,rfl⟩;refine br ?_ ?_<;>intro h
  ·have au:e < a.length:=by simpa [aC] using h
   obtain ⟨x,hx⟩:=gX au;obtain ⟨y,hy⟩:∃ y,b[e]? = some y:=⟨_,gE (hl ▸ au)⟩;rw [drop_cons hx,drop_cons hy] at aO;refine dI ?_;refine ⟨j2 x,⟨by omega,aT hx⟩,j2 y,⟨by omega,aT hy⟩,_,R6 _ _ x y,?_⟩;refine br ?_ ?_<;>intro h
   ·have bf:(decide (x.s=y.s) && decide (x.a=y.a))=false:=by grind
    refine (bF ?_:);rw [aO];simp only [eqWds,bf,Bool.false_and]
   ·have bf:(decide (x.s=y.s) && decide (x.a=y.a))=true:=by grind
    refine ⟨Om a b (e + 1),(bp (cY (aN au (by omega)))),a.length - (e + 1),by omega,e + 1,rfl,by omega,?_,rfl⟩;rw [aO];simp only [eqWds,bf,Bool.true_and]
  ·have hge:e=a.length:=by have:=h;simp [aC] at this;omega
   refine (bF ?_:);rw [aO,hge,hl];simp [eqWds];rw [<- hl];simp [eqWds]
theorem gR (a b:List Wd) (ha:wdsWt a<=1099511627776) (hb:wdsWt b<=1099511627776) :
  EvP prog 353 [.sl 2 (bG a) none,.sl 2 (bG b) none] (.v (.bool (sameWds a b))):=by
 have hl:=bu a;refine eG 10 [.tmp 4] func353 rfl ntmps353 rfl fun _ _ _ _=>?_;refine cP Uy (vT a ha) ?_;refine cP Uy (vT b hb) ?_;refine cP aay (D5 (iH a) (iH b) (by simp [iH];omega)) ?_;refine (bF ?_:);exact tv a b
def eqPts (F:Ph->Ty->Ph->Ty->Bool):Pts->Pts->Bool
 | .nil,.nil=>true
 | .cons p t r,.cons q u s=>F p t q u && eqPts F r s
 | _,_=>false
theorem zC {F:Ph->Ty->Ph->Ty->Bool}:∀ {a b:Pts},a.len≠b.len->eqPts F a b=false
 | .nil,.nil,h=>(h rfl).elim
 | .cons p t r,.cons q u s,h=>by
  simp only [eqPts];rw [zC (a:=r) (b:=s) (by simpa [Pts.len] using h),Bool.and_false]
 | .nil,.cons _ _ _,_=>rfl
 | .cons _ _ _,.nil,_=>rfl
def dg (p:Ph) (t:Ty) (q:Ph) (u:Ty):Bool:=decide (p.name.s=q.name.s) && cC p q && sameTy t u
theorem vV:∀ a b:Pts,eqPts dg a b=samePts a b
 | .nil,.nil=>by simp [eqPts,samePts]
 | .cons p t r,.cons q u s=>by simp only [eqPts,samePts,dg,vV r s]
 | .nil,.cons _ _ _=>by simp [eqPts,samePts]
 | .cons _ _ _,.nil=>by simp [eqPts,samePts]
abbrev On (a b:Pts) (g e:Nat):St:=
 ⟨[bh 1 18 (fL b),(2,⟨[],.fn g [] []⟩),bh 15 18 (fL a),ay 16 ((fL a).length),ay 17 e],[],[]⟩
theorem D6 (g:Nat) (ki:Enters prog g) (F:Ph->Ty->Ph->Ty->Bool) (a b:Pts) (hs:a.wt<=1099511627776)
  (hF:∀ (e:Nat) p t q u,a.toList[e]? = some (p,t)->b.toList[e]? = some (q,u)->EvP prog g [.agg (GX p (dX t)),.agg (GX q (dX u))] (.v (.bool (F p t q u)))) :
  EvP prog 372 [.sl 18 (fL a) none,.sl 18 (fL b) none,.fn g [] []] (.v (.bool (eqPts F a b))):=by
 have Na:=a.fK;refine eG 32 [.tmp 6] func372 rfl ntmps372 rfl fun _ _ _ _=>?_;refine br ?_ ?_<;>intro h
 ·have bf:a.len≠b.len:=by have:=h;simp [aH] at this;omega
  exact congrArg (fun b=>DV.v (.bool b)) (zC bf).symm
 ·have hl:a.len=b.len:=by have:=h;simp [aH] at this;omega
  refine aV (fun j st=>∃ e:Nat,st=On a b g e/\e<=a.len/\eqPts F a b=eqPts F (a.drop e) (b.drop e)/\j=a.len - e) a.len
   (On a b g 0) (bp wB) ⟨0,rfl,by omega,rfl,by omega⟩ ?_
  rintro j st ⟨e,rfl,he,aO,rfl⟩;refine br ?_ ?_<;>intro h
  ·have au:e < a.len:=by simpa [aH] using h
   obtain ⟨p,t,hx⟩:=Pts.eE au;obtain ⟨q,u,hy⟩:=Pts.eE (hl ▸ au);rw [Pts.drop_cons hx,Pts.drop_cons hy] at aO;have hev:=hF e p t q u hx hy;obtain ⟨t,ts⟩:=t;obtain ⟨u,us⟩:=u;refine iX (bQ hx) ?_;refine iX (bQ hy) ?_;refine cP ki hev ?_;refine br ?_ ?_<;>intro h
   ·have bf:F p (.mk t ts) q (.mk u us)=false:=sU h;refine (bF ?_:);rw [aO];simp only [eqPts,bf,Bool.false_and]
   ·have bf:F p (.mk t ts) q (.mk u us)=true:=sU h;refine ⟨On a b g (e + 1),(bp (cY (aN au (by omega)))),a.len - (e + 1),by omega,e + 1,rfl,by omega,?_,rfl⟩;rw [aO];simp only [eqPts,bf,Bool.true_and]
  ·have hge:e=a.len:=by have:=h;simp [aH] at this;omega
   refine (bF ?_:);rw [aO,hge,Pts.dn,hl,Pts.dn];simp [eqPts]
theorem nq (p q:Ph) (t u:Ty) (hp:p.wt<=1099511627776) (hq:q.wt<=1099511627776)
  (ht:EvP prog 354 [.agg (dX t),.agg (dX u)] (.v (.bool (sameTy t u)))) :
  EvP prog 327 [.agg (GX p (dX t)),.agg (GX q (dX u))] (.v (.bool (dg p t q u))):=by
 simp only [Ph.wt] at hp hq;obtain ⟨th,tps⟩:=t;obtain ⟨uh,ups⟩:=u;refine eG 71 [.tmp 4] func327 rfl ntmps327 rfl fun _ _ _ _=>?_
 have e0:dg p (.mk th tps) q (.mk uh ups)=(((decide (p.name.s=q.name.s) && (p.bare == q.bare)) && decide (p.wide=q.wide)) && sameWds p.label q.label && ((decide (p.ck=q.ck) && decide (p.cn=q.cn)) && sameWds p.cl q.cl) && sameTy (.mk th tps) (.mk uh ups)):=by
  simp only [dg,cC,Bool.and_assoc]
 rw [e0];refine br ?_ ?_<;>intro hA
 ·simp only [ai] at hA;refine cP JH (gR p.label q.label (by omega) (by omega)) ?_;refine br ?_ ?_<;>intro hB
  ·simp only [ai] at hB;refine cP JH (gR p.cl q.cl (by omega) (by omega)) ?_;refine br ?_ ?_<;>intro hC
   ·refine cP aar ht ?_;refine (bF ?_:);simp only [ai,Bool.true_and,Bool.and_true] at hC ⊢
    simp_all
   ·refine (bF ?_:);simp only [ai,Bool.true_and,Bool.and_true] at hC ⊢
    simp_all
  ·simp only [ai] at hB;refine br ?_ ?_<;>intro hC
   ·exfalso;simp [ai] at hC
   ·refine (bF ?_:)
    simp_all
 ·simp only [ai,beq_true] at hA;refine br ?_ ?_<;>intro hB
  ·refine cP JH (gR p.cl q.cl (by omega) (by omega)) ?_;refine (bF ?_:);rw [hA];rfl
  ·refine (bF ?_:);rw [hA];rfl
theorem zD:∀ (n:Nat) (a b:Ty),a.wt<=n->a.wt<=1099511627776->b.wt<=1099511627776 ->
  EvP prog 354 [.agg (dX a),.agg (dX b)] (.v (.bool (sameTy a b)))
 | 0,a,b,hn,_,_=>by have:=a.dy;omega
 | n + 1,.mk h ps,.mk k qs,hn,cw,aaP=>by
  have ih:=zD n;simp only [Ty.wt,Hd.wt] at hn cw aaP
  have hE:EvP prog 372 [.sl 18 (fL ps) none,.sl 18 (fL qs) none,.fn 327 [] []] (.v (.bool (samePts ps qs))):=by
   rw [<- vV];refine D6 327 N1 dg ps qs (by omega) fun e p t q u hx hy=>?_;have hw1:=Pts.gq (mG hx);have hw2:=Pts.gq (mG hy);exact nq p q t u (by omega) (by omega) (ih t u (by omega) (by omega) (by omega))
  refine eG 53 [.tmp 4] func354 rfl ntmps354 rfl fun _ _ _ _=>?_;refine br ?_ ?_<;>intro hA
  ·simp [aq] at hA;obtain ⟨⟨⟨⟨e1,e2⟩,e3⟩,e4⟩,e5⟩:=hA;refine cP JH (gR h.af k.af (by omega) (by omega)) ?_;refine br ?_ ?_<;>intro hB
   ·refine (bF ?_:);simp [aq,e1,e2,e3,e4,e5] at hB;simp [sameTy,kJ,hB]
   ·simp [aq,e1,e2,e3,e4,e5] at hB;refine cP aaz hE ?_;refine (bF ?_:);simp [sameTy,kJ,e1,e2,e3,e4,e5,hB]
  ·refine (bF ?_:);simp [aq] at hA;simp only [sameTy,kJ]
   grind
theorem vW (a b:Ty) (ha:a.wt<=1099511627776) (hb:b.wt<=1099511627776):EvP prog 354 [.agg (dX a),.agg (dX b)] (.v (.bool (sameTy a b))):=zD _ a b (aQ _) ha hb
def vX (h:Hd) (ps:Pts):Bool:=
 (((((decide (h.ag=2) || (decide (h.lo=0) && decide (h.hi=0))) && ((decide (h.ag=3) || decide (h.ag=5)) || decide (h.most=0))) && (decide (ps.len=0) || (decide (5<=h.ag) && decide (h.ag<=8)))) &&
  (decide (h.af.length=0) || decide (h.ag=4))) && (decide (h.name.s=av) || decide (h.ag=9)))
theorem Lb (h:Hd) (ps:Pts):EvP prog 253 [.agg (dX (.mk h ps))] (.v (.bool (vX h ps))):=by
 have l1:(((fL ps).length:Int)=0)=(ps.len=0):=by rw [aH];exact propext (by omega)
 have l2:(((bG h.af).length:Int)=0)=(h.af.length=0):=by rw [aC];exact propext (by omega)
 have he:(⟨#[]⟩:ByteArray)=av:=rfl;refine eG 67 [.tmp 2] func253 rfl ntmps253 rfl fun _ _ _ _=>?_;refine br ?_ ?_<;>intro k2
 ·have k2:h.ag=2:=of_decide_eq_true k2;refine (bF ?_:);rw [Bool.eq_iff_iff];simp [ai,aq,vX,aH,aC,k2,he]
 have k2:¬ h.ag=2:=of_decide_eq_false k2;refine br ?_ ?_<;>intro k3
 ·have k3:h.ag=3:=of_decide_eq_true k3;refine br (fun _=>?_) (fun hf=>?_)
  ·refine (bF ?_:);rw [Bool.eq_iff_iff];simp [ai,aq,vX,aH,aC,k3,he]
  ·exact absurd k3 (of_decide_eq_false hf)
 have k3:¬ h.ag=3:=of_decide_eq_false k3;refine br ?_ ?_<;>intro k5
 ·have k5:h.ag=5:=of_decide_eq_true k5;refine (bF ?_:);rw [Bool.eq_iff_iff];simp [ai,aq,vX,aH,aC,k5,he]
 have k5:¬ h.ag=5:=of_decide_eq_false k5;refine (bF ?_:);rw [Bool.eq_iff_iff];simp [ai,aq,vX,aH,aC,k2,k3,k5,he]
theorem Bz:∀ ps:Pts,samePts ps ps=true:=by
 have wr:∀ l:List Wd,sameWds l l=true:=by
  intro l
  induction l with
  | nil=>rfl
  | cons x r ih=>simp [sameWds,ih]
 have key:∀ n,(∀ t:Ty,t.wt<=n->sameTy t t=true)/\(∀ ps:Pts,ps.wt<=n->samePts ps ps=true):=by
  intro n
  induction n using Nat.strongRecOn with
  | _ n ih=>
   have hp:∀ ps:Pts,ps.wt<=n->(∀ t:Ty,t.wt + 256<=n->sameTy t t=true)->samePts ps ps=true:=by
    intro ps
    induction ps using Pts.rec (motive_1:=fun _=>True) with
    | mk=>trivial
    | nil=>intros;simp [samePts]
    | cons p t r _ ihr=>
     intro hw ht;simp only [Pts.wt,Ph.wt] at hw;simp only [samePts];rw [ht t (by omega),ihr (by omega) ht];simp [cC,wr]
   refine ⟨fun t ht=>?_,fun ps hps=>?_⟩
   ·obtain ⟨h,ps⟩:=t;simp only [Ty.wt,Hd.wt] at ht;simp only [sameTy,kJ]
    grind
   all_goals grind
 exact fun ps=>(key ps.wt).2 ps (aQ _)
theorem JL (h:Hd) (ps:Pts):vX h ps=sameTy (.mk h ps) (mask (.mk h ps)):=by
 have wr:∀ l:List Wd,sameWds l l=true:=by
  intro l
  induction l with
  | nil=>rfl
  | cons x r ih=>simp [sameWds,ih]
 have wn:∀ l:List Wd,sameWds l []=decide (l.length=0):=by
  intro l;cases l<;>simp [sameWds]
 have pn:∀ l:Pts,samePts l .nil=decide (l.len=0):=by
  intro l;cases l<;>simp [samePts,Pts.len]
 have pr:=Bz ps;simp only [mask,sameTy,kJ,jq];have e5:samePts ps (if 4 < h.ag/\h.ag < 9 then ps else .nil)=(decide (ps.len=0) || (decide (5<=h.ag) && decide (h.ag<=8))):=by grind
 have e6:sameWds h.af (if h.ag=4 then h.af else [])=(decide (h.af.length=0) || decide (h.ag=4)):=by grind
 grind [vX]
theorem D7 (p:Ph) (t:Ty) (hp:p.wt<=1099511627776):EvP prog 304 [.agg (GX p (dX t))] (.v (.bool (dg p cJ fp cJ))):=by
 obtain ⟨th,tps⟩:=t;refine eG 8 [.tmp 2] func304 rfl ntmps304 rfl fun _ _ _ _=>?_;refine cP N1 (nq p fp cJ cJ hp (by decide) (vW cJ cJ (by decide) (by decide))) ?_;exact (rfl:_=_)
def aA (l:List Wd):List ByteArray:=l.map fun w=>w.s
noncomputable def enumP (l:List Wd):Nat->Ft
 | 0=>(0,0)
 | e + 1=>
  if (enumP l e).1≠0 then enumP l e
  else match l[e]? with
   | some w=>gQ (aA (l.take (e + 1))) w.s w.a
   | none=>(0,0)
theorem pe {l:List Wd} {e:Nat} (h:(enumP l e).1≠0):∀ d,enumP l (e + d)=enumP l e
 | 0=>rfl
 | d + 1=>by
  have ih:=pe h d;rw [<- Nat.add_assoc,enumP,ih,ap h]
theorem BA {L:List ByteArray} {x:ByteArray} {a:Int} (h:(gQ L x a).1=0):gQ L x a=(0,0):=by
 unfold gQ at *
 grind
theorem G6 {l:List Wd}:∀ {e:Nat},(enumP l e).1=0->enumP l e=(0,0)
 | 0,_=>rfl
 | e + 1,h=>by
  rw [enumP] at h ⊢
  grind [BA]
theorem vY {l:List Wd} {e:Nat} {w:Wd} (h:(enumP l e).1=0) (hw:l[e]? = some w):enumP l (e + 1)=gQ (aA (l.take (e + 1))) w.s w.a:=by
 rw [enumP,aj (by rw [h];simp),hw]
noncomputable def nr (h:Hd):Ft:=
 if h.af.length=0 then (15,h.at') else if 64 < h.af.length then (8,((h.af[64]?).getD (⟨av,0⟩:Wd)).a) else enumP h.af h.af.length
abbrev Oo (h:Hd) (ps:Pts) (n e:Nat):St:=
 ⟨[aE 1 0,aE 2 1,bh 27 2 (bG h.af),ay 28 ((bG h.af).length),ay 29 e,(3,⟨[],.sl 1 (eV (aA (h.af.take e))) (some 0)⟩)],
  [dX (.mk h ps),[.v (.int .i64 0),.v (.int .i64 0)]],[⟨n,9,1,none⟩]⟩
theorem jI {l:List Wd} {e:Nat} {w:Wd} (h:l[e]? = some w):eV (aA (l.take e)) ++ [[DV.v (.string w.s)]]=eV (aA (l.take (e + 1))):=by
 rw [List.take_add_one,h];simp [eV,aA]
theorem G7 (h:Hd) (ps:Pts) (hs:wdsWt h.af<=1099511627776):EvP prog 254 [.agg (dX (.mk h ps))] (nr h).d:=by
 have hl:=bu h.af;refine eG 48 [.cell 2 44] func254 rfl ntmps254 rfl fun _ _ _ _=>?_;refine br ?_ ?_<;>intro h0
 ·have h0:h.af.length=0:=by have:=h0;simp [aC] at this;simp [this]
  refine cP ee (bA 15 h.at') ?_;refine ⟨_,?_,rfl⟩;rw [nr,ap h0];exact ax
 have h0:¬ h.af.length=0:=by have:=h0;simp [aC] at this;simpa using this
 refine br ?_ ?_<;>intro h1
 ·have h1:64 < h.af.length:=by have:=h1;simp [aC] at this;omega
  obtain ⟨x,hx⟩:∃ x,h.af[64]? = some x:=⟨_,gE h1⟩;refine ⟨j2 x,⟨by omega,aT hx⟩,?_⟩;refine cP ee (bA 8 x.a) ?_;refine ⟨_,?_,rfl⟩;rw [nr,aj h0,ap h1,hx];exact ax
 have h1:¬ 64 < h.af.length:=by have:=h1;simp [aC] at this;omega
 have hk:nr h=enumP h.af h.af.length:=by rw [nr,aj h0,aj h1]
 rw [hk];refine lI (fun j st=>∃ e:Nat,st=Oo h ps e e/\e<=h.af.length/\(enumP h.af e).1=0/\j=h.af.length - e) ⟨0,rfl,by omega,rfl,rfl⟩ (fU ⟨0,9,1,none⟩ rfl ⟨_,rfl⟩ rfl wA rfl rfl kj) ?_;rintro j st ⟨e,rfl,he,hz,rfl⟩;refine br ?_ ?_<;>intro hL
 ·have au:e < h.af.length:=by simpa [aC] using hL
  obtain ⟨w,hw⟩:=gX au;have Gz:=iE (mG hw);have mF:=vY hz hw;have Oq:(aA (h.af.take (e + 1)))[(aA (h.af.take (e + 1))).length - 1]? = some w.s:=by grind [aA]
  refine ⟨j2 w,⟨by omega,aT hw⟩,?_⟩;refine ⟨by simp [cg,aA];omega,⟨by simp [cg,aA,maxLen];omega,by simp [cg,aA];omega⟩,?_⟩;have ek:=jI hw;have VJ:=tu (aA (h.af.take (e + 1))) w.s w.a Oq (by simp [aA];omega) (by omega);rw [<- ek,<- mF] at VJ;refine cP Us VJ ?_;refine br ?_ ?_<;>intro hf
  ·have hf:(enumP h.af (e + 1)).1≠0:=sU hf;refine ⟨_,?_,rfl⟩;have aW:=pe hf (h.af.length - (e + 1));rw [show e + 1 + (h.af.length - (e + 1))=h.af.length by omega] at aW;rw [aW];exact ax
  ·have hf:(enumP h.af (e + 1)).1=0:=sU hf;refine ⟨Oo h ps (e + 1) (e + 1),(bp (iT (aN au (by omega)) ek)),h.af.length - (e + 1),by omega,e + 1,rfl,by omega,hf,rfl⟩
 ·have hge:e=h.af.length:=by
   have:=hL;simp [aC] at this;omega
  subst hge;have aW:=G6 hz;refine ⟨_,?_,rfl⟩;rw [aW];exact ax
def aaQ (t:Ty) (depth m:Int) (r:DV) (os:List (List DV)) (_:List TkE):Prop:=
 r=(wrong t depth m).1.d/\∃ z:Int,os=[[.v (.int .i64 z)]]/\((wrong t depth m).1.1=0->z=(wrong t depth m).2)
theorem Wv {t:Ty} {depth m:Int}:∀ r os tk,aaQ t depth m r os tk->clB 0 0 r=true/\∀ rB∈os,clB.clL 0 0 rB=true:=by
 rintro r os tk ⟨rfl,z,rfl,_⟩;refine ⟨rfl,fun rB h=>?_⟩;simp only [List.mem_singleton] at h;subst h;rfl
theorem Lc (t:Ty) (hc:Ev prog 199 [.loc 0 0,.agg (dX t),.v (.int .i64 1)] [[.v (.int .i64 0)]] [] (aaQ t 1 0)) :
  EvP prog 113 [.agg (dX t)] (wrong t 1 0).1.d:=by
 obtain ⟨h,ps⟩:=t;refine eG 9 [.cell 2 44] func113 rfl ntmps113 rfl fun _ _ _ _=>?_;refine l4 NQ rfl rfl ax ax hc Wv (fun r rB hr=>?_);obtain ⟨rfl,z,hz,_⟩:=hr;simp only [List.cons.injEq,and_true] at hz;subst hz;exact ⟨_,ax,rfl⟩
def kK (n:Nat):List UInt8:=if n < 10 then [UInt8.ofNat (48 + n)] else kK (n / 10) ++ [UInt8.ofNat (48 + n % 10)]
termination_by n
decreasing_by omega
theorem uN {n:Nat} (h:n < 10):kK n=[UInt8.ofNat (48 + n)]:=by rw [kK,ap h]
theorem BB {n:Nat} (h:¬ n < 10):kK n=kK (n / 10) ++ [UInt8.ofNat (48 + n % 10)]:=by rw [kK,aj h]
theorem D8:∀ (k n:Nat),n < 10 ^ (k + 1)->(kK n).length<=k + 1
 | 0,n,h=>by grind [uN]
 | k + 1,n,h=>by
  by_cases hn:n < 10
  ·rw [uN hn];simp
  ·rw [BB hn];have h2:n / 10 < 10 ^ (k + 1):=by omega
   have:=D8 k (n / 10) h2
   grind
theorem digs_20 {n:Nat} (h:n<=18446744073709551616):(kK n).length<=20:=D8 19 n (by omega)
def jE (z:Int):List UInt8:=if z < 0 then 45 :: kK z.natAbs else kK z.natAbs
def R7 (z:Int):ByteArray:=⟨(jE z).toArray⟩
theorem vZ {z:Int} (h1 : -9223372036854775808<=z) (h2:z<=9223372036854775807):(jE z).length<=21:=by grind [digs_20,jE]
theorem l9 (a b:List UInt8):(⟨a.toArray⟩:ByteArray) ++ ⟨b.toArray⟩=⟨(a ++ b).toArray⟩:=by
 apply ByteArray.ext;simp
theorem wr (z:Int) (h1 : -9223372036854775808<=z) (h2:z<=9223372036854775807):IntKind.i64.wrap z=z:=by
 rw [IntKind.wrap_i64];omega
theorem R8 {z:Int} (h:0<=z):jE z=kK z.toNat:=by grind [jE]
theorem Ot {z:Int} (h:z < 0):jE z=45 :: kK z.natAbs:=by unfold jE;rw [ap h]
theorem qw:∀ bs:List UInt8,u8L bs=bs.map fun b=>DV.v (.int .u8 (b.toNat:Int))
 | []=>rfl
 | b :: r=>by simp [u8L,qw r]
theorem BC (bs:List UInt8):(u8L bs).length=bs.length:=by simp [qw]
theorem JN (a b:List UInt8):u8L (a ++ b)=u8L a ++ u8L b:=by simp [qw]
theorem Ou (n:Nat) (a:List UInt8):u8L (a.take n)=(u8L a).take n:=by simp [qw,List.map_take]
theorem D9 (n:Nat) (a:List UInt8):u8L (a.drop n)=(u8L a).drop n:=by simp [qw,List.map_drop]
theorem JO {n m:Nat} {tk:List TkE}:∀ bs:List UInt8,WeL n m tk (u8L bs) (u8L bs)
 | []=>rfl
 | b :: r=>⟨_,_,rfl,az rfl,JO r⟩
theorem rX {n m:Nat} {tk:List TkE} {l:List DV} {bs:List UInt8} (h:l=u8L bs):WeL n m tk l (u8L bs):=by rw [h];exact JO bs
theorem Ov (n:Nat):0 < (kK n).length:=by
 rw [kK];split<;>simp
abbrev Ea (m:Bool) (u a:Nat) (bs:List UInt8):St:=⟨[DB 3 m,(4,⟨[],.v (.int .u64 u)⟩),aE 5 0,ay 6 a],[u8L bs],[]⟩
def Ww (m:Bool) (N j:Nat) (st:St):Prop:=∃ (u a:Nat) (bs:List UInt8),st=Ea m u a bs/\bs.length=20/\a<=20/\u < 18446744073709551616 /\
 ((a < 20/\u=0/\kK N=bs.drop a)∨((a=20∨0 < u)/\kK N=kK u ++ bs.drop a))/\j=a
theorem putI_0 (m:Bool) (N:Nat) (h:N < 18446744073709551616):Ww m N 20 (Ea m N 20 (List.replicate 20 0)):=
 ⟨N,20,_,rfl,by simp,aQ _,h,.inr ⟨.inl rfl,by simp⟩,rfl⟩
theorem Eb (z:Int) (h1 : -9223372036854775808<=z) (h2:z<=9223372036854775807):EvP prog 156 [.v (.int .i64 z)] (.v (.string (R7 z))):=by
 have hN:z.natAbs<=9223372036854775808:=by omega
 refine eG 38 [.tmp 2] func156 rfl ntmps156 rfl fun _ _ _ _=>?_;refine br ?_ ?_<;>intro h
 case' refine_1=>
  have hz:z < 0:=sU h
  have hu:IntKind.u64.wrap (0 - IntKind.u64.wrap z)=(z.natAbs:Int):=by
   simp only [IntKind.wrap_u64];omega
  refine aV (Ww (decide (z < 0)) z.natAbs) 20 (Ea (decide (z < 0)) z.natAbs 20 (List.replicate 20 0)) (Bd ⟨_,rfl⟩ (by repeat' (first | exact rfl | exact az rfl | exact rX rfl | refine ⟨_,_,rfl,?_,?_⟩)) rfl rfl rfl (by repeat' (first | exact trivial | exact az rfl | exact aD hu | exact rX rfl | refine ⟨⟨_,rfl,?_⟩,?_⟩))) (putI_0 _ _ (by omega)) ?_
 case' refine_2=>
  have hz:¬ z < 0:=sU h
  have hu:IntKind.u64.wrap z=(z.natAbs:Int):=by
   simp only [IntKind.wrap_u64];omega
  refine aV (Ww (decide (z < 0)) z.natAbs) 20 (Ea (decide (z < 0)) z.natAbs 20 (List.replicate 20 0)) (Bd ⟨_,rfl⟩ (by repeat' (first | exact rfl | exact az rfl | exact rX rfl | refine ⟨_,_,rfl,?_,?_⟩)) rfl rfl rfl (by repeat' (first | exact trivial | exact az rfl | exact aD hu | exact rX rfl | refine ⟨⟨_,rfl,?_⟩,?_⟩))) (putI_0 _ _ (by omega)) ?_
 all_goals
  clear hu hz h;rintro a st ⟨u,j,bs,rfl,hbl,ha,hu64,hinv,rfl⟩;refine br ?_ ?_<;>intro h
  ·have hc:a=20∨0 < u:=by
    simp [aq] at h;omega
   have hd:kK z.natAbs=kK u ++ bs.drop a:=by grind
   have hp:0 < a:=by grind [Ov,digs_20]
   have ha':IntKind.i64.wrap ((a:Int) - 1)=((a - 1:Nat):Int):=by rw [wr _ (by omega) (by omega)];omega
   have hb:IntKind.u8.wrap (48 + IntKind.u8.wrap ((u:Int).tmod 10))=((UInt8.ofNat (48 + u % 10)).toNat:Int):=by
    rw [Int.tmod_eq_emod_of_nonneg (by omega),UInt8.toNat_ofNat',IntKind.wrap_u8',IntKind.wrap_u8'];omega
   have hq:IntKind.u64.wrap ((u:Int).tdiv 10)=((u / 10:Nat):Int):=by
    rw [Int.tdiv_eq_ediv_of_nonneg (by omega),IntKind.wrap_u64];omega
   refine ⟨⟨rfl,by decide⟩,?_⟩;refine ⟨⟨by rw [ha'];omega,by rw [ha'];omega⟩,?_⟩;have ui:0 + (IntKind.i64.wrap ((a:Int) - 1)).toNat * 1=a - 1:=by rw [ha'];omega
   refine ⟨by rw [ui,BC,hbl];omega,?_⟩;refine ⟨⟨rfl,by decide⟩,?_⟩
   have hcs:(u8L bs).set (0 + (IntKind.i64.wrap ((a:Int) - 1)).toNat * 1) (DV.v (.int .u8 (IntKind.u8.wrap (48 + IntKind.u8.wrap ((u:Int).tmod 10)))))=u8L (bs.take (a - 1) ++ [UInt8.ofNat (48 + u % 10)] ++ bs.drop a):=by
    rw [ui,hb,List.set_eq_take_append_cons_drop,ap (by rw [BC,hbl];omega),JN,JN,Ou,D9,show a - 1 + 1=a by omega];simp [u8L]
   refine ⟨Ea (decide (z < 0)) (u / 10) (a - 1) (bs.take (a - 1) ++ [UInt8.ofNat (48 + u % 10)] ++ bs.drop a),(dj 1 (by repeat' (first | exact rfl | exact az rfl | exact rX hcs | exact aD ha' | exact aD hq | refine ⟨_,_,rfl,?_,?_⟩)) (by repeat' (first | exact trivial | exact az rfl | exact rX hcs | exact aD ha' | exact aD hq | refine ⟨⟨_,rfl,?_⟩,?_⟩))),a - 1,by omega,u / 10,a - 1,_,rfl,by simp;omega,by omega,by omega,?_,rfl⟩;have aaS:(bs.take (a - 1) ++ [UInt8.ofNat (48 + u % 10)] ++ bs.drop a).drop (a - 1)=UInt8.ofNat (48 + u % 10) :: bs.drop a:=by grind
   rw [aaS,hd];by_cases td:u < 10
   ·grind [uN]
   ·grind [BB]
  ·have hc:a≠20/\u=0:=by
    simp [aq] at h;omega
   have hd:kK z.natAbs=bs.drop a:=by grind
   have hdu:((u8L bs).drop (0 + (a:Int).toNat * 1)).take (((20:Nat):Int).toNat - (a:Int).toNat)=u8L (bs.drop a):=by grind [D9,BC]
   have hl:(bs.drop a).length=((20:Nat):Int).toNat - (a:Int).toNat:=by simp [hbl]
   refine br ?_ ?_<;>intro hz
   ·have hz:z < 0:=sU hz;refine ⟨⟨by omega,by omega,by omega⟩,?_⟩;refine ⟨bs.drop a,hdu,hl,?_⟩;refine ⟨by show 1 + (bs.drop a).length<=_;rw [hl];omega,?_⟩;refine (congrArg (fun s=>DV.v (.string s)) ?_:_=_);rw [<- hd,R7,Ot hz];exact l9 [45] _
   ·have hz:¬ z < 0:=sU hz;refine ⟨⟨by omega,by omega,by omega⟩,?_⟩;refine ⟨bs.drop a,hdu,hl,?_⟩;refine (congrArg (fun s=>DV.v (.string s)) ?_:_=_);rw [<- hd,R7,R8 (by omega),show z.toNat=z.natAbs by omega]
abbrev ba (l:List UInt8):ByteArray:=⟨l.toArray⟩
def tx (s:ByteArray):List UInt8:=s.data.toList
theorem pf {s:ByteArray} {l:List UInt8} (h:tx s=l):s=ba l:=by
 subst h;apply ByteArray.ext;simp [tx]
theorem Ow (s t:ByteArray):tx (s ++ t)=tx s ++ tx t:=by simp [tx]
theorem qx (l:List UInt8):tx (ba l)=l:=by simp [tx]
theorem UG (a:Array UInt8):tx ⟨a⟩=a.toList:=rfl
theorem zE (s:ByteArray):ba (tx s)=s:=(pf rfl).symm
theorem cE (s:ByteArray):(tx s).length=s.size:=by simp [tx]
theorem j4 (s t:ByteArray):(s ++ t).size=s.size + t.size:=by simp
theorem v7 (l:List UInt8):(ba l).size=l.length:=rfl
def joinT (f s:List UInt8):List (List UInt8)->List UInt8
 | []=>[]
 | x :: r=>f ++ x ++ r.flatMap fun y=>s ++ y
theorem G8 (f s:List UInt8) (x:List UInt8):∀ l:List (List UInt8),joinT f s (l ++ [x])=joinT f s l ++ (if l.length=0 then f else s) ++ x
 | []=>by simp [joinT]
 | y :: r=>by simp [joinT,List.flatMap_append]
def mH (z:Int):Prop:=-9223372036854775808<=z/\z<=9223372036854775807
theorem Ox {n m:Nat} {bX:List TkE} {x y:ByteArray} (h:x=y):We n m bX (.v (.string x)) (.v (.string y)):=.inl ⟨by rw [h],rfl⟩
theorem G9 {f s:List UInt8} {l:List (List UInt8)} {e:Nat} {x:List UInt8} (h:l[e]? = some x):joinT f s (l.take (e + 1))=joinT f s (l.take e) ++ (if e=0 then f else s) ++ x:=by
 have au:=(gS h).1;rw [List.take_add_one,h,Option.toList_some,G8]
 grind
end Go.Proofs.YtgjagnmeonoehaaGreat
set_option maxRecDepth 100000
namespace Go.Proofs
open Go.Shelf
def Tryz.lays156_ren:Go.Shelf.Ren:=⟨fun | 156=>227 | 165=>267 | 166=>74 | 169=>76 | 240=>149 | 241=>312 | 276=>217 | 277=>346 | n=>n,fun | 31=>73 | 9=>9 | 3=>3 | 4=>4 | 0=>0 | 20=>20 | 72=>160 | 76=>163 | 70=>157 | 37=>158 | 75=>162 | 127=>258 | 164=>316 | 5=>5 | 80=>166 | n=>n,fun | n=>n⟩
theorem Tryz.lays156:Go.Proofs.Lays.n156 prog Tryz.lays156_ren:={
 mixed:=by kernel_rfl
 f156:=func227.trans (congrArg some (by kernel_rfl))
 f165:=func267.trans (congrArg some (by kernel_rfl))
 f166:=func74.trans (congrArg some (by kernel_rfl))
 f169:=func76.trans (congrArg some (by kernel_rfl))
 f240:=func149.trans (congrArg some (by kernel_rfl))
 f241:=func312.trans (congrArg some (by kernel_rfl))
 f276:=func217.trans (congrArg some (by kernel_rfl))
 f277:=func346.trans (congrArg some (by kernel_rfl))
 t0:=Tryz.underlying0
 a0:=Tryz.isAgg0
 z0:=Tryz.sizeOf0
 v0:=Tryz.zeroValue0
 t3:=Tryz.underlying3
 a3:=Tryz.isAgg3
 z3:=Tryz.sizeOf3
 v3:=Tryz.zeroValue3
 t4:=Tryz.underlying4
 a4:=Tryz.isAgg4
 z4:=Tryz.sizeOf4
 v4:=Tryz.zeroValue4
 t9:=Tryz.underlying9
 a9:=Tryz.isAgg9
 z9:=Tryz.sizeOf9
 v9:=Tryz.zeroValue9
 t20:=Tryz.underlying20
 a20:=Tryz.isAgg20
 z20:=Tryz.sizeOf20
 v20:=Tryz.zeroValue20
 t31:=Tryz.underlying73
 a31:=Tryz.isAgg73
 z31:=Tryz.sizeOf73
 v31:=Tryz.zeroValue73
 t37:=Tryz.underlying158
 a37:=Tryz.isAgg158
 z37:=Tryz.sizeOf158
 v37:=Tryz.zeroValue158
 t70:=Tryz.underlying157
 a70:=Tryz.isAgg157
 z70:=Tryz.sizeOf157
 v70:=Tryz.zeroValue157
 t72:=Tryz.underlying160
 a72:=Tryz.isAgg160
 z72:=Tryz.sizeOf160
 v72:=Tryz.zeroValue160
 t75:=Tryz.underlying162
 a75:=Tryz.isAgg162
 z75:=Tryz.sizeOf162
 v75:=Tryz.zeroValue162
 t76:=Tryz.underlying163
 a76:=Tryz.isAgg163
 z76:=Tryz.sizeOf163
 v76:=Tryz.zeroValue163
 t127:=Tryz.underlying258
 a127:=Tryz.isAgg258
 z127:=Tryz.sizeOf258
 v127:=Tryz.zeroValue258
 t164:=Tryz.underlying316
 a164:=Tryz.isAgg316
 z164:=Tryz.sizeOf316
 v164:=Tryz.zeroValue316 }
theorem Tryz.Builder_Extra_156:Builder.Extra prog Tryz.lays156_ren:={
 sizeBuilder:=by kernel_rfl
 liesBuilder:=by kernel_rfl
 t5:=Tryz.underlying5
 a5:=Tryz.isAgg5
 z5:=Tryz.sizeOf5
 v5:=Tryz.zeroValue5
 infoByte:=by kernel_rfl
 cellsByte:=by kernel_rfl
 sizeByte:=by kernel_rfl
 neB5:=by decide }
end Go.Proofs
namespace Go.Proofs.YtgjagnmeonoehaaGreat
open Go Go.RowKit Dv Go.Proofs.Tryz
theorem zG {P:Program} {f:FuncId} {args:List DV} {d:DV}
  (h:∀ (E:En) (w:World) (vs:List Value),Env E [] w->RvL E args vs->Calls P f vs.toArray w fun e w'=>∃ v,e = .returned v/\Rv E d v/\Below w.heap.size w w'):EvP P f args d:=by
 intro E w vs hE ig hv;refine (h E w vs hE hv).mono ?_;rintro e w' ⟨v,rfl,hr,hb⟩;exact ⟨v,rfl,⟨hb.os,hb.tape,hb.output,hb.size,fun k hk _=>hb.block k hk⟩,fun hf=>(by cases hf),d,[],E,hE.kF hb.block,rfl,rfl,Nw.refl hE,hr,rfl⟩
def fH (l:List (List UInt8)):List (List DV):=l.map fun x=>[.v (.string (ba x))]
theorem k0 (l:List (List UInt8)):(fH l).length=l.length:=by simp [fH]
theorem Ec {E:En}:∀ {ls:List (List UInt8)} {arr:List Value},RvL E (fH ls).flatten arr->arr=ls.map fun x=>Value.string (ba x)
 | [],arr,h=>by simpa [fH,RvL] using h
 | x :: r,arr,h=>by
  simp only [fH,List.map_cons,List.flatten_cons,List.cons_append,List.nil_append,RvL] at h;obtain ⟨v,s,rfl,h1,h2⟩:=h;unfold Rv at h1;rw [h1.1,Ec (ls:=r) h2];rfl
theorem Ld (s:List UInt8):∀ l:List (List UInt8),joinT [] s l=Lib.join l s
 | []=>rfl
 | x :: r=>by
  rw [Lib.join_cons];simp [joinT,Lib.joinTail,List.flatMap]
theorem Le (ls:List (List UInt8)) (sep:ByteArray) (hN:ls.length<=140737488355328) (hlen:(joinT [] (tx sep) ls).length<=140737488355328) :
  EvP prog 227 [.sl 1 (fH ls) none,.v (.string sep)] (.v (.string (ba (joinT [] (tx sep) ls)))):=by
 refine zG fun E w vs hE hv=>?_;simp only [RvL] at hv;obtain ⟨v1,s1,rfl,h1,v2,s2,rfl,h2,rfl⟩:=hv;have h2:=bq h2;subst h2;unfold Rv at h1;obtain ⟨b,n,cap,rfl,⟨rfl,A9⟩,hr,_⟩:=h1;rw [k0] at A9;rw [Ld] at hlen ⊢
 have hd:(ls.map ba).map (·.data.toList)=ls:=by
  rw [List.map_map]
  conv=>rhs;rw [<- List.map_id ls]
  rfl
 by_cases bf:ls=[]
 ·subst bf;refine (Any.strings_Join_none Tryz.lays156 Tryz.Builder_Extra_156 b cap sep w).mono ?_;rintro e w' ⟨rfl,rfl⟩;exact ⟨_,rfl,fB rfl,Below.refl _ _⟩
 ·have VK:fH ls ≠ []:=by grind [k0]
  obtain ⟨bI,gL⟩:=hr VK;obtain ⟨arr,ha1,M9,RD⟩:=gL.uf;have G1:=Ec ha1.1;have hb:=lQ bI
  have ko:∀ (j:Nat) x,(ls.map ba)[j]? = some x->w.cell? ⟨ab b,ao b + j,none⟩=some (.string x):=by
   intro j x hx;refine hE.sub _ _ (RD j _ ?_);rw [G1];rw [List.getElem?_map] at hx ⊢
   cases hl:ls[j]? with
   | none=>rw [hl] at hx;cases hx
   | some y=>rw [hl] at hx;simp only [Option.map_some,oI] at hx ⊢;rw [hx]
  have nu:ab b < w.heap.size:=by
   cases hl:ls with
   | nil=>exact (bf hl).elim
   | cons y r=>exact World.block_lt_of_cell? w _ (ko 0 (ba y) (by rw [hl];rfl))
  rw [hb,k0];have hJ:=Any.strings_Join Tryz.lays156 Tryz.Builder_Extra_156 (ab b) (ao b) cap (ls.map ba) sep w ko nu (sU hN) (sU A9) (by rw [hd];exact hlen);rw [hd,List.length_map] at hJ;refine hJ.mono ?_;rintro e w' ⟨rfl,GL⟩;exact ⟨_,rfl,fB rfl,GL⟩
end Go.Proofs.YtgjagnmeonoehaaGreat
set_option maxRecDepth 100000
namespace Go.Proofs.YtgjagnmeonoehaaGreat
open Go Go.RowKit Dv Go.Proofs.Tryz
theorem Ha {L:List (List UInt8)} {e:Nat} {s:ByteArray} (h:L[e]? = some (tx s)):fH (L.take e) ++ [[DV.v (.string s)]]=fH (L.take (e + 1)):=by
 rw [List.take_add_one,h];simp [fH,zE]
mutual
def rngT:Ty->Prop
 | .mk h ps=>mH h.lo/\mH h.hi/\mH h.most/\rngP ps
def rngP:Pts->Prop
 | .nil=>True
 | .cons p t r=>mH p.wide/\mH p.cn/\rngT t/\rngP r
end
end Go.Proofs.YtgjagnmeonoehaaGreat
namespace Go.Proofs.YtgjagnmeonoehaaGreat
namespace Dv
open Go Go.RowKit
def TypFs (f:TypeId->List DV->Prop):List TypeId->List DV->Prop
 | [],ds=>ds=[]
 | t :: r,ds=>∃ a b,ds=a ++ b/\f t a/\TypFs f r b
def Typ (P:Program):Nat->TypeId->List DV->Prop
 | 0,_,_=>False
 | n + 1,t,ds=>
  match P.underlying t with
  | some .bool=>∃ b,ds=[.v (.bool b)]
  | some (.int k)=>∃ z,ds=[.v (.int k z)]/\(Lit.int k z).wf=true
  | some .string=>∃ s:ByteArray,ds=[.v (.string s)]
  | some (.slice e)=>∃ es,ds=[.sl (P.cellsOf e) es none]/\∀ cs∈es,Typ P n e cs
  | some (.struct fs)=>TypFs (Typ P n) (fs.toList.map (·.type)) ds
  | _=>False
mutual
def wgD:DV->Nat
 | .v (.string s)=>s.size + 64
 | .sl _ es _=>64 + wgEs es
 | _=>64
def wgL:List DV->Nat
 | []=>0
 | d :: r=>wgD d + wgL r
def wgEs:List (List DV)->Nat
 | []=>0
 | cs :: r=>wgL cs + wgEs r
end
theorem cM:∀ a b:List DV,wgL (a ++ b)=wgL a + wgL b
 | [],b=>by simp [wgL]
 | d :: r,b=>by simp only [List.cons_append,wgL,cM r b];omega
def laidF (P:Program) (S:List TypeId):Nat->List Field->Nat->Bool
 | off,[],n=>decide (off=n)
 | off,f :: r,n=>decide (f.offset=off) && S.contains f.type && laidF P S (off + P.cellsOf f.type) r n
def kL (P:Program) (S:List TypeId) (t:TypeId):Bool:=
 match P.underlying t with
 | some .bool=>decide (P.cellsOf t=1)
 | some (.int _)=>decide (P.cellsOf t=1)
 | some .string=>decide (P.cellsOf t=1)
 | some (.slice e)=>decide (P.cellsOf t=1) && S.contains e && decide (0 < P.cellsOf e)
 | some (.struct fs)=>laidF P S 0 fs.toList (P.cellsOf t)
 | _=>false
def bkS {H:Type} (bk:DataW H->Nat):List (DataW H)->Nat
 | []=>0
 | d :: r=>bk d + bkS bk r
structure Bk {H:Type} (bk:DataW H->Nat):Prop where
 str:∀ l:List UInt8,l.length + 1<=bk (.lit (.string l))
 lit:∀ l,1<=bk (.lit l)
 nil:1<=bk .nil
 slice:∀ es sp,1 + bkS bk es<=bk (.slice es sp)
 agg:∀ l,bkS bk l<=bk (.agg l)
def GA (w:World):En:=⟨fun a=>w.cell? a,[],[],[]⟩
theorem R9 (w:World):Env (GA w) [] w where
 len:=rfl
 tl:=rfl
 bxs:=by simp
 inj:=List.nodup_nil
 sub:=fun x u hx=>hx
 pc:=by simp [GA]
 bY:=by simp [GA]
 ji:=by simp [GA]
theorem Lf {w:World} {a:Addr} {k:Nat} {v:Value} (h:w.cell? (a.add k)=some v):w.cell? ⟨a.block,a.off + k,none⟩=some v:=by
 unfold Addr.add at h;split at h
 ·rename_i hk;subst hk;unfold World.cell? at h ⊢;split at h
  ·rename_i c e z he;split at h
   ·cases h
   ·simpa [he] using h
  ·cases h
 ·exact h
theorem Lg {w:World} {a:Addr} {v:Value} (h:w.cell? a=some v):a.spot=none:=by
 unfold World.cell? at h;split at h
 ·split at h
  ·cases h
  ·rename_i hs;simpa using hs
 ·cases h
theorem v8 {E:En} {b:Nat}:∀ {p:Nat} {ds:List DV} {vs:List Value},RvL E.cl ds vs->(∀ (j:Nat) v,vs[j]? = some v->E.c ⟨b,p + j,none⟩=some v/\v.oneCell'=true)->RvAt E.cl b p ds
 | p,[],vs,h,hc=>by simp only [RvAt]
 | p,d :: r,vs,h,hc=>by
  simp only [RvL] at h;obtain ⟨v,s,rfl,h1,h2⟩:=h;simp only [RvAt];obtain ⟨c1,c2⟩:=hc 0 v rfl;refine ⟨⟨v,c1,c2,h1⟩,v8 (p:=p + 1) h2 fun j u hj=>?_⟩;have:=hc (j + 1) u hj;rw [show p + 1 + j=p + (j + 1) by omega];exact this
section
variable {H:Type} {enc:TypeId × Value->H} {P:Program} {w:World} {sp:Nat->Bool} {held:Bool} {S:List TypeId} {bk:DataW H->Nat}
def Rd (enc:TypeId × Value->H) (P:Program) (w:World) (bk:DataW H->Nat) (n:Nat) (t:TypeId) (cs:List Value) (d:DataW H):Prop:=
 ∃ ds,RvL (GA w) ds cs/\(∀ v∈cs,v.oneCell'=true)/\Typ P n t ds/\wgL ds<=64 * bk d/\cs.length=P.cellsOf t
theorem zH {n:Nat} (ih:∀ t cs x,t∈S->DataW.trod enc P w 0 sp held n t cs=some x->Rd enc P w bk n t cs x.1) (cs:List Value) :
  ∀ (fs:List Field) (off:Nat) (xs:List (DataW H × List MemPlace)),laidF P S off fs cs.length=true->xs.length=fs.length ->
   (∀ (i:Nat) f,fs[i]? = some f->DataW.trod enc P w 0 sp held n f.type ((cs.drop f.offset).take (P.cellsOf f.type))=xs[i]?) ->
   ∃ ds,RvL (GA w) ds (cs.drop off)/\(∀ v∈cs.drop off,v.oneCell'=true)/\TypFs (Typ P n) (fs.map (·.type)) ds/\wgL ds<=64 * bkS bk (xs.map (·.1))
 | [],off,xs,hl,yx,hx=>by
  simp only [laidF,decide_eq_true_eq] at hl;subst hl;simp only [List.length_nil,List.length_eq_zero_iff] at yx;subst yx;exact ⟨[],by simpa using cA _,by simp,by simp [TypFs],by simp [wgL]⟩
 | f :: r,off,xs,hl,yx,hx=>by
  simp only [laidF,aP,decide_eq_true_eq] at hl;obtain ⟨⟨UH,hS⟩,hl⟩:=hl
  match xs,yx with
  | x :: xs,yx=>
   have h0:=hx 0 f rfl;rw [UH] at h0;simp only [List.getElem?_cons_zero] at h0;obtain ⟨ds0,r1,r2,r3,r4,r5⟩:=ih f.type _ x (sU hS) h0;obtain ⟨ds1,s1,s2,s3,s4⟩:=zH ih cs r (off + P.cellsOf f.type) xs hl (sU yx) (fun i g hg=>by simpa using hx (i + 1) g (sU hg))
   have Oy:cs.drop off=(cs.drop off).take (P.cellsOf f.type) ++ cs.drop (off + P.cellsOf f.type):=by
    rw [<- List.drop_drop,List.take_append_drop]
   refine ⟨ds0 ++ ds1,?_,?_,?_,?_⟩
   ·rw [Oy];exact RvL.append r1 s1
   ·rw [Oy];intro v hv;rcases List.mem_append.1 hv with hv | hv
    ·exact r2 v hv
    ·exact s2 v hv
   ·simp only [List.map_cons,TypFs];exact ⟨ds0,ds1,rfl,r3,s3⟩
   ·rw [cM];simp only [List.map_cons,bkS];omega
theorem Ee {n e:Nat} (ih:∀ t cs x,t∈S->DataW.trod enc P w 0 sp held n t cs=some x->Rd enc P w bk n t cs x.1) (he:e∈S) (a:Addr) :
  ∀ (xs:List (DataW H × List MemPlace)) (i0:Nat),(∀ i,i < xs.length->(w.cells? 0 (a.add ((i0 + i) * P.cellsOf e)) (P.cellsOf e)).bind (DataW.trod enc P w 0 sp held n e)=xs[i]?) ->
   ∃ es,es.length=xs.length/\RvEs (GA w) (P.cellsOf e) a.block (a.off + i0 * P.cellsOf e) es/\(∀ cs∈es,Typ P n e cs)/\wgEs es<=64 * bkS bk (xs.map (·.1))
 | [],i0,hx=>⟨[],rfl,by simp only [RvEs],by simp,by simp [wgEs]⟩
 | x :: xs,i0,hx=>by
  have h0:=hx 0 (by simp);simp only [Nat.add_zero,List.getElem?_cons_zero] at h0;obtain ⟨cs,hcs,ht⟩:=Option.bind_eq_some_iff.1 h0;obtain ⟨_,hlen,ko⟩:=World.cells?_some hcs;obtain ⟨ds0,r1,r2,r3,r4,r5⟩:=ih e cs x he ht
  obtain ⟨es,s1,s2,s3,s4⟩:=Ee ih he a xs (i0 + 1) (fun i hi=>by
   have:=hx (i + 1) (sU hi);simp only [List.getElem?_cons_succ] at this;rw [show i0 + 1 + i=i0 + (i + 1) by omega]
   exact this)
  refine ⟨ds0 :: es,by simp [s1],?_,?_,?_⟩
  ·simp only [RvEs];refine ⟨by rw [<- r1.length,hlen],v8 (E:=GA w) r1 fun j v hj=>⟨?_,r2 v (mG hj)⟩,?_⟩
   ·have pO:j < P.cellsOf e:=by rw [<- hlen];exact (gS hj).1
    have h1:=ko j pO;rw [hj,Deep.add_add] at h1;have h2:=Lf h1;show w.cell? _=_;rw [Nat.add_assoc];exact h2
   ·rw [Nat.add_assoc,show i0 * P.cellsOf e + P.cellsOf e=(i0 + 1) * P.cellsOf e by rw [Nat.add_mul,Nat.one_mul]];exact s2
  ·intro cs' hc;rcases cO hc with hc | hc
   ·subst hc;exact r3
   ·exact s3 cs' hc
  ·simp only [wgEs,List.map_cons,bkS];omega
theorem uO (nu:Bk bk) (hS:∀ t∈S,kL P S t=true):∀ (n:Nat) (t:TypeId) (cs:List Value) (x:DataW H × List MemPlace),t∈S->DataW.trod enc P w 0 sp held n t cs=some x->Rd enc P w bk n t cs x.1
 | 0,t,cs,x,_,h=>by simp [DataW.trod] at h
 | n + 1,t,cs,x,ht,h=>by
  have hf:=hS t ht;unfold kL at hf;unfold Rd
  cases hu:P.underlying t with
  | none=>rw [hu] at hf;cases hf
  | some D=>
   rw [hu] at hf
   cases D with
   | bool=>
    simp only [decide_eq_true_eq] at hf;obtain ⟨b,rfl,rfl⟩:=DataW.trod_bool hu h;have:=nu.lit (.bool b);exact ⟨[.v (.bool b)],rvL_one (by unfold Rv;exact ⟨rfl,rfl⟩),by simp [Value.oneCell'],by simp only [Typ,hu];exact ⟨b,rfl⟩,by simp only [wgL,wgD];omega,by simp [hf]⟩
   | int k=>
    simp only [decide_eq_true_eq] at hf;obtain ⟨z,rfl,rfl,hw⟩:=DataW.trod_int hu h;have:=nu.lit (.int k z);exact ⟨[.v (.int k z)],rvL_one (by unfold Rv;exact ⟨rfl,rfl⟩),by simp [Value.oneCell'],by simp only [Typ,hu];exact ⟨z,rfl,hw⟩,by simp only [wgL,wgD];omega,by simp [hf]⟩
   | string=>
    simp only [decide_eq_true_eq] at hf;obtain ⟨s,rfl,rfl,hw⟩:=DataW.trod_string hu h;have:=nu.str s.data.toList;have bZ:s.data.toList.length=s.size:=by rw [Array.length_toList];all_goals rfl
    exact ⟨[.v (.string s)],rvL_one (by unfold Rv;exact ⟨rfl,rfl⟩),by simp [Value.oneCell'],by simp only [Typ,hu];exact ⟨s,rfl⟩,by simp only [wgL,wgD];omega,by simp [hf]⟩
   | slice e=>
    simp only [aP,decide_eq_true_eq] at hf;obtain ⟨⟨JP,yG⟩,hf3⟩:=hf;rcases DataW.trod_slice hu h with ⟨rfl,rfl⟩ | ⟨a,len,cap,elems,rest,m,hm,rfl,rfl,_,XY,_,oJ,hx,_,_⟩
    ·have:=nu.nil;refine ⟨[.sl (P.cellsOf e) [] none],rvL_one ?_,by simp [Value.oneCell'],by simp only [Typ,hu];exact ⟨[],rfl,by simp⟩,by simp only [wgL,wgD,wgEs];omega,by simp [JP]⟩;unfold Rv;exact ⟨none,0,0,rfl,⟨rfl,aQ _⟩,fun hc=>absurd rfl hc,fun k hk=>by cases hk⟩
    ·simp only [Nat.add_right_cancel_iff] at hm;subst hm;obtain ⟨es,s1,s2,s3,s4⟩:=Ee (fun t cs x=>uO nu hS n t cs x) (sU yG) a elems 0 (fun i hi=>by simpa using hx i (by omega));have hb:=nu.slice (elems.map (·.1)) (rest.map (·.1));refine ⟨[.sl (P.cellsOf e) es none],rvL_one ?_,by simp [Value.oneCell'],by simp only [Typ,hu];exact ⟨es,rfl,s3⟩,by simp only [wgL,wgD];omega,by simp [JP]⟩;unfold Rv;refine ⟨some a,len,cap,rfl,⟨by omega,XY⟩,fun bf=>⟨?_,?_⟩,fun k hk=>by cases hk⟩
     ·have jX:0 < len:=by
       rw [<- oJ,<- s1];exact List.length_pos_iff.2 bf
      have h0:=hx 0 jX;rw [gE (by omega)] at h0;obtain ⟨cs,hcs,_⟩:=Option.bind_eq_some_iff.1 h0;obtain ⟨_,hlen,ko⟩:=World.cells?_some hcs;have h1:=ko 0 hf3;rw [gE (by omega),Deep.add_add] at h1;simp only [Nat.zero_mul,Nat.add_zero] at h1;exact Lg (a:=a) h1
     ·have s2':RvEs (GA w) (P.cellsOf e) a.block a.off es:=sU s2;exact s2'
   | struct fs=>
    obtain ⟨xs,m,hm,rfl,hlen,yx,hx⟩:=DataW.trod_struct hu h;simp only [Nat.add_right_cancel_iff] at hm;subst hm;simp only at hf;obtain ⟨ds,s1,s2,s3,s4⟩:=zH (fun t cs x=>uO nu hS n t cs x) cs fs.toList 0 xs (by rw [hlen];exact hf) (sU yx) (fun i f hi=>hx i f (sU hi));have hb:=nu.agg (xs.map (·.1));refine ⟨ds,by simpa using s1,by simpa using s2,by simp only [Typ,hu];exact s3,by simp only;omega,hlen⟩
   | _=>cases hf
end
theorem JQ {P:Program} {n:Nat} {t:TypeId} {k:IntKind} {ds:List DV} (hu:P.underlying t=some (.int k)) (h:Typ P n t ds):∃ z,ds=[.v (.int k z)]/\(Lit.int k z).wf=true:=by
 cases n with
 | zero=>exact h.elim
 | succ n=>simp only [Typ,hu] at h;exact h
theorem Oz {P:Program} {n:Nat} {t:TypeId} {ds:List DV} (hu:P.underlying t=some .bool) (h:Typ P n t ds):∃ b,ds=[.v (.bool b)]:=by
 cases n with
 | zero=>exact h.elim
 | succ n=>simp only [Typ,hu] at h;exact h
theorem uP {P:Program} {n:Nat} {t:TypeId} {ds:List DV} (hu:P.underlying t=some .string) (h:Typ P n t ds):∃ s:ByteArray,ds=[.v (.string s)]:=by
 cases n with
 | zero=>exact h.elim
 | succ n=>simp only [Typ,hu] at h;exact h
theorem ma {P:Program} {n:Nat} {t e:TypeId} {ds:List DV} (hu:P.underlying t=some (.slice e)) (h:Typ P n t ds):∃ m es,n=m + 1/\ds=[.sl (P.cellsOf e) es none]/\∀ cs∈es,Typ P m e cs:=by
 cases n with
 | zero=>exact h.elim
 | succ n=>
  simp only [Typ,hu] at h;obtain ⟨es,h1,h2⟩:=h;exact ⟨n,es,rfl,h1,h2⟩
theorem jr {P:Program} {n:Nat} {t:TypeId} {fs:Array Field} {ds:List DV} (hu:P.underlying t=some (.struct fs)) (h:Typ P n t ds):∃ m,n=m + 1/\TypFs (Typ P m) (fs.toList.map (·.type)) ds:=by
 cases n with
 | zero=>exact h.elim
 | succ n=>
  simp only [Typ,hu] at h;exact ⟨n,rfl,h⟩
theorem wf_i64 {z:Int} (h:(Lit.int .i64 z).wf=true) : -9223372036854775808<=z/\z<=9223372036854775807:=by
 simpa [Lit.wf,IntKind.min,IntKind.max,IntKind.signed,IntKind.bits] using h
end Dv
end Go.Proofs.YtgjagnmeonoehaaGreat
set_option maxRecDepth 100000
namespace Go.Proofs.YtgjagnmeonoehaaGreat
open Go Go.RowKit Dv Go.Proofs.Tryz
theorem Hb:prog.cellsOf 27=2:=by kernel_rfl
theorem Hc:prog.cellsOf 109=18:=by kernel_rfl
theorem rY {n:Nat} {ds:List DV} (h:Typ prog n 27 ds):∃ w:Wd,ds=j2 w/\w.wt<=wgL ds:=by
 obtain ⟨m,_,hf⟩:=jr Tryz.underlying27 h;obtain ⟨a,b,rfl,h1,c,d,rfl,h2,rfl⟩:=hf;obtain ⟨s,rfl⟩:=uP Tryz.underlying9 h1;obtain ⟨z,rfl,_⟩:=JQ Tryz.underlying3 h2;exact ⟨⟨s,z⟩,rfl,by simp [wgL,wgD,Wd.wt]⟩
theorem OA:∀ {m:Nat} {es:List (List DV)},(∀ cs∈es,Typ prog m 27 cs)->∃ l:List Wd,es=bG l/\wdsWt l<=wgEs es
 | m,[],h=>⟨[],rfl,by simp [wdsWt,wgEs]⟩
 | m,cs :: r,h=>by
  obtain ⟨w,rfl,hw⟩:=rY (h cs (by simp));obtain ⟨l,rfl,hl⟩:=OA (m:=m) (es:=r) (fun c hc=>h c (gC _ hc));exact ⟨w :: l,rfl,by simp only [wdsWt,wgEs];omega⟩
theorem qy {n:Nat} {ds:List DV} (h:Typ prog n 22 ds):∃ l:List Wd,ds=[.sl 2 (bG l) none]/\64 + wdsWt l<=wgL ds:=by
 obtain ⟨m,es,_,rfl,he⟩:=ma Tryz.underlying22 h;obtain ⟨l,rfl,hl⟩:=OA he;rw [Hb];exact ⟨l,rfl,by simp only [wgL,wgD];omega⟩
theorem il {n:Nat} {ds:List DV} (h:Typ prog n 3 ds):∃ z,ds=[.v (.int .i64 z)]/\mH z:=by
 obtain ⟨z,rfl,hw⟩:=JQ Tryz.underlying3 h;exact ⟨z,rfl,wf_i64 hw⟩
theorem OB {m:Nat} (ih:∀ k,k < m->∀ ds,Typ prog k 29 ds->∃ t:Ty,ds=dX t/\rngT t/\t.wt<=wgL ds) :
  ∀ {es:List (List DV)},(∀ cs∈es,Typ prog m 109 cs)->∃ ps:Pts,es=fL ps/\rngP ps/\ps.wt<=wgEs es
 | [],h=>⟨.nil,by simp [fL],by simp [rngP],by simp [Pts.wt]⟩
 | cs :: r,h=>by
  obtain ⟨ps,rfl,hr,hl⟩:=OB ih (es:=r) (fun c hc=>h c (gC _ hc));obtain ⟨k,rfl,hf⟩:=jr Tryz.underlying109 (h cs (by simp));obtain ⟨a1,b1,rfl,h1,a2,b2,rfl,h2,a3,b3,rfl,h3,a4,b4,rfl,h4,a5,b5,rfl,h5,a6,b6,rfl,h6,rfl⟩:=hf;obtain ⟨nm,rfl,w1⟩:=rY h1;obtain ⟨bare,rfl⟩:=Oz Tryz.underlying4 h2;obtain ⟨lab,rfl,w3⟩:=qy h3;obtain ⟨wide,rfl,r4⟩:=il h4;obtain ⟨k5,_,hf5⟩:=jr Tryz.underlying107 h5;obtain ⟨c1,d1,rfl,g1,c2,d2,rfl,g2,c3,d3,rfl,g3,c4,d4,rfl,g4,rfl⟩:=hf5;obtain ⟨ck,rfl,_⟩:=il g1;obtain ⟨cn,rfl,q2⟩:=il g2;obtain ⟨ca,rfl,_⟩:=il g3;obtain ⟨cl,rfl,w5⟩:=qy g4;obtain ⟨t,rfl,rt,wt⟩:=ih k (by omega) _ h6;refine ⟨.cons ⟨nm,bare,lab,wide,ck,cn,ca,cl⟩ t ps,?_,by simp only [rngP];exact ⟨r4,q2,rt,hr⟩,?_⟩
  ·grind [fL,GX,j2]
  ·grind [Pts.wt,Ph.wt,wgEs,cM,wgL,wgD,j2,Wd.wt]
theorem OC:∀ (n:Nat) (ds:List DV),Typ prog n 29 ds->∃ t:Ty,ds=dX t/\rngT t/\t.wt<=wgL ds:=by
 intro n
 induction n using Nat.strongRecOn with
 | _ n ih=>
  intro ds h;obtain ⟨m,rfl,hf⟩:=jr Tryz.underlying29 h;obtain ⟨a1,b1,rfl,h1,a2,b2,rfl,h2,a3,b3,rfl,h3,a4,b4,rfl,h4,a5,b5,rfl,h5,a6,b6,rfl,h6,a7,b7,rfl,h7,a8,b8,rfl,h8,rfl⟩:=hf;obtain ⟨ag,rfl,_⟩:=il h1;obtain ⟨at',rfl,_⟩:=il h2;obtain ⟨lo,rfl,r3⟩:=il h3;obtain ⟨hi,rfl,r4⟩:=il h4;obtain ⟨most,rfl,r5⟩:=il h5;obtain ⟨af,rfl,w6⟩:=qy h6;obtain ⟨k,es,rfl,rfl,gL⟩:=ma Tryz.underlying25 h7;obtain ⟨ps,rfl,rp,wp⟩:=OB (fun j hj=>ih j (by omega)) gL;obtain ⟨nm,rfl,w8⟩:=rY h8;rw [Hc];refine ⟨.mk ⟨ag,at',lo,hi,most,af,nm⟩ ps,?_,by simp only [rngT];exact ⟨r3,r4,r5,rp⟩,?_⟩
  ·grind [dX,j2]
  ·grind [Ty.wt,Hd.wt,cM,wgL,wgD,j2,Wd.wt]
end Go.Proofs.YtgjagnmeonoehaaGreat
namespace Go.Proofs.YtgjagnmeonoehaaGreat
namespace Dv
open Go Go.RowKit Go.ChangeShapes Go.WideShapes Go.ChangeAt
open Go.ChangeMaps (open_string shut_string)
section
variable {H:Type} {enc:TypeId × Value->H} {P:Program}
theorem oO (hl:laidOutB P=true) {W W':World} (hb:Below W.heap.size W W'):∀ {ts:List TypeId} {vs:List Value} {ds:List (DataW H)} {ps:List MemPlace},(∀ t∈ts,P.readableRec t=true/\t < P.types.size) ->
  DataW.TrodAll enc P W 0 (fun _=>true) true ts vs ds ps->(∀ x∈ps,x.block < W.heap.size)->DataW.TrodAll enc P W' 0 (fun b=>decide (b < W.heap.size)) true ts vs ds ps
 | [],[],[],_,_,h,_=>h
 | t :: ts,v :: vs,d :: ds,_,ht,⟨p,q,h1,h2,e⟩,au=>by
  subst e;obtain ⟨r1,r2⟩:=ht t (by simp);exact ⟨p,q,Below.trod hl r1 r2 h1 hb (fun x hx=>au x (List.mem_append_left _ hx)),oO hl hb (fun t ug=>ht t (by simp [ug])) h2 (fun x hx=>au x (List.mem_append_right _ hx)),rfl⟩
theorem law_post {f:Func} {s:ChangeSpec} {tb:TypeId} (hl:laidOutB P=true) (Nh:f.resultTypes = #[tb]) (htb:P.underlying tb=some .bool) (hv:s.vars=[]) (hts:∀ t∈f.params.toList,P.readableRec t=true/\t < P.types.size)
  {W W':World} {args:Array Value} {ds gs:List (DataW H)} {before:List MemPlace} (hW:DataW.Whole enc P f.params.toList s.vars false W args.toList ds gs before) (CX:s.fn H ds={ results:=[.lit (.bool true)],args:=ds }) (hb:Below W.heap.size W W') :
  s.post enc P f false true false false W args (.bool true) W':=by
 have hW':=hW;obtain ⟨p,q,hA,hV,rfl,hfz,hnd⟩:=hW;rw [hv] at hV;obtain ⟨rfl,rfl⟩:=trodVars_none hV;refine ⟨ds,[],p ++ [],[],p,[],hW',?_,?_,?_,hb.frame _,fun h=>by cases h⟩
 ·rw [List.append_nil,CX,Nh];exact trodAll_cons_mk (shut_bool htb _) trodAll_mk0
 ·rw [List.append_nil,CX];exact oO hl hb hts hA (fun x hx=>hW'.lt x (List.mem_append_left _ hx))
 ·rw [List.append_nil,CX,hv];rfl
theorem He {w w':World} {Φ:DV->List (List DV)->List TkE->Prop} {v:Value} (h:C7 false (GA w) w Φ v w'):Below w.heap.size w w':=by
 obtain ⟨hm,_⟩:=h;refine ⟨hm.os,hm.tape,hm.output,hm.size,fun k hk=>hm.block k hk ?_⟩;rintro (h1 | ⟨y,h1,_⟩)
 ·simp [GA] at h1
 ·simp [GA] at h1
theorem calls_law {f:FuncId} {args:List DV} {vs:List Value} {w:World} (h:EvP P f args (.v (.bool true))) (hv:RvL (GA w) args vs) :
  Calls P f vs.toArray w fun e w'=>e = .returned (.bool true)/\Below w.heap.size w w':=by
 refine (h (GA w) w vs (R9 w) rfl hv).mono ?_;rintro e w' ⟨v,rfl,he⟩;have hb:=He he;obtain ⟨_,_,d,os,E,_,_,_,_,hr,rfl⟩:=he;unfold Rv at hr;rw [hr.1];exact ⟨rfl,hb⟩
variable {W:World} {base:Nat} {S:List TypeId} {bk:DataW H->Nat}
theorem arg_st (nu:Bk bk) (hS:∀ t∈S,kL P S t=true) {t:TypeId} {fs:Array Field} {v:Value} {d:DataW H} {ps:List MemPlace} (ht:t∈S) (hu:P.underlying t=some (.struct fs))
  (hval:Value.okWide P W .any base t v) (h:DataW.Trod enc P W 0 (fun _=>true) true t v d ps):∃ n ds,Rv (GA W) (.agg ds) v/\Typ P n t ds/\wgL ds<=64 * bk d:=by
 unfold Value.okWide at hval;rw [hu] at hval;obtain ⟨cs,rfl,_,_⟩:=hval;obtain ⟨n,hn⟩:=h;obtain ⟨ds,h1,h2,h3,h4,_⟩:=uO nu hS n t _ _ ht hn;refine ⟨n,ds,?_,h3,h4⟩;unfold Rv;exact ⟨cs.toList,by simp,h1,h2⟩
end
end Dv
end Go.Proofs.YtgjagnmeonoehaaGreat
namespace Go.Proofs.YtgjagnmeonoehaaGreat
open Go Go.RowKit Dv
theorem Hf {H:Type}:∀ l:List (DataW H),bkS Rows.uptoBulk l=Rows.uptoBulkAll l
 | []=>by simp [bkS,Rows.uptoBulkAll]
 | d :: r=>by simp only [bkS,Rows.uptoBulkAll,Hf r]
theorem bk_ok {H:Type}:Bk (Rows.uptoBulk (H:=H)) where
 str:=fun l=>by simp [Rows.uptoBulk]
 lit:=fun l=>by cases l<;>simp [Rows.uptoBulk]
 nil:=by simp [Rows.uptoBulk]
 slice:=fun es sp=>by simp only [Rows.uptoBulk,Hf];omega
 agg:=fun l=>by simp only [Rows.uptoBulk,Hf];omega
theorem bulk_le {H:Type} {l:List (DataW H)} (hk:Rows.uptoSmall H l=true):Rows.uptoBulkAll l<=1048576:=of_decide_eq_true hk
theorem laid_out:laidOutB Tryz.prog=true:=by kernel_rfl
theorem own_knob:ownKnob Tryz.prog.godebug=none:=by kernel_rfl
def tyS:List TypeId:=[29,22,27,9,3,25,109,4,107]
end Go.Proofs.YtgjagnmeonoehaaGreat
set_option maxRecDepth 100000
namespace Go.Proofs.YtgjagnmeonoehaaGreat
open Go Go.RowKit Dv Go.Proofs.Tryz
def Pts.take:Nat->Pts->Pts
 | 0,_=>.nil
 | _ + 1,.nil=>.nil
 | e + 1,.cons p t r=>.cons p t (r.take e)
structure Sch where
 ae:List Wd
 order:List (Wd × Wd)
 types:List (Wd × Ty)
 root:Ty
def MQ (p:Wd × Wd):List DV:=[.v (.string p.1.s),.v (.int .i64 p.1.a),.v (.string p.2.s),.v (.int .i64 p.2.a)]
def mS (l:List (Wd × Wd)):List (List DV):=l.map MQ
def dNm (x:Wd × Ty):List DV:=.v (.string x.1.s) :: .v (.int .i64 x.1.a) :: dX x.2
def dNms (l:List (Wd × Ty)):List (List DV):=l.map dNm
def eH (s:Sch):List DV:=.sl 2 (bG s.ae) none :: .sl 4 (mS s.order) none :: .sl 11 (dNms s.types) none :: dX s.root
def prsWt:List (Wd × Wd)->Nat
 | []=>0
 | p :: r=>p.1.wt + p.2.wt + prsWt r
def nmsWt:List (Wd × Ty)->Nat
 | []=>0
 | p :: r=>p.1.wt + p.2.wt + nmsWt r
def Sch.wt (s:Sch):Nat:=wdsWt s.ae + prsWt s.order + nmsWt s.types + s.root.wt
theorem fV (l:List (Wd × Wd)):(mS l).length=l.length:=by simp [mS]
theorem dM (l:List (Wd × Ty)):(dNms l).length=l.length:=by simp [dNms]
theorem gT {l:List (Wd × Wd)} {j:Nat} {p:Wd × Wd} (h:l[j]? = some p):(mS l)[j]? = some (MQ p):=by simp [mS,h]
theorem dNms_get {l:List (Wd × Ty)} {j:Nat} {p:Wd × Ty} (h:l[j]? = some p):(dNms l)[j]? = some (dNm p):=by simp [dNms,h]
theorem iI:∀ l:List (Wd × Wd),128 * l.length<=prsWt l
 | []=>aQ _
 | p :: r=>by have:=iI r;simp only [List.length_cons,prsWt,Wd.wt];omega
theorem jJ:∀ l:List (Wd × Ty),256 * l.length<=nmsWt l
 | []=>aQ _
 | p :: r=>by have:=jJ r;have:=p.2.dy;simp only [List.length_cons,nmsWt,Wd.wt];omega
theorem gI:∀ {l:List (Wd × Ty)} {p:Wd × Ty},p∈l->p.1.wt + p.2.wt<=nmsWt l
 | x :: r,p,h=>by
  rcases cO h with h | h
  ·subst h;simp only [nmsWt];omega
  ·have:=gI h;simp only [nmsWt];omega
def Lh (s:Sch):Prop:=(∀ x∈s.types,rngT x.2)/\rngT s.root
theorem Hg:prog.cellsOf 171=4:=by kernel_rfl
theorem Ef:prog.cellsOf 124=11:=by kernel_rfl
theorem Wx {n:Nat} {ds:List DV} (h:Typ prog n 171 ds):∃ p:Wd × Wd,ds=MQ p/\p.1.wt + p.2.wt<=wgL ds:=by
 obtain ⟨m,_,hf⟩:=jr Tryz.underlying171 h;obtain ⟨a,b,rfl,h1,c,d,rfl,h2,rfl⟩:=hf;obtain ⟨x,rfl,w1⟩:=rY h1;obtain ⟨y,rfl,w2⟩:=rY h2;exact ⟨(x,y),rfl,by simp only [cM,wgL];omega⟩
theorem Wy {n:Nat} {ds:List DV} (h:Typ prog n 124 ds):∃ p:Wd × Ty,ds=dNm p/\rngT p.2/\p.1.wt + p.2.wt<=wgL ds:=by
 obtain ⟨m,_,hf⟩:=jr Tryz.underlying124 h;obtain ⟨a,b,rfl,h1,c,d,rfl,h2,rfl⟩:=hf;obtain ⟨x,rfl,w1⟩:=rY h1;obtain ⟨y,rfl,r2,w2⟩:=OC _ _ h2;exact ⟨(x,y),by simp [dNm,j2],r2,by simp only [cM,wgL];omega⟩
theorem OD:∀ {m:Nat} {es:List (List DV)},(∀ cs∈es,Typ prog m 171 cs)->∃ l:List (Wd × Wd),es=mS l/\prsWt l<=wgEs es
 | m,[],h=>⟨[],rfl,by simp [prsWt,wgEs]⟩
 | m,cs :: r,h=>by
  obtain ⟨w,rfl,hw⟩:=Wx (h cs (by simp));obtain ⟨l,rfl,hl⟩:=OD (m:=m) (es:=r) (fun c hc=>h c (gC _ hc));exact ⟨w :: l,rfl,by simp only [prsWt,wgEs];omega⟩
theorem OE:∀ {m:Nat} {es:List (List DV)},(∀ cs∈es,Typ prog m 124 cs)->∃ l:List (Wd × Ty),es=dNms l/\(∀ x∈l,rngT x.2)/\nmsWt l<=wgEs es
 | m,[],h=>⟨[],rfl,by simp,by simp [nmsWt,wgEs]⟩
 | m,cs :: r,h=>by
  obtain ⟨w,rfl,hr,hw⟩:=Wy (h cs (by simp));obtain ⟨l,rfl,hlr,hl⟩:=OE (m:=m) (es:=r) (fun c hc=>h c (gC _ hc));refine ⟨w :: l,rfl,fun x hx=>?_,by simp only [nmsWt,wgEs];omega⟩;rcases cO hx with rfl | hx
  ·exact hr
  ·exact hlr x hx
theorem typ_sch {n:Nat} {ds:List DV} (h:Typ prog n 31 ds):∃ s:Sch,ds=eH s/\Lh s/\s.wt<=wgL ds:=by
 obtain ⟨m,_,hf⟩:=jr Tryz.underlying31 h;obtain ⟨a1,b1,rfl,h1,a2,b2,rfl,h2,a3,b3,rfl,h3,a4,b4,rfl,h4,rfl⟩:=hf;obtain ⟨l1,rfl,w1⟩:=qy h1;obtain ⟨m2,es2,_,rfl,he2⟩:=ma Tryz.underlying23 h2;obtain ⟨l2,rfl,w2⟩:=OD he2;obtain ⟨m3,es3,_,rfl,he3⟩:=ma Tryz.underlying24 h3;obtain ⟨l3,rfl,r3,w3⟩:=OE he3;obtain ⟨t,rfl,r4,w4⟩:=OC _ _ h4;rw [Hg,Ef];refine ⟨⟨l1,l2,l3,t⟩,by simp [eH],⟨r3,r4⟩,?_⟩;simp only [Sch.wt,cM,wgL,wgD] at *;omega
end Go.Proofs.YtgjagnmeonoehaaGreat
namespace Go.Proofs.YtgjagnmeonoehaaGreat
open Go Go.RowKit Dv
def tySS:List TypeId:=31 :: 23 :: 171 :: 24 :: 124 :: tyS
theorem tySS_ok:∀ t∈tySS,kL Tryz.prog tySS t=true:=by
 have h:(tySS.all fun t=>kL Tryz.prog tySS t)=true:=by kernel_rfl
 exact fun t ht=>List.all_eq_true.1 h t ht
set_option maxRecDepth 100000
noncomputable abbrev PP:Program:=Tryz.pinned.checked.prog
def dft:OpenClaim:={ program := "",sum := "",func := "",spec := "" }
theorem and_ok {a b:Bool} (ha:a=true) (hb:b=true):(a && b)=true:=by rw [ha,hb];all_goals rfl
theorem g_laid:laidOutB PP=true:=laid_out
theorem g_maps:mapsRowed PP=true:=by kernel_rfl
theorem g_stops:(PP.stops == [])=true:=by kernel_rfl
theorem g_knobs:(PP.stopKnobs == [])=true:=by kernel_rfl
theorem g_heard:PP.stopsHeard=true:=by kernel_rfl
theorem g_enter:PP.mayEnter=true:=by kernel_rfl
theorem g_lifts:(dft.lifted == PP.liftsFinal)=true:=by kernel_rfl
theorem g_keys:(true == PP.plainKeys)=true:=by kernel_rfl
theorem g_make:(PP.make == some dft.make)=true:=by kernel_rfl
end Go.Proofs.YtgjagnmeonoehaaGreat
set_option maxRecDepth 100000
namespace Go.Proofs.YtgjagnmeonoehaaGreat
open Go Go.RowKit Dv Go.Proofs.Tryz
theorem Eg (x b:Nat):(x:Int).fdiv (2 ^ b)=((x / 2 ^ b:Nat):Int):=by grind
theorem iJ (m:Nat):BitVec.ofInt 64 (m:Int)=BitVec.ofNat 64 m:=by simp
theorem JR {x b:Nat} (hb:b < 64) (hx:x < 18446744073709551616) :
  decide (IntKind.u64.wrap ((BitVec.ofInt 64 ((x:Int).fdiv (2 ^ (min b 64))) &&& BitVec.ofInt 64 1).toNat:Int)=1)=x.testBit b:=by
 rw [Nat.min_eq_left (by omega),Eg,iJ,show (BitVec.ofInt 64 1)=BitVec.ofNat 64 1 by decide,BitVec.toNat_and,BitVec.toNat_ofNat,BitVec.toNat_ofNat,Nat.testBit_eq_decide_div_mod_eq];have h1:x / 2 ^ b < 18446744073709551616:=Nat.lt_of_le_of_lt (Nat.div_le_self _ _) hx;rw [Nat.mod_eq_of_lt h1,show (1 % 2 ^ 64:Nat)=1 by decide,Nat.and_one_is_mod];simp only [IntKind.wrap_u64];congr 1;apply propext;omega
theorem Hh {x b:Nat} (hb:b < 64) (hx:x < 18446744073709551616) :
  IntKind.u64.wrap ((BitVec.ofInt 64 (x:Int) ||| BitVec.ofInt 64 (IntKind.u64.wrap (1 * 2 ^ (min b 64)))).toNat:Int)=((x ||| 2 ^ b:Nat):Int):=by
 have h2:2 ^ b < 18446744073709551616:=by
  have:2 ^ b<=2 ^ 63:=Nat.pow_le_pow_right (by decide) (by omega);omega
 have e1:IntKind.u64.wrap (1 * 2 ^ (min b 64))=((2 ^ b:Nat):Int):=by
  rw [Nat.min_eq_left (by omega),Int.one_mul];have:((2:Int) ^ b)=((2 ^ b:Nat):Int):=by simp
  rw [this];generalize 2 ^ b=z at h2;simp only [IntKind.wrap_u64];omega
 rw [e1,iJ,iJ,BitVec.toNat_or,BitVec.toNat_ofNat,BitVec.toNat_ofNat,Nat.mod_eq_of_lt hx,Nat.mod_eq_of_lt h2];have h3:x ||| 2 ^ b < 18446744073709551616:=Nat.or_lt_two_pow (n:=64) hx h2
 simp only [IntKind.wrap_u64];omega
theorem Sa {x y:Nat} (hx:x < 18446744073709551616) (hy:y < 18446744073709551616) :
  IntKind.u64.wrap ((BitVec.ofInt 64 (x:Int) ||| BitVec.ofInt 64 (y:Int)).toNat:Int)=((x ||| y:Nat):Int):=by
 rw [iJ,iJ,BitVec.toNat_or,BitVec.toNat_ofNat,BitVec.toNat_ofNat,Nat.mod_eq_of_lt hx,Nat.mod_eq_of_lt hy];have h3:x ||| y < 18446744073709551616:=Nat.or_lt_two_pow (n:=64) hx hy
 simp only [IntKind.wrap_u64];omega
theorem j5 (x a b:Nat):(x ||| 2 ^ b).testBit a=(x.testBit a || decide (b=a)):=by
 rw [Nat.testBit_or,Nat.testBit_two_pow]
def dU (rows:List Nat):List (List DV):=rows.map fun (x:Nat)=>[DV.v (.int .u64 (x:Int))]
theorem kM (rows:List Nat):(dU rows).length=rows.length:=by simp [dU]
theorem Wz {rows:List Nat} {i:Nat} {x:Nat} (h:rows[i]? = some x):(dU rows)[i]? = some [DV.v (.int .u64 (x:Int))]:=by simp [dU,h]
abbrev mT (rows:List Nat):DV:=.pt [.sl 1 (dU rows) none] 0
def ei (rows:List Nat):Prop:=rows.length<=64/\∀ x∈rows,x < 18446744073709551616
def aU (rows:List Nat) (a b:Nat):Bool:=(rows.getD a 0).testBit b
def hasB (rows:List Nat) (a b:Int):Bool:=decide (0<=a) && decide (a < rows.length) && decide (0<=b) && decide (b < rows.length) && aU rows a.toNat b.toNat
theorem zI (rows:List Nat):EvP prog 190 [mT rows] (.v (.int .i64 rows.length)):=by
 refine eG 10 [.tmp 2] func190 rfl ntmps190 rfl fun _ _ _ _=>?_;refine (Be ?_:);rw [kM]
theorem la (rows:List Nat) (hr:ei rows) (a b:Int):EvP prog 169 [mT rows,.v (.int .i64 a),.v (.int .i64 b)] (.v (.bool (hasB rows a b))):=by
 have hl:=zI rows;refine eG 38 [.tmp 6] func169 rfl ntmps169 rfl fun _ _ _ _=>?_;refine br ?_ ?_<;>intro g1
 ·have g1:0<=a:=sU g1;refine cP NN hl ?_;refine br ?_ ?_<;>intro g2
  ·obtain ⟨g2,g3⟩:a < rows.length/\0<=b:=by grind [pickB]
   refine cP NN hl ?_;refine br ?_ ?_<;>intro g4
   ·have g4:b < rows.length:=by simpa [pickB,g2,g3] using g4
    obtain ⟨x,hx⟩:∃ x,rows[a.toNat]? = some x:=⟨_,gE (by omega)⟩;have Jx:=hr.2 x (mG hx);have hr1:=hr.1;refine ⟨_,⟨g1,Wz hx⟩,?_⟩;refine ⟨g3,?_⟩;refine (bF ?_:);have MK:rows.getD a.toNat 0=x:=getD_some hx;have e1:hasB rows a b=x.testBit b.toNat:=by grind [hasB,aU]
    rw [e1];exact JR (x:=x) (b:=b.toNat) (by omega) Jx
   ·have g4:¬ b < rows.length:=by simpa [pickB,g2,g3] using g4
    refine (bF ?_:);simp [pickB,g2,g3,g4,hasB]
  ·have g5:¬ (a < rows.length/\0<=b):=by
    rintro ⟨h1,h2⟩;simp [pickB,h1,h2] at g2
   refine (bF ?_:);cases h:decide (a < (rows.length:Int))<;>simp [pickB,h,hasB] at g2 ⊢
   intro _ h0;omega
 ·have g1:¬ 0<=a:=sU g1;refine (bF ?_:);simp [g1,hasB]
def backN (rows:List Nat) (a:Nat):Nat->Nat
 | 0=>0
 | e + 1=>if aU rows a e && aU rows e a then backN rows a e ||| 2 ^ e else backN rows a e
theorem wa (rows:List Nat) (a:Nat):∀ e,backN rows a e < 2 ^ e
 | 0=>by simp [backN]
 | e + 1=>by
  have ih:=wa rows a e;have h2:2 ^ e < 2 ^ (e + 1):=Nat.pow_lt_pow_right (by decide) (by omega);simp only [backN];split
  ·exact Nat.or_lt_two_pow (by omega) h2
  ·omega
theorem rZ (rows:List Nat) (a b:Nat):∀ e,(backN rows a e).testBit b=(decide (b < e) && (aU rows a b && aU rows b a))
 | 0=>by simp [backN]
 | e + 1=>by
  have ih:=rZ rows a b e
  grind [backN,aU,j5]
abbrev WA (rows:List Nat) (a e:Nat):St:=
 ⟨[(0,⟨[],mT rows⟩),ay 1 a,(5,⟨[],.v (.int .u64 (backN rows a e:Nat))⟩),ay 11 ((dU rows).length),ay 12 e],[],[]⟩
theorem qz {rows:List Nat} {a b:Nat} (ha:a < rows.length) (hb:b < rows.length):hasB rows a b=aU rows a b:=by
 simp [hasB,ha,hb]
theorem Hi (rows:List Nat) (hr:ei rows) (a:Nat) (ha:a < rows.length):EvP prog 192 [mT rows,.v (.int .i64 a)] (.v (.int .u64 (backN rows a rows.length:Nat))):=by
 have hr1:=hr.1;refine eG 31 [.tmp 4] func192 rfl ntmps192 rfl fun _ _ _ _=>?_;refine lJ (fun e=>WA rows a e) rows.length (bp wB) ?_;intro e he;refine br ?_ ?_<;>intro hL
 ·have au:e < rows.length:=by have:=hL;simp [kM] at this;exact this
  have h1:=la rows hr a e;have h2:=la rows hr e a;rw [qz ha au] at h1;rw [qz au ha] at h2;have hbl:=wa rows a e
  have WB:backN rows a e < 18446744073709551616:=by
   have:2 ^ e<=2 ^ 64:=Nat.pow_le_pow_right (by decide) (by omega);omega
  have hor:=Hh (x:=backN rows a e) (b:=e) (by omega) WB;have hs:backN rows a (e + 1)=if aU rows a e && aU rows e a then backN rows a e ||| 2 ^ e else backN rows a e:=rfl
  refine cP DN h1 ?_;refine br ?_ ?_<;>intro g1
  ·have g1:aU rows a e=true:=sU g1;refine cP DN h2 ?_;refine br ?_ ?_<;>intro g2
   ·have g2:aU rows e a=true:=by simpa [pickB,g1] using g2
    rw [g1,g2] at hs;have hs:backN rows a (e + 1)=backN rows a e ||| 2 ^ e:=hs
    refine ⟨by omega,?_⟩;exact rE ⟨_,by omega,e + 1,rfl,by omega,rfl⟩ (bp (by repeat' (first | exact trivial | exact az rfl | exact aD (aN au (by omega)) | exact aD (hor.trans (by rw [hs])) | refine ⟨⟨_,rfl,?_⟩,?_⟩)))
   ·have g2:aU rows e a=false:=by simpa [pickB,g1] using g2
    rw [g1,g2] at hs;have hs:backN rows a (e + 1)=backN rows a e:=hs;exact rE ⟨_,by omega,e + 1,rfl,by omega,rfl⟩ (bp (by repeat' (first | exact trivial | exact az rfl | exact aD (aN au (by omega)) | exact aD (by rw [hs]) | refine ⟨⟨_,rfl,?_⟩,?_⟩)))
  ·have g1:aU rows a e=false:=sU g1;rw [g1] at hs;have hs:backN rows a (e + 1)=backN rows a e:=hs;exact rE ⟨_,by omega,e + 1,rfl,by omega,rfl⟩ (bp (by repeat' (first | exact trivial | exact az rfl | exact aD (aN au (by omega)) | exact aD (by rw [hs]) | refine ⟨⟨_,rfl,?_⟩,?_⟩)))
 ·have hge:e=rows.length:=by have:=hL;simp [kM] at this;omega
  subst hge;exact (rfl:_=_)
def cU (rows:List Nat):List DV:=rows.map fun (x:Nat)=>DV.v (.int .u64 (x:Int))
theorem r6 (rows:List Nat):(cU rows).length=rows.length:=by simp [cU]
theorem OG {rows:List Nat} {i x:Nat} (h:rows[i]? = some x):(cU rows)[i]? = some (DV.v (.int .u64 (x:Int))):=by simp [cU,h]
theorem OH (rows:List Nat) (i x:Nat):(cU rows).set i (DV.v (.int .u64 (x:Int)))=cU (rows.set i x):=by simp [cU,List.map_set]
theorem qA (rows:List Nat):(dU rows).flatten=cU rows:=by
 induction rows with
 | nil=>rfl
 | cons x r ih=>simp only [dU,cU,List.map_cons,List.flatten_cons] at ih ⊢;rw [ih];all_goals rfl
theorem JS {n m:Nat} {tk:List TkE}:∀ l:List Nat,WeL n m tk (cU l) (cU l)
 | []=>rfl
 | b :: r=>⟨_,_,rfl,az rfl,JS r⟩
theorem BD {n m:Nat} {tk:List TkE} {l:List DV} {ds:List Nat} (h:l=cU ds):WeL n m tk l (cU ds):=by rw [h];exact JS ds
def dNP (p:Nat × Nat):List DV:=[.v (.int .i64 (p.1:Int)),.v (.int .i64 (p.2:Int))]
def mb (l:List (Nat × Nat)):List (List DV):=l.map dNP
theorem gU (l:List (Nat × Nat)):(mb l).length=l.length:=by simp [mb]
theorem wb {l:List (Nat × Nat)} {i:Nat} {p:Nat × Nat} (h:l[i]? = some p):(mb l)[i]? = some (dNP p):=by simp [mb,h]
def we (rows:List Nat) (p:Nat × Nat):List Nat:=rows.set p.1 (rows.getD p.1 0 ||| 2 ^ p.2)
def fu (n:Nat) (l:List (Nat × Nat)):List Nat:=l.foldl we (List.replicate n 0)
theorem Li (n:Nat) (l:List (Nat × Nat)) (e:Nat) {p:Nat × Nat} (h:l[e]? = some p):fu n (l.take (e + 1))=we (fu n (l.take e)) p:=by
 unfold fu;rw [List.take_add_one,h];simp
theorem qB (rows:List Nat) (p:Nat × Nat):(we rows p).length=rows.length:=by simp [we]
theorem j6 (n:Nat):∀ (l:List (Nat × Nat)),(fu n l).length=n:=by
 intro l
 have:∀ (l:List (Nat × Nat)) (r:List Nat),(l.foldl we r).length=r.length:=by
  intro l
  induction l with
  | nil=>intro r;rfl
  | cons p l ih=>intro r;rw [List.foldl_cons,ih,qB]
 rw [fu,this];simp
theorem Sb {rows:List Nat} {p:Nat × Nat} (h:ei rows) (hp:p.1 < rows.length) (hq:p.2 < 64):ei (we rows p):=by
 refine ⟨by rw [qB];exact h.1,fun x hx=>?_⟩;rcases List.mem_or_eq_of_mem_set hx with hx | rfl
 ·exact h.2 x hx
 ·refine Nat.or_lt_two_pow (n:=64) ?_ (Nat.pow_lt_pow_right (by decide) hq);rw [eN,gE hp];exact h.2 _ (List.getElem_mem hp)
theorem BE {n:Nat} (hn:n<=64):∀ (l:List (Nat × Nat)),(∀ p∈l,p.1 < n/\p.2 < n)->ei (fu n l):=by
 intro l hl
 have:∀ (l:List (Nat × Nat)) (r:List Nat),r.length=n->ei r->(∀ p∈l,p.1 < n/\p.2 < n)->ei (l.foldl we r):=by
  intro l
  induction l with
  | nil=>intro r _ h _;exact h
  | cons p l ih=>grind [qB,Sb]
 refine this l _ (by simp) ⟨by simp [hn],fun x hx=>?_⟩ hl;rw [List.mem_replicate] at hx;omega
abbrev OI (n:Nat) (l:List (Nat × Nat)) (rows:List Nat) (e:Nat):St:=
 ⟨[ay 0 n,aE 6 1,bh 19 2 (mb l),ay 20 ((mb l).length),ay 21 e],
  [cU rows,[.ms 0 1 0 n n]],[]⟩
theorem Lj (n:Nat) (hn:n<=64) (l:List (Nat × Nat)) (hl:∀ p∈l,p.1 < n/\p.2 < n) (hb:l.length<=1099511627776) :
  EvP prog 107 [.v (.int .i64 n),.sl 2 (mb l) none] (.tup [mT (fu n l),.v (.bool true)]):=by
 refine eG 60 [.tmp 4,.tmp 5] func107 rfl ntmps107 rfl fun _ _ _ _=>?_;refine br ?_ ?_<;>intro g
 ·exfalso;simp [aq] at g;omega
 refine ⟨⟨rfl,by omega,by omega,by omega⟩,?_⟩
 have h0:(List.replicate (n:Int).toNat [DV.v (.int .u64 0)]).flatten=cU (fu n (l.take 0)):=by
  simp [fu,cU]
 refine lJ (fun e=>OI n l (fu n (l.take e)) e) l.length (dj 2 (by repeat' (first | exact rfl | exact az rfl | exact BD h0 | refine ⟨_,_,rfl,?_,?_⟩)) (by repeat' (first | exact trivial | exact az rfl | exact BD h0 | refine ⟨⟨_,rfl,?_⟩,?_⟩))) ?_;intro e he;refine br ?_ ?_<;>intro hL
 ·have au:e < l.length:=by have:=hL;simp [gU] at this;exact this
  obtain ⟨p,hp⟩:=gX au;obtain ⟨p1,p2⟩:=hl p (mG hp);refine iX (wb hp) ?_;refine ⟨⟨by decide,by decide⟩,?_⟩;refine ⟨⟨by decide,by decide⟩,?_⟩;refine br ?_ ?_<;>intro g
  ·refine ⟨⟨by decide,by decide⟩,?_⟩;refine ⟨⟨by decide,by decide⟩,?_⟩;refine br ?_ ?_<;>intro g2
   ·exfalso;simp [pickB] at g2;omega
   obtain ⟨x,hx⟩:∃ x,(fu n (l.take e))[p.1]? = some x:=⟨_,gE (by rw [j6];exact p1)⟩;have bI:=BE hn (l.take e) (fun q hq=>hl q (List.mem_of_mem_take hq));have Jx:=bI.2 x (mG hx);have ui:0 + (p.1:Int).toNat * 1=p.1:=by omega
   refine dS ?_;refine ⟨⟨by decide,by decide⟩,?_⟩;refine ⟨⟨by omega,by omega⟩,?_⟩;refine ⟨_,(by rw [ui];exact OG hx:(cU (fu n (l.take e)))[0 + (p.1:Int).toNat * 1]? = some _),?_⟩;refine ⟨⟨by decide,by decide⟩,?_⟩;refine ⟨by omega,?_⟩;refine ⟨⟨by omega,by omega⟩,?_⟩;refine ⟨by rw [ui,r6,j6];omega,?_⟩
   have hcs:(cU (fu n (l.take e))).set (0 + (p.1:Int).toNat * 1) (DV.v (.int .u64 (IntKind.u64.wrap ((BitVec.ofInt 64 (x:Int) ||| BitVec.ofInt 64 (IntKind.u64.wrap (1 * 2 ^ (min (p.2:Int).toNat 64)))).toNat:Int))))=cU (fu n (l.take (e + 1))):=by
    rw [ui,show ((p.2:Int).toNat)=p.2 by omega,Hh (by omega) Jx,OH,Li n l e hp];simp only [we];rw [getD_some hx]
   refine ⟨OI n l (fu n (l.take (e + 1))) (e + 1),(dj 2 (by repeat' (first | exact rfl | exact az rfl | exact BD hcs | exact aD (aN au (by omega)) | refine ⟨_,_,rfl,?_,?_⟩)) (by repeat' (first | exact trivial | exact az rfl | exact BD hcs | exact aD (aN au (by omega)) | refine ⟨⟨_,rfl,?_⟩,?_⟩))),l.length - (e + 1),by omega,e + 1,rfl,by omega,rfl⟩
  ·exfalso;simp [pickB] at g;omega
 ·have hge:e=l.length:=by have:=hL;simp [gU] at this;omega
  subst hge;rw [List.take_length];refine ⟨_,?_,rfl⟩;have hlen:=j6 n l;generalize fu n l=rows at hlen ⊢;refine ⟨_,rfl,_,_,rfl,.inr ⟨1,_,rfl,Nat.zero_le _,rfl,_,_,rfl,.inr (.inr (.inl ⟨0,0,n,cU rows,by rw [kM,hlen],Nat.zero_le _,rfl,?_,?_,?_⟩)),rfl⟩,_,_,rfl,rfl,rfl⟩
  ·grind [qA,kM,r6]
  ·grind [dU]
  ·grind [qA,cU]
def j7 (rows:List Nat) (k:Nat):List Nat:=rows.set k (rows.getD k 0 ||| 2 ^ k)
def oP (k:Nat) (rows:List Nat) (a:Nat):List Nat:=if aU rows a k then rows.set a (rows.getD a 0 ||| rows.getD k 0) else rows
def gV (rows:List Nat) (k e:Nat):List Nat:=(List.range e).foldl (oP k) (j7 rows k)
def closeR (rows:List Nat) (e:Nat):List Nat:=(List.range e).foldl (fun r k=>gV r k r.length) rows
theorem OJ {rows:List Nat} {i x:Nat} (h:ei rows) (hx:x < 18446744073709551616):ei (rows.set i x):=by
 refine ⟨by rw [List.length_set];exact h.1,fun y hy=>?_⟩;rcases List.mem_or_eq_of_mem_set hy with hy | rfl
 ·exact h.2 y hy
 ·exact hx
theorem mc {rows:List Nat} (h:ei rows) (i:Nat):rows.getD i 0 < 18446744073709551616:=by
 rw [eN]
 cases hx:rows[i]? with
 | none=>simp
 | some x=>exact h.2 x (mG hx)
theorem OL {rows:List Nat} {k:Nat} (h:ei rows) (hk:k < 64):ei (j7 rows k):=
 OJ h (Nat.or_lt_two_pow (n:=64) (mc h k) (Nat.pow_lt_pow_right (by decide) hk))
theorem Lk (rows:List Nat) (k:Nat):(j7 rows k).length=rows.length:=by simp [j7]
theorem OM {rows:List Nat} {k a:Nat} (h:ei rows):ei (oP k rows a):=by
 unfold oP;split
 ·exact OJ h (Nat.or_lt_two_pow (n:=64) (mc h a) (mc h k))
 ·exact h
theorem Ll (rows:List Nat) (k a:Nat):(oP k rows a).length=rows.length:=by
 unfold oP;split<;>simp
theorem mf (rows:List Nat) (k e:Nat):gV rows k (e + 1)=oP k (gV rows k e) e:=by simp [gV,List.range_succ]
theorem oe (rows:List Nat) (k:Nat):∀ e,(gV rows k e).length=rows.length
 | 0=>by simp [gV,Lk]
 | e + 1=>by rw [mf,Ll,oe]
theorem wg {rows:List Nat} {k:Nat} (h:ei rows) (hk:k < 64):∀ e,ei (gV rows k e)
 | 0=>by simpa [gV] using OL h hk
 | e + 1=>by rw [mf];exact OM (wg h hk e)
theorem kv (rows:List Nat) (e:Nat):closeR rows (e + 1)=gV (closeR rows e) e (closeR rows e).length:=by simp [closeR,List.range_succ]
theorem fv (rows:List Nat):∀ e,(closeR rows e).length=rows.length
 | 0=>by simp [closeR]
 | e + 1=>by rw [kv,oe,fv]
theorem ld {rows:List Nat} (h:ei rows):∀ e,e<=64->ei (closeR rows e)
 | 0,_=>by simpa [closeR] using h
 | e + 1,he=>by rw [kv];exact wg (ld h e (by omega)) (by omega) _
def spU (m:Nat):List DV:=(List.replicate m (vL [Value.int .u64 0])).flatten
theorem wh {n m:Nat} {tk:List TkE}:∀ l:List DV,(∀ x∈l,∃ y,x = .v y)->WeL n m tk l l
 | [],_=>rfl
 | b :: r,h=>by
  obtain ⟨y,rfl⟩:=h b (by simp);exact ⟨_,_,rfl,az rfl,wh r (fun x hx=>h x (by simp [hx]))⟩
theorem fJ {n m:Nat} {tk:List TkE} {l:List DV} {ds:List Nat} {k:Nat} (h:l=cU ds ++ spU k):WeL n m tk l (cU ds ++ spU k):=by
 rw [h];refine wh _ fun x hx=>?_;rcases List.mem_append.1 hx with hx | hx
 ·grind [cU]
 ·simp_all [spU,vL]
theorem BF {r:List Nat} {k i x:Nat} (h:r[i]? = some x):(cU r ++ spU k)[0 + (i:Int).toNat * 1]? = some (DV.v (.int .u64 (x:Int))):=by grind [r6,OG]
theorem ON {r:List Nat} {k i x:Nat} (h:i < r.length):(cU r ++ spU k).set (0 + (i:Int).toNat * 1) (DV.v (.int .u64 (x:Int)))=cU (r.set i x) ++ spU k:=by grind [r6,OH]
theorem OO {r:List Nat} {k i:Nat} (h:i < r.length):0 + (i:Int).toNat * 1 + 1<=(cU r ++ spU k).length:=by
 rw [List.length_append,r6];omega
abbrev clSt (rows:List Nat) (cap:Nat) (r:List Nat) (e:Nat):St:=
 ⟨[aE 3 1,ay 19 ((dU rows).length),ay 20 e],[cU r ++ spU (cap - (dU rows).length),[.ms 0 1 0 (dU rows).length cap]],[]⟩
abbrev aaU (rows:List Nat) (cap:Nat) (r:List Nat) (e f:Nat):St:=
 ⟨[aE 3 1,ay 4 e,ay 19 ((dU rows).length),ay 20 e,ay 38 ((dU rows).length),ay 39 f],[cU r ++ spU (cap - (dU rows).length),[.ms 0 1 0 (dU rows).length cap]],[]⟩
theorem pg {l:List Nat} {i:Nat} (h:i < l.length):l[i]? = some (l.getD i 0):=rV h
theorem tw (rows:List Nat) (hr:ei rows) (h0:rows ≠ []):EvP prog 109 [mT rows] (mT (closeR rows rows.length)):=by
 have hr1:=hr.1;have hN:=kM rows;have oH:0 < rows.length:=List.length_pos_iff.2 h0;refine qg (s:=false) (bt:=[]) (mu:=[12]) (hbt:=fun p hp=>by cases hp) (fr:=false) (P:=prog) tt fo 5000 72 [.tmp 2] func109 rfl ntmps109 rfl (nL rfl) (fun _ _ _ _=>?_);refine ⟨⟨by intro h;exact h0 (by simpa [dU] using h),by rw [kM];simp [maxLen];omega,by rw [kM];omega⟩,fun cap A9=>?_⟩
 have gM:(dU rows).flatten.append (List.replicate (cap - (dU rows).length) (vL [Value.int .u64 0])).flatten=cU (closeR rows 0) ++ spU (cap - (dU rows).length):=by
  show (dU rows).flatten ++ _=_;rw [qA];rfl
 refine lJ (fun e=>clSt rows cap (closeR rows e) e) rows.length (dj 2 (kH gM) (cY gM)) ?_;intro e he;have bI:=ld hr e (by omega);have hlen:=fv rows e;have UI:=kv rows e;generalize hce:closeR rows e=r at bI hlen UI ⊢;refine br ?_ ?_<;>intro hL
 ·have au:e < rows.length:=by have:=hL;simp [hN] at this;exact this
  have hx:=pg (l:=r) (i:=e) (by omega);have hor:=Hh (x:=r.getD e 0) (b:=e) (by omega) (mc bI e);refine dS ?_;refine ⟨⟨by omega,by omega⟩,?_⟩;refine ⟨_,BF hx,?_⟩;refine ⟨by omega,?_⟩;refine ⟨⟨by omega,by omega⟩,?_⟩;refine ⟨OO (by omega),?_⟩
  have iD:(cU r ++ spU (cap - (dU rows).length)).set (0 + (e:Int).toNat * 1) (DV.v (.int .u64 (IntKind.u64.wrap ((BitVec.ofInt 64 ((r.getD e 0:Nat):Int) ||| BitVec.ofInt 64 (IntKind.u64.wrap (1 * 2 ^ (min (e:Int).toNat 64)))).toNat:Int))))=cU (gV r e 0) ++ spU (cap - (dU rows).length):=by
   rw [show min (e:Int).toNat 64=min e 64 by omega,hor,ON (by omega)];rfl
  refine lJ (fun f=>aaU rows cap (gV r e f) e f) rows.length (dj 2 (kH iD) (cY iD)) ?_;intro f hf;have hpk:=wg (k:=e) bI (by omega) f;have gn:=oe r e f;have hps:=mf r e f;have dG:e < (gV r e f).length:=by rw [gn];omega
  refine br ?_ ?_<;>intro hL
  ·have yC:f < rows.length:=by have:=hL;simp [hN] at this;exact this
   have hpf:f < (gV r e f).length:=by rw [gn];omega
   generalize gV r e f=q at hpk gn hps dG hpf ⊢;have hy:=pg hpf;have hz:=pg dG;have OP:=JR (x:=q.getD f 0) (b:=e) (by omega) (mc hpk f);have hor:=Sa (mc hpk f) (mc hpk e);refine ⟨⟨by omega,by omega⟩,?_⟩;refine ⟨_,BF hy,?_⟩;refine ⟨by omega,?_⟩;refine br ?_ ?_<;>intro g
   ·have g:aU q f e=true:=OP.symm.trans g;refine dS ?_;refine ⟨⟨by omega,by omega⟩,?_⟩;refine ⟨_,BF hy,?_⟩;refine ⟨⟨by omega,by omega⟩,?_⟩;refine ⟨_,BF hz,?_⟩;refine ⟨⟨by omega,by omega⟩,?_⟩;refine ⟨OO hpf,?_⟩
    have gF:(cU q ++ spU (cap - (dU rows).length)).set (0 + (f:Int).toNat * 1) (DV.v (.int .u64 (IntKind.u64.wrap ((BitVec.ofInt 64 ((q.getD f 0:Nat):Int) ||| BitVec.ofInt 64 ((q.getD e 0:Nat):Int)).toNat:Int))))=cU (gV r e (f + 1)) ++ spU (cap - (dU rows).length):=by
     rw [hor,ON hpf,hps,oP,ap g]
    exact rE ⟨_,by omega,f + 1,rfl,by omega,rfl⟩ (dj 2 (yy gF (aN yC (by omega))) (iT gF (aN yC (by omega))))
   ·have g:aU q f e=false:=OP.symm.trans g
    have gF:cU q ++ spU (cap - (dU rows).length)=cU (gV r e (f + 1)) ++ spU (cap - (dU rows).length):=by
     rw [hps,oP,aj (by rw [g];decide)]
    exact rE ⟨_,by omega,f + 1,rfl,by omega,rfl⟩ (dj 2 (yy gF (aN yC (by omega))) (iT gF (aN yC (by omega))))
  ·have hge:f=rows.length:=sW hN hL;subst hge
   have MI:cU (gV r e rows.length) ++ spU (cap - (dU rows).length)=cU (closeR rows (e + 1)) ++ spU (cap - (dU rows).length):=by
    rw [UI,hlen]
   exact rE ⟨_,by omega,e + 1,rfl,by omega,rfl⟩ (dj 2 (yy MI (aN au (by omega))) (iT MI (aN au (by omega))))
 ·have hge:e=rows.length:=sW hN hL;subst hge;refine ⟨_,?_,rfl⟩;rw [hce];refine .inr ⟨1,_,rfl,Nat.zero_le _,rfl,_,_,rfl,.inr (.inr (.inl ⟨0,0,cap,cU r ++ spU (cap - (dU rows).length),by rw [kM r,hlen,hN],Nat.zero_le _,rfl,?_,?_,?_⟩)),rfl⟩
  ·grind [qA,kM,r6]
  ·grind [dU]
  ·grind [qA,cU]
theorem lf {a b c d:Nat} (ha:a < 256) (hb:b < 256):(a + 256 * c) &&& (b + 256 * d)=(a &&& b) + 256 * (c &&& d):=by
 have h1:a &&& b < 256:=Nat.and_lt_two_pow (n:=8) a hb;apply Nat.eq_of_testBit_eq;intro i
 have e (x y:Nat) (hx:x < 256):(x + 256 * y).testBit i=if i < 8 then x.testBit i else y.testBit (i - 8):=by
  rw [show x + 256 * y=2 ^ 8 * y + x by omega,Nat.testBit_two_pow_mul_add _ (sU hx)]
 grind
def b1 (x:Nat):Nat:=((x / 2) &&& 85) + (x &&& 85)
def b2 (x:Nat):Nat:=((x / 4) &&& 51) + (x &&& 51)
def b3 (x:Nat):Nat:=((x / 16) + x) &&& 15
def pop8 (x:Nat):Nat:=b3 (b2 (b1 x))
theorem JT:∀ x:Fin 256,b1 x.val < 256/\b2 (b1 x.val) < 120/\pop8 x.val<=8/\pop8 x.val=(((((((x.val.testBit 0).toNat + (x.val.testBit 1).toNat) + (x.val.testBit 2).toNat) + (x.val.testBit 3).toNat) + (x.val.testBit 4).toNat) + (x.val.testBit 5).toNat) + (x.val.testBit 6).toNat) + (x.val.testBit 7).toNat:=by decide +kernel
def valB:List Nat->Nat
 | []=>0
 | a :: r=>a + 256 * valB r
def rep (m:Nat):Nat->Nat
 | 0=>0
 | n + 1=>m + 256 * rep m n
theorem m1:∀ (a:Fin 256) (c:Fin 2),(a.val / 2 + 128 * c.val) &&& 85=(a.val / 2) &&& 85:=by decide +kernel
theorem m2:∀ (a:Fin 256) (c:Fin 4),(a.val / 4 + 64 * c.val) &&& 51=(a.val / 4) &&& 51:=by decide +kernel
theorem rA:∀ l:List Nat,(∀ a∈l,a < 256)->((valB l / 2) &&& rep 85 l.length) + (valB l &&& rep 85 l.length)=valB (l.map b1)
 | [],_=>rfl
 | a :: r,h=>by
  have ih:=rA r (fun x hx=>h x (by simp [hx]));have ha:=h a (by simp);have e1:(a + 256 * valB r) / 2=(a / 2 + 128 * (valB r % 2)) + 256 * (valB r / 2):=by omega
  have hm:=m1 ⟨a,ha⟩ ⟨valB r % 2,by omega⟩;simp only at hm;simp only [valB,List.length_cons,rep,List.map_cons,b1];rw [e1,lf (by omega) (by decide),lf ha (by decide),hm,<- ih];omega
theorem KX:∀ l:List Nat,(∀ a∈l,a < 256)->((valB l / 4) &&& rep 51 l.length) + (valB l &&& rep 51 l.length)=valB (l.map b2)
 | [],_=>rfl
 | a :: r,h=>by
  have ih:=KX r (fun x hx=>h x (by simp [hx]));have ha:=h a (by simp);have e1:(a + 256 * valB r) / 4=(a / 4 + 64 * (valB r % 4)) + 256 * (valB r / 4):=by omega
  have hm:=m2 ⟨a,ha⟩ ⟨valB r % 4,by omega⟩;simp only at hm;simp only [valB,List.length_cons,rep,List.map_cons,b2];rw [e1,lf (by omega) (by decide),lf ha (by decide),hm,<- ih];omega
theorem aaV (x y:Nat):(x + 16 * y) &&& 15=x &&& 15:=by
 have h (z:Nat):z &&& 15=z % 16:=Nat.and_two_pow_sub_one_eq_mod z 4;rw [h,h];omega
def Eh (a:Nat):Prop:=a < 70/\a % 16<=4
theorem st3:∀ l:List Nat,(∀ a∈l,Eh a)->((valB l / 16) + valB l) &&& rep 15 l.length=valB (l.map b3)
 | [],_=>rfl
 | a :: r,h=>by
  have ih:=st3 r (fun x hx=>h x (by simp [hx]));have ha:=h a (by simp)
  have hc:valB r % 16<=4:=by
   cases r with
   | nil=>simp [valB]
   | cons b s=>
    have:=(h b (by simp)).2;simp only [valB];omega
  unfold Eh at ha;have e1:(a + 256 * valB r) / 16 + (a + 256 * valB r)=((a / 16 + a) + 16 * (valB r % 16)) + 256 * (valB r / 16 + valB r):=by omega
  simp only [valB,List.length_cons,rep,List.map_cons,b3];rw [e1,lf (by omega) (by decide),aaV,ih]
def eI (x:Nat):List Nat:=[x % 256,x / 256 % 256,x / 65536 % 256,x / 16777216 % 256,x / 4294967296 % 256,x / 1099511627776 % 256,x / 281474976710656 % 256,x / 72057594037927936 % 256]
theorem Hj {x:Nat} (h:x < 18446744073709551616):valB (eI x)=x:=by
 simp only [eI,valB];omega
theorem Lm (x:Nat):∀ a∈eI x,a < 256:=by
 intro a ha;simp only [eI,List.mem_cons,List.not_mem_nil,or_false] at ha;omega
def Hk (x:Nat):Nat:=((eI x).map pop8).sum
theorem Ei:∀ a:Fin 256,b1 a.val < 256/\b2 (b1 a.val) < 70/\b2 (b1 a.val) % 16<=4:=by decide +kernel
theorem BG {x m:Nat} (hx:x < 18446744073709551616) (hm:m < 18446744073709551616) :
  IntKind.u64.wrap ((BitVec.ofInt 64 (x:Int) &&& BitVec.ofInt 64 (m:Int)).toNat:Int)=((x &&& m:Nat):Int):=by
 rw [iJ,iJ,BitVec.toNat_and,BitVec.toNat_ofNat,BitVec.toNat_ofNat,Nat.mod_eq_of_lt hx,Nat.mod_eq_of_lt hm];have h3:x &&& m < 18446744073709551616:=Nat.and_lt_two_pow (n:=64) x hm;simp only [IntKind.wrap_u64];omega
theorem Hl {x:Nat} {k:Int} (hk:k.toNat < 64):(x:Int).fdiv (2 ^ min k.toNat IntKind.u64.bits)=((x / 2 ^ k.toNat:Nat):Int):=by
 rw [show min k.toNat IntKind.u64.bits=k.toNat from Nat.min_eq_left (by show k.toNat<=64;omega),Eg]
theorem BH {y:Nat} (h:y < 18446744073709551616):IntKind.u64.wrap (y:Int)=(y:Int):=by
 simp only [IntKind.wrap_u64];omega
theorem aaW {k M:Int} {m x y:Nat} (hk:k.toNat < 64) (hx:x < 18446744073709551616) (hM:M=(m:Int)) (hm:m < 18446744073709551616) (hy:((x / 2 ^ k.toNat) &&& m) + (x &&& m)=y) (mN:y < 18446744073709551616) :
  IntKind.u64.wrap (IntKind.u64.wrap ((BitVec.ofInt IntKind.u64.bits ((x:Int).fdiv (2 ^ min k.toNat IntKind.u64.bits)) &&& BitVec.ofInt IntKind.u64.bits M).toNat:Int) + IntKind.u64.wrap ((BitVec.ofInt IntKind.u64.bits (x:Int) &&& BitVec.ofInt IntKind.u64.bits M).toNat:Int))=(y:Int):=by
 subst hM;have h1:x / 2 ^ k.toNat < 18446744073709551616:=Nat.lt_of_le_of_lt (Nat.div_le_self _ _) hx;have e1:IntKind.u64.wrap ((BitVec.ofInt IntKind.u64.bits ((x / 2 ^ k.toNat:Nat):Int) &&& BitVec.ofInt IntKind.u64.bits (m:Int)).toNat:Int)=_:=BG h1 hm;have e2:IntKind.u64.wrap ((BitVec.ofInt IntKind.u64.bits (x:Int) &&& BitVec.ofInt IntKind.u64.bits (m:Int)).toNat:Int)=_:=BG hx hm;rw [Hl hk,e1,e2,<- Int.natCast_add,hy,BH mN]
theorem stgB {k M:Int} {m x y:Nat} (hk:k.toNat < 64) (hs:x / 2 ^ k.toNat + x < 18446744073709551616) (hM:M=(m:Int)) (hm:m < 18446744073709551616) (hy:((x / 2 ^ k.toNat) + x) &&& m=y) :
  IntKind.u64.wrap ((BitVec.ofInt IntKind.u64.bits (IntKind.u64.wrap ((x:Int).fdiv (2 ^ min k.toNat IntKind.u64.bits) + (x:Int))) &&& BitVec.ofInt IntKind.u64.bits M).toNat:Int)=(y:Int):=by
 subst hM;have e2:IntKind.u64.wrap ((BitVec.ofInt IntKind.u64.bits ((x / 2 ^ k.toNat + x:Nat):Int) &&& BitVec.ofInt IntKind.u64.bits (m:Int)).toNat:Int)=_:=BG hs hm;rw [Hl hk,<- Int.natCast_add,BH hs,e2,hy]
theorem WC {k:Int} {x:Nat} (hk:k.toNat < 64) (hs:x + x / 2 ^ k.toNat < 18446744073709551616) :
  IntKind.u64.wrap ((x:Int) + (x:Int).fdiv (2 ^ min k.toNat IntKind.u64.bits))=((x + x / 2 ^ k.toNat:Nat):Int):=by
 rw [Hl hk,<- Int.natCast_add,BH hs]
theorem JU:∀ l:List Nat,(∀ a∈l,a < 256)->valB l < 256 ^ l.length
 | [],_=>by simp [valB]
 | a :: r,h=>by
  have ih:=JU r (fun x hx=>h x (by simp [hx]));have ha:=h a (by simp)
  grind [valB]
theorem OQ {x:Nat} (hx:x < 18446744073709551616):∃ y1 y2 y3:Nat,((x / 2) &&& 6148914691236517205) + (x &&& 6148914691236517205)=y1/\y1 < 18446744073709551616/\((y1 / 4) &&& 3689348814741910323) + (y1 &&& 3689348814741910323)=y2/\y2 / 16 + y2 < 18446744073709551616/\y2 < 18446744073709551616 /\
  ((y2 / 16) + y2) &&& 1085102592571150095=y3/\∃ p0 p1 p2 p3 p4 p5 p6 p7:Nat,y3=valB [p0,p1,p2,p3,p4,p5,p6,p7]/\(p0<=8/\p1<=8/\p2<=8/\p3<=8/\p4<=8/\p5<=8/\p6<=8/\p7<=8)/\Hk x=p0 + p1 + p2 + p3 + p4 + p5 + p6 + p7:=by
 have hl:=Lm x;have s1:=rA (eI x) hl;rw [Hj hx] at s1
 have l1:∀ a∈(eI x).map b1,a < 256:=by
  intro a ha;obtain ⟨b,hb,rfl⟩:=List.mem_map.1 ha;exact (Ei ⟨b,hl b hb⟩).1
 have l2:∀ a∈((eI x).map b1).map b2,Eh a:=by
  intro a ha;obtain ⟨c,hc,rfl⟩:=List.mem_map.1 ha;obtain ⟨b,hb,rfl⟩:=List.mem_map.1 hc;exact (Ei ⟨b,hl b hb⟩).2
 have s2:=KX ((eI x).map b1) l1;have s3:=st3 (((eI x).map b1).map b2) l2
 have v1:valB ((eI x).map b1) < 18446744073709551616:=by
  have:=JU _ l1;rw [List.length_map,show (eI x).length=8 from rfl] at this;simpa using this
 rw [show rep 85 (eI x).length=6148914691236517205 from (by decide:rep 85 8=_)] at s1;rw [List.length_map,show rep 51 (eI x).length=3689348814741910323 from (by decide:rep 51 8=_)] at s2;rw [List.length_map,List.length_map,show rep 15 (eI x).length=1085102592571150095 from (by decide:rep 15 8=_)] at s3;refine ⟨_,_,_,s1,v1,s2,?_,?_,s3,_,_,_,_,_,_,_,_,rfl,?_,?_⟩
 ·have:=l2;simp only [eI,List.map_cons,List.map_nil,List.mem_cons,List.not_mem_nil,or_false,forall_eq_or_imp,forall_eq,Eh,valB] at this ⊢;omega
 ·have:=l2;simp only [eI,List.map_cons,List.map_nil,List.mem_cons,List.not_mem_nil,or_false,forall_eq_or_imp,forall_eq,Eh,valB] at this ⊢;omega
 ·have h (b:Nat) (hb:b < 256):=(JT ⟨b,hb⟩).2.2.1;exact ⟨h _ (by omega),h _ (by omega),h _ (by omega),h _ (by omega),h _ (by omega),h _ (by omega),h _ (by omega),h _ (by omega)⟩
 ·simp only [Hk,eI,List.map_cons,List.map_nil,List.sum_cons,List.sum_nil,pop8];omega
theorem dr1 {a r:Nat} (h:a < 256):(a + 256 * r) / 256=r:=by omega
theorem dr2 {a b r:Nat} (h:a < 256) (h2:b < 256):(a + 256 * (b + 256 * r)) / 65536=r:=by omega
theorem OR {p0 p1 p2 p3 p4 p5 p6 p7:Nat} (hp:p0<=8/\p1<=8/\p2<=8/\p3<=8/\p4<=8/\p5<=8/\p6<=8/\p7<=8):∃ z1 z2 z3:Nat,
  (p0 + 256 * (p1 + 256 * (p2 + 256 * (p3 + 256 * (p4 + 256 * (p5 + 256 * (p6 + 256 * (p7 + 256 * 0)))))))) + (p0 + 256 * (p1 + 256 * (p2 + 256 * (p3 + 256 * (p4 + 256 * (p5 + 256 * (p6 + 256 * (p7 + 256 * 0)))))))) / 256=z1/\z1 < 18446744073709551616 /\
  z1 + z1 / 65536=z2/\z2 < 18446744073709551616/\z2 + z2 / 4294967296=z3/\z3 < 18446744073709551616/\z3 % 128=p0 + p1 + p2 + p3 + p4 + p5 + p6 + p7:=by
 refine ⟨(p0 + p1) + 256 * ((p1 + p2) + 256 * ((p2 + p3) + 256 * ((p3 + p4) + 256 * ((p4 + p5) + 256 * ((p5 + p6) + 256 * ((p6 + p7) + 256 * p7)))))),
  (p0 + p1 + p2 + p3) + 256 * ((p1 + p2 + p3 + p4) + 256 * ((p2 + p3 + p4 + p5) + 256 * ((p3 + p4 + p5 + p6) + 256 * ((p4 + p5 + p6 + p7) + 256 * ((p5 + p6 + p7) + 256 * ((p6 + p7) + 256 * p7)))))),
  (p0 + p1 + p2 + p3 + p4 + p5 + p6 + p7) + 256 * ((p1 + p2 + p3 + p4 + p5 + p6 + p7) + 256 * ((p2 + p3 + p4 + p5 + p6 + p7) + 256 * ((p3 + p4 + p5 + p6 + p7) + 256 * ((p4 + p5 + p6 + p7) + 256 * ((p5 + p6 + p7) + 256 * ((p6 + p7) + 256 * p7)))))),?_,by omega,?_,by omega,?_,by omega,by omega⟩
 ·rw [dr1 (by omega)];omega
 ·rw [dr2 (by omega) (by omega)];omega
 ·omega
theorem OS {z:Nat} (h:z < 18446744073709551616):IntKind.i64.wrap ((BitVec.ofInt IntKind.i64.bits (IntKind.i64.wrap (z:Int)) &&& BitVec.ofInt IntKind.i64.bits 127).toNat:Int)=((z % 128:Nat):Int):=by
 have e1:BitVec.ofInt 64 (IntKind.i64.wrap (z:Int))=BitVec.ofNat 64 z:=by
  apply BitVec.eq_of_toNat_eq;rw [BitVec.toNat_ofInt,BitVec.toNat_ofNat,IntKind.wrap_i64];omega
 have e2:(BitVec.ofInt 64 (IntKind.i64.wrap (z:Int)) &&& BitVec.ofInt 64 127).toNat=z % 128:=by
  rw [e1,show BitVec.ofInt 64 127=BitVec.ofNat 64 127 by decide,BitVec.toNat_and,BitVec.toNat_ofNat,BitVec.toNat_ofNat,Nat.mod_eq_of_lt h];exact Nat.and_two_pow_sub_one_eq_mod z 7
 have e3:(BitVec.ofInt IntKind.i64.bits (IntKind.i64.wrap (z:Int)) &&& BitVec.ofInt IntKind.i64.bits 127).toNat=z % 128:=e2;rw [e3,IntKind.wrap_i64];omega
theorem Ln (x:Nat) (hx:x < 18446744073709551616):EvP prog 191 [.v (.int .u64 x)] (.v (.int .i64 (Hk x:Nat))):=by
 obtain ⟨y1,y2,y3,h1,X8,h2,h2s,h2b,h3,p0,p1,p2,p3,p4,p5,p6,p7,h4,hp,h5⟩:=OQ hx;rw [h5];simp only [valB] at h4;refine eG 35 [.tmp 2] func191 rfl ntmps191 rfl fun _ _ _ _=>?_;refine ⟨by decide,?_⟩;refine ⟨by decide,?_⟩;refine ⟨by decide,?_⟩;refine ⟨by decide,?_⟩;refine ⟨by decide,?_⟩;refine ⟨by decide,?_⟩;refine (Be ?_:);rw [aaW (k:=1) (M:=6148914691236517205) (by decide) hx rfl (by decide) h1 X8,aaW (k:=2) (M:=3689348814741910323) (by decide) X8 rfl (by decide) h2 h2b,stgB (k:=4) (M:=1085102592571150095) (by decide) h2s rfl (by decide) h3];obtain ⟨z1,z2,z3,g1,g1b,g2,g2b,g3,g3b,g4⟩:=OR hp;rw [<- h4] at g1;have k1:y3 + y3 / 2 ^ (8:Int).toNat=z1:=g1;rw [WC (k:=8) (by decide) (by rw [k1];exact g1b),k1];have k2:z1 + z1 / 2 ^ (16:Int).toNat=z2:=g2;rw [WC (k:=16) (by decide) (by rw [k2];exact g2b),k2];have k3:z2 + z2 / 2 ^ (32:Int).toNat=z3:=g3;rw [WC (k:=32) (by decide) (by rw [k3];exact g3b),k3,<- g4];exact OS g3b
theorem ja (x k i:Nat) (hi:i < 8):(x / 2 ^ (8 * k) % 256).testBit i=x.testBit (8 * k + i):=by
 rw [show (256:Nat)=2 ^ 8 by decide,Nat.testBit_mod_two_pow,decide_eq_true hi,Bool.true_and,Nat.testBit_div_two_pow,Nat.add_comm]
theorem jc (x k:Nat):pop8 (x / 2 ^ (8 * k) % 256)=(((((((x.testBit (8 * k + 0)).toNat + (x.testBit (8 * k + 1)).toNat) + (x.testBit (8 * k + 2)).toNat) + (x.testBit (8 * k + 3)).toNat) + (x.testBit (8 * k + 4)).toNat) + (x.testBit (8 * k + 5)).toNat) + (x.testBit (8 * k + 6)).toNat) + (x.testBit (8 * k + 7)).toNat:=by
 have h:=(JT ⟨x / 2 ^ (8 * k) % 256,Nat.mod_lt _ (by decide)⟩).2.2.2;simp only at h;rw [h,ja x k 0 (by decide),ja x k 1 (by decide),ja x k 2 (by decide),ja x k 3 (by decide),ja x k 4 (by decide),ja x k 5 (by decide),ja x k 6 (by decide),ja x k 7 (by decide)]
def sumB (x:Nat):Nat->Nat
 | 0=>0
 | n + 1=>sumB x n + (x.testBit n).toNat
theorem OU (x:Nat):Hk x=sumB x 64:=by
 have h0:=jc x 0;have h1:=jc x 1;have h2:=jc x 2;have h3:=jc x 3;have h4:=jc x 4;have h5:=jc x 5;have h6:=jc x 6;have h7:=jc x 7;simp only [Nat.mul_zero,Nat.pow_zero,Nat.div_one] at h0;simp only [Hk,eI,List.map_cons,List.map_nil,List.sum_cons,List.sum_nil,sumB]
 grind
theorem wi (x:Nat):∀ n,0 < sumB x n↔∃ b,b < n/\x.testBit b=true
 | 0=>by simp [sumB]
 | n + 1=>by
  have ih:=wi x n
  grind [sumB]
theorem Ej (x a:Nat) (ha:x.testBit a=true):∀ n,a < n->(1 < sumB x n↔∃ b,b < n/\b≠a/\x.testBit b=true)
 | 0,h=>by omega
 | n + 1,h=>by
  simp only [sumB];by_cases hn:a=n
  ·grind [wi]
  ·have ih:=Ej x a ha n (by omega)
   grind [wi]
def bB (p:Nat->Bool) (n:Nat):Option Nat:=(List.range n).find? p
theorem cI {p:Nat->Bool} {n e:Nat} (he:e < n) (hp:p e=true) (h:∀ a,a < e->p a=false):bB p n=some e:=by simp_all [bB]
theorem cT {p:Nat->Bool} {n:Nat} (h:∀ a,a < n->p a=false):bB p n=none:=by grind [bB]
theorem dN {p:Nat->Bool} {n e:Nat} (h:bB p n=some e):e < n/\p e=true/\∀ a,a < e->p a=false:=by simp_all [bB]
def qC (c:List Nat) (a:Nat):Bool:=decide (1 < Hk (backN c a c.length))
def OV:Option Nat->DV
 | some a=>.tup [.v (.int .i64 (a:Int)),.v (.bool true)]
 | none=>.tup [.v (.int .i64 0),.v (.bool false)]
abbrev Sc (c:List Nat) (e:Nat):St:=
 ⟨[(4,⟨[],mT c⟩),ay 9 c.length,ay 10 e],[],[]⟩
theorem Hm (rows:List Nat) (hr:ei rows) (h0:rows ≠ []):EvP prog 108 [mT rows] (OV (bB (qC (closeR rows rows.length)) rows.length)):=by
 have hc:=tw rows hr h0;have bI:=ld hr rows.length hr.1;have hlen:=fv rows rows.length;have hr1:=hr.1;generalize closeR rows rows.length=c at hc bI hlen ⊢;rw [<- hlen];have hl:=zI c;refine eG 20 [.tmp 2,.tmp 3] func108 rfl ntmps108 rfl fun _ _ _ _=>?_;refine cP TY hc ?_;refine cP NN hl ?_;refine lI (fun j st=>∃ e:Nat,st=Sc c e/\e<=c.length/\(∀ a,a < e->qC c a=false)/\j=c.length - e) ⟨0,rfl,by omega,fun a h=>by omega,rfl⟩ (bp wB) ?_;rintro j st ⟨e,rfl,he,gO,rfl⟩;refine br ?_ ?_<;>intro hL
 ·have au:e < c.length:=by have:=hL;simp at this;exact this
  have WB:backN c e c.length < 18446744073709551616:=by
   have h1:=wa c e c.length;have:2 ^ c.length<=2 ^ 64:=Nat.pow_le_pow_right (by decide) (by omega);omega
  refine cP ZJ (Hi c bI e au) ?_;refine cP ZI (Ln _ WB) ?_;refine br ?_ ?_<;>intro g
  ·have g:qC c e=true:=by
    simp at g;simp [qC];omega
   rw [cI au g gO];refine ⟨_,?_,rfl⟩;exact ax
  ·have g:qC c e=false:=by
    simp at g;simp [qC];omega
   exact rE ⟨_,by omega,e + 1,rfl,by omega,fun a ha=>by
    rcases kE ha with ha | rfl
    ·exact gO a ha
    ·exact g,rfl⟩ (bp (cY (aN au (by omega))))
 ·have hge:e=c.length:=by have:=hL;simp at this;omega
  subst hge;rw [cT gO];refine ⟨_,?_,rfl⟩;exact ax
theorem wj {rows:List Nat} {i x a b:Nat} (hi:i < rows.length):aU (rows.set i x) a b=if a=i then x.testBit b else aU rows a b:=by grind [aU]
theorem og {rows:List Nat} {k a b:Nat} (hk:k < rows.length):aU (j7 rows k) a b=(aU rows a b || (decide (a=k) && decide (b=k))):=by
 unfold j7;rw [wj hk];by_cases h:a=k
 ·subst h;rw [ap rfl,j5];simp only [decide_true,Bool.true_and];rw [show decide (a=b)=decide (b=a) from by simp only [eq_comm]];rfl
 ·rw [aj h];simp [h]
theorem Lo {rows:List Nat} {k i a b:Nat} (hi:i < rows.length):aU (oP k rows i) a b=(aU rows a b || (decide (a=i) && (aU rows a k && aU rows k b))):=by grind [oP,aU,wj]
theorem zJ {rows:List Nat} {k:Nat} (hk:k < rows.length):∀ e,e<=rows.length->∀ a b,aU (gV rows k e) a b=(aU (j7 rows k) a b || (decide (a < e) && (aU (j7 rows k) a k && aU (j7 rows k) k b)))
 | 0,_,a,b=>by simp [gV]
 | e + 1,he,a,b=>by
  have ih:=zJ hk e (by omega)
  grind [mf,Lo,oe,aU,j7,og]
inductive uQ (p:Nat->Nat->Prop):Nat->Nat->Prop
 | refl (a:Nat):uQ p a a
 | step {a b c:Nat}:uQ p a b->p b c->uQ p a c
theorem uQ.trans {p:Nat->Nat->Prop} {a b c:Nat} (h1:uQ p a b) (h2:uQ p b c):uQ p a c:=by
 induction h2 with
 | refl=>exact h1
 | step _ h ih=>exact .step ih h
theorem uQ.mono {p q:Nat->Nat->Prop} (h:∀ a b,p a b->uQ q a b) {a b:Nat} (h1:uQ p a b):uQ q a b:=by
 induction h1 with
 | refl=>exact .refl _
 | step _ h2 ih=>exact ih.trans (h _ _ h2)
def wayQ (p:Nat->Nat->Prop):Nat->Nat->Nat->Prop
 | 0,a,b=>a=b∨p a b
 | k + 1,a,b=>wayQ p k a b∨(wayQ p k a k/\wayQ p k k b)
theorem zK {p:Nat->Nat->Prop} (a:Nat):∀ k,wayQ p k a a
 | 0=>.inl rfl
 | k + 1=>.inl (zK a k)
theorem zL {p:Nat->Nat->Prop} {a b:Nat} (h:p a b):∀ k,wayQ p k a b
 | 0=>.inr h
 | k + 1=>.inl (zL h k)
theorem qD {p:Nat->Nat->Prop}:∀ k a b,wayQ p k a b->uQ p a b
 | 0,a,b,h=>by
  rcases h with rfl | h
  ·exact .refl _
  ·exact .step (.refl _) h
 | k + 1,a,b,h=>by
  rcases h with h | ⟨h1,h2⟩
  ·exact qD k a b h
  ·exact (qD k a k h1).trans (qD k k b h2)
theorem mg {p:Nat->Nat->Prop}:∀ k a m b,m < k->wayQ p k a m->wayQ p k m b->wayQ p k a b
 | 0,_,_,_,h,_,_=>by omega
 | k + 1,a,m,b,hm,h1,h2=>by
  by_cases Yc:m=k
  ·grind [wayQ]
  ·have rL:m < k:=by omega
   rcases h1 with h1 | ⟨h1,h3⟩
   ·rcases h2 with h2 | ⟨h2,h4⟩
    ·exact .inl (mg k a m b rL h1 h2)
    ·exact .inr ⟨mg k a m k rL h1 h2,h4⟩
   ·rcases h2 with h2 | ⟨h2,h4⟩
    ·exact .inr ⟨h1,mg k k m b rL h3 h2⟩
    ·exact .inr ⟨h1,h4⟩
theorem wm {rows:List Nat}:∀ k,k<=rows.length->∀ a b,a < rows.length->((aU (closeR rows k) a b=true∨a=b)↔wayQ (fun x y=>aU rows x y=true) k a b)/\(a < k->aU (closeR rows k) a a=true)
 | 0,_,a,b,_=>by grind [closeR,wayQ]
 | k + 1,hk,a,b,ha=>by
  have ih:=wm (rows:=rows) k (by omega);have lG:k < (closeR rows k).length:=by rw [fv];omega
  have hb:∀ a b,a < rows.length->aU (closeR rows (k + 1)) a b=(aU (j7 (closeR rows k) k) a b || (aU (j7 (closeR rows k) k) a k && aU (j7 (closeR rows k) k) k b)):=fun a b ha=>by grind [kv,zJ,fv]
  have JV:∀ a b,(aU (j7 (closeR rows k) k) a b=true∨a=b)↔(aU (closeR rows k) a b=true∨a=b):=fun a b=>by grind [og]
  have pN:aU (j7 (closeR rows k) k) k k=true:=by rw [og lG];simp
  have key:∀ a b,a < rows.length->((aU (closeR rows (k + 1)) a b=true∨a=b)↔wayQ (fun x y=>aU rows x y=true) (k + 1) a b):=fun a b ha=>by grind [wayQ]
  refine ⟨key a b ha,fun UJ=>?_⟩;rw [hb a a ha];by_cases h:a=k
  ·subst h;rw [pN];all_goals rfl
  ·have:=(ih a a ha).2 (by omega);rw [og lG,this];all_goals rfl
theorem Hn {rows:List Nat} (hb:∀ a b,a < rows.length->aU rows a b=true->b < rows.length) {a b:Nat} (ha:a < rows.length) (hbl:b < rows.length):aU (closeR rows rows.length) a b=true↔uQ (fun x y=>x < rows.length/\aU rows x y=true) a b:=by
 have hw:=wm (rows:=rows) rows.length (aQ _) a b ha;have h1:aU (closeR rows rows.length) a b=true↔wayQ (fun x y=>aU rows x y=true) rows.length a b:=by grind
 rw [h1];constructor
 ·intro h
  have au:∀ {x},uQ (fun x y=>aU rows x y=true) a x->uQ (fun x y=>x < rows.length/\aU rows x y=true) a x/\x < rows.length:=by
   intro x hx
   induction hx with
   | refl=>exact ⟨.refl _,ha⟩
   | step _ h2 ih=>exact ⟨.step ih.1 ⟨ih.2,h2⟩,hb _ _ ih.2 h2⟩
  exact (au (qD _ _ _ h)).1
 ·intro h
  have:wayQ (fun x y=>aU rows x y=true) rows.length a b/\b < rows.length:=by
   clear h1 hw hbl
   induction h with
   | refl=>exact ⟨zK _ _,ha⟩
   | step _ h2 ih=>exact ⟨mg _ _ _ _ ih.2 ih.1 (zL h2.2 _),hb _ _ h2.1 h2.2⟩
  exact this.1
theorem OW {rows:List Nat} {p:Nat × Nat} {a b:Nat} (hp:p.1 < rows.length):aU (we rows p) a b=(aU rows a b || (decide (a=p.1) && decide (b=p.2))):=by
 unfold we;rw [wj hp];by_cases h:a=p.1
 ·subst h;rw [ap rfl,j5];simp only [decide_true,Bool.true_and];rw [show decide (p.2=b)=decide (b=p.2) from by simp only [eq_comm]];rfl
 ·rw [aj h];simp [h]
theorem zM:∀ (l:List (Nat × Nat)) (rows:List Nat) (a b:Nat),(∀ p∈l,p.1 < rows.length)->(aU (l.foldl we rows) a b=true↔aU rows a b=true∨(a,b)∈l)
 | [],_,_,_,_=>by simp
 | p :: l,rows,a,b,h=>by
  rw [List.foldl_cons,zM l _ a b (fun q hq=>by rw [qB];exact h q (by simp [hq])),OW (h p (by simp))]
  grind
theorem wo {n:Nat} {l:List (Nat × Nat)} (h:∀ p∈l,p.1 < n) (a b:Nat):aU (fu n l) a b=true↔(a,b)∈l:=by grind [fu,zM,aU]
def eQ (n:Nat) (l:List (Nat × Nat)) (a b:Nat):Bool:=aU (closeR (fu n l) n) a b
def r7 (n:Nat) (l:List (Nat × Nat)):Prop:=∀ p∈l,p.1 < n/\p.2 < n
theorem nv {n:Nat} {l:List (Nat × Nat)} (h:r7 n l) {a b:Nat} (ha:a < n) (hb:b < n):eQ n l a b=true↔uQ (fun x y=>(x,y)∈l) a b:=by
 have hlen:(fu n l).length=n:=j6 n l;unfold eQ
 have:=Hn (rows:=fu n l) (fun a b _ OP=>by
  rw [wo (fun p hp=>(h p hp).1)] at OP
  rw [hlen];exact (h _ OP).2) (a:=a) (b:=b) (by omega) (by omega)
 rw [hlen] at this;rw [this];constructor
 ·exact uQ.mono fun x y KZ=>.step (.refl _) ((wo (fun p hp=>(h p hp).1) x y).1 KZ.2)
 ·exact uQ.mono fun x y KZ=>.step (.refl _) ⟨(h _ KZ).1,(wo (fun p hp=>(h p hp).1) x y).2 KZ⟩
theorem r8 {n:Nat} {l:List (Nat × Nat)} (h:r7 n l) {a:Nat} (ha:a < n):eQ n l a a=true:=(nv h ha ha).2 (.refl _)
theorem Ho {n:Nat} {l:List (Nat × Nat)} (h:r7 n l) {a b c:Nat} (ha:a < n) (hb:b < n) (hc:c < n) (h1:eQ n l a b=true) (h2:eQ n l b c=true):eQ n l a c=true:=
 (nv h ha hc).2 (((nv h ha hb).1 h1).trans ((nv h hb hc).1 h2))
def kx (n:Nat) (f:Nat->Nat->Bool) (a:Nat):Bool:=(List.range n).any fun b=>decide (a≠b) && (f a b && f b a)
theorem OX {n:Nat} {l:List (Nat × Nat)} (hn:n<=64) (h:r7 n l) {a:Nat} (ha:a < n):qC (closeR (fu n l) n) a=kx n (eQ n l) a:=by
 have hlen:(closeR (fu n l) n).length=n:=by rw [fv,j6]
 unfold qC kx;rw [OU,hlen,Bool.eq_iff_iff,decide_eq_true_eq]
 have haa:(backN (closeR (fu n l) n) a n).testBit a=true:=by
  rw [rZ];have:aU (closeR (fu n l) n) a a=true:=r8 h ha;simp [ha,this]
 rw [Ej _ a haa 64 (by omega)];simp only [List.any_eq_true,List.mem_range,aP,decide_eq_true_eq,rZ];constructor
 ·rintro ⟨b,_,bf,hb,h1,h2⟩;exact ⟨b,hb,fun e=>bf e.symm,h1,h2⟩
 ·rintro ⟨b,hb,bf,h1,h2⟩;exact ⟨b,by omega,fun e=>bf e.symm,hb,h1,h2⟩
theorem BI {p q:Nat->Bool} {n:Nat} (h:∀ a,a < n->p a=q a):bB p n=bB q n:=by
 unfold bB
 have:∀ (l:List Nat),(∀ a∈l,p a=q a)->l.find? p=l.find? q:=by
  intro l
  induction l with
  | nil=>intro _;rfl
  | cons x r ih=>grind
 grind
theorem Sd {n:Nat} {l:List (Nat × Nat)} (hn:n<=64) (h:r7 n l):bB (qC (closeR (fu n l) n)) n=bB (kx n (eQ n l)) n:=
 BI fun _ ha=>OX hn h ha
def gW (r:List Bool) (p:Nat × Nat):List Bool:=if r.getD p.1 false then r.set p.2 true else r
def iK (l:List (Nat × Nat)) (r:List Bool):List Bool:=l.foldl gW r
def cR (l:List (Nat × Nat)) (r:List Bool) (k:Nat):List Bool:=(List.range k).foldl (fun r _=>iK l r) r
def uw (n:Nat) (l:List (Nat × Nat)) (a:Nat):List Bool:=cR l ((List.replicate n false).set a true) n
theorem eJ (l:List (Nat × Nat)) (r:List Bool) (k:Nat):cR l r (k + 1)=iK l (cR l r k):=by simp [cR,List.range_succ]
theorem lg (r:List Bool) (p:Nat × Nat):(gW r p).length=r.length:=by unfold gW;split<;>simp
theorem ph (l:List (Nat × Nat)):∀ r,(iK l r).length=r.length:=by
 induction l with
 | nil=>intro r;rfl
 | cons p l ih=>intro r;simp only [iK,List.foldl_cons] at ih ⊢;rw [ih,lg]
theorem fw (l:List (Nat × Nat)) (r:List Bool):∀ k,(cR l r k).length=r.length
 | 0=>by simp [cR]
 | k + 1=>by rw [eJ,ph,fw]
theorem qE (n:Nat) (l:List (Nat × Nat)) (a:Nat):(uw n l a).length=n:=by simp [uw,fw]
def Se (r s:List Bool):Prop:=∀ i:Nat,r.getD i false=true->s.getD i false=true
theorem j8 {r:List Bool} {i j:Nat} (hi:i < r.length):(r.set i true).getD j false=(decide (j=i) || r.getD j false):=by grind
theorem Ek {r:List Bool} {p:Nat × Nat} (hp:p.2 < r.length):Se r (gW r p):=by
 intro i hi
 grind [gW,j8]
theorem oh:∀ {l:List (Nat × Nat)} {r:List Bool},(∀ p∈l,p.2 < r.length)->Se r (iK l r)
 | [],r,_,i,hi=>hi
 | p :: l,r,h,i,hi=>by
  have:Se (gW r p) (iK l (gW r p)):=oh fun q hq=>by rw [lg];exact h q (by simp [hq])
  exact this i (Ek (h p (by simp)) i hi)
def wu (r:List Bool):Nat:=r.countP (fun x=>x)
theorem JW (r:List Bool):wu r<=r.length:=List.countP_le_length
theorem wv:∀ {r s:List Bool},r.length=s.length->Se r s->(r=s∨wu r < wu s)/\wu r<=wu s
 | [],[],_,_=>⟨.inl rfl,aQ _⟩
 | x :: r,y :: s,hl,h=>by
  have zl:r.length=s.length:=sU hl;have ih:=wv zl (fun i hi=>by simpa using h (i + 1) (sU hi));have h0:x=true->y=true:=fun hx=>by simpa using h 0 (sU hx)
  grind [wu]
 | [],_ :: _,h,_=>by simp at h
 | _ :: _,[],h,_=>by simp at h
theorem El {r s:List Bool} (hl:r.length=s.length) (h1:Se r s) (h2:Se s r):r=s:=by
 rcases (wv hl h1).1 with h | h
 ·exact h
 ·have:=(wv hl.symm h2).2;omega
theorem wx:∀ {l:List (Nat × Nat)} {r:List Bool},(∀ p∈l,p.2 < r.length)->iK l r=r->∀ p∈l,r.getD p.1 false=true->r.getD p.2 false=true
 | [],_,_,_,p,hp,_=>by cases hp
 | q :: l,r,h,he,p,hp,h1=>by
  have hq:=h q (by simp);have hl:∀ p∈l,p.2 < (gW r q).length:=fun p hp=>by rw [lg];exact h p (by simp [hp])
  have hs:gW r q=r:=by
   have h2:Se (gW r q) r:=by
    have:=oh hl
    grind [iK,gW]
   grind [El,lg,Ek]
  rcases cO hp with rfl | hp
  ·grind [gW,j8]
  ·have KW:iK l r=r:=by grind [iK,gW]
   exact wx (fun p hp=>h p (by simp [hp])) KW p hp h1
theorem tz {l:List (Nat × Nat)} {r:List Bool} (h:∀ p∈l,p.2 < r.length):∀ k,iK l (cR l r k)=cR l r k∨wu r + k<=wu (cR l r k)
 | 0=>.inr (by simp [cR])
 | k + 1=>by
  have hk:∀ p∈l,p.2 < (cR l r k).length:=fun p hp=>by rw [fw];exact h p hp
  rcases tz h k with h1 | h1
  ·left;rw [eJ,h1,h1]
  ·rcases (wv (ph l _).symm (oh hk)).1 with h2 | h2
   ·left;rw [eJ,<- h2,<- h2]
   ·right;rw [eJ];omega
theorem Lp {l:List (Nat × Nat)} {a:Nat} {r:List Bool} {p:Nat × Nat} (hp:p∈l) (hl:p.2 < r.length) (h:∀ i,r.getD i false=true->uQ (fun x y=>(x,y)∈l) a i):∀ i,(gW r p).getD i false=true->uQ (fun x y=>(x,y)∈l) a i:=by
 intro i hi;unfold gW at hi;split at hi
 ·rename_i h1;rw [j8 hl] at hi;simp only [Bool.or_eq_true,decide_eq_true_eq] at hi;rcases hi with rfl | hi
  ·exact .step (h _ h1) hp
  ·exact h i hi
 ·exact h i hi
theorem wy {l:List (Nat × Nat)} {a:Nat}:∀ (m:List (Nat × Nat)) {r:List Bool},(∀ p∈m,p∈l/\p.2 < r.length)->(∀ i,r.getD i false=true->uQ (fun x y=>(x,y)∈l) a i)->∀ i,(iK m r).getD i false=true->uQ (fun x y=>(x,y)∈l) a i
 | [],_,_,h=>h
 | p :: m,r,hm,h=>wy m (r:=gW r p) (fun q hq=>by rw [lg];exact hm q (by simp [hq])) (Lp (hm p (by simp)).1 (hm p (by simp)).2 h)
theorem tA {l:List (Nat × Nat)} {a:Nat} {r:List Bool} (hl:∀ p∈l,p.2 < r.length) (h:∀ i,r.getD i false=true->uQ (fun x y=>(x,y)∈l) a i):∀ k i,(cR l r k).getD i false=true->uQ (fun x y=>(x,y)∈l) a i
 | 0=>by simpa [cR] using h
 | k + 1=>by
  rw [eJ];exact wy l (fun p hp=>⟨hp,by rw [fw];exact hl p hp⟩) (tA hl h k)
theorem wz {l:List (Nat × Nat)} {r:List Bool} (hl:∀ p∈l,p.2 < r.length):∀ k,Se r (cR l r k)
 | 0=>by intro i hi;simpa [cR] using hi
 | k + 1=>fun i hi=>by
  rw [eJ];exact oh (fun p hp=>by rw [fw];exact hl p hp) i (wz hl k i hi)
theorem OY {n a:Nat} (ha:a < n):1<=wu ((List.replicate n false).set a true):=by grind [wu]
theorem OZ {n:Nat} {l:List (Nat × Nat)} (h:r7 n l) {a b:Nat} (ha:a < n) (hb:b < n):(uw n l a).getD b false=eQ n l a b:=by
 have hl:∀ p∈l,p.2 < ((List.replicate n false).set a true).length:=fun p hp=>by simp;exact (h p hp).2
 have uL:a < (List.replicate n false).length:=by simp [ha]
 rw [Bool.eq_iff_iff,nv h ha hb];constructor
 ·refine tA hl (fun i hi=>?_) n b;rw [j8 uL] at hi;simp only [Bool.or_eq_true,decide_eq_true_eq] at hi;rcases hi with rfl | hi
  ·exact .refl _
  all_goals grind
 ·have hfix:iK l (uw n l a)=uw n l a:=by
   rcases tz hl n with h1 | h1
   ·exact h1
   ·grind [JW,cR,fw,OY]
  have jH:=wx (fun p hp=>by rw [qE];exact (h p hp).2) hfix;intro hr;have haa:(uw n l a).getD a false=true:=wz hl n a (by rw [j8 uL];simp);clear hb
  induction hr with
  | refl=>exact haa
  | step _ h2 ih=>exact jH _ h2 ih
def dW (n:Nat) (f:Nat->Nat->Bool):List (List Bool):=(List.range n).map fun a=>(List.range n).map (f a)
theorem Sf {n:Nat} {l:List (Nat × Nat)} (h:r7 n l) {a:Nat} (ha:a < n):uw n l a=(List.range n).map (eQ n l a):=by
 refine List.ext_getElem? fun i=>?_;by_cases hi:i < n
 ·have:=OZ h ha hi
  grind [qE]
 ·grind [qE]
theorem Em {n:Nat} {f:Nat->Nat->Bool} {a:Nat} (ha:a < n):(dW n f)[a]? = some ((List.range n).map (f a)):=by
 simp [dW,List.getElem?_range ha]
theorem Lq {l:List Wd} {i:Nat} {x:Wd} (h:l[i]? = some x):aA (l.take (i + 1))=aA (l.take i) ++ [x.s]:=by
 rw [List.take_add_one,h];simp [aA]
theorem Sg (l:List Wd) (s:ByteArray):cH l s=true↔s∈aA l:=by grind [cH,aA]
theorem mh {l:List Wd} {i:Nat} {x:Wd} (h:l[i]? = some x) (hn:(aA (l.take i)).Nodup):(aA (l.take (i + 1))).Nodup↔cH (l.take i) x.s=false:=by grind [Lq,cH,Sg]
theorem zN {l:List Wd} {i:Nat} {x:Wd} (a:Int) (h:l[i]? = some x) (hn:(aA (l.take i)).Nodup) :
  gQ (aA (l.take (i + 1))) x.s a=if aG l i x≠0 then (aG l i x,a) else (0,0):=by
 have hs:=mh h hn;unfold gQ aG;by_cases h1:bd x.s=true
 ·grind
 ·rw [aj h1,aj h1];all_goals rfl
theorem mi {l:List Wd} {i:Nat} {x:Wd} (h:l[i]? = some x) (hn:(aA (l.take i)).Nodup) (hz:aG l i x=0):(aA (l.take (i + 1))).Nodup:=by grind [mh,aG,bd,cH]
theorem zO (l:List Wd):∀ (d e:Nat),e + d=l.length->(enumP l e)=(0,0)->(aA (l.take e)).Nodup->enumP l l.length=enumL l e (l.drop e)
 | 0,e,hd,hz,hn=>by
  have:e=l.length:=by omega
  subst this;rw [hz,List.drop_length];all_goals rfl
 | d + 1,e,hd,hz,hn=>by
  obtain ⟨x,hx⟩:∃ x,l[e]? = some x:=⟨_,gE (by omega)⟩;have h1:=vY (by rw [hz]) hx;rw [zN x.a hx hn] at h1;rw [drop_cons hx];simp only [enumL];by_cases hf:aG l e x≠0
  ·rw [ap hf] at h1 ⊢;have aW:=pe (l:=l) (e:=e + 1) (by rw [h1];exact hf) d
   grind
  ·rw [aj hf] at h1 ⊢;exact zO l d (e + 1) (by omega) h1 (mi hx hn (sU hf))
theorem O0 (h:Hd):nr h=iG h:=by
 unfold nr iG;by_cases h0:h.af=[]
 ·rw [ap h0,ap (by simp [h0])]
 ·rw [aj h0,aj (sU h0)];by_cases h1:64 < h.af.length
  ·rw [ap h1,ap h1]
  ·rw [aj h1,aj h1];have:=zO h.af h.af.length 0 (by omega) rfl (by simp [aA]);simpa using this
def pj (p:Ph):Ph:=⟨p.name,true,[],0,0,0,0,[]⟩
theorem Sh (p:Ph) (t:Ty):dg p t (pj p) cJ=(cC p jo && sameTy t cJ):=by grind [cC,pj,jo,dg]
theorem empty_eq (p:Ph):dg p cJ fp cJ=(decide (p.name.s=av) && cC p fp):=by
 have e:sameTy cJ cJ=true:=by simp [cJ,N4,sameTy,kJ,samePts,sameWds]
 simp only [dg,e,Bool.and_true];rfl
def cV (L:List ByteArray) (s:ByteArray):Option Nat:=bB (fun i=>decide (L[i]? = some s)) L.length
theorem dh {L:List ByteArray} {s:ByteArray} {p:Nat} (h:cV L s=some p):p < L.length/\L[p]? = some s/\∀ j,L[j]? = some s->p<=j:=by
 obtain ⟨h1,h2,h3⟩:=dN h
 grind
theorem BJ {L:List ByteArray} {s:ByteArray} {p:Nat} (h1:L[p]? = some s) (h2:∀ j,L[j]? = some s->p<=j):cV L s=some p:=by
 refine cI (gS h1).1 (sU h1) fun a ha=>?_
 grind
theorem r9 {L:List ByteArray} {s:ByteArray} (h:∀ j:Nat,L[j]? ≠ some s):cV L s=none:=cT fun a _=>by simpa using h a
theorem yM {L:List ByteArray} {s:ByteArray}:cV L s=none↔s ∉ L:=by
 constructor
 ·intro h hm;obtain ⟨j,hj⟩:=List.mem_iff_getElem?.1 hm
  grind [cV,bB]
 ·grind [r9]
theorem iL (L:List ByteArray) (aF:List Nat) (s:ByteArray) (hT:ij L aF) (hl:aF.length<=1099511627776) :
  EvP prog 115 [.pt (cQ L aF) 0,.v (.string s)] (OV (cV L s)):=by
 by_cases hm:s∈L
 ·obtain ⟨j,hj⟩:=List.mem_iff_getElem?.1 hm;obtain ⟨q,p,hq,hp⟩:=hT.all j s hj;rw [BJ hp fun j' jw=>hT.fst q p j' s hq hp jw];exact find_spec L aF s q p hT hl hq hp
 rw [r9 fun j hj=>hm (mG hj)]
 let pr:Nat->Prop:=fun i=>i=aF.length∨∃ p t,aF[i]? = some p/\L[p]? = some t/\Bm t s=false
 obtain ⟨m,jk,A5⟩:=least (p:=pr) ⟨aF.length,.inl rfl⟩;have hmn:m<=aF.length:=A5 _ (.inl rfl);refine eG 47 [.tmp 4,.tmp 5] func115 rfl ntmps115 rfl fun _ _ _ _=>?_
 have jH:∀ i:Nat,i < aF.length->EvP prog 201 [.v (.int .i64 i),.pt [.pt (cQ L aF) 0] 0,.pt [.v (.string s)] 0] (.v (.bool (decide (m<=i)))):=by
  intro i hi;obtain ⟨p',yI⟩:∃ p',aF[i]? = some p':=⟨_,gE hi⟩;obtain ⟨t,ht⟩:∃ t,L[p']? = some t:=⟨_,gE (hT.lt i p' yI)⟩;have:=vM L aF s i p' t yI ht
  have e:(!Bm t s)=decide (m<=i):=by
   by_cases h:m<=i
   ·have:Bm t s=false:=by
     rcases jk with jk | ⟨p,u,h1,h2,h3⟩
     ·omega
     ·rcases Nat.lt_or_eq_of_le h with h4 | h4
      ·have h5:=hT.srt m i p p' u t h4 h1 yI h2 ht;cases h6:Bm t s
       ·rfl
       ·grind [gk,Bm]
      ·grind
    simp [this,h]
   ·grind
  rw [e] at this;exact this
 have hS:=tj 201 Uc [.pt [.pt (cQ L aF) 0] 0,.pt [.v (.string s)] 0] aF.length m hl hmn ax rfl jH;refine Bh Ub hS (rz (bz aF)) rfl ?_;refine dI ?_;refine br ?_ ?_<;>intro h
 ·have au:m < aF.length:=by grind [dInts,bz]
  rcases jk with jk | ⟨p,t,h1,h2,h3⟩
  ·omega
  refine iX (ef h1) ?_;refine iX (fc h2) ?_;refine br ?_ ?_<;>intro h4
  ·exact ⟨_,ax,rfl⟩
  ·grind [aq]
 ·exact ⟨_,ax,rfl⟩
def fW (l:List Wd) (o:List (Wd × Wd)):Ft:=
 if l=[] then (15,0)
 else if 32 < l.length then (8,((l[32]?).getD (⟨av,0⟩:Wd)).a)
 else if 256 < o.length then (8,((o[256]?).getD ((⟨av,0⟩,⟨av,0⟩):Wd × Wd)).1.a)
 else (0,0)
theorem Lr (l:List Wd) (o:List (Wd × Wd)):EvP prog 103 [.sl 2 (bG l) none,.sl 4 (mS o) none] (fW l o).d:=by
 refine eG 30 [.cell 4 44] func103 rfl ntmps103 rfl fun _ _ _ _=>?_;refine br ?_ ?_<;>intro h
 ·have h:l=[]:=by simpa [aC] using h
  refine ⟨_,?_,rfl⟩;rw [fW,ap h];exact ax
 have h:¬ l=[]:=by simpa [aC] using h
 refine br ?_ ?_<;>intro h1
 ·have h1:32 < l.length:=by simp [aC] at h1;omega
  obtain ⟨x,hx⟩:∃ x,l[32]? = some x:=⟨_,gE h1⟩;refine ⟨j2 x,⟨by omega,aT hx⟩,?_⟩;refine ⟨_,?_,rfl⟩;rw [fW,aj h,ap h1,hx];exact ax
 have h1:¬ 32 < l.length:=by simp [aC] at h1;omega
 refine br ?_ ?_<;>intro h2
 ·have h2:256 < o.length:=by simp [fV] at h2;omega
  obtain ⟨x,hx⟩:∃ x,o[256]? = some x:=⟨_,gE h2⟩;refine ⟨MQ x,⟨by omega,gT hx⟩,?_⟩;refine ⟨_,?_,rfl⟩;rw [fW,aj h,aj h1,ap h2,hx];exact ax
 have h2:¬ 256 < o.length:=by simp [fV] at h2;omega
 refine ⟨_,?_,rfl⟩;rw [fW,aj h,aj h1,aj h2];exact ax
def aaX (f:Ft) (L:List ByteArray):DV:=.tup [if f.1=0 then .sl 1 (eV L) none else .v (.slice none 0 0),f.d]
abbrev UK (l:List Wd) (n e:Nat):St:=
 ⟨[aE 3 0,(4,⟨[],.sl 1 (eV (aA (l.take e))) (some 0)⟩),bh 7 2 (bG l),ay 8 ((bG l).length),ay 9 e],[[.v (.int .i64 0),.v (.int .i64 0)]],[⟨n,9,1,none⟩]⟩
theorem pk {all:List Wd} {e:Nat} {w:Wd} (h:all[e]? = some w):enumL all e (all.drop e)=if aG all e w≠0 then (aG all e w,w.a) else enumL all (e + 1) (all.drop (e + 1)):=by
 rw [drop_cons h,enumL]
theorem Eo (l:List Wd) (hs:wdsWt l<=1099511627776):EvP prog 104 [.sl 2 (bG l) none] (aaX (enumL l 0 l) (aA l)):=by
 have mW:=bu l;refine eG 36 [.tmp 2,.cell 3 44] func104 rfl ntmps104 rfl fun _ _ _ _=>?_;refine lI (fun j st=>∃ e:Nat,st=UK l e e/\e<=l.length/\(aA (l.take e)).Nodup/\enumL l 0 l=enumL l e (l.drop e)/\j=l.length - e) ⟨0,rfl,by omega,by simp [aA],rfl,rfl⟩ (fU ⟨0,9,1,none⟩ rfl ⟨_,rfl⟩ rfl wA rfl rfl kj) ?_;rintro j st ⟨e,rfl,he,hnd,aO,rfl⟩;rw [aO];refine br ?_ ?_<;>intro hL
 ·have au:e < l.length:=by simpa [aC] using hL
  obtain ⟨w,hw⟩:=gX au;have Gz:=iE (mG hw);have ek:=jI hw;have aW:=pk hw;have uq:=mh hw hnd;have O1:=pa (aA (l.take (e + 1))) (by simp [aA];omega);rw [<- ek] at O1;refine ⟨j2 w,⟨by omega,aT hw⟩,?_⟩;refine ⟨by simp [cg,aA];omega,⟨by simp [cg,aA,maxLen];omega,by simp [cg,aA];omega⟩,?_⟩;refine cP tf (gv w.s (by omega)) ?_;refine br ?_ ?_<;>intro hN
  ·have hN:bd w.s=false:=sU hN;have hf:aG l e w=9:=by simp [aG,hN]
   rw [aW,hf,ap (by decide)];refine dS ?_;exact ⟨_,ax,rfl⟩
  ·have hN:bd w.s=true:=sU hN;refine bS NI rfl O1 ax (fun r hr=>?_);obtain ⟨z,rfl,hz⟩:=hr;refine br ?_ ?_<;>intro h2
   ·have h2:0<=z:=sU h2;have hd:cH (l.take e) w.s=true:=by grind
    have hf:aG l e w=10:=by simp [aG,hN,hd]
    rw [aW,hf,ap (by decide)];refine dS ?_;exact ⟨_,ax,rfl⟩
   ·have h2:¬ 0<=z:=sU h2;have yK:(aA (l.take (e + 1))).Nodup:=Classical.byContradiction fun hn=>h2 (hz.2 hn);have hf:aG l e w=0:=by simp [aG,hN,uq.1 yK]
    rw [hf,aj (by simp)] at aW;refine ⟨UK l (e + 1) (e + 1),(bp (iT (aN au (by omega)) ek)),l.length - (e + 1),by omega,e + 1,rfl,by omega,yK,aW,rfl⟩
 ·have hge:e=l.length:=by
   have:=hL;simp [aC] at this;omega
  have h0:enumL l e (l.drop e)=(0,0):=by rw [hge,List.drop_length];all_goals rfl
  rw [h0];have ht:l.take e=l:=by rw [hge,List.take_length]
  rw [ht];exact ⟨_,ax,rfl⟩
def numF (L:List ByteArray):List (Wd × Wd)->Ft
 | []=>(0,0)
 | p :: r=>if cV L p.1.s=none then (17,p.1.a) else if cV L p.2.s=none then (17,p.2.a) else numF L r
def WD (L:List ByteArray) (p:Wd × Wd):Nat × Nat:=((cV L p.1.s).getD 0,(cV L p.2.s).getD 0)
def dz (L:List ByteArray) (o:List (Wd × Wd)):List (Nat × Nat):=o.map (WD L)
def aaY (f:Ft) (l:List (Nat × Nat)):DV:=.tup [if f.1=0 then .sl 2 (mb l) none else .v (.slice none 0 0),f.d]
theorem zP {L:List ByteArray} {o:List (Wd × Wd)} {e a b:Nat} {x:Wd × Wd} (h:o[e]? = some x) (ha:cV L x.1.s=some a) (hb:cV L x.2.s=some b):mb (dz L (o.take e)) ++ [[DV.v (.int .i64 (a:Int)),DV.v (.int .i64 (b:Int))]]=mb (dz L (o.take (e + 1))):=by
 rw [List.take_add_one,h];simp [mb,dz,WD,ha,hb,dNP]
abbrev UL (L:List ByteArray) (aF:List Nat) (o:List (Wd × Wd)) (n e:Nat):St:=
 ⟨[mQ 0 (cQ L aF),aE 5 0,(6,⟨[],.sl 2 (mb (dz L (o.take e))) (some 0)⟩),bh 12 4 (mS o),ay 13 ((mS o).length),ay 14 e],[[.v (.int .i64 0),.v (.int .i64 0)]],[⟨n,291,2,none⟩]⟩
theorem yN (L:List ByteArray) (aF:List Nat) (hT:ij L aF) (hl:aF.length<=1099511627776) (o:List (Wd × Wd)) (hs:prsWt o<=1099511627776) :
  EvP prog 106 [.pt (cQ L aF) 0,.sl 4 (mS o) none] (aaY (numF L o) (dz L o)):=by
 have mW:=iI o;refine eG 55 [.tmp 4,.cell 5 44] func106 rfl ntmps106 rfl fun _ _ _ _=>?_;refine lI (fun j st=>∃ e:Nat,st=UL L aF o e e/\e<=o.length/\numF L o=numF L (o.drop e)/\j=o.length - e) ⟨0,rfl,by omega,rfl,rfl⟩ (fU ⟨0,291,2,none⟩ rfl ⟨_,rfl⟩ rfl wA rfl rfl kj) ?_;rintro j st ⟨e,rfl,he,aO,rfl⟩;rw [aO];refine br ?_ ?_<;>intro hL
 ·have au:e < o.length:=by simpa [fV] using hL
  obtain ⟨w,hw⟩:=gX au;have aW:numF L (o.drop e)=if cV L w.1.s=none then (17,w.1.a) else if cV L w.2.s=none then (17,w.2.a) else numF L (o.drop (e + 1)):=by rw [drop_cons hw,numF]
  have JP:=iL L aF w.1.s hT hl;have yG:=iL L aF w.2.s hT hl;refine ⟨MQ w,⟨by omega,gT hw⟩,?_⟩
  cases ha:cV L w.1.s with
  | none=>
   rw [ha] at JP;refine cP ni JP ?_;rw [aW,ap ha];refine dS ?_;exact ⟨_,ax,rfl⟩
  | some a=>
   rw [ha] at JP;refine cP ni JP ?_
   cases hb:cV L w.2.s with
   | none=>
    rw [hb] at yG;refine cP ni yG ?_;rw [aW,aj (by rw [ha];simp),ap hb];refine dS ?_;exact ⟨_,ax,rfl⟩
   | some b=>
    rw [hb] at yG;refine cP ni yG ?_;rw [aj (by rw [ha];simp),aj (by rw [hb];simp)] at aW;refine ⟨by simp [gU,dz];omega,⟨by simp [gU,dz,maxLen];omega,by simp [gU,dz];omega⟩,?_⟩;refine ⟨UL L aF o (e + 1) (e + 1),(bp (iT (aN au (by omega)) (zP hw ha hb))),o.length - (e + 1),by omega,e + 1,rfl,by omega,aW,rfl⟩
 ·have hge:e=o.length:=by
   have:=hL;simp [fV] at this;omega
  have h0:numF L (o.drop e)=(0,0):=by rw [hge,List.drop_length];all_goals rfl
  rw [h0];have ht:o.take e=o:=by rw [hge,List.take_length]
  rw [ht];exact ⟨_,ax,rfl⟩
end Go.Proofs.YtgjagnmeonoehaaGreat
