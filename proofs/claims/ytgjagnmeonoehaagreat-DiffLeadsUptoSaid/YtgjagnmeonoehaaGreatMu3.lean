/- Part 3 of the proof: names.New: the table; names.Twice: does a text stand earlier, too?; Contracts: the reference's words, Plain, Same, Zero, own; Contracts: the reference's Same, Zero, own; Contracts: the reference's Label, listed, names, Size, with, coarse; What is wrong with a type: the plain function; the reference's Wrong and parts return it; The program's checks of types: bad, listed, label, words; The program's checks of types: label, coarse; The program's comparing of names and types; The program's Same; The program's own, empty; The program's empty, enum; kinds.Right, once the checker's check is known; Numbers in tens: the reference's Put; Numbers in tens: the program's Put; The text of a type, plain; the reference's Label and comma; The reference's text of a type: Label, comma, part, Type; The reference's text of a part; The reference's text of a type; The library's strings.Join, laid at this program by the kit's tool (lay-plain; wip/tools/lay.sh); The program's text of a label, of what stands behind a part's type, of lists; The program's text of a type: field, tag, kind; unparse.Type, once the checker's check is known; A type with which nothing is wrong is fine for its text; Readable data as data of the evaluator: what the statement's form reads of an argument is a datum of the evaluator, of the argument's type, no heavier than what was read; What is read of a type, as the plain data; From a contract over data to what a law's statement asks: the arguments are read, the call returns true, all that was there stays; What all laws' frames share: the bulk, the program's closed facts; Types without places: plain, and the program's kinds.Strip; Schemas: plain, as the evaluator has them, without places; What is read of a schema, as the plain data; What the frames of laws over schemas share; The program's closed facts, each by itself (all at once they ask more memory than a Lean process has); Relations as rows of bits: plain, and rel's functions that read; rel.back: who leads to a thing and is led to by it; rel.New: the rows of a list of pairs; rel.Close: the closure, by rows; The number of bits that are set, as the library reckons it; math/bits.OnesCount64; When two bits are set; rel.Loop: the least thing in a loop; The plain law of closeR: its bits are what is led to; The program's and the reference's check of names that must differ; The table's Find, whole; lattice.many, called, numbered. No condition. -/
import Derived.Laws.StructEq
import Derived.Shelf.Strings.OnBuilder
import Derived.Deep.Slices
import Derived.ChangeArms
import Derived.DataReads
import Derived.WalkKit
import Derived.ProofKit
import Derived.OpenShut
import Derived.Carry
import Derived.JoinedCond
import Derived.Test.YtgjagnmeonoehaaGreatRows
import Derived.Test.YtgjagnmeonoehaaGreatMu2
set_option linter.all false
set_option maxRecDepth 100000
namespace Go.Proofs.YtgjagnmeonoehaaGreat
open Go Go.RowKit Dv Go.Proofs.Tryz
theorem AN {n m:Nat} {tk:List TkE}:∀ ds:List Nat,WeL n m tk (dInts ds).flatten (dInts ds).flatten
 | []=>rfl
 | b :: r=>⟨_,_,rfl,aA rfl,AN r⟩
theorem rI {n m:Nat} {tk:List TkE} {l:List DV} {ds:List Nat} (h:l=(dInts ds).flatten):WeL n m tk l (dInts ds).flatten:=by rw [h];exact AN ds
def iU (n e:Nat):List Nat:=List.range e ++ List.replicate (n - e) 0
theorem MQ {n e:Nat} (h:e<=n):(iU n e).length=n:=by simp [iU];omega
theorem fillA_0 (n:Nat):(List.replicate n [DV.v (.int .i64 0)]).flatten=(dInts (iU n 0)).flatten:=by simp [iU,dInts]
theorem Uv (n:Nat):iU n n=List.range n:=by simp [iU]
theorem pw (ds:List Nat):(dInts ds).flatten=ds.map fun (i:Nat)=>DV.v (.int .i64 (i:Int)):=by
 induction ds with
 | nil=>rfl
 | cons x r ih=>simp only [dInts,List.map_cons,List.flatten_cons] at ih ⊢;rw [ih];all_goals rfl
theorem Iy {n e:Nat} (h:e < n):(dInts (iU n e)).flatten.take e ++ [DV.v (.int .i64 (e:Int))] ++ (dInts (iU n e)).flatten.drop (e + 1)=(dInts (iU n (e + 1))).flatten:=by
 simp only [pw,<- List.map_take,<- List.map_drop];have e1:(iU n e).take e=List.range e:=by simp [iU]
 have e2:(iU n e).drop (e + 1)=List.replicate (n - (e + 1)) 0:=by
  simp only [iU,List.drop_append,List.length_range];rw [List.drop_eq_nil_of_le (by simp),List.nil_append,List.drop_replicate];congr 1;omega
 rw [e1,e2];simp [iU,List.range_succ]
abbrev Qn (L:List ByteArray) (e:Nat):St:=
 ⟨[aF 3 1,aF 4 3,ay 16 ((fq L).length),ay 17 e],
  [[.sl 1 (fq L) (some 0),.v (.slice none 0 0)],[.loc 0 0],(dInts (iU (fq L).length e)).flatten,[.ms 2 1 0 (fq L).length (fq L).length]],[⟨(fq L).length,9,1,none⟩]⟩
def iF (L:List ByteArray) (ds:List Nat) (i:Nat):Bool:=decide (i=0) || !decide (L.getD (ds.getD i 0) av=L.getD (ds.getD (i - 1) 0) av)
def fK (L:List ByteArray) (ds:List Nat) (e:Nat):List Nat:=((List.range e).filter (iF L ds)).map fun i=>ds.getD i 0
theorem xG (L:List ByteArray) (ds:List Nat) (e:Nat):fK L ds (e + 1)=fK L ds e ++ (if iF L ds e=true then [ds.getD e 0] else []):=by
 unfold fK;rw [List.range_succ,List.filter_append,List.map_append];congr 1;cases h:iF L ds e<;>simp [h]
theorem MR (L:List ByteArray) (ds:List Nat) (e:Nat):(fK L ds e).length<=e:=by grind [fK]
abbrev YH (L:List ByteArray) (ds:List Nat):St:=
 ⟨[aF 3 1,iQ 4 [.sl 1 (dInts ds) none],bi 29 1 (dInts ds),ay 30 ((fq L).length),ay 31 0],
  [[.sl 1 (fq L) (some 0),.v (.slice none 0 0)],[.loc 0 0]],[⟨(fq L).length,9,1,none⟩]⟩
abbrev Fk (L:List ByteArray) (ds aJ:List Nat) (m e:Nat):St:=
 ⟨[aF 3 1,iQ 4 [.sl 1 (dInts ds) none],bi 29 1 (dInts ds),ay 30 ((fq L).length),ay 31 e],
  [[.sl 1 (fq L) (some 0),.sl 1 (dInts aJ) (some 1)],[.loc 0 0]],[⟨(fq L).length,9,1,none⟩,⟨m,3,1,none⟩]⟩
theorem getD_some {α:Type} {l:List α} {i:Nat} {x d:α} (h:l[i]? = some x):l.getD i d=x:=by simp [eO,h]
theorem tz {α:Type} {l:List α} {i:Nat} {d:α} (h:i < l.length):l[i]? = some (l.getD i d):=by grind
theorem YI {L:List ByteArray} {ds:List Nat} (pZ:ds.Perm (List.range L.length)) (Qj:∀ i j p q:Nat,i < j->ds[i]? = some p->ds[j]? = some q->Fh L q p=false):iT L (fK L ds L.length):=by
 have hlen:ds.length=L.length:=by rw [pZ.length_eq,List.length_range]
 let D:Nat->Nat:=fun i=>ds.getD i 0
 let T:Nat->ByteArray:=fun i=>L.getD (D i) av
 have hD:∀ i,i < L.length->ds[i]? = some (D i):=fun i hi=>tz (by omega)
 have hDn:∀ i,i < L.length->D i < L.length:=fun i hi=>by
  have:=pZ.mem_iff.1 (mG (hD i hi));exact List.mem_range.1 this
 have hT:∀ i,i < L.length->L[D i]? = some (T i):=fun i hi=>tz (hDn i hi);have gk:∀ i j,i < j->j < L.length->T i=T j∨CD (T i) (T j)=true:=by grind [Fh,K9]
 have ada:∀ i,i < L.length->iF L ds i=true->∀ j,j < i->CD (T j) (T i)=true:=by
  intro i hi hh j X5;have aY:T i≠T (i - 1):=by grind [iF]
  grind [CD,gU]
 have Ax:∀ j,j < L.length->∃ k,k < L.length/\D k=j:=by
  intro j hj;have:=pZ.mem_iff.2 (List.mem_range.2 hj);obtain ⟨k,hk⟩:=List.getElem?_of_mem this
  grind
 let H:=(List.range L.length).filter (iF L ds)
 have hH:∀ (a i:Nat),H[a]? = some i->i < L.length/\iF L ds i=true:=fun a i h=>by
  have:=mG h
  grind
 have MS:∀ (a p:Nat),(fK L ds L.length)[a]? = some p->∃ i,H[a]? = some i/\D i=p:=by grind [fK,iF]
 have hinc:∀ (a b i k:Nat),a < b->H[a]? = some i->H[b]? = some k->i < k:=by
  intro a b i k OS hi hk;have hp:List.Pairwise (·< ·) H:=List.Pairwise.filter _ List.pairwise_lt_range;obtain ⟨ha,rfl⟩:=List.getElem?_eq_some_iff.1 hi;obtain ⟨hb,rfl⟩:=List.getElem?_eq_some_iff.1 hk;exact List.pairwise_iff_getElem.1 hp a b ha hb OS
 refine ⟨?_,?_,?_,?_⟩
 ·intro a p h;obtain ⟨i,hi,rfl⟩:=MS a p h;exact hDn i (hH a i hi).1
 ·intro a b p q s t OS hp hq hs ht;obtain ⟨i,hi,rfl⟩:=MS a p hp;obtain ⟨k,hk,rfl⟩:=MS b q hq;rw [hT i (hH a i hi).1] at hs;rw [hT k (hH b k hk).1] at ht
  grind
 ·intro a p j s hp hs hj;obtain ⟨i,hi,rfl⟩:=MS a p hp;obtain ⟨v7,zS⟩:=hH a i hi;obtain ⟨k,hk,rfl⟩:=Ax j (gS hj).1;rw [hT i v7] at hs;rw [hT k hk] at hj;simp only [oI] at hs hj;rcases Nat.lt_trichotomy k i with h | h | h
  ·have:=ada i v7 zS k h;rw [hs,hj,CD,lB] at this;cases this
  ·rw [h];exact aR _
  ·have h2:=Qj i k (D i) (D k) h (hD i v7) (hD k hk)
   grind [Fh,av]
 ·intro j s hj;obtain ⟨k,hk,rfl⟩:=Ax j (gS hj).1;rw [hT k hk] at hj;simp only [oI] at hj;obtain ⟨i,⟨v7,his⟩,hmin⟩:=least (p:=fun i=>i < L.length/\T i=s) ⟨k,hk,hj⟩;have zS:iF L ds i=true:=by grind [iF,av]
  have hm:i∈H:=by simp only [H,List.mem_filter,List.mem_range];exact ⟨v7,zS⟩
  obtain ⟨a,ha⟩:=List.getElem?_of_mem hm;refine ⟨a,D i,?_,by rw [hT i v7,his]⟩;unfold fK
  grind
theorem xH (L:List ByteArray) (hl:L.length<=1099511627776) :
  Ev prog 105 [.sl 1 (fq L) none] [] [] (fun r _ _=>∃ aJ,iT L aJ/\aJ.length<=L.length/\r = .pt (dr L aJ) 0):=by
 have hN:=cH L;refine eG 71 [.tmp 2] func105 rfl ntmps105 rfl fun _ _ _ _=>?_;refine ⟨⟨by simp [hN,maxLen];omega,by simp [hN];omega⟩,?_⟩;refine ⟨⟨rfl,by omega,by omega,by omega⟩,?_⟩;refine lJ (fun e=>Qn L e) L.length (dz 4 (by repeat' (first | exact rfl | exact aA rfl | exact rI (fillA_0 _) | refine ⟨_,_,rfl,?_,?_⟩)) (by repeat' (first | exact trivial | exact aA rfl | exact rI (fillA_0 _) | refine ⟨⟨_,rfl,?_⟩,?_⟩))) ?_;intro e he;refine br ?_ ?_<;>intro h
 ·have aw:e < (fq L).length:=sU h;refine ⟨⟨by omega,by omega⟩,?_⟩;have e1:(dInts (iU (fq L).length e)).flatten.length=(fq L).length:=by rw [pw,List.length_map,MQ (by omega)]
  refine ⟨by rw [e1];omega,?_⟩
  have hcs:(dInts (iU (fq L).length e)).flatten.set (0 + (e:Int).toNat * 1) (DV.v (.int .i64 (e:Int)))=(dInts (iU (fq L).length (e + 1))).flatten:=by
   rw [show 0 + (e:Int).toNat * 1=e by omega,List.set_eq_take_append_cons_drop,aj (by rw [e1];omega),<- Iy aw];simp
  refine ⟨Qn L (e + 1),(dz 4 (by repeat' (first | exact rfl | exact aA rfl | exact rI hcs | exact aD (aX aw (by omega)) | refine ⟨_,_,rfl,?_,?_⟩)) (by repeat' (first | exact trivial | exact aA rfl | exact rI hcs | exact aD (aX aw (by omega)) | refine ⟨⟨_,rfl,?_⟩,?_⟩))),L.length - (e + 1),by omega,e + 1,rfl,by omega,rfl⟩
 ·have hge:e=(fq L).length:=by grind
  subst hge;rw [Uv]
  have hms:∀ dk:List Nat,dk.length=(List.range (fq L).length).length->∀ bx:List (List DV),bx[2]? = some (dInts dk).flatten->∀ N0 n0 m0:Nat,N0<=2->Cc bx N0 n0 m0 (.sl 1 (dInts dk) none) (.ms 2 1 0 (fq L).length (fq L).length):=by
   intro dk hdk bx hb N0 n0 m0 hN0;simp only [Cc];refine Or.inr (Or.inr (Or.inl ⟨2,0,(fq L).length,_,?_,hN0,hb,?_,?_,?_⟩))
   ·rw [bN,hdk,List.length_range]
   ·rw [List.drop_zero,List.take_of_length_le];rw [pw,List.length_map,bN];omega
   ·grind [dInts]
   ·grind [pw]
  refine MO (ds:=List.range (fq L).length) rfl (by simp) (fq L).length (fun p hp=>List.mem_range.1 hp) (Fh L) (Ut L) rfl (by simp [hN];omega)
   (fun dk=>[.pt [.sl 1 (dInts dk) none] 0,.pt [.pt [.sl 1 (fq L) none,.v (.slice none 0 0)] 0] 0])
   (fun dk hdk=>⟨_,_,rfl,Or.inr ⟨3,_,rfl,Nat.zero_le _,rfl,⟨_,_,rfl,hms dk hdk _ rfl 0 0 0 (Nat.zero_le _),rfl⟩⟩,ax⟩)
   (fun dk hdk hp i j p q hi hj=>MN L dk i j p q hi hj (by have:=hp p (mG hi);omega) (by have:=hp q (mG hj);omega)) rfl (fun ds pZ Qj=>?_)
  have cw:ds.length=(fq L).length:=by rw [pZ.length_eq,List.length_range]
  have adb:=hms ds (by rw [cw,List.length_range])
  refine PB 2 (YH L ds) rfl rfl rfl ⟨_,_,rfl,⟨_,_,rfl,⟨nL rfl,rfl⟩,_,_,rfl,rfl,rfl⟩,_,_,rfl,⟨_,_,rfl,⟨nL rfl,rfl⟩,rfl⟩,rfl⟩
   ⟨⟨_,rfl,⟨nL rfl,rfl⟩⟩,⟨_,rfl,Or.inr ⟨3,_,rfl,by decide,rfl,⟨_,_,rfl,adb _ rfl 2 0 0 (by decide),rfl⟩⟩⟩,⟨_,rfl,adb _ rfl 2 2 1 (by decide)⟩,⟨_,rfl,rfl⟩,⟨_,rfl,rfl⟩,trivial⟩ ?_
  refine aT (fun j st=>∃ e m:Nat,st=Fk L ds (fK L ds e) m e/\m=(fK L ds e).length/\e<=(fq L).length/\j=(fq L).length - e) (fq L).length (Fk L ds [] 0 0)
   (dq 2 ⟨0,3,1,none⟩ rfl rfl rfl pV rfl rfl wB) ⟨0,0,rfl,rfl,by omega,by omega⟩ ?_
  rintro j st ⟨e,m,rfl,hm,he,rfl⟩;have lS:=MR L ds e;refine br ?_ ?_<;>intro h
  ·have aw:e < (fq L).length:=sU h;obtain ⟨p,hp⟩:∃ p,ds[e]? = some p:=⟨_,gE (by omega)⟩
   have hpL:p < L.length:=by
    have:=pZ.mem_iff.1 (mG hp);rw [List.mem_range] at this;omega
   obtain ⟨s,hs⟩:∃ s,L[p]? = some s:=⟨_,gE hpL⟩;refine iX (eJ hp) ?_;have hgp:ds.getD e 0=p:=by simp [eO,hp]
   have Mv:L.getD p av=s:=by simp [eO,hs]
   have eY:iF L ds e=true->fK L ds (e + 1)=fK L ds e ++ [p]:=fun hh=>by rw [xG,aj hh,hgp]
   have hold:iF L ds e=false->fK L ds (e + 1)=fK L ds e:=fun hh=>by rw [xG,ai (by rw [hh];decide),List.append_nil]
   have La:iF L ds e=true->dInts (fK L ds e) ++ [[DV.v (.int .i64 (p:Int))]]=dInts (fK L ds (e + 1)):=fun hh=>by rw [eY hh];simp [dInts]
   by_cases h0:e=0
   ·subst h0;have hh:iF L ds 0=true:=by simp [iF]
    refine dI ?_;refine dS ?_;refine ⟨by rw [bN,hm],⟨by simp [bN,maxLen];omega,by simp [bN];omega⟩,?_⟩;refine ⟨Fk L ds (fK L ds 1) (m + 1) 1,(dz 2 (by repeat' (first | exact rfl | exact aA rfl | exact aD (aX aw (by omega)) | exact cR (La hh) rfl | refine ⟨_,_,rfl,?_,?_⟩)) (by repeat' (first | exact trivial | exact aA rfl | exact aD (aX aw (by omega)) | exact cR (La hh) rfl | refine ⟨⟨_,rfl,?_⟩,?_⟩))),(fq L).length - 1,by omega,1,m + 1,rfl,by rw [eY hh,List.length_append,hm];rfl,by omega,rfl⟩
   ·obtain ⟨p',z7⟩:∃ p',ds[e - 1]? = some p':=⟨_,gE (by omega)⟩
    have hpL':p' < L.length:=by
     have:=pZ.mem_iff.1 (mG z7);rw [List.mem_range] at this;omega
    obtain ⟨s',hs'⟩:∃ s',L[p']? = some s':=⟨_,gE hpL'⟩;have hgp':ds.getD (e - 1) 0=p':=by simp [eO,z7]
    have hgs':L.getD p' av=s':=by simp [eO,hs']
    have hhd:iF L ds e = !decide (s=s'):=by grind [iF]
    have hz:IntKind.i64.wrap ((e:Int) - 1)=((e - 1:Nat):Int):=by rw [wrap64 (by omega) (by omega)];omega
    refine dI ?_;refine br (fun _=>?_) (fun h=>?_)
    ·refine iX (gd hs) ?_;refine ⟨[.v (.int .i64 (p':Int))],⟨by rw [hz];omega,by rw [hz];exact eJ z7⟩,?_⟩;refine iX (gd hs') ?_;refine br ?_ ?_<;>intro h2
     ·have hh:iF L ds e=true:=by grind [au]
      refine dS ?_;refine ⟨by rw [bN,hm],⟨by simp [bN,maxLen];omega,by simp [bN];omega⟩,?_⟩;refine ⟨Fk L ds (fK L ds (e + 1)) (m + 1) (e + 1),(dz 2 (by repeat' (first | exact rfl | exact aA rfl | exact aD (aX aw (by omega)) | exact cR (La hh) rfl | refine ⟨_,_,rfl,?_,?_⟩)) (by repeat' (first | exact trivial | exact aA rfl | exact aD (aX aw (by omega)) | exact cR (La hh) rfl | refine ⟨⟨_,rfl,?_⟩,?_⟩))),(fq L).length - (e + 1),by omega,e + 1,m + 1,rfl,by rw [eY hh,List.length_append,hm];rfl,by omega,rfl⟩
     ·have hh:iF L ds e=false:=by grind [au]
      have aP:dInts (fK L ds e)=dInts (fK L ds (e + 1)):=by rw [hold hh]
      refine ⟨Fk L ds (fK L ds (e + 1)) m (e + 1),(dz 2 (oc (aX aw (by omega)) aP) (gC (aX aw (by omega)) aP)),(fq L).length - (e + 1),by omega,e + 1,m,rfl,by rw [hold hh,hm],by omega,rfl⟩
    ·grind
  ·have hge:e=L.length:=by grind
   subst hge;exact ⟨.pt (dr L (fK L ds L.length)) 0,Or.inr ⟨0,_,rfl,Nat.zero_le _,rfl,ax⟩,_,YI (by rw [<- hN];exact pZ) Qj,lS,rfl⟩
abbrev ade (L:List ByteArray) (aJ:List Nat) (e:Nat):St:=
 ⟨[iQ 3 (dr L aJ),bi 10 1 (fq L),ay 11 ((fq L).length),ay 12 e],[],[]⟩
theorem Qo {α:Type}:∀ {l:List α},(∀ (i j:Nat) (x:α),j < i->l[i]? = some x->l[j]? ≠ some x)->l.Nodup
 | l,h=>by
  rw [List.nodup_iff_pairwise_ne,List.pairwise_iff_getElem];intro i j hi hj qj he;exact h j i l[j] qj (gE hj) (by rw [gE hi,he])
theorem qz (L:List ByteArray) (hl:L.length<=1099511627776) :
  Ev prog 112 [.sl 1 (fq L) none] [] [] (fun r _ _=>∃ z:Int,r = .v (.int .i64 z)/\(0<=z↔¬ L.Nodup)):=by
 have hN:=cH L;refine eG 28 [.tmp 2] func112 rfl ntmps112 rfl fun _ _ _ _=>?_;refine cE PH rfl (xH L hl) ax (fun r hr=>?_);obtain ⟨aJ,hT,lS,rfl⟩:=hr;refine lI (fun j st=>∃ e:Nat,st=ade L aJ e/\e<=L.length/\(∀ (i j:Nat) (x:ByteArray),i < e->j < i->L[i]? = some x->L[j]? ≠ some x)/\j=L.length - e) ⟨0,rfl,by omega,fun i j x hi=>by omega,rfl⟩ (bG wB) ?_;rintro j st ⟨e,rfl,he,hinv,rfl⟩;refine br ?_ ?_<;>intro h
 ·have aw:e < L.length:=sV hN h;obtain ⟨s,hs⟩:=gX aw;obtain ⟨q,p,hq,hp⟩:=hT.all e s hs;have dY:=hT.fst q p e s hq hp hs;refine iX (gd hs) ?_;refine cP oh (find_spec L aJ s q p hT (by omega) hq hp) ?_;refine br ?_ ?_<;>intro h2
  ·have h2:p < e:=sU h2;refine ⟨(e:Int),rfl,⟨fun _ hnd=>?_,fun _=>by omega⟩⟩;rw [List.nodup_iff_pairwise_ne,List.pairwise_iff_getElem] at hnd;obtain ⟨h3,h4⟩:=List.getElem?_eq_some_iff.1 hp;obtain ⟨h5,h6⟩:=List.getElem?_eq_some_iff.1 hs;exact hnd p e h3 h5 h2 (by rw [h4,h6])
  ·have h2:¬ p < e:=sU h2;refine ⟨ade L aJ (e + 1),(bG (dH (aX aw (by omega)))),L.length - (e + 1),by omega,e + 1,rfl,by omega,fun i j x hi hj hx hjx=>?_,rfl⟩;by_cases Iu:i=e
   ·subst Iu;rw [hs] at hx;simp only [oI] at hx;subst hx;have:=hT.fst q p j s hq hp hjx;omega
   ·exact hinv i j x (by omega) hj hx hjx
 ·have hge:e=L.length:=by grind
  subst hge;refine ⟨-1,rfl,⟨fun h3=>by omega,fun h3=>?_⟩⟩;exact absurd (Qo fun i j x qj hi hj=>hinv i j x (gS hi).1 qj hi hj) h3
def sameWds:List Wd->List Wd->Bool
 | [],[]=>true
 | x :: r,y :: s=>decide (x.s=y.s) && sameWds r s
 | _,_=>false
theorem uQ:∀ {a b:List Wd},a.length≠b.length->sameWds a b=false
 | [],[],h=>(h rfl).elim
 | x :: r,y :: s,h=>by
  have:r.length≠s.length:=sU h;simp [sameWds,uQ this]
 | [],y :: s,_=>rfl
 | x :: r,[],_=>rfl
abbrev CF (a b:List Wd) (e:Nat):St:=
 ⟨[bi 0 2 (bV a),bi 1 2 (bV b),ay 5 e],[],[]⟩
theorem mV (a b:List Wd) (hs:a.length<=4611686018427387904) :
  EvP prog 318 [.sl 2 (bV a) none,.sl 2 (bV b) none] (.v (.bool (sameWds a b))):=by
 refine eG 28 [.tmp 4] func318 rfl ntmps318 rfl fun _ _ _ _=>?_;refine br ?_ ?_<;>intro h
 ·have aY:a.length≠b.length:=by have:=h;simp [aE] at this;omega
  exact congrArg (fun b=>DV.v (.bool b)) (uQ aY).symm
 ·have hl:a.length=b.length:=by have:=h;simp [aE] at this;omega
  refine aT (fun j st=>∃ e:Nat,st=CF a b e/\e<=a.length/\sameWds a b=sameWds (a.drop e) (b.drop e)/\j=a.length - e) a.length
   (CF a b 0) (bG wB) ⟨0,rfl,by omega,rfl,by omega⟩ ?_
  rintro j st ⟨e,rfl,he,aP,rfl⟩;refine br ?_ ?_<;>intro h
  ·have aw:e < a.length:=by simpa [aE] using h
   obtain ⟨x,hx⟩:=gX aw;obtain ⟨y,hy⟩:∃ y,b[e]? = some y:=⟨_,gE (hl ▸ aw)⟩;rw [drop_cons hx,drop_cons hy] at aP;refine dI ?_;refine ⟨kD x,⟨by omega,bg hx⟩,kD y,⟨by omega,bg hy⟩,?_⟩;refine br ?_ ?_<;>intro h
   ·have aY:x.s≠y.s:=sU h;refine (bK ?_:);rw [aP];simp [sameWds,aY]
   ·have aY:x.s=y.s:=sU h;refine ⟨CF a b (e + 1),(bG (dH (aX aw (by omega)))),a.length - (e + 1),by omega,e + 1,rfl,by omega,?_,rfl⟩;rw [aP];simp [sameWds,aY]
  ·have hge:e=a.length:=by have:=h;simp [aE] at this;omega
   refine (bK ?_:);rw [aP,hge,hl];simp [sameWds];rw [<- hl];simp [sameWds]
def cV (p q:Ph):Bool:=(p.bare == q.bare) && decide (p.wide=q.wide) && sameWds p.label q.label && decide (p.ck=q.ck) && decide (p.cn=q.cn) && sameWds p.cl q.cl
theorem mW (p q:Ph) (tl tl':List DV) (hs:p.wt<=4611686018427387904) (ht:CcL [] 0 0 0 tl tl) (vu:CcL [] 0 0 0 tl' tl') :
  EvP prog 281 [.agg (Ir p tl),.agg (Ir q tl')] (.v (.bool (cV p q))):=by
 refine eG 51 [.tmp 4] func281 rfl ntmps281 rfl fun _ _ _ _=>?_;have h1:=bM p.label;have h2:=bM p.cl;simp only [Ph.wt] at hs;refine br ?_ ?_<;>intro h
 ·refine cP P9 (mV p.label q.label (by omega)) ?_;refine br ?_ ?_<;>intro h2
  ·refine cP P9 (mV p.cl q.cl (by omega)) ?_;refine (bK ?_:);simp [aq] at h h2;simp [cV,aq,h,h2]
  ·refine (bK ?_:);simp [aq] at h h2;simp [cV,aq,h]
   grind
 ·refine (bK ?_:);simp [aq] at h;simp [cV]
  grind
def lC (h k:Hd):Bool:=decide (h.ag=k.ag) && decide (h.lo=k.lo) && decide (h.hi=k.hi) && decide (h.most=k.most) && decide (h.name.s=k.name.s) && sameWds h.af k.af
mutual
def sameTy:Ty->Ty->Bool
 | .mk h ps,.mk k qs=>lC h k && samePts ps qs
def samePts:Pts->Pts->Bool
 | .nil,.nil=>true
 | .cons p t r,.cons q u s=>decide (p.name.s=q.name.s) && cV p q && sameTy t u && samePts r s
 | _,_=>false
end
theorem uR:∀ {a b:Pts},a.len≠b.len->samePts a b=false
 | .nil,.nil,h=>(h rfl).elim
 | .cons p t r,.cons q u s,h=>by
  have:r.len≠s.len:=by simpa [Pts.len] using h
  simp [samePts,uR this]
 | .nil,.cons _ _ _,_=>by simp [samePts]
 | .cons _ _ _,.nil,_=>by simp [samePts]
def jW (h:Hd):Hd:=
 ⟨h.ag,0,if h.ag=2 then h.lo else 0,if h.ag=2 then h.hi else 0,if h.ag=3∨h.ag=5 then h.most else 0,if h.ag=4 then h.af else [],if h.ag=9 then h.name else ⟨av,0⟩⟩
def mask:Ty->Ty
 | .mk h ps=>.mk (jW h) (if 4 < h.ag/\h.ag < 9 then ps else .nil)
theorem AO (bx:List (List DV)) (N n m:Nat) (t:Ty):CcL bx N n m (eE t) (eE t):=by
 obtain ⟨h,ps⟩:=t;simp only [eE,CcL,Cc]
 repeat' (first | exact rfl | exact trivial | exact Or.inr (Or.inl ⟨_,rfl⟩) | refine ⟨_,_,rfl,?_,?_⟩)
abbrev Iz (a b:Ty) (e:Nat):St:=
 ⟨[aF 2 0,aF 3 1,ay 5 e],[eE a,eE b],[]⟩
theorem om:∀ (n:Nat) (a b:Ty),a.wt<=n->a.wt<=4611686018427387904 ->
  EvP prog 317 [.agg (eE a),.agg (eE b)] (.v (.bool (sameTy a b)))
 | 0,a,b,hn,_=>by have:=a.cT;omega
 | n + 1,.mk h ps,.mk k qs,hn,cQ=>by
  simp only [Ty.wt,Hd.wt] at hn cQ;have hl:=bM h.af;have fV:=ps.gn;refine eG 98 [.tmp 4] func317 rfl ntmps317 rfl fun _ _ _ _=>?_;refine br ?_ ?_<;>intro hA
  ·simp [au] at hA;obtain ⟨⟨⟨⟨e1,e2⟩,e3⟩,e4⟩,e5⟩:=hA;refine cP P9 (mV h.af k.af (by omega)) ?_;refine br ?_ ?_<;>intro hB
   ·refine (bK ?_:);simp [au,e1,e2,e3,e4,e5,aM] at hB;simp only [sameTy,lC];rcases hB with hB | hB
    ·simp [hB]
    ·have:ps.len≠qs.len:=by omega
     simp [uR this]
   ·simp [au,e1,e2,e3,e4,e5,aM] at hB;obtain ⟨e6,e7⟩:=hB;have e8:ps.len=qs.len:=by omega
    have eh:sameTy (.mk h ps) (.mk k qs)=samePts ps qs:=by simp [sameTy,lC,e1,e2,e3,e4,e5,e6]
    refine aT (fun j st=>∃ e:Nat,st=Iz (.mk h ps) (.mk k qs) e/\e<=ps.len/\samePts ps qs=samePts (ps.drop e) (qs.drop e)/\j=ps.len - e) ps.len
     (Iz (.mk h ps) (.mk k qs) 0) (bG wB) ⟨0,rfl,by omega,rfl,by omega⟩ ?_
    rintro j st ⟨e,rfl,he,aP,rfl⟩;refine br ?_ ?_<;>intro hL
    ·have aw:e < ps.len:=by simpa [aM] using hL
     obtain ⟨p,t,hx⟩:=Pts.ff aw;obtain ⟨q,u,hy⟩:=Pts.ff (e8 ▸ aw);rw [Pts.drop_cons hx,Pts.drop_cons hy] at aP;have Fl:=Pts.hZ (mG hx);obtain ⟨t,ts⟩:=t;obtain ⟨u,us⟩:=u;apply pq (fun _=>false) 10 11 [0,1,2,3,4,5,6,7,8,9,10,11,12,13] [0,1,2,3,4,5,6,7,8,9,11,10,12,13] 2 3 mo (by decide +kernel)
     ·refine ⟨_,⟨by omega,cj hx⟩,_,⟨by omega,cj hy⟩,?_⟩;refine (?_:@Eq St _ _);exact rfl
     ·refine ⟨_,⟨by omega,cj hx⟩,_,⟨by omega,cj hy⟩,?_⟩;refine (⟨rfl,rfl,?_⟩:_/\_/\_)
      repeat' (first | exact trivial | refine ⟨rfl,?_⟩)
     ·rfl
     refine br ?_ ?_<;>intro hC
     ·have hC:p.name.s=q.name.s:=sU hC;refine cP P7 (mW p q (eE (.mk t ts)) (eE (.mk u us)) (by omega) (AO _ _ _ _ _) (AO _ _ _ _ _)) ?_;refine br ?_ ?_<;>intro hD
      ·have hD:cV p q=true:=by simpa [au,hC] using hD
       refine cP oi (om n (.mk t ts) (.mk u us) (by omega) (by omega)) ?_;refine br ?_ ?_<;>intro hE
       ·refine (bK ?_:);rw [eh,aP];simp [au,hC,hD] at hE;simp [samePts,hE]
       ·simp [au,hC,hD] at hE;refine ⟨Iz (.mk h ps) (.mk k qs) (e + 1),(bG (dH (aX aw (by omega)))),ps.len - (e + 1),by omega,e + 1,rfl,by omega,?_,rfl⟩;rw [aP];simp [samePts,hC,hD,hE]
      ·have hD:cV p q=false:=by simpa [au,hC] using hD
       refine (bK ?_:);rw [eh,aP];simp [samePts,hD]
     ·have hC:p.name.s≠q.name.s:=sU hC;refine (bK ?_:);rw [eh,aP];simp [samePts,hC]
    ·have hge:e=ps.len:=by have:=hL;simp [aM] at this;omega
     refine (bK ?_:);rw [eh,aP,hge,Pts.dJ,e8,Pts.dJ];simp [samePts]
  ·refine (bK ?_:);simp [au] at hA;simp only [sameTy,lC]
   grind
theorem Fm (t:Ty) (cQ:t.wt<=4611686018427387904) :
  EvP prog 320 [.agg (eE t)] (.v (.bool (sameTy t de))):=by
 obtain ⟨h,ps⟩:=t;refine eG 6 [.tmp 2] func320 rfl ntmps320 rfl fun _ _ _ _=>?_;refine cP oi (om _ (.mk h ps) de (aR _) cQ) ?_;exact (rfl:_=_)
theorem IA (t:Ty) (cQ:t.wt<=4611686018427387904) :
  EvP prog 279 [.agg (eE t)] (.v (.bool (sameTy t (mask t)))):=by
 obtain ⟨h,ps⟩:=t
 have key:∀ (h':Hd) (ps':Pts),jW h=h' -> (if 4 < h.ag/\h.ag < 9 then ps else .nil)=ps' ->
   EvP prog 317 [.agg (eE (.mk h ps)),.agg (eE (.mk h' ps'))] (.v (.bool (sameTy (.mk h ps) (mask (.mk h ps))))):=by
  rintro h' ps' rfl rfl;exact om _ (.mk h ps) _ (aR _) cQ
 obtain ⟨ag,at',lo,hi,most,af,name⟩:=h;by_cases hr:2<=ag/\ag<=9
 ·obtain hk | hk | hk | hk | hk | hk | hk | hk:ag=2∨ag=3∨ag=4∨ag=5∨ag=6∨ag=7∨ag=8∨ag=9:=by omega
  ·subst hk;refine eG 53 [.tmp 2] func279 rfl ntmps279 rfl fun _ _ _ _=>?_;refine cP oi (key ⟨2,0,lo,hi,0,[],⟨av,0⟩⟩ .nil (by simp [jW]) (by simp)) ?_;exact (rfl:_=_)
  ·subst hk;refine eG 53 [.tmp 2] func279 rfl ntmps279 rfl fun _ _ _ _=>?_;refine cP oi (key ⟨3,0,0,0,most,[],⟨av,0⟩⟩ .nil (by simp [jW]) (by simp)) ?_;exact (rfl:_=_)
  ·subst hk;refine eG 53 [.tmp 2] func279 rfl ntmps279 rfl fun _ _ _ _=>?_;refine cP oi (key ⟨4,0,0,0,0,af,⟨av,0⟩⟩ .nil (by simp [jW]) (by simp)) ?_;exact (rfl:_=_)
  ·subst hk;refine eG 53 [.tmp 2] func279 rfl ntmps279 rfl fun _ _ _ _=>?_;refine cP oi (key ⟨5,0,0,0,most,[],⟨av,0⟩⟩ ps (by simp [jW]) (by simp)) ?_;exact (rfl:_=_)
  ·subst hk;refine eG 53 [.tmp 2] func279 rfl ntmps279 rfl fun _ _ _ _=>?_;refine cP oi (key ⟨6,0,0,0,0,[],⟨av,0⟩⟩ ps (by simp [jW]) (by simp)) ?_;exact (rfl:_=_)
  ·subst hk;refine eG 53 [.tmp 2] func279 rfl ntmps279 rfl fun _ _ _ _=>?_;refine cP oi (key ⟨7,0,0,0,0,[],⟨av,0⟩⟩ ps (by simp [jW]) (by simp)) ?_;exact (rfl:_=_)
  ·subst hk;refine eG 53 [.tmp 2] func279 rfl ntmps279 rfl fun _ _ _ _=>?_;refine cP oi (key ⟨8,0,0,0,0,[],⟨av,0⟩⟩ ps (by simp [jW]) (by simp)) ?_;exact (rfl:_=_)
  ·subst hk;refine eG 53 [.tmp 2] func279 rfl ntmps279 rfl fun _ _ _ _=>?_;refine cP oi (key ⟨9,0,0,0,0,[],name⟩ .nil (by simp [jW]) (by simp)) ?_;exact (rfl:_=_)
 ·refine eG 53 [.tmp 2] func279 rfl ntmps279 rfl fun _ _ _ _=>?_;refine br (fun c=>?_) (fun c1=>?_)
  ·have:ag=2:=of_decide_eq_true c;omega
  refine br (fun c=>?_) (fun c2=>?_)
  ·simp [au] at c;omega
  refine br (fun c=>?_) (fun c3=>?_)
  ·have:ag=4:=of_decide_eq_true c;omega
  refine br (fun c=>?_) (fun c4=>?_)
  ·simp [aq] at c;omega
  refine br (fun c=>?_) (fun c5=>?_)
  ·have:ag=9:=of_decide_eq_true c;omega
  have e1:¬ ag=2:=of_decide_eq_false c1;have e3:¬ ag=4:=of_decide_eq_false c3;have e5:¬ ag=9:=of_decide_eq_false c5;simp [au,aq] at c2 c4;refine cP oi (key ⟨ag,0,0,0,0,[],⟨av,0⟩⟩ .nil (by simp [jW,e1,c2,e3,e5]) (by simp;omega)) ?_;exact (rfl:_=_)
abbrev Ft:Type:=Int × Int
def Ft.d (f:Ft):DV:=.agg [.v (.int .i64 f.1),.v (.int .i64 f.2)]
def badWd:List Wd->Ft
 | []=>(0,0)
 | w :: r=>if aZ w.s then badWd r else (9,w.a)
def bZ (l:List Wd):Ft:=
 if l.length<=32 then badWd l else (8,((l[32]?).getD (⟨av,0⟩:Wd)).a)
abbrev CG (l:List Wd) (e:Nat):St:=
 ⟨[bi 0 2 (bV l),aF 2 0,ay 3 e],[[.v (.int .i64 0),.v (.int .i64 0)]],[]⟩
theorem mX (l:List Wd) (hs:wdsWt l<=4611686018427387904) :
  EvP prog 277 [.sl 2 (bV l) none] (bZ l).d:=by
 have nW:=bM l;refine eG 32 [.cell 2 44] func277 rfl ntmps277 rfl fun _ _ _ _=>?_;refine br ?_ ?_<;>intro h
 ·have aw:32 < l.length:=by simp [aE] at h;omega
  obtain ⟨x,hx⟩:=gX aw;have:bZ l=(8,x.a):=by simp [bZ,Nat.not_le.2 aw,hx]
  refine ⟨kD x,⟨by omega,bg hx⟩,_,?_,rfl⟩;rw [this];exact ax
 ·have gk:l.length<=32:=by simp [aE] at h;omega
  refine aT (fun j st=>∃ e:Nat,st=CG l e/\e<=l.length/\badWd l=badWd (l.drop e)/\j=l.length - e) l.length
   (CG l 0) (bG wB) ⟨0,rfl,by omega,rfl,by omega⟩ ?_
  rintro j st ⟨e,rfl,he,aP,rfl⟩;refine br ?_ ?_<;>intro hL
  ·have aw:e < l.length:=by simpa [aE] using hL
   obtain ⟨x,hx⟩:=gX aw;rw [drop_cons hx] at aP;have Ec:=ji (mG hx);refine ⟨kD x,⟨by omega,bg hx⟩,?_⟩;refine cP E5 (jI x.s (by omega)) ?_;refine br ?_ ?_<;>intro hN
   ·have hN:aZ x.s=false:=sU hN;have:bZ l=(9,x.a):=by simp [bZ,gk,aP,badWd,hN]
    refine ⟨kD x,⟨by omega,bg hx⟩,_,?_,rfl⟩;rw [this];exact ax
   ·have hN:aZ x.s=true:=sU hN;refine ⟨CG l (e + 1),(bG (dH (aX aw (by omega)))),l.length - (e + 1),by omega,e + 1,rfl,by omega,?_,rfl⟩;rw [aP];simp [badWd,hN]
  ·have hge:e=l.length:=by simp [aE] at hL;omega
   have:bZ l=(0,0):=by simp [bZ,gk,aP,hge,badWd]
   refine ⟨_,?_,rfl⟩;rw [this];exact ax
def cY (l:List Wd) (s:ByteArray):Bool:=l.any fun w=>decide (w.s=s)
def aK (l:List Wd) (i:Nat) (x:Wd):Int:=
 if aZ x.s then (if cY (l.take i) x.s then 10 else 0) else 9
abbrev xI (l:List Wd) (i e:Nat):St:=
 ⟨[bi 0 2 (bV l),ay 1 i,ay 5 e],[],[]⟩
theorem p8 (l:List Wd) (i:Nat) (x:Wd) (hs:wdsWt l<=4611686018427387904) (hx:l[i]? = some x) :
  EvP prog 280 [.sl 2 (bV l) none,.v (.int .i64 i)] (.v (.int .i64 (aK l i x))):=by
 have nW:=bM l;have hi:=(gS hx).1;have Ec:=ji (mG hx);refine eG 29 [.tmp 4] func280 rfl ntmps280 rfl fun _ _ _ _=>?_;refine ⟨kD x,⟨by omega,bg hx⟩,?_⟩;refine cP E5 (jI x.s (by omega)) ?_;refine br ?_ ?_<;>intro hN
 ·have hN:aZ x.s=false:=sU hN;refine (Ct ?_:);simp [aK,hN]
 ·have hN:aZ x.s=true:=sU hN
  refine aT (fun j st=>∃ e:Nat,st=xI l i e/\e<=i/\cY (l.take e) x.s=false/\j=i - e) i
   (xI l i 0) (bG wB) ⟨0,rfl,by omega,rfl,by omega⟩ ?_
  rintro j st ⟨e,rfl,he,aP,rfl⟩;refine br ?_ ?_<;>intro hL
  ·have aw:e < i:=sU hL;obtain ⟨y,hy⟩:∃ y,l[e]? = some y:=⟨_,gE (by omega)⟩;refine dI ?_;refine ⟨kD y,⟨by omega,bg hy⟩,kD x,⟨by omega,bg hx⟩,?_⟩;refine br ?_ ?_<;>intro hE
   ·have hE:y.s=x.s:=sU hE;refine (Ct ?_:)
    have:cY (l.take i) x.s=true:=by
     simp only [cY,List.any_eq_true];exact ⟨y,List.mem_take_iff_getElem.2 ⟨e,by omega,(gS hy).2⟩,by simpa using hE⟩
    simp [aK,hN,this]
   ·have hE:¬ y.s=x.s:=sU hE;refine ⟨xI l i (e + 1),(bG (dH (aX aw (by omega)))),i - (e + 1),by omega,e + 1,rfl,by omega,?_,rfl⟩;rw [List.take_add_one,hy];simp only [cY,List.any_append] at aP ⊢;simp [aP,hE]
  ·have hge:e=i:=by have:=of_decide_eq_false hL;omega
   refine (Ct ?_:);subst hge;simp [aK,hN,aP]
def pNames:Pts->List Wd
 | .nil=>[]
 | .cons p _ r=>p.name :: pNames r
theorem ia:∀ ps:Pts,(pNames ps).length=ps.len
 | .nil=>rfl
 | .cons p t r=>by simp [pNames,Pts.len,ia r]
theorem ib:∀ {ps:Pts} {j:Nat} {p:Ph} {t:Ty},ps.toList[j]? = some (p,t)->(pNames ps)[j]? = some p.name
 | .nil,j,p,t,h=>by simp [Pts.toList] at h
 | .cons q u r,0,p,t,h=>by grind [Pts.toList,pNames]
 | .cons q u r,j + 1,p,t,h=>by
  simp only [Pts.toList,List.getElem?_cons_succ] at h;simp only [pNames,List.getElem?_cons_succ];exact ib h
theorem tA:∀ ps:Pts,wdsWt (pNames ps)<=ps.wt
 | .nil=>aR _
 | .cons p t r=>by
  have:=tA r
  grind [pNames,wdsWt,Pts.wt,Ph.wt]
abbrev CH (ps:Pts) (l:List Wd) (n e:Nat):St:=
 ⟨[bi 0 18 (gp ps),(3,⟨[],.sl 2 (bV l) (some 0)⟩),ay 4 e],[],[⟨n,27,2,none⟩]⟩
theorem CI (ps:Pts) (hs:ps.wt<=1099511627776):EvP prog 319 [.sl 18 (gp ps) none] (.sl 2 (bV (pNames ps)) none):=by
 have fV:=ps.gn;refine eG 20 [.tmp 2] func319 rfl ntmps319 rfl fun _ _ _ _=>?_
 refine aT (fun j st=>∃ (e:Nat),st=CH ps ((pNames ps).take e) e e/\e<=ps.len/\j=ps.len - e) ps.len
  (CH ps [] 0 0) (fF ⟨0,27,2,none⟩ rfl ⟨_,rfl⟩ rfl wA rfl rfl j8) ⟨0,by simp,by omega,by omega⟩ ?_
 rintro j st ⟨e,rfl,he,rfl⟩;refine br ?_ ?_<;>intro hL
 ·have aw:e < ps.len:=by simpa [aM] using hL
  obtain ⟨p,t,hx⟩:=Pts.ff aw;refine iX (cj hx) ?_;refine ⟨by simp [aE,ia];omega,⟨by simp [aE,ia,maxLen];omega,by simp [aE,ia];omega⟩,?_⟩;refine ⟨CH ps ((pNames ps).take (e + 1)) (e + 1) (e + 1),(bG (gC (aX aw (by omega)) (AK (ib hx)))),ps.len - (e + 1),by omega,e + 1,rfl,by omega,rfl⟩
 ·have hge:e=ps.len:=by simp [aM] at hL;omega
  rw [hge,List.take_of_length_le (by rw [ia];omega)];exact ⟨_,ax,rfl⟩
mutual
def Ty.cnt:Ty->Nat
 | .mk _ ps=>1 + ps.cnt
def Pts.cnt:Pts->Nat
 | .nil=>0
 | .cons p t r=>(if p.bare then 0 else t.cnt) + r.cnt
end
mutual
def Ty.deep:Ty->Nat
 | .mk _ ps=>ps.deep + 1
def Pts.deep:Pts->Nat
 | .nil=>0
 | .cons p t r=>max (if p.bare then 0 else t.deep) r.deep
end
mutual
theorem Ty.fg:∀ t:Ty,t.cnt<=t.wt
 | .mk h ps=>by have:=Pts.fg ps;simp only [Ty.cnt,Ty.wt,Hd.wt];omega
theorem Pts.fg:∀ ps:Pts,ps.cnt<=ps.wt
 | .nil=>aR _
 | .cons p t r=>by
  have:=Ty.fg t;have:=Pts.fg r;simp only [Pts.cnt,Pts.wt];split<;>omega
end
mutual
theorem Ty.px:∀ t:Ty,t.deep<=t.wt
 | .mk h ps=>by have:=Pts.px ps;simp only [Ty.deep,Ty.wt,Hd.wt];omega
theorem Pts.px:∀ ps:Pts,ps.deep<=ps.wt
 | .nil=>aR _
 | .cons p t r=>by
  have:=Ty.px t;have:=Pts.px r
  grind [Pts.deep,Pts.wt]
end
abbrev CJ (t:Ty) (e n d:Nat):St:=
 ⟨[aF 1 0,ay 4 n,ay 5 d,ay 6 e],[eE t],[]⟩
theorem lk:∀ (k:Nat) (t:Ty),t.wt<=k->t.wt<=1099511627776 ->
  EvP prog 101 [.agg (eE t)] (.tup [.v (.int .i64 t.cnt),.v (.int .i64 t.deep)])
 | 0,t,hn,_=>by have:=t.cT;omega
 | k + 1,.mk h ps,hn,cQ=>by
  simp only [Ty.wt,Hd.wt] at hn cQ;have fV:=ps.gn;have hc:=ps.fg;have hdp:=ps.px;refine eG 42 [.tmp 2,.tmp 3] func101 rfl ntmps101 rfl fun _ _ _ _=>?_
  refine aT (fun j st=>∃ (e n d:Nat),st=CJ (.mk h ps) e n d/\e<=ps.len/\n + (ps.drop e).cnt=1 + ps.cnt/\max d (ps.drop e).deep=ps.deep/\j=ps.len - e) ps.len
   (CJ (.mk h ps) 0 1 0) (bG wB) ⟨0,1,0,rfl,by omega,rfl,by simp [Pts.drop],by omega⟩ ?_
  rintro j st ⟨e,n,d,rfl,he,aY,hde,rfl⟩;refine br ?_ ?_<;>intro hL
  ·have aw:e < ps.len:=by simpa [aM] using hL
   obtain ⟨p,t,hx⟩:=Pts.ff aw;have Fl:=Pts.hZ (mG hx);rw [Pts.drop_cons hx] at aY hde;simp only [Pts.cnt,Pts.deep] at aY hde;have OV:=t.fg;have hdt:=t.px;refine iX (cj hx) ?_;refine br ?_ ?_<;>intro hB
   ·rw [aj hB] at aY hde;exact rE ⟨_,by omega,e + 1,n,d,rfl,by omega,by omega,by omega,rfl⟩ (bG (dH (aX aw (by omega))))
   ·rw [ai (by simp [hB])] at aY hde;obtain ⟨u,us⟩:=t;refine iX (cj hx) ?_;refine cP K2 (lk k (.mk u us) (by omega) (by omega)) ?_;have zT:IntKind.i64.wrap ((n:Int) + (Ty.mk u us).cnt)=((n + (Ty.mk u us).cnt:Nat):Int):=by rw [wrap64 (by omega) (by omega)];omega
    refine br ?_ ?_<;>intro hD
    ·have hD:d < (Ty.mk u us).deep:=sU hD;exact ⟨CJ (.mk h ps) (e + 1) (n + (Ty.mk u us).cnt) (Ty.mk u us).deep,(bG (gC zT (aX aw (by omega)))),ps.len - (e + 1),by omega,e + 1,_,_,rfl,by omega,by omega,by omega,rfl⟩
    ·have hD:¬ d < (Ty.mk u us).deep:=sU hD;exact ⟨CJ (.mk h ps) (e + 1) (n + (Ty.mk u us).cnt) d,(bG (gC zT (aX aw (by omega)))),ps.len - (e + 1),by omega,e + 1,_,_,rfl,by omega,by omega,by omega,rfl⟩
  ·have hge:e=ps.len:=by simp [aM] at hL;omega
   rw [hge,Pts.dJ] at aY hde;simp only [Pts.cnt,Pts.deep] at aY hde;have e1:IntKind.i64.wrap ((d:Int) + 1)=((Ty.mk h ps).deep:Int):=by rw [wrap64 (by omega) (by omega)];simp only [Ty.deep];omega
   have e2:(n:Int)=((Ty.mk h ps).cnt:Int):=by simp only [Ty.cnt];omega
   refine ⟨_,?_,rfl⟩;rw [<- e1,<- e2];exact ax
def wD (f:Ft) (n:Int):DV:=.agg [.v (.int .i64 f.1),.v (.int .i64 f.2),.v (.int .i64 n)]
theorem eU (f:Ft) (n e a:Int):EvP prog 278 [wD f n,.v (.int .i64 e),.v (.int .i64 a)] (wD (e,a) n):=by
 refine eG 13 [.cell 6 335] func278 rfl ntmps278 rfl fun _ _ _ _=>?_;exact ⟨_,ax,rfl⟩
def bq (p:Ph):Ft:=
 if p.ck=0 then (if p.cn=0/\p.cl=[] then (0,0) else (19,p.name.a))
 else if p.ck < 0∨3 < p.ck then (14,p.ca)
 else if (p.ck=1/\p.cn < 1)∨(p.ck=2/\(p.cn < 0∨4096 < p.cn))∨(p.ck=3/\p.cn≠0) then (20,p.ca)
 else bZ p.cl
theorem Aa (p:Ph) (tl:List DV) (hs:p.wt<=4611686018427387904) :
  EvP prog 321 [.agg (Ir p tl)] (bq p).d:=by
 simp only [Ph.wt] at hs;refine eG 73 [.cell 2 44] func321 rfl ntmps321 rfl fun _ _ _ _=>?_;refine br ?_ ?_<;>intro h0
 ·have h0:p.ck=0:=sU h0;refine br ?_ ?_<;>intro h1
  ·have:bq p=(19,p.name.a):=by grind [au,aE,bq]
   refine ⟨_,?_,rfl⟩;rw [this];exact ax
  ·have:bq p=(0,0):=by
    simp [au,aE] at h1;simp [bq,h0,h1.1,h1.2]
   refine ⟨_,?_,rfl⟩;rw [this];exact ax
 ·have h0:¬ p.ck=0:=sU h0;refine br ?_ ?_<;>intro h1
  ·have:bq p=(14,p.ca):=by grind [au,bq]
   refine ⟨_,?_,rfl⟩;rw [this];exact ax
  ·simp [au] at h1;refine br ?_ ?_<;>intro h2
   ·have:bq p=(20,p.ca):=by grind [au,aq,bq]
    refine ⟨_,?_,rfl⟩;rw [this];exact ax
   ·have hc:bq p=bZ p.cl:=by grind [au,aq,bq]
    refine cP P6 (mX p.cl (by omega)) ?_;refine ⟨_,?_,rfl⟩;rw [hc];exact ax
def enumL (all:List Wd):Nat->List Wd->Ft
 | _,[]=>(0,0)
 | i,x :: r=>if aK all i x≠0 then (aK all i x,x.a) else enumL all (i + 1) r
def jl (h:Hd):Ft:=
 if h.af=[] then (15,h.at')
 else if 64 < h.af.length then (8,((h.af[64]?).getD (⟨av,0⟩:Wd)).a)
 else enumL h.af 0 h.af
def eu (p:Ph):Ft:=
 if p.wide < 0∨64 < p.wide then (20,p.name.a)
 else if (bZ p.label).1≠0 then bZ p.label
 else bq p
def xJ (t:Ty):Bool:=sameTy t (mask t)
mutual
def wrong:Ty->Int->Int->Ft × Int
 | .mk h ps,depth,m=>
  if 24 < depth then ((6,h.at'),m + 1)
  else if 512 < m + 1 then ((8,h.at'),m + 1)
  else if h.ag < 1∨9 < h.ag then ((14,h.at'),m + 1)
  else if xJ (.mk h ps)=false then ((19,h.at'),m + 1)
  else if (h.ag=2/\h.hi < h.lo)∨(h.ag=3/\(h.most < 0∨4096 < h.most)) then ((20,h.at'),m + 1)
  else if h.ag=9/\aZ h.name.s=false then ((9,h.name.a),m + 1)
  else if h.ag=4 then (jl h,m + 1)
  else if h.ag=5∨h.ag=6 then wrongOne h ps depth (m + 1)
  else if h.ag=7∨h.ag=8 then
   if h.ag=8/\ps.len=0 then ((15,h.at'),m + 1)
   else if 64 < ps.len then ((8,(((pNames ps)[64]?).getD (⟨av,0⟩:Wd)).a),m + 1)
   else wrongPts h.ag (pNames ps) 0 ps depth (m + 1)
  else ((0,0),m + 1)
def wrongOne:Hd->Pts->Int->Int->Ft × Int
 | h,.cons p t .nil,depth,m=>
  if p.name.s≠av∨cV p fJ=false then ((19,h.at'),m)
  else if h.most < 0∨1024 < h.most then ((20,h.at'),m)
  else wrong t (depth + 1) m
 | h,_,_,m=>((19,h.at'),m)
def wrongPts (ag:Int) (all:List Wd):Nat->Pts->Int->Int->Ft × Int
 | _,.nil,_,m=>((0,0),m)
 | i,.cons p t r,depth,m=>
  if aK all i p.name≠0 then ((aK all i p.name,p.name.a),m)
  else if p.bare=true then
   if ag=7∨sameTy t de=false∨cV p jV=false then ((19,p.name.a),m) else wrongPts ag all (i + 1) r depth m
  else if (eu p).1≠0 then (eu p,m)
  else if (wrong t (depth + 1) m).1.1≠0 then wrong t (depth + 1) m
  else wrongPts ag all (i + 1) r depth (wrong t (depth + 1) m).2
end
def CK (k:Nat):Prop:=∀ (t:Ty) (depth m:Int),t.wt<=k->t.wt<=1099511627776->0<=depth->depth<=25->0<=m->m<=512 ->
 EvP prog 242 [wD (0,0) m,.agg (eE t),.v (.int .i64 depth)] (wD (wrong t depth m).1 (wrong t depth m).2)
abbrev Lb (t:Ty) (e:Nat) (depth m:Int):St:=
 ⟨[ay 2 depth,aF 3 0,aF 4 1,aF 6 2,ay 7 e],[[.v (.int .i64 0),.v (.int .i64 0),.v (.int .i64 m)],eE t,[.v (.int .i64 0),.v (.int .i64 0),.v (.int .i64 0)]],[]⟩
def fv (h:Hd) (ps:Pts) (depth m:Int):Ft × Int:=
 if h.ag=8/\ps.len=0 then ((15,h.at'),m)
 else if 64 < ps.len then ((8,(((pNames ps)[64]?).getD (⟨av,0⟩:Wd)).a),m)
 else wrongPts h.ag (pNames ps) 0 ps depth m
theorem Fo (all:List Wd):∀ (l:List Wd) (i:Nat),(enumL all i l).1=0->enumL all i l=(0,0)
 | [],_,_=>rfl
 | x :: r,i,h=>by
  have ih:=Fo all r (i + 1)
  grind [enumL]
theorem AP (h:Hd) (he:(jl h).1=0):jl h=(0,0):=by grind [jl,Fo]
mutual
theorem rJ:∀ (t:Ty) (depth m:Int),0<=m->(wrong t depth m).1.1=0->(wrong t depth m).1=(0,0)/\0<=(wrong t depth m).2/\(wrong t depth m).2<=512
 | .mk h ps,depth,m,hm,he=>by
  have i1:=Fp h ps depth (m + 1) (by omega);have i2:=oo h.ag (pNames ps) ps 0 depth (m + 1) (by omega);have i3:=AP h;simp only [wrong] at he ⊢;by_cases c0:24 < depth
  ·rw [aj c0] at he;simp at he
  rw [ai c0] at he ⊢;by_cases c1:512 < m + 1
  ·rw [aj c1] at he;simp at he
  rw [ai c1] at he ⊢;by_cases c2:h.ag < 1∨9 < h.ag
  all_goals grind
theorem Fp:∀ (h:Hd) (ps:Pts) (depth m:Int),0<=m->m<=512->(wrongOne h ps depth m).1.1=0->(wrongOne h ps depth m).1=(0,0)/\0<=(wrongOne h ps depth m).2/\(wrongOne h ps depth m).2<=512
 | h,.nil,depth,m,hm,_,he=>by simp [wrongOne] at he
 | h,.cons p t .nil,depth,m,hm,h5,he=>by
  have ih:=rJ t (depth + 1) m hm
  grind [wrongOne]
 | h,.cons p t (.cons _ _ _),depth,m,hm,_,he=>by simp [wrongOne] at he
theorem oo (ag:Int) (all:List Wd):∀ (ps:Pts) (i:Nat) (depth m:Int),0<=m->m<=512->(wrongPts ag all i ps depth m).1.1=0->(wrongPts ag all i ps depth m).1=(0,0)/\0<=(wrongPts ag all i ps depth m).2/\(wrongPts ag all i ps depth m).2<=512
 | .nil,i,depth,m,hm,h5,he=>by simp only [wrongPts];exact ⟨trivial,hm,h5⟩
 | .cons p t r,i,depth,m,hm,h5,he=>by
  have i1:=rJ t (depth + 1) m hm;simp only [wrongPts] at he ⊢;split at he
  ·rename_i h1;exact (h1 he).elim
  ·rename_i h1;rw [ai h1];split at he
   ·rename_i h2;rw [aj h2];split at he
    ·simp at he
    ·rename_i h3;rw [ai h3];exact oo ag all r (i + 1) depth m hm h5 he
   ·rename_i h2;rw [ai h2];split at he
    ·rename_i h3;exact (h3 he).elim
    ·rename_i h3;rw [ai h3];split at he
     ·rename_i h4;exact (h4 he).elim
     ·rename_i h4;rw [ai h4];have i2:=i1 (sU h4);exact oo ag all r (i + 1) depth _ i2.2.1 i2.2.2 he
end
theorem CL (k:Nat) (ih:CK k) (h:Hd) (ps:Pts) (depth m:Int) (hk:ps.wt<=k) (cQ:(Ty.mk h ps).wt<=1099511627776) (AL:0<=depth) (sM:depth<=24) (mH:0<=m) (jT:m<=512) :
  EvP prog 282 [wD (0,0) m,.agg (eE (.mk h ps)),.v (.int .i64 depth)] (wD (fv h ps depth m).1 (fv h ps depth m).2):=by
 simp only [Ty.wt,Hd.wt] at cQ;have fV:=ps.gn;have YJ:=tA ps;refine eG 126 [.cell 6 335] func282 rfl ntmps282 rfl fun _ _ _ _=>?_;refine br ?_ ?_<;>intro c1
 ·refine cP il (eU (0,0) m 15 h.at') ?_;have:fv h ps depth m=((15,h.at'),m):=by grind [aq,aM,fv]
  refine ⟨_,?_,rfl⟩;rw [this];exact ax
 ·have c1':¬ (h.ag=8/\ps.len=0):=by
   simp [aq,aM] at c1;omega
  refine br ?_ ?_<;>intro c2
  ·have aw:64 < ps.len:=by simp [aM] at c2;omega
   obtain ⟨p,t,hx⟩:=Pts.ff aw;refine fZ (fun i=>Nat.beq i 8) mo (by decide +kernel) ?_;refine iX (cj hx) ?_;refine cD il (eU (0,0) m 8 p.name.a) ?_;have:fv h ps depth m=((8,p.name.a),m):=by grind [fv,ib]
   refine ⟨_,?_,rfl⟩;rw [this];exact ax
  ·have c2':¬ 64 < ps.len:=by simp [aM] at c2;omega
   have hF:fv h ps depth m=wrongPts h.ag (pNames ps) 0 ps depth m:=by simp only [fv,ai c1',ai c2']
   refine aT (fun j st=>∃ (e:Nat) (m':Int),st=Lb (.mk h ps) e depth m' /\ e<=ps.len/\0<=m' /\ m' <= 512 /\
     wrongPts h.ag (pNames ps) 0 ps depth m=wrongPts h.ag (pNames ps) e (ps.drop e) depth m' /\ j=ps.len - e) ps.len
    (Lb (.mk h ps) 0 depth m) (bG wB) ⟨0,m,rfl,by omega,mH,jT,rfl,by omega⟩ ?_
   rintro j st ⟨e,m',rfl,he,vG,Fq,aP,rfl⟩;refine br ?_ ?_<;>intro hL
   ·have aw:e < ps.len:=by simpa [aM] using hL
    obtain ⟨p,t,hx⟩:=Pts.ff aw;rw [Pts.drop_cons hx] at aP;have Fl:=Pts.hZ (mG hx);obtain ⟨u,us⟩:=t;refine iX (cj hx) ?_;refine cP acG (CI ps (by omega)) ?_;refine cP WN (p8 (pNames ps) e p.name (by omega) (ib hx)) ?_;refine br ?_ ?_<;>intro hl
    ·have hl:aK (pNames ps) e p.name≠0:=sU hl;refine cP il (eU (0,0) m' _ p.name.a) ?_;have:fv h ps depth m=((aK (pNames ps) e p.name,p.name.a),m'):=by grind [wrongPts]
     refine ⟨_,?_,rfl⟩;rw [this];exact ax
    ·have hl:aK (pNames ps) e p.name=0:=sU hl;simp only [wrongPts] at aP;rw [ai (by simp [hl])] at aP;refine br ?_ ?_<;>intro hB
     ·rw [aj hB] at aP;refine br ?_ ?_<;>intro k7
      ·have k7:¬ h.ag=7:=sU k7;refine cP acH (Fm (.mk u us) (by omega)) ?_;refine br ?_ ?_<;>intro z
       ·have z:sameTy (.mk u us) de=true:=by simpa [au,k7] using z
        refine cP P7 (mW p jV (eE (.mk u us)) (eE de) (by omega) (AO _ _ _ _ _) (AO _ _ _ _ _)) ?_;refine br ?_ ?_<;>intro q
        ·have q:cV p jV=false:=by simpa [au,k7,z] using q
         refine cP il (eU (0,0) m' 19 p.name.a) ?_;rw [aj (by simp [q])] at aP;refine ⟨_,?_,rfl⟩;rw [hF,aP];exact ax
        ·have q:cV p jV=true:=by simpa [au,k7,z] using q
         rw [ai (by simp [k7,z,q])] at aP;exact rE ⟨_,by omega,e + 1,m',rfl,by omega,vG,Fq,aP,rfl⟩ (bG (dH (aX aw (by omega))))
       ·have z:sameTy (.mk u us) de=false:=by simpa [au,k7] using z
        refine cP il (eU (0,0) m' 19 p.name.a) ?_;rw [aj (by simp [z])] at aP;refine ⟨_,?_,rfl⟩;rw [hF,aP];exact ax
      ·have k7:h.ag=7:=sU k7;refine cP il (eU (0,0) m' 19 p.name.a) ?_;rw [aj (by simp [k7])] at aP;refine ⟨_,?_,rfl⟩;rw [hF,aP];exact ax
     ·rw [ai (by simp [hB])] at aP;refine br ?_ ?_<;>intro hw
      ·have hP:eu p=(20,p.name.a):=by grind [au,eu]
       rw [aj (by rw [hP];simp),hP] at aP;refine ⟨_,?_,rfl⟩;rw [hF,aP];exact ax
      ·have hw:¬ (p.wide < 0∨64 < p.wide):=by simp [au] at hw;omega
       have hpw:p.wt<=ps.wt:=by omega
       simp only [Ph.wt] at hpw;refine cP P6 (mX p.label (by omega)) ?_;refine br ?_ ?_<;>intro hb
       ·have hb:(bZ p.label).1=0:=sU hb;have hP:eu p=bq p:=by simp only [eu,ai hw,hb,ne_eq,not_true_eq_false,if_false]
        rw [hP] at aP;refine cP acI (Aa p (eE (.mk u us)) (by omega)) ?_ (by repeat' (first | exact rfl | exact trivial | exact Or.inr (Or.inl ⟨_,rfl⟩) | exact Or.inr ⟨_,rfl⟩ | exact Or.inl ⟨rfl,rfl⟩ | exact Or.inl rfl | refine Or.inr ⟨_,_,rfl,Nat.zero_le _,rfl,?_⟩ | refine ⟨_,_,rfl,?_,?_⟩ | refine ⟨_,rfl,?_⟩ | exact congrArg DV.agg rfl| refine Or.inr (Or.inr (Or.inr ⟨_,_,rfl,?_⟩)) | exact Or.inl rfl | refine Or.inr ?_));refine br ?_ ?_<;>intro hc
        ·have hc:(bq p).1≠0:=sU hc;rw [aj hc] at aP;refine ⟨_,?_,rfl⟩;rw [hF,aP];exact ax
        ·have hc:(bq p).1=0:=sU hc;rw [ai (by simp [hc])] at aP;have zS:=ih (.mk u us) (depth + 1) m' (by omega) (by omega) (by omega) (by omega) vG Fq;have bA:=rJ (.mk u us) (depth + 1) m' vG;generalize wrong (.mk u us) (depth + 1) m'=r at zS bA aP;obtain ⟨⟨fe,fa⟩,many⟩:=r;simp only at zS bA aP;refine cP PZ zS ?_ (by repeat' (first | exact rfl | exact trivial | exact Or.inr (Or.inl ⟨_,rfl⟩) | exact Or.inr ⟨_,rfl⟩ | exact Or.inl ⟨rfl,rfl⟩ | exact Or.inl rfl | refine Or.inr ⟨_,_,rfl,Nat.zero_le _,rfl,?_⟩ | refine ⟨_,_,rfl,?_,?_⟩ | refine ⟨_,rfl,?_⟩ | exact congrArg (fun z=>DV.v (.int .i64 z)) (wrap64 (by omega) (by omega))| refine Or.inr (Or.inr (Or.inr ⟨_,_,rfl,?_⟩)) | exact Or.inl rfl | refine Or.inr ?_));refine br ?_ ?_<;>intro hd
         ·have hd:fe≠0:=sU hd;rw [aj hd] at aP;refine ⟨_,?_,rfl⟩;rw [hF,aP];exact ax
         ·have hd:fe=0:=sU hd;subst hd;obtain ⟨h1,h2,h3⟩:=bA rfl;simp only [Prod.mk.injEq,true_and] at h1;subst h1;rw [ai (by simp)] at aP;exact rE ⟨_,by omega,e + 1,many,rfl,by omega,h2,h3,aP,rfl⟩ (bG (dH (aX aw (by omega))))
       ·have hb:¬ (bZ p.label).1=0:=sU hb;have hP:eu p=bZ p.label:=by simp only [eu,ai hw];rw [aj hb]
        rw [hP,aj hb] at aP;refine br ?_ ?_<;>intro hc
        ·refine ⟨_,?_,rfl⟩;rw [hF,aP];exact ax
        ·exact (hb (sU hc)).elim
   ·have hge:e=ps.len:=by simp [aM] at hL;omega
    rw [hge,Pts.dJ] at aP;refine ⟨_,?_,rfl⟩;rw [hF,aP];simp only [wrongPts];exact ax
theorem bP (e a:Int):EvP prog 252 [.v (.int .i64 e),.v (.int .i64 a)] (Ft.d (e,a)):=by
 refine eG 8 [.cell 4 44] func252 rfl ntmps252 rfl fun _ _ _ _=>?_;exact ⟨_,ax,rfl⟩
noncomputable def iG (L:List ByteArray) (x:ByteArray) (a:Int):Ft:=if aZ x=true then (if L.Nodup then (0,0) else (10,a)) else (9,a)
theorem uS (L:List ByteArray) (x:ByteArray) (a:Int) (hx:L[L.length - 1]? = some x) (hl:L.length<=1099511627776) (Ec:x.size<=4611686018427387904) :
  EvP prog 303 [.sl 1 (fq L) none,.v (.int .i64 a)] (iG L x a).d:=by
 have hN:=cH L;have kB:=(gS hx).1;have hz:IntKind.i64.wrap (((fq L).length:Int) - 1)=((L.length - 1:Nat):Int):=by rw [hN,wrap64 (by omega) (by omega)];omega
 refine eG 23 [.cell 4 44] func303 rfl ntmps303 rfl fun _ _ _ _=>?_;refine ⟨[.v (.string x)],⟨by rw [hz];omega,by rw [hz];exact gd hx⟩,?_⟩;refine cP xx (jk x Ec) ?_;refine br ?_ ?_<;>intro h
 ·have h:aZ x=false:=sU h;refine cP eI (bP 9 a) ?_;refine ⟨_,?_,rfl⟩;rw [iG,ai (by rw [h];decide)];exact ax
 ·have h:aZ x=true:=sU h;refine cE PI rfl (qz L hl) ax (fun r hr=>?_);obtain ⟨z,rfl,hz⟩:=hr;refine br ?_ ?_<;>intro h2
  ·have h2:0<=z:=sU h2;refine cP eI (bP 10 a) ?_;refine ⟨_,?_,rfl⟩;rw [iG,aj h,ai (hz.1 h2)];exact ax
  ·have h2:¬ 0<=z:=sU h2;refine ⟨_,?_,rfl⟩;rw [iG,aj h,aj (Classical.byContradiction fun hn=>h2 (hz.2 hn))];exact ax
theorem IB {l:List Wd} {e:Nat} {x:Wd} (h:l[e]? = some x):bV ((l.map fun w=>(⟨w.s,0⟩:Wd)).take e) ++ [[.v (.string x.s),.v (.int .i64 0)]]=bV ((l.map fun w=>(⟨w.s,0⟩:Wd)).take (e + 1)):=by
 have h2:(l.map fun w=>(⟨w.s,0⟩:Wd))[e]? = some ⟨x.s,0⟩:=by simp [h]
 exact AK h2
def jm (l:List Wd):List Wd:=l.map fun w=>⟨w.s,0⟩
abbrev Qp (l l':List Wd) (n e:Nat):St:=
 ⟨[bi 6 2 (bV l),ay 7 ((bV l).length),ay 8 e,(3,⟨[],.sl 2 (bV l') (some 0)⟩)],[],[⟨n,27,2,none⟩]⟩
theorem xK (l:List Wd) (hs:wdsWt l<=1099511627776):EvP prog 371 [.sl 2 (bV l) none] (.sl 2 (bV (jm l)) none):=by
 have hl:=bM l;refine eG 20 [.tmp 2] func371 rfl ntmps371 rfl fun _ _ _ _=>?_;refine aT (fun j st=>∃ e:Nat,st=Qp l ((jm l).take e) e e/\e<=l.length/\j=l.length - e) l.length (Qp l [] 0 0) (fF ⟨0,27,2,none⟩ rfl ⟨_,rfl⟩ rfl wA rfl rfl j8) ⟨0,by simp,by omega,by omega⟩ ?_;rintro j st ⟨e,rfl,he,rfl⟩;refine br ?_ ?_<;>intro h
 ·have aw:e < l.length:=by simpa [aE] using h
  obtain ⟨w,hw⟩:=gX aw;refine ⟨kD w,⟨by omega,bg hw⟩,?_⟩;refine ⟨by simp [aE,jm];omega,⟨by simp [aE,jm,maxLen];omega,by simp [aE,jm];omega⟩,?_⟩;refine ⟨Qp l ((jm l).take (e + 1)) (e + 1) (e + 1),(bG (gC (aX aw (by omega)) (IB hw))),l.length - (e + 1),by omega,e + 1,rfl,by omega,rfl⟩
 ·have hge:e=l.length:=by
   have:=h;simp [aE] at this;omega
  rw [hge,List.take_of_length_le (by simp [jm])];exact ⟨_,ax,rfl⟩
abbrev xL (l:List Wd) (e:Nat):St:=
 ⟨[bi 13 2 (bV l),ay 14 ((bV l).length),aF 2 0,ay 15 e],[[.v (.int .i64 0),.v (.int .i64 0)]],[]⟩
theorem jJ (l:List Wd) (hs:wdsWt l<=1099511627776) :
  EvP prog 328 [.sl 2 (bV l) none] (bZ l).d:=by
 have nW:=bM l;refine eG 28 [.cell 2 44] func328 rfl ntmps328 rfl fun _ _ _ _=>?_;refine br ?_ ?_<;>intro h
 ·have aw:32 < l.length:=by simp [aE] at h;omega
  obtain ⟨x,hx⟩:=gX aw;have:bZ l=(8,x.a):=by simp [bZ,Nat.not_le.2 aw,hx]
  refine ⟨kD x,⟨by omega,bg hx⟩,?_⟩;refine cP eI (bP 8 x.a) ?_;refine ⟨_,?_,rfl⟩;rw [this];exact ax
 ·have gk:l.length<=32:=by simp [aE] at h;omega
  refine aT (fun j st=>∃ e:Nat,st=xL l e/\e<=l.length/\badWd l=badWd (l.drop e)/\j=l.length - e) l.length
   (xL l 0) (bG wB) ⟨0,rfl,by omega,rfl,by omega⟩ ?_
  rintro j st ⟨e,rfl,he,aP,rfl⟩;refine br ?_ ?_<;>intro hL
  ·have aw:e < l.length:=by simpa [aE] using hL
   obtain ⟨x,hx⟩:=gX aw;rw [drop_cons hx] at aP;have Ec:=ji (mG hx);refine ⟨kD x,⟨by omega,bg hx⟩,?_⟩;refine cP xx (jk x.s (by omega)) ?_;refine br ?_ ?_<;>intro hN
   ·have hN:aZ x.s=false:=sU hN;have:bZ l=(9,x.a):=by simp [bZ,gk,aP,badWd,hN]
    refine cP eI (bP 9 x.a) ?_;refine ⟨_,?_,rfl⟩;rw [this];exact ax
   ·have hN:aZ x.s=true:=sU hN;refine ⟨xL l (e + 1),(bG (dH (aX aw (by omega)))),l.length - (e + 1),by omega,e + 1,rfl,by omega,?_,rfl⟩;rw [aP];simp [badWd,hN]
  ·have hge:e=l.length:=by simp [aE] at hL;omega
   have:bZ l=(0,0):=by simp [bZ,gk,aP,hge,badWd]
   refine ⟨_,?_,rfl⟩;rw [this];exact ax
theorem CM (p:Ph) (tl:List DV) (t:Ty) (gD:tl=eE t) (hs:p.wt<=1099511627776) :
  EvP prog 329 [.agg (Ir p tl)] (bq p).d:=by
 subst gD;obtain ⟨u,us⟩:=t;simp only [Ph.wt] at hs;refine eG 55 [.cell 2 44] func329 rfl ntmps329 rfl fun _ _ _ _=>?_;refine br ?_ ?_<;>intro h0
 ·have h0:p.ck=0:=of_decide_eq_true h0;refine br ?_ ?_<;>intro h1
  ·have:bq p=(19,p.name.a):=by grind [au,aE,bq]
   refine cP eI (bP 19 p.name.a) ?_;refine ⟨_,?_,rfl⟩;rw [this];exact ax
  ·have gQ:p.cl=[]:=by
    simp [au,aE] at h1;exact h1.2
   have:bq p=(0,0):=by grind [au,aE,bq]
   have h00:bZ p.cl=(0,0):=by rw [gQ];simp [bZ,badWd]
   refine cP Fa (jJ p.cl (by omega)) ?_;refine ⟨_,?_,rfl⟩;rw [this,<- h00];exact ax
 have h0:¬ p.ck=0:=of_decide_eq_false h0;refine br ?_ ?_<;>intro h1
 ·have h1:p.ck=1:=of_decide_eq_true h1;refine br ?_ ?_<;>intro h2
  ·have:bq p=(20,p.ca):=by grind [aq,bq]
   refine cP eI (bP 20 p.ca) ?_;refine ⟨_,?_,rfl⟩;rw [this];exact ax
  ·have:bq p=bZ p.cl:=by grind [aq,bq]
   refine cP Fa (jJ p.cl (by omega)) ?_;refine ⟨_,?_,rfl⟩;rw [this];exact ax
 have h1:¬ p.ck=1:=of_decide_eq_false h1;refine br ?_ ?_<;>intro h3
 ·have h3:p.ck=2:=of_decide_eq_true h3;refine br ?_ ?_<;>intro h2
  ·have:bq p=(20,p.ca):=by grind [aq,bq]
   refine cP eI (bP 20 p.ca) ?_;refine ⟨_,?_,rfl⟩;rw [this];exact ax
  ·have:bq p=bZ p.cl:=by grind [aq,bq]
   refine cP Fa (jJ p.cl (by omega)) ?_;refine ⟨_,?_,rfl⟩;rw [this];exact ax
 have h3:¬ p.ck=2:=of_decide_eq_false h3;refine br ?_ ?_<;>intro h4
 ·have h4:p.ck=3:=of_decide_eq_true h4;refine br ?_ ?_<;>intro h2
  ·have:bq p=(20,p.ca):=by grind [aq,bq]
   refine cP eI (bP 20 p.ca) ?_;refine ⟨_,?_,rfl⟩;rw [this];exact ax
  ·have:bq p=bZ p.cl:=by grind [aq,bq]
   refine cP Fa (jJ p.cl (by omega)) ?_;refine ⟨_,?_,rfl⟩;rw [this];exact ax
 have h4:¬ p.ck=3:=of_decide_eq_false h4;have:bq p=(14,p.ca):=by grind [bq]
 refine cP eI (bP 14 p.ca) ?_;refine ⟨_,?_,rfl⟩;rw [this];exact ax
theorem Qq (w:World) (x y:Operand) (vs vs':Array Value):(eqGuard .neq 27 x y (.agg vs) (.agg vs')).run prog w = .ok () w:=by
 have h:prog.eqGuardType prog.depth 27=false:=by kernel_rfl
 simp [eqGuard,run_program,h]
theorem YK (a b:ByteArray) (p q:Int) (w:World):(binOp .neq 27 (.agg #[.string a,.int .i64 p]) (.agg #[.string b,.int .i64 q])).run prog w = .ok (.bool (!(decide (a=b) && decide (p=q)))) w:=by
 have hf:prog.underlying 27=some (.struct (prog.fieldsOf 27)):=by simp [Program.fieldsOf,Tryz.underlying27]
 have sJ:(prog.fieldsOf 27).toList=[⟨ "Name",9,0,false, "", "",0⟩,⟨ "At",3,1,false, "", "",16⟩]:=by simp [Program.fieldsOf,Tryz.underlying27]
 have hs:prog.stoodInHeld 27=false:=by kernel_rfl
 have hm:∃ d,Op.maxDepth=d + 1 + 1:=⟨Op.maxDepth - 2,by decide⟩;obtain ⟨d,hm⟩:=hm
 have he:(Op.equal 27 (.agg #[.string a,.int .i64 p]) (.agg #[.string b,.int .i64 q])).run prog w = .ok (decide (a=b) && decide (p=q)) w:=by
  unfold Op.equal;rw [hm,run_equalIn_struct w (d + 1) 27 _ _ hf hs,sJ]
  have e1:(a.toList == b.toList)=decide (a=b):=by
   rw [ByteArray.toList_eq,ByteArray.toList_eq];by_cases h:a=b
   ·subst h;simp
   ·have:¬ a.data=b.data:=fun e=>h (ByteArray.ext e);simp [h,this]
  have q9:∀ cs:Array Value,∀ off v,cs[off]? = some v->(part 9 cs off).run prog w = .ok v w:=fun cs off v h=>by
   simp [part,Tryz.isAgg9,h]
  have q3:∀ cs:Array Value,∀ off v,cs[off]? = some v->(part 3 cs off).run prog w = .ok v w:=fun cs off v h=>by
   simp [part,Tryz.isAgg3,h]
  simp only [Op.eqFields,ne_eq,String.reduceEq,not_false_eq_true,if_true,Sem.run_bind,q9 #[.string a,.int .i64 p] 0 (.string a) rfl,q9 #[.string b,.int .i64 q] 0 (.string b) rfl,Result.andThen_ok,run_equalIn_string w d 9 a b Tryz.underlying9,e1];by_cases h:a=b
  ·simp only [h,decide_true,Bool.not_true,Bool.false_eq_true,if_false,Sem.run_bind,q3 #[.string b,.int .i64 p] 1 (.int .i64 p) rfl,q3 #[.string b,.int .i64 q] 1 (.int .i64 q) rfl,Result.andThen_ok,run_equalIn_int w d 3 .i64 .i64 p q Tryz.underlying3];by_cases h2:p=q<;>simp [h2,Sem.run_pure]
  ·simp [h,Sem.run_pure]
 show ((do let r <- Op.equal 27 _ _;pure (Value.bool !r)):Sem Value).run prog w=_;simp only [Sem.run_bind,he,Result.andThen_ok,Sem.run_pure]
theorem Uw (x y:Operand) (a b:Wd):Ca prog .neq x y 27 (kD a) (kD b) (!(decide (a.s=b.s) && decide (a.a=b.a))):=
 ⟨[.string a.s,.int .i64 a.a],[.string b.s,.int .i64 b.a],rfl,rfl,fun w=>⟨Qq w x y _ _,YK a.s b.s a.a b.a w⟩⟩
def eqWds:List Wd->List Wd->Bool
 | [],[]=>true
 | x :: r,y :: s=>(decide (x.s=y.s) && decide (x.a=y.a)) && eqWds r s
 | _,_=>false
theorem AQ:∀ {a b:List Wd},a.length≠b.length->eqWds a b=false
 | [],[],h=>(h rfl).elim
 | [],_ :: _,_=>rfl
 | _ :: _,[],_=>rfl
 | x :: r,y :: s,h=>by
  simp only [eqWds];rw [AQ (a:=r) (b:=s) (sU h),Bool.and_false]
theorem uT:∀ a b:List Wd,eqWds (jm a) (jm b)=sameWds a b
 | [],[]=>rfl
 | [],_ :: _=>rfl
 | _ :: _,[]=>rfl
 | x :: r,y :: s=>by
  have:=uT r s
  grind [jm,eqWds,sameWds]
abbrev Qr (a b:List Wd) (e:Nat):St:=
 ⟨[bi 0 2 (bV a),bi 1 2 (bV b),ay 12 ((bV a).length),ay 13 e],[],[]⟩
theorem Fs (a b:List Wd) (hs:a.length<=1099511627776) :
  EvP prog 370 [.sl 2 (bV a) none,.sl 2 (bV b) none] (.v (.bool (eqWds a b))):=by
 refine eG 26 [.tmp 4] func370 rfl ntmps370 rfl fun _ _ _ _=>?_;refine br ?_ ?_<;>intro h
 ·have aY:a.length≠b.length:=by have:=h;simp [aE] at this;omega
  exact congrArg (fun b=>DV.v (.bool b)) (AQ aY).symm
 ·have hl:a.length=b.length:=by have:=h;simp [aE] at this;omega
  refine aT (fun j st=>∃ e:Nat,st=Qr a b e/\e<=a.length/\eqWds a b=eqWds (a.drop e) (b.drop e)/\j=a.length - e) a.length
   (Qr a b 0) (bG wB) ⟨0,rfl,by omega,rfl,by omega⟩ ?_
  rintro j st ⟨e,rfl,he,aP,rfl⟩;refine br ?_ ?_<;>intro h
  ·have aw:e < a.length:=by simpa [aE] using h
   obtain ⟨x,hx⟩:=gX aw;obtain ⟨y,hy⟩:∃ y,b[e]? = some y:=⟨_,gE (hl ▸ aw)⟩;rw [drop_cons hx,drop_cons hy] at aP;refine dI ?_;refine ⟨kD x,⟨by omega,bg hx⟩,kD y,⟨by omega,bg hy⟩,_,Uw _ _ x y,?_⟩;refine br ?_ ?_<;>intro h
   ·have aY:(decide (x.s=y.s) && decide (x.a=y.a))=false:=by grind
    refine (bK ?_:);rw [aP];simp only [eqWds,aY,Bool.false_and]
   ·have aY:(decide (x.s=y.s) && decide (x.a=y.a))=true:=by grind
    refine ⟨Qr a b (e + 1),(bG (dH (aX aw (by omega)))),a.length - (e + 1),by omega,e + 1,rfl,by omega,?_,rfl⟩;rw [aP];simp only [eqWds,aY,Bool.true_and]
  ·have hge:e=a.length:=by have:=h;simp [aE] at this;omega
   refine (bK ?_:);rw [aP,hge,hl];simp [eqWds];rw [<- hl];simp [eqWds]
theorem iH (a b:List Wd) (ha:wdsWt a<=1099511627776) (hb:wdsWt b<=1099511627776) :
  EvP prog 353 [.sl 2 (bV a) none,.sl 2 (bV b) none] (.v (.bool (sameWds a b))):=by
 have hl:=bM a;refine eG 10 [.tmp 4] func353 rfl ntmps353 rfl fun _ _ _ _=>?_;refine cP WS (xK a ha) ?_;refine cP WS (xK b hb) ?_;refine cP acW (Fs (jm a) (jm b) (by simp [jm];omega)) ?_;refine (bK ?_:);exact uT a b
def eqPts (F:Ph->Ty->Ph->Ty->Bool):Pts->Pts->Bool
 | .nil,.nil=>true
 | .cons p t r,.cons q u s=>F p t q u && eqPts F r s
 | _,_=>false
theorem AR {F:Ph->Ty->Ph->Ty->Bool}:∀ {a b:Pts},a.len≠b.len->eqPts F a b=false
 | .nil,.nil,h=>(h rfl).elim
 | .cons p t r,.cons q u s,h=>by
  simp only [eqPts];rw [AR (a:=r) (b:=s) (by simpa [Pts.len] using h),Bool.and_false]
 | .nil,.cons _ _ _,_=>rfl
 | .cons _ _ _,.nil,_=>rfl
def dD (p:Ph) (t:Ty) (q:Ph) (u:Ty):Bool:=decide (p.name.s=q.name.s) && cV p q && sameTy t u
theorem xM:∀ a b:Pts,eqPts dD a b=samePts a b
 | .nil,.nil=>by simp [eqPts,samePts]
 | .cons p t r,.cons q u s=>by simp only [eqPts,samePts,dD,xM r s]
 | .nil,.cons _ _ _=>by simp [eqPts,samePts]
 | .cons _ _ _,.nil=>by simp [eqPts,samePts]
abbrev Qs (a b:Pts) (g e:Nat):St:=
 ⟨[bi 1 18 (gp b),(2,⟨[],.fn g [] []⟩),bi 15 18 (gp a),ay 16 ((gp a).length),ay 17 e],[],[]⟩
theorem Fu (g:Nat) (kY:Enters prog g) (F:Ph->Ty->Ph->Ty->Bool) (a b:Pts) (hs:a.wt<=1099511627776)
  (hF:∀ (e:Nat) p t q u,a.toList[e]? = some (p,t)->b.toList[e]? = some (q,u)->EvP prog g [.agg (Ir p (eE t)),.agg (Ir q (eE u))] (.v (.bool (F p t q u)))) :
  EvP prog 372 [.sl 18 (gp a) none,.sl 18 (gp b) none,.fn g [] []] (.v (.bool (eqPts F a b))):=by
 have My:=a.gn;refine eG 32 [.tmp 6] func372 rfl ntmps372 rfl fun _ _ _ _=>?_;refine br ?_ ?_<;>intro h
 ·have aY:a.len≠b.len:=by have:=h;simp [aM] at this;omega
  exact congrArg (fun b=>DV.v (.bool b)) (AR aY).symm
 ·have hl:a.len=b.len:=by have:=h;simp [aM] at this;omega
  refine aT (fun j st=>∃ e:Nat,st=Qs a b g e/\e<=a.len/\eqPts F a b=eqPts F (a.drop e) (b.drop e)/\j=a.len - e) a.len
   (Qs a b g 0) (bG wB) ⟨0,rfl,by omega,rfl,by omega⟩ ?_
  rintro j st ⟨e,rfl,he,aP,rfl⟩;refine br ?_ ?_<;>intro h
  ·have aw:e < a.len:=by simpa [aM] using h
   obtain ⟨p,t,hx⟩:=Pts.ff aw;obtain ⟨q,u,hy⟩:=Pts.ff (hl ▸ aw);rw [Pts.drop_cons hx,Pts.drop_cons hy] at aP;have V8:=hF e p t q u hx hy;obtain ⟨t,ts⟩:=t;obtain ⟨u,us⟩:=u;refine iX (cj hx) ?_;refine iX (cj hy) ?_;refine cP kY V8 ?_;refine br ?_ ?_<;>intro h
   ·have aY:F p (.mk t ts) q (.mk u us)=false:=sU h;refine (bK ?_:);rw [aP];simp only [eqPts,aY,Bool.false_and]
   ·have aY:F p (.mk t ts) q (.mk u us)=true:=sU h;refine ⟨Qs a b g (e + 1),(bG (dH (aX aw (by omega)))),a.len - (e + 1),by omega,e + 1,rfl,by omega,?_,rfl⟩;rw [aP];simp only [eqPts,aY,Bool.true_and]
  ·have hge:e=a.len:=by have:=h;simp [aM] at this;omega
   refine (bK ?_:);rw [aP,hge,Pts.dJ,hl,Pts.dJ];simp [eqPts]
theorem oq (p q:Ph) (t u:Ty) (hp:p.wt<=1099511627776) (hq:q.wt<=1099511627776)
  (ht:EvP prog 354 [.agg (eE t),.agg (eE u)] (.v (.bool (sameTy t u)))) :
  EvP prog 327 [.agg (Ir p (eE t)),.agg (Ir q (eE u))] (.v (.bool (dD p t q u))):=by
 simp only [Ph.wt] at hp hq;obtain ⟨th,tps⟩:=t;obtain ⟨uh,ups⟩:=u;refine eG 71 [.tmp 4] func327 rfl ntmps327 rfl fun _ _ _ _=>?_
 have e0:dD p (.mk th tps) q (.mk uh ups)=(((decide (p.name.s=q.name.s) && (p.bare == q.bare)) && decide (p.wide=q.wide)) && sameWds p.label q.label && ((decide (p.ck=q.ck) && decide (p.cn=q.cn)) && sameWds p.cl q.cl) && sameTy (.mk th tps) (.mk uh ups)):=by
  simp only [dD,cV,Bool.and_assoc]
 rw [e0];refine br ?_ ?_<;>intro hA
 ·simp only [aq] at hA;refine cP K8 (iH p.label q.label (by omega) (by omega)) ?_;refine br ?_ ?_<;>intro hB
  ·simp only [aq] at hB;refine cP K8 (iH p.cl q.cl (by omega) (by omega)) ?_;refine br ?_ ?_<;>intro hC
   ·refine cP acQ ht ?_;refine (bK ?_:);simp only [aq,Bool.true_and,Bool.and_true] at hC ⊢
    simp_all
   ·refine (bK ?_:);simp only [aq,Bool.true_and,Bool.and_true] at hC ⊢
    simp_all
  ·simp only [aq] at hB;refine br ?_ ?_<;>intro hC
   ·exfalso;simp [aq] at hC
   ·refine (bK ?_:)
    simp_all
 ·simp only [aq,beq_true] at hA;refine br ?_ ?_<;>intro hB
  ·refine cP K8 (iH p.cl q.cl (by omega) (by omega)) ?_;refine (bK ?_:);rw [hA];rfl
  ·refine (bK ?_:);rw [hA];rfl
theorem AS:∀ (n:Nat) (a b:Ty),a.wt<=n->a.wt<=1099511627776->b.wt<=1099511627776 ->
  EvP prog 354 [.agg (eE a),.agg (eE b)] (.v (.bool (sameTy a b)))
 | 0,a,b,hn,_,_=>by have:=a.cT;omega
 | n + 1,.mk h ps,.mk k qs,hn,cQ,adf=>by
  have ih:=AS n;simp only [Ty.wt,Hd.wt] at hn cQ adf
  have hE:EvP prog 372 [.sl 18 (gp ps) none,.sl 18 (gp qs) none,.fn 327 [] []] (.v (.bool (samePts ps qs))):=by
   rw [<- xM];refine Fu 327 Qa dD ps qs (by omega) fun e p t q u hx hy=>?_;have hw1:=Pts.hZ (mG hx);have mA:=Pts.hZ (mG hy);exact oq p q t u (by omega) (by omega) (ih t u (by omega) (by omega) (by omega))
  refine eG 53 [.tmp 4] func354 rfl ntmps354 rfl fun _ _ _ _=>?_;refine br ?_ ?_<;>intro hA
  ·simp [au] at hA;obtain ⟨⟨⟨⟨e1,e2⟩,e3⟩,e4⟩,e5⟩:=hA;refine cP K8 (iH h.af k.af (by omega) (by omega)) ?_;refine br ?_ ?_<;>intro hB
   ·refine (bK ?_:);simp [au,e1,e2,e3,e4,e5] at hB;simp [sameTy,lC,hB]
   ·simp [au,e1,e2,e3,e4,e5] at hB;refine cP acX hE ?_;refine (bK ?_:);simp [sameTy,lC,e1,e2,e3,e4,e5,hB]
  ·refine (bK ?_:);simp [au] at hA;simp only [sameTy,lC]
   grind
theorem xN (a b:Ty) (ha:a.wt<=1099511627776) (hb:b.wt<=1099511627776):EvP prog 354 [.agg (eE a),.agg (eE b)] (.v (.bool (sameTy a b))):=AS _ a b (aR _) ha hb
def xO (h:Hd) (ps:Pts):Bool:=
 (((((decide (h.ag=2) || (decide (h.lo=0) && decide (h.hi=0))) && ((decide (h.ag=3) || decide (h.ag=5)) || decide (h.most=0))) && (decide (ps.len=0) || (decide (5<=h.ag) && decide (h.ag<=8)))) &&
  (decide (h.af.length=0) || decide (h.ag=4))) && (decide (h.name.s=av) || decide (h.ag=9)))
theorem MT (h:Hd) (ps:Pts):EvP prog 253 [.agg (eE (.mk h ps))] (.v (.bool (xO h ps))):=by
 have l1:(((gp ps).length:Int)=0)=(ps.len=0):=by rw [aM];exact propext (by omega)
 have l2:(((bV h.af).length:Int)=0)=(h.af.length=0):=by rw [aE];exact propext (by omega)
 have he:(⟨#[]⟩:ByteArray)=av:=rfl;refine eG 67 [.tmp 2] func253 rfl ntmps253 rfl fun _ _ _ _=>?_;refine br ?_ ?_<;>intro k2
 ·have k2:h.ag=2:=of_decide_eq_true k2;refine (bK ?_:);rw [Bool.eq_iff_iff];simp [aq,au,xO,aM,aE,k2,he]
 have k2:¬ h.ag=2:=of_decide_eq_false k2;refine br ?_ ?_<;>intro k3
 ·have k3:h.ag=3:=of_decide_eq_true k3;refine br (fun _=>?_) (fun hf=>?_)
  ·refine (bK ?_:);rw [Bool.eq_iff_iff];simp [aq,au,xO,aM,aE,k3,he]
  ·exact absurd k3 (of_decide_eq_false hf)
 have k3:¬ h.ag=3:=of_decide_eq_false k3;refine br ?_ ?_<;>intro k5
 ·have k5:h.ag=5:=of_decide_eq_true k5;refine (bK ?_:);rw [Bool.eq_iff_iff];simp [aq,au,xO,aM,aE,k5,he]
 have k5:¬ h.ag=5:=of_decide_eq_false k5;refine (bK ?_:);rw [Bool.eq_iff_iff];simp [aq,au,xO,aM,aE,k2,k3,k5,he]
theorem CN:∀ ps:Pts,samePts ps ps=true:=by
 have wr:∀ l:List Wd,sameWds l l=true:=by
  intro l
  induction l with
  | nil=>rfl
  | cons x r ih=>simp [sameWds,ih]
 have key:∀ n,(∀ t:Ty,t.wt<=n->sameTy t t=true)/\(∀ ps:Pts,ps.wt<=n->samePts ps ps=true):=by
  intro n
  induction n using Nat.strongRecOn with
  | _ n ih=>
   have hp:∀ ps:Pts,ps.wt<=n->(∀ t:Ty,t.wt + 256<=n->sameTy t t=true)->samePts ps ps=true:=by
    intro ps
    induction ps using Pts.rec (motive_1:=fun _=>True) with
    | mk=>trivial
    | nil=>intros;simp [samePts]
    | cons p t r _ ihr=>
     intro hw ht;simp only [Pts.wt,Ph.wt] at hw;simp only [samePts];rw [ht t (by omega),ihr (by omega) ht];simp [cV,wr]
   refine ⟨fun t ht=>?_,fun ps hps=>?_⟩
   ·obtain ⟨h,ps⟩:=t;simp only [Ty.wt,Hd.wt] at ht;simp only [sameTy,lC]
    grind
   all_goals grind
 exact fun ps=>(key ps.wt).2 ps (aR _)
theorem Lc (h:Hd) (ps:Pts):xO h ps=sameTy (.mk h ps) (mask (.mk h ps)):=by
 have wr:∀ l:List Wd,sameWds l l=true:=by
  intro l
  induction l with
  | nil=>rfl
  | cons x r ih=>simp [sameWds,ih]
 have wn:∀ l:List Wd,sameWds l []=decide (l.length=0):=by
  intro l;cases l<;>simp [sameWds]
 have pn:∀ l:Pts,samePts l .nil=decide (l.len=0):=by
  intro l;cases l<;>simp [samePts,Pts.len]
 have pr:=CN ps;simp only [mask,sameTy,lC,jW];have e5:samePts ps (if 4 < h.ag/\h.ag < 9 then ps else .nil)=(decide (ps.len=0) || (decide (5<=h.ag) && decide (h.ag<=8))):=by grind
 have e6:sameWds h.af (if h.ag=4 then h.af else [])=(decide (h.af.length=0) || decide (h.ag=4)):=by grind
 grind [xO]
theorem Fv (p:Ph) (t:Ty) (hp:p.wt<=1099511627776):EvP prog 304 [.agg (Ir p (eE t))] (.v (.bool (dD p de fJ de))):=by
 obtain ⟨th,tps⟩:=t;refine eG 8 [.tmp 2] func304 rfl ntmps304 rfl fun _ _ _ _=>?_;refine cP Qa (oq p fJ de de hp (by decide) (xN de de (by decide) (by decide))) ?_;exact (rfl:_=_)
def aC (l:List Wd):List ByteArray:=l.map fun w=>w.s
noncomputable def enumP (l:List Wd):Nat->Ft
 | 0=>(0,0)
 | e + 1=>
  if (enumP l e).1≠0 then enumP l e
  else match l[e]? with
   | some w=>iG (aC (l.take (e + 1))) w.s w.a
   | none=>(0,0)
theorem qA {l:List Wd} {e:Nat} (h:(enumP l e).1≠0):∀ d,enumP l (e + d)=enumP l e
 | 0=>rfl
 | d + 1=>by
  have ih:=qA h d;rw [<- Nat.add_assoc,enumP,ih,aj h]
theorem CO {L:List ByteArray} {x:ByteArray} {a:Int} (h:(iG L x a).1=0):iG L x a=(0,0):=by
 unfold iG at *
 grind
theorem IC {l:List Wd}:∀ {e:Nat},(enumP l e).1=0->enumP l e=(0,0)
 | 0,_=>rfl
 | e + 1,h=>by
  rw [enumP] at h ⊢
  grind [CO]
theorem xP {l:List Wd} {e:Nat} {w:Wd} (h:(enumP l e).1=0) (hw:l[e]? = some w):enumP l (e + 1)=iG (aC (l.take (e + 1))) w.s w.a:=by
 rw [enumP,ai (by rw [h];simp),hw]
noncomputable def ou (h:Hd):Ft:=
 if h.af.length=0 then (15,h.at') else if 64 < h.af.length then (8,((h.af[64]?).getD (⟨av,0⟩:Wd)).a) else enumP h.af h.af.length
abbrev Qt (h:Hd) (ps:Pts) (n e:Nat):St:=
 ⟨[aF 1 0,aF 2 1,bi 27 2 (bV h.af),ay 28 ((bV h.af).length),ay 29 e,(3,⟨[],.sl 1 (fq (aC (h.af.take e))) (some 0)⟩)],
  [eE (.mk h ps),[.v (.int .i64 0),.v (.int .i64 0)]],[⟨n,9,1,none⟩]⟩
theorem kb {l:List Wd} {e:Nat} {w:Wd} (h:l[e]? = some w):fq (aC (l.take e)) ++ [[DV.v (.string w.s)]]=fq (aC (l.take (e + 1))):=by
 rw [List.take_add_one,h];simp [fq,aC]
theorem ID (h:Hd) (ps:Pts) (hs:wdsWt h.af<=1099511627776):EvP prog 254 [.agg (eE (.mk h ps))] (ou h).d:=by
 have hl:=bM h.af;refine eG 48 [.cell 2 44] func254 rfl ntmps254 rfl fun _ _ _ _=>?_;refine br ?_ ?_<;>intro h0
 ·have h0:h.af.length=0:=by have:=h0;simp [aE] at this;simp [this]
  refine cP eI (bP 15 h.at') ?_;refine ⟨_,?_,rfl⟩;rw [ou,aj h0];exact ax
 have h0:¬ h.af.length=0:=by have:=h0;simp [aE] at this;simpa using this
 refine br ?_ ?_<;>intro h1
 ·have h1:64 < h.af.length:=by have:=h1;simp [aE] at this;omega
  obtain ⟨x,hx⟩:∃ x,h.af[64]? = some x:=⟨_,gE h1⟩;refine ⟨kD x,⟨by omega,bg hx⟩,?_⟩;refine cP eI (bP 8 x.a) ?_;refine ⟨_,?_,rfl⟩;rw [ou,ai h0,aj h1,hx];exact ax
 have h1:¬ 64 < h.af.length:=by have:=h1;simp [aE] at this;omega
 have hk:ou h=enumP h.af h.af.length:=by rw [ou,ai h0,ai h1]
 rw [hk];refine lI (fun j st=>∃ e:Nat,st=Qt h ps e e/\e<=h.af.length/\(enumP h.af e).1=0/\j=h.af.length - e) ⟨0,rfl,by omega,rfl,rfl⟩ (fF ⟨0,9,1,none⟩ rfl ⟨_,rfl⟩ rfl wA rfl rfl j8) ?_;rintro j st ⟨e,rfl,he,hz,rfl⟩;refine br ?_ ?_<;>intro hL
 ·have aw:e < h.af.length:=by simpa [aE] using hL
  obtain ⟨w,hw⟩:=gX aw;have OW:=ji (mG hw);have xQ:=xP hz hw;have Qu:(aC (h.af.take (e + 1)))[(aC (h.af.take (e + 1))).length - 1]? = some w.s:=by grind [aC]
  refine ⟨kD w,⟨by omega,bg hw⟩,?_⟩;refine ⟨by simp [cH,aC];omega,⟨by simp [cH,aC,maxLen];omega,by simp [cH,aC];omega⟩,?_⟩;have eK:=kb hw;have X2:=uS (aC (h.af.take (e + 1))) w.s w.a Qu (by simp [aC];omega) (by omega);rw [<- eK,<- xQ] at X2;refine cP WQ X2 ?_;refine br ?_ ?_<;>intro hf
  ·have hf:(enumP h.af (e + 1)).1≠0:=sU hf;refine ⟨_,?_,rfl⟩;have bd:=qA hf (h.af.length - (e + 1));rw [show e + 1 + (h.af.length - (e + 1))=h.af.length by omega] at bd;rw [bd];exact ax
  ·have hf:(enumP h.af (e + 1)).1=0:=sU hf;refine ⟨Qt h ps (e + 1) (e + 1),(bG (gC (aX aw (by omega)) eK)),h.af.length - (e + 1),by omega,e + 1,rfl,by omega,hf,rfl⟩
 ·have hge:e=h.af.length:=by
   have:=hL;simp [aE] at this;omega
  subst hge;have bd:=IC hz;refine ⟨_,?_,rfl⟩;rw [bd];exact ax
def adg (t:Ty) (depth m:Int) (r:DV) (os:List (List DV)) (_:List TkE):Prop:=
 r=(wrong t depth m).1.d/\∃ z:Int,os=[[.v (.int .i64 z)]]/\((wrong t depth m).1.1=0->z=(wrong t depth m).2)
theorem YL {t:Ty} {depth m:Int}:∀ r os tk,adg t depth m r os tk->clB 0 0 r=true/\∀ sL∈os,clB.clL 0 0 sL=true:=by
 rintro r os tk ⟨rfl,z,rfl,_⟩;refine ⟨rfl,fun sL h=>?_⟩;simp only [List.mem_singleton] at h;subst h;rfl
theorem MU (t:Ty) (hc:Ev prog 199 [.loc 0 0,.agg (eE t),.v (.int .i64 1)] [[.v (.int .i64 0)]] [] (adg t 1 0)) :
  EvP prog 113 [.agg (eE t)] (wrong t 1 0).1.d:=by
 obtain ⟨h,ps⟩:=t;refine eG 9 [.cell 2 44] func113 rfl ntmps113 rfl fun _ _ _ _=>?_;refine mS PW rfl rfl ax ax hc YL (fun r sL hr=>?_);obtain ⟨rfl,z,hz,_⟩:=hr;simp only [List.cons.injEq,and_true] at hz;subst hz;exact ⟨_,ax,rfl⟩
def k0 (n:Nat):List UInt8:=if n < 10 then [UInt8.ofNat (48 + n)] else k0 (n / 10) ++ [UInt8.ofNat (48 + n % 10)]
termination_by n
decreasing_by omega
theorem rK {n:Nat} (h:n < 10):k0 n=[UInt8.ofNat (48 + n)]:=by rw [k0,aj h]
theorem v8 {n:Nat} (h:¬ n < 10):k0 n=k0 (n / 10) ++ [UInt8.ofNat (48 + n % 10)]:=by rw [k0,ai h]
theorem Fw:∀ (k n:Nat),n < 10 ^ (k + 1)->(k0 n).length<=k + 1
 | 0,n,h=>by grind [rK]
 | k + 1,n,h=>by
  by_cases hn:n < 10
  ·rw [rK hn];simp
  ·rw [v8 hn];have h2:n / 10 < 10 ^ (k + 1):=by omega
   have:=Fw k (n / 10) h2
   grind
theorem digs_20 {n:Nat} (h:n<=18446744073709551616):(k0 n).length<=20:=Fw 19 n (by omega)
def ic (z:Int):List UInt8:=if z < 0 then 45 :: k0 z.natAbs else k0 z.natAbs
def MV (z:Int):ByteArray:=⟨(ic z).toArray⟩
theorem xR {z:Int} (h1 : -9223372036854775808<=z) (h2:z<=9223372036854775807):(ic z).length<=21:=by grind [digs_20,ic]
theorem MW {z:Int} (h1 : -9223372036854775808<=z) (h2:z<=9223372036854775807):(MV z).size<=21:=xR h1 h2
theorem mY (a b:List UInt8):(⟨a.toArray⟩:ByteArray) ++ ⟨b.toArray⟩=⟨(a ++ b).toArray⟩:=by
 apply ByteArray.ext;simp
theorem wr (z:Int) (h1 : -9223372036854775808<=z) (h2:z<=9223372036854775807):IntKind.i64.wrap z=z:=by
 rw [IntKind.wrap_i64];omega
theorem Ux {z:Int} (h:0<=z):ic z=k0 z.toNat:=by grind [ic]
theorem Qv {z:Int} (h:z < 0):ic z=45 :: k0 z.natAbs:=by unfold ic;rw [aj h]
theorem rL:∀ bs:List UInt8,u8L bs=bs.map fun b=>DV.v (.int .u8 (b.toNat:Int))
 | []=>rfl
 | b :: r=>by simp [u8L,rL r]
theorem CP (bs:List UInt8):(u8L bs).length=bs.length:=by simp [rL]
theorem Ld (a b:List UInt8):u8L (a ++ b)=u8L a ++ u8L b:=by simp [rL]
theorem Qw (n:Nat) (a:List UInt8):u8L (a.take n)=(u8L a).take n:=by simp [rL,List.map_take]
theorem Fx (n:Nat) (a:List UInt8):u8L (a.drop n)=(u8L a).drop n:=by simp [rL,List.map_drop]
theorem Le {n m:Nat} {tk:List TkE}:∀ bs:List UInt8,WeL n m tk (u8L bs) (u8L bs)
 | []=>rfl
 | b :: r=>⟨_,_,rfl,aA rfl,Le r⟩
theorem tB {n m:Nat} {tk:List TkE} {l:List DV} {bs:List UInt8} (h:l=u8L bs):WeL n m tk l (u8L bs):=by rw [h];exact Le bs
theorem Qx (n:Nat):0 < (k0 n).length:=by
 rw [k0];split<;>simp
abbrev Fy (m:Bool) (u a:Nat) (bs:List UInt8):St:=⟨[Cu 3 m,(4,⟨[],.v (.int .u64 u)⟩),aF 5 0,ay 6 a],[u8L bs],[]⟩
def YM (m:Bool) (N j:Nat) (st:St):Prop:=∃ (u a:Nat) (bs:List UInt8),st=Fy m u a bs/\bs.length=20/\a<=20/\u < 18446744073709551616 /\
 ((a < 20/\u=0/\k0 N=bs.drop a)∨((a=20∨0 < u)/\k0 N=k0 u ++ bs.drop a))/\j=a
theorem putI_0 (m:Bool) (N:Nat) (h:N < 18446744073709551616):YM m N 20 (Fy m N 20 (List.replicate 20 0)):=
 ⟨N,20,_,rfl,by simp,aR _,h,.inr ⟨.inl rfl,by simp⟩,rfl⟩
theorem Fz (z:Int) (h1 : -9223372036854775808<=z) (h2:z<=9223372036854775807):EvP prog 156 [.v (.int .i64 z)] (.v (.string (MV z))):=by
 have hN:z.natAbs<=9223372036854775808:=by omega
 refine eG 38 [.tmp 2] func156 rfl ntmps156 rfl fun _ _ _ _=>?_;refine br ?_ ?_<;>intro h
 case' refine_1=>
  have hz:z < 0:=sU h
  have hu:IntKind.u64.wrap (0 - IntKind.u64.wrap z)=(z.natAbs:Int):=by
   simp only [IntKind.wrap_u64];omega
  refine aT (YM (decide (z < 0)) z.natAbs) 20 (Fy (decide (z < 0)) z.natAbs 20 (List.replicate 20 0)) (Cs ⟨_,rfl⟩ (by repeat' (first | exact rfl | exact aA rfl | exact tB rfl | refine ⟨_,_,rfl,?_,?_⟩)) rfl rfl rfl (by repeat' (first | exact trivial | exact aA rfl | exact aD hu | exact tB rfl | refine ⟨⟨_,rfl,?_⟩,?_⟩))) (putI_0 _ _ (by omega)) ?_
 case' refine_2=>
  have hz:¬ z < 0:=sU h
  have hu:IntKind.u64.wrap z=(z.natAbs:Int):=by
   simp only [IntKind.wrap_u64];omega
  refine aT (YM (decide (z < 0)) z.natAbs) 20 (Fy (decide (z < 0)) z.natAbs 20 (List.replicate 20 0)) (Cs ⟨_,rfl⟩ (by repeat' (first | exact rfl | exact aA rfl | exact tB rfl | refine ⟨_,_,rfl,?_,?_⟩)) rfl rfl rfl (by repeat' (first | exact trivial | exact aA rfl | exact aD hu | exact tB rfl | refine ⟨⟨_,rfl,?_⟩,?_⟩))) (putI_0 _ _ (by omega)) ?_
 all_goals
  clear hu hz h;rintro a st ⟨u,j,bs,rfl,hbl,ha,hu64,hinv,rfl⟩;refine br ?_ ?_<;>intro h
  ·have hc:a=20∨0 < u:=by
    simp [au] at h;omega
   have hd:k0 z.natAbs=k0 u ++ bs.drop a:=by grind
   have hp:0 < a:=by grind [Qx,digs_20]
   have ha':IntKind.i64.wrap ((a:Int) - 1)=((a - 1:Nat):Int):=by rw [wr _ (by omega) (by omega)];omega
   have hb:IntKind.u8.wrap (48 + IntKind.u8.wrap ((u:Int).tmod 10))=((UInt8.ofNat (48 + u % 10)).toNat:Int):=by
    rw [Int.tmod_eq_emod_of_nonneg (by omega),UInt8.toNat_ofNat',IntKind.wrap_u8',IntKind.wrap_u8'];omega
   have hq:IntKind.u64.wrap ((u:Int).tdiv 10)=((u / 10:Nat):Int):=by
    rw [Int.tdiv_eq_ediv_of_nonneg (by omega),IntKind.wrap_u64];omega
   refine ⟨⟨rfl,by decide⟩,?_⟩;refine ⟨⟨by rw [ha'];omega,by rw [ha'];omega⟩,?_⟩;have vv:0 + (IntKind.i64.wrap ((a:Int) - 1)).toNat * 1=a - 1:=by rw [ha'];omega
   refine ⟨by rw [vv,CP,hbl];omega,?_⟩;refine ⟨⟨rfl,by decide⟩,?_⟩
   have hcs:(u8L bs).set (0 + (IntKind.i64.wrap ((a:Int) - 1)).toNat * 1) (DV.v (.int .u8 (IntKind.u8.wrap (48 + IntKind.u8.wrap ((u:Int).tmod 10)))))=u8L (bs.take (a - 1) ++ [UInt8.ofNat (48 + u % 10)] ++ bs.drop a):=by
    rw [vv,hb,List.set_eq_take_append_cons_drop,aj (by rw [CP,hbl];omega),Ld,Ld,Qw,Fx,show a - 1 + 1=a by omega];simp [u8L]
   refine ⟨Fy (decide (z < 0)) (u / 10) (a - 1) (bs.take (a - 1) ++ [UInt8.ofNat (48 + u % 10)] ++ bs.drop a),(dz 1 (by repeat' (first | exact rfl | exact aA rfl | exact tB hcs | exact aD ha' | exact aD hq | refine ⟨_,_,rfl,?_,?_⟩)) (by repeat' (first | exact trivial | exact aA rfl | exact tB hcs | exact aD ha' | exact aD hq | refine ⟨⟨_,rfl,?_⟩,?_⟩))),a - 1,by omega,u / 10,a - 1,_,rfl,by simp;omega,by omega,by omega,?_,rfl⟩;have adh:(bs.take (a - 1) ++ [UInt8.ofNat (48 + u % 10)] ++ bs.drop a).drop (a - 1)=UInt8.ofNat (48 + u % 10) :: bs.drop a:=by grind
   rw [adh,hd];by_cases qZ:u < 10
   ·grind [rK]
   ·grind [v8]
  ·have hc:a≠20/\u=0:=by
    simp [au] at h;omega
   have hd:k0 z.natAbs=bs.drop a:=by grind
   have hdu:((u8L bs).drop (0 + (a:Int).toNat * 1)).take (((20:Nat):Int).toNat - (a:Int).toNat)=u8L (bs.drop a):=by grind [Fx,CP]
   have hl:(bs.drop a).length=((20:Nat):Int).toNat - (a:Int).toNat:=by simp [hbl]
   refine br ?_ ?_<;>intro hz
   ·have hz:z < 0:=sU hz;refine ⟨⟨by omega,by omega,by omega⟩,?_⟩;refine ⟨bs.drop a,hdu,hl,?_⟩;refine ⟨by show 1 + (bs.drop a).length<=_;rw [hl];omega,?_⟩;refine (congrArg (fun s=>DV.v (.string s)) ?_:_=_);rw [<- hd,MV,Qv hz];exact mY [45] _
   ·have hz:¬ z < 0:=sU hz;refine ⟨⟨by omega,by omega,by omega⟩,?_⟩;refine ⟨bs.drop a,hdu,hl,?_⟩;refine (congrArg (fun s=>DV.v (.string s)) ?_:_=_);rw [<- hd,MV,Ux (by omega),show z.toNat=z.natAbs by omega]
abbrev ba (l:List UInt8):ByteArray:=⟨l.toArray⟩
def tx (s:ByteArray):List UInt8:=s.data.toList
theorem ov {s:ByteArray} {l:List UInt8} (h:tx s=l):s=ba l:=by
 subst h;apply ByteArray.ext;simp [tx]
theorem IE (s t:ByteArray):tx (s ++ t)=tx s ++ tx t:=by simp [tx]
theorem uU (l:List UInt8):tx (ba l)=l:=by simp [tx]
theorem Qy (a:Array UInt8):tx ⟨a⟩=a.toList:=rfl
theorem Lf (s:ByteArray):ba (tx s)=s:=(ov rfl).symm
theorem Uy (z:Int):tx (MV z)=ic z:=by simp [tx,MV]
theorem dg (s:ByteArray):(tx s).length=s.size:=by simp [tx]
theorem jX (s t:ByteArray):(s ++ t).size=s.size + t.size:=by simp
theorem uV (l:List UInt8):(ba l).size=l.length:=rfl
def mZ (z:Int):Prop:=-9223372036854775808<=z/\z<=9223372036854775807
theorem Qz {n m:Nat} {cC:List TkE} {x y:ByteArray} (h:x=y):We n m cC (.v (.string x)) (.v (.string y)):=.inl ⟨by rw [h],rfl⟩
end Go.Proofs.YtgjagnmeonoehaaGreat
set_option maxRecDepth 100000
namespace Go.Proofs
open Go.Shelf
end Go.Proofs
namespace Go.Proofs.YtgjagnmeonoehaaGreat
open Go Go.RowKit Dv Go.Proofs.Tryz
theorem MX {P:Program} {f:FuncId} {args:List DV} {d:DV}
  (h:∀ (E:En) (w:World) (vs:List Value),Env E [] w->RvL E args vs->Calls P f vs.toArray w fun e w'=>∃ v,e = .returned v/\Rv E d v/\Below w.heap.size w w'):EvP P f args d:=by
 intro E w vs hE jG hv;refine (h E w vs hE hv).mono ?_;rintro e w' ⟨v,rfl,hr,hb⟩;exact ⟨v,rfl,⟨hb.os,hb.tape,hb.output,hb.size,fun k hk _=>hb.block k hk⟩,fun hf=>(by cases hf),d,[],E,hE.kW hb.block,rfl,rfl,Nw.refl hE,hr,rfl⟩
def nH (l:List (List UInt8)):List (List DV):=l.map fun x=>[.v (.string (ba x))]
theorem MY (l:List (List UInt8)):(nH l).length=l.length:=by simp [nH]
end Go.Proofs.YtgjagnmeonoehaaGreat
set_option maxRecDepth 100000
namespace Go.Proofs.YtgjagnmeonoehaaGreat
open Go Go.RowKit Dv Go.Proofs.Tryz
mutual
def rngT:Ty->Prop
 | .mk h ps=>mZ h.lo/\mZ h.hi/\mZ h.most/\rngP ps
def rngP:Pts->Prop
 | .nil=>True
 | .cons p t r=>mZ p.wide/\mZ p.cn/\rngT t/\rngP r
end
end Go.Proofs.YtgjagnmeonoehaaGreat
namespace Go.Proofs.YtgjagnmeonoehaaGreat
namespace Dv
open Go Go.RowKit
def TypFs (f:TypeId->List DV->Prop):List TypeId->List DV->Prop
 | [],ds=>ds=[]
 | t :: r,ds=>∃ a b,ds=a ++ b/\f t a/\TypFs f r b
def Typ (P:Program):Nat->TypeId->List DV->Prop
 | 0,_,_=>False
 | n + 1,t,ds=>
  match P.underlying t with
  | some .bool=>∃ b,ds=[.v (.bool b)]
  | some (.int k)=>∃ z,ds=[.v (.int k z)]/\(Lit.int k z).wf=true
  | some .string=>∃ s:ByteArray,ds=[.v (.string s)]
  | some (.slice e)=>∃ es,ds=[.sl (P.cellsOf e) es none]/\∀ cs∈es,Typ P n e cs
  | some (.struct fs)=>TypFs (Typ P n) (fs.toList.map (·.type)) ds
  | _=>False
mutual
def wgD:DV->Nat
 | .v (.string s)=>s.size + 64
 | .sl _ es _=>64 + wgEs es
 | _=>64
def wgL:List DV->Nat
 | []=>0
 | d :: r=>wgD d + wgL r
def wgEs:List (List DV)->Nat
 | []=>0
 | cs :: r=>wgL cs + wgEs r
end
theorem fL:∀ a b:List DV,wgL (a ++ b)=wgL a + wgL b
 | [],b=>by simp [wgL]
 | d :: r,b=>by simp only [List.cons_append,wgL,fL r b];omega
def laidF (P:Program) (S:List TypeId):Nat->List Field->Nat->Bool
 | off,[],n=>decide (off=n)
 | off,f :: r,n=>decide (f.offset=off) && S.contains f.type && laidF P S (off + P.cellsOf f.type) r n
def ow (P:Program) (S:List TypeId) (t:TypeId):Bool:=
 match P.underlying t with
 | some .bool=>decide (P.cellsOf t=1)
 | some (.int _)=>decide (P.cellsOf t=1)
 | some .string=>decide (P.cellsOf t=1)
 | some (.slice e)=>decide (P.cellsOf t=1) && S.contains e && decide (0 < P.cellsOf e)
 | some (.struct fs)=>laidF P S 0 fs.toList (P.cellsOf t)
 | _=>false
def bkS {H:Type} (bk:DataW H->Nat):List (DataW H)->Nat
 | []=>0
 | d :: r=>bk d + bkS bk r
structure Bk {H:Type} (bk:DataW H->Nat):Prop where
 str:∀ l:List UInt8,l.length + 1<=bk (.lit (.string l))
 lit:∀ l,1<=bk (.lit l)
 nil:1<=bk .nil
 slice:∀ es sp,1 + bkS bk es<=bk (.slice es sp)
 agg:∀ l,bkS bk l<=bk (.agg l)
def HT (w:World):En:=⟨fun a=>w.cell? a,[],[],[]⟩
theorem Uz (w:World):Env (HT w) [] w where
 len:=rfl
 tl:=rfl
 ey:=by simp
 inj:=List.nodup_nil
 sub:=fun x u hx=>hx
 pc:=by simp [HT]
 bU:=by simp [HT]
 jc:=by simp [HT]
theorem MZ {w:World} {a:Addr} {k:Nat} {v:Value} (h:w.cell? (a.add k)=some v):w.cell? ⟨a.block,a.off + k,none⟩=some v:=by
 unfold Addr.add at h;split at h
 ·rename_i hk;subst hk;unfold World.cell? at h ⊢;split at h
  ·rename_i c e z he;split at h
   ·cases h
   ·simpa [he] using h
  ·cases h
 ·exact h
theorem M0 {w:World} {a:Addr} {v:Value} (h:w.cell? a=some v):a.spot=none:=by
 unfold World.cell? at h;split at h
 ·split at h
  ·cases h
  ·rename_i hs;simpa using hs
 ·cases h
theorem xS {E:En} {b:Nat}:∀ {p:Nat} {ds:List DV} {vs:List Value},RvL E.cl ds vs->(∀ (j:Nat) v,vs[j]? = some v->E.c ⟨b,p + j,none⟩=some v/\v.oneCell'=true)->RvAt E.cl b p ds
 | p,[],vs,h,hc=>by simp only [RvAt]
 | p,d :: r,vs,h,hc=>by
  simp only [RvL] at h;obtain ⟨v,s,rfl,h1,h2⟩:=h;simp only [RvAt];obtain ⟨c1,c2⟩:=hc 0 v rfl;refine ⟨⟨v,c1,c2,h1⟩,xS (p:=p + 1) h2 fun j u hj=>?_⟩;have:=hc (j + 1) u hj;rw [show p + 1 + j=p + (j + 1) by omega];exact this
section
variable {H:Type} {enc:TypeId × Value->H} {P:Program} {w:World} {sp:Nat->Bool} {held:Bool} {S:List TypeId} {bk:DataW H->Nat}
def Rd (enc:TypeId × Value->H) (P:Program) (w:World) (bk:DataW H->Nat) (n:Nat) (t:TypeId) (cs:List Value) (d:DataW H):Prop:=
 ∃ ds,RvL (HT w) ds cs/\(∀ v∈cs,v.oneCell'=true)/\Typ P n t ds/\wgL ds<=64 * bk d/\cs.length=P.cellsOf t
theorem AU {n:Nat} (ih:∀ t cs x,t∈S->DataW.trod enc P w 0 sp held n t cs=some x->Rd enc P w bk n t cs x.1) (cs:List Value) :
  ∀ (fs:List Field) (off:Nat) (xs:List (DataW H × List MemPlace)),laidF P S off fs cs.length=true->xs.length=fs.length ->
   (∀ (i:Nat) f,fs[i]? = some f->DataW.trod enc P w 0 sp held n f.type ((cs.drop f.offset).take (P.cellsOf f.type))=xs[i]?) ->
   ∃ ds,RvL (HT w) ds (cs.drop off)/\(∀ v∈cs.drop off,v.oneCell'=true)/\TypFs (Typ P n) (fs.map (·.type)) ds/\wgL ds<=64 * bkS bk (xs.map (·.1))
 | [],off,xs,hl,vY,hx=>by
  simp only [laidF,decide_eq_true_eq] at hl;subst hl;simp only [List.length_nil,List.length_eq_zero_iff] at vY;subst vY;exact ⟨[],by simpa using cS _,by simp,by simp [TypFs],by simp [wgL]⟩
 | f :: r,off,xs,hl,vY,hx=>by
  simp only [laidF,aO,decide_eq_true_eq] at hl;obtain ⟨⟨M3,hS⟩,hl⟩:=hl
  match xs,vY with
  | x :: xs,vY=>
   have h0:=hx 0 f rfl;rw [M3] at h0;simp only [List.getElem?_cons_zero] at h0;obtain ⟨ds0,r1,r2,r3,r4,r5⟩:=ih f.type _ x (sU hS) h0;obtain ⟨ds1,s1,s2,s3,s4⟩:=AU ih cs r (off + P.cellsOf f.type) xs hl (sU vY) (fun i g hg=>by simpa using hx (i + 1) g (sU hg))
   have QA:cs.drop off=(cs.drop off).take (P.cellsOf f.type) ++ cs.drop (off + P.cellsOf f.type):=by
    rw [<- List.drop_drop,List.take_append_drop]
   refine ⟨ds0 ++ ds1,?_,?_,?_,?_⟩
   ·rw [QA];exact RvL.append r1 s1
   ·rw [QA];intro v hv;rcases List.mem_append.1 hv with hv | hv
    ·exact r2 v hv
    ·exact s2 v hv
   ·simp only [List.map_cons,TypFs];exact ⟨ds0,ds1,rfl,r3,s3⟩
   ·rw [fL];simp only [List.map_cons,bkS];omega
theorem FA {n e:Nat} (ih:∀ t cs x,t∈S->DataW.trod enc P w 0 sp held n t cs=some x->Rd enc P w bk n t cs x.1) (he:e∈S) (a:Addr) :
  ∀ (xs:List (DataW H × List MemPlace)) (i0:Nat),(∀ i,i < xs.length->(w.cells? 0 (a.add ((i0 + i) * P.cellsOf e)) (P.cellsOf e)).bind (DataW.trod enc P w 0 sp held n e)=xs[i]?) ->
   ∃ es,es.length=xs.length/\RvEs (HT w) (P.cellsOf e) a.block (a.off + i0 * P.cellsOf e) es/\(∀ cs∈es,Typ P n e cs)/\wgEs es<=64 * bkS bk (xs.map (·.1))
 | [],i0,hx=>⟨[],rfl,by simp only [RvEs],by simp,by simp [wgEs]⟩
 | x :: xs,i0,hx=>by
  have h0:=hx 0 (by simp);simp only [Nat.add_zero,List.getElem?_cons_zero] at h0;obtain ⟨cs,hcs,ht⟩:=Option.bind_eq_some_iff.1 h0;obtain ⟨_,hlen,n8⟩:=World.cells?_some hcs;obtain ⟨ds0,r1,r2,r3,r4,r5⟩:=ih e cs x he ht
  obtain ⟨es,s1,s2,s3,s4⟩:=FA ih he a xs (i0 + 1) (fun i hi=>by
   have:=hx (i + 1) (sU hi);simp only [List.getElem?_cons_succ] at this;rw [show i0 + 1 + i=i0 + (i + 1) by omega]
   exact this)
  refine ⟨ds0 :: es,by simp [s1],?_,?_,?_⟩
  ·simp only [RvEs];refine ⟨by rw [<- r1.length,hlen],xS (E:=HT w) r1 fun j v hj=>⟨?_,r2 v (mG hj)⟩,?_⟩
   ·have qY:j < P.cellsOf e:=by rw [<- hlen];exact (gS hj).1
    have h1:=n8 j qY;rw [hj,Deep.add_add] at h1;have h2:=MZ h1;show w.cell? _=_;rw [Nat.add_assoc];exact h2
   ·rw [Nat.add_assoc,show i0 * P.cellsOf e + P.cellsOf e=(i0 + 1) * P.cellsOf e by rw [Nat.add_mul,Nat.one_mul]];exact s2
  ·intro cs' hc;rcases dB hc with hc | hc
   ·subst hc;exact r3
   ·exact s3 cs' hc
  ·simp only [wgEs,List.map_cons,bkS];omega
theorem rM (na:Bk bk) (hS:∀ t∈S,ow P S t=true):∀ (n:Nat) (t:TypeId) (cs:List Value) (x:DataW H × List MemPlace),t∈S->DataW.trod enc P w 0 sp held n t cs=some x->Rd enc P w bk n t cs x.1
 | 0,t,cs,x,_,h=>by simp [DataW.trod] at h
 | n + 1,t,cs,x,ht,h=>by
  have hf:=hS t ht;unfold ow at hf;unfold Rd
  cases hu:P.underlying t with
  | none=>rw [hu] at hf;cases hf
  | some D=>
   rw [hu] at hf
   cases D with
   | bool=>
    simp only [decide_eq_true_eq] at hf;obtain ⟨b,rfl,rfl⟩:=DataW.trod_bool hu h;have:=na.lit (.bool b);exact ⟨[.v (.bool b)],rvL_one (by unfold Rv;exact ⟨rfl,rfl⟩),by simp [Value.oneCell'],by simp only [Typ,hu];exact ⟨b,rfl⟩,by simp only [wgL,wgD];omega,by simp [hf]⟩
   | int k=>
    simp only [decide_eq_true_eq] at hf;obtain ⟨z,rfl,rfl,hw⟩:=DataW.trod_int hu h;have:=na.lit (.int k z);exact ⟨[.v (.int k z)],rvL_one (by unfold Rv;exact ⟨rfl,rfl⟩),by simp [Value.oneCell'],by simp only [Typ,hu];exact ⟨z,rfl,hw⟩,by simp only [wgL,wgD];omega,by simp [hf]⟩
   | string=>
    simp only [decide_eq_true_eq] at hf;obtain ⟨s,rfl,rfl,hw⟩:=DataW.trod_string hu h;have:=na.str s.data.toList;have cf:s.data.toList.length=s.size:=by rw [Array.length_toList];all_goals rfl
    exact ⟨[.v (.string s)],rvL_one (by unfold Rv;exact ⟨rfl,rfl⟩),by simp [Value.oneCell'],by simp only [Typ,hu];exact ⟨s,rfl⟩,by simp only [wgL,wgD];omega,by simp [hf]⟩
   | slice e=>
    simp only [aO,decide_eq_true_eq] at hf;obtain ⟨⟨uW,sJ⟩,hf3⟩:=hf;rcases DataW.trod_slice hu h with ⟨rfl,rfl⟩ | ⟨a,len,cap,elems,rest,m,hm,rfl,rfl,_,V6,_,pU,hx,_,_⟩
    ·have:=na.nil;refine ⟨[.sl (P.cellsOf e) [] none],rvL_one ?_,by simp [Value.oneCell'],by simp only [Typ,hu];exact ⟨[],rfl,by simp⟩,by simp only [wgL,wgD,wgEs];omega,by simp [uW]⟩;unfold Rv;exact ⟨none,0,0,rfl,⟨rfl,aR _⟩,fun hc=>absurd rfl hc,fun k hk=>by cases hk⟩
    ·simp only [Nat.add_right_cancel_iff] at hm;subst hm;obtain ⟨es,s1,s2,s3,s4⟩:=FA (fun t cs x=>rM na hS n t cs x) (sU sJ) a elems 0 (fun i hi=>by simpa using hx i (by omega));have hb:=na.slice (elems.map (·.1)) (rest.map (·.1));refine ⟨[.sl (P.cellsOf e) es none],rvL_one ?_,by simp [Value.oneCell'],by simp only [Typ,hu];exact ⟨es,rfl,s3⟩,by simp only [wgL,wgD];omega,by simp [uW]⟩;unfold Rv;refine ⟨some a,len,cap,rfl,⟨by omega,V6⟩,fun aY=>⟨?_,?_⟩,fun k hk=>by cases hk⟩
     ·have kB:0 < len:=by
       rw [<- pU,<- s1];exact List.length_pos_iff.2 aY
      have h0:=hx 0 kB;rw [gE (by omega)] at h0;obtain ⟨cs,hcs,_⟩:=Option.bind_eq_some_iff.1 h0;obtain ⟨_,hlen,n8⟩:=World.cells?_some hcs;have h1:=n8 0 hf3;rw [gE (by omega),Deep.add_add] at h1;simp only [Nat.zero_mul,Nat.add_zero] at h1;exact M0 (a:=a) h1
     ·have s2':RvEs (HT w) (P.cellsOf e) a.block a.off es:=sU s2;exact s2'
   | struct fs=>
    obtain ⟨xs,m,hm,rfl,hlen,vY,hx⟩:=DataW.trod_struct hu h;simp only [Nat.add_right_cancel_iff] at hm;subst hm;simp only at hf;obtain ⟨ds,s1,s2,s3,s4⟩:=AU (fun t cs x=>rM na hS n t cs x) cs fs.toList 0 xs (by rw [hlen];exact hf) (sU vY) (fun i f hi=>hx i f (sU hi));have hb:=na.agg (xs.map (·.1));refine ⟨ds,by simpa using s1,by simpa using s2,by simp only [Typ,hu];exact s3,by simp only;omega,hlen⟩
   | _=>cases hf
end
theorem Lg {P:Program} {n:Nat} {t:TypeId} {k:IntKind} {ds:List DV} (hu:P.underlying t=some (.int k)) (h:Typ P n t ds):∃ z,ds=[.v (.int k z)]/\(Lit.int k z).wf=true:=by
 cases n with
 | zero=>exact h.elim
 | succ n=>simp only [Typ,hu] at h;exact h
theorem QB {P:Program} {n:Nat} {t:TypeId} {ds:List DV} (hu:P.underlying t=some .bool) (h:Typ P n t ds):∃ b,ds=[.v (.bool b)]:=by
 cases n with
 | zero=>exact h.elim
 | succ n=>simp only [Typ,hu] at h;exact h
theorem Lh {P:Program} {n:Nat} {t:TypeId} {ds:List DV} (hu:P.underlying t=some .string) (h:Typ P n t ds):∃ s:ByteArray,ds=[.v (.string s)]:=by
 cases n with
 | zero=>exact h.elim
 | succ n=>simp only [Typ,hu] at h;exact h
theorem xT {P:Program} {n:Nat} {t e:TypeId} {ds:List DV} (hu:P.underlying t=some (.slice e)) (h:Typ P n t ds):∃ m es,n=m + 1/\ds=[.sl (P.cellsOf e) es none]/\∀ cs∈es,Typ P m e cs:=by
 cases n with
 | zero=>exact h.elim
 | succ n=>
  simp only [Typ,hu] at h;obtain ⟨es,h1,h2⟩:=h;exact ⟨n,es,rfl,h1,h2⟩
theorem ox {P:Program} {n:Nat} {t:TypeId} {fs:Array Field} {ds:List DV} (hu:P.underlying t=some (.struct fs)) (h:Typ P n t ds):∃ m,n=m + 1/\TypFs (Typ P m) (fs.toList.map (·.type)) ds:=by
 cases n with
 | zero=>exact h.elim
 | succ n=>
  simp only [Typ,hu] at h;exact ⟨n,rfl,h⟩
theorem wf_i64 {z:Int} (h:(Lit.int .i64 z).wf=true) : -9223372036854775808<=z/\z<=9223372036854775807:=by
 simpa [Lit.wf,IntKind.min,IntKind.max,IntKind.signed,IntKind.bits] using h
end Dv
end Go.Proofs.YtgjagnmeonoehaaGreat
set_option maxRecDepth 100000
namespace Go.Proofs.YtgjagnmeonoehaaGreat
open Go Go.RowKit Dv Go.Proofs.Tryz
theorem IF:prog.cellsOf 27=2:=by kernel_rfl
theorem IG:prog.cellsOf 109=18:=by kernel_rfl
theorem tC {n:Nat} {ds:List DV} (h:Typ prog n 27 ds):∃ w:Wd,ds=kD w/\w.wt<=wgL ds:=by
 obtain ⟨m,_,hf⟩:=ox Tryz.underlying27 h;obtain ⟨a,b,rfl,h1,c,d,rfl,h2,rfl⟩:=hf;obtain ⟨s,rfl⟩:=Lh Tryz.underlying9 h1;obtain ⟨z,rfl,_⟩:=Lg Tryz.underlying3 h2;exact ⟨⟨s,z⟩,rfl,by simp [wgL,wgD,Wd.wt]⟩
theorem QC:∀ {m:Nat} {es:List (List DV)},(∀ cs∈es,Typ prog m 27 cs)->∃ l:List Wd,es=bV l/\wdsWt l<=wgEs es
 | m,[],h=>⟨[],rfl,by simp [wdsWt,wgEs]⟩
 | m,cs :: r,h=>by
  obtain ⟨w,rfl,hw⟩:=tC (h cs (by simp));obtain ⟨l,rfl,hl⟩:=QC (m:=m) (es:=r) (fun c hc=>h c (jD _ hc));exact ⟨w :: l,rfl,by simp only [wdsWt,wgEs];omega⟩
theorem wa {n:Nat} {ds:List DV} (h:Typ prog n 22 ds):∃ l:List Wd,ds=[.sl 2 (bV l) none]/\64 + wdsWt l<=wgL ds:=by
 obtain ⟨m,es,_,rfl,he⟩:=xT Tryz.underlying22 h;obtain ⟨l,rfl,hl⟩:=QC he;rw [IF];exact ⟨l,rfl,by simp only [wgL,wgD];omega⟩
theorem oy {n:Nat} {ds:List DV} (h:Typ prog n 3 ds):∃ z,ds=[.v (.int .i64 z)]/\mZ z:=by
 obtain ⟨z,rfl,hw⟩:=Lg Tryz.underlying3 h;exact ⟨z,rfl,wf_i64 hw⟩
theorem QD {m:Nat} (ih:∀ k,k < m->∀ ds,Typ prog k 29 ds->∃ t:Ty,ds=eE t/\rngT t/\t.wt<=wgL ds) :
  ∀ {es:List (List DV)},(∀ cs∈es,Typ prog m 109 cs)->∃ ps:Pts,es=gp ps/\rngP ps/\ps.wt<=wgEs es
 | [],h=>⟨.nil,by simp [gp],by simp [rngP],by simp [Pts.wt]⟩
 | cs :: r,h=>by
  obtain ⟨ps,rfl,hr,hl⟩:=QD ih (es:=r) (fun c hc=>h c (jD _ hc));obtain ⟨k,rfl,hf⟩:=ox Tryz.underlying109 (h cs (by simp));obtain ⟨a1,b1,rfl,h1,a2,b2,rfl,h2,a3,b3,rfl,h3,a4,b4,rfl,h4,a5,b5,rfl,h5,a6,b6,rfl,h6,rfl⟩:=hf;obtain ⟨nm,rfl,w1⟩:=tC h1;obtain ⟨bare,rfl⟩:=QB Tryz.underlying4 h2;obtain ⟨lab,rfl,w3⟩:=wa h3;obtain ⟨wide,rfl,r4⟩:=oy h4;obtain ⟨k5,_,hf5⟩:=ox Tryz.underlying107 h5;obtain ⟨c1,d1,rfl,g1,c2,d2,rfl,g2,c3,d3,rfl,g3,c4,d4,rfl,g4,rfl⟩:=hf5;obtain ⟨ck,rfl,_⟩:=oy g1;obtain ⟨cn,rfl,q2⟩:=oy g2;obtain ⟨ca,rfl,_⟩:=oy g3;obtain ⟨cl,rfl,w5⟩:=wa g4;obtain ⟨t,rfl,rt,wt⟩:=ih k (by omega) _ h6;refine ⟨.cons ⟨nm,bare,lab,wide,ck,cn,ca,cl⟩ t ps,?_,by simp only [rngP];exact ⟨r4,q2,rt,hr⟩,?_⟩
  ·grind [gp,Ir,kD]
  ·grind [Pts.wt,Ph.wt,wgEs,fL,wgL,wgD,kD,Wd.wt]
theorem QE:∀ (n:Nat) (ds:List DV),Typ prog n 29 ds->∃ t:Ty,ds=eE t/\rngT t/\t.wt<=wgL ds:=by
 intro n
 induction n using Nat.strongRecOn with
 | _ n ih=>
  intro ds h;obtain ⟨m,rfl,hf⟩:=ox Tryz.underlying29 h;obtain ⟨a1,b1,rfl,h1,a2,b2,rfl,h2,a3,b3,rfl,h3,a4,b4,rfl,h4,a5,b5,rfl,h5,a6,b6,rfl,h6,a7,b7,rfl,h7,a8,b8,rfl,h8,rfl⟩:=hf;obtain ⟨ag,rfl,_⟩:=oy h1;obtain ⟨at',rfl,_⟩:=oy h2;obtain ⟨lo,rfl,r3⟩:=oy h3;obtain ⟨hi,rfl,r4⟩:=oy h4;obtain ⟨most,rfl,r5⟩:=oy h5;obtain ⟨af,rfl,w6⟩:=wa h6;obtain ⟨k,es,rfl,rfl,jF⟩:=xT Tryz.underlying25 h7;obtain ⟨ps,rfl,rp,wp⟩:=QD (fun j hj=>ih j (by omega)) jF;obtain ⟨nm,rfl,w8⟩:=tC h8;rw [IG];refine ⟨.mk ⟨ag,at',lo,hi,most,af,nm⟩ ps,?_,by simp only [rngT];exact ⟨r3,r4,r5,rp⟩,?_⟩
  ·grind [eE,kD]
  ·grind [Ty.wt,Hd.wt,fL,wgL,wgD,kD,Wd.wt]
end Go.Proofs.YtgjagnmeonoehaaGreat
namespace Go.Proofs.YtgjagnmeonoehaaGreat
namespace Dv
open Go Go.RowKit Go.ChangeShapes Go.WideShapes Go.ChangeAt
open Go.ChangeMaps (open_string shut_string)
section
variable {H:Type} {enc:TypeId × Value->H} {P:Program}
theorem p9 (hl:laidOutB P=true) {W W':World} (hb:Below W.heap.size W W'):∀ {ts:List TypeId} {vs:List Value} {ds:List (DataW H)} {ps:List MemPlace},(∀ t∈ts,P.readableRec t=true/\t < P.types.size) ->
  DataW.TrodAll enc P W 0 (fun _=>true) true ts vs ds ps->(∀ x∈ps,x.block < W.heap.size)->DataW.TrodAll enc P W' 0 (fun b=>decide (b < W.heap.size)) true ts vs ds ps
 | [],[],[],_,_,h,_=>h
 | t :: ts,v :: vs,d :: ds,_,ht,⟨p,q,h1,h2,e⟩,aw=>by
  subst e;obtain ⟨r1,r2⟩:=ht t (by simp);exact ⟨p,q,Below.trod hl r1 r2 h1 hb (fun x hx=>aw x (List.mem_append_left _ hx)),p9 hl hb (fun t vu=>ht t (by simp [vu])) h2 (fun x hx=>aw x (List.mem_append_right _ hx)),rfl⟩
theorem law_post {f:Func} {s:ChangeSpec} {tb:TypeId} (hl:laidOutB P=true) (Pn:f.resultTypes = #[tb]) (htb:P.underlying tb=some .bool) (hv:s.vars=[]) (hts:∀ t∈f.params.toList,P.readableRec t=true/\t < P.types.size)
  {W W':World} {args:Array Value} {ds gs:List (DataW H)} {before:List MemPlace} (hW:DataW.Whole enc P f.params.toList s.vars false W args.toList ds gs before) (Ef:s.fn H ds={ results:=[.lit (.bool true)],args:=ds }) (hb:Below W.heap.size W W') :
  s.post enc P f false true false false W args (.bool true) W':=by
 have hW':=hW;obtain ⟨p,q,hA,hV,rfl,hfz,hnd⟩:=hW;rw [hv] at hV;obtain ⟨rfl,rfl⟩:=trodVars_none hV;refine ⟨ds,[],p ++ [],[],p,[],hW',?_,?_,?_,hb.frame _,fun h=>by cases h⟩
 ·rw [List.append_nil,Ef,Pn];exact trodAll_cons_mk (shut_bool htb _) trodAll_mk0
 ·rw [List.append_nil,Ef];exact p9 hl hb hts hA (fun x hx=>hW'.lt x (List.mem_append_left _ hx))
 ·rw [List.append_nil,Ef,hv];rfl
theorem IH {w w':World} {Φ:DV->List (List DV)->List TkE->Prop} {v:Value} (h:Eo false (HT w) w Φ v w'):Below w.heap.size w w':=by
 obtain ⟨hm,_⟩:=h;refine ⟨hm.os,hm.tape,hm.output,hm.size,fun k hk=>hm.block k hk ?_⟩;rintro (h1 | ⟨y,h1,_⟩)
 ·simp [HT] at h1
 ·simp [HT] at h1
theorem calls_law {f:FuncId} {args:List DV} {vs:List Value} {w:World} (h:EvP P f args (.v (.bool true))) (hv:RvL (HT w) args vs) :
  Calls P f vs.toArray w fun e w'=>e = .returned (.bool true)/\Below w.heap.size w w':=by
 refine (h (HT w) w vs (Uz w) rfl hv).mono ?_;rintro e w' ⟨v,rfl,he⟩;have hb:=IH he;obtain ⟨_,_,d,os,E,_,_,_,_,hr,rfl⟩:=he;unfold Rv at hr;rw [hr.1];exact ⟨rfl,hb⟩
variable {W:World} {base:Nat} {S:List TypeId} {bk:DataW H->Nat}
theorem arg_st (na:Bk bk) (hS:∀ t∈S,ow P S t=true) {t:TypeId} {fs:Array Field} {v:Value} {d:DataW H} {ps:List MemPlace} (ht:t∈S) (hu:P.underlying t=some (.struct fs))
  (hval:Value.okWide P W .any base t v) (h:DataW.Trod enc P W 0 (fun _=>true) true t v d ps):∃ n ds,Rv (HT W) (.agg ds) v/\Typ P n t ds/\wgL ds<=64 * bk d:=by
 unfold Value.okWide at hval;rw [hu] at hval;obtain ⟨cs,rfl,_,_⟩:=hval;obtain ⟨n,hn⟩:=h;obtain ⟨ds,h1,h2,h3,h4,_⟩:=rM na hS n t _ _ ht hn;refine ⟨n,ds,?_,h3,h4⟩;unfold Rv;exact ⟨cs.toList,by simp,h1,h2⟩
end
end Dv
end Go.Proofs.YtgjagnmeonoehaaGreat
namespace Go.Proofs.YtgjagnmeonoehaaGreat
open Go Go.RowKit Dv
theorem II {H:Type}:∀ l:List (DataW H),bkS Rows.uptoBulk l=Rows.uptoBulkAll l
 | []=>by simp [bkS,Rows.uptoBulkAll]
 | d :: r=>by simp only [bkS,Rows.uptoBulkAll,II r]
theorem bk_ok {H:Type}:Bk (Rows.uptoBulk (H:=H)) where
 str:=fun l=>by simp [Rows.uptoBulk]
 lit:=fun l=>by cases l<;>simp [Rows.uptoBulk]
 nil:=by simp [Rows.uptoBulk]
 slice:=fun es sp=>by simp only [Rows.uptoBulk,II];omega
 agg:=fun l=>by simp only [Rows.uptoBulk,II];omega
theorem bulk_le {H:Type} {l:List (DataW H)} (hk:Rows.uptoSmall H l=true):Rows.uptoBulkAll l<=1048576:=of_decide_eq_true hk
theorem laid_out:laidOutB Tryz.prog=true:=by kernel_rfl
theorem own_knob:ownKnob Tryz.prog.godebug=none:=by kernel_rfl
def tyS:List TypeId:=[29,22,27,9,3,25,109,4,107]
end Go.Proofs.YtgjagnmeonoehaaGreat
set_option maxRecDepth 100000
namespace Go.Proofs.YtgjagnmeonoehaaGreat
open Go Go.RowKit Dv Go.Proofs.Tryz
def Pts.take:Nat->Pts->Pts
 | 0,_=>.nil
 | _ + 1,.nil=>.nil
 | e + 1,.cons p t r=>.cons p t (r.take e)
structure Sch where
 ae:List Wd
 order:List (Wd × Wd)
 types:List (Wd × Ty)
 root:Ty
def OX (p:Wd × Wd):List DV:=[.v (.string p.1.s),.v (.int .i64 p.1.a),.v (.string p.2.s),.v (.int .i64 p.2.a)]
def nP (l:List (Wd × Wd)):List (List DV):=l.map OX
def dNm (x:Wd × Ty):List DV:=.v (.string x.1.s) :: .v (.int .i64 x.1.a) :: eE x.2
def dNms (l:List (Wd × Ty)):List (List DV):=l.map dNm
def ei (s:Sch):List DV:=.sl 2 (bV s.ae) none :: .sl 4 (nP s.order) none :: .sl 11 (dNms s.types) none :: eE s.root
def prsWt:List (Wd × Wd)->Nat
 | []=>0
 | p :: r=>p.1.wt + p.2.wt + prsWt r
def nmsWt:List (Wd × Ty)->Nat
 | []=>0
 | p :: r=>p.1.wt + p.2.wt + nmsWt r
def Sch.wt (s:Sch):Nat:=wdsWt s.ae + prsWt s.order + nmsWt s.types + s.root.wt
theorem gF (l:List (Wd × Wd)):(nP l).length=l.length:=by simp [nP]
theorem ej (l:List (Wd × Ty)):(dNms l).length=l.length:=by simp [dNms]
theorem iI {l:List (Wd × Wd)} {j:Nat} {p:Wd × Wd} (h:l[j]? = some p):(nP l)[j]? = some (OX p):=by simp [nP,h]
theorem dNms_get {l:List (Wd × Ty)} {j:Nat} {p:Wd × Ty} (h:l[j]? = some p):(dNms l)[j]? = some (dNm p):=by simp [dNms,h]
theorem jo:∀ l:List (Wd × Wd),128 * l.length<=prsWt l
 | []=>aR _
 | p :: r=>by have:=jo r;simp only [List.length_cons,prsWt,Wd.wt];omega
theorem ke:∀ l:List (Wd × Ty),256 * l.length<=nmsWt l
 | []=>aR _
 | p :: r=>by have:=ke r;have:=p.2.cT;simp only [List.length_cons,nmsWt,Wd.wt];omega
theorem iq:∀ {l:List (Wd × Ty)} {p:Wd × Ty},p∈l->p.1.wt + p.2.wt<=nmsWt l
 | x :: r,p,h=>by
  rcases dB h with h | h
  ·subst h;simp only [nmsWt];omega
  ·have:=iq h;simp only [nmsWt];omega
def QF (s:Sch):Prop:=(∀ x∈s.types,rngT x.2)/\rngT s.root
theorem IJ:prog.cellsOf 171=4:=by kernel_rfl
theorem FB:prog.cellsOf 124=11:=by kernel_rfl
theorem YN {n:Nat} {ds:List DV} (h:Typ prog n 171 ds):∃ p:Wd × Wd,ds=OX p/\p.1.wt + p.2.wt<=wgL ds:=by
 obtain ⟨m,_,hf⟩:=ox Tryz.underlying171 h;obtain ⟨a,b,rfl,h1,c,d,rfl,h2,rfl⟩:=hf;obtain ⟨x,rfl,w1⟩:=tC h1;obtain ⟨y,rfl,w2⟩:=tC h2;exact ⟨(x,y),rfl,by simp only [fL,wgL];omega⟩
theorem YO {n:Nat} {ds:List DV} (h:Typ prog n 124 ds):∃ p:Wd × Ty,ds=dNm p/\rngT p.2/\p.1.wt + p.2.wt<=wgL ds:=by
 obtain ⟨m,_,hf⟩:=ox Tryz.underlying124 h;obtain ⟨a,b,rfl,h1,c,d,rfl,h2,rfl⟩:=hf;obtain ⟨x,rfl,w1⟩:=tC h1;obtain ⟨y,rfl,r2,w2⟩:=QE _ _ h2;exact ⟨(x,y),by simp [dNm,kD],r2,by simp only [fL,wgL];omega⟩
theorem QG:∀ {m:Nat} {es:List (List DV)},(∀ cs∈es,Typ prog m 171 cs)->∃ l:List (Wd × Wd),es=nP l/\prsWt l<=wgEs es
 | m,[],h=>⟨[],rfl,by simp [prsWt,wgEs]⟩
 | m,cs :: r,h=>by
  obtain ⟨w,rfl,hw⟩:=YN (h cs (by simp));obtain ⟨l,rfl,hl⟩:=QG (m:=m) (es:=r) (fun c hc=>h c (jD _ hc));exact ⟨w :: l,rfl,by simp only [prsWt,wgEs];omega⟩
theorem QH:∀ {m:Nat} {es:List (List DV)},(∀ cs∈es,Typ prog m 124 cs)->∃ l:List (Wd × Ty),es=dNms l/\(∀ x∈l,rngT x.2)/\nmsWt l<=wgEs es
 | m,[],h=>⟨[],rfl,by simp,by simp [nmsWt,wgEs]⟩
 | m,cs :: r,h=>by
  obtain ⟨w,rfl,hr,hw⟩:=YO (h cs (by simp));obtain ⟨l,rfl,hlr,hl⟩:=QH (m:=m) (es:=r) (fun c hc=>h c (jD _ hc));refine ⟨w :: l,rfl,fun x hx=>?_,by simp only [nmsWt,wgEs];omega⟩;rcases dB hx with rfl | hx
  ·exact hr
  ·exact hlr x hx
theorem typ_sch {n:Nat} {ds:List DV} (h:Typ prog n 31 ds):∃ s:Sch,ds=ei s/\QF s/\s.wt<=wgL ds:=by
 obtain ⟨m,_,hf⟩:=ox Tryz.underlying31 h;obtain ⟨a1,b1,rfl,h1,a2,b2,rfl,h2,a3,b3,rfl,h3,a4,b4,rfl,h4,rfl⟩:=hf;obtain ⟨l1,rfl,w1⟩:=wa h1;obtain ⟨m2,es2,_,rfl,he2⟩:=xT Tryz.underlying23 h2;obtain ⟨l2,rfl,w2⟩:=QG he2;obtain ⟨m3,es3,_,rfl,he3⟩:=xT Tryz.underlying24 h3;obtain ⟨l3,rfl,r3,w3⟩:=QH he3;obtain ⟨t,rfl,r4,w4⟩:=QE _ _ h4;rw [IJ,FB];refine ⟨⟨l1,l2,l3,t⟩,by simp [ei],⟨r3,r4⟩,?_⟩;simp only [Sch.wt,fL,wgL,wgD] at *;omega
end Go.Proofs.YtgjagnmeonoehaaGreat
namespace Go.Proofs.YtgjagnmeonoehaaGreat
open Go Go.RowKit Dv
def tySS:List TypeId:=31 :: 23 :: 171 :: 24 :: 124 :: tyS
theorem tySS_ok:∀ t∈tySS,ow Tryz.prog tySS t=true:=by
 have h:(tySS.all fun t=>ow Tryz.prog tySS t)=true:=by kernel_rfl
 exact fun t ht=>List.all_eq_true.1 h t ht
set_option maxRecDepth 100000
noncomputable abbrev PP:Program:=Tryz.pinned.checked.prog
def dft:OpenClaim:={ program := "",sum := "",func := "",spec := "" }
theorem and_ok {a b:Bool} (ha:a=true) (hb:b=true):(a && b)=true:=by rw [ha,hb];all_goals rfl
theorem g_laid:laidOutB PP=true:=laid_out
theorem g_maps:mapsRowed PP=true:=by kernel_rfl
theorem g_stops:(PP.stops == [])=true:=by kernel_rfl
theorem g_knobs:(PP.stopKnobs == [])=true:=by kernel_rfl
theorem g_heard:PP.stopsHeard=true:=by kernel_rfl
theorem g_enter:PP.mayEnter=true:=by kernel_rfl
theorem g_lifts:(dft.lifted == PP.liftsFinal)=true:=by kernel_rfl
theorem g_keys:(true == PP.plainKeys)=true:=by kernel_rfl
theorem g_make:(PP.make == some dft.make)=true:=by kernel_rfl
end Go.Proofs.YtgjagnmeonoehaaGreat
set_option maxRecDepth 100000
namespace Go.Proofs.YtgjagnmeonoehaaGreat
open Go Go.RowKit Dv Go.Proofs.Tryz
theorem FC (x b:Nat):(x:Int).fdiv (2 ^ b)=((x / 2 ^ b:Nat):Int):=by grind
theorem jq (m:Nat):BitVec.ofInt 64 (m:Int)=BitVec.ofNat 64 m:=by simp
theorem Li {x b:Nat} (hb:b < 64) (hx:x < 18446744073709551616) :
  decide (IntKind.u64.wrap ((BitVec.ofInt 64 ((x:Int).fdiv (2 ^ (min b 64))) &&& BitVec.ofInt 64 1).toNat:Int)=1)=x.testBit b:=by
 rw [Nat.min_eq_left (by omega),FC,jq,show (BitVec.ofInt 64 1)=BitVec.ofNat 64 1 by decide,BitVec.toNat_and,BitVec.toNat_ofNat,BitVec.toNat_ofNat,Nat.testBit_eq_decide_div_mod_eq];have h1:x / 2 ^ b < 18446744073709551616:=Nat.lt_of_le_of_lt (Nat.div_le_self _ _) hx;rw [Nat.mod_eq_of_lt h1,show (1 % 2 ^ 64:Nat)=1 by decide,Nat.and_one_is_mod];simp only [IntKind.wrap_u64];congr 1;apply propext;omega
theorem IK {x b:Nat} (hb:b < 64) (hx:x < 18446744073709551616) :
  IntKind.u64.wrap ((BitVec.ofInt 64 (x:Int) ||| BitVec.ofInt 64 (IntKind.u64.wrap (1 * 2 ^ (min b 64)))).toNat:Int)=((x ||| 2 ^ b:Nat):Int):=by
 have h2:2 ^ b < 18446744073709551616:=by
  have:2 ^ b<=2 ^ 63:=Nat.pow_le_pow_right (by decide) (by omega);omega
 have e1:IntKind.u64.wrap (1 * 2 ^ (min b 64))=((2 ^ b:Nat):Int):=by
  rw [Nat.min_eq_left (by omega),Int.one_mul];have:((2:Int) ^ b)=((2 ^ b:Nat):Int):=by simp
  rw [this];generalize 2 ^ b=z at h2;simp only [IntKind.wrap_u64];omega
 rw [e1,jq,jq,BitVec.toNat_or,BitVec.toNat_ofNat,BitVec.toNat_ofNat,Nat.mod_eq_of_lt hx,Nat.mod_eq_of_lt h2];have h3:x ||| 2 ^ b < 18446744073709551616:=Nat.or_lt_two_pow (n:=64) hx h2
 simp only [IntKind.wrap_u64];omega
theorem UA {x y:Nat} (hx:x < 18446744073709551616) (hy:y < 18446744073709551616) :
  IntKind.u64.wrap ((BitVec.ofInt 64 (x:Int) ||| BitVec.ofInt 64 (y:Int)).toNat:Int)=((x ||| y:Nat):Int):=by
 rw [jq,jq,BitVec.toNat_or,BitVec.toNat_ofNat,BitVec.toNat_ofNat,Nat.mod_eq_of_lt hx,Nat.mod_eq_of_lt hy];have h3:x ||| y < 18446744073709551616:=Nat.or_lt_two_pow (n:=64) hx hy
 simp only [IntKind.wrap_u64];omega
theorem kF (x a b:Nat):(x ||| 2 ^ b).testBit a=(x.testBit a || decide (b=a)):=by
 rw [Nat.testBit_or,Nat.testBit_two_pow]
def dU (rows:List Nat):List (List DV):=rows.map fun (x:Nat)=>[DV.v (.int .u64 (x:Int))]
theorem lD (rows:List Nat):(dU rows).length=rows.length:=by simp [dU]
theorem YP {rows:List Nat} {i:Nat} {x:Nat} (h:rows[i]? = some x):(dU rows)[i]? = some [DV.v (.int .u64 (x:Int))]:=by simp [dU,h]
abbrev nQ (rows:List Nat):DV:=.pt [.sl 1 (dU rows) none] 0
def eL (rows:List Nat):Prop:=rows.length<=64/\∀ x∈rows,x < 18446744073709551616
def bh (rows:List Nat) (a b:Nat):Bool:=(rows.getD a 0).testBit b
def hasB (rows:List Nat) (a b:Int):Bool:=decide (0<=a) && decide (a < rows.length) && decide (0<=b) && decide (b < rows.length) && bh rows a.toNat b.toNat
theorem AV (rows:List Nat):EvP prog 190 [nQ rows] (.v (.int .i64 rows.length)):=by
 refine eG 10 [.tmp 2] func190 rfl ntmps190 rfl fun _ _ _ _=>?_;refine (Ct ?_:);rw [lD]
theorem lU (rows:List Nat) (hr:eL rows) (a b:Int):EvP prog 169 [nQ rows,.v (.int .i64 a),.v (.int .i64 b)] (.v (.bool (hasB rows a b))):=by
 have hl:=AV rows;refine eG 38 [.tmp 6] func169 rfl ntmps169 rfl fun _ _ _ _=>?_;refine br ?_ ?_<;>intro g1
 ·have g1:0<=a:=sU g1;refine cP PT hl ?_;refine br ?_ ?_<;>intro g2
  ·obtain ⟨g2,g3⟩:a < rows.length/\0<=b:=by grind [pickB]
   refine cP PT hl ?_;refine br ?_ ?_<;>intro g4
   ·have g4:b < rows.length:=by simpa [pickB,g2,g3] using g4
    obtain ⟨x,hx⟩:∃ x,rows[a.toNat]? = some x:=⟨_,gE (by omega)⟩;have TG:=hr.2 x (mG hx);have hr1:=hr.1;refine ⟨_,⟨g1,YP hx⟩,?_⟩;refine ⟨g3,?_⟩;refine (bK ?_:);have OQ:rows.getD a.toNat 0=x:=getD_some hx;have e1:hasB rows a b=x.testBit b.toNat:=by grind [hasB,bh]
    rw [e1];exact Li (x:=x) (b:=b.toNat) (by omega) TG
   ·have g4:¬ b < rows.length:=by simpa [pickB,g2,g3] using g4
    refine (bK ?_:);simp [pickB,g2,g3,g4,hasB]
  ·have g5:¬ (a < rows.length/\0<=b):=by
    rintro ⟨h1,h2⟩;simp [pickB,h1,h2] at g2
   refine (bK ?_:);cases h:decide (a < (rows.length:Int))<;>simp [pickB,h,hasB] at g2 ⊢
   intro _ h0;omega
 ·have g1:¬ 0<=a:=sU g1;refine (bK ?_:);simp [g1,hasB]
def backN (rows:List Nat) (a:Nat):Nat->Nat
 | 0=>0
 | e + 1=>if bh rows a e && bh rows e a then backN rows a e ||| 2 ^ e else backN rows a e
theorem xU (rows:List Nat) (a:Nat):∀ e,backN rows a e < 2 ^ e
 | 0=>by simp [backN]
 | e + 1=>by
  have ih:=xU rows a e;have h2:2 ^ e < 2 ^ (e + 1):=Nat.pow_lt_pow_right (by decide) (by omega);simp only [backN];split
  ·exact Nat.or_lt_two_pow (by omega) h2
  ·omega
theorem tD (rows:List Nat) (a b:Nat):∀ e,(backN rows a e).testBit b=(decide (b < e) && (bh rows a b && bh rows b a))
 | 0=>by simp [backN]
 | e + 1=>by
  have ih:=tD rows a b e
  grind [backN,bh,kF]
abbrev YQ (rows:List Nat) (a e:Nat):St:=
 ⟨[(0,⟨[],nQ rows⟩),ay 1 a,(5,⟨[],.v (.int .u64 (backN rows a e:Nat))⟩),ay 11 ((dU rows).length),ay 12 e],[],[]⟩
theorem rN {rows:List Nat} {a b:Nat} (ha:a < rows.length) (hb:b < rows.length):hasB rows a b=bh rows a b:=by
 simp [hasB,ha,hb]
theorem IL (rows:List Nat) (hr:eL rows) (a:Nat) (ha:a < rows.length):EvP prog 192 [nQ rows,.v (.int .i64 a)] (.v (.int .u64 (backN rows a rows.length:Nat))):=by
 have hr1:=hr.1;refine eG 31 [.tmp 4] func192 rfl ntmps192 rfl fun _ _ _ _=>?_;refine lJ (fun e=>YQ rows a e) rows.length (bG wB) ?_;intro e he;refine br ?_ ?_<;>intro hL
 ·have aw:e < rows.length:=by have:=hL;simp [lD] at this;exact this
  have h1:=lU rows hr a e;have h2:=lU rows hr e a;rw [rN ha aw] at h1;rw [rN aw ha] at h2;have hbl:=xU rows a e
  have YR:backN rows a e < 18446744073709551616:=by
   have:2 ^ e<=2 ^ 64:=Nat.pow_le_pow_right (by decide) (by omega);omega
  have hor:=IK (x:=backN rows a e) (b:=e) (by omega) YR;have hs:backN rows a (e + 1)=if bh rows a e && bh rows e a then backN rows a e ||| 2 ^ e else backN rows a e:=rfl
  refine cP E6 h1 ?_;refine br ?_ ?_<;>intro g1
  ·have g1:bh rows a e=true:=sU g1;refine cP E6 h2 ?_;refine br ?_ ?_<;>intro g2
   ·have g2:bh rows e a=true:=by simpa [pickB,g1] using g2
    rw [g1,g2] at hs;have hs:backN rows a (e + 1)=backN rows a e ||| 2 ^ e:=hs
    refine ⟨by omega,?_⟩;exact rE ⟨_,by omega,e + 1,rfl,by omega,rfl⟩ (bG (by repeat' (first | exact trivial | exact aA rfl | exact aD (aX aw (by omega)) | exact aD (hor.trans (by rw [hs])) | refine ⟨⟨_,rfl,?_⟩,?_⟩)))
   ·have g2:bh rows e a=false:=by simpa [pickB,g1] using g2
    rw [g1,g2] at hs;have hs:backN rows a (e + 1)=backN rows a e:=hs;exact rE ⟨_,by omega,e + 1,rfl,by omega,rfl⟩ (bG (by repeat' (first | exact trivial | exact aA rfl | exact aD (aX aw (by omega)) | exact aD (by rw [hs]) | refine ⟨⟨_,rfl,?_⟩,?_⟩)))
  ·have g1:bh rows a e=false:=sU g1;rw [g1] at hs;have hs:backN rows a (e + 1)=backN rows a e:=hs;exact rE ⟨_,by omega,e + 1,rfl,by omega,rfl⟩ (bG (by repeat' (first | exact trivial | exact aA rfl | exact aD (aX aw (by omega)) | exact aD (by rw [hs]) | refine ⟨⟨_,rfl,?_⟩,?_⟩)))
 ·have hge:e=rows.length:=by have:=hL;simp [lD] at this;omega
  subst hge;exact (rfl:_=_)
def cU (rows:List Nat):List DV:=rows.map fun (x:Nat)=>DV.v (.int .u64 (x:Int))
theorem tE (rows:List Nat):(cU rows).length=rows.length:=by simp [cU]
theorem QI {rows:List Nat} {i x:Nat} (h:rows[i]? = some x):(cU rows)[i]? = some (DV.v (.int .u64 (x:Int))):=by simp [cU,h]
theorem QJ (rows:List Nat) (i x:Nat):(cU rows).set i (DV.v (.int .u64 (x:Int)))=cU (rows.set i x):=by simp [cU,List.map_set]
theorem rO (rows:List Nat):(dU rows).flatten=cU rows:=by
 induction rows with
 | nil=>rfl
 | cons x r ih=>simp only [dU,cU,List.map_cons,List.flatten_cons] at ih ⊢;rw [ih];all_goals rfl
theorem Lj {n m:Nat} {tk:List TkE}:∀ l:List Nat,WeL n m tk (cU l) (cU l)
 | []=>rfl
 | b :: r=>⟨_,_,rfl,aA rfl,Lj r⟩
theorem CQ {n m:Nat} {tk:List TkE} {l:List DV} {ds:List Nat} (h:l=cU ds):WeL n m tk l (cU ds):=by rw [h];exact Lj ds
def dNP (p:Nat × Nat):List DV:=[.v (.int .i64 (p.1:Int)),.v (.int .i64 (p.2:Int))]
def nb (l:List (Nat × Nat)):List (List DV):=l.map dNP
theorem iJ (l:List (Nat × Nat)):(nb l).length=l.length:=by simp [nb]
theorem xV {l:List (Nat × Nat)} {i:Nat} {p:Nat × Nat} (h:l[i]? = some p):(nb l)[i]? = some (dNP p):=by simp [nb,h]
def xW (rows:List Nat) (p:Nat × Nat):List Nat:=rows.set p.1 (rows.getD p.1 0 ||| 2 ^ p.2)
def fM (n:Nat) (l:List (Nat × Nat)):List Nat:=l.foldl xW (List.replicate n 0)
theorem M4 (n:Nat) (l:List (Nat × Nat)) (e:Nat) {p:Nat × Nat} (h:l[e]? = some p):fM n (l.take (e + 1))=xW (fM n (l.take e)) p:=by
 unfold fM;rw [List.take_add_one,h];simp
theorem rP (rows:List Nat) (p:Nat × Nat):(xW rows p).length=rows.length:=by simp [xW]
theorem kG (n:Nat):∀ (l:List (Nat × Nat)),(fM n l).length=n:=by
 intro l
 have:∀ (l:List (Nat × Nat)) (r:List Nat),(l.foldl xW r).length=r.length:=by
  intro l
  induction l with
  | nil=>intro r;rfl
  | cons p l ih=>intro r;rw [List.foldl_cons,ih,rP]
 rw [fM,this];simp
theorem UB {rows:List Nat} {p:Nat × Nat} (h:eL rows) (hp:p.1 < rows.length) (hq:p.2 < 64):eL (xW rows p):=by
 refine ⟨by rw [rP];exact h.1,fun x hx=>?_⟩;rcases List.mem_or_eq_of_mem_set hx with hx | rfl
 ·exact h.2 x hx
 ·refine Nat.or_lt_two_pow (n:=64) ?_ (Nat.pow_lt_pow_right (by decide) hq);rw [eO,gE hp];exact h.2 _ (List.getElem_mem hp)
theorem CR {n:Nat} (hn:n<=64):∀ (l:List (Nat × Nat)),(∀ p∈l,p.1 < n/\p.2 < n)->eL (fM n l):=by
 intro l hl
 have:∀ (l:List (Nat × Nat)) (r:List Nat),r.length=n->eL r->(∀ p∈l,p.1 < n/\p.2 < n)->eL (l.foldl xW r):=by
  intro l
  induction l with
  | nil=>intro r _ h _;exact h
  | cons p l ih=>grind [rP,UB]
 refine this l _ (by simp) ⟨by simp [hn],fun x hx=>?_⟩ hl;rw [List.mem_replicate] at hx;omega
abbrev QK (n:Nat) (l:List (Nat × Nat)) (rows:List Nat) (e:Nat):St:=
 ⟨[ay 0 n,aF 6 1,bi 19 2 (nb l),ay 20 ((nb l).length),ay 21 e],
  [cU rows,[.ms 0 1 0 n n]],[]⟩
theorem M5 (n:Nat) (hn:n<=64) (l:List (Nat × Nat)) (hl:∀ p∈l,p.1 < n/\p.2 < n) (hb:l.length<=1099511627776) :
  EvP prog 107 [.v (.int .i64 n),.sl 2 (nb l) none] (.tup [nQ (fM n l),.v (.bool true)]):=by
 refine eG 60 [.tmp 4,.tmp 5] func107 rfl ntmps107 rfl fun _ _ _ _=>?_;refine br ?_ ?_<;>intro g
 ·exfalso;simp [au] at g;omega
 refine ⟨⟨rfl,by omega,by omega,by omega⟩,?_⟩
 have h0:(List.replicate (n:Int).toNat [DV.v (.int .u64 0)]).flatten=cU (fM n (l.take 0)):=by
  simp [fM,cU]
 refine lJ (fun e=>QK n l (fM n (l.take e)) e) l.length (dz 2 (by repeat' (first | exact rfl | exact aA rfl | exact CQ h0 | refine ⟨_,_,rfl,?_,?_⟩)) (by repeat' (first | exact trivial | exact aA rfl | exact CQ h0 | refine ⟨⟨_,rfl,?_⟩,?_⟩))) ?_;intro e he;refine br ?_ ?_<;>intro hL
 ·have aw:e < l.length:=by have:=hL;simp [iJ] at this;exact this
  obtain ⟨p,hp⟩:=gX aw;obtain ⟨p1,p2⟩:=hl p (mG hp);refine iX (xV hp) ?_;refine ⟨⟨by decide,by decide⟩,?_⟩;refine ⟨⟨by decide,by decide⟩,?_⟩;refine br ?_ ?_<;>intro g
  ·refine ⟨⟨by decide,by decide⟩,?_⟩;refine ⟨⟨by decide,by decide⟩,?_⟩;refine br ?_ ?_<;>intro g2
   ·exfalso;simp [pickB] at g2;omega
   obtain ⟨x,hx⟩:∃ x,(fM n (l.take e))[p.1]? = some x:=⟨_,gE (by rw [kG];exact p1)⟩;have bA:=CR hn (l.take e) (fun q hq=>hl q (List.mem_of_mem_take hq));have TG:=bA.2 x (mG hx);have vv:0 + (p.1:Int).toNat * 1=p.1:=by omega
   refine dS ?_;refine ⟨⟨by decide,by decide⟩,?_⟩;refine ⟨⟨by omega,by omega⟩,?_⟩;refine ⟨_,(by rw [vv];exact QI hx:(cU (fM n (l.take e)))[0 + (p.1:Int).toNat * 1]? = some _),?_⟩;refine ⟨⟨by decide,by decide⟩,?_⟩;refine ⟨by omega,?_⟩;refine ⟨⟨by omega,by omega⟩,?_⟩;refine ⟨by rw [vv,tE,kG];omega,?_⟩
   have hcs:(cU (fM n (l.take e))).set (0 + (p.1:Int).toNat * 1) (DV.v (.int .u64 (IntKind.u64.wrap ((BitVec.ofInt 64 (x:Int) ||| BitVec.ofInt 64 (IntKind.u64.wrap (1 * 2 ^ (min (p.2:Int).toNat 64)))).toNat:Int))))=cU (fM n (l.take (e + 1))):=by
    rw [vv,show ((p.2:Int).toNat)=p.2 by omega,IK (by omega) TG,QJ,M4 n l e hp];simp only [xW];rw [getD_some hx]
   refine ⟨QK n l (fM n (l.take (e + 1))) (e + 1),(dz 2 (by repeat' (first | exact rfl | exact aA rfl | exact CQ hcs | exact aD (aX aw (by omega)) | refine ⟨_,_,rfl,?_,?_⟩)) (by repeat' (first | exact trivial | exact aA rfl | exact CQ hcs | exact aD (aX aw (by omega)) | refine ⟨⟨_,rfl,?_⟩,?_⟩))),l.length - (e + 1),by omega,e + 1,rfl,by omega,rfl⟩
  ·exfalso;simp [pickB] at g;omega
 ·have hge:e=l.length:=by have:=hL;simp [iJ] at this;omega
  subst hge;rw [List.take_length];refine ⟨_,?_,rfl⟩;have hlen:=kG n l;generalize fM n l=rows at hlen ⊢;refine ⟨_,rfl,_,_,rfl,.inr ⟨1,_,rfl,Nat.zero_le _,rfl,_,_,rfl,.inr (.inr (.inl ⟨0,0,n,cU rows,by rw [lD,hlen],Nat.zero_le _,rfl,?_,?_,?_⟩)),rfl⟩,_,_,rfl,rfl,rfl⟩
  ·grind [rO,lD,tE]
  ·grind [dU]
  ·grind [rO,cU]
def kH (rows:List Nat) (k:Nat):List Nat:=rows.set k (rows.getD k 0 ||| 2 ^ k)
def qa (k:Nat) (rows:List Nat) (a:Nat):List Nat:=if bh rows a k then rows.set a (rows.getD a 0 ||| rows.getD k 0) else rows
def iK (rows:List Nat) (k e:Nat):List Nat:=(List.range e).foldl (qa k) (kH rows k)
def closeR (rows:List Nat) (e:Nat):List Nat:=(List.range e).foldl (fun r k=>iK r k r.length) rows
theorem QL {rows:List Nat} {i x:Nat} (h:eL rows) (hx:x < 18446744073709551616):eL (rows.set i x):=by
 refine ⟨by rw [List.length_set];exact h.1,fun y hy=>?_⟩;rcases List.mem_or_eq_of_mem_set hy with hy | rfl
 ·exact h.2 y hy
 ·exact hx
theorem nc {rows:List Nat} (h:eL rows) (i:Nat):rows.getD i 0 < 18446744073709551616:=by
 rw [eO]
 cases hx:rows[i]? with
 | none=>simp
 | some x=>exact h.2 x (mG hx)
theorem QM {rows:List Nat} {k:Nat} (h:eL rows) (hk:k < 64):eL (kH rows k):=
 QL h (Nat.or_lt_two_pow (n:=64) (nc h k) (Nat.pow_lt_pow_right (by decide) hk))
theorem M6 (rows:List Nat) (k:Nat):(kH rows k).length=rows.length:=by simp [kH]
theorem QN {rows:List Nat} {k a:Nat} (h:eL rows):eL (qa k rows a):=by
 unfold qa;split
 ·exact QL h (Nat.or_lt_two_pow (n:=64) (nc h a) (nc h k))
 ·exact h
theorem M7 (rows:List Nat) (k a:Nat):(qa k rows a).length=rows.length:=by
 unfold qa;split<;>simp
theorem nd (rows:List Nat) (k e:Nat):iK rows k (e + 1)=qa k (iK rows k e) e:=by simp [iK,List.range_succ]
theorem pz (rows:List Nat) (k:Nat):∀ e,(iK rows k e).length=rows.length
 | 0=>by simp [iK,M6]
 | e + 1=>by rw [nd,M7,pz]
theorem xX {rows:List Nat} {k:Nat} (h:eL rows) (hk:k < 64):∀ e,eL (iK rows k e)
 | 0=>by simpa [iK] using QM h hk
 | e + 1=>by rw [nd];exact QN (xX h hk e)
theorem lm (rows:List Nat) (e:Nat):closeR rows (e + 1)=iK (closeR rows e) e (closeR rows e).length:=by simp [closeR,List.range_succ]
theorem fN (rows:List Nat):∀ e,(closeR rows e).length=rows.length
 | 0=>by simp [closeR]
 | e + 1=>by rw [lm,pz,fN]
theorem lV {rows:List Nat} (h:eL rows):∀ e,e<=64->eL (closeR rows e)
 | 0,_=>by simpa [closeR] using h
 | e + 1,he=>by rw [lm];exact xX (lV h e (by omega)) (by omega) _
def spU (m:Nat):List DV:=(List.replicate m (vL [Value.int .u64 0])).flatten
theorem xY {n m:Nat} {tk:List TkE}:∀ l:List DV,(∀ x∈l,∃ y,x = .v y)->WeL n m tk l l
 | [],_=>rfl
 | b :: r,h=>by
  obtain ⟨y,rfl⟩:=h b (by simp);exact ⟨_,_,rfl,aA rfl,xY r (fun x hx=>h x (by simp [hx]))⟩
theorem gm {n m:Nat} {tk:List TkE} {l:List DV} {ds:List Nat} {k:Nat} (h:l=cU ds ++ spU k):WeL n m tk l (cU ds ++ spU k):=by
 rw [h];refine xY _ fun x hx=>?_;rcases List.mem_append.1 hx with hx | hx
 ·grind [cU]
 ·simp_all [spU,vL]
theorem CS {r:List Nat} {k i x:Nat} (h:r[i]? = some x):(cU r ++ spU k)[0 + (i:Int).toNat * 1]? = some (DV.v (.int .u64 (x:Int))):=by grind [tE,QI]
theorem QO {r:List Nat} {k i x:Nat} (h:i < r.length):(cU r ++ spU k).set (0 + (i:Int).toNat * 1) (DV.v (.int .u64 (x:Int)))=cU (r.set i x) ++ spU k:=by grind [tE,QJ]
theorem QP {r:List Nat} {k i:Nat} (h:i < r.length):0 + (i:Int).toNat * 1 + 1<=(cU r ++ spU k).length:=by
 rw [List.length_append,tE];omega
abbrev clSt (rows:List Nat) (cap:Nat) (r:List Nat) (e:Nat):St:=
 ⟨[aF 3 1,ay 19 ((dU rows).length),ay 20 e],[cU r ++ spU (cap - (dU rows).length),[.ms 0 1 0 (dU rows).length cap]],[]⟩
abbrev adj (rows:List Nat) (cap:Nat) (r:List Nat) (e f:Nat):St:=
 ⟨[aF 3 1,ay 4 e,ay 19 ((dU rows).length),ay 20 e,ay 38 ((dU rows).length),ay 39 f],[cU r ++ spU (cap - (dU rows).length),[.ms 0 1 0 (dU rows).length cap]],[]⟩
theorem qB {l:List Nat} {i:Nat} (h:i < l.length):l[i]? = some (l.getD i 0):=tz h
theorem uX (rows:List Nat) (hr:eL rows) (h0:rows ≠ []):EvP prog 109 [nQ rows] (nQ (closeR rows rows.length)):=by
 have hr1:=hr.1;have hN:=lD rows;have ku:0 < rows.length:=List.length_pos_iff.2 h0;refine j7 (s:=false) (bt:=[]) (mu:=[12]) (hbt:=fun p hp=>by cases hp) (fr:=false) (P:=prog) tt eT 5000 72 [.tmp 2] func109 rfl ntmps109 rfl (nL rfl) (fun _ _ _ _=>?_);refine ⟨⟨by intro h;exact h0 (by simpa [dU] using h),by rw [lD];simp [maxLen];omega,by rw [lD];omega⟩,fun cap Mx=>?_⟩
 have iC:(dU rows).flatten.append (List.replicate (cap - (dU rows).length) (vL [Value.int .u64 0])).flatten=cU (closeR rows 0) ++ spU (cap - (dU rows).length):=by
  show (dU rows).flatten ++ _=_;rw [rO];rfl
 refine lJ (fun e=>clSt rows cap (closeR rows e) e) rows.length (dz 2 (pX iC) (dH iC)) ?_;intro e he;have bA:=lV hr e (by omega);have hlen:=fN rows e;have FD:=lm rows e;generalize hce:closeR rows e=r at bA hlen FD ⊢;refine br ?_ ?_<;>intro hL
 ·have aw:e < rows.length:=by have:=hL;simp [hN] at this;exact this
  have hx:=qB (l:=r) (i:=e) (by omega);have hor:=IK (x:=r.getD e 0) (b:=e) (by omega) (nc bA e);refine dS ?_;refine ⟨⟨by omega,by omega⟩,?_⟩;refine ⟨_,CS hx,?_⟩;refine ⟨by omega,?_⟩;refine ⟨⟨by omega,by omega⟩,?_⟩;refine ⟨QP (by omega),?_⟩
  have fx:(cU r ++ spU (cap - (dU rows).length)).set (0 + (e:Int).toNat * 1) (DV.v (.int .u64 (IntKind.u64.wrap ((BitVec.ofInt 64 ((r.getD e 0:Nat):Int) ||| BitVec.ofInt 64 (IntKind.u64.wrap (1 * 2 ^ (min (e:Int).toNat 64)))).toNat:Int))))=cU (iK r e 0) ++ spU (cap - (dU rows).length):=by
   rw [show min (e:Int).toNat 64=min e 64 by omega,hor,QO (by omega)];rfl
  refine lJ (fun f=>adj rows cap (iK r e f) e f) rows.length (dz 2 (pX fx) (dH fx)) ?_;intro f hf;have hpk:=xX (k:=e) bA (by omega) f;have fV:=pz r e f;have hps:=nd r e f;have dY:e < (iK r e f).length:=by rw [fV];omega
  refine br ?_ ?_<;>intro hL
  ·have zU:f < rows.length:=by have:=hL;simp [hN] at this;exact this
   have hpf:f < (iK r e f).length:=by rw [fV];omega
   generalize iK r e f=q at hpk fV hps dY hpf ⊢;have hy:=qB hpf;have hz:=qB dY;have QQ:=Li (x:=q.getD f 0) (b:=e) (by omega) (nc hpk f);have hor:=UA (nc hpk f) (nc hpk e);refine ⟨⟨by omega,by omega⟩,?_⟩;refine ⟨_,CS hy,?_⟩;refine ⟨by omega,?_⟩;refine br ?_ ?_<;>intro g
   ·have g:bh q f e=true:=QQ.symm.trans g;refine dS ?_;refine ⟨⟨by omega,by omega⟩,?_⟩;refine ⟨_,CS hy,?_⟩;refine ⟨⟨by omega,by omega⟩,?_⟩;refine ⟨_,CS hz,?_⟩;refine ⟨⟨by omega,by omega⟩,?_⟩;refine ⟨QP hpf,?_⟩
    have eP:(cU q ++ spU (cap - (dU rows).length)).set (0 + (f:Int).toNat * 1) (DV.v (.int .u64 (IntKind.u64.wrap ((BitVec.ofInt 64 ((q.getD f 0:Nat):Int) ||| BitVec.ofInt 64 ((q.getD e 0:Nat):Int)).toNat:Int))))=cU (iK r e (f + 1)) ++ spU (cap - (dU rows).length):=by
     rw [hor,QO hpf,hps,qa,aj g]
    exact rE ⟨_,by omega,f + 1,rfl,by omega,rfl⟩ (dz 2 (oc eP (aX zU (by omega))) (gC eP (aX zU (by omega))))
   ·have g:bh q f e=false:=QQ.symm.trans g
    have eP:cU q ++ spU (cap - (dU rows).length)=cU (iK r e (f + 1)) ++ spU (cap - (dU rows).length):=by
     rw [hps,qa,ai (by rw [g];decide)]
    exact rE ⟨_,by omega,f + 1,rfl,by omega,rfl⟩ (dz 2 (oc eP (aX zU (by omega))) (gC eP (aX zU (by omega))))
  ·have hge:f=rows.length:=sW hN hL;subst hge
   have Ee:cU (iK r e rows.length) ++ spU (cap - (dU rows).length)=cU (closeR rows (e + 1)) ++ spU (cap - (dU rows).length):=by
    rw [FD,hlen]
   exact rE ⟨_,by omega,e + 1,rfl,by omega,rfl⟩ (dz 2 (oc Ee (aX aw (by omega))) (gC Ee (aX aw (by omega))))
 ·have hge:e=rows.length:=sW hN hL;subst hge;refine ⟨_,?_,rfl⟩;rw [hce];refine .inr ⟨1,_,rfl,Nat.zero_le _,rfl,_,_,rfl,.inr (.inr (.inl ⟨0,0,cap,cU r ++ spU (cap - (dU rows).length),by rw [lD r,hlen,hN],Nat.zero_le _,rfl,?_,?_,?_⟩)),rfl⟩
  ·grind [rO,lD,tE]
  ·grind [dU]
  ·grind [rO,cU]
theorem lW {a b c d:Nat} (ha:a < 256) (hb:b < 256):(a + 256 * c) &&& (b + 256 * d)=(a &&& b) + 256 * (c &&& d):=by
 have h1:a &&& b < 256:=Nat.and_lt_two_pow (n:=8) a hb;apply Nat.eq_of_testBit_eq;intro i
 have e (x y:Nat) (hx:x < 256):(x + 256 * y).testBit i=if i < 8 then x.testBit i else y.testBit (i - 8):=by
  rw [show x + 256 * y=2 ^ 8 * y + x by omega,Nat.testBit_two_pow_mul_add _ (sU hx)]
 grind
def b1 (x:Nat):Nat:=((x / 2) &&& 85) + (x &&& 85)
def b2 (x:Nat):Nat:=((x / 4) &&& 51) + (x &&& 51)
def b3 (x:Nat):Nat:=((x / 16) + x) &&& 15
def pop8 (x:Nat):Nat:=b3 (b2 (b1 x))
theorem Lk:∀ x:Fin 256,b1 x.val < 256/\b2 (b1 x.val) < 120/\pop8 x.val<=8/\pop8 x.val=(((((((x.val.testBit 0).toNat + (x.val.testBit 1).toNat) + (x.val.testBit 2).toNat) + (x.val.testBit 3).toNat) + (x.val.testBit 4).toNat) + (x.val.testBit 5).toNat) + (x.val.testBit 6).toNat) + (x.val.testBit 7).toNat:=by decide +kernel
def valB:List Nat->Nat
 | []=>0
 | a :: r=>a + 256 * valB r
def rep (m:Nat):Nat->Nat
 | 0=>0
 | n + 1=>m + 256 * rep m n
theorem m1:∀ (a:Fin 256) (c:Fin 2),(a.val / 2 + 128 * c.val) &&& 85=(a.val / 2) &&& 85:=by decide +kernel
theorem m2:∀ (a:Fin 256) (c:Fin 4),(a.val / 4 + 64 * c.val) &&& 51=(a.val / 4) &&& 51:=by decide +kernel
theorem rF:∀ l:List Nat,(∀ a∈l,a < 256)->((valB l / 2) &&& rep 85 l.length) + (valB l &&& rep 85 l.length)=valB (l.map b1)
 | [],_=>rfl
 | a :: r,h=>by
  have ih:=rF r (fun x hx=>h x (by simp [hx]));have ha:=h a (by simp);have e1:(a + 256 * valB r) / 2=(a / 2 + 128 * (valB r % 2)) + 256 * (valB r / 2):=by omega
  have hm:=m1 ⟨a,ha⟩ ⟨valB r % 2,by omega⟩;simp only at hm;simp only [valB,List.length_cons,rep,List.map_cons,b1];rw [e1,lW (by omega) (by decide),lW ha (by decide),hm,<- ih];omega
theorem ME:∀ l:List Nat,(∀ a∈l,a < 256)->((valB l / 4) &&& rep 51 l.length) + (valB l &&& rep 51 l.length)=valB (l.map b2)
 | [],_=>rfl
 | a :: r,h=>by
  have ih:=ME r (fun x hx=>h x (by simp [hx]));have ha:=h a (by simp);have e1:(a + 256 * valB r) / 4=(a / 4 + 64 * (valB r % 4)) + 256 * (valB r / 4):=by omega
  have hm:=m2 ⟨a,ha⟩ ⟨valB r % 4,by omega⟩;simp only at hm;simp only [valB,List.length_cons,rep,List.map_cons,b2];rw [e1,lW (by omega) (by decide),lW ha (by decide),hm,<- ih];omega
theorem adk (x y:Nat):(x + 16 * y) &&& 15=x &&& 15:=by
 have h (z:Nat):z &&& 15=z % 16:=Nat.and_two_pow_sub_one_eq_mod z 4;rw [h,h];omega
def FE (a:Nat):Prop:=a < 70/\a % 16<=4
theorem st3:∀ l:List Nat,(∀ a∈l,FE a)->((valB l / 16) + valB l) &&& rep 15 l.length=valB (l.map b3)
 | [],_=>rfl
 | a :: r,h=>by
  have ih:=st3 r (fun x hx=>h x (by simp [hx]));have ha:=h a (by simp)
  have hc:valB r % 16<=4:=by
   cases r with
   | nil=>simp [valB]
   | cons b s=>
    have:=(h b (by simp)).2;simp only [valB];omega
  unfold FE at ha;have e1:(a + 256 * valB r) / 16 + (a + 256 * valB r)=((a / 16 + a) + 16 * (valB r % 16)) + 256 * (valB r / 16 + valB r):=by omega
  simp only [valB,List.length_cons,rep,List.map_cons,b3];rw [e1,lW (by omega) (by decide),adk,ih]
def fh (x:Nat):List Nat:=[x % 256,x / 256 % 256,x / 65536 % 256,x / 16777216 % 256,x / 4294967296 % 256,x / 1099511627776 % 256,x / 281474976710656 % 256,x / 72057594037927936 % 256]
theorem IM {x:Nat} (h:x < 18446744073709551616):valB (fh x)=x:=by
 simp only [fh,valB];omega
theorem M8 (x:Nat):∀ a∈fh x,a < 256:=by
 intro a ha;simp only [fh,List.mem_cons,List.not_mem_nil,or_false] at ha;omega
def IP (x:Nat):Nat:=((fh x).map pop8).sum
theorem FG:∀ a:Fin 256,b1 a.val < 256/\b2 (b1 a.val) < 70/\b2 (b1 a.val) % 16<=4:=by decide +kernel
theorem CT {x m:Nat} (hx:x < 18446744073709551616) (hm:m < 18446744073709551616) :
  IntKind.u64.wrap ((BitVec.ofInt 64 (x:Int) &&& BitVec.ofInt 64 (m:Int)).toNat:Int)=((x &&& m:Nat):Int):=by
 rw [jq,jq,BitVec.toNat_and,BitVec.toNat_ofNat,BitVec.toNat_ofNat,Nat.mod_eq_of_lt hx,Nat.mod_eq_of_lt hm];have h3:x &&& m < 18446744073709551616:=Nat.and_lt_two_pow (n:=64) x hm;simp only [IntKind.wrap_u64];omega
theorem IQ {x:Nat} {k:Int} (hk:k.toNat < 64):(x:Int).fdiv (2 ^ min k.toNat IntKind.u64.bits)=((x / 2 ^ k.toNat:Nat):Int):=by
 rw [show min k.toNat IntKind.u64.bits=k.toNat from Nat.min_eq_left (by show k.toNat<=64;omega),FC]
theorem CU {y:Nat} (h:y < 18446744073709551616):IntKind.u64.wrap (y:Int)=(y:Int):=by
 simp only [IntKind.wrap_u64];omega
theorem adl {k M:Int} {m x y:Nat} (hk:k.toNat < 64) (hx:x < 18446744073709551616) (hM:M=(m:Int)) (hm:m < 18446744073709551616) (hy:((x / 2 ^ k.toNat) &&& m) + (x &&& m)=y) (lO:y < 18446744073709551616) :
  IntKind.u64.wrap (IntKind.u64.wrap ((BitVec.ofInt IntKind.u64.bits ((x:Int).fdiv (2 ^ min k.toNat IntKind.u64.bits)) &&& BitVec.ofInt IntKind.u64.bits M).toNat:Int) + IntKind.u64.wrap ((BitVec.ofInt IntKind.u64.bits (x:Int) &&& BitVec.ofInt IntKind.u64.bits M).toNat:Int))=(y:Int):=by
 subst hM;have h1:x / 2 ^ k.toNat < 18446744073709551616:=Nat.lt_of_le_of_lt (Nat.div_le_self _ _) hx;have e1:IntKind.u64.wrap ((BitVec.ofInt IntKind.u64.bits ((x / 2 ^ k.toNat:Nat):Int) &&& BitVec.ofInt IntKind.u64.bits (m:Int)).toNat:Int)=_:=CT h1 hm;have e2:IntKind.u64.wrap ((BitVec.ofInt IntKind.u64.bits (x:Int) &&& BitVec.ofInt IntKind.u64.bits (m:Int)).toNat:Int)=_:=CT hx hm;rw [IQ hk,e1,e2,<- Int.natCast_add,hy,CU lO]
theorem stgB {k M:Int} {m x y:Nat} (hk:k.toNat < 64) (hs:x / 2 ^ k.toNat + x < 18446744073709551616) (hM:M=(m:Int)) (hm:m < 18446744073709551616) (hy:((x / 2 ^ k.toNat) + x) &&& m=y) :
  IntKind.u64.wrap ((BitVec.ofInt IntKind.u64.bits (IntKind.u64.wrap ((x:Int).fdiv (2 ^ min k.toNat IntKind.u64.bits) + (x:Int))) &&& BitVec.ofInt IntKind.u64.bits M).toNat:Int)=(y:Int):=by
 subst hM;have e2:IntKind.u64.wrap ((BitVec.ofInt IntKind.u64.bits ((x / 2 ^ k.toNat + x:Nat):Int) &&& BitVec.ofInt IntKind.u64.bits (m:Int)).toNat:Int)=_:=CT hs hm;rw [IQ hk,<- Int.natCast_add,CU hs,e2,hy]
theorem YS {k:Int} {x:Nat} (hk:k.toNat < 64) (hs:x + x / 2 ^ k.toNat < 18446744073709551616) :
  IntKind.u64.wrap ((x:Int) + (x:Int).fdiv (2 ^ min k.toNat IntKind.u64.bits))=((x + x / 2 ^ k.toNat:Nat):Int):=by
 rw [IQ hk,<- Int.natCast_add,CU hs]
theorem Ll:∀ l:List Nat,(∀ a∈l,a < 256)->valB l < 256 ^ l.length
 | [],_=>by simp [valB]
 | a :: r,h=>by
  have ih:=Ll r (fun x hx=>h x (by simp [hx]));have ha:=h a (by simp)
  grind [valB]
theorem QR {x:Nat} (hx:x < 18446744073709551616):∃ y1 y2 y3:Nat,((x / 2) &&& 6148914691236517205) + (x &&& 6148914691236517205)=y1/\y1 < 18446744073709551616/\((y1 / 4) &&& 3689348814741910323) + (y1 &&& 3689348814741910323)=y2/\y2 / 16 + y2 < 18446744073709551616/\y2 < 18446744073709551616 /\
  ((y2 / 16) + y2) &&& 1085102592571150095=y3/\∃ p0 p1 p2 p3 p4 p5 p6 p7:Nat,y3=valB [p0,p1,p2,p3,p4,p5,p6,p7]/\(p0<=8/\p1<=8/\p2<=8/\p3<=8/\p4<=8/\p5<=8/\p6<=8/\p7<=8)/\IP x=p0 + p1 + p2 + p3 + p4 + p5 + p6 + p7:=by
 have hl:=M8 x;have s1:=rF (fh x) hl;rw [IM hx] at s1
 have l1:∀ a∈(fh x).map b1,a < 256:=by
  intro a ha;obtain ⟨b,hb,rfl⟩:=List.mem_map.1 ha;exact (FG ⟨b,hl b hb⟩).1
 have l2:∀ a∈((fh x).map b1).map b2,FE a:=by
  intro a ha;obtain ⟨c,hc,rfl⟩:=List.mem_map.1 ha;obtain ⟨b,hb,rfl⟩:=List.mem_map.1 hc;exact (FG ⟨b,hl b hb⟩).2
 have s2:=ME ((fh x).map b1) l1;have s3:=st3 (((fh x).map b1).map b2) l2
 have v1:valB ((fh x).map b1) < 18446744073709551616:=by
  have:=Ll _ l1;rw [List.length_map,show (fh x).length=8 from rfl] at this;simpa using this
 rw [show rep 85 (fh x).length=6148914691236517205 from (by decide:rep 85 8=_)] at s1;rw [List.length_map,show rep 51 (fh x).length=3689348814741910323 from (by decide:rep 51 8=_)] at s2;rw [List.length_map,List.length_map,show rep 15 (fh x).length=1085102592571150095 from (by decide:rep 15 8=_)] at s3;refine ⟨_,_,_,s1,v1,s2,?_,?_,s3,_,_,_,_,_,_,_,_,rfl,?_,?_⟩
 ·have:=l2;simp only [fh,List.map_cons,List.map_nil,List.mem_cons,List.not_mem_nil,or_false,forall_eq_or_imp,forall_eq,FE,valB] at this ⊢;omega
 ·have:=l2;simp only [fh,List.map_cons,List.map_nil,List.mem_cons,List.not_mem_nil,or_false,forall_eq_or_imp,forall_eq,FE,valB] at this ⊢;omega
 ·have h (b:Nat) (hb:b < 256):=(Lk ⟨b,hb⟩).2.2.1;exact ⟨h _ (by omega),h _ (by omega),h _ (by omega),h _ (by omega),h _ (by omega),h _ (by omega),h _ (by omega),h _ (by omega)⟩
 ·simp only [IP,fh,List.map_cons,List.map_nil,List.sum_cons,List.sum_nil,pop8];omega
theorem dr1 {a r:Nat} (h:a < 256):(a + 256 * r) / 256=r:=by omega
theorem dr2 {a b r:Nat} (h:a < 256) (h2:b < 256):(a + 256 * (b + 256 * r)) / 65536=r:=by omega
theorem QS {p0 p1 p2 p3 p4 p5 p6 p7:Nat} (hp:p0<=8/\p1<=8/\p2<=8/\p3<=8/\p4<=8/\p5<=8/\p6<=8/\p7<=8):∃ z1 z2 z3:Nat,
  (p0 + 256 * (p1 + 256 * (p2 + 256 * (p3 + 256 * (p4 + 256 * (p5 + 256 * (p6 + 256 * (p7 + 256 * 0)))))))) + (p0 + 256 * (p1 + 256 * (p2 + 256 * (p3 + 256 * (p4 + 256 * (p5 + 256 * (p6 + 256 * (p7 + 256 * 0)))))))) / 256=z1/\z1 < 18446744073709551616 /\
  z1 + z1 / 65536=z2/\z2 < 18446744073709551616/\z2 + z2 / 4294967296=z3/\z3 < 18446744073709551616/\z3 % 128=p0 + p1 + p2 + p3 + p4 + p5 + p6 + p7:=by
 refine ⟨(p0 + p1) + 256 * ((p1 + p2) + 256 * ((p2 + p3) + 256 * ((p3 + p4) + 256 * ((p4 + p5) + 256 * ((p5 + p6) + 256 * ((p6 + p7) + 256 * p7)))))),
  (p0 + p1 + p2 + p3) + 256 * ((p1 + p2 + p3 + p4) + 256 * ((p2 + p3 + p4 + p5) + 256 * ((p3 + p4 + p5 + p6) + 256 * ((p4 + p5 + p6 + p7) + 256 * ((p5 + p6 + p7) + 256 * ((p6 + p7) + 256 * p7)))))),
  (p0 + p1 + p2 + p3 + p4 + p5 + p6 + p7) + 256 * ((p1 + p2 + p3 + p4 + p5 + p6 + p7) + 256 * ((p2 + p3 + p4 + p5 + p6 + p7) + 256 * ((p3 + p4 + p5 + p6 + p7) + 256 * ((p4 + p5 + p6 + p7) + 256 * ((p5 + p6 + p7) + 256 * ((p6 + p7) + 256 * p7)))))),?_,by omega,?_,by omega,?_,by omega,by omega⟩
 ·rw [dr1 (by omega)];omega
 ·rw [dr2 (by omega) (by omega)];omega
 ·omega
theorem QT {z:Nat} (h:z < 18446744073709551616):IntKind.i64.wrap ((BitVec.ofInt IntKind.i64.bits (IntKind.i64.wrap (z:Int)) &&& BitVec.ofInt IntKind.i64.bits 127).toNat:Int)=((z % 128:Nat):Int):=by
 have e1:BitVec.ofInt 64 (IntKind.i64.wrap (z:Int))=BitVec.ofNat 64 z:=by
  apply BitVec.eq_of_toNat_eq;rw [BitVec.toNat_ofInt,BitVec.toNat_ofNat,IntKind.wrap_i64];omega
 have e2:(BitVec.ofInt 64 (IntKind.i64.wrap (z:Int)) &&& BitVec.ofInt 64 127).toNat=z % 128:=by
  rw [e1,show BitVec.ofInt 64 127=BitVec.ofNat 64 127 by decide,BitVec.toNat_and,BitVec.toNat_ofNat,BitVec.toNat_ofNat,Nat.mod_eq_of_lt h];exact Nat.and_two_pow_sub_one_eq_mod z 7
 have e3:(BitVec.ofInt IntKind.i64.bits (IntKind.i64.wrap (z:Int)) &&& BitVec.ofInt IntKind.i64.bits 127).toNat=z % 128:=e2;rw [e3,IntKind.wrap_i64];omega
theorem M9 (x:Nat) (hx:x < 18446744073709551616):EvP prog 191 [.v (.int .u64 x)] (.v (.int .i64 (IP x:Nat))):=by
 obtain ⟨y1,y2,y3,h1,h1b,h2,h2s,h2b,h3,p0,p1,p2,p3,p4,p5,p6,p7,h4,hp,h5⟩:=QR hx;rw [h5];simp only [valB] at h4;refine eG 35 [.tmp 2] func191 rfl ntmps191 rfl fun _ _ _ _=>?_;refine ⟨by decide,?_⟩;refine ⟨by decide,?_⟩;refine ⟨by decide,?_⟩;refine ⟨by decide,?_⟩;refine ⟨by decide,?_⟩;refine ⟨by decide,?_⟩;refine (Ct ?_:);rw [adl (k:=1) (M:=6148914691236517205) (by decide) hx rfl (by decide) h1 h1b,adl (k:=2) (M:=3689348814741910323) (by decide) h1b rfl (by decide) h2 h2b,stgB (k:=4) (M:=1085102592571150095) (by decide) h2s rfl (by decide) h3];obtain ⟨z1,z2,z3,g1,g1b,g2,g2b,g3,g3b,g4⟩:=QS hp;rw [<- h4] at g1;have k1:y3 + y3 / 2 ^ (8:Int).toNat=z1:=g1;rw [YS (k:=8) (by decide) (by rw [k1];exact g1b),k1];have k2:z1 + z1 / 2 ^ (16:Int).toNat=z2:=g2;rw [YS (k:=16) (by decide) (by rw [k2];exact g2b),k2];have k3:z2 + z2 / 2 ^ (32:Int).toNat=z3:=g3;rw [YS (k:=32) (by decide) (by rw [k3];exact g3b),k3,<- g4];exact QT g3b
theorem jK (x k i:Nat) (hi:i < 8):(x / 2 ^ (8 * k) % 256).testBit i=x.testBit (8 * k + i):=by
 rw [show (256:Nat)=2 ^ 8 by decide,Nat.testBit_mod_two_pow,decide_eq_true hi,Bool.true_and,Nat.testBit_div_two_pow,Nat.add_comm]
theorem jL (x k:Nat):pop8 (x / 2 ^ (8 * k) % 256)=(((((((x.testBit (8 * k + 0)).toNat + (x.testBit (8 * k + 1)).toNat) + (x.testBit (8 * k + 2)).toNat) + (x.testBit (8 * k + 3)).toNat) + (x.testBit (8 * k + 4)).toNat) + (x.testBit (8 * k + 5)).toNat) + (x.testBit (8 * k + 6)).toNat) + (x.testBit (8 * k + 7)).toNat:=by
 have h:=(Lk ⟨x / 2 ^ (8 * k) % 256,Nat.mod_lt _ (by decide)⟩).2.2.2;simp only at h;rw [h,jK x k 0 (by decide),jK x k 1 (by decide),jK x k 2 (by decide),jK x k 3 (by decide),jK x k 4 (by decide),jK x k 5 (by decide),jK x k 6 (by decide),jK x k 7 (by decide)]
def sumB (x:Nat):Nat->Nat
 | 0=>0
 | n + 1=>sumB x n + (x.testBit n).toNat
theorem QU (x:Nat):IP x=sumB x 64:=by
 have h0:=jL x 0;have h1:=jL x 1;have h2:=jL x 2;have h3:=jL x 3;have h4:=jL x 4;have h5:=jL x 5;have h6:=jL x 6;have h7:=jL x 7;simp only [Nat.mul_zero,Nat.pow_zero,Nat.div_one] at h0;simp only [IP,fh,List.map_cons,List.map_nil,List.sum_cons,List.sum_nil,sumB]
 grind
theorem xZ (x:Nat):∀ n,0 < sumB x n↔∃ b,b < n/\x.testBit b=true
 | 0=>by simp [sumB]
 | n + 1=>by
  have ih:=xZ x n
  grind [sumB]
theorem FH (x a:Nat) (ha:x.testBit a=true):∀ n,a < n->(1 < sumB x n↔∃ b,b < n/\b≠a/\x.testBit b=true)
 | 0,h=>by omega
 | n + 1,h=>by
  simp only [sumB];by_cases hn:a=n
  ·grind [xZ]
  ·have ih:=FH x a ha n (by omega)
   grind [xZ]
def cm (p:Nat->Bool) (n:Nat):Option Nat:=(List.range n).find? p
theorem dc {p:Nat->Bool} {n e:Nat} (he:e < n) (hp:p e=true) (h:∀ a,a < e->p a=false):cm p n=some e:=by simp_all [cm]
theorem dO {p:Nat->Bool} {n:Nat} (h:∀ a,a < n->p a=false):cm p n=none:=by grind [cm]
theorem eV {p:Nat->Bool} {n e:Nat} (h:cm p n=some e):e < n/\p e=true/\∀ a,a < e->p a=false:=by simp_all [cm]
def rQ (c:List Nat) (a:Nat):Bool:=decide (1 < IP (backN c a c.length))
def QV:Option Nat->DV
 | some a=>.tup [.v (.int .i64 (a:Int)),.v (.bool true)]
 | none=>.tup [.v (.int .i64 0),.v (.bool false)]
abbrev UC (c:List Nat) (e:Nat):St:=
 ⟨[(4,⟨[],nQ c⟩),ay 9 c.length,ay 10 e],[],[]⟩
theorem IU (rows:List Nat) (hr:eL rows) (h0:rows ≠ []):EvP prog 108 [nQ rows] (QV (cm (rQ (closeR rows rows.length)) rows.length)):=by
 have hc:=uX rows hr h0;have bA:=lV hr rows.length hr.1;have hlen:=fN rows rows.length;have hr1:=hr.1;generalize closeR rows rows.length=c at hc bA hlen ⊢;rw [<- hlen];have hl:=AV c;refine eG 20 [.tmp 2,.tmp 3] func108 rfl ntmps108 rfl fun _ _ _ _=>?_;refine cP Wn hc ?_;refine cP PT hl ?_;refine lI (fun j st=>∃ e:Nat,st=UC c e/\e<=c.length/\(∀ a,a < e->rQ c a=false)/\j=c.length - e) ⟨0,rfl,by omega,fun a h=>by omega,rfl⟩ (bG wB) ?_;rintro j st ⟨e,rfl,he,iA,rfl⟩;refine br ?_ ?_<;>intro hL
 ·have aw:e < c.length:=by have:=hL;simp at this;exact this
  have YR:backN c e c.length < 18446744073709551616:=by
   have h1:=xU c e c.length;have:2 ^ c.length<=2 ^ 64:=Nat.pow_le_pow_right (by decide) (by omega);omega
  refine cP acb (IL c bA e aw) ?_;refine cP aca (M9 _ YR) ?_;refine br ?_ ?_<;>intro g
  ·have g:rQ c e=true:=by
    simp at g;simp [rQ];omega
   rw [dc aw g iA];refine ⟨_,?_,rfl⟩;exact ax
  ·have g:rQ c e=false:=by
    simp at g;simp [rQ];omega
   exact rE ⟨_,by omega,e + 1,rfl,by omega,fun a ha=>by
    rcases mD ha with ha | rfl
    ·exact iA a ha
    ·exact g,rfl⟩ (bG (dH (aX aw (by omega))))
 ·have hge:e=c.length:=by have:=hL;simp at this;omega
  subst hge;rw [dO iA];refine ⟨_,?_,rfl⟩;exact ax
theorem x4 {rows:List Nat} {i x a b:Nat} (hi:i < rows.length):bh (rows.set i x) a b=if a=i then x.testBit b else bh rows a b:=by grind [bh]
theorem pA {rows:List Nat} {k a b:Nat} (hk:k < rows.length):bh (kH rows k) a b=(bh rows a b || (decide (a=k) && decide (b=k))):=by
 unfold kH;rw [x4 hk];by_cases h:a=k
 ·subst h;rw [aj rfl,kF];simp only [decide_true,Bool.true_and];rw [show decide (a=b)=decide (b=a) from by simp only [eq_comm]];rfl
 ·rw [ai h];simp [h]
theorem Na {rows:List Nat} {k i a b:Nat} (hi:i < rows.length):bh (qa k rows i) a b=(bh rows a b || (decide (a=i) && (bh rows a k && bh rows k b))):=by grind [qa,bh,x4]
theorem AW {rows:List Nat} {k:Nat} (hk:k < rows.length):∀ e,e<=rows.length->∀ a b,bh (iK rows k e) a b=(bh (kH rows k) a b || (decide (a < e) && (bh (kH rows k) a k && bh (kH rows k) k b)))
 | 0,_,a,b=>by simp [iK]
 | e + 1,he,a,b=>by
  have ih:=AW hk e (by omega)
  grind [nd,Na,pz,bh,kH,pA]
inductive wb (p:Nat->Nat->Prop):Nat->Nat->Prop
 | refl (a:Nat):wb p a a
 | step {a b c:Nat}:wb p a b->p b c->wb p a c
theorem wb.trans {p:Nat->Nat->Prop} {a b c:Nat} (h1:wb p a b) (h2:wb p b c):wb p a c:=by
 induction h2 with
 | refl=>exact h1
 | step _ h ih=>exact .step ih h
theorem wb.mono {p q:Nat->Nat->Prop} (h:∀ a b,p a b->wb q a b) {a b:Nat} (h1:wb p a b):wb q a b:=by
 induction h1 with
 | refl=>exact .refl _
 | step _ h2 ih=>exact ih.trans (h _ _ h2)
def wayQ (p:Nat->Nat->Prop):Nat->Nat->Nat->Prop
 | 0,a,b=>a=b∨p a b
 | k + 1,a,b=>wayQ p k a b∨(wayQ p k a k/\wayQ p k k b)
theorem AX {p:Nat->Nat->Prop} (a:Nat):∀ k,wayQ p k a a
 | 0=>.inl rfl
 | k + 1=>.inl (AX a k)
theorem AY {p:Nat->Nat->Prop} {a b:Nat} (h:p a b):∀ k,wayQ p k a b
 | 0=>.inr h
 | k + 1=>.inl (AY h k)
theorem rR {p:Nat->Nat->Prop}:∀ k a b,wayQ p k a b->wb p a b
 | 0,a,b,h=>by
  rcases h with rfl | h
  ·exact .refl _
  ·exact .step (.refl _) h
 | k + 1,a,b,h=>by
  rcases h with h | ⟨h1,h2⟩
  ·exact rR k a b h
  ·exact (rR k a k h1).trans (rR k k b h2)
theorem nf {p:Nat->Nat->Prop}:∀ k a m b,m < k->wayQ p k a m->wayQ p k m b->wayQ p k a b
 | 0,_,_,_,h,_,_=>by omega
 | k + 1,a,m,b,hm,h1,h2=>by
  by_cases hmk:m=k
  ·grind [wayQ]
  ·have rq:m < k:=by omega
   rcases h1 with h1 | ⟨h1,h3⟩
   ·rcases h2 with h2 | ⟨h2,h4⟩
    ·exact .inl (nf k a m b rq h1 h2)
    ·exact .inr ⟨nf k a m k rq h1 h2,h4⟩
   ·rcases h2 with h2 | ⟨h2,h4⟩
    ·exact .inr ⟨h1,nf k k m b rq h3 h2⟩
    ·exact .inr ⟨h1,h4⟩
theorem x5 {rows:List Nat}:∀ k,k<=rows.length->∀ a b,a < rows.length->((bh (closeR rows k) a b=true∨a=b)↔wayQ (fun x y=>bh rows x y=true) k a b)/\(a < k->bh (closeR rows k) a a=true)
 | 0,_,a,b,_=>by grind [closeR,wayQ]
 | k + 1,hk,a,b,ha=>by
  have ih:=x5 (rows:=rows) k (by omega);have lf:k < (closeR rows k).length:=by rw [fN];omega
  have hb:∀ a b,a < rows.length->bh (closeR rows (k + 1)) a b=(bh (kH (closeR rows k) k) a b || (bh (kH (closeR rows k) k) a k && bh (kH (closeR rows k) k) k b)):=fun a b ha=>by grind [lm,AW,fN]
  have AZ:∀ a b,(bh (kH (closeR rows k) k) a b=true∨a=b)↔(bh (closeR rows k) a b=true∨a=b):=fun a b=>by grind [pA]
  have uK:bh (kH (closeR rows k) k) k k=true:=by rw [pA lf];simp
  have key:∀ a b,a < rows.length->((bh (closeR rows (k + 1)) a b=true∨a=b)↔wayQ (fun x y=>bh rows x y=true) (k + 1) a b):=fun a b ha=>by grind [wayQ]
  refine ⟨key a b ha,fun hak=>?_⟩;rw [hb a a ha];by_cases h:a=k
  ·subst h;rw [uK];all_goals rfl
  ·have:=(ih a a ha).2 (by omega);rw [pA lf,this];all_goals rfl
theorem IV {rows:List Nat} (hb:∀ a b,a < rows.length->bh rows a b=true->b < rows.length) {a b:Nat} (ha:a < rows.length) (hbl:b < rows.length):bh (closeR rows rows.length) a b=true↔wb (fun x y=>x < rows.length/\bh rows x y=true) a b:=by
 have hw:=x5 (rows:=rows) rows.length (aR _) a b ha;have h1:bh (closeR rows rows.length) a b=true↔wayQ (fun x y=>bh rows x y=true) rows.length a b:=by grind
 rw [h1];constructor
 ·intro h
  have aw:∀ {x},wb (fun x y=>bh rows x y=true) a x->wb (fun x y=>x < rows.length/\bh rows x y=true) a x/\x < rows.length:=by
   intro x hx
   induction hx with
   | refl=>exact ⟨.refl _,ha⟩
   | step _ h2 ih=>exact ⟨.step ih.1 ⟨ih.2,h2⟩,hb _ _ ih.2 h2⟩
  exact (aw (rR _ _ _ h)).1
 ·intro h
  have:wayQ (fun x y=>bh rows x y=true) rows.length a b/\b < rows.length:=by
   clear h1 hw hbl
   induction h with
   | refl=>exact ⟨AX _ _,ha⟩
   | step _ h2 ih=>exact ⟨nf _ _ _ _ ih.2 ih.1 (AY h2.2 _),hb _ _ h2.1 h2.2⟩
  exact this.1
theorem QW {rows:List Nat} {p:Nat × Nat} {a b:Nat} (hp:p.1 < rows.length):bh (xW rows p) a b=(bh rows a b || (decide (a=p.1) && decide (b=p.2))):=by
 unfold xW;rw [x4 hp];by_cases h:a=p.1
 ·subst h;rw [aj rfl,kF];simp only [decide_true,Bool.true_and];rw [show decide (p.2=b)=decide (b=p.2) from by simp only [eq_comm]];rfl
 ·rw [ai h];simp [h]
theorem A0:∀ (l:List (Nat × Nat)) (rows:List Nat) (a b:Nat),(∀ p∈l,p.1 < rows.length)->(bh (l.foldl xW rows) a b=true↔bh rows a b=true∨(a,b)∈l)
 | [],_,_,_,_=>by simp
 | p :: l,rows,a,b,h=>by
  rw [List.foldl_cons,A0 l _ a b (fun q hq=>by rw [rP];exact h q (by simp [hq])),QW (h p (by simp))]
  grind
theorem x6 {n:Nat} {l:List (Nat × Nat)} (h:∀ p∈l,p.1 < n) (a b:Nat):bh (fM n l) a b=true↔(a,b)∈l:=by grind [fM,A0,bh]
def fo (n:Nat) (l:List (Nat × Nat)) (a b:Nat):Bool:=bh (closeR (fM n l) n) a b
def tF (n:Nat) (l:List (Nat × Nat)):Prop:=∀ p∈l,p.1 < n/\p.2 < n
theorem oA {n:Nat} {l:List (Nat × Nat)} (h:tF n l) {a b:Nat} (ha:a < n) (hb:b < n):fo n l a b=true↔wb (fun x y=>(x,y)∈l) a b:=by
 have hlen:(fM n l).length=n:=kG n l;unfold fo
 have:=IV (rows:=fM n l) (fun a b _ QQ=>by
  rw [x6 (fun p hp=>(h p hp).1)] at QQ
  rw [hlen];exact (h _ QQ).2) (a:=a) (b:=b) (by omega) (by omega)
 rw [hlen] at this;rw [this];constructor
 ·exact wb.mono fun x y MG=>.step (.refl _) ((x6 (fun p hp=>(h p hp).1) x y).1 MG.2)
 ·exact wb.mono fun x y MG=>.step (.refl _) ⟨(h _ MG).1,(x6 (fun p hp=>(h p hp).1) x y).2 MG⟩
theorem tG {n:Nat} {l:List (Nat × Nat)} (h:tF n l) {a:Nat} (ha:a < n):fo n l a a=true:=(oA h ha ha).2 (.refl _)
theorem IW {n:Nat} {l:List (Nat × Nat)} (h:tF n l) {a b c:Nat} (ha:a < n) (hb:b < n) (hc:c < n) (h1:fo n l a b=true) (h2:fo n l b c=true):fo n l a c=true:=
 (oA h ha hc).2 (((oA h ha hb).1 h1).trans ((oA h hb hc).1 h2))
def lp (n:Nat) (f:Nat->Nat->Bool) (a:Nat):Bool:=(List.range n).any fun b=>decide (a≠b) && (f a b && f b a)
theorem QX {n:Nat} {l:List (Nat × Nat)} (hn:n<=64) (h:tF n l) {a:Nat} (ha:a < n):rQ (closeR (fM n l) n) a=lp n (fo n l) a:=by
 have hlen:(closeR (fM n l) n).length=n:=by rw [fN,kG]
 unfold rQ lp;rw [QU,hlen,Bool.eq_iff_iff,decide_eq_true_eq]
 have haa:(backN (closeR (fM n l) n) a n).testBit a=true:=by
  rw [tD];have:bh (closeR (fM n l) n) a a=true:=tG h ha;simp [ha,this]
 rw [FH _ a haa 64 (by omega)];simp only [List.any_eq_true,List.mem_range,aO,decide_eq_true_eq,tD];constructor
 ·rintro ⟨b,_,aY,hb,h1,h2⟩;exact ⟨b,hb,fun e=>aY e.symm,h1,h2⟩
 ·rintro ⟨b,hb,aY,h1,h2⟩;exact ⟨b,by omega,fun e=>aY e.symm,hb,h1,h2⟩
theorem CV {p q:Nat->Bool} {n:Nat} (h:∀ a,a < n->p a=q a):cm p n=cm q n:=by
 unfold cm
 have:∀ (l:List Nat),(∀ a∈l,p a=q a)->l.find? p=l.find? q:=by
  intro l
  induction l with
  | nil=>intro _;rfl
  | cons x r ih=>grind
 grind
theorem UD {n:Nat} {l:List (Nat × Nat)} (hn:n<=64) (h:tF n l):cm (rQ (closeR (fM n l) n)) n=cm (lp n (fo n l)) n:=
 CV fun _ ha=>QX hn h ha
def iL (r:List Bool) (p:Nat × Nat):List Bool:=if r.getD p.1 false then r.set p.2 true else r
def jr (l:List (Nat × Nat)) (r:List Bool):List Bool:=l.foldl iL r
def dt (l:List (Nat × Nat)) (r:List Bool) (k:Nat):List Bool:=(List.range k).foldl (fun r _=>jr l r) r
def vH (n:Nat) (l:List (Nat × Nat)) (a:Nat):List Bool:=dt l ((List.replicate n false).set a true) n
theorem fi (l:List (Nat × Nat)) (r:List Bool) (k:Nat):dt l r (k + 1)=jr l (dt l r k):=by simp [dt,List.range_succ]
theorem lX (r:List Bool) (p:Nat × Nat):(iL r p).length=r.length:=by unfold iL;split<;>simp
theorem qC (l:List (Nat × Nat)):∀ r,(jr l r).length=r.length:=by
 induction l with
 | nil=>intro r;rfl
 | cons p l ih=>intro r;simp only [jr,List.foldl_cons] at ih ⊢;rw [ih,lX]
theorem fO (l:List (Nat × Nat)) (r:List Bool):∀ k,(dt l r k).length=r.length
 | 0=>by simp [dt]
 | k + 1=>by rw [fi,qC,fO]
theorem rS (n:Nat) (l:List (Nat × Nat)) (a:Nat):(vH n l a).length=n:=by simp [vH,fO]
def UE (r s:List Bool):Prop:=∀ i:Nat,r.getD i false=true->s.getD i false=true
theorem kI {r:List Bool} {i j:Nat} (hi:i < r.length):(r.set i true).getD j false=(decide (j=i) || r.getD j false):=by grind
theorem FI {r:List Bool} {p:Nat × Nat} (hp:p.2 < r.length):UE r (iL r p):=by
 intro i hi
 grind [iL,kI]
theorem pB:∀ {l:List (Nat × Nat)} {r:List Bool},(∀ p∈l,p.2 < r.length)->UE r (jr l r)
 | [],r,_,i,hi=>hi
 | p :: l,r,h,i,hi=>by
  have:UE (iL r p) (jr l (iL r p)):=pB fun q hq=>by rw [lX];exact h q (by simp [hq])
  exact this i (FI (h p (by simp)) i hi)
def x7 (r:List Bool):Nat:=r.countP (fun x=>x)
theorem Lm (r:List Bool):x7 r<=r.length:=List.countP_le_length
theorem x8:∀ {r s:List Bool},r.length=s.length->UE r s->(r=s∨x7 r < x7 s)/\x7 r<=x7 s
 | [],[],_,_=>⟨.inl rfl,aR _⟩
 | x :: r,y :: s,hl,h=>by
  have xf:r.length=s.length:=sU hl;have ih:=x8 xf (fun i hi=>by simpa using h (i + 1) (sU hi));have h0:x=true->y=true:=fun hx=>by simpa using h 0 (sU hx)
  grind [x7]
 | [],_ :: _,h,_=>by simp at h
 | _ :: _,[],h,_=>by simp at h
theorem FJ {r s:List Bool} (hl:r.length=s.length) (h1:UE r s) (h2:UE s r):r=s:=by
 rcases (x8 hl h1).1 with h | h
 ·exact h
 ·have:=(x8 hl.symm h2).2;omega
theorem x9:∀ {l:List (Nat × Nat)} {r:List Bool},(∀ p∈l,p.2 < r.length)->jr l r=r->∀ p∈l,r.getD p.1 false=true->r.getD p.2 false=true
 | [],_,_,_,p,hp,_=>by cases hp
 | q :: l,r,h,he,p,hp,h1=>by
  have hq:=h q (by simp);have hl:∀ p∈l,p.2 < (iL r q).length:=fun p hp=>by rw [lX];exact h p (by simp [hp])
  have hs:iL r q=r:=by
   have h2:UE (iL r q) r:=by
    have:=pB hl
    grind [jr,iL]
   grind [FJ,lX,FI]
  rcases dB hp with rfl | hp
  ·grind [iL,kI]
  ·have Ih:jr l r=r:=by grind [jr,iL]
   exact x9 (fun p hp=>h p (by simp [hp])) Ih p hp h1
theorem uY {l:List (Nat × Nat)} {r:List Bool} (h:∀ p∈l,p.2 < r.length):∀ k,jr l (dt l r k)=dt l r k∨x7 r + k<=x7 (dt l r k)
 | 0=>.inr (by simp [dt])
 | k + 1=>by
  have hk:∀ p∈l,p.2 < (dt l r k).length:=fun p hp=>by rw [fO];exact h p hp
  rcases uY h k with h1 | h1
  ·left;rw [fi,h1,h1]
  ·rcases (x8 (qC l _).symm (pB hk)).1 with h2 | h2
   ·left;rw [fi,<- h2,<- h2]
   ·right;rw [fi];omega
theorem Nb {l:List (Nat × Nat)} {a:Nat} {r:List Bool} {p:Nat × Nat} (hp:p∈l) (hl:p.2 < r.length) (h:∀ i,r.getD i false=true->wb (fun x y=>(x,y)∈l) a i):∀ i,(iL r p).getD i false=true->wb (fun x y=>(x,y)∈l) a i:=by
 intro i hi;unfold iL at hi;split at hi
 ·rename_i h1;rw [kI hl] at hi;simp only [Bool.or_eq_true,decide_eq_true_eq] at hi;rcases hi with rfl | hi
  ·exact .step (h _ h1) hp
  ·exact h i hi
 ·exact h i hi
theorem ya {l:List (Nat × Nat)} {a:Nat}:∀ (m:List (Nat × Nat)) {r:List Bool},(∀ p∈m,p∈l/\p.2 < r.length)->(∀ i,r.getD i false=true->wb (fun x y=>(x,y)∈l) a i)->∀ i,(jr m r).getD i false=true->wb (fun x y=>(x,y)∈l) a i
 | [],_,_,h=>h
 | p :: m,r,hm,h=>ya m (r:=iL r p) (fun q hq=>by rw [lX];exact hm q (by simp [hq])) (Nb (hm p (by simp)).1 (hm p (by simp)).2 h)
theorem uZ {l:List (Nat × Nat)} {a:Nat} {r:List Bool} (hl:∀ p∈l,p.2 < r.length) (h:∀ i,r.getD i false=true->wb (fun x y=>(x,y)∈l) a i):∀ k i,(dt l r k).getD i false=true->wb (fun x y=>(x,y)∈l) a i
 | 0=>by simpa [dt] using h
 | k + 1=>by
  rw [fi];exact ya l (fun p hp=>⟨hp,by rw [fO];exact hl p hp⟩) (uZ hl h k)
theorem yb {l:List (Nat × Nat)} {r:List Bool} (hl:∀ p∈l,p.2 < r.length):∀ k,UE r (dt l r k)
 | 0=>by intro i hi;simpa [dt] using hi
 | k + 1=>fun i hi=>by
  rw [fi];exact pB (fun p hp=>by rw [fO];exact hl p hp) i (yb hl k i hi)
theorem QY {n a:Nat} (ha:a < n):1<=x7 ((List.replicate n false).set a true):=by grind [x7]
theorem QZ {n:Nat} {l:List (Nat × Nat)} (h:tF n l) {a b:Nat} (ha:a < n) (hb:b < n):(vH n l a).getD b false=fo n l a b:=by
 have hl:∀ p∈l,p.2 < ((List.replicate n false).set a true).length:=fun p hp=>by simp;exact (h p hp).2
 have v7:a < (List.replicate n false).length:=by simp [ha]
 rw [Bool.eq_iff_iff,oA h ha hb];constructor
 ·refine uZ hl (fun i hi=>?_) n b;rw [kI v7] at hi;simp only [Bool.or_eq_true,decide_eq_true_eq] at hi;rcases hi with rfl | hi
  ·exact .refl _
  all_goals grind
 ·have hfix:jr l (vH n l a)=vH n l a:=by
   rcases uY hl n with h1 | h1
   ·exact h1
   ·grind [Lm,dt,fO,QY]
  have gQ:=x9 (fun p hp=>by rw [rS];exact (h p hp).2) hfix;intro hr;have haa:(vH n l a).getD a false=true:=yb hl n a (by rw [kI v7];simp);clear hb
  induction hr with
  | refl=>exact haa
  | step _ h2 ih=>exact gQ _ h2 ih
def eB (n:Nat) (f:Nat->Nat->Bool):List (List Bool):=(List.range n).map fun a=>(List.range n).map (f a)
theorem UF {n:Nat} {l:List (Nat × Nat)} (h:tF n l) {a:Nat} (ha:a < n):vH n l a=(List.range n).map (fo n l a):=by
 refine List.ext_getElem? fun i=>?_;by_cases hi:i < n
 ·have:=QZ h ha hi
  grind [rS]
 ·grind [rS]
theorem FK {n:Nat} {f:Nat->Nat->Bool} {a:Nat} (ha:a < n):(eB n f)[a]? = some ((List.range n).map (f a)):=by
 simp [eB,List.getElem?_range ha]
theorem Nc {l:List Wd} {i:Nat} {x:Wd} (h:l[i]? = some x):aC (l.take (i + 1))=aC (l.take i) ++ [x.s]:=by
 rw [List.take_add_one,h];simp [aC]
theorem UG (l:List Wd) (s:ByteArray):cY l s=true↔s∈aC l:=by grind [cY,aC]
theorem ng {l:List Wd} {i:Nat} {x:Wd} (h:l[i]? = some x) (hn:(aC (l.take i)).Nodup):(aC (l.take (i + 1))).Nodup↔cY (l.take i) x.s=false:=by grind [Nc,cY,UG]
theorem A1 {l:List Wd} {i:Nat} {x:Wd} (a:Int) (h:l[i]? = some x) (hn:(aC (l.take i)).Nodup) :
  iG (aC (l.take (i + 1))) x.s a=if aK l i x≠0 then (aK l i x,a) else (0,0):=by
 have hs:=ng h hn;unfold iG aK;by_cases h1:aZ x.s=true
 ·grind
 ·rw [ai h1,ai h1];all_goals rfl
theorem nh {l:List Wd} {i:Nat} {x:Wd} (h:l[i]? = some x) (hn:(aC (l.take i)).Nodup) (hz:aK l i x=0):(aC (l.take (i + 1))).Nodup:=by grind [ng,aK,aZ,cY]
theorem A2 (l:List Wd):∀ (d e:Nat),e + d=l.length->(enumP l e)=(0,0)->(aC (l.take e)).Nodup->enumP l l.length=enumL l e (l.drop e)
 | 0,e,hd,hz,hn=>by
  have:e=l.length:=by omega
  subst this;rw [hz,List.drop_length];all_goals rfl
 | d + 1,e,hd,hz,hn=>by
  obtain ⟨x,hx⟩:∃ x,l[e]? = some x:=⟨_,gE (by omega)⟩;have h1:=xP (by rw [hz]) hx;rw [A1 x.a hx hn] at h1;rw [drop_cons hx];simp only [enumL];by_cases hf:aK l e x≠0
  ·rw [aj hf] at h1 ⊢;have bd:=qA (l:=l) (e:=e + 1) (by rw [h1];exact hf) d
   grind
  ·rw [ai hf] at h1 ⊢;exact A2 l d (e + 1) (by omega) h1 (nh hx hn (sU hf))
theorem Q0 (h:Hd):ou h=jl h:=by
 unfold ou jl;by_cases h0:h.af=[]
 ·rw [aj h0,aj (by simp [h0])]
 ·rw [ai h0,ai (sU h0)];by_cases h1:64 < h.af.length
  ·rw [aj h1,aj h1]
  ·rw [ai h1,ai h1];have:=A2 h.af h.af.length 0 (by omega) rfl (by simp [aC]);simpa using this
def qD (p:Ph):Ph:=⟨p.name,true,[],0,0,0,0,[]⟩
theorem UH (p:Ph) (t:Ty):dD p t (qD p) de=(cV p jV && sameTy t de):=by grind [cV,qD,jV,dD]
theorem empty_eq (p:Ph):dD p de fJ de=(decide (p.name.s=av) && cV p fJ):=by
 have e:sameTy de de=true:=by simp [de,Qc,sameTy,lC,samePts,sameWds]
 simp only [dD,e,Bool.and_true];rfl
def dx (L:List ByteArray) (s:ByteArray):Option Nat:=cm (fun i=>decide (L[i]? = some s)) L.length
theorem dE {L:List ByteArray} {s:ByteArray} {p:Nat} (h:dx L s=some p):p < L.length/\L[p]? = some s/\∀ j,L[j]? = some s->p<=j:=by
 obtain ⟨h1,h2,h3⟩:=eV h
 grind
theorem CW {L:List ByteArray} {s:ByteArray} {p:Nat} (h1:L[p]? = some s) (h2:∀ j,L[j]? = some s->p<=j):dx L s=some p:=by
 refine dc (gS h1).1 (sU h1) fun a ha=>?_
 grind
theorem tH {L:List ByteArray} {s:ByteArray} (h:∀ j:Nat,L[j]? ≠ some s):dx L s=none:=dO fun a _=>by simpa using h a
theorem Ab {L:List ByteArray} {s:ByteArray}:dx L s=none↔s ∉ L:=by
 constructor
 ·intro h hm;obtain ⟨j,hj⟩:=List.mem_iff_getElem?.1 hm
  grind [dx,cm]
 ·grind [tH]
theorem jt (L:List ByteArray) (aJ:List Nat) (s:ByteArray) (hT:iT L aJ) (hl:aJ.length<=1099511627776) :
  EvP prog 115 [.pt (dr L aJ) 0,.v (.string s)] (QV (dx L s)):=by
 by_cases hm:s∈L
 ·obtain ⟨j,hj⟩:=List.mem_iff_getElem?.1 hm;obtain ⟨q,p,hq,hp⟩:=hT.all j s hj;rw [CW hp fun j' j1=>hT.fst q p j' s hq hp j1];exact find_spec L aJ s q p hT hl hq hp
 rw [tH fun j hj=>hm (mG hj)]
 let pr:Nat->Prop:=fun i=>i=aJ.length∨∃ p t,aJ[i]? = some p/\L[p]? = some t/\CD t s=false
 obtain ⟨m,jT,Cj⟩:=least (p:=pr) ⟨aJ.length,.inl rfl⟩;have hmn:m<=aJ.length:=Cj _ (.inl rfl);refine eG 47 [.tmp 4,.tmp 5] func115 rfl ntmps115 rfl fun _ _ _ _=>?_
 have gQ:∀ i:Nat,i < aJ.length->EvP prog 201 [.v (.int .i64 i),.pt [.pt (dr L aJ) 0] 0,.pt [.v (.string s)] 0] (.v (.bool (decide (m<=i)))):=by
  intro i hi;obtain ⟨p',z7⟩:∃ p',aJ[i]? = some p':=⟨_,gE hi⟩;obtain ⟨t,ht⟩:∃ t,L[p']? = some t:=⟨_,gE (hT.lt i p' z7)⟩;have:=xD L aJ s i p' t z7 ht
  have e:(!CD t s)=decide (m<=i):=by
   by_cases h:m<=i
   ·have:CD t s=false:=by
     rcases jT with jT | ⟨p,u,h1,h2,h3⟩
     ·omega
     ·rcases Nat.lt_or_eq_of_le h with h4 | h4
      ·have h5:=hT.srt m i p p' u t h4 h1 z7 h2 ht;cases h6:CD t s
       ·rfl
       ·grind [gU,CD]
      ·grind
    simp [this,h]
   ·grind
  rw [e] at this;exact this
 have hS:=uP 201 Wx [.pt [.pt (dr L aJ) 0] 0,.pt [.v (.string s)] 0] aJ.length m hl hmn ax rfl gQ;refine Cy Ww hS (rA (bN aJ)) rfl ?_;refine dI ?_;refine br ?_ ?_<;>intro h
 ·have aw:m < aJ.length:=by grind [dInts,bN]
  rcases jT with jT | ⟨p,t,h1,h2,h3⟩
  ·omega
  refine iX (eJ h1) ?_;refine iX (gd h2) ?_;refine br ?_ ?_<;>intro h4
  ·exact ⟨_,ax,rfl⟩
  ·grind [au]
 ·exact ⟨_,ax,rfl⟩
def gG (l:List Wd) (o:List (Wd × Wd)):Ft:=
 if l=[] then (15,0)
 else if 32 < l.length then (8,((l[32]?).getD (⟨av,0⟩:Wd)).a)
 else if 256 < o.length then (8,((o[256]?).getD ((⟨av,0⟩,⟨av,0⟩):Wd × Wd)).1.a)
 else (0,0)
theorem Nf (l:List Wd) (o:List (Wd × Wd)):EvP prog 103 [.sl 2 (bV l) none,.sl 4 (nP o) none] (gG l o).d:=by
 refine eG 30 [.cell 4 44] func103 rfl ntmps103 rfl fun _ _ _ _=>?_;refine br ?_ ?_<;>intro h
 ·have h:l=[]:=by simpa [aE] using h
  refine ⟨_,?_,rfl⟩;rw [gG,aj h];exact ax
 have h:¬ l=[]:=by simpa [aE] using h
 refine br ?_ ?_<;>intro h1
 ·have h1:32 < l.length:=by simp [aE] at h1;omega
  obtain ⟨x,hx⟩:∃ x,l[32]? = some x:=⟨_,gE h1⟩;refine ⟨kD x,⟨by omega,bg hx⟩,?_⟩;refine ⟨_,?_,rfl⟩;rw [gG,ai h,aj h1,hx];exact ax
 have h1:¬ 32 < l.length:=by simp [aE] at h1;omega
 refine br ?_ ?_<;>intro h2
 ·have h2:256 < o.length:=by simp [gF] at h2;omega
  obtain ⟨x,hx⟩:∃ x,o[256]? = some x:=⟨_,gE h2⟩;refine ⟨OX x,⟨by omega,iI hx⟩,?_⟩;refine ⟨_,?_,rfl⟩;rw [gG,ai h,ai h1,aj h2,hx];exact ax
 have h2:¬ 256 < o.length:=by simp [gF] at h2;omega
 refine ⟨_,?_,rfl⟩;rw [gG,ai h,ai h1,ai h2];exact ax
def adm (f:Ft) (L:List ByteArray):DV:=.tup [if f.1=0 then .sl 1 (fq L) none else .v (.slice none 0 0),f.d]
abbrev WZ (l:List Wd) (n e:Nat):St:=
 ⟨[aF 3 0,(4,⟨[],.sl 1 (fq (aC (l.take e))) (some 0)⟩),bi 7 2 (bV l),ay 8 ((bV l).length),ay 9 e],[[.v (.int .i64 0),.v (.int .i64 0)]],[⟨n,9,1,none⟩]⟩
theorem qE {all:List Wd} {e:Nat} {w:Wd} (h:all[e]? = some w):enumL all e (all.drop e)=if aK all e w≠0 then (aK all e w,w.a) else enumL all (e + 1) (all.drop (e + 1)):=by
 rw [drop_cons h,enumL]
theorem FL (l:List Wd) (hs:wdsWt l<=1099511627776):EvP prog 104 [.sl 2 (bV l) none] (adm (enumL l 0 l) (aC l)):=by
 have nW:=bM l;refine eG 36 [.tmp 2,.cell 3 44] func104 rfl ntmps104 rfl fun _ _ _ _=>?_;refine lI (fun j st=>∃ e:Nat,st=WZ l e e/\e<=l.length/\(aC (l.take e)).Nodup/\enumL l 0 l=enumL l e (l.drop e)/\j=l.length - e) ⟨0,rfl,by omega,by simp [aC],rfl,rfl⟩ (fF ⟨0,9,1,none⟩ rfl ⟨_,rfl⟩ rfl wA rfl rfl j8) ?_;rintro j st ⟨e,rfl,he,hnd,aP,rfl⟩;rw [aP];refine br ?_ ?_<;>intro hL
 ·have aw:e < l.length:=by simpa [aE] using hL
  obtain ⟨w,hw⟩:=gX aw;have OW:=ji (mG hw);have eK:=kb hw;have bd:=qE hw;have vE:=ng hw hnd;have Q1:=qz (aC (l.take (e + 1))) (by simp [aC];omega);rw [<- eK] at Q1;refine ⟨kD w,⟨by omega,bg hw⟩,?_⟩;refine ⟨by simp [cH,aC];omega,⟨by simp [cH,aC,maxLen];omega,by simp [cH,aC];omega⟩,?_⟩;refine cP xx (jk w.s (by omega)) ?_;refine br ?_ ?_<;>intro hN
  ·have hN:aZ w.s=false:=sU hN;have hf:aK l e w=9:=by simp [aK,hN]
   rw [bd,hf,aj (by decide)];refine dS ?_;exact ⟨_,ax,rfl⟩
  ·have hN:aZ w.s=true:=sU hN;refine cE PI rfl Q1 ax (fun r hr=>?_);obtain ⟨z,rfl,hz⟩:=hr;refine br ?_ ?_<;>intro h2
   ·have h2:0<=z:=sU h2;have hd:cY (l.take e) w.s=true:=by grind
    have hf:aK l e w=10:=by simp [aK,hN,hd]
    rw [bd,hf,aj (by decide)];refine dS ?_;exact ⟨_,ax,rfl⟩
   ·have h2:¬ 0<=z:=sU h2;have z8:(aC (l.take (e + 1))).Nodup:=Classical.byContradiction fun hn=>h2 (hz.2 hn);have hf:aK l e w=0:=by simp [aK,hN,vE.1 z8]
    rw [hf,ai (by simp)] at bd;refine ⟨WZ l (e + 1) (e + 1),(bG (gC (aX aw (by omega)) eK)),l.length - (e + 1),by omega,e + 1,rfl,by omega,z8,bd,rfl⟩
 ·have hge:e=l.length:=by
   have:=hL;simp [aE] at this;omega
  have h0:enumL l e (l.drop e)=(0,0):=by rw [hge,List.drop_length];all_goals rfl
  rw [h0];have ht:l.take e=l:=by rw [hge,List.take_length]
  rw [ht];exact ⟨_,ax,rfl⟩
def numF (L:List ByteArray):List (Wd × Wd)->Ft
 | []=>(0,0)
 | p :: r=>if dx L p.1.s=none then (17,p.1.a) else if dx L p.2.s=none then (17,p.2.a) else numF L r
def YT (L:List ByteArray) (p:Wd × Wd):Nat × Nat:=((dx L p.1.s).getD 0,(dx L p.2.s).getD 0)
def dN (L:List ByteArray) (o:List (Wd × Wd)):List (Nat × Nat):=o.map (YT L)
def adn (f:Ft) (l:List (Nat × Nat)):DV:=.tup [if f.1=0 then .sl 2 (nb l) none else .v (.slice none 0 0),f.d]
theorem A3 {L:List ByteArray} {o:List (Wd × Wd)} {e a b:Nat} {x:Wd × Wd} (h:o[e]? = some x) (ha:dx L x.1.s=some a) (hb:dx L x.2.s=some b):nb (dN L (o.take e)) ++ [[DV.v (.int .i64 (a:Int)),DV.v (.int .i64 (b:Int))]]=nb (dN L (o.take (e + 1))):=by
 rw [List.take_add_one,h];simp [nb,dN,YT,ha,hb,dNP]
abbrev W0 (L:List ByteArray) (aJ:List Nat) (o:List (Wd × Wd)) (n e:Nat):St:=
 ⟨[iQ 0 (dr L aJ),aF 5 0,(6,⟨[],.sl 2 (nb (dN L (o.take e))) (some 0)⟩),bi 12 4 (nP o),ay 13 ((nP o).length),ay 14 e],[[.v (.int .i64 0),.v (.int .i64 0)]],[⟨n,291,2,none⟩]⟩
theorem Ac (L:List ByteArray) (aJ:List Nat) (hT:iT L aJ) (hl:aJ.length<=1099511627776) (o:List (Wd × Wd)) (hs:prsWt o<=1099511627776) :
  EvP prog 106 [.pt (dr L aJ) 0,.sl 4 (nP o) none] (adn (numF L o) (dN L o)):=by
 have nW:=jo o;refine eG 55 [.tmp 4,.cell 5 44] func106 rfl ntmps106 rfl fun _ _ _ _=>?_;refine lI (fun j st=>∃ e:Nat,st=W0 L aJ o e e/\e<=o.length/\numF L o=numF L (o.drop e)/\j=o.length - e) ⟨0,rfl,by omega,rfl,rfl⟩ (fF ⟨0,291,2,none⟩ rfl ⟨_,rfl⟩ rfl wA rfl rfl j8) ?_;rintro j st ⟨e,rfl,he,aP,rfl⟩;rw [aP];refine br ?_ ?_<;>intro hL
 ·have aw:e < o.length:=by simpa [gF] using hL
  obtain ⟨w,hw⟩:=gX aw;have bd:numF L (o.drop e)=if dx L w.1.s=none then (17,w.1.a) else if dx L w.2.s=none then (17,w.2.a) else numF L (o.drop (e + 1)):=by rw [drop_cons hw,numF]
  have uW:=jt L aJ w.1.s hT hl;have sJ:=jt L aJ w.2.s hT hl;refine ⟨OX w,⟨by omega,iI hw⟩,?_⟩
  cases ha:dx L w.1.s with
  | none=>
   rw [ha] at uW;refine cP oh uW ?_;rw [bd,aj ha];refine dS ?_;exact ⟨_,ax,rfl⟩
  | some a=>
   rw [ha] at uW;refine cP oh uW ?_
   cases hb:dx L w.2.s with
   | none=>
    rw [hb] at sJ;refine cP oh sJ ?_;rw [bd,ai (by rw [ha];simp),aj hb];refine dS ?_;exact ⟨_,ax,rfl⟩
   | some b=>
    rw [hb] at sJ;refine cP oh sJ ?_;rw [ai (by rw [ha];simp),ai (by rw [hb];simp)] at bd;refine ⟨by simp [iJ,dN];omega,⟨by simp [iJ,dN,maxLen];omega,by simp [iJ,dN];omega⟩,?_⟩;refine ⟨W0 L aJ o (e + 1) (e + 1),(bG (gC (aX aw (by omega)) (A3 hw ha hb))),o.length - (e + 1),by omega,e + 1,rfl,by omega,bd,rfl⟩
 ·have hge:e=o.length:=by
   have:=hL;simp [gF] at this;omega
  have h0:numF L (o.drop e)=(0,0):=by rw [hge,List.drop_length];all_goals rfl
  rw [h0];have ht:o.take e=o:=by rw [hge,List.take_length]
  rw [ht];exact ⟨_,ax,rfl⟩
end Go.Proofs.YtgjagnmeonoehaaGreat
