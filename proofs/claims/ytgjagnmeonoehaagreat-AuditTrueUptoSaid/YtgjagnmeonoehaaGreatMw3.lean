/- Part 3 of the proof: names.New: the table; names.Twice: does a text stand earlier, too?; Contracts: the reference's words, Plain, Same, Zero, own; Contracts: the reference's Same, Zero, own; Contracts: the reference's Label, listed, names, Size, with, coarse; What is wrong with a type: the plain function; the reference's Wrong and parts return it; The program's checks of types: bad, listed, label, words; The program's checks of types: label, coarse; The program's comparing of names and types; The program's Same; The program's own, empty; The program's empty, enum; kinds.Right, once the checker's check is known; Numbers in tens: the reference's Put; Numbers in tens: the program's Put; The text of a type, plain; the reference's Label and comma; The reference's text of a type: Label, comma, part, Type; The reference's text of a part; The reference's text of a type; The library's strings.Join, laid at this program by the kit's tool (lay-plain; wip/tools/lay.sh); The program's text of a label, of what stands behind a part's type, of lists; The program's text of a type: field, tag, kind; unparse.Type, once the checker's check is known; A type with which nothing is wrong is fine for its text; Readable data as data of the evaluator: what the statement's form reads of an argument is a datum of the evaluator, of the argument's type, no heavier than what was read; What is read of a type, as the plain data; From a contract over data to what a law's statement asks: the arguments are read, the call returns true, all that was there stays; What all laws' frames share: the bulk, the program's closed facts; Types without places: plain, and the program's kinds.Strip; Schemas: plain, as the evaluator has them, without places; What is read of a schema, as the plain data; What the frames of laws over schemas share; The program's closed facts, each by itself (all at once they ask more memory than a Lean process has); Relations as rows of bits: plain, and rel's functions that read; rel.back: who leads to a thing and is led to by it; rel.New: the rows of a list of pairs; rel.Close: the closure, by rows; The number of bits that are set, as the library reckons it; math/bits.OnesCount64; When two bits are set; rel.Loop: the least thing in a loop; The plain law of closeR: its bits are what is led to; The program's and the reference's check of names that must differ; The table's Find, whole; lattice.many, called, numbered. No condition. -/
import Derived.Laws.StructEq
import Derived.Shelf.Strings.OnBuilder
import Derived.Deep.Slices
import Derived.ChangeArms
import Derived.DataReads
import Derived.WalkKit
import Derived.ProofKit
import Derived.OpenShut
import Derived.Carry
import Derived.JoinedCond
import Derived.Test.YtgjagnmeonoehaaGreatRows
import Derived.Test.YtgjagnmeonoehaaGreatMw2
set_option linter.all false
set_option maxRecDepth 100000
namespace Go.Proofs.YtgjagnmeonoehaaGreat
open Go Go.RowKit Dv Go.Proofs.Tryz
theorem AM {n m:Nat} {tk:List TkE}:∀ ds:List Nat,WeL n m tk (dInts ds).flatten (dInts ds).flatten
 | []=>rfl
 | b :: r=>⟨_,_,rfl,aA rfl,AM r⟩
theorem rS {n m:Nat} {tk:List TkE} {l:List DV} {ds:List Nat} (h:l=(dInts ds).flatten):WeL n m tk l (dInts ds).flatten:=by rw [h];exact AM ds
def iV (n e:Nat):List Nat:=List.range e ++ List.replicate (n - e) 0
theorem MB {n e:Nat} (h:e<=n):(iV n e).length=n:=by simp [iV];omega
theorem fillA_0 (n:Nat):(List.replicate n [DV.v (.int .i64 0)]).flatten=(dInts (iV n 0)).flatten:=by simp [iV,dInts]
theorem TI (n:Nat):iV n n=List.range n:=by simp [iV]
theorem pA (ds:List Nat):(dInts ds).flatten=ds.map fun (i:Nat)=>DV.v (.int .i64 (i:Int)):=by
 induction ds with
 | nil=>rfl
 | cons x r ih=>simp only [dInts,List.map_cons,List.flatten_cons] at ih ⊢;rw [ih];all_goals rfl
theorem Ii {n e:Nat} (h:e < n):(dInts (iV n e)).flatten.take e ++ [DV.v (.int .i64 (e:Int))] ++ (dInts (iV n e)).flatten.drop (e + 1)=(dInts (iV n (e + 1))).flatten:=by
 simp only [pA,<- List.map_take,<- List.map_drop];have e1:(iV n e).take e=List.range e:=by simp [iV]
 have e2:(iV n e).drop (e + 1)=List.replicate (n - (e + 1)) 0:=by
  simp only [iV,List.drop_append,List.length_range];rw [List.drop_eq_nil_of_le (by simp),List.nil_append,List.drop_replicate];congr 1;omega
 rw [e1,e2];simp [iV,List.range_succ]
abbrev PL (L:List ByteArray) (e:Nat):St:=
 ⟨[aE 3 1,aE 4 3,au 16 ((fF L).length),au 17 e],
  [[.sl 1 (fF L) (some 0),.v (.slice none 0 0)],[.loc 0 0],(dInts (iV (fF L).length e)).flatten,[.ms 2 1 0 (fF L).length (fF L).length]],[⟨(fF L).length,9,1,none⟩]⟩
def iA (L:List ByteArray) (ds:List Nat) (i:Nat):Bool:=decide (i=0) || !decide (L.getD (ds.getD i 0) ay=L.getD (ds.getD (i - 1) 0) ay)
def fY (L:List ByteArray) (ds:List Nat) (e:Nat):List Nat:=((List.range e).filter (iA L ds)).map fun i=>ds.getD i 0
theorem xP (L:List ByteArray) (ds:List Nat) (e:Nat):fY L ds (e + 1)=fY L ds e ++ (if iA L ds e=true then [ds.getD e 0] else []):=by
 unfold fY;rw [List.range_succ,List.filter_append,List.map_append];congr 1;cases h:iA L ds e<;>simp [h]
theorem MC (L:List ByteArray) (ds:List Nat) (e:Nat):(fY L ds e).length<=e:=by grind [fY]
abbrev Yf (L:List ByteArray) (ds:List Nat):St:=
 ⟨[aE 3 1,eX 4 [.sl 1 (dInts ds) none],aM 29 1 (dInts ds),au 30 ((fF L).length),au 31 0],
  [[.sl 1 (fF L) (some 0),.v (.slice none 0 0)],[.loc 0 0]],[⟨(fF L).length,9,1,none⟩]⟩
abbrev Fa (L:List ByteArray) (ds aJ:List Nat) (m e:Nat):St:=
 ⟨[aE 3 1,eX 4 [.sl 1 (dInts ds) none],aM 29 1 (dInts ds),au 30 ((fF L).length),au 31 e],
  [[.sl 1 (fF L) (some 0),.sl 1 (dInts aJ) (some 1)],[.loc 0 0]],[⟨(fF L).length,9,1,none⟩,⟨m,3,1,none⟩]⟩
theorem getD_some {α:Type} {l:List α} {i:Nat} {x d:α} (h:l[i]? = some x):l.getD i d=x:=by simp [bN,h]
theorem tM {α:Type} {l:List α} {i:Nat} {d:α} (h:i < l.length):l[i]? = some (l.getD i d):=by grind
theorem Yg {L:List ByteArray} {ds:List Nat} (qw:ds.Perm (List.range L.length)) (PI:∀ i j p q:Nat,i < j->ds[i]? = some p->ds[j]? = some q->E6 L q p=false):iU L (fY L ds L.length):=by
 have hlen:ds.length=L.length:=by rw [qw.length_eq,List.length_range]
 let D:Nat->Nat:=fun i=>ds.getD i 0
 let T:Nat->ByteArray:=fun i=>L.getD (D i) ay
 have hD:∀ i,i < L.length->ds[i]? = some (D i):=fun i hi=>tM (by omega)
 have hDn:∀ i,i < L.length->D i < L.length:=fun i hi=>by
  have:=qw.mem_iff.1 (mG (hD i hi));exact List.mem_range.1 this
 have hT:∀ i,i < L.length->L[D i]? = some (T i):=fun i hi=>tM (hDn i hi);have fb:∀ i j,i < j->j < L.length->T i=T j∨Cy (T i) (T j)=true:=by grind [E6,KS]
 have acq:∀ i,i < L.length->iA L ds i=true->∀ j,j < i->Cy (T j) (T i)=true:=by
  intro i hi hh j Te;have bA:T i≠T (i - 1):=by grind [iA]
  grind [Cy,gU]
 have Az:∀ j,j < L.length->∃ k,k < L.length/\D k=j:=by
  intro j hj;have:=qw.mem_iff.2 (List.mem_range.2 hj);obtain ⟨k,hk⟩:=List.getElem?_of_mem this
  grind
 let H:=(List.range L.length).filter (iA L ds)
 have hH:∀ (a i:Nat),H[a]? = some i->i < L.length/\iA L ds i=true:=fun a i h=>by
  have:=mG h
  grind
 have MD:∀ (a p:Nat),(fY L ds L.length)[a]? = some p->∃ i,H[a]? = some i/\D i=p:=by grind [fY,iA]
 have hinc:∀ (a b i k:Nat),a < b->H[a]? = some i->H[b]? = some k->i < k:=by
  intro a b i k Ig hi hk;have hp:List.Pairwise (·< ·) H:=List.Pairwise.filter _ List.pairwise_lt_range;obtain ⟨ha,rfl⟩:=List.getElem?_eq_some_iff.1 hi;obtain ⟨hb,rfl⟩:=List.getElem?_eq_some_iff.1 hk;exact List.pairwise_iff_getElem.1 hp a b ha hb Ig
 refine ⟨?_,?_,?_,?_⟩
 ·intro a p h;obtain ⟨i,hi,rfl⟩:=MD a p h;exact hDn i (hH a i hi).1
 ·intro a b p q s t Ig hp hq hs ht;obtain ⟨i,hi,rfl⟩:=MD a p hp;obtain ⟨k,hk,rfl⟩:=MD b q hq;rw [hT i (hH a i hi).1] at hs;rw [hT k (hH b k hk).1] at ht
  grind
 ·intro a p j s hp hs hj;obtain ⟨i,hi,rfl⟩:=MD a p hp;obtain ⟨zZ,HB⟩:=hH a i hi;obtain ⟨k,hk,rfl⟩:=Az j (gS hj).1;rw [hT i zZ] at hs;rw [hT k hk] at hj;simp only [oI] at hs hj;rcases Nat.lt_trichotomy k i with h | h | h
  ·have:=acq i zZ HB k h;rw [hs,hj,Cy,lQ] at this;cases this
  ·rw [h];exact aV _
  ·have h2:=PI i k (D i) (D k) h (hD i zZ) (hD k hk)
   grind [E6,ay]
 ·intro j s hj;obtain ⟨k,hk,rfl⟩:=Az j (gS hj).1;rw [hT k hk] at hj;simp only [oI] at hj;obtain ⟨i,⟨zZ,his⟩,hmin⟩:=least (p:=fun i=>i < L.length/\T i=s) ⟨k,hk,hj⟩;have HB:iA L ds i=true:=by grind [iA,ay]
  have hm:i∈H:=by simp only [H,List.mem_filter,List.mem_range];exact ⟨zZ,HB⟩
  obtain ⟨a,ha⟩:=List.getElem?_of_mem hm;refine ⟨a,D i,?_,by rw [hT i zZ,his]⟩;unfold fY
  grind
theorem xQ (L:List ByteArray) (hl:L.length<=1099511627776) :
  Ev prog 105 [.sl 1 (fF L) none] [] [] (fun r _ _=>∃ aJ,iU L aJ/\aJ.length<=L.length/\r = .pt (dt L aJ) 0):=by
 have hN:=cG L;refine eG 71 [.tmp 2] func105 rfl ntmps105 rfl fun _ _ _ _=>?_;refine ⟨⟨by simp [hN,maxLen];omega,by simp [hN];omega⟩,?_⟩;refine ⟨⟨rfl,by omega,by omega,by omega⟩,?_⟩;refine lJ (fun e=>PL L e) L.length (bZ 4 (by repeat' (first | exact rfl | exact aA rfl | exact rS (fillA_0 _) | refine ⟨_,_,rfl,?_,?_⟩)) (by repeat' (first | exact trivial | exact aA rfl | exact rS (fillA_0 _) | refine ⟨⟨_,rfl,?_⟩,?_⟩))) ?_;intro e he;refine br ?_ ?_<;>intro h
 ·have aq:e < (fF L).length:=sU h;refine ⟨⟨by omega,by omega⟩,?_⟩;have e1:(dInts (iV (fF L).length e)).flatten.length=(fF L).length:=by rw [pA,List.length_map,MB (by omega)]
  refine ⟨by rw [e1];omega,?_⟩
  have hcs:(dInts (iV (fF L).length e)).flatten.set (0 + (e:Int).toNat * 1) (DV.v (.int .i64 (e:Int)))=(dInts (iV (fF L).length (e + 1))).flatten:=by
   rw [show 0 + (e:Int).toNat * 1=e by omega,List.set_eq_take_append_cons_drop,ap (by rw [e1];omega),<- Ii aq];simp
  refine ⟨PL L (e + 1),(bZ 4 (by repeat' (first | exact rfl | exact aA rfl | exact rS hcs | exact aC (aG aq (by omega)) | refine ⟨_,_,rfl,?_,?_⟩)) (by repeat' (first | exact trivial | exact aA rfl | exact rS hcs | exact aC (aG aq (by omega)) | refine ⟨⟨_,rfl,?_⟩,?_⟩))),L.length - (e + 1),by omega,e + 1,rfl,by omega,rfl⟩
 ·have hge:e=(fF L).length:=by grind
  subst hge;rw [TI]
  have hms:∀ dk:List Nat,dk.length=(List.range (fF L).length).length->∀ bx:List (List DV),bx[2]? = some (dInts dk).flatten->∀ N0 n0 m0:Nat,N0<=2->Cc bx N0 n0 m0 (.sl 1 (dInts dk) none) (.ms 2 1 0 (fF L).length (fF L).length):=by
   intro dk hdk bx hb N0 n0 m0 hN0;simp only [Cc];refine Or.inr (Or.inr (Or.inl ⟨2,0,(fF L).length,_,?_,hN0,hb,?_,?_,?_⟩))
   ·rw [aU,hdk,List.length_range]
   ·rw [List.drop_zero,List.take_of_length_le];rw [pA,List.length_map,aU];omega
   ·grind [dInts]
   ·grind [pA]
  refine My (ds:=List.range (fF L).length) rfl (by simp) (fF L).length (fun p hp=>List.mem_range.1 hp) (E6 L) (TG L) rfl (by simp [hN];omega)
   (fun dk=>[.pt [.sl 1 (dInts dk) none] 0,.pt [.pt [.sl 1 (fF L) none,.v (.slice none 0 0)] 0] 0])
   (fun dk hdk=>⟨_,_,rfl,Or.inr ⟨3,_,rfl,Nat.zero_le _,rfl,⟨_,_,rfl,hms dk hdk _ rfl 0 0 0 (Nat.zero_le _),rfl⟩⟩,ax⟩)
   (fun dk hdk hp i j p q hi hj=>Mx L dk i j p q hi hj (by have:=hp p (mG hi);omega) (by have:=hp q (mG hj);omega)) rfl (fun ds qw PI=>?_)
  have cu:ds.length=(fF L).length:=by rw [qw.length_eq,List.length_range]
  have acr:=hms ds (by rw [cu,List.length_range])
  refine Pb 2 (Yf L ds) rfl rfl rfl ⟨_,_,rfl,⟨_,_,rfl,⟨nL rfl,rfl⟩,_,_,rfl,rfl,rfl⟩,_,_,rfl,⟨_,_,rfl,⟨nL rfl,rfl⟩,rfl⟩,rfl⟩
   ⟨⟨_,rfl,⟨nL rfl,rfl⟩⟩,⟨_,rfl,Or.inr ⟨3,_,rfl,by decide,rfl,⟨_,_,rfl,acr _ rfl 2 0 0 (by decide),rfl⟩⟩⟩,⟨_,rfl,acr _ rfl 2 2 1 (by decide)⟩,⟨_,rfl,rfl⟩,⟨_,rfl,rfl⟩,trivial⟩ ?_
  refine aY (fun j st=>∃ e m:Nat,st=Fa L ds (fY L ds e) m e/\m=(fY L ds e).length/\e<=(fF L).length/\j=(fF L).length - e) (fF L).length (Fa L ds [] 0 0)
   (cX 2 ⟨0,3,1,none⟩ rfl rfl rfl qL rfl rfl wB) ⟨0,0,rfl,rfl,by omega,by omega⟩ ?_
  rintro j st ⟨e,m,rfl,hm,he,rfl⟩;have lx:=MC L ds e;refine br ?_ ?_<;>intro h
  ·have aq:e < (fF L).length:=sU h;obtain ⟨p,hp⟩:∃ p,ds[e]? = some p:=⟨_,gE (by omega)⟩
   have hpL:p < L.length:=by
    have:=qw.mem_iff.1 (mG hp);rw [List.mem_range] at this;omega
   obtain ⟨s,hs⟩:∃ s,L[p]? = some s:=⟨_,gE hpL⟩;refine iX (aR hp) ?_;have hgp:ds.getD e 0=p:=by simp [bN,hp]
   have Hw:L.getD p ay=s:=by simp [bN,hs]
   have eN:iA L ds e=true->fY L ds (e + 1)=fY L ds e ++ [p]:=fun hh=>by rw [xP,ap hh,hgp]
   have hold:iA L ds e=false->fY L ds (e + 1)=fY L ds e:=fun hh=>by rw [xP,aj (by rw [hh];decide),List.append_nil]
   have KU:iA L ds e=true->dInts (fY L ds e) ++ [[DV.v (.int .i64 (p:Int))]]=dInts (fY L ds (e + 1)):=fun hh=>by rw [eN hh];simp [dInts]
   by_cases h0:e=0
   ·subst h0;have hh:iA L ds 0=true:=by simp [iA]
    refine dI ?_;refine dS ?_;refine ⟨by rw [aU,hm],⟨by simp [aU,maxLen];omega,by simp [aU];omega⟩,?_⟩;refine ⟨Fa L ds (fY L ds 1) (m + 1) 1,(bZ 2 (by repeat' (first | exact rfl | exact aA rfl | exact aC (aG aq (by omega)) | exact cH (KU hh) rfl | refine ⟨_,_,rfl,?_,?_⟩)) (by repeat' (first | exact trivial | exact aA rfl | exact aC (aG aq (by omega)) | exact cH (KU hh) rfl | refine ⟨⟨_,rfl,?_⟩,?_⟩))),(fF L).length - 1,by omega,1,m + 1,rfl,by rw [eN hh,List.length_append,hm];rfl,by omega,rfl⟩
   ·obtain ⟨p',xA⟩:∃ p',ds[e - 1]? = some p':=⟨_,gE (by omega)⟩
    have hpL':p' < L.length:=by
     have:=qw.mem_iff.1 (mG xA);rw [List.mem_range] at this;omega
    obtain ⟨s',AN⟩:∃ s',L[p']? = some s':=⟨_,gE hpL'⟩;have hgp':ds.getD (e - 1) 0=p':=by simp [bN,xA]
    have hgs':L.getD p' ay=s':=by simp [bN,AN]
    have hhd:iA L ds e = !decide (s=s'):=by grind [iA]
    have hz:IntKind.i64.wrap ((e:Int) - 1)=((e - 1:Nat):Int):=by rw [wrap64 (by omega) (by omega)];omega
    refine dI ?_;refine br (fun _=>?_) (fun h=>?_)
    ·refine iX (gT hs) ?_;refine ⟨[.v (.int .i64 (p':Int))],⟨by rw [hz];omega,by rw [hz];exact aR xA⟩,?_⟩;refine iX (gT AN) ?_;refine br ?_ ?_<;>intro h2
     ·have hh:iA L ds e=true:=by grind [aw]
      refine dS ?_;refine ⟨by rw [aU,hm],⟨by simp [aU,maxLen];omega,by simp [aU];omega⟩,?_⟩;refine ⟨Fa L ds (fY L ds (e + 1)) (m + 1) (e + 1),(bZ 2 (by repeat' (first | exact rfl | exact aA rfl | exact aC (aG aq (by omega)) | exact cH (KU hh) rfl | refine ⟨_,_,rfl,?_,?_⟩)) (by repeat' (first | exact trivial | exact aA rfl | exact aC (aG aq (by omega)) | exact cH (KU hh) rfl | refine ⟨⟨_,rfl,?_⟩,?_⟩))),(fF L).length - (e + 1),by omega,e + 1,m + 1,rfl,by rw [eN hh,List.length_append,hm];rfl,by omega,rfl⟩
     ·have hh:iA L ds e=false:=by grind [aw]
      have aP:dInts (fY L ds e)=dInts (fY L ds (e + 1)):=by rw [hold hh]
      refine ⟨Fa L ds (fY L ds (e + 1)) m (e + 1),(bZ 2 (lY (aG aq (by omega)) aP) (wB2 (aG aq (by omega)) aP)),(fF L).length - (e + 1),by omega,e + 1,m,rfl,by rw [hold hh,hm],by omega,rfl⟩
    ·grind
  ·have hge:e=L.length:=by grind
   subst hge;exact ⟨.pt (dt L (fY L ds L.length)) 0,Or.inr ⟨0,_,rfl,Nat.zero_le _,rfl,ax⟩,_,Yg (by rw [<- hN];exact qw) PI,lx,rfl⟩
abbrev acs (L:List ByteArray) (aJ:List Nat) (e:Nat):St:=
 ⟨[eX 3 (dt L aJ),aM 10 1 (fF L),au 11 ((fF L).length),au 12 e],[],[]⟩
theorem PM {α:Type}:∀ {l:List α},(∀ (i j:Nat) (x:α),j < i->l[i]? = some x->l[j]? ≠ some x)->l.Nodup
 | l,h=>by
  rw [List.nodup_iff_pairwise_ne,List.pairwise_iff_getElem];intro i j hi hj l9 he;exact h j i l[j] l9 (gE hj) (by rw [gE hi,he])
theorem qR (L:List ByteArray) (hl:L.length<=1099511627776) :
  Ev prog 112 [.sl 1 (fF L) none] [] [] (fun r _ _=>∃ z:Int,r = .v (.int .i64 z)/\(0<=z↔¬ L.Nodup)):=by
 have hN:=cG L;refine eG 28 [.tmp 2] func112 rfl ntmps112 rfl fun _ _ _ _=>?_;refine dj Pf rfl (xQ L hl) ax (fun r hr=>?_);obtain ⟨aJ,hT,lx,rfl⟩:=hr;refine lI (fun j st=>∃ e:Nat,st=acs L aJ e/\e<=L.length/\(∀ (i j:Nat) (x:ByteArray),i < e->j < i->L[i]? = some x->L[j]? ≠ some x)/\j=L.length - e) ⟨0,rfl,by omega,fun i j x hi=>by omega,rfl⟩ (bz wB) ?_;rintro j st ⟨e,rfl,he,hinv,rfl⟩;refine br ?_ ?_<;>intro h
 ·have aq:e < L.length:=sV hN h;obtain ⟨s,hs⟩:=gX aq;obtain ⟨q,p,hq,hp⟩:=hT.all e s hs;have dQ:=hT.fst q p e s hq hp hs;refine iX (gT hs) ?_;refine cP oF (find_spec L aJ s q p hT (by omega) hq hp) ?_;refine br ?_ ?_<;>intro h2
  ·have h2:p < e:=sU h2;refine ⟨(e:Int),rfl,⟨fun _ hnd=>?_,fun _=>by omega⟩⟩;rw [List.nodup_iff_pairwise_ne,List.pairwise_iff_getElem] at hnd;obtain ⟨h3,h4⟩:=List.getElem?_eq_some_iff.1 hp;obtain ⟨h5,h6⟩:=List.getElem?_eq_some_iff.1 hs;exact hnd p e h3 h5 h2 (by rw [h4,h6])
  ·have h2:¬ p < e:=sU h2;refine ⟨acs L aJ (e + 1),(bz (cJ (aG aq (by omega)))),L.length - (e + 1),by omega,e + 1,rfl,by omega,fun i j x hi hj hx Z5=>?_,rfl⟩;by_cases EZ:i=e
   ·subst EZ;rw [hs] at hx;simp only [oI] at hx;subst hx;have:=hT.fst q p j s hq hp Z5;omega
   ·exact hinv i j x (by omega) hj hx Z5
 ·have hge:e=L.length:=by grind
  subst hge;refine ⟨-1,rfl,⟨fun h3=>by omega,fun h3=>?_⟩⟩;exact absurd (PM fun i j x l9 hi hj=>hinv i j x (gS hi).1 l9 hi hj) h3
def sameWds:List Wd->List Wd->Bool
 | [],[]=>true
 | x :: r,y :: s=>decide (x.s=y.s) && sameWds r s
 | _,_=>false
theorem uY:∀ {a b:List Wd},a.length≠b.length->sameWds a b=false
 | [],[],h=>(h rfl).elim
 | x :: r,y :: s,h=>by
  have:r.length≠s.length:=sU h;simp [sameWds,uY this]
 | [],y :: s,_=>rfl
 | x :: r,[],_=>rfl
abbrev Cz (a b:List Wd) (e:Nat):St:=
 ⟨[aM 0 2 (bT a),aM 1 2 (bT b),au 5 e],[],[]⟩
theorem np (a b:List Wd) (hs:a.length<=4611686018427387904) :
  EvP prog 318 [.sl 2 (bT a) none,.sl 2 (bT b) none] (.v (.bool (sameWds a b))):=by
 refine eG 28 [.tmp 4] func318 rfl ntmps318 rfl fun _ _ _ _=>?_;refine br ?_ ?_<;>intro h
 ·have bA:a.length≠b.length:=by have:=h;simp [aD] at this;omega
  exact congrArg (fun b=>DV.v (.bool b)) (uY bA).symm
 ·have hl:a.length=b.length:=by have:=h;simp [aD] at this;omega
  refine aY (fun j st=>∃ e:Nat,st=Cz a b e/\e<=a.length/\sameWds a b=sameWds (a.drop e) (b.drop e)/\j=a.length - e) a.length
   (Cz a b 0) (bz wB) ⟨0,rfl,by omega,rfl,by omega⟩ ?_
  rintro j st ⟨e,rfl,he,aP,rfl⟩;refine br ?_ ?_<;>intro h
  ·have aq:e < a.length:=by simpa [aD] using h
   obtain ⟨x,hx⟩:=gX aq;obtain ⟨y,hy⟩:∃ y,b[e]? = some y:=⟨_,gE (hl ▸ aq)⟩;rw [drop_cons hx,drop_cons hy] at aP;refine dI ?_;refine ⟨kP x,⟨by omega,bd hx⟩,kP y,⟨by omega,bd hy⟩,?_⟩;refine br ?_ ?_<;>intro h
   ·have bA:x.s≠y.s:=sU h;refine (bP ?_:);rw [aP];simp [sameWds,bA]
   ·have bA:x.s=y.s:=sU h;refine ⟨Cz a b (e + 1),(bz (cJ (aG aq (by omega)))),a.length - (e + 1),by omega,e + 1,rfl,by omega,?_,rfl⟩;rw [aP];simp [sameWds,bA]
  ·have hge:e=a.length:=by have:=h;simp [aD] at this;omega
   refine (bP ?_:);rw [aP,hge,hl];simp [sameWds];rw [<- hl];simp [sameWds]
def cO (p q:Ph):Bool:=(p.bare == q.bare) && decide (p.wide=q.wide) && sameWds p.label q.label && decide (p.ck=q.ck) && decide (p.cn=q.cn) && sameWds p.cl q.cl
theorem nq (p q:Ph) (tl tl':List DV) (hs:p.wt<=4611686018427387904) (ht:CcL [] 0 0 0 tl tl) (qb:CcL [] 0 0 0 tl' tl') :
  EvP prog 281 [.agg (Ia p tl),.agg (Ia q tl')] (.v (.bool (cO p q))):=by
 refine eG 51 [.tmp 4] func281 rfl ntmps281 rfl fun _ _ _ _=>?_;have h1:=bI p.label;have h2:=bI p.cl;simp only [Ph.wt] at hs;refine br ?_ ?_<;>intro h
 ·refine cP Px (np p.label q.label (by omega)) ?_;refine br ?_ ?_<;>intro h2
  ·refine cP Px (np p.cl q.cl (by omega)) ?_;refine (bP ?_:);simp [av] at h h2;simp [cO,av,h,h2]
  ·refine (bP ?_:);simp [av] at h h2;simp [cO,av,h]
   grind
 ·refine (bP ?_:);simp [av] at h;simp [cO]
  grind
def lR (h k:Hd):Bool:=decide (h.ag=k.ag) && decide (h.lo=k.lo) && decide (h.hi=k.hi) && decide (h.most=k.most) && decide (h.name.s=k.name.s) && sameWds h.af k.af
mutual
def sameTy:Ty->Ty->Bool
 | .mk h ps,.mk k qs=>lR h k && samePts ps qs
def samePts:Pts->Pts->Bool
 | .nil,.nil=>true
 | .cons p t r,.cons q u s=>decide (p.name.s=q.name.s) && cO p q && sameTy t u && samePts r s
 | _,_=>false
end
theorem uZ:∀ {a b:Pts},a.len≠b.len->samePts a b=false
 | .nil,.nil,h=>(h rfl).elim
 | .cons p t r,.cons q u s,h=>by
  have:r.len≠s.len:=by simpa [Pts.len] using h
  simp [samePts,uZ this]
 | .nil,.cons _ _ _,_=>by simp [samePts]
 | .cons _ _ _,.nil,_=>by simp [samePts]
def j3 (h:Hd):Hd:=
 ⟨h.ag,0,if h.ag=2 then h.lo else 0,if h.ag=2 then h.hi else 0,if h.ag=3∨h.ag=5 then h.most else 0,if h.ag=4 then h.af else [],if h.ag=9 then h.name else ⟨ay,0⟩⟩
def mask:Ty->Ty
 | .mk h ps=>.mk (j3 h) (if 4 < h.ag/\h.ag < 9 then ps else .nil)
theorem AO (bx:List (List DV)) (N n m:Nat) (t:Ty):CcL bx N n m (eK t) (eK t):=by
 obtain ⟨h,ps⟩:=t;simp only [eK,CcL,Cc]
 repeat' (first | exact rfl | exact trivial | exact Or.inr (Or.inl ⟨_,rfl⟩) | refine ⟨_,_,rfl,?_,?_⟩)
abbrev Ij (a b:Ty) (e:Nat):St:=
 ⟨[aE 2 0,aE 3 1,au 5 e],[eK a,eK b],[]⟩
theorem oH:∀ (n:Nat) (a b:Ty),a.wt<=n->a.wt<=4611686018427387904 ->
  EvP prog 317 [.agg (eK a),.agg (eK b)] (.v (.bool (sameTy a b)))
 | 0,a,b,hn,_=>by have:=a.fk;omega
 | n + 1,.mk h ps,.mk k qs,hn,cQ=>by
  simp only [Ty.wt,Hd.wt] at hn cQ;have hl:=bI h.af;have gP:=ps.gF;refine eG 98 [.tmp 4] func317 rfl ntmps317 rfl fun _ _ _ _=>?_;refine br ?_ ?_<;>intro hA
  ·simp [aw] at hA;obtain ⟨⟨⟨⟨e1,e2⟩,e3⟩,e4⟩,e5⟩:=hA;refine cP Px (np h.af k.af (by omega)) ?_;refine br ?_ ?_<;>intro hB
   ·refine (bP ?_:);simp [aw,e1,e2,e3,e4,e5,aN] at hB;simp only [sameTy,lR];rcases hB with hB | hB
    ·simp [hB]
    ·have:ps.len≠qs.len:=by omega
     simp [uZ this]
   ·simp [aw,e1,e2,e3,e4,e5,aN] at hB;obtain ⟨e6,e7⟩:=hB;have e8:ps.len=qs.len:=by omega
    have eh:sameTy (.mk h ps) (.mk k qs)=samePts ps qs:=by simp [sameTy,lR,e1,e2,e3,e4,e5,e6]
    refine aY (fun j st=>∃ e:Nat,st=Ij (.mk h ps) (.mk k qs) e/\e<=ps.len/\samePts ps qs=samePts (ps.drop e) (qs.drop e)/\j=ps.len - e) ps.len
     (Ij (.mk h ps) (.mk k qs) 0) (bz wB) ⟨0,rfl,by omega,rfl,by omega⟩ ?_
    rintro j st ⟨e,rfl,he,aP,rfl⟩;refine br ?_ ?_<;>intro hL
    ·have aq:e < ps.len:=by simpa [aN] using hL
     obtain ⟨p,t,hx⟩:=Pts.fl aq;obtain ⟨q,u,hy⟩:=Pts.fl (e8 ▸ aq);rw [Pts.drop_cons hx,Pts.drop_cons hy] at aP;have HD:=Pts.gY (mG hx);obtain ⟨t,ts⟩:=t;obtain ⟨u,us⟩:=u;apply pw (fun _=>false) 10 11 [0,1,2,3,4,5,6,7,8,9,10,11,12,13] [0,1,2,3,4,5,6,7,8,9,11,10,12,13] 2 3 mo (by decide +kernel)
     ·refine ⟨_,⟨by omega,cq hx⟩,_,⟨by omega,cq hy⟩,?_⟩;refine (?_:@Eq St _ _);exact rfl
     ·refine ⟨_,⟨by omega,cq hx⟩,_,⟨by omega,cq hy⟩,?_⟩;refine (⟨rfl,rfl,?_⟩:_/\_/\_)
      repeat' (first | exact trivial | refine ⟨rfl,?_⟩)
     ·rfl
     refine br ?_ ?_<;>intro hC
     ·have hC:p.name.s=q.name.s:=sU hC;refine cP Pw (nq p q (eK (.mk t ts)) (eK (.mk u us)) (by omega) (AO _ _ _ _ _) (AO _ _ _ _ _)) ?_;refine br ?_ ?_<;>intro hD
      ·have hD:cO p q=true:=by simpa [aw,hC] using hD
       refine cP oG (oH n (.mk t ts) (.mk u us) (by omega) (by omega)) ?_;refine br ?_ ?_<;>intro hE
       ·refine (bP ?_:);rw [eh,aP];simp [aw,hC,hD] at hE;simp [samePts,hE]
       ·simp [aw,hC,hD] at hE;refine ⟨Ij (.mk h ps) (.mk k qs) (e + 1),(bz (cJ (aG aq (by omega)))),ps.len - (e + 1),by omega,e + 1,rfl,by omega,?_,rfl⟩;rw [aP];simp [samePts,hC,hD,hE]
      ·have hD:cO p q=false:=by simpa [aw,hC] using hD
       refine (bP ?_:);rw [eh,aP];simp [samePts,hD]
     ·have hC:p.name.s≠q.name.s:=sU hC;refine (bP ?_:);rw [eh,aP];simp [samePts,hC]
    ·have hge:e=ps.len:=by have:=hL;simp [aN] at this;omega
     refine (bP ?_:);rw [eh,aP,hge,Pts.dR,e8,Pts.dR];simp [samePts]
  ·refine (bP ?_:);simp [aw] at hA;simp only [sameTy,lR]
   grind
theorem Fb (t:Ty) (cQ:t.wt<=4611686018427387904) :
  EvP prog 320 [.agg (eK t)] (.v (.bool (sameTy t c9))):=by
 obtain ⟨h,ps⟩:=t;refine eG 6 [.tmp 2] func320 rfl ntmps320 rfl fun _ _ _ _=>?_;refine cP oG (oH _ (.mk h ps) c9 (aV _) cQ) ?_;exact (rfl:_=_)
theorem Ik (t:Ty) (cQ:t.wt<=4611686018427387904) :
  EvP prog 279 [.agg (eK t)] (.v (.bool (sameTy t (mask t)))):=by
 obtain ⟨h,ps⟩:=t
 have key:∀ (h':Hd) (ps':Pts),j3 h=h' -> (if 4 < h.ag/\h.ag < 9 then ps else .nil)=ps' ->
   EvP prog 317 [.agg (eK (.mk h ps)),.agg (eK (.mk h' ps'))] (.v (.bool (sameTy (.mk h ps) (mask (.mk h ps))))):=by
  rintro h' ps' rfl rfl;exact oH _ (.mk h ps) _ (aV _) cQ
 obtain ⟨ag,aO,lo,hi,most,af,name⟩:=h;by_cases hr:2<=ag/\ag<=9
 ·obtain hk | hk | hk | hk | hk | hk | hk | hk:ag=2∨ag=3∨ag=4∨ag=5∨ag=6∨ag=7∨ag=8∨ag=9:=by omega
  ·subst hk;refine eG 53 [.tmp 2] func279 rfl ntmps279 rfl fun _ _ _ _=>?_;refine cP oG (key ⟨2,0,lo,hi,0,[],⟨ay,0⟩⟩ .nil (by simp [j3]) (by simp)) ?_;exact (rfl:_=_)
  ·subst hk;refine eG 53 [.tmp 2] func279 rfl ntmps279 rfl fun _ _ _ _=>?_;refine cP oG (key ⟨3,0,0,0,most,[],⟨ay,0⟩⟩ .nil (by simp [j3]) (by simp)) ?_;exact (rfl:_=_)
  ·subst hk;refine eG 53 [.tmp 2] func279 rfl ntmps279 rfl fun _ _ _ _=>?_;refine cP oG (key ⟨4,0,0,0,0,af,⟨ay,0⟩⟩ .nil (by simp [j3]) (by simp)) ?_;exact (rfl:_=_)
  ·subst hk;refine eG 53 [.tmp 2] func279 rfl ntmps279 rfl fun _ _ _ _=>?_;refine cP oG (key ⟨5,0,0,0,most,[],⟨ay,0⟩⟩ ps (by simp [j3]) (by simp)) ?_;exact (rfl:_=_)
  ·subst hk;refine eG 53 [.tmp 2] func279 rfl ntmps279 rfl fun _ _ _ _=>?_;refine cP oG (key ⟨6,0,0,0,0,[],⟨ay,0⟩⟩ ps (by simp [j3]) (by simp)) ?_;exact (rfl:_=_)
  ·subst hk;refine eG 53 [.tmp 2] func279 rfl ntmps279 rfl fun _ _ _ _=>?_;refine cP oG (key ⟨7,0,0,0,0,[],⟨ay,0⟩⟩ ps (by simp [j3]) (by simp)) ?_;exact (rfl:_=_)
  ·subst hk;refine eG 53 [.tmp 2] func279 rfl ntmps279 rfl fun _ _ _ _=>?_;refine cP oG (key ⟨8,0,0,0,0,[],⟨ay,0⟩⟩ ps (by simp [j3]) (by simp)) ?_;exact (rfl:_=_)
  ·subst hk;refine eG 53 [.tmp 2] func279 rfl ntmps279 rfl fun _ _ _ _=>?_;refine cP oG (key ⟨9,0,0,0,0,[],name⟩ .nil (by simp [j3]) (by simp)) ?_;exact (rfl:_=_)
 ·refine eG 53 [.tmp 2] func279 rfl ntmps279 rfl fun _ _ _ _=>?_;refine br (fun c=>?_) (fun c1=>?_)
  ·have:ag=2:=of_decide_eq_true c;omega
  refine br (fun c=>?_) (fun c2=>?_)
  ·simp [aw] at c;omega
  refine br (fun c=>?_) (fun c3=>?_)
  ·have:ag=4:=of_decide_eq_true c;omega
  refine br (fun c=>?_) (fun c4=>?_)
  ·simp [av] at c;omega
  refine br (fun c=>?_) (fun c5=>?_)
  ·have:ag=9:=of_decide_eq_true c;omega
  have e1:¬ ag=2:=of_decide_eq_false c1;have e3:¬ ag=4:=of_decide_eq_false c3;have e5:¬ ag=9:=of_decide_eq_false c5;simp [aw,av] at c2 c4;refine cP oG (key ⟨ag,0,0,0,0,[],⟨ay,0⟩⟩ .nil (by simp [j3,e1,c2,e3,e5]) (by simp;omega)) ?_;exact (rfl:_=_)
abbrev Ft:Type:=Int × Int
def Ft.d (f:Ft):DV:=.agg [.v (.int .i64 f.1),.v (.int .i64 f.2)]
def badWd:List Wd->Ft
 | []=>(0,0)
 | w :: r=>if bE w.s then badWd r else (9,w.a)
def b9 (l:List Wd):Ft:=
 if l.length<=32 then badWd l else (8,((l[32]?).getD (⟨ay,0⟩:Wd)).a)
abbrev CA (l:List Wd) (e:Nat):St:=
 ⟨[aM 0 2 (bT l),aE 2 0,au 3 e],[[.v (.int .i64 0),.v (.int .i64 0)]],[]⟩
theorem nr (l:List Wd) (hs:wdsWt l<=4611686018427387904) :
  EvP prog 277 [.sl 2 (bT l) none] (b9 l).d:=by
 have ov:=bI l;refine eG 32 [.cell 2 44] func277 rfl ntmps277 rfl fun _ _ _ _=>?_;refine br ?_ ?_<;>intro h
 ·have aq:32 < l.length:=by simp [aD] at h;omega
  obtain ⟨x,hx⟩:=gX aq;have:b9 l=(8,x.a):=by simp [b9,Nat.not_le.2 aq,hx]
  refine ⟨kP x,⟨by omega,bd hx⟩,_,?_,rfl⟩;rw [this];exact ax
 ·have fb:l.length<=32:=by simp [aD] at h;omega
  refine aY (fun j st=>∃ e:Nat,st=CA l e/\e<=l.length/\badWd l=badWd (l.drop e)/\j=l.length - e) l.length
   (CA l 0) (bz wB) ⟨0,rfl,by omega,rfl,by omega⟩ ?_
  rintro j st ⟨e,rfl,he,aP,rfl⟩;refine br ?_ ?_<;>intro hL
  ·have aq:e < l.length:=by simpa [aD] using hL
   obtain ⟨x,hx⟩:=gX aq;rw [drop_cons hx] at aP;have HA:=jo (mG hx);refine ⟨kP x,⟨by omega,bd hx⟩,?_⟩;refine cP KH (lz x.s (by omega)) ?_;refine br ?_ ?_<;>intro hN
   ·have hN:bE x.s=false:=sU hN;have:b9 l=(9,x.a):=by simp [b9,fb,aP,badWd,hN]
    refine ⟨kP x,⟨by omega,bd hx⟩,_,?_,rfl⟩;rw [this];exact ax
   ·have hN:bE x.s=true:=sU hN;refine ⟨CA l (e + 1),(bz (cJ (aG aq (by omega)))),l.length - (e + 1),by omega,e + 1,rfl,by omega,?_,rfl⟩;rw [aP];simp [badWd,hN]
  ·have hge:e=l.length:=by simp [aD] at hL;omega
   have:b9 l=(0,0):=by simp [b9,fb,aP,hge,badWd]
   refine ⟨_,?_,rfl⟩;rw [this];exact ax
def cY (l:List Wd) (s:ByteArray):Bool:=l.any fun w=>decide (w.s=s)
def aK (l:List Wd) (i:Nat) (x:Wd):Int:=
 if bE x.s then (if cY (l.take i) x.s then 10 else 0) else 9
abbrev xR (l:List Wd) (i e:Nat):St:=
 ⟨[aM 0 2 (bT l),au 1 i,au 5 e],[],[]⟩
theorem qx (l:List Wd) (i:Nat) (x:Wd) (hs:wdsWt l<=4611686018427387904) (hx:l[i]? = some x) :
  EvP prog 280 [.sl 2 (bT l) none,.v (.int .i64 i)] (.v (.int .i64 (aK l i x))):=by
 have ov:=bI l;have hi:=(gS hx).1;have HA:=jo (mG hx);refine eG 29 [.tmp 4] func280 rfl ntmps280 rfl fun _ _ _ _=>?_;refine ⟨kP x,⟨by omega,bd hx⟩,?_⟩;refine cP KH (lz x.s (by omega)) ?_;refine br ?_ ?_<;>intro hN
 ·have hN:bE x.s=false:=sU hN;refine (qM ?_:);simp [aK,hN]
 ·have hN:bE x.s=true:=sU hN
  refine aY (fun j st=>∃ e:Nat,st=xR l i e/\e<=i/\cY (l.take e) x.s=false/\j=i - e) i
   (xR l i 0) (bz wB) ⟨0,rfl,by omega,rfl,by omega⟩ ?_
  rintro j st ⟨e,rfl,he,aP,rfl⟩;refine br ?_ ?_<;>intro hL
  ·have aq:e < i:=sU hL;obtain ⟨y,hy⟩:∃ y,l[e]? = some y:=⟨_,gE (by omega)⟩;refine dI ?_;refine ⟨kP y,⟨by omega,bd hy⟩,kP x,⟨by omega,bd hx⟩,?_⟩;refine br ?_ ?_<;>intro hE
   ·have hE:y.s=x.s:=sU hE;refine (qM ?_:)
    have:cY (l.take i) x.s=true:=by
     simp only [cY,List.any_eq_true];exact ⟨y,List.mem_take_iff_getElem.2 ⟨e,by omega,(gS hy).2⟩,by simpa using hE⟩
    simp [aK,hN,this]
   ·have hE:¬ y.s=x.s:=sU hE;refine ⟨xR l i (e + 1),(bz (cJ (aG aq (by omega)))),i - (e + 1),by omega,e + 1,rfl,by omega,?_,rfl⟩;rw [List.take_add_one,hy];simp only [cY,List.any_append] at aP ⊢;simp [aP,hE]
  ·have hge:e=i:=by have:=of_decide_eq_false hL;omega
   refine (qM ?_:);subst hge;simp [aK,hN,aP]
def pNames:Pts->List Wd
 | .nil=>[]
 | .cons p _ r=>p.name :: pNames r
theorem gZ:∀ ps:Pts,(pNames ps).length=ps.len
 | .nil=>rfl
 | .cons p t r=>by simp [pNames,Pts.len,gZ r]
theorem hY:∀ {ps:Pts} {j:Nat} {p:Ph} {t:Ty},ps.toList[j]? = some (p,t)->(pNames ps)[j]? = some p.name
 | .nil,j,p,t,h=>by simp [Pts.toList] at h
 | .cons q u r,0,p,t,h=>by grind [Pts.toList,pNames]
 | .cons q u r,j + 1,p,t,h=>by
  simp only [Pts.toList,List.getElem?_cons_succ] at h;simp only [pNames,List.getElem?_cons_succ];exact hY h
theorem tN:∀ ps:Pts,wdsWt (pNames ps)<=ps.wt
 | .nil=>aV _
 | .cons p t r=>by
  have:=tN r
  grind [pNames,wdsWt,Pts.wt,Ph.wt]
abbrev CB (ps:Pts) (l:List Wd) (n e:Nat):St:=
 ⟨[aM 0 18 (gG ps),(3,⟨[],.sl 2 (bT l) (some 0)⟩),au 4 e],[],[⟨n,27,2,none⟩]⟩
theorem CD (ps:Pts) (hs:ps.wt<=1099511627776):EvP prog 319 [.sl 18 (gG ps) none] (.sl 2 (bT (pNames ps)) none):=by
 have gP:=ps.gF;refine eG 20 [.tmp 2] func319 rfl ntmps319 rfl fun _ _ _ _=>?_
 refine aY (fun j st=>∃ (e:Nat),st=CB ps ((pNames ps).take e) e e/\e<=ps.len/\j=ps.len - e) ps.len
  (CB ps [] 0 0) (eP ⟨0,27,2,none⟩ rfl ⟨_,rfl⟩ rfl wA rfl rfl lj) ⟨0,by simp,by omega,by omega⟩ ?_
 rintro j st ⟨e,rfl,he,rfl⟩;refine br ?_ ?_<;>intro hL
 ·have aq:e < ps.len:=by simpa [aN] using hL
  obtain ⟨p,t,hx⟩:=Pts.fl aq;refine iX (cq hx) ?_;refine ⟨by simp [aD,gZ];omega,⟨by simp [aD,gZ,maxLen];omega,by simp [aD,gZ];omega⟩,?_⟩;refine ⟨CB ps ((pNames ps).take (e + 1)) (e + 1) (e + 1),(bz (wB2 (aG aq (by omega)) (AJ (hY hx)))),ps.len - (e + 1),by omega,e + 1,rfl,by omega,rfl⟩
 ·have hge:e=ps.len:=by simp [aN] at hL;omega
  rw [hge,List.take_of_length_le (by rw [gZ];omega)];exact ⟨_,ax,rfl⟩
mutual
def Ty.cnt:Ty->Nat
 | .mk _ ps=>1 + ps.cnt
def Pts.cnt:Pts->Nat
 | .nil=>0
 | .cons p t r=>(if p.bare then 0 else t.cnt) + r.cnt
end
mutual
def Ty.deep:Ty->Nat
 | .mk _ ps=>ps.deep + 1
def Pts.deep:Pts->Nat
 | .nil=>0
 | .cons p t r=>max (if p.bare then 0 else t.deep) r.deep
end
mutual
theorem Ty.fm:∀ t:Ty,t.cnt<=t.wt
 | .mk h ps=>by have:=Pts.fm ps;simp only [Ty.cnt,Ty.wt,Hd.wt];omega
theorem Pts.fm:∀ ps:Pts,ps.cnt<=ps.wt
 | .nil=>aV _
 | .cons p t r=>by
  have:=Ty.fm t;have:=Pts.fm r;simp only [Pts.cnt,Pts.wt];split<;>omega
end
mutual
theorem Ty.pB:∀ t:Ty,t.deep<=t.wt
 | .mk h ps=>by have:=Pts.pB ps;simp only [Ty.deep,Ty.wt,Hd.wt];omega
theorem Pts.pB:∀ ps:Pts,ps.deep<=ps.wt
 | .nil=>aV _
 | .cons p t r=>by
  have:=Ty.pB t;have:=Pts.pB r
  grind [Pts.deep,Pts.wt]
end
abbrev CE (t:Ty) (e n d:Nat):St:=
 ⟨[aE 1 0,au 4 n,au 5 d,au 6 e],[eK t],[]⟩
theorem lB:∀ (k:Nat) (t:Ty),t.wt<=k->t.wt<=1099511627776 ->
  EvP prog 101 [.agg (eK t)] (.tup [.v (.int .i64 t.cnt),.v (.int .i64 t.deep)])
 | 0,t,hn,_=>by have:=t.fk;omega
 | k + 1,.mk h ps,hn,cQ=>by
  simp only [Ty.wt,Hd.wt] at hn cQ;have gP:=ps.gF;have hc:=ps.fm;have u1:=ps.pB;refine eG 42 [.tmp 2,.tmp 3] func101 rfl ntmps101 rfl fun _ _ _ _=>?_
  refine aY (fun j st=>∃ (e n d:Nat),st=CE (.mk h ps) e n d/\e<=ps.len/\n + (ps.drop e).cnt=1 + ps.cnt/\max d (ps.drop e).deep=ps.deep/\j=ps.len - e) ps.len
   (CE (.mk h ps) 0 1 0) (bz wB) ⟨0,1,0,rfl,by omega,rfl,by simp [Pts.drop],by omega⟩ ?_
  rintro j st ⟨e,n,d,rfl,he,bA,Wr,rfl⟩;refine br ?_ ?_<;>intro hL
  ·have aq:e < ps.len:=by simpa [aN] using hL
   obtain ⟨p,t,hx⟩:=Pts.fl aq;have HD:=Pts.gY (mG hx);rw [Pts.drop_cons hx] at bA Wr;simp only [Pts.cnt,Pts.deep] at bA Wr;have Oq:=t.fm;have hdt:=t.pB;refine iX (cq hx) ?_;refine br ?_ ?_<;>intro hB
   ·rw [ap hB] at bA Wr;exact rE ⟨_,by omega,e + 1,n,d,rfl,by omega,by omega,by omega,rfl⟩ (bz (cJ (aG aq (by omega))))
   ·rw [aj (by simp [hB])] at bA Wr;obtain ⟨u,us⟩:=t;refine iX (cq hx) ?_;refine cP KF (lB k (.mk u us) (by omega) (by omega)) ?_;have zQ:IntKind.i64.wrap ((n:Int) + (Ty.mk u us).cnt)=((n + (Ty.mk u us).cnt:Nat):Int):=by rw [wrap64 (by omega) (by omega)];omega
    refine br ?_ ?_<;>intro hD
    ·have hD:d < (Ty.mk u us).deep:=sU hD;exact ⟨CE (.mk h ps) (e + 1) (n + (Ty.mk u us).cnt) (Ty.mk u us).deep,(bz (wB2 zQ (aG aq (by omega)))),ps.len - (e + 1),by omega,e + 1,_,_,rfl,by omega,by omega,by omega,rfl⟩
    ·have hD:¬ d < (Ty.mk u us).deep:=sU hD;exact ⟨CE (.mk h ps) (e + 1) (n + (Ty.mk u us).cnt) d,(bz (wB2 zQ (aG aq (by omega)))),ps.len - (e + 1),by omega,e + 1,_,_,rfl,by omega,by omega,by omega,rfl⟩
  ·have hge:e=ps.len:=by simp [aN] at hL;omega
   rw [hge,Pts.dR] at bA Wr;simp only [Pts.cnt,Pts.deep] at bA Wr;have e1:IntKind.i64.wrap ((d:Int) + 1)=((Ty.mk h ps).deep:Int):=by rw [wrap64 (by omega) (by omega)];simp only [Ty.deep];omega
   have e2:(n:Int)=((Ty.mk h ps).cnt:Int):=by simp only [Ty.cnt];omega
   refine ⟨_,?_,rfl⟩;rw [<- e1,<- e2];exact ax
def wD (f:Ft) (n:Int):DV:=.agg [.v (.int .i64 f.1),.v (.int .i64 f.2),.v (.int .i64 n)]
theorem fg (f:Ft) (n e a:Int):EvP prog 278 [wD f n,.v (.int .i64 e),.v (.int .i64 a)] (wD (e,a) n):=by
 refine eG 13 [.cell 6 335] func278 rfl ntmps278 rfl fun _ _ _ _=>?_;exact ⟨_,ax,rfl⟩
def bo (p:Ph):Ft:=
 if p.ck=0 then (if p.cn=0/\p.cl=[] then (0,0) else (19,p.name.a))
 else if p.ck < 0∨3 < p.ck then (14,p.ca)
 else if (p.ck=1/\p.cn < 1)∨(p.ck=2/\(p.cn < 0∨4096 < p.cn))∨(p.ck=3/\p.cn≠0) then (20,p.ca)
 else b9 p.cl
theorem z6 (p:Ph) (tl:List DV) (hs:p.wt<=4611686018427387904) :
  EvP prog 321 [.agg (Ia p tl)] (bo p).d:=by
 simp only [Ph.wt] at hs;refine eG 73 [.cell 2 44] func321 rfl ntmps321 rfl fun _ _ _ _=>?_;refine br ?_ ?_<;>intro h0
 ·have h0:p.ck=0:=sU h0;refine br ?_ ?_<;>intro h1
  ·have:bo p=(19,p.name.a):=by grind [aw,aD,bo]
   refine ⟨_,?_,rfl⟩;rw [this];exact ax
  ·have:bo p=(0,0):=by
    simp [aw,aD] at h1;simp [bo,h0,h1.1,h1.2]
   refine ⟨_,?_,rfl⟩;rw [this];exact ax
 ·have h0:¬ p.ck=0:=sU h0;refine br ?_ ?_<;>intro h1
  ·have:bo p=(14,p.ca):=by grind [aw,bo]
   refine ⟨_,?_,rfl⟩;rw [this];exact ax
  ·simp [aw] at h1;refine br ?_ ?_<;>intro h2
   ·have:bo p=(20,p.ca):=by grind [aw,av,bo]
    refine ⟨_,?_,rfl⟩;rw [this];exact ax
   ·have hc:bo p=b9 p.cl:=by grind [aw,av,bo]
    refine cP Pv (nr p.cl (by omega)) ?_;refine ⟨_,?_,rfl⟩;rw [hc];exact ax
def enumL (all:List Wd):Nat->List Wd->Ft
 | _,[]=>(0,0)
 | i,x :: r=>if aK all i x≠0 then (aK all i x,x.a) else enumL all (i + 1) r
def jt (h:Hd):Ft:=
 if h.af=[] then (15,h.aO)
 else if 64 < h.af.length then (8,((h.af[64]?).getD (⟨ay,0⟩:Wd)).a)
 else enumL h.af 0 h.af
def eE (p:Ph):Ft:=
 if p.wide < 0∨64 < p.wide then (20,p.name.a)
 else if (b9 p.label).1≠0 then b9 p.label
 else bo p
def xS (t:Ty):Bool:=sameTy t (mask t)
mutual
def wrong:Ty->Int->Int->Ft × Int
 | .mk h ps,depth,m=>
  if 24 < depth then ((6,h.aO),m + 1)
  else if 512 < m + 1 then ((8,h.aO),m + 1)
  else if h.ag < 1∨9 < h.ag then ((14,h.aO),m + 1)
  else if xS (.mk h ps)=false then ((19,h.aO),m + 1)
  else if (h.ag=2/\h.hi < h.lo)∨(h.ag=3/\(h.most < 0∨4096 < h.most)) then ((20,h.aO),m + 1)
  else if h.ag=9/\bE h.name.s=false then ((9,h.name.a),m + 1)
  else if h.ag=4 then (jt h,m + 1)
  else if h.ag=5∨h.ag=6 then wrongOne h ps depth (m + 1)
  else if h.ag=7∨h.ag=8 then
   if h.ag=8/\ps.len=0 then ((15,h.aO),m + 1)
   else if 64 < ps.len then ((8,(((pNames ps)[64]?).getD (⟨ay,0⟩:Wd)).a),m + 1)
   else wrongPts h.ag (pNames ps) 0 ps depth (m + 1)
  else ((0,0),m + 1)
def wrongOne:Hd->Pts->Int->Int->Ft × Int
 | h,.cons p t .nil,depth,m=>
  if p.name.s≠ay∨cO p fJ=false then ((19,h.aO),m)
  else if h.most < 0∨1024 < h.most then ((20,h.aO),m)
  else wrong t (depth + 1) m
 | h,_,_,m=>((19,h.aO),m)
def wrongPts (ag:Int) (all:List Wd):Nat->Pts->Int->Int->Ft × Int
 | _,.nil,_,m=>((0,0),m)
 | i,.cons p t r,depth,m=>
  if aK all i p.name≠0 then ((aK all i p.name,p.name.a),m)
  else if p.bare=true then
   if ag=7∨sameTy t c9=false∨cO p jZ=false then ((19,p.name.a),m) else wrongPts ag all (i + 1) r depth m
  else if (eE p).1≠0 then (eE p,m)
  else if (wrong t (depth + 1) m).1.1≠0 then wrong t (depth + 1) m
  else wrongPts ag all (i + 1) r depth (wrong t (depth + 1) m).2
end
def CF (k:Nat):Prop:=∀ (t:Ty) (depth m:Int),t.wt<=k->t.wt<=1099511627776->0<=depth->depth<=25->0<=m->m<=512 ->
 EvP prog 242 [wD (0,0) m,.agg (eK t),.v (.int .i64 depth)] (wD (wrong t depth m).1 (wrong t depth m).2)
abbrev KV (t:Ty) (e:Nat) (depth m:Int):St:=
 ⟨[au 2 depth,aE 3 0,aE 4 1,aE 6 2,au 7 e],[[.v (.int .i64 0),.v (.int .i64 0),.v (.int .i64 m)],eK t,[.v (.int .i64 0),.v (.int .i64 0),.v (.int .i64 0)]],[]⟩
def fK (h:Hd) (ps:Pts) (depth m:Int):Ft × Int:=
 if h.ag=8/\ps.len=0 then ((15,h.aO),m)
 else if 64 < ps.len then ((8,(((pNames ps)[64]?).getD (⟨ay,0⟩:Wd)).a),m)
 else wrongPts h.ag (pNames ps) 0 ps depth m
theorem Fc (all:List Wd):∀ (l:List Wd) (i:Nat),(enumL all i l).1=0->enumL all i l=(0,0)
 | [],_,_=>rfl
 | x :: r,i,h=>by
  have ih:=Fc all r (i + 1)
  grind [enumL]
theorem AP (h:Hd) (he:(jt h).1=0):jt h=(0,0):=by grind [jt,Fc]
mutual
theorem rT:∀ (t:Ty) (depth m:Int),0<=m->(wrong t depth m).1.1=0->(wrong t depth m).1=(0,0)/\0<=(wrong t depth m).2/\(wrong t depth m).2<=512
 | .mk h ps,depth,m,hm,he=>by
  have i1:=Fe h ps depth (m + 1) (by omega);have i2:=oJ h.ag (pNames ps) ps 0 depth (m + 1) (by omega);have i3:=AP h;simp only [wrong] at he ⊢;by_cases c0:24 < depth
  ·rw [ap c0] at he;simp at he
  rw [aj c0] at he ⊢;by_cases c1:512 < m + 1
  ·rw [ap c1] at he;simp at he
  rw [aj c1] at he ⊢;by_cases c2:h.ag < 1∨9 < h.ag
  all_goals grind
theorem Fe:∀ (h:Hd) (ps:Pts) (depth m:Int),0<=m->m<=512->(wrongOne h ps depth m).1.1=0->(wrongOne h ps depth m).1=(0,0)/\0<=(wrongOne h ps depth m).2/\(wrongOne h ps depth m).2<=512
 | h,.nil,depth,m,hm,_,he=>by simp [wrongOne] at he
 | h,.cons p t .nil,depth,m,hm,h5,he=>by
  have ih:=rT t (depth + 1) m hm
  grind [wrongOne]
 | h,.cons p t (.cons _ _ _),depth,m,hm,_,he=>by simp [wrongOne] at he
theorem oJ (ag:Int) (all:List Wd):∀ (ps:Pts) (i:Nat) (depth m:Int),0<=m->m<=512->(wrongPts ag all i ps depth m).1.1=0->(wrongPts ag all i ps depth m).1=(0,0)/\0<=(wrongPts ag all i ps depth m).2/\(wrongPts ag all i ps depth m).2<=512
 | .nil,i,depth,m,hm,h5,he=>by simp only [wrongPts];exact ⟨trivial,hm,h5⟩
 | .cons p t r,i,depth,m,hm,h5,he=>by
  have i1:=rT t (depth + 1) m hm;simp only [wrongPts] at he ⊢;split at he
  ·rename_i h1;exact (h1 he).elim
  ·rename_i h1;rw [aj h1];split at he
   ·rename_i h2;rw [ap h2];split at he
    ·simp at he
    ·rename_i h3;rw [aj h3];exact oJ ag all r (i + 1) depth m hm h5 he
   ·rename_i h2;rw [aj h2];split at he
    ·rename_i h3;exact (h3 he).elim
    ·rename_i h3;rw [aj h3];split at he
     ·rename_i h4;exact (h4 he).elim
     ·rename_i h4;rw [aj h4];have i2:=i1 (sU h4);exact oJ ag all r (i + 1) depth _ i2.2.1 i2.2.2 he
end
theorem CG (k:Nat) (ih:CF k) (h:Hd) (ps:Pts) (depth m:Int) (hk:ps.wt<=k) (cQ:(Ty.mk h ps).wt<=1099511627776) (AK:0<=depth) (ta:depth<=24) (om:0<=m) (jY:m<=512) :
  EvP prog 282 [wD (0,0) m,.agg (eK (.mk h ps)),.v (.int .i64 depth)] (wD (fK h ps depth m).1 (fK h ps depth m).2):=by
 simp only [Ty.wt,Hd.wt] at cQ;have gP:=ps.gF;have Yh:=tN ps;refine eG 126 [.cell 6 335] func282 rfl ntmps282 rfl fun _ _ _ _=>?_;refine br ?_ ?_<;>intro c1
 ·refine cP ie (fg (0,0) m 15 h.aO) ?_;have:fK h ps depth m=((15,h.aO),m):=by grind [av,aN,fK]
  refine ⟨_,?_,rfl⟩;rw [this];exact ax
 ·have c1':¬ (h.ag=8/\ps.len=0):=by
   simp [av,aN] at c1;omega
  refine br ?_ ?_<;>intro c2
  ·have aq:64 < ps.len:=by simp [aN] at c2;omega
   obtain ⟨p,t,hx⟩:=Pts.fl aq;refine ki (fun i=>Nat.beq i 8) mo (by decide +kernel) ?_;refine iX (cq hx) ?_;refine cD ie (fg (0,0) m 8 p.name.a) ?_;have:fK h ps depth m=((8,p.name.a),m):=by grind [fK,hY]
   refine ⟨_,?_,rfl⟩;rw [this];exact ax
  ·have c2':¬ 64 < ps.len:=by simp [aN] at c2;omega
   have hF:fK h ps depth m=wrongPts h.ag (pNames ps) 0 ps depth m:=by simp only [fK,aj c1',aj c2']
   refine aY (fun j st=>∃ (e:Nat) (m':Int),st=KV (.mk h ps) e depth m' /\ e<=ps.len/\0<=m' /\ m' <= 512 /\
     wrongPts h.ag (pNames ps) 0 ps depth m=wrongPts h.ag (pNames ps) e (ps.drop e) depth m' /\ j=ps.len - e) ps.len
    (KV (.mk h ps) 0 depth m) (bz wB) ⟨0,m,rfl,by omega,om,jY,rfl,by omega⟩ ?_
   rintro j st ⟨e,m',rfl,he,CH,Ff,aP,rfl⟩;refine br ?_ ?_<;>intro hL
   ·have aq:e < ps.len:=by simpa [aN] using hL
    obtain ⟨p,t,hx⟩:=Pts.fl aq;rw [Pts.drop_cons hx] at aP;have HD:=Pts.gY (mG hx);obtain ⟨u,us⟩:=t;refine iX (cq hx) ?_;refine cP ab2 (CD ps (by omega)) ?_;refine cP Wf (qx (pNames ps) e p.name (by omega) (hY hx)) ?_;refine br ?_ ?_<;>intro hl
    ·have hl:aK (pNames ps) e p.name≠0:=sU hl;refine cP ie (fg (0,0) m' _ p.name.a) ?_;have:fK h ps depth m=((aK (pNames ps) e p.name,p.name.a),m'):=by grind [wrongPts]
     refine ⟨_,?_,rfl⟩;rw [this];exact ax
    ·have hl:aK (pNames ps) e p.name=0:=sU hl;simp only [wrongPts] at aP;rw [aj (by simp [hl])] at aP;refine br ?_ ?_<;>intro hB
     ·rw [ap hB] at aP;refine br ?_ ?_<;>intro k7
      ·have k7:¬ h.ag=7:=sU k7;refine cP ab3 (Fb (.mk u us) (by omega)) ?_;refine br ?_ ?_<;>intro z
       ·have z:sameTy (.mk u us) c9=true:=by simpa [aw,k7] using z
        refine cP Pw (nq p jZ (eK (.mk u us)) (eK c9) (by omega) (AO _ _ _ _ _) (AO _ _ _ _ _)) ?_;refine br ?_ ?_<;>intro q
        ·have q:cO p jZ=false:=by simpa [aw,k7,z] using q
         refine cP ie (fg (0,0) m' 19 p.name.a) ?_;rw [ap (by simp [q])] at aP;refine ⟨_,?_,rfl⟩;rw [hF,aP];exact ax
        ·have q:cO p jZ=true:=by simpa [aw,k7,z] using q
         rw [aj (by simp [k7,z,q])] at aP;exact rE ⟨_,by omega,e + 1,m',rfl,by omega,CH,Ff,aP,rfl⟩ (bz (cJ (aG aq (by omega))))
       ·have z:sameTy (.mk u us) c9=false:=by simpa [aw,k7] using z
        refine cP ie (fg (0,0) m' 19 p.name.a) ?_;rw [ap (by simp [z])] at aP;refine ⟨_,?_,rfl⟩;rw [hF,aP];exact ax
      ·have k7:h.ag=7:=sU k7;refine cP ie (fg (0,0) m' 19 p.name.a) ?_;rw [ap (by simp [k7])] at aP;refine ⟨_,?_,rfl⟩;rw [hF,aP];exact ax
     ·rw [aj (by simp [hB])] at aP;refine br ?_ ?_<;>intro hw
      ·have hP:eE p=(20,p.name.a):=by grind [aw,eE]
       rw [ap (by rw [hP];simp),hP] at aP;refine ⟨_,?_,rfl⟩;rw [hF,aP];exact ax
      ·have hw:¬ (p.wide < 0∨64 < p.wide):=by simp [aw] at hw;omega
       have hpw:p.wt<=ps.wt:=by omega
       simp only [Ph.wt] at hpw;refine cP Pv (nr p.label (by omega)) ?_;refine br ?_ ?_<;>intro hb
       ·have hb:(b9 p.label).1=0:=sU hb;have hP:eE p=bo p:=by simp only [eE,aj hw,hb,ne_eq,not_true_eq_false,if_false]
        rw [hP] at aP;refine cP ab4 (z6 p (eK (.mk u us)) (by omega)) ?_ (by repeat' (first | exact rfl | exact trivial | exact Or.inr (Or.inl ⟨_,rfl⟩) | exact Or.inr ⟨_,rfl⟩ | exact Or.inl ⟨rfl,rfl⟩ | exact Or.inl rfl | refine Or.inr ⟨_,_,rfl,Nat.zero_le _,rfl,?_⟩ | refine ⟨_,_,rfl,?_,?_⟩ | refine ⟨_,rfl,?_⟩ | exact congrArg DV.agg rfl| refine Or.inr (Or.inr (Or.inr ⟨_,_,rfl,?_⟩)) | exact Or.inl rfl | refine Or.inr ?_));refine br ?_ ?_<;>intro hc
        ·have hc:(bo p).1≠0:=sU hc;rw [ap hc] at aP;refine ⟨_,?_,rfl⟩;rw [hF,aP];exact ax
        ·have hc:(bo p).1=0:=sU hc;rw [aj (by simp [hc])] at aP;have HB:=ih (.mk u us) (depth + 1) m' (by omega) (by omega) (by omega) (by omega) CH Ff;have aZ:=rT (.mk u us) (depth + 1) m' CH;generalize wrong (.mk u us) (depth + 1) m'=r at HB aZ aP;obtain ⟨⟨fe,fa⟩,many⟩:=r;simp only at HB aZ aP;refine cP Pt HB ?_ (by repeat' (first | exact rfl | exact trivial | exact Or.inr (Or.inl ⟨_,rfl⟩) | exact Or.inr ⟨_,rfl⟩ | exact Or.inl ⟨rfl,rfl⟩ | exact Or.inl rfl | refine Or.inr ⟨_,_,rfl,Nat.zero_le _,rfl,?_⟩ | refine ⟨_,_,rfl,?_,?_⟩ | refine ⟨_,rfl,?_⟩ | exact congrArg (fun z=>DV.v (.int .i64 z)) (wrap64 (by omega) (by omega))| refine Or.inr (Or.inr (Or.inr ⟨_,_,rfl,?_⟩)) | exact Or.inl rfl | refine Or.inr ?_));refine br ?_ ?_<;>intro hd
         ·have hd:fe≠0:=sU hd;rw [ap hd] at aP;refine ⟨_,?_,rfl⟩;rw [hF,aP];exact ax
         ·have hd:fe=0:=sU hd;subst hd;obtain ⟨h1,h2,h3⟩:=aZ rfl;simp only [Prod.mk.injEq,true_and] at h1;subst h1;rw [aj (by simp)] at aP;exact rE ⟨_,by omega,e + 1,many,rfl,by omega,h2,h3,aP,rfl⟩ (bz (cJ (aG aq (by omega))))
       ·have hb:¬ (b9 p.label).1=0:=sU hb;have hP:eE p=b9 p.label:=by simp only [eE,aj hw];rw [ap hb]
        rw [hP,ap hb] at aP;refine br ?_ ?_<;>intro hc
        ·refine ⟨_,?_,rfl⟩;rw [hF,aP];exact ax
        ·exact (hb (sU hc)).elim
   ·have hge:e=ps.len:=by simp [aN] at hL;omega
    rw [hge,Pts.dR] at aP;refine ⟨_,?_,rfl⟩;rw [hF,aP];simp only [wrongPts];exact ax
theorem bJ (e a:Int):EvP prog 252 [.v (.int .i64 e),.v (.int .i64 a)] (Ft.d (e,a)):=by
 refine eG 8 [.cell 4 44] func252 rfl ntmps252 rfl fun _ _ _ _=>?_;exact ⟨_,ax,rfl⟩
noncomputable def iB (L:List ByteArray) (x:ByteArray) (a:Int):Ft:=if bE x=true then (if L.Nodup then (0,0) else (10,a)) else (9,a)
theorem u2 (L:List ByteArray) (x:ByteArray) (a:Int) (hx:L[L.length - 1]? = some x) (hl:L.length<=1099511627776) (HA:x.size<=4611686018427387904) :
  EvP prog 303 [.sl 1 (fF L) none,.v (.int .i64 a)] (iB L x a).d:=by
 have hN:=cG L;have jk:=(gS hx).1;have hz:IntKind.i64.wrap (((fF L).length:Int) - 1)=((L.length - 1:Nat):Int):=by rw [hN,wrap64 (by omega) (by omega)];omega
 refine eG 23 [.cell 4 44] func303 rfl ntmps303 rfl fun _ _ _ _=>?_;refine ⟨[.v (.string x)],⟨by rw [hz];omega,by rw [hz];exact gT hx⟩,?_⟩;refine cP xH (jr x HA) ?_;refine br ?_ ?_<;>intro h
 ·have h:bE x=false:=sU h;refine cP eQ (bJ 9 a) ?_;refine ⟨_,?_,rfl⟩;rw [iB,aj (by rw [h];decide)];exact ax
 ·have h:bE x=true:=sU h;refine dj Pg rfl (qR L hl) ax (fun r hr=>?_);obtain ⟨z,rfl,hz⟩:=hr;refine br ?_ ?_<;>intro h2
  ·have h2:0<=z:=sU h2;refine cP eQ (bJ 10 a) ?_;refine ⟨_,?_,rfl⟩;rw [iB,ap h,aj (hz.1 h2)];exact ax
  ·have h2:¬ 0<=z:=sU h2;refine ⟨_,?_,rfl⟩;rw [iB,ap h,ap (Classical.byContradiction fun hn=>h2 (hz.2 hn))];exact ax
theorem Il {l:List Wd} {e:Nat} {x:Wd} (h:l[e]? = some x):bT ((l.map fun w=>(⟨w.s,0⟩:Wd)).take e) ++ [[.v (.string x.s),.v (.int .i64 0)]]=bT ((l.map fun w=>(⟨w.s,0⟩:Wd)).take (e + 1)):=by
 have h2:(l.map fun w=>(⟨w.s,0⟩:Wd))[e]? = some ⟨x.s,0⟩:=by simp [h]
 exact AJ h2
def ju (l:List Wd):List Wd:=l.map fun w=>⟨w.s,0⟩
abbrev PN (l l':List Wd) (n e:Nat):St:=
 ⟨[aM 6 2 (bT l),au 7 ((bT l).length),au 8 e,(3,⟨[],.sl 2 (bT l') (some 0)⟩)],[],[⟨n,27,2,none⟩]⟩
theorem xT (l:List Wd) (hs:wdsWt l<=1099511627776):EvP prog 371 [.sl 2 (bT l) none] (.sl 2 (bT (ju l)) none):=by
 have hl:=bI l;refine eG 20 [.tmp 2] func371 rfl ntmps371 rfl fun _ _ _ _=>?_;refine aY (fun j st=>∃ e:Nat,st=PN l ((ju l).take e) e e/\e<=l.length/\j=l.length - e) l.length (PN l [] 0 0) (eP ⟨0,27,2,none⟩ rfl ⟨_,rfl⟩ rfl wA rfl rfl lj) ⟨0,by simp,by omega,by omega⟩ ?_;rintro j st ⟨e,rfl,he,rfl⟩;refine br ?_ ?_<;>intro h
 ·have aq:e < l.length:=by simpa [aD] using h
  obtain ⟨w,hw⟩:=gX aq;refine ⟨kP w,⟨by omega,bd hw⟩,?_⟩;refine ⟨by simp [aD,ju];omega,⟨by simp [aD,ju,maxLen];omega,by simp [aD,ju];omega⟩,?_⟩;refine ⟨PN l ((ju l).take (e + 1)) (e + 1) (e + 1),(bz (wB2 (aG aq (by omega)) (Il hw))),l.length - (e + 1),by omega,e + 1,rfl,by omega,rfl⟩
 ·have hge:e=l.length:=by
   have:=h;simp [aD] at this;omega
  rw [hge,List.take_of_length_le (by simp [ju])];exact ⟨_,ax,rfl⟩
abbrev xU (l:List Wd) (e:Nat):St:=
 ⟨[aM 13 2 (bT l),au 14 ((bT l).length),aE 2 0,au 15 e],[[.v (.int .i64 0),.v (.int .i64 0)]],[]⟩
theorem jO (l:List Wd) (hs:wdsWt l<=1099511627776) :
  EvP prog 328 [.sl 2 (bT l) none] (b9 l).d:=by
 have ov:=bI l;refine eG 28 [.cell 2 44] func328 rfl ntmps328 rfl fun _ _ _ _=>?_;refine br ?_ ?_<;>intro h
 ·have aq:32 < l.length:=by simp [aD] at h;omega
  obtain ⟨x,hx⟩:=gX aq;have:b9 l=(8,x.a):=by simp [b9,Nat.not_le.2 aq,hx]
  refine ⟨kP x,⟨by omega,bd hx⟩,?_⟩;refine cP eQ (bJ 8 x.a) ?_;refine ⟨_,?_,rfl⟩;rw [this];exact ax
 ·have fb:l.length<=32:=by simp [aD] at h;omega
  refine aY (fun j st=>∃ e:Nat,st=xU l e/\e<=l.length/\badWd l=badWd (l.drop e)/\j=l.length - e) l.length
   (xU l 0) (bz wB) ⟨0,rfl,by omega,rfl,by omega⟩ ?_
  rintro j st ⟨e,rfl,he,aP,rfl⟩;refine br ?_ ?_<;>intro hL
  ·have aq:e < l.length:=by simpa [aD] using hL
   obtain ⟨x,hx⟩:=gX aq;rw [drop_cons hx] at aP;have HA:=jo (mG hx);refine ⟨kP x,⟨by omega,bd hx⟩,?_⟩;refine cP xH (jr x.s (by omega)) ?_;refine br ?_ ?_<;>intro hN
   ·have hN:bE x.s=false:=sU hN;have:b9 l=(9,x.a):=by simp [b9,fb,aP,badWd,hN]
    refine cP eQ (bJ 9 x.a) ?_;refine ⟨_,?_,rfl⟩;rw [this];exact ax
   ·have hN:bE x.s=true:=sU hN;refine ⟨xU l (e + 1),(bz (cJ (aG aq (by omega)))),l.length - (e + 1),by omega,e + 1,rfl,by omega,?_,rfl⟩;rw [aP];simp [badWd,hN]
  ·have hge:e=l.length:=by simp [aD] at hL;omega
   have:b9 l=(0,0):=by simp [b9,fb,aP,hge,badWd]
   refine ⟨_,?_,rfl⟩;rw [this];exact ax
theorem CI (p:Ph) (tl:List DV) (t:Ty) (hZ:tl=eK t) (hs:p.wt<=1099511627776) :
  EvP prog 329 [.agg (Ia p tl)] (bo p).d:=by
 subst hZ;obtain ⟨u,us⟩:=t;simp only [Ph.wt] at hs;refine eG 55 [.cell 2 44] func329 rfl ntmps329 rfl fun _ _ _ _=>?_;refine br ?_ ?_<;>intro h0
 ·have h0:p.ck=0:=of_decide_eq_true h0;refine br ?_ ?_<;>intro h1
  ·have:bo p=(19,p.name.a):=by grind [aw,aD,bo]
   refine cP eQ (bJ 19 p.name.a) ?_;refine ⟨_,?_,rfl⟩;rw [this];exact ax
  ·have fU:p.cl=[]:=by
    simp [aw,aD] at h1;exact h1.2
   have:bo p=(0,0):=by grind [aw,aD,bo]
   have h00:b9 p.cl=(0,0):=by rw [fU];simp [b9,badWd]
   refine cP EV (jO p.cl (by omega)) ?_;refine ⟨_,?_,rfl⟩;rw [this,<- h00];exact ax
 have h0:¬ p.ck=0:=of_decide_eq_false h0;refine br ?_ ?_<;>intro h1
 ·have h1:p.ck=1:=of_decide_eq_true h1;refine br ?_ ?_<;>intro h2
  ·have:bo p=(20,p.ca):=by grind [av,bo]
   refine cP eQ (bJ 20 p.ca) ?_;refine ⟨_,?_,rfl⟩;rw [this];exact ax
  ·have:bo p=b9 p.cl:=by grind [av,bo]
   refine cP EV (jO p.cl (by omega)) ?_;refine ⟨_,?_,rfl⟩;rw [this];exact ax
 have h1:¬ p.ck=1:=of_decide_eq_false h1;refine br ?_ ?_<;>intro h3
 ·have h3:p.ck=2:=of_decide_eq_true h3;refine br ?_ ?_<;>intro h2
  ·have:bo p=(20,p.ca):=by grind [av,bo]
   refine cP eQ (bJ 20 p.ca) ?_;refine ⟨_,?_,rfl⟩;rw [this];exact ax
  ·have:bo p=b9 p.cl:=by grind [av,bo]
   refine cP EV (jO p.cl (by omega)) ?_;refine ⟨_,?_,rfl⟩;rw [this];exact ax
 have h3:¬ p.ck=2:=of_decide_eq_false h3;refine br ?_ ?_<;>intro h4
 ·have h4:p.ck=3:=of_decide_eq_true h4;refine br ?_ ?_<;>intro h2
  ·have:bo p=(20,p.ca):=by grind [av,bo]
   refine cP eQ (bJ 20 p.ca) ?_;refine ⟨_,?_,rfl⟩;rw [this];exact ax
  ·have:bo p=b9 p.cl:=by grind [av,bo]
   refine cP EV (jO p.cl (by omega)) ?_;refine ⟨_,?_,rfl⟩;rw [this];exact ax
 have h4:¬ p.ck=3:=of_decide_eq_false h4;have:bo p=(14,p.ca):=by grind [bo]
 refine cP eQ (bJ 14 p.ca) ?_;refine ⟨_,?_,rfl⟩;rw [this];exact ax
theorem PO (w:World) (x y:Operand) (vs vs':Array Value):(eqGuard .neq 27 x y (.agg vs) (.agg vs')).run prog w = .ok () w:=by
 have h:prog.eqGuardType prog.depth 27=false:=by kernel_rfl
 simp [eqGuard,run_program,h]
theorem Yi (a b:ByteArray) (p q:Int) (w:World):(binOp .neq 27 (.agg #[.string a,.int .i64 p]) (.agg #[.string b,.int .i64 q])).run prog w = .ok (.bool (!(decide (a=b) && decide (p=q)))) w:=by
 have hf:prog.underlying 27=some (.struct (prog.fieldsOf 27)):=by simp [Program.fieldsOf,Tryz.underlying27]
 have vz:(prog.fieldsOf 27).toList=[⟨ "Name",9,0,false, "", "",0⟩,⟨ "At",3,1,false, "", "",16⟩]:=by simp [Program.fieldsOf,Tryz.underlying27]
 have hs:prog.stoodInHeld 27=false:=by kernel_rfl
 have hm:∃ d,Op.maxDepth=d + 1 + 1:=⟨Op.maxDepth - 2,by decide⟩;obtain ⟨d,hm⟩:=hm
 have he:(Op.equal 27 (.agg #[.string a,.int .i64 p]) (.agg #[.string b,.int .i64 q])).run prog w = .ok (decide (a=b) && decide (p=q)) w:=by
  unfold Op.equal;rw [hm,run_equalIn_struct w (d + 1) 27 _ _ hf hs,vz]
  have e1:(a.toList == b.toList)=decide (a=b):=by
   rw [ByteArray.toList_eq,ByteArray.toList_eq];by_cases h:a=b
   ·subst h;simp
   ·have:¬ a.data=b.data:=fun e=>h (ByteArray.ext e);simp [h,this]
  have q9:∀ cs:Array Value,∀ off v,cs[off]? = some v->(part 9 cs off).run prog w = .ok v w:=fun cs off v h=>by
   simp [part,Tryz.isAgg9,h]
  have q3:∀ cs:Array Value,∀ off v,cs[off]? = some v->(part 3 cs off).run prog w = .ok v w:=fun cs off v h=>by
   simp [part,Tryz.isAgg3,h]
  simp only [Op.eqFields,ne_eq,String.reduceEq,not_false_eq_true,if_true,Sem.run_bind,q9 #[.string a,.int .i64 p] 0 (.string a) rfl,q9 #[.string b,.int .i64 q] 0 (.string b) rfl,Result.andThen_ok,run_equalIn_string w d 9 a b Tryz.underlying9,e1];by_cases h:a=b
  ·simp only [h,decide_true,Bool.not_true,Bool.false_eq_true,if_false,Sem.run_bind,q3 #[.string b,.int .i64 p] 1 (.int .i64 p) rfl,q3 #[.string b,.int .i64 q] 1 (.int .i64 q) rfl,Result.andThen_ok,run_equalIn_int w d 3 .i64 .i64 p q Tryz.underlying3];by_cases h2:p=q<;>simp [h2,Sem.run_pure]
  ·simp [h,Sem.run_pure]
 show ((do let r <- Op.equal 27 _ _;pure (Value.bool !r)):Sem Value).run prog w=_;simp only [Sem.run_bind,he,Result.andThen_ok,Sem.run_pure]
theorem TJ (x y:Operand) (a b:Wd):HM prog .neq x y 27 (kP a) (kP b) (!(decide (a.s=b.s) && decide (a.a=b.a))):=
 ⟨[.string a.s,.int .i64 a.a],[.string b.s,.int .i64 b.a],rfl,rfl,fun w=>⟨PO w x y _ _,Yi a.s b.s a.a b.a w⟩⟩
def eqWds:List Wd->List Wd->Bool
 | [],[]=>true
 | x :: r,y :: s=>(decide (x.s=y.s) && decide (x.a=y.a)) && eqWds r s
 | _,_=>false
theorem AQ:∀ {a b:List Wd},a.length≠b.length->eqWds a b=false
 | [],[],h=>(h rfl).elim
 | [],_ :: _,_=>rfl
 | _ :: _,[],_=>rfl
 | x :: r,y :: s,h=>by
  simp only [eqWds];rw [AQ (a:=r) (b:=s) (sU h),Bool.and_false]
theorem u3:∀ a b:List Wd,eqWds (ju a) (ju b)=sameWds a b
 | [],[]=>rfl
 | [],_ :: _=>rfl
 | _ :: _,[]=>rfl
 | x :: r,y :: s=>by
  have:=u3 r s
  grind [ju,eqWds,sameWds]
abbrev PQ (a b:List Wd) (e:Nat):St:=
 ⟨[aM 0 2 (bT a),aM 1 2 (bT b),au 12 ((bT a).length),au 13 e],[],[]⟩
theorem Fg (a b:List Wd) (hs:a.length<=1099511627776) :
  EvP prog 370 [.sl 2 (bT a) none,.sl 2 (bT b) none] (.v (.bool (eqWds a b))):=by
 refine eG 26 [.tmp 4] func370 rfl ntmps370 rfl fun _ _ _ _=>?_;refine br ?_ ?_<;>intro h
 ·have bA:a.length≠b.length:=by have:=h;simp [aD] at this;omega
  exact congrArg (fun b=>DV.v (.bool b)) (AQ bA).symm
 ·have hl:a.length=b.length:=by have:=h;simp [aD] at this;omega
  refine aY (fun j st=>∃ e:Nat,st=PQ a b e/\e<=a.length/\eqWds a b=eqWds (a.drop e) (b.drop e)/\j=a.length - e) a.length
   (PQ a b 0) (bz wB) ⟨0,rfl,by omega,rfl,by omega⟩ ?_
  rintro j st ⟨e,rfl,he,aP,rfl⟩;refine br ?_ ?_<;>intro h
  ·have aq:e < a.length:=by simpa [aD] using h
   obtain ⟨x,hx⟩:=gX aq;obtain ⟨y,hy⟩:∃ y,b[e]? = some y:=⟨_,gE (hl ▸ aq)⟩;rw [drop_cons hx,drop_cons hy] at aP;refine dI ?_;refine ⟨kP x,⟨by omega,bd hx⟩,kP y,⟨by omega,bd hy⟩,_,TJ _ _ x y,?_⟩;refine br ?_ ?_<;>intro h
   ·have bA:(decide (x.s=y.s) && decide (x.a=y.a))=false:=by grind
    refine (bP ?_:);rw [aP];simp only [eqWds,bA,Bool.false_and]
   ·have bA:(decide (x.s=y.s) && decide (x.a=y.a))=true:=by grind
    refine ⟨PQ a b (e + 1),(bz (cJ (aG aq (by omega)))),a.length - (e + 1),by omega,e + 1,rfl,by omega,?_,rfl⟩;rw [aP];simp only [eqWds,bA,Bool.true_and]
  ·have hge:e=a.length:=by have:=h;simp [aD] at this;omega
   refine (bP ?_:);rw [aP,hge,hl];simp [eqWds];rw [<- hl];simp [eqWds]
theorem iC (a b:List Wd) (ha:wdsWt a<=1099511627776) (hb:wdsWt b<=1099511627776) :
  EvP prog 353 [.sl 2 (bT a) none,.sl 2 (bT b) none] (.v (.bool (sameWds a b))):=by
 have hl:=bI a;refine eG 10 [.tmp 4] func353 rfl ntmps353 rfl fun _ _ _ _=>?_;refine cP Wl (xT a ha) ?_;refine cP Wl (xT b hb) ?_;refine cP ace (Fg (ju a) (ju b) (by simp [ju];omega)) ?_;refine (bP ?_:);exact u3 a b
def eqPts (F:Ph->Ty->Ph->Ty->Bool):Pts->Pts->Bool
 | .nil,.nil=>true
 | .cons p t r,.cons q u s=>F p t q u && eqPts F r s
 | _,_=>false
theorem AR {F:Ph->Ty->Ph->Ty->Bool}:∀ {a b:Pts},a.len≠b.len->eqPts F a b=false
 | .nil,.nil,h=>(h rfl).elim
 | .cons p t r,.cons q u s,h=>by
  simp only [eqPts];rw [AR (a:=r) (b:=s) (by simpa [Pts.len] using h),Bool.and_false]
 | .nil,.cons _ _ _,_=>rfl
 | .cons _ _ _,.nil,_=>rfl
def dF (p:Ph) (t:Ty) (q:Ph) (u:Ty):Bool:=decide (p.name.s=q.name.s) && cO p q && sameTy t u
theorem xV:∀ a b:Pts,eqPts dF a b=samePts a b
 | .nil,.nil=>by simp [eqPts,samePts]
 | .cons p t r,.cons q u s=>by simp only [eqPts,samePts,dF,xV r s]
 | .nil,.cons _ _ _=>by simp [eqPts,samePts]
 | .cons _ _ _,.nil=>by simp [eqPts,samePts]
abbrev PR (a b:Pts) (g e:Nat):St:=
 ⟨[aM 1 18 (gG b),(2,⟨[],.fn g [] []⟩),aM 15 18 (gG a),au 16 ((gG a).length),au 17 e],[],[]⟩
theorem Fh (g:Nat) (lm:Enters prog g) (F:Ph->Ty->Ph->Ty->Bool) (a b:Pts) (hs:a.wt<=1099511627776)
  (hF:∀ (e:Nat) p t q u,a.toList[e]? = some (p,t)->b.toList[e]? = some (q,u)->EvP prog g [.agg (Ia p (eK t)),.agg (Ia q (eK u))] (.v (.bool (F p t q u)))) :
  EvP prog 372 [.sl 18 (gG a) none,.sl 18 (gG b) none,.fn g [] []] (.v (.bool (eqPts F a b))):=by
 have lu:=a.gF;refine eG 32 [.tmp 6] func372 rfl ntmps372 rfl fun _ _ _ _=>?_;refine br ?_ ?_<;>intro h
 ·have bA:a.len≠b.len:=by have:=h;simp [aN] at this;omega
  exact congrArg (fun b=>DV.v (.bool b)) (AR bA).symm
 ·have hl:a.len=b.len:=by have:=h;simp [aN] at this;omega
  refine aY (fun j st=>∃ e:Nat,st=PR a b g e/\e<=a.len/\eqPts F a b=eqPts F (a.drop e) (b.drop e)/\j=a.len - e) a.len
   (PR a b g 0) (bz wB) ⟨0,rfl,by omega,rfl,by omega⟩ ?_
  rintro j st ⟨e,rfl,he,aP,rfl⟩;refine br ?_ ?_<;>intro h
  ·have aq:e < a.len:=by simpa [aN] using h
   obtain ⟨p,t,hx⟩:=Pts.fl aq;obtain ⟨q,u,hy⟩:=Pts.fl (hl ▸ aq);rw [Pts.drop_cons hx,Pts.drop_cons hy] at aP;have hev:=hF e p t q u hx hy;obtain ⟨t,ts⟩:=t;obtain ⟨u,us⟩:=u;refine iX (cq hx) ?_;refine iX (cq hy) ?_;refine cP lm hev ?_;refine br ?_ ?_<;>intro h
   ·have bA:F p (.mk t ts) q (.mk u us)=false:=sU h;refine (bP ?_:);rw [aP];simp only [eqPts,bA,Bool.false_and]
   ·have bA:F p (.mk t ts) q (.mk u us)=true:=sU h;refine ⟨PR a b g (e + 1),(bz (cJ (aG aq (by omega)))),a.len - (e + 1),by omega,e + 1,rfl,by omega,?_,rfl⟩;rw [aP];simp only [eqPts,bA,Bool.true_and]
  ·have hge:e=a.len:=by have:=h;simp [aN] at this;omega
   refine (bP ?_:);rw [aP,hge,Pts.dR,hl,Pts.dR];simp [eqPts]
theorem oK (p q:Ph) (t u:Ty) (hp:p.wt<=1099511627776) (hq:q.wt<=1099511627776)
  (ht:EvP prog 354 [.agg (eK t),.agg (eK u)] (.v (.bool (sameTy t u)))) :
  EvP prog 327 [.agg (Ia p (eK t)),.agg (Ia q (eK u))] (.v (.bool (dF p t q u))):=by
 simp only [Ph.wt] at hp hq;obtain ⟨th,tps⟩:=t;obtain ⟨uh,ups⟩:=u;refine eG 71 [.tmp 4] func327 rfl ntmps327 rfl fun _ _ _ _=>?_
 have e0:dF p (.mk th tps) q (.mk uh ups)=(((decide (p.name.s=q.name.s) && (p.bare == q.bare)) && decide (p.wide=q.wide)) && sameWds p.label q.label && ((decide (p.ck=q.ck) && decide (p.cn=q.cn)) && sameWds p.cl q.cl) && sameTy (.mk th tps) (.mk uh ups)):=by
  simp only [dF,cO,Bool.and_assoc]
 rw [e0];refine br ?_ ?_<;>intro hA
 ·simp only [av] at hA;refine cP KR (iC p.label q.label (by omega) (by omega)) ?_;refine br ?_ ?_<;>intro hB
  ·simp only [av] at hB;refine cP KR (iC p.cl q.cl (by omega) (by omega)) ?_;refine br ?_ ?_<;>intro hC
   ·refine cP aca ht ?_;refine (bP ?_:);simp only [av,Bool.true_and,Bool.and_true] at hC ⊢
    simp_all
   ·refine (bP ?_:);simp only [av,Bool.true_and,Bool.and_true] at hC ⊢
    simp_all
  ·simp only [av] at hB;refine br ?_ ?_<;>intro hC
   ·exfalso;simp [av] at hC
   ·refine (bP ?_:)
    simp_all
 ·simp only [av,beq_true] at hA;refine br ?_ ?_<;>intro hB
  ·refine cP KR (iC p.cl q.cl (by omega) (by omega)) ?_;refine (bP ?_:);rw [hA];rfl
  ·refine (bP ?_:);rw [hA];rfl
theorem AS:∀ (n:Nat) (a b:Ty),a.wt<=n->a.wt<=1099511627776->b.wt<=1099511627776 ->
  EvP prog 354 [.agg (eK a),.agg (eK b)] (.v (.bool (sameTy a b)))
 | 0,a,b,hn,_,_=>by have:=a.fk;omega
 | n + 1,.mk h ps,.mk k qs,hn,cQ,acu=>by
  have ih:=AS n;simp only [Ty.wt,Hd.wt] at hn cQ acu
  have hE:EvP prog 372 [.sl 18 (gG ps) none,.sl 18 (gG qs) none,.fn 327 [] []] (.v (.bool (samePts ps qs))):=by
   rw [<- xV];refine Fh 327 Py dF ps qs (by omega) fun e p t q u hx hy=>?_;have HE:=Pts.gY (mG hx);have pk:=Pts.gY (mG hy);exact oK p q t u (by omega) (by omega) (ih t u (by omega) (by omega) (by omega))
  refine eG 53 [.tmp 4] func354 rfl ntmps354 rfl fun _ _ _ _=>?_;refine br ?_ ?_<;>intro hA
  ·simp [aw] at hA;obtain ⟨⟨⟨⟨e1,e2⟩,e3⟩,e4⟩,e5⟩:=hA;refine cP KR (iC h.af k.af (by omega) (by omega)) ?_;refine br ?_ ?_<;>intro hB
   ·refine (bP ?_:);simp [aw,e1,e2,e3,e4,e5] at hB;simp [sameTy,lR,hB]
   ·simp [aw,e1,e2,e3,e4,e5] at hB;refine cP acf hE ?_;refine (bP ?_:);simp [sameTy,lR,e1,e2,e3,e4,e5,hB]
  ·refine (bP ?_:);simp [aw] at hA;simp only [sameTy,lR]
   grind
theorem xW (a b:Ty) (ha:a.wt<=1099511627776) (hb:b.wt<=1099511627776):EvP prog 354 [.agg (eK a),.agg (eK b)] (.v (.bool (sameTy a b))):=AS _ a b (aV _) ha hb
def xX (h:Hd) (ps:Pts):Bool:=
 (((((decide (h.ag=2) || (decide (h.lo=0) && decide (h.hi=0))) && ((decide (h.ag=3) || decide (h.ag=5)) || decide (h.most=0))) && (decide (ps.len=0) || (decide (5<=h.ag) && decide (h.ag<=8)))) &&
  (decide (h.af.length=0) || decide (h.ag=4))) && (decide (h.name.s=ay) || decide (h.ag=9)))
theorem ME (h:Hd) (ps:Pts):EvP prog 253 [.agg (eK (.mk h ps))] (.v (.bool (xX h ps))):=by
 have l1:(((gG ps).length:Int)=0)=(ps.len=0):=by rw [aN];exact propext (by omega)
 have l2:(((bT h.af).length:Int)=0)=(h.af.length=0):=by rw [aD];exact propext (by omega)
 have he:(⟨#[]⟩:ByteArray)=ay:=rfl;refine eG 67 [.tmp 2] func253 rfl ntmps253 rfl fun _ _ _ _=>?_;refine br ?_ ?_<;>intro k2
 ·have k2:h.ag=2:=of_decide_eq_true k2;refine (bP ?_:);rw [Bool.eq_iff_iff];simp [av,aw,xX,aN,aD,k2,he]
 have k2:¬ h.ag=2:=of_decide_eq_false k2;refine br ?_ ?_<;>intro k3
 ·have k3:h.ag=3:=of_decide_eq_true k3;refine br (fun _=>?_) (fun hf=>?_)
  ·refine (bP ?_:);rw [Bool.eq_iff_iff];simp [av,aw,xX,aN,aD,k3,he]
  ·exact absurd k3 (of_decide_eq_false hf)
 have k3:¬ h.ag=3:=of_decide_eq_false k3;refine br ?_ ?_<;>intro k5
 ·have k5:h.ag=5:=of_decide_eq_true k5;refine (bP ?_:);rw [Bool.eq_iff_iff];simp [av,aw,xX,aN,aD,k5,he]
 have k5:¬ h.ag=5:=of_decide_eq_false k5;refine (bP ?_:);rw [Bool.eq_iff_iff];simp [av,aw,xX,aN,aD,k2,k3,k5,he]
theorem CJ:∀ ps:Pts,samePts ps ps=true:=by
 have wr:∀ l:List Wd,sameWds l l=true:=by
  intro l
  induction l with
  | nil=>rfl
  | cons x r ih=>simp [sameWds,ih]
 have key:∀ n,(∀ t:Ty,t.wt<=n->sameTy t t=true)/\(∀ ps:Pts,ps.wt<=n->samePts ps ps=true):=by
  intro n
  induction n using Nat.strongRecOn with
  | _ n ih=>
   have hp:∀ ps:Pts,ps.wt<=n->(∀ t:Ty,t.wt + 256<=n->sameTy t t=true)->samePts ps ps=true:=by
    intro ps
    induction ps using Pts.rec (motive_1:=fun _=>True) with
    | mk=>trivial
    | nil=>intros;simp [samePts]
    | cons p t r _ ihr=>
     intro hw ht;simp only [Pts.wt,Ph.wt] at hw;simp only [samePts];rw [ht t (by omega),ihr (by omega) ht];simp [cO,wr]
   refine ⟨fun t ht=>?_,fun ps PS=>?_⟩
   ·obtain ⟨h,ps⟩:=t;simp only [Ty.wt,Hd.wt] at ht;simp only [sameTy,lR]
    grind
   all_goals grind
 exact fun ps=>(key ps.wt).2 ps (aV _)
theorem KW (h:Hd) (ps:Pts):xX h ps=sameTy (.mk h ps) (mask (.mk h ps)):=by
 have wr:∀ l:List Wd,sameWds l l=true:=by
  intro l
  induction l with
  | nil=>rfl
  | cons x r ih=>simp [sameWds,ih]
 have wn:∀ l:List Wd,sameWds l []=decide (l.length=0):=by
  intro l;cases l<;>simp [sameWds]
 have pn:∀ l:Pts,samePts l .nil=decide (l.len=0):=by
  intro l;cases l<;>simp [samePts,Pts.len]
 have pr:=CJ ps;simp only [mask,sameTy,lR,j3];have e5:samePts ps (if 4 < h.ag/\h.ag < 9 then ps else .nil)=(decide (ps.len=0) || (decide (5<=h.ag) && decide (h.ag<=8))):=by grind
 have e6:sameWds h.af (if h.ag=4 then h.af else [])=(decide (h.af.length=0) || decide (h.ag=4)):=by grind
 grind [xX]
theorem Fi (p:Ph) (t:Ty) (hp:p.wt<=1099511627776):EvP prog 304 [.agg (Ia p (eK t))] (.v (.bool (dF p c9 fJ c9))):=by
 obtain ⟨th,tps⟩:=t;refine eG 8 [.tmp 2] func304 rfl ntmps304 rfl fun _ _ _ _=>?_;refine cP Py (oK p fJ c9 c9 hp (by decide) (xW c9 c9 (by decide) (by decide))) ?_;exact (rfl:_=_)
def az (l:List Wd):List ByteArray:=l.map fun w=>w.s
noncomputable def enumP (l:List Wd):Nat->Ft
 | 0=>(0,0)
 | e + 1=>
  if (enumP l e).1≠0 then enumP l e
  else match l[e]? with
   | some w=>iB (az (l.take (e + 1))) w.s w.a
   | none=>(0,0)
theorem qS {l:List Wd} {e:Nat} (h:(enumP l e).1≠0):∀ d,enumP l (e + d)=enumP l e
 | 0=>rfl
 | d + 1=>by
  have ih:=qS h d;rw [<- Nat.add_assoc,enumP,ih,ap h]
theorem CK {L:List ByteArray} {x:ByteArray} {a:Int} (h:(iB L x a).1=0):iB L x a=(0,0):=by
 unfold iB at *
 grind
theorem Im {l:List Wd}:∀ {e:Nat},(enumP l e).1=0->enumP l e=(0,0)
 | 0,_=>rfl
 | e + 1,h=>by
  rw [enumP] at h ⊢
  grind [CK]
theorem xY {l:List Wd} {e:Nat} {w:Wd} (h:(enumP l e).1=0) (hw:l[e]? = some w):enumP l (e + 1)=iB (az (l.take (e + 1))) w.s w.a:=by
 rw [enumP,aj (by rw [h];simp),hw]
noncomputable def oL (h:Hd):Ft:=
 if h.af.length=0 then (15,h.aO) else if 64 < h.af.length then (8,((h.af[64]?).getD (⟨ay,0⟩:Wd)).a) else enumP h.af h.af.length
abbrev PU (h:Hd) (ps:Pts) (n e:Nat):St:=
 ⟨[aE 1 0,aE 2 1,aM 27 2 (bT h.af),au 28 ((bT h.af).length),au 29 e,(3,⟨[],.sl 1 (fF (az (h.af.take e))) (some 0)⟩)],
  [eK (.mk h ps),[.v (.int .i64 0),.v (.int .i64 0)]],[⟨n,9,1,none⟩]⟩
theorem ku {l:List Wd} {e:Nat} {w:Wd} (h:l[e]? = some w):fF (az (l.take e)) ++ [[DV.v (.string w.s)]]=fF (az (l.take (e + 1))):=by
 rw [List.take_add_one,h];simp [fF,az]
theorem Io (h:Hd) (ps:Pts) (hs:wdsWt h.af<=1099511627776):EvP prog 254 [.agg (eK (.mk h ps))] (oL h).d:=by
 have hl:=bI h.af;refine eG 48 [.cell 2 44] func254 rfl ntmps254 rfl fun _ _ _ _=>?_;refine br ?_ ?_<;>intro h0
 ·have h0:h.af.length=0:=by have:=h0;simp [aD] at this;simp [this]
  refine cP eQ (bJ 15 h.aO) ?_;refine ⟨_,?_,rfl⟩;rw [oL,ap h0];exact ax
 have h0:¬ h.af.length=0:=by have:=h0;simp [aD] at this;simpa using this
 refine br ?_ ?_<;>intro h1
 ·have h1:64 < h.af.length:=by have:=h1;simp [aD] at this;omega
  obtain ⟨x,hx⟩:∃ x,h.af[64]? = some x:=⟨_,gE h1⟩;refine ⟨kP x,⟨by omega,bd hx⟩,?_⟩;refine cP eQ (bJ 8 x.a) ?_;refine ⟨_,?_,rfl⟩;rw [oL,aj h0,ap h1,hx];exact ax
 have h1:¬ 64 < h.af.length:=by have:=h1;simp [aD] at this;omega
 have hk:oL h=enumP h.af h.af.length:=by rw [oL,aj h0,aj h1]
 rw [hk];refine lI (fun j st=>∃ e:Nat,st=PU h ps e e/\e<=h.af.length/\(enumP h.af e).1=0/\j=h.af.length - e) ⟨0,rfl,by omega,rfl,rfl⟩ (eP ⟨0,9,1,none⟩ rfl ⟨_,rfl⟩ rfl wA rfl rfl lj) ?_;rintro j st ⟨e,rfl,he,hz,rfl⟩;refine br ?_ ?_<;>intro hL
 ·have aq:e < h.af.length:=by simpa [aD] using hL
  obtain ⟨w,hw⟩:=gX aq;have SU:=jo (mG hw);have rU:=xY hz hw;have PV:(az (h.af.take (e + 1)))[(az (h.af.take (e + 1))).length - 1]? = some w.s:=by grind [az]
  refine ⟨kP w,⟨by omega,bd hw⟩,?_⟩;refine ⟨by simp [cG,az];omega,⟨by simp [cG,az,maxLen];omega,by simp [cG,az];omega⟩,?_⟩;have dx:=ku hw;have Xz:=u2 (az (h.af.take (e + 1))) w.s w.a PV (by simp [az];omega) (by omega);rw [<- dx,<- rU] at Xz;refine cP Wh Xz ?_;refine br ?_ ?_<;>intro hf
  ·have hf:(enumP h.af (e + 1)).1≠0:=sU hf;refine ⟨_,?_,rfl⟩;have aW:=qS hf (h.af.length - (e + 1));rw [show e + 1 + (h.af.length - (e + 1))=h.af.length by omega] at aW;rw [aW];exact ax
  ·have hf:(enumP h.af (e + 1)).1=0:=sU hf;refine ⟨PU h ps (e + 1) (e + 1),(bz (wB2 (aG aq (by omega)) dx)),h.af.length - (e + 1),by omega,e + 1,rfl,by omega,hf,rfl⟩
 ·have hge:e=h.af.length:=by
   have:=hL;simp [aD] at this;omega
  subst hge;have aW:=Im hz;refine ⟨_,?_,rfl⟩;rw [aW];exact ax
def acv (t:Ty) (depth m:Int) (r:DV) (os:List (List DV)) (_:List TkE):Prop:=
 r=(wrong t depth m).1.d/\∃ z:Int,os=[[.v (.int .i64 z)]]/\((wrong t depth m).1.1=0->z=(wrong t depth m).2)
theorem Yj {t:Ty} {depth m:Int}:∀ r os tk,acv t depth m r os tk->clB 0 0 r=true/\∀ s9∈os,clB.clL 0 0 s9=true:=by
 rintro r os tk ⟨rfl,z,rfl,_⟩;refine ⟨rfl,fun s9 h=>?_⟩;simp only [List.mem_singleton] at h;subst h;rfl
theorem MF (t:Ty) (hc:Ev prog 199 [.loc 0 0,.agg (eK t),.v (.int .i64 1)] [[.v (.int .i64 0)]] [] (acv t 1 0)) :
  EvP prog 113 [.agg (eK t)] (wrong t 1 0).1.d:=by
 obtain ⟨h,ps⟩:=t;refine eG 9 [.cell 2 44] func113 rfl ntmps113 rfl fun _ _ _ _=>?_;refine nk Pq rfl rfl ax ax hc Yj (fun r s9 hr=>?_);obtain ⟨rfl,z,hz,_⟩:=hr;simp only [List.cons.injEq,and_true] at hz;subst hz;exact ⟨_,ax,rfl⟩
def mg (n:Nat):List UInt8:=if n < 10 then [UInt8.ofNat (48 + n)] else mg (n / 10) ++ [UInt8.ofNat (48 + n % 10)]
termination_by n
decreasing_by omega
theorem CL {n:Nat} (h:n < 10):mg n=[UInt8.ofNat (48 + n)]:=by rw [mg,ap h]
theorem KX {n:Nat} (h:¬ n < 10):mg n=mg (n / 10) ++ [UInt8.ofNat (48 + n % 10)]:=by rw [mg,aj h]
theorem Fj:∀ (k n:Nat),n < 10 ^ (k + 1)->(mg n).length<=k + 1
 | 0,n,h=>by grind [CL]
 | k + 1,n,h=>by
  by_cases hn:n < 10
  ·rw [CL hn];simp
  ·rw [KX hn];have h2:n / 10 < 10 ^ (k + 1):=by omega
   have:=Fj k (n / 10) h2
   grind
theorem digs_20 {n:Nat} (h:n<=18446744073709551616):(mg n).length<=20:=Fj 19 n (by omega)
def z7 (z:Int):List UInt8:=if z < 0 then 45 :: mg z.natAbs else mg z.natAbs
def MG (z:Int):ByteArray:=⟨(z7 z).toArray⟩
theorem Fk {z:Int} (h1 : -9223372036854775808<=z) (h2:z<=9223372036854775807):(z7 z).length<=21:=by grind [digs_20,z7]
theorem MH {z:Int} (h1 : -9223372036854775808<=z) (h2:z<=9223372036854775807):(MG z).size<=21:=Fk h1 h2
theorem Ym (a b:List UInt8):(⟨a.toArray⟩:ByteArray) ++ ⟨b.toArray⟩=⟨(a ++ b).toArray⟩:=by
 apply ByteArray.ext;simp
theorem wr (z:Int) (h1 : -9223372036854775808<=z) (h2:z<=9223372036854775807):IntKind.i64.wrap z=z:=by
 rw [IntKind.wrap_i64];omega
theorem TL {z:Int} (h:0<=z):z7 z=mg z.toNat:=by grind [z7]
theorem PW {z:Int} (h:z < 0):z7 z=45 :: mg z.natAbs:=by unfold z7;rw [ap h]
theorem rV:∀ bs:List UInt8,u8L bs=bs.map fun b=>DV.v (.int .u8 (b.toNat:Int))
 | []=>rfl
 | b :: r=>by simp [u8L,rV r]
theorem CM (bs:List UInt8):(u8L bs).length=bs.length:=by simp [rV]
theorem KY (a b:List UInt8):u8L (a ++ b)=u8L a ++ u8L b:=by simp [rV]
theorem PX (n:Nat) (a:List UInt8):u8L (a.take n)=(u8L a).take n:=by simp [rV,List.map_take]
theorem Fl (n:Nat) (a:List UInt8):u8L (a.drop n)=(u8L a).drop n:=by simp [rV,List.map_drop]
theorem KZ {n m:Nat} {tk:List TkE}:∀ bs:List UInt8,WeL n m tk (u8L bs) (u8L bs)
 | []=>rfl
 | b :: r=>⟨_,_,rfl,aA rfl,KZ r⟩
theorem tO {n m:Nat} {tk:List TkE} {l:List DV} {bs:List UInt8} (h:l=u8L bs):WeL n m tk l (u8L bs):=by rw [h];exact KZ bs
theorem PY (n:Nat):0 < (mg n).length:=by
 rw [mg];split<;>simp
abbrev Fm (m:Bool) (u a:Nat) (bs:List UInt8):St:=⟨[qN 3 m,(4,⟨[],.v (.int .u64 u)⟩),aE 5 0,au 6 a],[u8L bs],[]⟩
def Yo (m:Bool) (N j:Nat) (st:St):Prop:=∃ (u a:Nat) (bs:List UInt8),st=Fm m u a bs/\bs.length=20/\a<=20/\u < 18446744073709551616 /\
 ((a < 20/\u=0/\mg N=bs.drop a)∨((a=20∨0 < u)/\mg N=mg u ++ bs.drop a))/\j=a
theorem putI_0 (m:Bool) (N:Nat) (h:N < 18446744073709551616):Yo m N 20 (Fm m N 20 (List.replicate 20 0)):=
 ⟨N,20,_,rfl,by simp,aV _,h,.inr ⟨.inl rfl,by simp⟩,rfl⟩
theorem PZ (z:Int) (h1 : -9223372036854775808<=z) (h2:z<=9223372036854775807):EvP prog 156 [.v (.int .i64 z)] (.v (.string (MG z))):=by
 have hN:z.natAbs<=9223372036854775808:=by omega
 refine eG 38 [.tmp 2] func156 rfl ntmps156 rfl fun _ _ _ _=>?_;refine br ?_ ?_<;>intro h
 case' refine_1=>
  have hz:z < 0:=sU h
  have hu:IntKind.u64.wrap (0 - IntKind.u64.wrap z)=(z.natAbs:Int):=by
   simp only [IntKind.wrap_u64];omega
  refine aY (Yo (decide (z < 0)) z.natAbs) 20 (Fm (decide (z < 0)) z.natAbs 20 (List.replicate 20 0)) (v8 ⟨_,rfl⟩ (by repeat' (first | exact rfl | exact aA rfl | exact tO rfl | refine ⟨_,_,rfl,?_,?_⟩)) rfl rfl rfl (by repeat' (first | exact trivial | exact aA rfl | exact aC hu | exact tO rfl | refine ⟨⟨_,rfl,?_⟩,?_⟩))) (putI_0 _ _ (by omega)) ?_
 case' refine_2=>
  have hz:¬ z < 0:=sU h
  have hu:IntKind.u64.wrap z=(z.natAbs:Int):=by
   simp only [IntKind.wrap_u64];omega
  refine aY (Yo (decide (z < 0)) z.natAbs) 20 (Fm (decide (z < 0)) z.natAbs 20 (List.replicate 20 0)) (v8 ⟨_,rfl⟩ (by repeat' (first | exact rfl | exact aA rfl | exact tO rfl | refine ⟨_,_,rfl,?_,?_⟩)) rfl rfl rfl (by repeat' (first | exact trivial | exact aA rfl | exact aC hu | exact tO rfl | refine ⟨⟨_,rfl,?_⟩,?_⟩))) (putI_0 _ _ (by omega)) ?_
 all_goals
  clear hu hz h;rintro a st ⟨u,j,bs,rfl,hbl,ha,hu64,hinv,rfl⟩;refine br ?_ ?_<;>intro h
  ·have hc:a=20∨0 < u:=by
    simp [aw] at h;omega
   have hd:mg z.natAbs=mg u ++ bs.drop a:=by grind
   have hp:0 < a:=by grind [PY,digs_20]
   have Z6:IntKind.i64.wrap ((a:Int) - 1)=((a - 1:Nat):Int):=by rw [wr _ (by omega) (by omega)];omega
   have hb:IntKind.u8.wrap (48 + IntKind.u8.wrap ((u:Int).tmod 10))=((UInt8.ofNat (48 + u % 10)).toNat:Int):=by
    rw [Int.tmod_eq_emod_of_nonneg (by omega),UInt8.toNat_ofNat',IntKind.wrap_u8',IntKind.wrap_u8'];omega
   have hq:IntKind.u64.wrap ((u:Int).tdiv 10)=((u / 10:Nat):Int):=by
    rw [Int.tdiv_eq_ediv_of_nonneg (by omega),IntKind.wrap_u64];omega
   refine ⟨⟨rfl,by decide⟩,?_⟩;refine ⟨⟨by rw [Z6];omega,by rw [Z6];omega⟩,?_⟩;have vy:0 + (IntKind.i64.wrap ((a:Int) - 1)).toNat * 1=a - 1:=by rw [Z6];omega
   refine ⟨by rw [vy,CM,hbl];omega,?_⟩;refine ⟨⟨rfl,by decide⟩,?_⟩
   have hcs:(u8L bs).set (0 + (IntKind.i64.wrap ((a:Int) - 1)).toNat * 1) (DV.v (.int .u8 (IntKind.u8.wrap (48 + IntKind.u8.wrap ((u:Int).tmod 10)))))=u8L (bs.take (a - 1) ++ [UInt8.ofNat (48 + u % 10)] ++ bs.drop a):=by
    rw [vy,hb,List.set_eq_take_append_cons_drop,ap (by rw [CM,hbl];omega),KY,KY,PX,Fl,show a - 1 + 1=a by omega];simp [u8L]
   refine ⟨Fm (decide (z < 0)) (u / 10) (a - 1) (bs.take (a - 1) ++ [UInt8.ofNat (48 + u % 10)] ++ bs.drop a),(bZ 1 (by repeat' (first | exact rfl | exact aA rfl | exact tO hcs | exact aC Z6 | exact aC hq | refine ⟨_,_,rfl,?_,?_⟩)) (by repeat' (first | exact trivial | exact aA rfl | exact tO hcs | exact aC Z6 | exact aC hq | refine ⟨⟨_,rfl,?_⟩,?_⟩))),a - 1,by omega,u / 10,a - 1,_,rfl,by simp;omega,by omega,by omega,?_,rfl⟩;have acw:(bs.take (a - 1) ++ [UInt8.ofNat (48 + u % 10)] ++ bs.drop a).drop (a - 1)=UInt8.ofNat (48 + u % 10) :: bs.drop a:=by grind
   rw [acw,hd];by_cases vY:u < 10
   ·grind [CL]
   ·grind [KX]
  ·have hc:a≠20/\u=0:=by
    simp [aw] at h;omega
   have hd:mg z.natAbs=bs.drop a:=by grind
   have hdu:((u8L bs).drop (0 + (a:Int).toNat * 1)).take (((20:Nat):Int).toNat - (a:Int).toNat)=u8L (bs.drop a):=by grind [Fl,CM]
   have hl:(bs.drop a).length=((20:Nat):Int).toNat - (a:Int).toNat:=by simp [hbl]
   refine br ?_ ?_<;>intro hz
   ·have hz:z < 0:=sU hz;refine ⟨⟨by omega,by omega,by omega⟩,?_⟩;refine ⟨bs.drop a,hdu,hl,?_⟩;refine ⟨by show 1 + (bs.drop a).length<=_;rw [hl];omega,?_⟩;refine (congrArg (fun s=>DV.v (.string s)) ?_:_=_);rw [<- hd,MG,PW hz];exact Ym [45] _
   ·have hz:¬ z < 0:=sU hz;refine ⟨⟨by omega,by omega,by omega⟩,?_⟩;refine ⟨bs.drop a,hdu,hl,?_⟩;refine (congrArg (fun s=>DV.v (.string s)) ?_:_=_);rw [<- hd,MG,TL (by omega),show z.toNat=z.natAbs by omega]
abbrev ba (l:List UInt8):ByteArray:=⟨l.toArray⟩
def tx (s:ByteArray):List UInt8:=s.data.toList
theorem CN {s:ByteArray} {l:List UInt8} (h:tx s=l):s=ba l:=by
 subst h;apply ByteArray.ext;simp [tx]
theorem Ip (s t:ByteArray):tx (s ++ t)=tx s ++ tx t:=by simp [tx]
theorem P4 (a:Array UInt8):tx ⟨a⟩=a.toList:=rfl
theorem TM (z:Int):tx (MG z)=z7 z:=by simp [tx,MG]
theorem nu (s:ByteArray):(tx s).length=s.size:=by simp [tx]
theorem bQ (s t:ByteArray):(s ++ t).size=s.size + t.size:=by simp
def K0 (z:Int):Prop:=-9223372036854775808<=z/\z<=9223372036854775807
mutual
def rngT:Ty->Prop
 | .mk h ps=>K0 h.lo/\K0 h.hi/\K0 h.most/\rngP ps
def rngP:Pts->Prop
 | .nil=>True
 | .cons p t r=>K0 p.wide/\K0 p.cn/\rngT t/\rngP r
end
end Go.Proofs.YtgjagnmeonoehaaGreat
namespace Go.Proofs.YtgjagnmeonoehaaGreat
namespace Dv
open Go Go.RowKit
def TypFs (f:TypeId->List DV->Prop):List TypeId->List DV->Prop
 | [],ds=>ds=[]
 | t :: r,ds=>∃ a b,ds=a ++ b/\f t a/\TypFs f r b
def Typ (P:Program):Nat->TypeId->List DV->Prop
 | 0,_,_=>False
 | n + 1,t,ds=>
  match P.underlying t with
  | some .bool=>∃ b,ds=[.v (.bool b)]
  | some (.int k)=>∃ z,ds=[.v (.int k z)]/\(Lit.int k z).wf=true
  | some .string=>∃ s:ByteArray,ds=[.v (.string s)]
  | some (.slice e)=>∃ es,ds=[.sl (P.cellsOf e) es none]/\∀ cs∈es,Typ P n e cs
  | some (.struct fs)=>TypFs (Typ P n) (fs.toList.map (·.type)) ds
  | _=>False
mutual
def wgD:DV->Nat
 | .v (.string s)=>s.size + 64
 | .sl _ es _=>64 + wgEs es
 | _=>64
def wgL:List DV->Nat
 | []=>0
 | d :: r=>wgD d + wgL r
def wgEs:List (List DV)->Nat
 | []=>0
 | cs :: r=>wgL cs + wgEs r
end
theorem ia:∀ a b:List DV,wgL (a ++ b)=wgL a + wgL b
 | [],b=>by simp [wgL]
 | d :: r,b=>by simp only [List.cons_append,wgL,ia r b];omega
def laidF (P:Program) (S:List TypeId):Nat->List Field->Nat->Bool
 | off,[],n=>decide (off=n)
 | off,f :: r,n=>decide (f.offset=off) && S.contains f.type && laidF P S (off + P.cellsOf f.type) r n
def xZ (P:Program) (S:List TypeId) (t:TypeId):Bool:=
 match P.underlying t with
 | some .bool=>decide (P.cellsOf t=1)
 | some (.int _)=>decide (P.cellsOf t=1)
 | some .string=>decide (P.cellsOf t=1)
 | some (.slice e)=>decide (P.cellsOf t=1) && S.contains e && decide (0 < P.cellsOf e)
 | some (.struct fs)=>laidF P S 0 fs.toList (P.cellsOf t)
 | _=>false
def bkS {H:Type} (bk:DataW H->Nat):List (DataW H)->Nat
 | []=>0
 | d :: r=>bk d + bkS bk r
structure Bk {H:Type} (bk:DataW H->Nat):Prop where
 str:∀ l:List UInt8,l.length + 1<=bk (.lit (.string l))
 lit:∀ l,1<=bk (.lit l)
 nil:1<=bk .nil
 slice:∀ es sp,1 + bkS bk es<=bk (.slice es sp)
 agg:∀ l,bkS bk l<=bk (.agg l)
def Iq (w:World):En:=⟨fun a=>w.cell? a,[],[],[]⟩
theorem TN (w:World):Env (Iq w) [] w where
 len:=rfl
 tl:=rfl
 eM:=by simp
 inj:=List.nodup_nil
 sub:=fun x u hx=>hx
 pc:=by simp [Iq]
 bO:=by simp [Iq]
 je:=by simp [Iq]
theorem MI {w:World} {a:Addr} {k:Nat} {v:Value} (h:w.cell? (a.add k)=some v):w.cell? ⟨a.block,a.off + k,none⟩=some v:=by
 unfold Addr.add at h;split at h
 ·rename_i hk;subst hk;unfold World.cell? at h ⊢;split at h
  ·rename_i c e z he;split at h
   ·cases h
   ·simpa [he] using h
  ·cases h
 ·exact h
theorem MJ {w:World} {a:Addr} {v:Value} (h:w.cell? a=some v):a.spot=none:=by
 unfold World.cell? at h;split at h
 ·split at h
  ·cases h
  ·rename_i hs;simpa using hs
 ·cases h
theorem x5 {E:En} {b:Nat}:∀ {p:Nat} {ds:List DV} {vs:List Value},RvL E.cl ds vs->(∀ (j:Nat) v,vs[j]? = some v->E.c ⟨b,p + j,none⟩=some v/\v.oneCell'=true)->RvAt E.cl b p ds
 | p,[],vs,h,hc=>by simp only [RvAt]
 | p,d :: r,vs,h,hc=>by
  simp only [RvL] at h;obtain ⟨v,s,rfl,h1,h2⟩:=h;simp only [RvAt];obtain ⟨c1,c2⟩:=hc 0 v rfl;refine ⟨⟨v,c1,c2,h1⟩,x5 (p:=p + 1) h2 fun j u hj=>?_⟩;have:=hc (j + 1) u hj;rw [show p + 1 + j=p + (j + 1) by omega];exact this
section
variable {H:Type} {enc:TypeId × Value->H} {P:Program} {w:World} {sp:Nat->Bool} {held:Bool} {S:List TypeId} {bk:DataW H->Nat}
def Rd (enc:TypeId × Value->H) (P:Program) (w:World) (bk:DataW H->Nat) (n:Nat) (t:TypeId) (cs:List Value) (d:DataW H):Prop:=
 ∃ ds,RvL (Iq w) ds cs/\(∀ v∈cs,v.oneCell'=true)/\Typ P n t ds/\wgL ds<=64 * bk d/\cs.length=P.cellsOf t
theorem AU {n:Nat} (ih:∀ t cs x,t∈S->DataW.trod enc P w 0 sp held n t cs=some x->Rd enc P w bk n t cs x.1) (cs:List Value) :
  ∀ (fs:List Field) (off:Nat) (xs:List (DataW H × List MemPlace)),laidF P S off fs cs.length=true->xs.length=fs.length ->
   (∀ (i:Nat) f,fs[i]? = some f->DataW.trod enc P w 0 sp held n f.type ((cs.drop f.offset).take (P.cellsOf f.type))=xs[i]?) ->
   ∃ ds,RvL (Iq w) ds (cs.drop off)/\(∀ v∈cs.drop off,v.oneCell'=true)/\TypFs (Typ P n) (fs.map (·.type)) ds/\wgL ds<=64 * bkS bk (xs.map (·.1))
 | [],off,xs,hl,zO,hx=>by
  simp only [laidF,decide_eq_true_eq] at hl;subst hl;simp only [List.length_nil,List.length_eq_zero_iff] at zO;subst zO;exact ⟨[],by simpa using cV _,by simp,by simp [TypFs],by simp [wgL]⟩
 | f :: r,off,xs,hl,zO,hx=>by
  simp only [laidF,bc,decide_eq_true_eq] at hl;obtain ⟨⟨hof,hS⟩,hl⟩:=hl
  match xs,zO with
  | x :: xs,zO=>
   have h0:=hx 0 f rfl;rw [hof] at h0;simp only [List.getElem?_cons_zero] at h0;obtain ⟨ds0,r1,r2,r3,r4,r5⟩:=ih f.type _ x (sU hS) h0;obtain ⟨ds1,s1,s2,s3,s4⟩:=AU ih cs r (off + P.cellsOf f.type) xs hl (sU zO) (fun i g hg=>by simpa using hx (i + 1) g (sU hg))
   have P5:cs.drop off=(cs.drop off).take (P.cellsOf f.type) ++ cs.drop (off + P.cellsOf f.type):=by
    rw [<- List.drop_drop,List.take_append_drop]
   refine ⟨ds0 ++ ds1,?_,?_,?_,?_⟩
   ·rw [P5];exact RvL.append r1 s1
   ·rw [P5];intro v hv;rcases List.mem_append.1 hv with hv | hv
    ·exact r2 v hv
    ·exact s2 v hv
   ·simp only [List.map_cons,TypFs];exact ⟨ds0,ds1,rfl,r3,s3⟩
   ·rw [ia];simp only [List.map_cons,bkS];omega
theorem Fo {n e:Nat} (ih:∀ t cs x,t∈S->DataW.trod enc P w 0 sp held n t cs=some x->Rd enc P w bk n t cs x.1) (he:e∈S) (a:Addr) :
  ∀ (xs:List (DataW H × List MemPlace)) (i0:Nat),(∀ i,i < xs.length->(w.cells? 0 (a.add ((i0 + i) * P.cellsOf e)) (P.cellsOf e)).bind (DataW.trod enc P w 0 sp held n e)=xs[i]?) ->
   ∃ es,es.length=xs.length/\RvEs (Iq w) (P.cellsOf e) a.block (a.off + i0 * P.cellsOf e) es/\(∀ cs∈es,Typ P n e cs)/\wgEs es<=64 * bkS bk (xs.map (·.1))
 | [],i0,hx=>⟨[],rfl,by simp only [RvEs],by simp,by simp [wgEs]⟩
 | x :: xs,i0,hx=>by
  have h0:=hx 0 (by simp);simp only [Nat.add_zero,List.getElem?_cons_zero] at h0;obtain ⟨cs,hcs,ht⟩:=Option.bind_eq_some_iff.1 h0;obtain ⟨_,hlen,ow⟩:=World.cells?_some hcs;obtain ⟨ds0,r1,r2,r3,r4,r5⟩:=ih e cs x he ht
  obtain ⟨es,s1,s2,s3,s4⟩:=Fo ih he a xs (i0 + 1) (fun i hi=>by
   have:=hx (i + 1) (sU hi);simp only [List.getElem?_cons_succ] at this;rw [show i0 + 1 + i=i0 + (i + 1) by omega]
   exact this)
  refine ⟨ds0 :: es,by simp [s1],?_,?_,?_⟩
  ·simp only [RvEs];refine ⟨by rw [<- r1.length,hlen],x5 (E:=Iq w) r1 fun j v hj=>⟨?_,r2 v (mG hj)⟩,?_⟩
   ·have ll:j < P.cellsOf e:=by rw [<- hlen];exact (gS hj).1
    have h1:=ow j ll;rw [hj,Deep.add_add] at h1;have h2:=MI h1;show w.cell? _=_;rw [Nat.add_assoc];exact h2
   ·rw [Nat.add_assoc,show i0 * P.cellsOf e + P.cellsOf e=(i0 + 1) * P.cellsOf e by rw [Nat.add_mul,Nat.one_mul]];exact s2
  ·intro cs' hc;rcases dN hc with hc | hc
   ·subst hc;exact r3
   ·exact s3 cs' hc
  ·simp only [wgEs,List.map_cons,bkS];omega
theorem CO (rq:Bk bk) (hS:∀ t∈S,xZ P S t=true):∀ (n:Nat) (t:TypeId) (cs:List Value) (x:DataW H × List MemPlace),t∈S->DataW.trod enc P w 0 sp held n t cs=some x->Rd enc P w bk n t cs x.1
 | 0,t,cs,x,_,h=>by simp [DataW.trod] at h
 | n + 1,t,cs,x,ht,h=>by
  have hf:=hS t ht;unfold xZ at hf;unfold Rd
  cases hu:P.underlying t with
  | none=>rw [hu] at hf;cases hf
  | some D=>
   rw [hu] at hf
   cases D with
   | bool=>
    simp only [decide_eq_true_eq] at hf;obtain ⟨b,rfl,rfl⟩:=DataW.trod_bool hu h;have:=rq.lit (.bool b);exact ⟨[.v (.bool b)],rvL_one (by unfold Rv;exact ⟨rfl,rfl⟩),by simp [Value.oneCell'],by simp only [Typ,hu];exact ⟨b,rfl⟩,by simp only [wgL,wgD];omega,by simp [hf]⟩
   | int k=>
    simp only [decide_eq_true_eq] at hf;obtain ⟨z,rfl,rfl,hw⟩:=DataW.trod_int hu h;have:=rq.lit (.int k z);exact ⟨[.v (.int k z)],rvL_one (by unfold Rv;exact ⟨rfl,rfl⟩),by simp [Value.oneCell'],by simp only [Typ,hu];exact ⟨z,rfl,hw⟩,by simp only [wgL,wgD];omega,by simp [hf]⟩
   | string=>
    simp only [decide_eq_true_eq] at hf;obtain ⟨s,rfl,rfl,hw⟩:=DataW.trod_string hu h;have:=rq.str s.data.toList;have bW:s.data.toList.length=s.size:=by rw [Array.length_toList];all_goals rfl
    exact ⟨[.v (.string s)],rvL_one (by unfold Rv;exact ⟨rfl,rfl⟩),by simp [Value.oneCell'],by simp only [Typ,hu];exact ⟨s,rfl⟩,by simp only [wgL,wgD];omega,by simp [hf]⟩
   | slice e=>
    simp only [bc,decide_eq_true_eq] at hf;obtain ⟨⟨Fp,vz⟩,hf3⟩:=hf;rcases DataW.trod_slice hu h with ⟨rfl,rfl⟩ | ⟨a,len,cap,elems,rest,m,hm,rfl,rfl,_,ZR,_,kM,hx,_,_⟩
    ·have:=rq.nil;refine ⟨[.sl (P.cellsOf e) [] none],rvL_one ?_,by simp [Value.oneCell'],by simp only [Typ,hu];exact ⟨[],rfl,by simp⟩,by simp only [wgL,wgD,wgEs];omega,by simp [Fp]⟩;unfold Rv;exact ⟨none,0,0,rfl,⟨rfl,aV _⟩,fun hc=>absurd rfl hc,fun k hk=>by cases hk⟩
    ·simp only [Nat.add_right_cancel_iff] at hm;subst hm;obtain ⟨es,s1,s2,s3,s4⟩:=Fo (fun t cs x=>CO rq hS n t cs x) (sU vz) a elems 0 (fun i hi=>by simpa using hx i (by omega));have hb:=rq.slice (elems.map (·.1)) (rest.map (·.1));refine ⟨[.sl (P.cellsOf e) es none],rvL_one ?_,by simp [Value.oneCell'],by simp only [Typ,hu];exact ⟨es,rfl,s3⟩,by simp only [wgL,wgD];omega,by simp [Fp]⟩;unfold Rv;refine ⟨some a,len,cap,rfl,⟨by omega,ZR⟩,fun bA=>⟨?_,?_⟩,fun k hk=>by cases hk⟩
     ·have jk:0 < len:=by
       rw [<- kM,<- s1];exact List.length_pos_iff.2 bA
      have h0:=hx 0 jk;rw [gE (by omega)] at h0;obtain ⟨cs,hcs,_⟩:=Option.bind_eq_some_iff.1 h0;obtain ⟨_,hlen,ow⟩:=World.cells?_some hcs;have h1:=ow 0 hf3;rw [gE (by omega),Deep.add_add] at h1;simp only [Nat.zero_mul,Nat.add_zero] at h1;exact MJ (a:=a) h1
     ·have s2':RvEs (Iq w) (P.cellsOf e) a.block a.off es:=sU s2;exact s2'
   | struct fs=>
    obtain ⟨xs,m,hm,rfl,hlen,zO,hx⟩:=DataW.trod_struct hu h;simp only [Nat.add_right_cancel_iff] at hm;subst hm;simp only at hf;obtain ⟨ds,s1,s2,s3,s4⟩:=AU (fun t cs x=>CO rq hS n t cs x) cs fs.toList 0 xs (by rw [hlen];exact hf) (sU zO) (fun i f hi=>hx i f (sU hi));have hb:=rq.agg (xs.map (·.1));refine ⟨ds,by simpa using s1,by simpa using s2,by simp only [Typ,hu];exact s3,by simp only;omega,hlen⟩
   | _=>cases hf
end
theorem K1 {P:Program} {n:Nat} {t:TypeId} {k:IntKind} {ds:List DV} (hu:P.underlying t=some (.int k)) (h:Typ P n t ds):∃ z,ds=[.v (.int k z)]/\(Lit.int k z).wf=true:=by
 cases n with
 | zero=>exact h.elim
 | succ n=>simp only [Typ,hu] at h;exact h
theorem P6 {P:Program} {n:Nat} {t:TypeId} {ds:List DV} (hu:P.underlying t=some .bool) (h:Typ P n t ds):∃ b,ds=[.v (.bool b)]:=by
 cases n with
 | zero=>exact h.elim
 | succ n=>simp only [Typ,hu] at h;exact h
theorem TO {P:Program} {n:Nat} {t:TypeId} {ds:List DV} (hu:P.underlying t=some .string) (h:Typ P n t ds):∃ s:ByteArray,ds=[.v (.string s)]:=by
 cases n with
 | zero=>exact h.elim
 | succ n=>simp only [Typ,hu] at h;exact h
theorem CP {P:Program} {n:Nat} {t e:TypeId} {ds:List DV} (hu:P.underlying t=some (.slice e)) (h:Typ P n t ds):∃ m es,n=m + 1/\ds=[.sl (P.cellsOf e) es none]/\∀ cs∈es,Typ P m e cs:=by
 cases n with
 | zero=>exact h.elim
 | succ n=>
  simp only [Typ,hu] at h;obtain ⟨es,h1,h2⟩:=h;exact ⟨n,es,rfl,h1,h2⟩
theorem qT {P:Program} {n:Nat} {t:TypeId} {fs:Array Field} {ds:List DV} (hu:P.underlying t=some (.struct fs)) (h:Typ P n t ds):∃ m,n=m + 1/\TypFs (Typ P m) (fs.toList.map (·.type)) ds:=by
 cases n with
 | zero=>exact h.elim
 | succ n=>
  simp only [Typ,hu] at h;exact ⟨n,rfl,h⟩
theorem wf_i64 {z:Int} (h:(Lit.int .i64 z).wf=true) : -9223372036854775808<=z/\z<=9223372036854775807:=by
 simpa [Lit.wf,IntKind.min,IntKind.max,IntKind.signed,IntKind.bits] using h
end Dv
end Go.Proofs.YtgjagnmeonoehaaGreat
set_option maxRecDepth 100000
namespace Go.Proofs.YtgjagnmeonoehaaGreat
open Go Go.RowKit Dv Go.Proofs.Tryz
theorem Ir:prog.cellsOf 27=2:=by kernel_rfl
theorem Is:prog.cellsOf 109=18:=by kernel_rfl
theorem tP {n:Nat} {ds:List DV} (h:Typ prog n 27 ds):∃ w:Wd,ds=kP w/\w.wt<=wgL ds:=by
 obtain ⟨m,_,hf⟩:=qT Tryz.underlying27 h;obtain ⟨a,b,rfl,h1,c,d,rfl,h2,rfl⟩:=hf;obtain ⟨s,rfl⟩:=TO Tryz.underlying9 h1;obtain ⟨z,rfl,_⟩:=K1 Tryz.underlying3 h2;exact ⟨⟨s,z⟩,rfl,by simp [wgL,wgD,Wd.wt]⟩
theorem P7:∀ {m:Nat} {es:List (List DV)},(∀ cs∈es,Typ prog m 27 cs)->∃ l:List Wd,es=bT l/\wdsWt l<=wgEs es
 | m,[],h=>⟨[],rfl,by simp [wdsWt,wgEs]⟩
 | m,cs :: r,h=>by
  obtain ⟨w,rfl,hw⟩:=tP (h cs (by simp));obtain ⟨l,rfl,hl⟩:=P7 (m:=m) (es:=r) (fun c hc=>h c (gJ _ hc));exact ⟨w :: l,rfl,by simp only [wdsWt,wgEs];omega⟩
theorem wg {n:Nat} {ds:List DV} (h:Typ prog n 22 ds):∃ l:List Wd,ds=[.sl 2 (bT l) none]/\64 + wdsWt l<=wgL ds:=by
 obtain ⟨m,es,_,rfl,he⟩:=CP Tryz.underlying22 h;obtain ⟨l,rfl,hl⟩:=P7 he;rw [Ir];exact ⟨l,rfl,by simp only [wgL,wgD];omega⟩
theorem rW {n:Nat} {ds:List DV} (h:Typ prog n 3 ds):∃ z,ds=[.v (.int .i64 z)]/\K0 z:=by
 obtain ⟨z,rfl,hw⟩:=K1 Tryz.underlying3 h;exact ⟨z,rfl,wf_i64 hw⟩
theorem P8 {m:Nat} (ih:∀ k,k < m->∀ ds,Typ prog k 29 ds->∃ t:Ty,ds=eK t/\rngT t/\t.wt<=wgL ds) :
  ∀ {es:List (List DV)},(∀ cs∈es,Typ prog m 109 cs)->∃ ps:Pts,es=gG ps/\rngP ps/\ps.wt<=wgEs es
 | [],h=>⟨.nil,by simp [gG],by simp [rngP],by simp [Pts.wt]⟩
 | cs :: r,h=>by
  obtain ⟨ps,rfl,hr,hl⟩:=P8 ih (es:=r) (fun c hc=>h c (gJ _ hc));obtain ⟨k,rfl,hf⟩:=qT Tryz.underlying109 (h cs (by simp));obtain ⟨a1,b1,rfl,h1,a2,b2,rfl,h2,a3,b3,rfl,h3,a4,b4,rfl,h4,a5,b5,rfl,h5,a6,b6,rfl,h6,rfl⟩:=hf;obtain ⟨nm,rfl,w1⟩:=tP h1;obtain ⟨bare,rfl⟩:=P6 Tryz.underlying4 h2;obtain ⟨lab,rfl,w3⟩:=wg h3;obtain ⟨wide,rfl,r4⟩:=rW h4;obtain ⟨k5,_,hf5⟩:=qT Tryz.underlying107 h5;obtain ⟨c1,d1,rfl,g1,c2,d2,rfl,g2,c3,d3,rfl,g3,c4,d4,rfl,g4,rfl⟩:=hf5;obtain ⟨ck,rfl,_⟩:=rW g1;obtain ⟨cn,rfl,q2⟩:=rW g2;obtain ⟨ca,rfl,_⟩:=rW g3;obtain ⟨cl,rfl,w5⟩:=wg g4;obtain ⟨t,rfl,rt,wt⟩:=ih k (by omega) _ h6;refine ⟨.cons ⟨nm,bare,lab,wide,ck,cn,ca,cl⟩ t ps,?_,by simp only [rngP];exact ⟨r4,q2,rt,hr⟩,?_⟩
  ·grind [gG,Ia,kP]
  ·grind [Pts.wt,Ph.wt,wgEs,ia,wgL,wgD,kP,Wd.wt]
theorem P9:∀ (n:Nat) (ds:List DV),Typ prog n 29 ds->∃ t:Ty,ds=eK t/\rngT t/\t.wt<=wgL ds:=by
 intro n
 induction n using Nat.strongRecOn with
 | _ n ih=>
  intro ds h;obtain ⟨m,rfl,hf⟩:=qT Tryz.underlying29 h;obtain ⟨a1,b1,rfl,h1,a2,b2,rfl,h2,a3,b3,rfl,h3,a4,b4,rfl,h4,a5,b5,rfl,h5,a6,b6,rfl,h6,a7,b7,rfl,h7,a8,b8,rfl,h8,rfl⟩:=hf;obtain ⟨ag,rfl,_⟩:=rW h1;obtain ⟨aO,rfl,_⟩:=rW h2;obtain ⟨lo,rfl,r3⟩:=rW h3;obtain ⟨hi,rfl,r4⟩:=rW h4;obtain ⟨most,rfl,r5⟩:=rW h5;obtain ⟨af,rfl,w6⟩:=wg h6;obtain ⟨k,es,rfl,rfl,iO⟩:=CP Tryz.underlying25 h7;obtain ⟨ps,rfl,rp,wp⟩:=P8 (fun j hj=>ih j (by omega)) iO;obtain ⟨nm,rfl,w8⟩:=tP h8;rw [Is];refine ⟨.mk ⟨ag,aO,lo,hi,most,af,nm⟩ ps,?_,by simp only [rngT];exact ⟨r3,r4,r5,rp⟩,?_⟩
  ·grind [eK,kP]
  ·grind [Ty.wt,Hd.wt,ia,wgL,wgD,kP,Wd.wt]
end Go.Proofs.YtgjagnmeonoehaaGreat
namespace Go.Proofs.YtgjagnmeonoehaaGreat
namespace Dv
open Go Go.RowKit Go.ChangeShapes Go.WideShapes Go.ChangeAt
open Go.ChangeMaps (open_string shut_string)
section
variable {H:Type} {enc:TypeId × Value->H} {P:Program}
theorem qy (hl:laidOutB P=true) {W W':World} (hb:Below W.heap.size W W'):∀ {ts:List TypeId} {vs:List Value} {ds:List (DataW H)} {ps:List MemPlace},(∀ t∈ts,P.readableRec t=true/\t < P.types.size) ->
  DataW.TrodAll enc P W 0 (fun _=>true) true ts vs ds ps->(∀ x∈ps,x.block < W.heap.size)->DataW.TrodAll enc P W' 0 (fun b=>decide (b < W.heap.size)) true ts vs ds ps
 | [],[],[],_,_,h,_=>h
 | t :: ts,v :: vs,d :: ds,_,ht,⟨p,q,h1,h2,e⟩,aq=>by
  subst e;obtain ⟨r1,r2⟩:=ht t (by simp);exact ⟨p,q,Below.trod hl r1 r2 h1 hb (fun x hx=>aq x (List.mem_append_left _ hx)),qy hl hb (fun t qb=>ht t (by simp [qb])) h2 (fun x hx=>aq x (List.mem_append_right _ hx)),rfl⟩
theorem law_post {f:Func} {s:ChangeSpec} {tb:TypeId} (hl:laidOutB P=true) (OW:f.resultTypes = #[tb]) (htb:P.underlying tb=some .bool) (hv:s.vars=[]) (hts:∀ t∈f.params.toList,P.readableRec t=true/\t < P.types.size)
  {W W':World} {args:Array Value} {ds gs:List (DataW H)} {before:List MemPlace} (hW:DataW.Whole enc P f.params.toList s.vars false W args.toList ds gs before) (Ef:s.fn H ds={ results:=[.lit (.bool true)],args:=ds }) (hb:Below W.heap.size W W') :
  s.post enc P f false true false false W args (.bool true) W':=by
 have hW':=hW;obtain ⟨p,q,hA,hV,rfl,hfz,hnd⟩:=hW;rw [hv] at hV;obtain ⟨rfl,rfl⟩:=trodVars_none hV;refine ⟨ds,[],p ++ [],[],p,[],hW',?_,?_,?_,hb.frame _,fun h=>by cases h⟩
 ·rw [List.append_nil,Ef,OW];exact trodAll_cons_mk (shut_bool htb _) trodAll_mk0
 ·rw [List.append_nil,Ef];exact qy hl hb hts hA (fun x hx=>hW'.lt x (List.mem_append_left _ hx))
 ·rw [List.append_nil,Ef,hv];rfl
theorem Iu {w w':World} {Φ:DV->List (List DV)->List TkE->Prop} {v:Value} (h:oo false (Iq w) w Φ v w'):Below w.heap.size w w':=by
 obtain ⟨hm,_⟩:=h;refine ⟨hm.os,hm.tape,hm.output,hm.size,fun k hk=>hm.block k hk ?_⟩;rintro (h1 | ⟨y,h1,_⟩)
 ·simp [Iq] at h1
 ·simp [Iq] at h1
theorem calls_law {f:FuncId} {args:List DV} {vs:List Value} {w:World} (h:EvP P f args (.v (.bool true))) (hv:RvL (Iq w) args vs) :
  Calls P f vs.toArray w fun e w'=>e = .returned (.bool true)/\Below w.heap.size w w':=by
 refine (h (Iq w) w vs (TN w) rfl hv).mono ?_;rintro e w' ⟨v,rfl,he⟩;have hb:=Iu he;obtain ⟨_,_,d,os,E,_,_,_,_,hr,rfl⟩:=he;unfold Rv at hr;rw [hr.1];exact ⟨rfl,hb⟩
variable {W:World} {base:Nat} {S:List TypeId} {bk:DataW H->Nat}
theorem arg_st (rq:Bk bk) (hS:∀ t∈S,xZ P S t=true) {t:TypeId} {fs:Array Field} {v:Value} {d:DataW H} {ps:List MemPlace} (ht:t∈S) (hu:P.underlying t=some (.struct fs))
  (hval:Value.okWide P W .any base t v) (h:DataW.Trod enc P W 0 (fun _=>true) true t v d ps):∃ n ds,Rv (Iq W) (.agg ds) v/\Typ P n t ds/\wgL ds<=64 * bk d:=by
 unfold Value.okWide at hval;rw [hu] at hval;obtain ⟨cs,rfl,_,_⟩:=hval;obtain ⟨n,hn⟩:=h;obtain ⟨ds,h1,h2,h3,h4,_⟩:=CO rq hS n t _ _ ht hn;refine ⟨n,ds,?_,h3,h4⟩;unfold Rv;exact ⟨cs.toList,by simp,h1,h2⟩
end
end Dv
end Go.Proofs.YtgjagnmeonoehaaGreat
namespace Go.Proofs.YtgjagnmeonoehaaGreat
open Go Go.RowKit Dv
theorem Iv {H:Type}:∀ l:List (DataW H),bkS Rows.uptoBulk l=Rows.uptoBulkAll l
 | []=>by simp [bkS,Rows.uptoBulkAll]
 | d :: r=>by simp only [bkS,Rows.uptoBulkAll,Iv r]
theorem bk_ok {H:Type}:Bk (Rows.uptoBulk (H:=H)) where
 str:=fun l=>by simp [Rows.uptoBulk]
 lit:=fun l=>by cases l<;>simp [Rows.uptoBulk]
 nil:=by simp [Rows.uptoBulk]
 slice:=fun es sp=>by simp only [Rows.uptoBulk,Iv];omega
 agg:=fun l=>by simp only [Rows.uptoBulk,Iv];omega
theorem bulk_le {H:Type} {l:List (DataW H)} (hk:Rows.uptoSmall H l=true):Rows.uptoBulkAll l<=1048576:=of_decide_eq_true hk
theorem laid_out:laidOutB Tryz.prog=true:=by kernel_rfl
theorem own_knob:ownKnob Tryz.prog.godebug=none:=by kernel_rfl
def tyS:List TypeId:=[29,22,27,9,3,25,109,4,107]
end Go.Proofs.YtgjagnmeonoehaaGreat
set_option maxRecDepth 100000
namespace Go.Proofs.YtgjagnmeonoehaaGreat
open Go Go.RowKit Dv Go.Proofs.Tryz
def Pts.take:Nat->Pts->Pts
 | 0,_=>.nil
 | _ + 1,.nil=>.nil
 | e + 1,.cons p t r=>.cons p t (r.take e)
structure Sch where
 ae:List Wd
 order:List (Wd × Wd)
 types:List (Wd × Ty)
 root:Ty
def Ot (p:Wd × Wd):List DV:=[.v (.string p.1.s),.v (.int .i64 p.1.a),.v (.string p.2.s),.v (.int .i64 p.2.a)]
def n9 (l:List (Wd × Wd)):List (List DV):=l.map Ot
def dNm (x:Wd × Ty):List DV:=.v (.string x.1.s) :: .v (.int .i64 x.1.a) :: eK x.2
def dNms (l:List (Wd × Ty)):List (List DV):=l.map dNm
def fo (s:Sch):List DV:=.sl 2 (bT s.ae) none :: .sl 4 (n9 s.order) none :: .sl 11 (dNms s.types) none :: eK s.root
def prsWt:List (Wd × Wd)->Nat
 | []=>0
 | p :: r=>p.1.wt + p.2.wt + prsWt r
def nmsWt:List (Wd × Ty)->Nat
 | []=>0
 | p :: r=>p.1.wt + p.2.wt + nmsWt r
def Sch.wt (s:Sch):Nat:=wdsWt s.ae + prsWt s.order + nmsWt s.types + s.root.wt
theorem gL (l:List (Wd × Wd)):(n9 l).length=l.length:=by simp [n9]
theorem eA (l:List (Wd × Ty)):(dNms l).length=l.length:=by simp [dNms]
theorem iD {l:List (Wd × Wd)} {j:Nat} {p:Wd × Wd} (h:l[j]? = some p):(n9 l)[j]? = some (Ot p):=by simp [n9,h]
theorem dNms_get {l:List (Wd × Ty)} {j:Nat} {p:Wd × Ty} (h:l[j]? = some p):(dNms l)[j]? = some (dNm p):=by simp [dNms,h]
theorem jv:∀ l:List (Wd × Wd),128 * l.length<=prsWt l
 | []=>aV _
 | p :: r=>by have:=jv r;simp only [List.length_cons,prsWt,Wd.wt];omega
theorem kv:∀ l:List (Wd × Ty),256 * l.length<=nmsWt l
 | []=>aV _
 | p :: r=>by have:=kv r;have:=p.2.fk;simp only [List.length_cons,nmsWt,Wd.wt];omega
theorem ig:∀ {l:List (Wd × Ty)} {p:Wd × Ty},p∈l->p.1.wt + p.2.wt<=nmsWt l
 | x :: r,p,h=>by
  rcases dN h with h | h
  ·subst h;simp only [nmsWt];omega
  ·have:=ig h;simp only [nmsWt];omega
def TP (s:Sch):Prop:=(∀ x∈s.types,rngT x.2)/\rngT s.root
theorem Iw:prog.cellsOf 171=4:=by kernel_rfl
theorem Fq:prog.cellsOf 124=11:=by kernel_rfl
theorem Yp {n:Nat} {ds:List DV} (h:Typ prog n 171 ds):∃ p:Wd × Wd,ds=Ot p/\p.1.wt + p.2.wt<=wgL ds:=by
 obtain ⟨m,_,hf⟩:=qT Tryz.underlying171 h;obtain ⟨a,b,rfl,h1,c,d,rfl,h2,rfl⟩:=hf;obtain ⟨x,rfl,w1⟩:=tP h1;obtain ⟨y,rfl,w2⟩:=tP h2;exact ⟨(x,y),rfl,by simp only [ia,wgL];omega⟩
theorem Yq {n:Nat} {ds:List DV} (h:Typ prog n 124 ds):∃ p:Wd × Ty,ds=dNm p/\rngT p.2/\p.1.wt + p.2.wt<=wgL ds:=by
 obtain ⟨m,_,hf⟩:=qT Tryz.underlying124 h;obtain ⟨a,b,rfl,h1,c,d,rfl,h2,rfl⟩:=hf;obtain ⟨x,rfl,w1⟩:=tP h1;obtain ⟨y,rfl,r2,w2⟩:=P9 _ _ h2;exact ⟨(x,y),by simp [dNm,kP],r2,by simp only [ia,wgL];omega⟩
theorem Qa:∀ {m:Nat} {es:List (List DV)},(∀ cs∈es,Typ prog m 171 cs)->∃ l:List (Wd × Wd),es=n9 l/\prsWt l<=wgEs es
 | m,[],h=>⟨[],rfl,by simp [prsWt,wgEs]⟩
 | m,cs :: r,h=>by
  obtain ⟨w,rfl,hw⟩:=Yp (h cs (by simp));obtain ⟨l,rfl,hl⟩:=Qa (m:=m) (es:=r) (fun c hc=>h c (gJ _ hc));exact ⟨w :: l,rfl,by simp only [prsWt,wgEs];omega⟩
theorem Qb:∀ {m:Nat} {es:List (List DV)},(∀ cs∈es,Typ prog m 124 cs)->∃ l:List (Wd × Ty),es=dNms l/\(∀ x∈l,rngT x.2)/\nmsWt l<=wgEs es
 | m,[],h=>⟨[],rfl,by simp,by simp [nmsWt,wgEs]⟩
 | m,cs :: r,h=>by
  obtain ⟨w,rfl,hr,hw⟩:=Yq (h cs (by simp));obtain ⟨l,rfl,hlr,hl⟩:=Qb (m:=m) (es:=r) (fun c hc=>h c (gJ _ hc));refine ⟨w :: l,rfl,fun x hx=>?_,by simp only [nmsWt,wgEs];omega⟩;rcases dN hx with rfl | hx
  ·exact hr
  ·exact hlr x hx
theorem typ_sch {n:Nat} {ds:List DV} (h:Typ prog n 31 ds):∃ s:Sch,ds=fo s/\TP s/\s.wt<=wgL ds:=by
 obtain ⟨m,_,hf⟩:=qT Tryz.underlying31 h;obtain ⟨a1,b1,rfl,h1,a2,b2,rfl,h2,a3,b3,rfl,h3,a4,b4,rfl,h4,rfl⟩:=hf;obtain ⟨l1,rfl,w1⟩:=wg h1;obtain ⟨m2,es2,_,rfl,he2⟩:=CP Tryz.underlying23 h2;obtain ⟨l2,rfl,w2⟩:=Qa he2;obtain ⟨m3,es3,_,rfl,he3⟩:=CP Tryz.underlying24 h3;obtain ⟨l3,rfl,r3,w3⟩:=Qb he3;obtain ⟨t,rfl,r4,w4⟩:=P9 _ _ h4;rw [Iw,Fq];refine ⟨⟨l1,l2,l3,t⟩,by simp [fo],⟨r3,r4⟩,?_⟩;simp only [Sch.wt,ia,wgL,wgD] at *;omega
end Go.Proofs.YtgjagnmeonoehaaGreat
namespace Go.Proofs.YtgjagnmeonoehaaGreat
open Go Go.RowKit Dv
def tySS:List TypeId:=31 :: 23 :: 171 :: 24 :: 124 :: tyS
theorem tySS_ok:∀ t∈tySS,xZ Tryz.prog tySS t=true:=by
 have h:(tySS.all fun t=>xZ Tryz.prog tySS t)=true:=by kernel_rfl
 exact fun t ht=>List.all_eq_true.1 h t ht
set_option maxRecDepth 100000
noncomputable abbrev PP:Program:=Tryz.pinned.checked.prog
def dft:OpenClaim:={ program := "",sum := "",func := "",spec := "" }
theorem and_ok {a b:Bool} (ha:a=true) (hb:b=true):(a && b)=true:=by rw [ha,hb];all_goals rfl
theorem g_laid:laidOutB PP=true:=laid_out
theorem g_maps:mapsRowed PP=true:=by kernel_rfl
theorem g_stops:(PP.stops == [])=true:=by kernel_rfl
theorem g_knobs:(PP.stopKnobs == [])=true:=by kernel_rfl
theorem g_heard:PP.stopsHeard=true:=by kernel_rfl
theorem g_enter:PP.mayEnter=true:=by kernel_rfl
theorem g_lifts:(dft.lifted == PP.liftsFinal)=true:=by kernel_rfl
theorem g_keys:(true == PP.plainKeys)=true:=by kernel_rfl
theorem g_make:(PP.make == some dft.make)=true:=by kernel_rfl
end Go.Proofs.YtgjagnmeonoehaaGreat
set_option maxRecDepth 100000
namespace Go.Proofs.YtgjagnmeonoehaaGreat
open Go Go.RowKit Dv Go.Proofs.Tryz
theorem Fs (x b:Nat):(x:Int).fdiv (2 ^ b)=((x / 2 ^ b:Nat):Int):=by grind
theorem jx (m:Nat):BitVec.ofInt 64 (m:Int)=BitVec.ofNat 64 m:=by simp
theorem K3 {x b:Nat} (hb:b < 64) (hx:x < 18446744073709551616) :
  decide (IntKind.u64.wrap ((BitVec.ofInt 64 ((x:Int).fdiv (2 ^ (min b 64))) &&& BitVec.ofInt 64 1).toNat:Int)=1)=x.testBit b:=by
 rw [Nat.min_eq_left (by omega),Fs,jx,show (BitVec.ofInt 64 1)=BitVec.ofNat 64 1 by decide,BitVec.toNat_and,BitVec.toNat_ofNat,BitVec.toNat_ofNat,Nat.testBit_eq_decide_div_mod_eq];have h1:x / 2 ^ b < 18446744073709551616:=Nat.lt_of_le_of_lt (Nat.div_le_self _ _) hx;rw [Nat.mod_eq_of_lt h1,show (1 % 2 ^ 64:Nat)=1 by decide,Nat.and_one_is_mod];simp only [IntKind.wrap_u64];congr 1;apply propext;omega
theorem Ix {x b:Nat} (hb:b < 64) (hx:x < 18446744073709551616) :
  IntKind.u64.wrap ((BitVec.ofInt 64 (x:Int) ||| BitVec.ofInt 64 (IntKind.u64.wrap (1 * 2 ^ (min b 64)))).toNat:Int)=((x ||| 2 ^ b:Nat):Int):=by
 have h2:2 ^ b < 18446744073709551616:=by
  have:2 ^ b<=2 ^ 63:=Nat.pow_le_pow_right (by decide) (by omega);omega
 have e1:IntKind.u64.wrap (1 * 2 ^ (min b 64))=((2 ^ b:Nat):Int):=by
  rw [Nat.min_eq_left (by omega),Int.one_mul];have:((2:Int) ^ b)=((2 ^ b:Nat):Int):=by simp
  rw [this];generalize 2 ^ b=z at h2;simp only [IntKind.wrap_u64];omega
 rw [e1,jx,jx,BitVec.toNat_or,BitVec.toNat_ofNat,BitVec.toNat_ofNat,Nat.mod_eq_of_lt hx,Nat.mod_eq_of_lt h2];have h3:x ||| 2 ^ b < 18446744073709551616:=Nat.or_lt_two_pow (n:=64) hx h2
 simp only [IntKind.wrap_u64];omega
theorem TQ {x y:Nat} (hx:x < 18446744073709551616) (hy:y < 18446744073709551616) :
  IntKind.u64.wrap ((BitVec.ofInt 64 (x:Int) ||| BitVec.ofInt 64 (y:Int)).toNat:Int)=((x ||| y:Nat):Int):=by
 rw [jx,jx,BitVec.toNat_or,BitVec.toNat_ofNat,BitVec.toNat_ofNat,Nat.mod_eq_of_lt hx,Nat.mod_eq_of_lt hy];have h3:x ||| y < 18446744073709551616:=Nat.or_lt_two_pow (n:=64) hx hy
 simp only [IntKind.wrap_u64];omega
theorem kR (x a b:Nat):(x ||| 2 ^ b).testBit a=(x.testBit a || decide (b=a)):=by
 rw [Nat.testBit_or,Nat.testBit_two_pow]
def dU (rows:List Nat):List (List DV):=rows.map fun (x:Nat)=>[DV.v (.int .u64 (x:Int))]
theorem lS (rows:List Nat):(dU rows).length=rows.length:=by simp [dU]
theorem Yr {rows:List Nat} {i:Nat} {x:Nat} (h:rows[i]? = some x):(dU rows)[i]? = some [DV.v (.int .u64 (x:Int))]:=by simp [dU,h]
abbrev oa (rows:List Nat):DV:=.pt [.sl 1 (dU rows) none] 0
def eS (rows:List Nat):Prop:=rows.length<=64/\∀ x∈rows,x < 18446744073709551616
def bf (rows:List Nat) (a b:Nat):Bool:=(rows.getD a 0).testBit b
def hasB (rows:List Nat) (a b:Int):Bool:=decide (0<=a) && decide (a < rows.length) && decide (0<=b) && decide (b < rows.length) && bf rows a.toNat b.toNat
theorem AV (rows:List Nat):EvP prog 190 [oa rows] (.v (.int .i64 rows.length)):=by
 refine eG 10 [.tmp 2] func190 rfl ntmps190 rfl fun _ _ _ _=>?_;refine (qM ?_:);rw [lS]
theorem mh (rows:List Nat) (hr:eS rows) (a b:Int):EvP prog 169 [oa rows,.v (.int .i64 a),.v (.int .i64 b)] (.v (.bool (hasB rows a b))):=by
 have hl:=AV rows;refine eG 38 [.tmp 6] func169 rfl ntmps169 rfl fun _ _ _ _=>?_;refine br ?_ ?_<;>intro g1
 ·have g1:0<=a:=sU g1;refine cP Pn hl ?_;refine br ?_ ?_<;>intro g2
  ·obtain ⟨g2,g3⟩:a < rows.length/\0<=b:=by grind [pickB]
   refine cP Pn hl ?_;refine br ?_ ?_<;>intro g4
   ·have g4:b < rows.length:=by simpa [pickB,g2,g3] using g4
    obtain ⟨x,hx⟩:∃ x,rows[a.toNat]? = some x:=⟨_,gE (by omega)⟩;have KE:=hr.2 x (mG hx);have hr1:=hr.1;refine ⟨_,⟨g1,Yr hx⟩,?_⟩;refine ⟨g3,?_⟩;refine (bP ?_:);have Mk:rows.getD a.toNat 0=x:=getD_some hx;have e1:hasB rows a b=x.testBit b.toNat:=by grind [hasB,bf]
    rw [e1];exact K3 (x:=x) (b:=b.toNat) (by omega) KE
   ·have g4:¬ b < rows.length:=by simpa [pickB,g2,g3] using g4
    refine (bP ?_:);simp [pickB,g2,g3,g4,hasB]
  ·have g5:¬ (a < rows.length/\0<=b):=by
    rintro ⟨h1,h2⟩;simp [pickB,h1,h2] at g2
   refine (bP ?_:);cases h:decide (a < (rows.length:Int))<;>simp [pickB,h,hasB] at g2 ⊢
   intro _ h0;omega
 ·have g1:¬ 0<=a:=sU g1;refine (bP ?_:);simp [g1,hasB]
def backN (rows:List Nat) (a:Nat):Nat->Nat
 | 0=>0
 | e + 1=>if bf rows a e && bf rows e a then backN rows a e ||| 2 ^ e else backN rows a e
theorem x6 (rows:List Nat) (a:Nat):∀ e,backN rows a e < 2 ^ e
 | 0=>by simp [backN]
 | e + 1=>by
  have ih:=x6 rows a e;have h2:2 ^ e < 2 ^ (e + 1):=Nat.pow_lt_pow_right (by decide) (by omega);simp only [backN];split
  ·exact Nat.or_lt_two_pow (by omega) h2
  ·omega
theorem tQ (rows:List Nat) (a b:Nat):∀ e,(backN rows a e).testBit b=(decide (b < e) && (bf rows a b && bf rows b a))
 | 0=>by simp [backN]
 | e + 1=>by
  have ih:=tQ rows a b e
  grind [backN,bf,kR]
abbrev Yt (rows:List Nat) (a e:Nat):St:=
 ⟨[(0,⟨[],oa rows⟩),au 1 a,(5,⟨[],.v (.int .u64 (backN rows a e:Nat))⟩),au 11 ((dU rows).length),au 12 e],[],[]⟩
theorem rX {rows:List Nat} {a b:Nat} (ha:a < rows.length) (hb:b < rows.length):hasB rows a b=bf rows a b:=by
 simp [hasB,ha,hb]
theorem Iy (rows:List Nat) (hr:eS rows) (a:Nat) (ha:a < rows.length):EvP prog 192 [oa rows,.v (.int .i64 a)] (.v (.int .u64 (backN rows a rows.length:Nat))):=by
 have hr1:=hr.1;refine eG 31 [.tmp 4] func192 rfl ntmps192 rfl fun _ _ _ _=>?_;refine lJ (fun e=>Yt rows a e) rows.length (bz wB) ?_;intro e he;refine br ?_ ?_<;>intro hL
 ·have aq:e < rows.length:=by have:=hL;simp [lS] at this;exact this
  have h1:=mh rows hr a e;have h2:=mh rows hr e a;rw [rX ha aq] at h1;rw [rX aq ha] at h2;have hbl:=x6 rows a e
  have Yu:backN rows a e < 18446744073709551616:=by
   have:2 ^ e<=2 ^ 64:=Nat.pow_le_pow_right (by decide) (by omega);omega
  have hor:=Ix (x:=backN rows a e) (b:=e) (by omega) Yu;have hs:backN rows a (e + 1)=if bf rows a e && bf rows e a then backN rows a e ||| 2 ^ e else backN rows a e:=rfl
  refine cP EU h1 ?_;refine br ?_ ?_<;>intro g1
  ·have g1:bf rows a e=true:=sU g1;refine cP EU h2 ?_;refine br ?_ ?_<;>intro g2
   ·have g2:bf rows e a=true:=by simpa [pickB,g1] using g2
    rw [g1,g2] at hs;have hs:backN rows a (e + 1)=backN rows a e ||| 2 ^ e:=hs
    refine ⟨by omega,?_⟩;exact rE ⟨_,by omega,e + 1,rfl,by omega,rfl⟩ (bz (by repeat' (first | exact trivial | exact aA rfl | exact aC (aG aq (by omega)) | exact aC (hor.trans (by rw [hs])) | refine ⟨⟨_,rfl,?_⟩,?_⟩)))
   ·have g2:bf rows e a=false:=by simpa [pickB,g1] using g2
    rw [g1,g2] at hs;have hs:backN rows a (e + 1)=backN rows a e:=hs;exact rE ⟨_,by omega,e + 1,rfl,by omega,rfl⟩ (bz (by repeat' (first | exact trivial | exact aA rfl | exact aC (aG aq (by omega)) | exact aC (by rw [hs]) | refine ⟨⟨_,rfl,?_⟩,?_⟩)))
  ·have g1:bf rows a e=false:=sU g1;rw [g1] at hs;have hs:backN rows a (e + 1)=backN rows a e:=hs;exact rE ⟨_,by omega,e + 1,rfl,by omega,rfl⟩ (bz (by repeat' (first | exact trivial | exact aA rfl | exact aC (aG aq (by omega)) | exact aC (by rw [hs]) | refine ⟨⟨_,rfl,?_⟩,?_⟩)))
 ·have hge:e=rows.length:=by have:=hL;simp [lS] at this;omega
  subst hge;exact (rfl:_=_)
def cU (rows:List Nat):List DV:=rows.map fun (x:Nat)=>DV.v (.int .u64 (x:Int))
theorem tR (rows:List Nat):(cU rows).length=rows.length:=by simp [cU]
theorem Qc {rows:List Nat} {i x:Nat} (h:rows[i]? = some x):(cU rows)[i]? = some (DV.v (.int .u64 (x:Int))):=by simp [cU,h]
theorem Qd (rows:List Nat) (i x:Nat):(cU rows).set i (DV.v (.int .u64 (x:Int)))=cU (rows.set i x):=by simp [cU,List.map_set]
theorem rY (rows:List Nat):(dU rows).flatten=cU rows:=by
 induction rows with
 | nil=>rfl
 | cons x r ih=>simp only [dU,cU,List.map_cons,List.flatten_cons] at ih ⊢;rw [ih];all_goals rfl
theorem K4 {n m:Nat} {tk:List TkE}:∀ l:List Nat,WeL n m tk (cU l) (cU l)
 | []=>rfl
 | b :: r=>⟨_,_,rfl,aA rfl,K4 r⟩
theorem CQ {n m:Nat} {tk:List TkE} {l:List DV} {ds:List Nat} (h:l=cU ds):WeL n m tk l (cU ds):=by rw [h];exact K4 ds
def dNP (p:Nat × Nat):List DV:=[.v (.int .i64 (p.1:Int)),.v (.int .i64 (p.2:Int))]
def nv (l:List (Nat × Nat)):List (List DV):=l.map dNP
theorem iE (l:List (Nat × Nat)):(nv l).length=l.length:=by simp [nv]
theorem x7 {l:List (Nat × Nat)} {i:Nat} {p:Nat × Nat} (h:l[i]? = some p):(nv l)[i]? = some (dNP p):=by simp [nv,h]
def x8 (rows:List Nat) (p:Nat × Nat):List Nat:=rows.set p.1 (rows.getD p.1 0 ||| 2 ^ p.2)
def fZ (n:Nat) (l:List (Nat × Nat)):List Nat:=l.foldl x8 (List.replicate n 0)
theorem MK (n:Nat) (l:List (Nat × Nat)) (e:Nat) {p:Nat × Nat} (h:l[e]? = some p):fZ n (l.take (e + 1))=x8 (fZ n (l.take e)) p:=by
 unfold fZ;rw [List.take_add_one,h];simp
theorem rZ (rows:List Nat) (p:Nat × Nat):(x8 rows p).length=rows.length:=by simp [x8]
theorem kS (n:Nat):∀ (l:List (Nat × Nat)),(fZ n l).length=n:=by
 intro l
 have:∀ (l:List (Nat × Nat)) (r:List Nat),(l.foldl x8 r).length=r.length:=by
  intro l
  induction l with
  | nil=>intro r;rfl
  | cons p l ih=>intro r;rw [List.foldl_cons,ih,rZ]
 rw [fZ,this];simp
theorem TR {rows:List Nat} {p:Nat × Nat} (h:eS rows) (hp:p.1 < rows.length) (hq:p.2 < 64):eS (x8 rows p):=by
 refine ⟨by rw [rZ];exact h.1,fun x hx=>?_⟩;rcases List.mem_or_eq_of_mem_set hx with hx | rfl
 ·exact h.2 x hx
 ·refine Nat.or_lt_two_pow (n:=64) ?_ (Nat.pow_lt_pow_right (by decide) hq);rw [bN,gE hp];exact h.2 _ (List.getElem_mem hp)
theorem CR {n:Nat} (hn:n<=64):∀ (l:List (Nat × Nat)),(∀ p∈l,p.1 < n/\p.2 < n)->eS (fZ n l):=by
 intro l hl
 have:∀ (l:List (Nat × Nat)) (r:List Nat),r.length=n->eS r->(∀ p∈l,p.1 < n/\p.2 < n)->eS (l.foldl x8 r):=by
  intro l
  induction l with
  | nil=>intro r _ h _;exact h
  | cons p l ih=>grind [rZ,TR]
 refine this l _ (by simp) ⟨by simp [hn],fun x hx=>?_⟩ hl;rw [List.mem_replicate] at hx;omega
abbrev Qe (n:Nat) (l:List (Nat × Nat)) (rows:List Nat) (e:Nat):St:=
 ⟨[au 0 n,aE 6 1,aM 19 2 (nv l),au 20 ((nv l).length),au 21 e],
  [cU rows,[.ms 0 1 0 n n]],[]⟩
theorem ML (n:Nat) (hn:n<=64) (l:List (Nat × Nat)) (hl:∀ p∈l,p.1 < n/\p.2 < n) (hb:l.length<=1099511627776) :
  EvP prog 107 [.v (.int .i64 n),.sl 2 (nv l) none] (.tup [oa (fZ n l),.v (.bool true)]):=by
 refine eG 60 [.tmp 4,.tmp 5] func107 rfl ntmps107 rfl fun _ _ _ _=>?_;refine br ?_ ?_<;>intro g
 ·exfalso;simp [aw] at g;omega
 refine ⟨⟨rfl,by omega,by omega,by omega⟩,?_⟩
 have h0:(List.replicate (n:Int).toNat [DV.v (.int .u64 0)]).flatten=cU (fZ n (l.take 0)):=by
  simp [fZ,cU]
 refine lJ (fun e=>Qe n l (fZ n (l.take e)) e) l.length (bZ 2 (by repeat' (first | exact rfl | exact aA rfl | exact CQ h0 | refine ⟨_,_,rfl,?_,?_⟩)) (by repeat' (first | exact trivial | exact aA rfl | exact CQ h0 | refine ⟨⟨_,rfl,?_⟩,?_⟩))) ?_;intro e he;refine br ?_ ?_<;>intro hL
 ·have aq:e < l.length:=by have:=hL;simp [iE] at this;exact this
  obtain ⟨p,hp⟩:=gX aq;obtain ⟨p1,p2⟩:=hl p (mG hp);refine iX (x7 hp) ?_;refine ⟨⟨by decide,by decide⟩,?_⟩;refine ⟨⟨by decide,by decide⟩,?_⟩;refine br ?_ ?_<;>intro g
  ·refine ⟨⟨by decide,by decide⟩,?_⟩;refine ⟨⟨by decide,by decide⟩,?_⟩;refine br ?_ ?_<;>intro g2
   ·exfalso;simp [pickB] at g2;omega
   obtain ⟨x,hx⟩:∃ x,(fZ n (l.take e))[p.1]? = some x:=⟨_,gE (by rw [kS];exact p1)⟩;have aZ:=CR hn (l.take e) (fun q hq=>hl q (List.mem_of_mem_take hq));have KE:=aZ.2 x (mG hx);have vy:0 + (p.1:Int).toNat * 1=p.1:=by omega
   refine dS ?_;refine ⟨⟨by decide,by decide⟩,?_⟩;refine ⟨⟨by omega,by omega⟩,?_⟩;refine ⟨_,(by rw [vy];exact Qc hx:(cU (fZ n (l.take e)))[0 + (p.1:Int).toNat * 1]? = some _),?_⟩;refine ⟨⟨by decide,by decide⟩,?_⟩;refine ⟨by omega,?_⟩;refine ⟨⟨by omega,by omega⟩,?_⟩;refine ⟨by rw [vy,tR,kS];omega,?_⟩
   have hcs:(cU (fZ n (l.take e))).set (0 + (p.1:Int).toNat * 1) (DV.v (.int .u64 (IntKind.u64.wrap ((BitVec.ofInt 64 (x:Int) ||| BitVec.ofInt 64 (IntKind.u64.wrap (1 * 2 ^ (min (p.2:Int).toNat 64)))).toNat:Int))))=cU (fZ n (l.take (e + 1))):=by
    rw [vy,show ((p.2:Int).toNat)=p.2 by omega,Ix (by omega) KE,Qd,MK n l e hp];simp only [x8];rw [getD_some hx]
   refine ⟨Qe n l (fZ n (l.take (e + 1))) (e + 1),(bZ 2 (by repeat' (first | exact rfl | exact aA rfl | exact CQ hcs | exact aC (aG aq (by omega)) | refine ⟨_,_,rfl,?_,?_⟩)) (by repeat' (first | exact trivial | exact aA rfl | exact CQ hcs | exact aC (aG aq (by omega)) | refine ⟨⟨_,rfl,?_⟩,?_⟩))),l.length - (e + 1),by omega,e + 1,rfl,by omega,rfl⟩
  ·exfalso;simp [pickB] at g;omega
 ·have hge:e=l.length:=by have:=hL;simp [iE] at this;omega
  subst hge;rw [List.take_length];refine ⟨_,?_,rfl⟩;have hlen:=kS n l;generalize fZ n l=rows at hlen ⊢;refine ⟨_,rfl,_,_,rfl,.inr ⟨1,_,rfl,Nat.zero_le _,rfl,_,_,rfl,.inr (.inr (.inl ⟨0,0,n,cU rows,by rw [lS,hlen],Nat.zero_le _,rfl,?_,?_,?_⟩)),rfl⟩,_,_,rfl,rfl,rfl⟩
  ·grind [rY,lS,tR]
  ·grind [dU]
  ·grind [rY,cU]
def kT (rows:List Nat) (k:Nat):List Nat:=rows.set k (rows.getD k 0 ||| 2 ^ k)
def qz (k:Nat) (rows:List Nat) (a:Nat):List Nat:=if bf rows a k then rows.set a (rows.getD a 0 ||| rows.getD k 0) else rows
def iF (rows:List Nat) (k e:Nat):List Nat:=(List.range e).foldl (qz k) (kT rows k)
def closeR (rows:List Nat) (e:Nat):List Nat:=(List.range e).foldl (fun r k=>iF r k r.length) rows
theorem Qf {rows:List Nat} {i x:Nat} (h:eS rows) (hx:x < 18446744073709551616):eS (rows.set i x):=by
 refine ⟨by rw [List.length_set];exact h.1,fun y hy=>?_⟩;rcases List.mem_or_eq_of_mem_set hy with hy | rfl
 ·exact h.2 y hy
 ·exact hx
theorem ny {rows:List Nat} (h:eS rows) (i:Nat):rows.getD i 0 < 18446744073709551616:=by
 rw [bN]
 cases hx:rows[i]? with
 | none=>simp
 | some x=>exact h.2 x (mG hx)
theorem Qg {rows:List Nat} {k:Nat} (h:eS rows) (hk:k < 64):eS (kT rows k):=
 Qf h (Nat.or_lt_two_pow (n:=64) (ny h k) (Nat.pow_lt_pow_right (by decide) hk))
theorem MM (rows:List Nat) (k:Nat):(kT rows k).length=rows.length:=by simp [kT]
theorem Qh {rows:List Nat} {k a:Nat} (h:eS rows):eS (qz k rows a):=by
 unfold qz;split
 ·exact Qf h (Nat.or_lt_two_pow (n:=64) (ny h a) (ny h k))
 ·exact h
theorem MN (rows:List Nat) (k a:Nat):(qz k rows a).length=rows.length:=by
 unfold qz;split<;>simp
theorem nz (rows:List Nat) (k e:Nat):iF rows k (e + 1)=qz k (iF rows k e) e:=by simp [iF,List.range_succ]
theorem pD (rows:List Nat) (k:Nat):∀ e,(iF rows k e).length=rows.length
 | 0=>by simp [iF,MM]
 | e + 1=>by rw [nz,MN,pD]
theorem x9 {rows:List Nat} {k:Nat} (h:eS rows) (hk:k < 64):∀ e,eS (iF rows k e)
 | 0=>by simpa [iF] using Qg h hk
 | e + 1=>by rw [nz];exact Qh (x9 h hk e)
theorem lC (rows:List Nat) (e:Nat):closeR rows (e + 1)=iF (closeR rows e) e (closeR rows e).length:=by simp [closeR,List.range_succ]
theorem gd (rows:List Nat):∀ e,(closeR rows e).length=rows.length
 | 0=>by simp [closeR]
 | e + 1=>by rw [lC,pD,gd]
theorem mi {rows:List Nat} (h:eS rows):∀ e,e<=64->eS (closeR rows e)
 | 0,_=>by simpa [closeR] using h
 | e + 1,he=>by rw [lC];exact x9 (mi h e (by omega)) (by omega) _
def spU (m:Nat):List DV:=(List.replicate m (vL [Value.int .u64 0])).flatten
theorem ya {n m:Nat} {tk:List TkE}:∀ l:List DV,(∀ x∈l,∃ y,x = .v y)->WeL n m tk l l
 | [],_=>rfl
 | b :: r,h=>by
  obtain ⟨y,rfl⟩:=h b (by simp);exact ⟨_,_,rfl,aA rfl,ya r (fun x hx=>h x (by simp [hx]))⟩
theorem gD {n m:Nat} {tk:List TkE} {l:List DV} {ds:List Nat} {k:Nat} (h:l=cU ds ++ spU k):WeL n m tk l (cU ds ++ spU k):=by
 rw [h];refine ya _ fun x hx=>?_;rcases List.mem_append.1 hx with hx | hx
 ·grind [cU]
 ·simp_all [spU,vL]
theorem CS {r:List Nat} {k i x:Nat} (h:r[i]? = some x):(cU r ++ spU k)[0 + (i:Int).toNat * 1]? = some (DV.v (.int .u64 (x:Int))):=by grind [tR,Qc]
theorem Qi {r:List Nat} {k i x:Nat} (h:i < r.length):(cU r ++ spU k).set (0 + (i:Int).toNat * 1) (DV.v (.int .u64 (x:Int)))=cU (r.set i x) ++ spU k:=by grind [tR,Qd]
theorem Qj {r:List Nat} {k i:Nat} (h:i < r.length):0 + (i:Int).toNat * 1 + 1<=(cU r ++ spU k).length:=by
 rw [List.length_append,tR];omega
abbrev clSt (rows:List Nat) (cap:Nat) (r:List Nat) (e:Nat):St:=
 ⟨[aE 3 1,au 19 ((dU rows).length),au 20 e],[cU r ++ spU (cap - (dU rows).length),[.ms 0 1 0 (dU rows).length cap]],[]⟩
abbrev acy (rows:List Nat) (cap:Nat) (r:List Nat) (e f:Nat):St:=
 ⟨[aE 3 1,au 4 e,au 19 ((dU rows).length),au 20 e,au 38 ((dU rows).length),au 39 f],[cU r ++ spU (cap - (dU rows).length),[.ms 0 1 0 (dU rows).length cap]],[]⟩
theorem qU {l:List Nat} {i:Nat} (h:i < l.length):l[i]? = some (l.getD i 0):=tM h
theorem u4 (rows:List Nat) (hr:eS rows) (h0:rows ≠ []):EvP prog 109 [oa rows] (oa (closeR rows rows.length)):=by
 have hr1:=hr.1;have hN:=lS rows;have p9:0 < rows.length:=List.length_pos_iff.2 h0;refine nf (s:=false) (bt:=[]) (mu:=[12]) (hbt:=fun p hp=>by cases hp) (fr:=false) (P:=prog) tt nV 5000 72 [.tmp 2] func109 rfl ntmps109 rfl (nL rfl) (fun _ _ _ _=>?_);refine ⟨⟨by intro h;exact h0 (by simpa [dU] using h),by rw [lS];simp [maxLen];omega,by rw [lS];omega⟩,fun cap Mh=>?_⟩
 have iv:(dU rows).flatten.append (List.replicate (cap - (dU rows).length) (vL [Value.int .u64 0])).flatten=cU (closeR rows 0) ++ spU (cap - (dU rows).length):=by
  show (dU rows).flatten ++ _=_;rw [rY];rfl
 refine lJ (fun e=>clSt rows cap (closeR rows e) e) rows.length (bZ 2 (jM iv) (cJ iv)) ?_;intro e he;have aZ:=mi hr e (by omega);have hlen:=gd rows e;have yb:=lC rows e;generalize hce:closeR rows e=r at aZ hlen yb ⊢;refine br ?_ ?_<;>intro hL
 ·have aq:e < rows.length:=by have:=hL;simp [hN] at this;exact this
  have hx:=qU (l:=r) (i:=e) (by omega);have hor:=Ix (x:=r.getD e 0) (b:=e) (by omega) (ny aZ e);refine dS ?_;refine ⟨⟨by omega,by omega⟩,?_⟩;refine ⟨_,CS hx,?_⟩;refine ⟨by omega,?_⟩;refine ⟨⟨by omega,by omega⟩,?_⟩;refine ⟨Qj (by omega),?_⟩
  have lP:(cU r ++ spU (cap - (dU rows).length)).set (0 + (e:Int).toNat * 1) (DV.v (.int .u64 (IntKind.u64.wrap ((BitVec.ofInt 64 ((r.getD e 0:Nat):Int) ||| BitVec.ofInt 64 (IntKind.u64.wrap (1 * 2 ^ (min (e:Int).toNat 64)))).toNat:Int))))=cU (iF r e 0) ++ spU (cap - (dU rows).length):=by
   rw [show min (e:Int).toNat 64=min e 64 by omega,hor,Qi (by omega)];rfl
  refine lJ (fun f=>acy rows cap (iF r e f) e f) rows.length (bZ 2 (jM lP) (cJ lP)) ?_;intro f hf;have hpk:=x9 (k:=e) aZ (by omega) f;have gP:=pD r e f;have PS:=nz r e f;have dQ:e < (iF r e f).length:=by rw [gP];omega
  refine br ?_ ?_<;>intro hL
  ·have HF:f < rows.length:=by have:=hL;simp [hN] at this;exact this
   have hpf:f < (iF r e f).length:=by rw [gP];omega
   generalize iF r e f=q at hpk gP PS dQ hpf ⊢;have hy:=qU hpf;have hz:=qU dQ;have Qk:=K3 (x:=q.getD f 0) (b:=e) (by omega) (ny hpk f);have hor:=TQ (ny hpk f) (ny hpk e);refine ⟨⟨by omega,by omega⟩,?_⟩;refine ⟨_,CS hy,?_⟩;refine ⟨by omega,?_⟩;refine br ?_ ?_<;>intro g
   ·have g:bf q f e=true:=Qk.symm.trans g;refine dS ?_;refine ⟨⟨by omega,by omega⟩,?_⟩;refine ⟨_,CS hy,?_⟩;refine ⟨⟨by omega,by omega⟩,?_⟩;refine ⟨_,CS hz,?_⟩;refine ⟨⟨by omega,by omega⟩,?_⟩;refine ⟨Qj hpf,?_⟩
    have iQ:(cU q ++ spU (cap - (dU rows).length)).set (0 + (f:Int).toNat * 1) (DV.v (.int .u64 (IntKind.u64.wrap ((BitVec.ofInt 64 ((q.getD f 0:Nat):Int) ||| BitVec.ofInt 64 ((q.getD e 0:Nat):Int)).toNat:Int))))=cU (iF r e (f + 1)) ++ spU (cap - (dU rows).length):=by
     rw [hor,Qi hpf,PS,qz,ap g]
    exact rE ⟨_,by omega,f + 1,rfl,by omega,rfl⟩ (bZ 2 (lY iQ (aG HF (by omega))) (wB2 iQ (aG HF (by omega))))
   ·have g:bf q f e=false:=Qk.symm.trans g
    have iQ:cU q ++ spU (cap - (dU rows).length)=cU (iF r e (f + 1)) ++ spU (cap - (dU rows).length):=by
     rw [PS,qz,aj (by rw [g];decide)]
    exact rE ⟨_,by omega,f + 1,rfl,by omega,rfl⟩ (bZ 2 (lY iQ (aG HF (by omega))) (wB2 iQ (aG HF (by omega))))
  ·have hge:f=rows.length:=sW hN hL;subst hge
   have Kt:cU (iF r e rows.length) ++ spU (cap - (dU rows).length)=cU (closeR rows (e + 1)) ++ spU (cap - (dU rows).length):=by
    rw [yb,hlen]
   exact rE ⟨_,by omega,e + 1,rfl,by omega,rfl⟩ (bZ 2 (lY Kt (aG aq (by omega))) (wB2 Kt (aG aq (by omega))))
 ·have hge:e=rows.length:=sW hN hL;subst hge;refine ⟨_,?_,rfl⟩;rw [hce];refine .inr ⟨1,_,rfl,Nat.zero_le _,rfl,_,_,rfl,.inr (.inr (.inl ⟨0,0,cap,cU r ++ spU (cap - (dU rows).length),by rw [lS r,hlen,hN],Nat.zero_le _,rfl,?_,?_,?_⟩)),rfl⟩
  ·grind [rY,lS,tR]
  ·grind [dU]
  ·grind [rY,cU]
theorem mj {a b c d:Nat} (ha:a < 256) (hb:b < 256):(a + 256 * c) &&& (b + 256 * d)=(a &&& b) + 256 * (c &&& d):=by
 have h1:a &&& b < 256:=Nat.and_lt_two_pow (n:=8) a hb;apply Nat.eq_of_testBit_eq;intro i
 have e (x y:Nat) (hx:x < 256):(x + 256 * y).testBit i=if i < 8 then x.testBit i else y.testBit (i - 8):=by
  rw [show x + 256 * y=2 ^ 8 * y + x by omega,Nat.testBit_two_pow_mul_add _ (sU hx)]
 grind
def b1 (x:Nat):Nat:=((x / 2) &&& 85) + (x &&& 85)
def b2 (x:Nat):Nat:=((x / 4) &&& 51) + (x &&& 51)
def b3 (x:Nat):Nat:=((x / 16) + x) &&& 15
def pop8 (x:Nat):Nat:=b3 (b2 (b1 x))
theorem K5:∀ x:Fin 256,b1 x.val < 256/\b2 (b1 x.val) < 120/\pop8 x.val<=8/\pop8 x.val=(((((((x.val.testBit 0).toNat + (x.val.testBit 1).toNat) + (x.val.testBit 2).toNat) + (x.val.testBit 3).toNat) + (x.val.testBit 4).toNat) + (x.val.testBit 5).toNat) + (x.val.testBit 6).toNat) + (x.val.testBit 7).toNat:=by decide +kernel
def valB:List Nat->Nat
 | []=>0
 | a :: r=>a + 256 * valB r
def rep (m:Nat):Nat->Nat
 | 0=>0
 | n + 1=>m + 256 * rep m n
theorem m1:∀ (a:Fin 256) (c:Fin 2),(a.val / 2 + 128 * c.val) &&& 85=(a.val / 2) &&& 85:=by decide +kernel
theorem m2:∀ (a:Fin 256) (c:Fin 4),(a.val / 4 + 64 * c.val) &&& 51=(a.val / 4) &&& 51:=by decide +kernel
theorem rn:∀ l:List Nat,(∀ a∈l,a < 256)->((valB l / 2) &&& rep 85 l.length) + (valB l &&& rep 85 l.length)=valB (l.map b1)
 | [],_=>rfl
 | a :: r,h=>by
  have ih:=rn r (fun x hx=>h x (by simp [hx]));have ha:=h a (by simp);have e1:(a + 256 * valB r) / 2=(a / 2 + 128 * (valB r % 2)) + 256 * (valB r / 2):=by omega
  have hm:=m1 ⟨a,ha⟩ ⟨valB r % 2,by omega⟩;simp only at hm;simp only [valB,List.length_cons,rep,List.map_cons,b1];rw [e1,mj (by omega) (by decide),mj ha (by decide),hm,<- ih];omega
theorem EM:∀ l:List Nat,(∀ a∈l,a < 256)->((valB l / 4) &&& rep 51 l.length) + (valB l &&& rep 51 l.length)=valB (l.map b2)
 | [],_=>rfl
 | a :: r,h=>by
  have ih:=EM r (fun x hx=>h x (by simp [hx]));have ha:=h a (by simp);have e1:(a + 256 * valB r) / 4=(a / 4 + 64 * (valB r % 4)) + 256 * (valB r / 4):=by omega
  have hm:=m2 ⟨a,ha⟩ ⟨valB r % 4,by omega⟩;simp only at hm;simp only [valB,List.length_cons,rep,List.map_cons,b2];rw [e1,mj (by omega) (by decide),mj ha (by decide),hm,<- ih];omega
theorem acA (x y:Nat):(x + 16 * y) &&& 15=x &&& 15:=by
 have h (z:Nat):z &&& 15=z % 16:=Nat.and_two_pow_sub_one_eq_mod z 4;rw [h,h];omega
def Fu (a:Nat):Prop:=a < 70/\a % 16<=4
theorem st3:∀ l:List Nat,(∀ a∈l,Fu a)->((valB l / 16) + valB l) &&& rep 15 l.length=valB (l.map b3)
 | [],_=>rfl
 | a :: r,h=>by
  have ih:=st3 r (fun x hx=>h x (by simp [hx]));have ha:=h a (by simp)
  have hc:valB r % 16<=4:=by
   cases r with
   | nil=>simp [valB]
   | cons b s=>
    have:=(h b (by simp)).2;simp only [valB];omega
  unfold Fu at ha;have e1:(a + 256 * valB r) / 16 + (a + 256 * valB r)=((a / 16 + a) + 16 * (valB r % 16)) + 256 * (valB r / 16 + valB r):=by omega
  simp only [valB,List.length_cons,rep,List.map_cons,b3];rw [e1,mj (by omega) (by decide),acA,ih]
def fp (x:Nat):List Nat:=[x % 256,x / 256 % 256,x / 65536 % 256,x / 16777216 % 256,x / 4294967296 % 256,x / 1099511627776 % 256,x / 281474976710656 % 256,x / 72057594037927936 % 256]
theorem Iz {x:Nat} (h:x < 18446744073709551616):valB (fp x)=x:=by
 simp only [fp,valB];omega
theorem MO (x:Nat):∀ a∈fp x,a < 256:=by
 intro a ha;simp only [fp,List.mem_cons,List.not_mem_nil,or_false] at ha;omega
def IA (x:Nat):Nat:=((fp x).map pop8).sum
theorem Fv:∀ a:Fin 256,b1 a.val < 256/\b2 (b1 a.val) < 70/\b2 (b1 a.val) % 16<=4:=by decide +kernel
theorem CT {x m:Nat} (hx:x < 18446744073709551616) (hm:m < 18446744073709551616) :
  IntKind.u64.wrap ((BitVec.ofInt 64 (x:Int) &&& BitVec.ofInt 64 (m:Int)).toNat:Int)=((x &&& m:Nat):Int):=by
 rw [jx,jx,BitVec.toNat_and,BitVec.toNat_ofNat,BitVec.toNat_ofNat,Nat.mod_eq_of_lt hx,Nat.mod_eq_of_lt hm];have h3:x &&& m < 18446744073709551616:=Nat.and_lt_two_pow (n:=64) x hm;simp only [IntKind.wrap_u64];omega
theorem IB {x:Nat} {k:Int} (hk:k.toNat < 64):(x:Int).fdiv (2 ^ min k.toNat IntKind.u64.bits)=((x / 2 ^ k.toNat:Nat):Int):=by
 rw [show min k.toNat IntKind.u64.bits=k.toNat from Nat.min_eq_left (by show k.toNat<=64;omega),Fs]
theorem CU {y:Nat} (h:y < 18446744073709551616):IntKind.u64.wrap (y:Int)=(y:Int):=by
 simp only [IntKind.wrap_u64];omega
theorem acB {k M:Int} {m x y:Nat} (hk:k.toNat < 64) (hx:x < 18446744073709551616) (hM:M=(m:Int)) (hm:m < 18446744073709551616) (hy:((x / 2 ^ k.toNat) &&& m) + (x &&& m)=y) (lk:y < 18446744073709551616) :
  IntKind.u64.wrap (IntKind.u64.wrap ((BitVec.ofInt IntKind.u64.bits ((x:Int).fdiv (2 ^ min k.toNat IntKind.u64.bits)) &&& BitVec.ofInt IntKind.u64.bits M).toNat:Int) + IntKind.u64.wrap ((BitVec.ofInt IntKind.u64.bits (x:Int) &&& BitVec.ofInt IntKind.u64.bits M).toNat:Int))=(y:Int):=by
 subst hM;have h1:x / 2 ^ k.toNat < 18446744073709551616:=Nat.lt_of_le_of_lt (Nat.div_le_self _ _) hx;have e1:IntKind.u64.wrap ((BitVec.ofInt IntKind.u64.bits ((x / 2 ^ k.toNat:Nat):Int) &&& BitVec.ofInt IntKind.u64.bits (m:Int)).toNat:Int)=_:=CT h1 hm;have e2:IntKind.u64.wrap ((BitVec.ofInt IntKind.u64.bits (x:Int) &&& BitVec.ofInt IntKind.u64.bits (m:Int)).toNat:Int)=_:=CT hx hm;rw [IB hk,e1,e2,<- Int.natCast_add,hy,CU lk]
theorem stgB {k M:Int} {m x y:Nat} (hk:k.toNat < 64) (hs:x / 2 ^ k.toNat + x < 18446744073709551616) (hM:M=(m:Int)) (hm:m < 18446744073709551616) (hy:((x / 2 ^ k.toNat) + x) &&& m=y) :
  IntKind.u64.wrap ((BitVec.ofInt IntKind.u64.bits (IntKind.u64.wrap ((x:Int).fdiv (2 ^ min k.toNat IntKind.u64.bits) + (x:Int))) &&& BitVec.ofInt IntKind.u64.bits M).toNat:Int)=(y:Int):=by
 subst hM;have e2:IntKind.u64.wrap ((BitVec.ofInt IntKind.u64.bits ((x / 2 ^ k.toNat + x:Nat):Int) &&& BitVec.ofInt IntKind.u64.bits (m:Int)).toNat:Int)=_:=CT hs hm;rw [IB hk,<- Int.natCast_add,CU hs,e2,hy]
theorem Yv {k:Int} {x:Nat} (hk:k.toNat < 64) (hs:x + x / 2 ^ k.toNat < 18446744073709551616) :
  IntKind.u64.wrap ((x:Int) + (x:Int).fdiv (2 ^ min k.toNat IntKind.u64.bits))=((x + x / 2 ^ k.toNat:Nat):Int):=by
 rw [IB hk,<- Int.natCast_add,CU hs]
theorem K6:∀ l:List Nat,(∀ a∈l,a < 256)->valB l < 256 ^ l.length
 | [],_=>by simp [valB]
 | a :: r,h=>by
  have ih:=K6 r (fun x hx=>h x (by simp [hx]));have ha:=h a (by simp)
  grind [valB]
theorem Ql {x:Nat} (hx:x < 18446744073709551616):∃ y1 y2 y3:Nat,((x / 2) &&& 6148914691236517205) + (x &&& 6148914691236517205)=y1/\y1 < 18446744073709551616/\((y1 / 4) &&& 3689348814741910323) + (y1 &&& 3689348814741910323)=y2/\y2 / 16 + y2 < 18446744073709551616/\y2 < 18446744073709551616 /\
  ((y2 / 16) + y2) &&& 1085102592571150095=y3/\∃ p0 p1 p2 p3 p4 p5 p6 p7:Nat,y3=valB [p0,p1,p2,p3,p4,p5,p6,p7]/\(p0<=8/\p1<=8/\p2<=8/\p3<=8/\p4<=8/\p5<=8/\p6<=8/\p7<=8)/\IA x=p0 + p1 + p2 + p3 + p4 + p5 + p6 + p7:=by
 have hl:=MO x;have s1:=rn (fp x) hl;rw [Iz hx] at s1
 have l1:∀ a∈(fp x).map b1,a < 256:=by
  intro a ha;obtain ⟨b,hb,rfl⟩:=List.mem_map.1 ha;exact (Fv ⟨b,hl b hb⟩).1
 have l2:∀ a∈((fp x).map b1).map b2,Fu a:=by
  intro a ha;obtain ⟨c,hc,rfl⟩:=List.mem_map.1 ha;obtain ⟨b,hb,rfl⟩:=List.mem_map.1 hc;exact (Fv ⟨b,hl b hb⟩).2
 have s2:=EM ((fp x).map b1) l1;have s3:=st3 (((fp x).map b1).map b2) l2
 have v1:valB ((fp x).map b1) < 18446744073709551616:=by
  have:=K6 _ l1;rw [List.length_map,show (fp x).length=8 from rfl] at this;simpa using this
 rw [show rep 85 (fp x).length=6148914691236517205 from (by decide:rep 85 8=_)] at s1;rw [List.length_map,show rep 51 (fp x).length=3689348814741910323 from (by decide:rep 51 8=_)] at s2;rw [List.length_map,List.length_map,show rep 15 (fp x).length=1085102592571150095 from (by decide:rep 15 8=_)] at s3;refine ⟨_,_,_,s1,v1,s2,?_,?_,s3,_,_,_,_,_,_,_,_,rfl,?_,?_⟩
 ·have:=l2;simp only [fp,List.map_cons,List.map_nil,List.mem_cons,List.not_mem_nil,or_false,forall_eq_or_imp,forall_eq,Fu,valB] at this ⊢;omega
 ·have:=l2;simp only [fp,List.map_cons,List.map_nil,List.mem_cons,List.not_mem_nil,or_false,forall_eq_or_imp,forall_eq,Fu,valB] at this ⊢;omega
 ·have h (b:Nat) (hb:b < 256):=(K5 ⟨b,hb⟩).2.2.1;exact ⟨h _ (by omega),h _ (by omega),h _ (by omega),h _ (by omega),h _ (by omega),h _ (by omega),h _ (by omega),h _ (by omega)⟩
 ·simp only [IA,fp,List.map_cons,List.map_nil,List.sum_cons,List.sum_nil,pop8];omega
theorem dr1 {a r:Nat} (h:a < 256):(a + 256 * r) / 256=r:=by omega
theorem dr2 {a b r:Nat} (h:a < 256) (h2:b < 256):(a + 256 * (b + 256 * r)) / 65536=r:=by omega
theorem Qm {p0 p1 p2 p3 p4 p5 p6 p7:Nat} (hp:p0<=8/\p1<=8/\p2<=8/\p3<=8/\p4<=8/\p5<=8/\p6<=8/\p7<=8):∃ z1 z2 z3:Nat,
  (p0 + 256 * (p1 + 256 * (p2 + 256 * (p3 + 256 * (p4 + 256 * (p5 + 256 * (p6 + 256 * (p7 + 256 * 0)))))))) + (p0 + 256 * (p1 + 256 * (p2 + 256 * (p3 + 256 * (p4 + 256 * (p5 + 256 * (p6 + 256 * (p7 + 256 * 0)))))))) / 256=z1/\z1 < 18446744073709551616 /\
  z1 + z1 / 65536=z2/\z2 < 18446744073709551616/\z2 + z2 / 4294967296=z3/\z3 < 18446744073709551616/\z3 % 128=p0 + p1 + p2 + p3 + p4 + p5 + p6 + p7:=by
 refine ⟨(p0 + p1) + 256 * ((p1 + p2) + 256 * ((p2 + p3) + 256 * ((p3 + p4) + 256 * ((p4 + p5) + 256 * ((p5 + p6) + 256 * ((p6 + p7) + 256 * p7)))))),
  (p0 + p1 + p2 + p3) + 256 * ((p1 + p2 + p3 + p4) + 256 * ((p2 + p3 + p4 + p5) + 256 * ((p3 + p4 + p5 + p6) + 256 * ((p4 + p5 + p6 + p7) + 256 * ((p5 + p6 + p7) + 256 * ((p6 + p7) + 256 * p7)))))),
  (p0 + p1 + p2 + p3 + p4 + p5 + p6 + p7) + 256 * ((p1 + p2 + p3 + p4 + p5 + p6 + p7) + 256 * ((p2 + p3 + p4 + p5 + p6 + p7) + 256 * ((p3 + p4 + p5 + p6 + p7) + 256 * ((p4 + p5 + p6 + p7) + 256 * ((p5 + p6 + p7) + 256 * ((p6 + p7) + 256 * p7)))))),?_,by omega,?_,by omega,?_,by omega,by omega⟩
 ·rw [dr1 (by omega)];omega
 ·rw [dr2 (by omega) (by omega)];omega
 ·omega
theorem Qn {z:Nat} (h:z < 18446744073709551616):IntKind.i64.wrap ((BitVec.ofInt IntKind.i64.bits (IntKind.i64.wrap (z:Int)) &&& BitVec.ofInt IntKind.i64.bits 127).toNat:Int)=((z % 128:Nat):Int):=by
 have e1:BitVec.ofInt 64 (IntKind.i64.wrap (z:Int))=BitVec.ofNat 64 z:=by
  apply BitVec.eq_of_toNat_eq;rw [BitVec.toNat_ofInt,BitVec.toNat_ofNat,IntKind.wrap_i64];omega
 have e2:(BitVec.ofInt 64 (IntKind.i64.wrap (z:Int)) &&& BitVec.ofInt 64 127).toNat=z % 128:=by
  rw [e1,show BitVec.ofInt 64 127=BitVec.ofNat 64 127 by decide,BitVec.toNat_and,BitVec.toNat_ofNat,BitVec.toNat_ofNat,Nat.mod_eq_of_lt h];exact Nat.and_two_pow_sub_one_eq_mod z 7
 have e3:(BitVec.ofInt IntKind.i64.bits (IntKind.i64.wrap (z:Int)) &&& BitVec.ofInt IntKind.i64.bits 127).toNat=z % 128:=e2;rw [e3,IntKind.wrap_i64];omega
theorem MP (x:Nat) (hx:x < 18446744073709551616):EvP prog 191 [.v (.int .u64 x)] (.v (.int .i64 (IA x:Nat))):=by
 obtain ⟨y1,y2,y3,h1,Z1,h2,h2s,h2b,h3,p0,p1,p2,p3,p4,p5,p6,p7,h4,hp,h5⟩:=Ql hx;rw [h5];simp only [valB] at h4;refine eG 35 [.tmp 2] func191 rfl ntmps191 rfl fun _ _ _ _=>?_;refine ⟨by decide,?_⟩;refine ⟨by decide,?_⟩;refine ⟨by decide,?_⟩;refine ⟨by decide,?_⟩;refine ⟨by decide,?_⟩;refine ⟨by decide,?_⟩;refine (qM ?_:);rw [acB (k:=1) (M:=6148914691236517205) (by decide) hx rfl (by decide) h1 Z1,acB (k:=2) (M:=3689348814741910323) (by decide) Z1 rfl (by decide) h2 h2b,stgB (k:=4) (M:=1085102592571150095) (by decide) h2s rfl (by decide) h3];obtain ⟨z1,z2,z3,g1,g1b,g2,g2b,g3,g3b,g4⟩:=Qm hp;rw [<- h4] at g1;have k1:y3 + y3 / 2 ^ (8:Int).toNat=z1:=g1;rw [Yv (k:=8) (by decide) (by rw [k1];exact g1b),k1];have k2:z1 + z1 / 2 ^ (16:Int).toNat=z2:=g2;rw [Yv (k:=16) (by decide) (by rw [k2];exact g2b),k2];have k3:z2 + z2 / 2 ^ (32:Int).toNat=z3:=g3;rw [Yv (k:=32) (by decide) (by rw [k3];exact g3b),k3,<- g4];exact Qn g3b
theorem jP (x k i:Nat) (hi:i < 8):(x / 2 ^ (8 * k) % 256).testBit i=x.testBit (8 * k + i):=by
 rw [show (256:Nat)=2 ^ 8 by decide,Nat.testBit_mod_two_pow,decide_eq_true hi,Bool.true_and,Nat.testBit_div_two_pow,Nat.add_comm]
theorem jQ (x k:Nat):pop8 (x / 2 ^ (8 * k) % 256)=(((((((x.testBit (8 * k + 0)).toNat + (x.testBit (8 * k + 1)).toNat) + (x.testBit (8 * k + 2)).toNat) + (x.testBit (8 * k + 3)).toNat) + (x.testBit (8 * k + 4)).toNat) + (x.testBit (8 * k + 5)).toNat) + (x.testBit (8 * k + 6)).toNat) + (x.testBit (8 * k + 7)).toNat:=by
 have h:=(K5 ⟨x / 2 ^ (8 * k) % 256,Nat.mod_lt _ (by decide)⟩).2.2.2;simp only at h;rw [h,jP x k 0 (by decide),jP x k 1 (by decide),jP x k 2 (by decide),jP x k 3 (by decide),jP x k 4 (by decide),jP x k 5 (by decide),jP x k 6 (by decide),jP x k 7 (by decide)]
def sumB (x:Nat):Nat->Nat
 | 0=>0
 | n + 1=>sumB x n + (x.testBit n).toNat
theorem Qo (x:Nat):IA x=sumB x 64:=by
 have h0:=jQ x 0;have h1:=jQ x 1;have h2:=jQ x 2;have h3:=jQ x 3;have h4:=jQ x 4;have h5:=jQ x 5;have h6:=jQ x 6;have h7:=jQ x 7;simp only [Nat.mul_zero,Nat.pow_zero,Nat.div_one] at h0;simp only [IA,fp,List.map_cons,List.map_nil,List.sum_cons,List.sum_nil,sumB]
 grind
theorem yc (x:Nat):∀ n,0 < sumB x n↔∃ b,b < n/\x.testBit b=true
 | 0=>by simp [sumB]
 | n + 1=>by
  have ih:=yc x n
  grind [sumB]
theorem Fw (x a:Nat) (ha:x.testBit a=true):∀ n,a < n->(1 < sumB x n↔∃ b,b < n/\b≠a/\x.testBit b=true)
 | 0,h=>by omega
 | n + 1,h=>by
  simp only [sumB];by_cases hn:a=n
  ·grind [yc]
  ·have ih:=Fw x a ha n (by omega)
   grind [yc]
def bM (p:Nat->Bool) (n:Nat):Option Nat:=(List.range n).find? p
theorem bU {p:Nat->Bool} {n e:Nat} (he:e < n) (hp:p e=true) (h:∀ a,a < e->p a=false):bM p n=some e:=by simp_all [bM]
theorem cK {p:Nat->Bool} {n:Nat} (h:∀ a,a < n->p a=false):bM p n=none:=by grind [bM]
theorem bV {p:Nat->Bool} {n e:Nat} (h:bM p n=some e):e < n/\p e=true/\∀ a,a < e->p a=false:=by simp_all [bM]
def r6 (c:List Nat) (a:Nat):Bool:=decide (1 < IA (backN c a c.length))
def Qp:Option Nat->DV
 | some a=>.tup [.v (.int .i64 (a:Int)),.v (.bool true)]
 | none=>.tup [.v (.int .i64 0),.v (.bool false)]
abbrev TS (c:List Nat) (e:Nat):St:=
 ⟨[(4,⟨[],oa c⟩),au 9 c.length,au 10 e],[],[]⟩
theorem IC (rows:List Nat) (hr:eS rows) (h0:rows ≠ []):EvP prog 108 [oa rows] (Qp (bM (r6 (closeR rows rows.length)) rows.length)):=by
 have hc:=u4 rows hr h0;have aZ:=mi hr rows.length hr.1;have hlen:=gd rows rows.length;have hr1:=hr.1;generalize closeR rows rows.length=c at hc aZ hlen ⊢;rw [<- hlen];have hl:=AV c;refine eG 20 [.tmp 2,.tmp 3] func108 rfl ntmps108 rfl fun _ _ _ _=>?_;refine cP VJ hc ?_;refine cP Pn hl ?_;refine lI (fun j st=>∃ e:Nat,st=TS c e/\e<=c.length/\(∀ a,a < e->r6 c a=false)/\j=c.length - e) ⟨0,rfl,by omega,fun a h=>by omega,rfl⟩ (bz wB) ?_;rintro j st ⟨e,rfl,he,gm,rfl⟩;refine br ?_ ?_<;>intro hL
 ·have aq:e < c.length:=by have:=hL;simp at this;exact this
  have Yu:backN c e c.length < 18446744073709551616:=by
   have h1:=x6 c e c.length;have:2 ^ c.length<=2 ^ 64:=Nat.pow_le_pow_right (by decide) (by omega);omega
  refine cP abz (Iy c aZ e aq) ?_;refine cP aby (MP _ Yu) ?_;refine br ?_ ?_<;>intro g
  ·have g:r6 c e=true:=by
    simp at g;simp [r6];omega
   rw [bU aq g gm];refine ⟨_,?_,rfl⟩;exact ax
  ·have g:r6 c e=false:=by
    simp at g;simp [r6];omega
   exact rE ⟨_,by omega,e + 1,rfl,by omega,fun a ha=>by
    rcases jJ ha with ha | rfl
    ·exact gm a ha
    ·exact g,rfl⟩ (bz (cJ (aG aq (by omega))))
 ·have hge:e=c.length:=by have:=hL;simp at this;omega
  subst hge;rw [cK gm];refine ⟨_,?_,rfl⟩;exact ax
theorem yd {rows:List Nat} {i x a b:Nat} (hi:i < rows.length):bf (rows.set i x) a b=if a=i then x.testBit b else bf rows a b:=by grind [bf]
theorem pF {rows:List Nat} {k a b:Nat} (hk:k < rows.length):bf (kT rows k) a b=(bf rows a b || (decide (a=k) && decide (b=k))):=by
 unfold kT;rw [yd hk];by_cases h:a=k
 ·subst h;rw [ap rfl,kR];simp only [decide_true,Bool.true_and];rw [show decide (a=b)=decide (b=a) from by simp only [eq_comm]];rfl
 ·rw [aj h];simp [h]
theorem MQ {rows:List Nat} {k i a b:Nat} (hi:i < rows.length):bf (qz k rows i) a b=(bf rows a b || (decide (a=i) && (bf rows a k && bf rows k b))):=by grind [qz,bf,yd]
theorem AW {rows:List Nat} {k:Nat} (hk:k < rows.length):∀ e,e<=rows.length->∀ a b,bf (iF rows k e) a b=(bf (kT rows k) a b || (decide (a < e) && (bf (kT rows k) a k && bf (kT rows k) k b)))
 | 0,_,a,b=>by simp [iF]
 | e + 1,he,a,b=>by
  have ih:=AW hk e (by omega)
  grind [nz,MQ,pD,bf,kT,pF]
inductive wh (p:Nat->Nat->Prop):Nat->Nat->Prop
 | refl (a:Nat):wh p a a
 | step {a b c:Nat}:wh p a b->p b c->wh p a c
theorem wh.trans {p:Nat->Nat->Prop} {a b c:Nat} (h1:wh p a b) (h2:wh p b c):wh p a c:=by
 induction h2 with
 | refl=>exact h1
 | step _ h ih=>exact .step ih h
theorem wh.mono {p q:Nat->Nat->Prop} (h:∀ a b,p a b->wh q a b) {a b:Nat} (h1:wh p a b):wh q a b:=by
 induction h1 with
 | refl=>exact .refl _
 | step _ h2 ih=>exact ih.trans (h _ _ h2)
def wayQ (p:Nat->Nat->Prop):Nat->Nat->Nat->Prop
 | 0,a,b=>a=b∨p a b
 | k + 1,a,b=>wayQ p k a b∨(wayQ p k a k/\wayQ p k k b)
theorem AX {p:Nat->Nat->Prop} (a:Nat):∀ k,wayQ p k a a
 | 0=>.inl rfl
 | k + 1=>.inl (AX a k)
theorem AY {p:Nat->Nat->Prop} {a b:Nat} (h:p a b):∀ k,wayQ p k a b
 | 0=>.inr h
 | k + 1=>.inl (AY h k)
theorem r7 {p:Nat->Nat->Prop}:∀ k a b,wayQ p k a b->wh p a b
 | 0,a,b,h=>by
  rcases h with rfl | h
  ·exact .refl _
  ·exact .step (.refl _) h
 | k + 1,a,b,h=>by
  rcases h with h | ⟨h1,h2⟩
  ·exact r7 k a b h
  ·exact (r7 k a k h1).trans (r7 k k b h2)
theorem nA {p:Nat->Nat->Prop}:∀ k a m b,m < k->wayQ p k a m->wayQ p k m b->wayQ p k a b
 | 0,_,_,_,h,_,_=>by omega
 | k + 1,a,m,b,hm,h1,h2=>by
  by_cases Z7:m=k
  ·grind [wayQ]
  ·have qm:m < k:=by omega
   rcases h1 with h1 | ⟨h1,h3⟩
   ·rcases h2 with h2 | ⟨h2,h4⟩
    ·exact .inl (nA k a m b qm h1 h2)
    ·exact .inr ⟨nA k a m k qm h1 h2,h4⟩
   ·rcases h2 with h2 | ⟨h2,h4⟩
    ·exact .inr ⟨h1,nA k k m b qm h3 h2⟩
    ·exact .inr ⟨h1,h4⟩
theorem ye {rows:List Nat}:∀ k,k<=rows.length->∀ a b,a < rows.length->((bf (closeR rows k) a b=true∨a=b)↔wayQ (fun x y=>bf rows x y=true) k a b)/\(a < k->bf (closeR rows k) a a=true)
 | 0,_,a,b,_=>by grind [closeR,wayQ]
 | k + 1,hk,a,b,ha=>by
  have ih:=ye (rows:=rows) k (by omega);have gl:k < (closeR rows k).length:=by rw [gd];omega
  have hb:∀ a b,a < rows.length->bf (closeR rows (k + 1)) a b=(bf (kT (closeR rows k) k) a b || (bf (kT (closeR rows k) k) a k && bf (kT (closeR rows k) k) k b)):=fun a b ha=>by grind [lC,AW,gd]
  have Ws:∀ a b,(bf (kT (closeR rows k) k) a b=true∨a=b)↔(bf (closeR rows k) a b=true∨a=b):=fun a b=>by grind [pF]
  have Eb:bf (kT (closeR rows k) k) k k=true:=by rw [pF gl];simp
  have key:∀ a b,a < rows.length->((bf (closeR rows (k + 1)) a b=true∨a=b)↔wayQ (fun x y=>bf rows x y=true) (k + 1) a b):=fun a b ha=>by grind [wayQ]
  refine ⟨key a b ha,fun hak=>?_⟩;rw [hb a a ha];by_cases h:a=k
  ·subst h;rw [Eb];all_goals rfl
  ·have:=(ih a a ha).2 (by omega);rw [pF gl,this];all_goals rfl
theorem ID {rows:List Nat} (hb:∀ a b,a < rows.length->bf rows a b=true->b < rows.length) {a b:Nat} (ha:a < rows.length) (hbl:b < rows.length):bf (closeR rows rows.length) a b=true↔wh (fun x y=>x < rows.length/\bf rows x y=true) a b:=by
 have hw:=ye (rows:=rows) rows.length (aV _) a b ha;have h1:bf (closeR rows rows.length) a b=true↔wayQ (fun x y=>bf rows x y=true) rows.length a b:=by grind
 rw [h1];constructor
 ·intro h
  have aq:∀ {x},wh (fun x y=>bf rows x y=true) a x->wh (fun x y=>x < rows.length/\bf rows x y=true) a x/\x < rows.length:=by
   intro x hx
   induction hx with
   | refl=>exact ⟨.refl _,ha⟩
   | step _ h2 ih=>exact ⟨.step ih.1 ⟨ih.2,h2⟩,hb _ _ ih.2 h2⟩
  exact (aq (r7 _ _ _ h)).1
 ·intro h
  have:wayQ (fun x y=>bf rows x y=true) rows.length a b/\b < rows.length:=by
   clear h1 hw hbl
   induction h with
   | refl=>exact ⟨AX _ _,ha⟩
   | step _ h2 ih=>exact ⟨nA _ _ _ _ ih.2 ih.1 (AY h2.2 _),hb _ _ h2.1 h2.2⟩
  exact this.1
theorem Qq {rows:List Nat} {p:Nat × Nat} {a b:Nat} (hp:p.1 < rows.length):bf (x8 rows p) a b=(bf rows a b || (decide (a=p.1) && decide (b=p.2))):=by
 unfold x8;rw [yd hp];by_cases h:a=p.1
 ·subst h;rw [ap rfl,kR];simp only [decide_true,Bool.true_and];rw [show decide (p.2=b)=decide (b=p.2) from by simp only [eq_comm]];rfl
 ·rw [aj h];simp [h]
theorem AZ:∀ (l:List (Nat × Nat)) (rows:List Nat) (a b:Nat),(∀ p∈l,p.1 < rows.length)->(bf (l.foldl x8 rows) a b=true↔bf rows a b=true∨(a,b)∈l)
 | [],_,_,_,_=>by simp
 | p :: l,rows,a,b,h=>by
  rw [List.foldl_cons,AZ l _ a b (fun q hq=>by rw [rZ];exact h q (by simp [hq])),Qq (h p (by simp))]
  grind
theorem yf {n:Nat} {l:List (Nat × Nat)} (h:∀ p∈l,p.1 < n) (a b:Nat):bf (fZ n l) a b=true↔(a,b)∈l:=by grind [fZ,AZ,bf]
def fA (n:Nat) (l:List (Nat × Nat)) (a b:Nat):Bool:=bf (closeR (fZ n l) n) a b
def tS (n:Nat) (l:List (Nat × Nat)):Prop:=∀ p∈l,p.1 < n/\p.2 < n
theorem oM {n:Nat} {l:List (Nat × Nat)} (h:tS n l) {a b:Nat} (ha:a < n) (hb:b < n):fA n l a b=true↔wh (fun x y=>(x,y)∈l) a b:=by
 have hlen:(fZ n l).length=n:=kS n l;unfold fA
 have:=ID (rows:=fZ n l) (fun a b _ Qk=>by
  rw [yf (fun p hp=>(h p hp).1)] at Qk
  rw [hlen];exact (h _ Qk).2) (a:=a) (b:=b) (by omega) (by omega)
 rw [hlen] at this;rw [this];constructor
 ·exact wh.mono fun x y O7=>.step (.refl _) ((yf (fun p hp=>(h p hp).1) x y).1 O7.2)
 ·exact wh.mono fun x y O7=>.step (.refl _) ⟨(h _ O7).1,(yf (fun p hp=>(h p hp).1) x y).2 O7⟩
theorem tT {n:Nat} {l:List (Nat × Nat)} (h:tS n l) {a:Nat} (ha:a < n):fA n l a a=true:=(oM h ha ha).2 (.refl _)
theorem IE {n:Nat} {l:List (Nat × Nat)} (h:tS n l) {a b c:Nat} (ha:a < n) (hb:b < n) (hc:c < n) (h1:fA n l a b=true) (h2:fA n l b c=true):fA n l a c=true:=
 (oM h ha hc).2 (((oM h ha hb).1 h1).trans ((oM h hb hc).1 h2))
def lD (n:Nat) (f:Nat->Nat->Bool) (a:Nat):Bool:=(List.range n).any fun b=>decide (a≠b) && (f a b && f b a)
theorem Qr {n:Nat} {l:List (Nat × Nat)} (hn:n<=64) (h:tS n l) {a:Nat} (ha:a < n):r6 (closeR (fZ n l) n) a=lD n (fA n l) a:=by
 have hlen:(closeR (fZ n l) n).length=n:=by rw [gd,kS]
 unfold r6 lD;rw [Qo,hlen,Bool.eq_iff_iff,decide_eq_true_eq]
 have haa:(backN (closeR (fZ n l) n) a n).testBit a=true:=by
  rw [tQ];have:bf (closeR (fZ n l) n) a a=true:=tT h ha;simp [ha,this]
 rw [Fw _ a haa 64 (by omega)];simp only [List.any_eq_true,List.mem_range,bc,decide_eq_true_eq,tQ];constructor
 ·rintro ⟨b,_,bA,hb,h1,h2⟩;exact ⟨b,hb,fun e=>bA e.symm,h1,h2⟩
 ·rintro ⟨b,hb,bA,h1,h2⟩;exact ⟨b,by omega,fun e=>bA e.symm,hb,h1,h2⟩
theorem CV {p q:Nat->Bool} {n:Nat} (h:∀ a,a < n->p a=q a):bM p n=bM q n:=by
 unfold bM
 have:∀ (l:List Nat),(∀ a∈l,p a=q a)->l.find? p=l.find? q:=by
  intro l
  induction l with
  | nil=>intro _;rfl
  | cons x r ih=>grind
 grind
theorem TU {n:Nat} {l:List (Nat × Nat)} (hn:n<=64) (h:tS n l):bM (r6 (closeR (fZ n l) n)) n=bM (lD n (fA n l)) n:=
 CV fun _ ha=>Qr hn h ha
def iG (r:List Bool) (p:Nat × Nat):List Bool:=if r.getD p.1 false then r.set p.2 true else r
def jy (l:List (Nat × Nat)) (r:List Bool):List Bool:=l.foldl iG r
def du (l:List (Nat × Nat)) (r:List Bool) (k:Nat):List Bool:=(List.range k).foldl (fun r _=>jy l r) r
def vG (n:Nat) (l:List (Nat × Nat)) (a:Nat):List Bool:=du l ((List.replicate n false).set a true) n
theorem fq (l:List (Nat × Nat)) (r:List Bool) (k:Nat):du l r (k + 1)=jy l (du l r k):=by simp [du,List.range_succ]
theorem ml (r:List Bool) (p:Nat × Nat):(iG r p).length=r.length:=by unfold iG;split<;>simp
theorem qV (l:List (Nat × Nat)):∀ r,(jy l r).length=r.length:=by
 induction l with
 | nil=>intro r;rfl
 | cons p l ih=>intro r;simp only [jy,List.foldl_cons] at ih ⊢;rw [ih,ml]
theorem gf (l:List (Nat × Nat)) (r:List Bool):∀ k,(du l r k).length=r.length
 | 0=>by simp [du]
 | k + 1=>by rw [fq,qV,gf]
theorem r8 (n:Nat) (l:List (Nat × Nat)) (a:Nat):(vG n l a).length=n:=by simp [vG,gf]
def A0 (r s:List Bool):Prop:=∀ i:Nat,r.getD i false=true->s.getD i false=true
theorem kU {r:List Bool} {i j:Nat} (hi:i < r.length):(r.set i true).getD j false=(decide (j=i) || r.getD j false):=by grind
theorem Fx {r:List Bool} {p:Nat × Nat} (hp:p.2 < r.length):A0 r (iG r p):=by
 intro i hi
 grind [iG,kU]
theorem pG:∀ {l:List (Nat × Nat)} {r:List Bool},(∀ p∈l,p.2 < r.length)->A0 r (jy l r)
 | [],r,_,i,hi=>hi
 | p :: l,r,h,i,hi=>by
  have:A0 (iG r p) (jy l (iG r p)):=pG fun q hq=>by rw [ml];exact h q (by simp [hq])
  exact this i (Fx (h p (by simp)) i hi)
def kV (r:List Bool):Nat:=r.countP (fun x=>x)
theorem cntB_le (r:List Bool):kV r<=r.length:=List.countP_le_length
theorem leB_eq:∀ {r s:List Bool},r.length=s.length->A0 r s->(r=s∨kV r < kV s)/\kV r<=kV s
 | [],[],_,_=>⟨.inl rfl,aV _⟩
 | x :: r,y :: s,hl,h=>by
  have zW:r.length=s.length:=sU hl;have ih:=leB_eq zW (fun i hi=>by simpa using h (i + 1) (sU hi));have h0:x=true->y=true:=fun hx=>by simpa using h 0 (sU hx)
  grind [kV]
 | [],_ :: _,h,_=>by simp at h
 | _ :: _,[],h,_=>by simp at h
theorem yg {r s:List Bool} (hl:r.length=s.length) (h1:A0 r s) (h2:A0 s r):r=s:=by
 rcases (leB_eq hl h1).1 with h | h
 ·exact h
 ·have:=(leB_eq hl.symm h2).2;omega
theorem yh:∀ {l:List (Nat × Nat)} {r:List Bool},(∀ p∈l,p.2 < r.length)->jy l r=r->∀ p∈l,r.getD p.1 false=true->r.getD p.2 false=true
 | [],_,_,_,p,hp,_=>by cases hp
 | q :: l,r,h,he,p,hp,h1=>by
  have hq:=h q (by simp);have hl:∀ p∈l,p.2 < (iG r q).length:=fun p hp=>by rw [ml];exact h p (by simp [hp])
  have hs:iG r q=r:=by
   have h2:A0 (iG r q) r:=by
    have:=pG hl
    grind [jy,iG]
   grind [yg,ml,Fx]
  rcases dN hp with rfl | hp
  ·grind [iG,kU]
  ·have wa:jy l r=r:=by grind [jy,iG]
   exact yh (fun p hp=>h p (by simp [hp])) wa p hp h1
theorem u5 {l:List (Nat × Nat)} {r:List Bool} (h:∀ p∈l,p.2 < r.length):∀ k,jy l (du l r k)=du l r k∨kV r + k<=kV (du l r k)
 | 0=>.inr (by simp [du])
 | k + 1=>by
  have hk:∀ p∈l,p.2 < (du l r k).length:=fun p hp=>by rw [gf];exact h p hp
  rcases u5 h k with h1 | h1
  ·left;rw [fq,h1,h1]
  ·rcases (leB_eq (qV l _).symm (pG hk)).1 with h2 | h2
   ·left;rw [fq,<- h2,<- h2]
   ·right;rw [fq];omega
theorem MR {l:List (Nat × Nat)} {a:Nat} {r:List Bool} {p:Nat × Nat} (hp:p∈l) (hl:p.2 < r.length) (h:∀ i,r.getD i false=true->wh (fun x y=>(x,y)∈l) a i):∀ i,(iG r p).getD i false=true->wh (fun x y=>(x,y)∈l) a i:=by
 intro i hi;unfold iG at hi;split at hi
 ·rename_i h1;rw [kU hl] at hi;simp only [Bool.or_eq_true,decide_eq_true_eq] at hi;rcases hi with rfl | hi
  ·exact .step (h _ h1) hp
  ·exact h i hi
 ·exact h i hi
theorem yi {l:List (Nat × Nat)} {a:Nat}:∀ (m:List (Nat × Nat)) {r:List Bool},(∀ p∈m,p∈l/\p.2 < r.length)->(∀ i,r.getD i false=true->wh (fun x y=>(x,y)∈l) a i)->∀ i,(jy m r).getD i false=true->wh (fun x y=>(x,y)∈l) a i
 | [],_,_,h=>h
 | p :: m,r,hm,h=>yi m (r:=iG r p) (fun q hq=>by rw [ml];exact hm q (by simp [hq])) (MR (hm p (by simp)).1 (hm p (by simp)).2 h)
theorem u6 {l:List (Nat × Nat)} {a:Nat} {r:List Bool} (hl:∀ p∈l,p.2 < r.length) (h:∀ i,r.getD i false=true->wh (fun x y=>(x,y)∈l) a i):∀ k i,(du l r k).getD i false=true->wh (fun x y=>(x,y)∈l) a i
 | 0=>by simpa [du] using h
 | k + 1=>by
  rw [fq];exact yi l (fun p hp=>⟨hp,by rw [gf];exact hl p hp⟩) (u6 hl h k)
theorem yj {l:List (Nat × Nat)} {r:List Bool} (hl:∀ p∈l,p.2 < r.length):∀ k,A0 r (du l r k)
 | 0=>by intro i hi;simpa [du] using hi
 | k + 1=>fun i hi=>by
  rw [fq];exact pG (fun p hp=>by rw [gf];exact hl p hp) i (yj hl k i hi)
theorem Qs {n a:Nat} (ha:a < n):1<=kV ((List.replicate n false).set a true):=by grind [kV]
theorem Qt {n:Nat} {l:List (Nat × Nat)} (h:tS n l) {a b:Nat} (ha:a < n) (hb:b < n):(vG n l a).getD b false=fA n l a b:=by
 have hl:∀ p∈l,p.2 < ((List.replicate n false).set a true).length:=fun p hp=>by simp;exact (h p hp).2
 have zZ:a < (List.replicate n false).length:=by simp [ha]
 rw [Bool.eq_iff_iff,oM h ha hb];constructor
 ·refine u6 hl (fun i hi=>?_) n b;rw [kU zZ] at hi;simp only [Bool.or_eq_true,decide_eq_true_eq] at hi;rcases hi with rfl | hi
  ·exact .refl _
  all_goals grind
 ·have hfix:jy l (vG n l a)=vG n l a:=by
   rcases u5 hl n with h1 | h1
   ·exact h1
   ·grind [cntB_le,du,gf,Qs]
  have fU:=yh (fun p hp=>by rw [r8];exact (h p hp).2) hfix;intro hr;have haa:(vG n l a).getD a false=true:=yj hl n a (by rw [kU zZ];simp);clear hb
  induction hr with
  | refl=>exact haa
  | step _ h2 ih=>exact fU _ h2 ih
def eI (n:Nat) (f:Nat->Nat->Bool):List (List Bool):=(List.range n).map fun a=>(List.range n).map (f a)
theorem TV {n:Nat} {l:List (Nat × Nat)} (h:tS n l) {a:Nat} (ha:a < n):vG n l a=(List.range n).map (fA n l a):=by
 refine List.ext_getElem? fun i=>?_;by_cases hi:i < n
 ·have:=Qt h ha hi
  grind [r8]
 ·grind [r8]
theorem Fy {n:Nat} {f:Nat->Nat->Bool} {a:Nat} (ha:a < n):(eI n f)[a]? = some ((List.range n).map (f a)):=by
 simp [eI,List.getElem?_range ha]
theorem MS {l:List Wd} {i:Nat} {x:Wd} (h:l[i]? = some x):az (l.take (i + 1))=az (l.take i) ++ [x.s]:=by
 rw [List.take_add_one,h];simp [az]
theorem TW (l:List Wd) (s:ByteArray):cY l s=true↔s∈az l:=by grind [cY,az]
theorem nB {l:List Wd} {i:Nat} {x:Wd} (h:l[i]? = some x) (hn:(az (l.take i)).Nodup):(az (l.take (i + 1))).Nodup↔cY (l.take i) x.s=false:=by grind [MS,cY,TW]
theorem A1 {l:List Wd} {i:Nat} {x:Wd} (a:Int) (h:l[i]? = some x) (hn:(az (l.take i)).Nodup) :
  iB (az (l.take (i + 1))) x.s a=if aK l i x≠0 then (aK l i x,a) else (0,0):=by
 have hs:=nB h hn;unfold iB aK;by_cases h1:bE x.s=true
 ·grind
 ·rw [aj h1,aj h1];all_goals rfl
theorem nC {l:List Wd} {i:Nat} {x:Wd} (h:l[i]? = some x) (hn:(az (l.take i)).Nodup) (hz:aK l i x=0):(az (l.take (i + 1))).Nodup:=by grind [nB,aK,bE,cY]
theorem A2 (l:List Wd):∀ (d e:Nat),e + d=l.length->(enumP l e)=(0,0)->(az (l.take e)).Nodup->enumP l l.length=enumL l e (l.drop e)
 | 0,e,hd,hz,hn=>by
  have:e=l.length:=by omega
  subst this;rw [hz,List.drop_length];all_goals rfl
 | d + 1,e,hd,hz,hn=>by
  obtain ⟨x,hx⟩:∃ x,l[e]? = some x:=⟨_,gE (by omega)⟩;have h1:=xY (by rw [hz]) hx;rw [A1 x.a hx hn] at h1;rw [drop_cons hx];simp only [enumL];by_cases hf:aK l e x≠0
  ·rw [ap hf] at h1 ⊢;have aW:=qS (l:=l) (e:=e + 1) (by rw [h1];exact hf) d
   grind
  ·rw [aj hf] at h1 ⊢;exact A2 l d (e + 1) (by omega) h1 (nC hx hn (sU hf))
theorem Qu (h:Hd):oL h=jt h:=by
 unfold oL jt;by_cases h0:h.af=[]
 ·rw [ap h0,ap (by simp [h0])]
 ·rw [aj h0,aj (sU h0)];by_cases h1:64 < h.af.length
  ·rw [ap h1,ap h1]
  ·rw [aj h1,aj h1];have:=A2 h.af h.af.length 0 (by omega) rfl (by simp [az]);simpa using this
def qW (p:Ph):Ph:=⟨p.name,true,[],0,0,0,0,[]⟩
theorem TX (p:Ph) (t:Ty):dF p t (qW p) c9=(cO p jZ && sameTy t c9):=by grind [cO,qW,jZ,dF]
theorem empty_eq (p:Ph):dF p c9 fJ c9=(decide (p.name.s=ay) && cO p fJ):=by
 have e:sameTy c9 c9=true:=by simp [c9,PA,sameTy,lR,samePts,sameWds]
 simp only [dF,e,Bool.and_true];rfl
def dy (L:List ByteArray) (s:ByteArray):Option Nat:=bM (fun i=>decide (L[i]? = some s)) L.length
theorem dG {L:List ByteArray} {s:ByteArray} {p:Nat} (h:dy L s=some p):p < L.length/\L[p]? = some s/\∀ j,L[j]? = some s->p<=j:=by
 obtain ⟨h1,h2,h3⟩:=bV h
 grind
theorem CW {L:List ByteArray} {s:ByteArray} {p:Nat} (h1:L[p]? = some s) (h2:∀ j,L[j]? = some s->p<=j):dy L s=some p:=by
 refine bU (gS h1).1 (sU h1) fun a ha=>?_
 grind
theorem tU {L:List ByteArray} {s:ByteArray} (h:∀ j:Nat,L[j]? ≠ some s):dy L s=none:=cK fun a _=>by simpa using h a
theorem z8 {L:List ByteArray} {s:ByteArray}:dy L s=none↔s ∉ L:=by
 constructor
 ·intro h hm;obtain ⟨j,hj⟩:=List.mem_iff_getElem?.1 hm
  grind [dy,bM]
 ·grind [tU]
theorem jz (L:List ByteArray) (aJ:List Nat) (s:ByteArray) (hT:iU L aJ) (hl:aJ.length<=1099511627776) :
  EvP prog 115 [.pt (dt L aJ) 0,.v (.string s)] (Qp (dy L s)):=by
 by_cases hm:s∈L
 ·obtain ⟨j,hj⟩:=List.mem_iff_getElem?.1 hm;obtain ⟨q,p,hq,hp⟩:=hT.all j s hj;rw [CW hp fun j' jL=>hT.fst q p j' s hq hp jL];exact find_spec L aJ s q p hT hl hq hp
 rw [tU fun j hj=>hm (mG hj)]
 let pr:Nat->Prop:=fun i=>i=aJ.length∨∃ p t,aJ[i]? = some p/\L[p]? = some t/\Cy t s=false
 obtain ⟨m,jY,HS⟩:=least (p:=pr) ⟨aJ.length,.inl rfl⟩;have hmn:m<=aJ.length:=HS _ (.inl rfl);refine eG 47 [.tmp 4,.tmp 5] func115 rfl ntmps115 rfl fun _ _ _ _=>?_
 have fU:∀ i:Nat,i < aJ.length->EvP prog 201 [.v (.int .i64 i),.pt [.pt (dt L aJ) 0] 0,.pt [.v (.string s)] 0] (.v (.bool (decide (m<=i)))):=by
  intro i hi;obtain ⟨p',xA⟩:∃ p',aJ[i]? = some p':=⟨_,gE hi⟩;obtain ⟨t,ht⟩:∃ t,L[p']? = some t:=⟨_,gE (hT.lt i p' xA)⟩;have:=xM L aJ s i p' t xA ht
  have e:(!Cy t s)=decide (m<=i):=by
   by_cases h:m<=i
   ·have:Cy t s=false:=by
     rcases jY with jY | ⟨p,u,h1,h2,h3⟩
     ·omega
     ·rcases Nat.lt_or_eq_of_le h with h4 | h4
      ·have h5:=hT.srt m i p p' u t h4 h1 xA h2 ht;cases h6:Cy t s
       ·rfl
       ·grind [gU,Cy]
      ·grind
    simp [this,h]
   ·grind
  rw [e] at this;exact this
 have hS:=uX 201 VZ [.pt [.pt (dt L aJ) 0] 0,.pt [.v (.string s)] 0] aJ.length m hl hmn ax rfl fU;refine Cv VY hS (mc (aU aJ)) rfl ?_;refine dI ?_;refine br ?_ ?_<;>intro h
 ·have aq:m < aJ.length:=by grind [dInts,aU]
  rcases jY with jY | ⟨p,t,h1,h2,h3⟩
  ·omega
  refine iX (aR h1) ?_;refine iX (gT h2) ?_;refine br ?_ ?_<;>intro h4
  ·exact ⟨_,ax,rfl⟩
  ·grind [aw]
 ·exact ⟨_,ax,rfl⟩
def gM (l:List Wd) (o:List (Wd × Wd)):Ft:=
 if l=[] then (15,0)
 else if 32 < l.length then (8,((l[32]?).getD (⟨ay,0⟩:Wd)).a)
 else if 256 < o.length then (8,((o[256]?).getD ((⟨ay,0⟩,⟨ay,0⟩):Wd × Wd)).1.a)
 else (0,0)
theorem MT (l:List Wd) (o:List (Wd × Wd)):EvP prog 103 [.sl 2 (bT l) none,.sl 4 (n9 o) none] (gM l o).d:=by
 refine eG 30 [.cell 4 44] func103 rfl ntmps103 rfl fun _ _ _ _=>?_;refine br ?_ ?_<;>intro h
 ·have h:l=[]:=by simpa [aD] using h
  refine ⟨_,?_,rfl⟩;rw [gM,ap h];exact ax
 have h:¬ l=[]:=by simpa [aD] using h
 refine br ?_ ?_<;>intro h1
 ·have h1:32 < l.length:=by simp [aD] at h1;omega
  obtain ⟨x,hx⟩:∃ x,l[32]? = some x:=⟨_,gE h1⟩;refine ⟨kP x,⟨by omega,bd hx⟩,?_⟩;refine ⟨_,?_,rfl⟩;rw [gM,aj h,ap h1,hx];exact ax
 have h1:¬ 32 < l.length:=by simp [aD] at h1;omega
 refine br ?_ ?_<;>intro h2
 ·have h2:256 < o.length:=by simp [gL] at h2;omega
  obtain ⟨x,hx⟩:∃ x,o[256]? = some x:=⟨_,gE h2⟩;refine ⟨Ot x,⟨by omega,iD hx⟩,?_⟩;refine ⟨_,?_,rfl⟩;rw [gM,aj h,aj h1,ap h2,hx];exact ax
 have h2:¬ 256 < o.length:=by simp [gL] at h2;omega
 refine ⟨_,?_,rfl⟩;rw [gM,aj h,aj h1,aj h2];exact ax
def acC (f:Ft) (L:List ByteArray):DV:=.tup [if f.1=0 then .sl 1 (fF L) none else .v (.slice none 0 0),f.d]
abbrev Wt (l:List Wd) (n e:Nat):St:=
 ⟨[aE 3 0,(4,⟨[],.sl 1 (fF (az (l.take e))) (some 0)⟩),aM 7 2 (bT l),au 8 ((bT l).length),au 9 e],[[.v (.int .i64 0),.v (.int .i64 0)]],[⟨n,9,1,none⟩]⟩
theorem qX {all:List Wd} {e:Nat} {w:Wd} (h:all[e]? = some w):enumL all e (all.drop e)=if aK all e w≠0 then (aK all e w,w.a) else enumL all (e + 1) (all.drop (e + 1)):=by
 rw [drop_cons h,enumL]
theorem Fz (l:List Wd) (hs:wdsWt l<=1099511627776):EvP prog 104 [.sl 2 (bT l) none] (acC (enumL l 0 l) (az l)):=by
 have ov:=bI l;refine eG 36 [.tmp 2,.cell 3 44] func104 rfl ntmps104 rfl fun _ _ _ _=>?_;refine lI (fun j st=>∃ e:Nat,st=Wt l e e/\e<=l.length/\(az (l.take e)).Nodup/\enumL l 0 l=enumL l e (l.drop e)/\j=l.length - e) ⟨0,rfl,by omega,by simp [az],rfl,rfl⟩ (eP ⟨0,9,1,none⟩ rfl ⟨_,rfl⟩ rfl wA rfl rfl lj) ?_;rintro j st ⟨e,rfl,he,hnd,aP,rfl⟩;rw [aP];refine br ?_ ?_<;>intro hL
 ·have aq:e < l.length:=by simpa [aD] using hL
  obtain ⟨w,hw⟩:=gX aq;have SU:=jo (mG hw);have dx:=ku hw;have aW:=qX hw;have wb:=nB hw hnd;have Qv:=qR (az (l.take (e + 1))) (by simp [az];omega);rw [<- dx] at Qv;refine ⟨kP w,⟨by omega,bd hw⟩,?_⟩;refine ⟨by simp [cG,az];omega,⟨by simp [cG,az,maxLen];omega,by simp [cG,az];omega⟩,?_⟩;refine cP xH (jr w.s (by omega)) ?_;refine br ?_ ?_<;>intro hN
  ·have hN:bE w.s=false:=sU hN;have hf:aK l e w=9:=by simp [aK,hN]
   rw [aW,hf,ap (by decide)];refine dS ?_;exact ⟨_,ax,rfl⟩
  ·have hN:bE w.s=true:=sU hN;refine dj Pg rfl Qv ax (fun r hr=>?_);obtain ⟨z,rfl,hz⟩:=hr;refine br ?_ ?_<;>intro h2
   ·have h2:0<=z:=sU h2;have hd:cY (l.take e) w.s=true:=by grind
    have hf:aK l e w=10:=by simp [aK,hN,hd]
    rw [aW,hf,ap (by decide)];refine dS ?_;exact ⟨_,ax,rfl⟩
   ·have h2:¬ 0<=z:=sU h2;have zX:(az (l.take (e + 1))).Nodup:=Classical.byContradiction fun hn=>h2 (hz.2 hn);have hf:aK l e w=0:=by simp [aK,hN,wb.1 zX]
    rw [hf,aj (by simp)] at aW;refine ⟨Wt l (e + 1) (e + 1),(bz (wB2 (aG aq (by omega)) dx)),l.length - (e + 1),by omega,e + 1,rfl,by omega,zX,aW,rfl⟩
 ·have hge:e=l.length:=by
   have:=hL;simp [aD] at this;omega
  have h0:enumL l e (l.drop e)=(0,0):=by rw [hge,List.drop_length];all_goals rfl
  rw [h0];have ht:l.take e=l:=by rw [hge,List.take_length]
  rw [ht];exact ⟨_,ax,rfl⟩
def numF (L:List ByteArray):List (Wd × Wd)->Ft
 | []=>(0,0)
 | p :: r=>if dy L p.1.s=none then (17,p.1.a) else if dy L p.2.s=none then (17,p.2.a) else numF L r
def Yw (L:List ByteArray) (p:Wd × Wd):Nat × Nat:=((dy L p.1.s).getD 0,(dy L p.2.s).getD 0)
def dW (L:List ByteArray) (o:List (Wd × Wd)):List (Nat × Nat):=o.map (Yw L)
def acD (f:Ft) (l:List (Nat × Nat)):DV:=.tup [if f.1=0 then .sl 2 (nv l) none else .v (.slice none 0 0),f.d]
theorem A3 {L:List ByteArray} {o:List (Wd × Wd)} {e a b:Nat} {x:Wd × Wd} (h:o[e]? = some x) (ha:dy L x.1.s=some a) (hb:dy L x.2.s=some b):nv (dW L (o.take e)) ++ [[DV.v (.int .i64 (a:Int)),DV.v (.int .i64 (b:Int))]]=nv (dW L (o.take (e + 1))):=by
 rw [List.take_add_one,h];simp [nv,dW,Yw,ha,hb,dNP]
abbrev Wu (L:List ByteArray) (aJ:List Nat) (o:List (Wd × Wd)) (n e:Nat):St:=
 ⟨[eX 0 (dt L aJ),aE 5 0,(6,⟨[],.sl 2 (nv (dW L (o.take e))) (some 0)⟩),aM 12 4 (n9 o),au 13 ((n9 o).length),au 14 e],[[.v (.int .i64 0),.v (.int .i64 0)]],[⟨n,291,2,none⟩]⟩
theorem Aa (L:List ByteArray) (aJ:List Nat) (hT:iU L aJ) (hl:aJ.length<=1099511627776) (o:List (Wd × Wd)) (hs:prsWt o<=1099511627776) :
  EvP prog 106 [.pt (dt L aJ) 0,.sl 4 (n9 o) none] (acD (numF L o) (dW L o)):=by
 have ov:=jv o;refine eG 55 [.tmp 4,.cell 5 44] func106 rfl ntmps106 rfl fun _ _ _ _=>?_;refine lI (fun j st=>∃ e:Nat,st=Wu L aJ o e e/\e<=o.length/\numF L o=numF L (o.drop e)/\j=o.length - e) ⟨0,rfl,by omega,rfl,rfl⟩ (eP ⟨0,291,2,none⟩ rfl ⟨_,rfl⟩ rfl wA rfl rfl lj) ?_;rintro j st ⟨e,rfl,he,aP,rfl⟩;rw [aP];refine br ?_ ?_<;>intro hL
 ·have aq:e < o.length:=by simpa [gL] using hL
  obtain ⟨w,hw⟩:=gX aq;have aW:numF L (o.drop e)=if dy L w.1.s=none then (17,w.1.a) else if dy L w.2.s=none then (17,w.2.a) else numF L (o.drop (e + 1)):=by rw [drop_cons hw,numF]
  have Fp:=jz L aJ w.1.s hT hl;have vz:=jz L aJ w.2.s hT hl;refine ⟨Ot w,⟨by omega,iD hw⟩,?_⟩
  cases ha:dy L w.1.s with
  | none=>
   rw [ha] at Fp;refine cP oF Fp ?_;rw [aW,ap ha];refine dS ?_;exact ⟨_,ax,rfl⟩
  | some a=>
   rw [ha] at Fp;refine cP oF Fp ?_
   cases hb:dy L w.2.s with
   | none=>
    rw [hb] at vz;refine cP oF vz ?_;rw [aW,aj (by rw [ha];simp),ap hb];refine dS ?_;exact ⟨_,ax,rfl⟩
   | some b=>
    rw [hb] at vz;refine cP oF vz ?_;rw [aj (by rw [ha];simp),aj (by rw [hb];simp)] at aW;refine ⟨by simp [iE,dW];omega,⟨by simp [iE,dW,maxLen];omega,by simp [iE,dW];omega⟩,?_⟩;refine ⟨Wu L aJ o (e + 1) (e + 1),(bz (wB2 (aG aq (by omega)) (A3 hw ha hb))),o.length - (e + 1),by omega,e + 1,rfl,by omega,aW,rfl⟩
 ·have hge:e=o.length:=by
   have:=hL;simp [gL] at this;omega
  have h0:numF L (o.drop e)=(0,0):=by rw [hge,List.drop_length];all_goals rfl
  rw [h0];have ht:o.take e=o:=by rw [hge,List.take_length]
  rw [ht];exact ⟨_,ax,rfl⟩
end Go.Proofs.YtgjagnmeonoehaaGreat
