/- Part 3 of the proof: names.New: the table; names.Twice: does a text stand earlier, too?; Contracts: the reference's words, Plain, Same, Zero, own; Contracts: the reference's Same, Zero, own; Contracts: the reference's Label, listed, names, Size, with, coarse; What is wrong with a type: the plain function; the reference's Wrong and parts return it; The program's checks of types: bad, listed, label, words; The program's checks of types: label, coarse; The program's comparing of names and types; The program's Same; The program's own, empty; The program's empty, enum; kinds.Right, once the checker's check is known; Numbers in tens: the reference's Put; Numbers in tens: the program's Put; The text of a type, plain; the reference's Label and comma; The reference's text of a type: Label, comma, part, Type; The reference's text of a part; The reference's text of a type; The library's strings.Join, laid at this program by the kit's tool (lay-plain; wip/tools/lay.sh); The program's text of a label, of what stands behind a part's type, of lists; The program's text of a type: field, tag, kind; unparse.Type, once the checker's check is known; A type with which nothing is wrong is fine for its text; Readable data as data of the evaluator: what the statement's form reads of an argument is a datum of the evaluator, of the argument's type, no heavier than what was read; What is read of a type, as the plain data; From a contract over data to what a law's statement asks: the arguments are read, the call returns true, all that was there stays; What all laws' frames share: the bulk, the program's closed facts; Types without places: plain, and the program's kinds.Strip; Schemas: plain, as the evaluator has them, without places; What is read of a schema, as the plain data; What the frames of laws over schemas share; The program's closed facts, each by itself (all at once they ask more memory than a Lean process has); Cursors: plain; The greatest multiple of a unit that is at most a number; Whole numbers in texts, plain; Whole numbers in texts: the program's run, value, Take; UTF-8: the program's lead, value; UTF-8: the program's Decode; UTF-8: the document's reckoned, Scalar, Encode; UTF-8: the document's Scalar, Encode; UTF-8, plain: the document's well-formed bytes are the program's; a text's first units; UTF-8: the document's begins, left, Decode; Tables of runes; the unit at a place: the program's and the document's; Relations as rows of bits: plain, and rel's functions that read; rel.back: who leads to a thing and is led to by it; rel.New: the rows of a list of pairs; rel.Close: the closure, by rows; The number of bits that are set, as the library reckons it; math/bits.OnesCount64; When two bits are set; rel.Loop: the least thing in a loop. No condition. -/
import Derived.Laws.StructEq
import Derived.Shelf.Strings.OnBuilder
import Derived.Deep.Slices
import Derived.ChangeArms
import Derived.DataReads
import Derived.WalkKit
import Derived.ProofKit
import Derived.OpenShut
import Derived.Carry
import Derived.JoinedCond
import Derived.Test.YtfdedoiiahbnnaaGreatRows
import Derived.Test.YtfdedoiiahbnnaaGreatNd2
set_option linter.all false
set_option maxRecDepth 100000
namespace Go.Proofs.YtfdedoiiahbnnaaGreat
open Go Go.RowKit Dv Go.Proofs.Tryz
theorem CU {n m:Nat} {tk:List TkE}:∀ ds:List Nat,WeL n m tk (dInts ds).flatten (dInts ds).flatten
 | []=>rfl
 | b :: r=>⟨_,_,rfl,aA rfl,CU r⟩
theorem tR {n m:Nat} {tk:List TkE} {l:List DV} {ds:List Nat} (h:l=(dInts ds).flatten):WeL n m tk l (dInts ds).flatten:=by rw [h];exact CU ds
def jz (n e:Nat):List Nat:=List.range e ++ List.replicate (n - e) 0
theorem O4 {n e:Nat} (h:e<=n):(jz n e).length=n:=by simp [jz];omega
theorem fillA_0 (n:Nat):(List.replicate n [DV.v (.int .i64 0)]).flatten=(dInts (jz n 0)).flatten:=by simp [jz,dInts]
theorem Wv (n:Nat):jz n n=List.range n:=by simp [jz]
theorem qN (ds:List Nat):(dInts ds).flatten=ds.map fun (i:Nat)=>DV.v (.int .i64 (i:Int)):=by
 induction ds with
 | nil=>rfl
 | cons x r ih=>simp only [dInts,List.map_cons,List.flatten_cons] at ih ⊢;rw [ih];all_goals rfl
theorem Kn {n e:Nat} (h:e < n):(dInts (jz n e)).flatten.take e ++ [DV.v (.int .i64 (e:Int))] ++ (dInts (jz n e)).flatten.drop (e + 1)=(dInts (jz n (e + 1))).flatten:=by
 simp only [qN,<- List.map_take,<- List.map_drop];have e1:(jz n e).take e=List.range e:=by simp [jz]
 have e2:(jz n e).drop (e + 1)=List.replicate (n - (e + 1)) 0:=by
  simp only [jz,List.drop_append,List.length_range];rw [List.drop_eq_nil_of_le (by simp),List.nil_append,List.drop_replicate];congr 1;omega
 rw [e1,e2];simp [jz,List.range_succ]
abbrev Su (L:List ByteArray) (e:Nat):St:=
 ⟨[aJ 3 1,aJ 4 3,aC 16 ((fQ L).length),aC 17 e],
  [[.sl 1 (fQ L) (some 0),.v (.slice none 0 0)],[.loc 0 0],(dInts (jz (fQ L).length e)).flatten,[.ms 2 1 0 (fQ L).length (fQ L).length]],[⟨(fQ L).length,9,1,none⟩]⟩
def iW (L:List ByteArray) (ds:List Nat) (i:Nat):Bool:=decide (i=0) || !decide (L.getD (ds.getD i 0) aM=L.getD (ds.getD (i - 1) 0) aM)
def gz (L:List ByteArray) (ds:List Nat) (e:Nat):List Nat:=((List.range e).filter (iW L ds)).map fun i=>ds.getD i 0
theorem zO (L:List ByteArray) (ds:List Nat) (e:Nat):gz L ds (e + 1)=gz L ds e ++ (if iW L ds e=true then [ds.getD e 0] else []):=by
 unfold gz;rw [List.range_succ,List.filter_append,List.map_append];congr 1;cases h:iW L ds e<;>simp [h]
theorem O6 (L:List ByteArray) (ds:List Nat) (e:Nat):(gz L ds e).length<=e:=by grind [gz]
abbrev aaX (L:List ByteArray) (ds:List Nat):St:=
 ⟨[aJ 3 1,vC 4 [.sl 1 (dInts ds) none],bJ 29 1 (dInts ds),aC 30 ((fQ L).length),aC 31 0],
  [[.sl 1 (fQ L) (some 0),.v (.slice none 0 0)],[.loc 0 0]],[⟨(fQ L).length,9,1,none⟩]⟩
abbrev Hz (L:List ByteArray) (ds aN:List Nat) (m e:Nat):St:=
 ⟨[aJ 3 1,vC 4 [.sl 1 (dInts ds) none],bJ 29 1 (dInts ds),aC 30 ((fQ L).length),aC 31 e],
  [[.sl 1 (fQ L) (some 0),.sl 1 (dInts aN) (some 1)],[.loc 0 0]],[⟨(fQ L).length,9,1,none⟩,⟨m,3,1,none⟩]⟩
theorem getD_some {α:Type} {l:List α} {i:Nat} {x d:α} (h:l[i]? = some x):l.getD i d=x:=by simp [eo,h]
theorem vK {α:Type} {l:List α} {i:Nat} {d:α} (h:i < l.length):l[i]? = some (l.getD i d):=by grind
theorem aaY {L:List ByteArray} {ds:List Nat} (rC:ds.Perm (List.range L.length)) (Sp:∀ i j p q:Nat,i < j->ds[i]? = some p->ds[j]? = some q->Hx L q p=false):jy L (gz L ds L.length):=by
 have hlen:ds.length=L.length:=by rw [rC.length_eq,List.length_range]
 let D:Nat->Nat:=fun i=>ds.getD i 0
 let T:Nat->ByteArray:=fun i=>L.getD (D i) aM
 have hD:∀ i,i < L.length->ds[i]? = some (D i):=fun i hi=>vK (by omega)
 have hDn:∀ i,i < L.length->D i < L.length:=fun i hi=>by
  have:=rC.mem_iff.1 (mG (hD i hi));exact List.mem_range.1 this
 have hT:∀ i,i < L.length->L[D i]? = some (T i):=fun i hi=>vK (hDn i hi);have fO:∀ i j,i < j->j < L.length->T i=T j∨E8 (T i) (T j)=true:=by grind [Hx,M7]
 have afF:∀ i,i < L.length->iW L ds i=true->∀ j,j < i->E8 (T j) (T i)=true:=by
  intro i hi hh j hji;have bF:T i≠T (i - 1):=by grind [iW]
  grind [E8,ie]
 have CF:∀ j,j < L.length->∃ k,k < L.length/\D k=j:=by
  intro j hj;have:=rC.mem_iff.2 (List.mem_range.2 hj);obtain ⟨k,hk⟩:=List.getElem?_of_mem this
  grind
 let H:=(List.range L.length).filter (iW L ds)
 have hH:∀ (a i:Nat),H[a]? = some i->i < L.length/\iW L ds i=true:=fun a i h=>by
  have:=mG h
  grind
 have O7:∀ (a p:Nat),(gz L ds L.length)[a]? = some p->∃ i,H[a]? = some i/\D i=p:=by grind [gz,iW]
 have hinc:∀ (a b i k:Nat),a < b->H[a]? = some i->H[b]? = some k->i < k:=by
  intro a b i k yh hi hk;have hp:List.Pairwise (·< ·) H:=List.Pairwise.filter _ List.pairwise_lt_range;obtain ⟨ha,rfl⟩:=List.getElem?_eq_some_iff.1 hi;obtain ⟨hb,rfl⟩:=List.getElem?_eq_some_iff.1 hk;exact List.pairwise_iff_getElem.1 hp a b ha hb yh
 refine ⟨?_,?_,?_,?_⟩
 ·intro a p h;obtain ⟨i,hi,rfl⟩:=O7 a p h;exact hDn i (hH a i hi).1
 ·intro a b p q s t yh hp hq hs ht;obtain ⟨i,hi,rfl⟩:=O7 a p hp;obtain ⟨k,hk,rfl⟩:=O7 b q hq;rw [hT i (hH a i hi).1] at hs;rw [hT k (hH b k hk).1] at ht
  grind
 ·intro a p j s hp hs hj;obtain ⟨i,hi,rfl⟩:=O7 a p hp;obtain ⟨B8,JK⟩:=hH a i hi;obtain ⟨k,hk,rfl⟩:=CF j (gS hj).1;rw [hT i B8] at hs;rw [hT k hk] at hj;simp only [oI] at hs hj;rcases Nat.lt_trichotomy k i with h | h | h
  ·have:=afF i B8 JK k h;rw [hs,hj,E8,mC] at this;cases this
  ·rw [h];exact zLeR _
  ·have h2:=Sp i k (D i) (D k) h (hD i B8) (hD k hk)
   grind [Hx,aM]
 ·intro j s hj;obtain ⟨k,hk,rfl⟩:=CF j (gS hj).1;rw [hT k hk] at hj;simp only [oI] at hj;obtain ⟨i,⟨B8,his⟩,hmin⟩:=least (p:=fun i=>i < L.length/\T i=s) ⟨k,hk,hj⟩;have JK:iW L ds i=true:=by grind [iW,aM]
  have hm:i∈H:=by simp only [H,List.mem_filter,List.mem_range];exact ⟨B8,JK⟩
  obtain ⟨a,ha⟩:=List.getElem?_of_mem hm;refine ⟨a,D i,?_,by rw [hT i B8,his]⟩;unfold gz
  grind
theorem zP (L:List ByteArray) (hl:L.length<=1099511627776) :
  Ev prog 125 [.sl 1 (fQ L) none] [] [] (fun r _ _=>∃ aN,jy L aN/\aN.length<=L.length/\r = .pt (dB L aN) 0):=by
 have hN:=cX L;refine eG 71 [.tmp 2] func125 rfl ntmps125 rfl fun _ _ _ _=>?_;refine ⟨⟨by simp [hN,maxLen];omega,by simp [hN];omega⟩,?_⟩;refine ⟨⟨rfl,by omega,by omega,by omega⟩,?_⟩;refine lJ (fun e=>Su L e) L.length (ej 4 (by repeat' (first | exact rfl | exact aA rfl | exact tR (fillA_0 _) | refine ⟨_,_,rfl,?_,?_⟩)) (by repeat' (first | exact trivial | exact aA rfl | exact tR (fillA_0 _) | refine ⟨⟨_,rfl,?_⟩,?_⟩))) ?_;intro e he;refine br ?_ ?_<;>intro h
 ·have az:e < (fQ L).length:=sU h;refine ⟨⟨by omega,by omega⟩,?_⟩;have e1:(dInts (jz (fQ L).length e)).flatten.length=(fQ L).length:=by rw [qN,List.length_map,O4 (by omega)]
  refine ⟨by rw [e1];omega,?_⟩
  have cx:(dInts (jz (fQ L).length e)).flatten.set (0 + (e:Int).toNat * 1) (DV.v (.int .i64 (e:Int)))=(dInts (jz (fQ L).length (e + 1))).flatten:=by
   rw [show 0 + (e:Int).toNat * 1=e by omega,List.set_eq_take_append_cons_drop,zIfP (by rw [e1];omega),<- Kn az];simp
  refine ⟨Su L (e + 1),(ej 4 (by repeat' (first | exact rfl | exact aA rfl | exact tR cx | exact aG (nxt az (by omega)) | refine ⟨_,_,rfl,?_,?_⟩)) (by repeat' (first | exact trivial | exact aA rfl | exact tR cx | exact aG (nxt az (by omega)) | refine ⟨⟨_,rfl,?_⟩,?_⟩))),L.length - (e + 1),by omega,e + 1,rfl,by omega,rfl⟩
 ·have hge:e=(fQ L).length:=by grind
  subst hge;rw [Wv]
  have hms:∀ dk:List Nat,dk.length=(List.range (fQ L).length).length->∀ bx:List (List DV),bx[2]? = some (dInts dk).flatten->∀ N0 n0 m0:Nat,N0<=2->Cc bx N0 n0 m0 (.sl 1 (dInts dk) none) (.ms 2 1 0 (fQ L).length (fQ L).length):=by
   intro dk hdk bx hb N0 n0 m0 hN0;simp only [Cc];refine Or.inr (Or.inr (Or.inl ⟨2,0,(fQ L).length,_,?_,hN0,hb,?_,?_,?_⟩))
   ·rw [bQ,hdk,List.length_range]
   ·rw [List.drop_zero,List.take_of_length_le];rw [qN,List.length_map,bQ];omega
   ·grind [dInts]
   ·grind [qN]
  refine OX (ds:=List.range (fQ L).length) rfl (by simp) (fQ L).length (fun p hp=>List.mem_range.1 hp) (Hx L) (Ws L) rfl (by simp [hN];omega)
   (fun dk=>[.pt [.sl 1 (dInts dk) none] 0,.pt [.pt [.sl 1 (fQ L) none,.v (.slice none 0 0)] 0] 0])
   (fun dk hdk=>⟨_,_,rfl,Or.inr ⟨3,_,rfl,Nat.zero_le _,rfl,⟨_,_,rfl,hms dk hdk _ rfl 0 0 0 (Nat.zero_le _),rfl⟩⟩,ax⟩)
   (fun dk hdk hp i j p q hi hj=>OW L dk i j p q hi hj (by have:=hp p (mG hi);omega) (by have:=hp q (mG hj);omega)) rfl (fun ds rC Sp=>?_)
  have iP:ds.length=(fQ L).length:=by rw [rC.length_eq,List.length_range]
  have afG:=hms ds (by rw [iP,List.length_range])
  refine RI 2 (aaX L ds) rfl rfl rfl ⟨_,_,rfl,⟨_,_,rfl,⟨nL rfl,rfl⟩,_,_,rfl,rfl,rfl⟩,_,_,rfl,⟨_,_,rfl,⟨nL rfl,rfl⟩,rfl⟩,rfl⟩
   ⟨⟨_,rfl,⟨nL rfl,rfl⟩⟩,⟨_,rfl,Or.inr ⟨3,_,rfl,by decide,rfl,⟨_,_,rfl,afG _ rfl 2 0 0 (by decide),rfl⟩⟩⟩,⟨_,rfl,afG _ rfl 2 2 1 (by decide)⟩,⟨_,rfl,rfl⟩,⟨_,rfl,rfl⟩,trivial⟩ ?_
  refine aY (fun j st=>∃ e m:Nat,st=Hz L ds (gz L ds e) m e/\m=(gz L ds e).length/\e<=(fQ L).length/\j=(fQ L).length - e) (fQ L).length (Hz L ds [] 0 0)
   (di 2 ⟨0,3,1,none⟩ rfl rfl rfl tJ rfl rfl wB) ⟨0,0,rfl,rfl,by omega,by omega⟩ ?_
  rintro j st ⟨e,m,rfl,hm,he,rfl⟩;have nZ:=O6 L ds e;refine br ?_ ?_<;>intro h
  ·have az:e < (fQ L).length:=sU h;obtain ⟨p,hp⟩:∃ p,ds[e]? = some p:=⟨_,gE (by omega)⟩
   have hpL:p < L.length:=by
    have:=rC.mem_iff.1 (mG hp);rw [List.mem_range] at this;omega
   obtain ⟨s,hs⟩:∃ s,L[p]? = some s:=⟨_,gE hpL⟩;refine iX (dr hp) ?_;have hgp:ds.getD e 0=p:=by simp [eo,hp]
   have Gx:L.getD p aM=s:=by simp [eo,hs]
   have dO:iW L ds e=true->gz L ds (e + 1)=gz L ds e ++ [p]:=fun hh=>by rw [zO,zIfP hh,hgp]
   have hold:iW L ds e=false->gz L ds (e + 1)=gz L ds e:=fun hh=>by rw [zO,af (by rw [hh];decide),List.append_nil]
   have Nb:iW L ds e=true->dInts (gz L ds e) ++ [[DV.v (.int .i64 (p:Int))]]=dInts (gz L ds (e + 1)):=fun hh=>by rw [dO hh];simp [dInts]
   by_cases h0:e=0
   ·subst h0;have hh:iW L ds 0=true:=by simp [iW]
    refine dI ?_;refine dS ?_;refine ⟨by rw [bQ,hm],⟨by simp [bQ,maxLen];omega,by simp [bQ];omega⟩,?_⟩;refine ⟨Hz L ds (gz L ds 1) (m + 1) 1,(ej 2 (by repeat' (first | exact rfl | exact aA rfl | exact aG (nxt az (by omega)) | exact cS (Nb hh) rfl | refine ⟨_,_,rfl,?_,?_⟩)) (by repeat' (first | exact trivial | exact aA rfl | exact aG (nxt az (by omega)) | exact cS (Nb hh) rfl | refine ⟨⟨_,rfl,?_⟩,?_⟩))),(fQ L).length - 1,by omega,1,m + 1,rfl,by rw [dO hh,List.length_append,hm];rfl,by omega,rfl⟩
   ·obtain ⟨p',B0⟩:∃ p',ds[e - 1]? = some p':=⟨_,gE (by omega)⟩
    have hpL':p' < L.length:=by
     have:=rC.mem_iff.1 (mG B0);rw [List.mem_range] at this;omega
    obtain ⟨s',hs'⟩:∃ s',L[p']? = some s':=⟨_,gE hpL'⟩;have hgp':ds.getD (e - 1) 0=p':=by simp [eo,B0]
    have hgs':L.getD p' aM=s':=by simp [eo,hs']
    have hhd:iW L ds e = !decide (s=s'):=by grind [iW]
    have hz:IntKind.i64.wrap ((e:Int) - 1)=((e - 1:Nat):Int):=by rw [wrap64 (by omega) (by omega)];omega
    refine dI ?_;refine br (fun _=>?_) (fun h=>?_)
    ·refine iX (iV hs) ?_;refine ⟨[.v (.int .i64 (p':Int))],⟨by rw [hz];omega,by rw [hz];exact dr B0⟩,?_⟩;refine iX (iV hs') ?_;refine br ?_ ?_<;>intro h2
     ·have hh:iW L ds e=true:=by grind [ak]
      refine dS ?_;refine ⟨by rw [bQ,hm],⟨by simp [bQ,maxLen];omega,by simp [bQ];omega⟩,?_⟩;refine ⟨Hz L ds (gz L ds (e + 1)) (m + 1) (e + 1),(ej 2 (by repeat' (first | exact rfl | exact aA rfl | exact aG (nxt az (by omega)) | exact cS (Nb hh) rfl | refine ⟨_,_,rfl,?_,?_⟩)) (by repeat' (first | exact trivial | exact aA rfl | exact aG (nxt az (by omega)) | exact cS (Nb hh) rfl | refine ⟨⟨_,rfl,?_⟩,?_⟩))),(fQ L).length - (e + 1),by omega,e + 1,m + 1,rfl,by rw [dO hh,List.length_append,hm];rfl,by omega,rfl⟩
     ·have hh:iW L ds e=false:=by grind [ak]
      have aQ:dInts (gz L ds e)=dInts (gz L ds (e + 1)):=by rw [hold hh]
      refine ⟨Hz L ds (gz L ds (e + 1)) m (e + 1),(ej 2 (J9 (nxt az (by omega)) aQ) (wB2 (nxt az (by omega)) aQ)),(fQ L).length - (e + 1),by omega,e + 1,m,rfl,by rw [hold hh,hm],by omega,rfl⟩
    ·grind
  ·have hge:e=L.length:=by grind
   subst hge;exact ⟨.pt (dB L (gz L ds L.length)) 0,Or.inr ⟨0,_,rfl,Nat.zero_le _,rfl,ax⟩,_,aaY (by rw [<- hN];exact rC) Sp,nZ,rfl⟩
abbrev afH (L:List ByteArray) (aN:List Nat) (e:Nat):St:=
 ⟨[vC 3 (dB L aN),bJ 10 1 (fQ L),aC 11 ((fQ L).length),aC 12 e],[],[]⟩
theorem Sv {α:Type}:∀ {l:List α},(∀ (i j:Nat) (x:α),j < i->l[i]? = some x->l[j]? ≠ some x)->l.Nodup
 | l,h=>by
  rw [List.nodup_iff_pairwise_ne,List.pairwise_iff_getElem];intro i j hi hj tD he;exact h j i l[j] tD (gE hj) (by rw [gE hi,he])
theorem si (L:List ByteArray) (hl:L.length<=1099511627776) :
  Ev prog 131 [.sl 1 (fQ L) none] [] [] (fun r _ _=>∃ z:Int,r = .v (.int .i64 z)/\(0<=z↔¬ L.Nodup)):=by
 have hN:=cX L;refine eG 28 [.tmp 2] func131 rfl ntmps131 rfl fun _ _ _ _=>?_;refine bZ RQ rfl (zP L hl) ax (fun r hr=>?_);obtain ⟨aN,hT,nZ,rfl⟩:=hr;refine lI (fun j st=>∃ e:Nat,st=afH L aN e/\e<=L.length/\(∀ (i j:Nat) (x:ByteArray),i < e->j < i->L[i]? = some x->L[j]? ≠ some x)/\j=L.length - e) ⟨0,rfl,by omega,fun i j x hi=>by omega,rfl⟩ (wkM wB) ?_;rintro j st ⟨e,rfl,he,hinv,rfl⟩;refine br ?_ ?_<;>intro h
 ·have az:e < L.length:=sV hN h;obtain ⟨s,hs⟩:=gX az;obtain ⟨q,p,hq,hp⟩:=hT.all e s hs;have eC:=hT.fst q p e s hq hp hs;refine iX (iV hs) ?_;refine cP pH (find_spec L aN s q p hT (by omega) hq hp) ?_;refine br ?_ ?_<;>intro h2
  ·have h2:p < e:=sU h2;refine ⟨(e:Int),rfl,⟨fun _ hnd=>?_,fun _=>by omega⟩⟩;rw [List.nodup_iff_pairwise_ne,List.pairwise_iff_getElem] at hnd;obtain ⟨h3,h4⟩:=List.getElem?_eq_some_iff.1 hp;obtain ⟨h5,h6⟩:=List.getElem?_eq_some_iff.1 hs;exact hnd p e h3 h5 h2 (by rw [h4,h6])
  ·have h2:¬ p < e:=sU h2;refine ⟨afH L aN (e + 1),(wkM (wB1 (nxt az (by omega)))),L.length - (e + 1),by omega,e + 1,rfl,by omega,fun i j x hi hj hx hjx=>?_,rfl⟩;by_cases Kk:i=e
   ·subst Kk;rw [hs] at hx;simp only [oI] at hx;subst hx;have:=hT.fst q p j s hq hp hjx;omega
   ·exact hinv i j x (by omega) hj hx hjx
 ·have hge:e=L.length:=by grind
  subst hge;refine ⟨-1,rfl,⟨fun h3=>by omega,fun h3=>?_⟩⟩;exact absurd (Sv fun i j x tD hi hj=>hinv i j x (gS hi).1 tD hi hj) h3
def sameWds:List Wd->List Wd->Bool
 | [],[]=>true
 | x :: r,y :: s=>decide (x.s=y.s) && sameWds r s
 | _,_=>false
theorem xA:∀ {a b:List Wd},a.length≠b.length->sameWds a b=false
 | [],[],h=>(h rfl).elim
 | x :: r,y :: s,h=>by
  have:r.length≠s.length:=sU h;simp [sameWds,xA this]
 | [],y :: s,_=>rfl
 | x :: r,[],_=>rfl
abbrev E9 (a b:List Wd) (e:Nat):St:=
 ⟨[bJ 0 2 (bA a),bJ 1 2 (bA b),aC 5 e],[],[]⟩
theorem ou (a b:List Wd) (hs:a.length<=4611686018427387904) :
  aR prog 269 [.sl 2 (bA a) none,.sl 2 (bA b) none] (.v (.bool (sameWds a b))):=by
 refine eG 28 [.tmp 4] func269 rfl ntmps269 rfl fun _ _ _ _=>?_;refine br ?_ ?_<;>intro h
 ·have bF:a.length≠b.length:=by have:=h;simp [aD] at this;omega
  exact congrArg (fun b=>DV.v (.bool b)) (xA bF).symm
 ·have hl:a.length=b.length:=by have:=h;simp [aD] at this;omega
  refine aY (fun j st=>∃ e:Nat,st=E9 a b e/\e<=a.length/\sameWds a b=sameWds (a.drop e) (b.drop e)/\j=a.length - e) a.length
   (E9 a b 0) (wkM wB) ⟨0,rfl,by omega,rfl,by omega⟩ ?_
  rintro j st ⟨e,rfl,he,aQ,rfl⟩;refine br ?_ ?_<;>intro h
  ·have az:e < a.length:=by simpa [aD] using h
   obtain ⟨x,hx⟩:=gX az;obtain ⟨y,hy⟩:∃ y,b[e]? = some y:=⟨_,gE (hl ▸ az)⟩;rw [drop_cons hx,drop_cons hy] at aQ;refine dI ?_;refine ⟨jK x,⟨by omega,bn hx⟩,jK y,⟨by omega,bn hy⟩,?_⟩;refine br ?_ ?_<;>intro h
   ·have bF:x.s≠y.s:=sU h;refine (dq ?_:);rw [aQ];simp [sameWds,bF]
   ·have bF:x.s=y.s:=sU h;refine ⟨E9 a b (e + 1),(wkM (wB1 (nxt az (by omega)))),a.length - (e + 1),by omega,e + 1,rfl,by omega,?_,rfl⟩;rw [aQ];simp [sameWds,bF]
  ·have hge:e=a.length:=by have:=h;simp [aD] at this;omega
   refine (dq ?_:);rw [aQ,hge,hl];simp [sameWds];rw [<- hl];simp [sameWds]
def cY (p q:Ph):Bool:=(p.bare == q.bare) && decide (p.wide=q.wide) && sameWds p.label q.label && decide (p.ck=q.ck) && decide (p.cn=q.cn) && sameWds p.cl q.cl
theorem ov (p q:Ph) (tl tl':List DV) (hs:p.wt<=4611686018427387904) (ht:CcL [] 0 0 0 tl tl) (tE:CcL [] 0 0 0 tl' tl') :
  aR prog 196 [.agg (kv p tl),.agg (kv q tl')] (.v (.bool (cY p q))):=by
 refine eG 51 [.tmp 4] func196 rfl ntmps196 rfl fun _ _ _ _=>?_;have h1:=bW p.label;have h2:=bW p.cl;simp only [Ph.wt] at hs;refine br ?_ ?_<;>intro h
 ·refine cP R9 (ou p.label q.label (by omega)) ?_;refine br ?_ ?_<;>intro h2
  ·refine cP R9 (ou p.cl q.cl (by omega)) ?_;refine (dq ?_:);simp [pickB_and] at h h2;simp [cY,pickB_and,h,h2]
  ·refine (dq ?_:);simp [pickB_and] at h h2;simp [cY,pickB_and,h]
   grind
 ·refine (dq ?_:);simp [pickB_and] at h;simp [cY]
  grind
def mD (h k:Hd):Bool:=decide (h.ay=k.ay) && decide (h.lo=k.lo) && decide (h.hi=k.hi) && decide (h.most=k.most) && decide (h.name.s=k.name.s) && sameWds h.ag k.ag
mutual
def sameTy:Ty->Ty->Bool
 | .mk h ps,.mk k qs=>mD h k && samePts ps qs
def samePts:Pts->Pts->Bool
 | .nil,.nil=>true
 | .cons p t r,.cons q u s=>decide (p.name.s=q.name.s) && cY p q && sameTy t u && samePts r s
 | _,_=>false
end
theorem xB:∀ {a b:Pts},a.len≠b.len->samePts a b=false
 | .nil,.nil,h=>(h rfl).elim
 | .cons p t r,.cons q u s,h=>by
  have:r.len≠s.len:=by simpa [Pts.len] using h
  simp [samePts,xB this]
 | .nil,.cons _ _ _,_=>by simp [samePts]
 | .cons _ _ _,.nil,_=>by simp [samePts]
def ko (h:Hd):Hd:=
 ⟨h.ay,0,if h.ay=2 then h.lo else 0,if h.ay=2 then h.hi else 0,if h.ay=3∨h.ay=5 then h.most else 0,if h.ay=4 then h.ag else [],if h.ay=9 then h.name else ⟨aM,0⟩⟩
def mask:Ty->Ty
 | .mk h ps=>.mk (ko h) (if 4 < h.ay/\h.ay < 9 then ps else .nil)
theorem CV (bx:List (List DV)) (N n m:Nat) (t:Ty):CcL bx N n m (cL t) (cL t):=by
 obtain ⟨h,ps⟩:=t;simp only [cL,CcL,Cc]
 repeat' (first | exact rfl | exact trivial | exact Or.inr (Or.inl ⟨_,rfl⟩) | refine ⟨_,_,rfl,?_,?_⟩)
abbrev Ko (a b:Ty) (e:Nat):St:=
 ⟨[aJ 2 0,aJ 3 1,aC 5 e],[cL a,cL b],[]⟩
theorem pL:∀ (n:Nat) (a b:Ty),a.wt<=n->a.wt<=4611686018427387904 ->
  aR prog 268 [.agg (cL a),.agg (cL b)] (.v (.bool (sameTy a b)))
 | 0,a,b,hn,_=>by have:=a.kj;omega
 | n + 1,.mk h ps,.mk k qs,hn,c7=>by
  simp only [Ty.wt,Hd.wt] at hn c7;have hl:=bW h.ag;have jZ:=ps.gP;refine eG 98 [.tmp 4] func268 rfl ntmps268 rfl fun _ _ _ _=>?_;refine br ?_ ?_<;>intro hA
  ·simp [ak] at hA;obtain ⟨⟨⟨⟨e1,e2⟩,e3⟩,e4⟩,e5⟩:=hA;refine cP R9 (ou h.ag k.ag (by omega)) ?_;refine br ?_ ?_<;>intro hB
   ·refine (dq ?_:);simp [ak,e1,e2,e3,e4,e5,aP] at hB;simp only [sameTy,mD];rcases hB with hB | hB
    ·simp [hB]
    ·have:ps.len≠qs.len:=by omega
     simp [xB this]
   ·simp [ak,e1,e2,e3,e4,e5,aP] at hB;obtain ⟨e6,e7⟩:=hB;have e8:ps.len=qs.len:=by omega
    have eh:sameTy (.mk h ps) (.mk k qs)=samePts ps qs:=by simp [sameTy,mD,e1,e2,e3,e4,e5,e6]
    refine aY (fun j st=>∃ e:Nat,st=Ko (.mk h ps) (.mk k qs) e/\e<=ps.len/\samePts ps qs=samePts (ps.drop e) (qs.drop e)/\j=ps.len - e) ps.len
     (Ko (.mk h ps) (.mk k qs) 0) (wkM wB) ⟨0,rfl,by omega,rfl,by omega⟩ ?_
    rintro j st ⟨e,rfl,he,aQ,rfl⟩;refine br ?_ ?_<;>intro hL
    ·have az:e < ps.len:=by simpa [aP] using hL
     obtain ⟨p,t,hx⟩:=Pts.fx az;obtain ⟨q,u,hy⟩:=Pts.fx (e8 ▸ az);rw [Pts.drop_cons hx,Pts.drop_cons hy] at aQ;have BQ:=Pts.iu (mG hx);obtain ⟨t,ts⟩:=t;obtain ⟨u,us⟩:=u;apply qL (fun _=>false) 10 11 [0,1,2,3,4,5,6,7,8,9,10,11,12,13] [0,1,2,3,4,5,6,7,8,9,11,10,12,13] 2 3 mo (by decide +kernel)
     ·refine ⟨_,⟨by omega,ch hx⟩,_,⟨by omega,ch hy⟩,?_⟩;refine (?_:@Eq St _ _);exact rfl
     ·refine ⟨_,⟨by omega,ch hx⟩,_,⟨by omega,ch hy⟩,?_⟩;refine (⟨rfl,rfl,?_⟩:_/\_/\_)
      repeat' (first | exact trivial | refine ⟨rfl,?_⟩)
     ·rfl
     refine br ?_ ?_<;>intro hC
     ·have hC:p.name.s=q.name.s:=sU hC;refine cP RX (ov p q (cL (.mk t ts)) (cL (.mk u us)) (by omega) (CV _ _ _ _ _) (CV _ _ _ _ _)) ?_;refine br ?_ ?_<;>intro hD
      ·have hD:cY p q=true:=by simpa [ak,hC] using hD
       refine cP pK (pL n (.mk t ts) (.mk u us) (by omega) (by omega)) ?_;refine br ?_ ?_<;>intro hE
       ·refine (dq ?_:);rw [eh,aQ];simp [ak,hC,hD] at hE;simp [samePts,hE]
       ·simp [ak,hC,hD] at hE;refine ⟨Ko (.mk h ps) (.mk k qs) (e + 1),(wkM (wB1 (nxt az (by omega)))),ps.len - (e + 1),by omega,e + 1,rfl,by omega,?_,rfl⟩;rw [aQ];simp [samePts,hC,hD,hE]
      ·have hD:cY p q=false:=by simpa [ak,hC] using hD
       refine (dq ?_:);rw [eh,aQ];simp [samePts,hD]
     ·have hC:p.name.s≠q.name.s:=sU hC;refine (dq ?_:);rw [eh,aQ];simp [samePts,hC]
    ·have hge:e=ps.len:=by have:=hL;simp [aP] at this;omega
     refine (dq ?_:);rw [eh,aQ,hge,Pts.dK,e8,Pts.dK];simp [samePts]
  ·refine (dq ?_:);simp [ak] at hA;simp only [sameTy,mD]
   grind
theorem HA (t:Ty) (c7:t.wt<=4611686018427387904) :
  aR prog 271 [.agg (cL t)] (.v (.bool (sameTy t cp))):=by
 obtain ⟨h,ps⟩:=t;refine eG 6 [.tmp 2] func271 rfl ntmps271 rfl fun _ _ _ _=>?_;refine cP pK (pL _ (.mk h ps) cp (zLeR _) c7) ?_;exact (rfl:_=_)
theorem Kp (t:Ty) (c7:t.wt<=4611686018427387904) :
  aR prog 194 [.agg (cL t)] (.v (.bool (sameTy t (mask t)))):=by
 obtain ⟨h,ps⟩:=t
 have key:∀ (h':Hd) (ps':Pts),ko h=h' -> (if 4 < h.ay/\h.ay < 9 then ps else .nil)=ps' ->
   aR prog 268 [.agg (cL (.mk h ps)),.agg (cL (.mk h' ps'))] (.v (.bool (sameTy (.mk h ps) (mask (.mk h ps))))):=by
  rintro h' ps' rfl rfl;exact pL _ (.mk h ps) _ (zLeR _) c7
 obtain ⟨ay,cT,lo,hi,most,ag,name⟩:=h;by_cases hr:2<=ay/\ay<=9
 ·obtain hk | hk | hk | hk | hk | hk | hk | hk:ay=2∨ay=3∨ay=4∨ay=5∨ay=6∨ay=7∨ay=8∨ay=9:=by omega
  ·subst hk;refine eG 53 [.tmp 2] func194 rfl ntmps194 rfl fun _ _ _ _=>?_;refine cP pK (key ⟨2,0,lo,hi,0,[],⟨aM,0⟩⟩ .nil (by simp [ko]) (by simp)) ?_;exact (rfl:_=_)
  ·subst hk;refine eG 53 [.tmp 2] func194 rfl ntmps194 rfl fun _ _ _ _=>?_;refine cP pK (key ⟨3,0,0,0,most,[],⟨aM,0⟩⟩ .nil (by simp [ko]) (by simp)) ?_;exact (rfl:_=_)
  ·subst hk;refine eG 53 [.tmp 2] func194 rfl ntmps194 rfl fun _ _ _ _=>?_;refine cP pK (key ⟨4,0,0,0,0,ag,⟨aM,0⟩⟩ .nil (by simp [ko]) (by simp)) ?_;exact (rfl:_=_)
  ·subst hk;refine eG 53 [.tmp 2] func194 rfl ntmps194 rfl fun _ _ _ _=>?_;refine cP pK (key ⟨5,0,0,0,most,[],⟨aM,0⟩⟩ ps (by simp [ko]) (by simp)) ?_;exact (rfl:_=_)
  ·subst hk;refine eG 53 [.tmp 2] func194 rfl ntmps194 rfl fun _ _ _ _=>?_;refine cP pK (key ⟨6,0,0,0,0,[],⟨aM,0⟩⟩ ps (by simp [ko]) (by simp)) ?_;exact (rfl:_=_)
  ·subst hk;refine eG 53 [.tmp 2] func194 rfl ntmps194 rfl fun _ _ _ _=>?_;refine cP pK (key ⟨7,0,0,0,0,[],⟨aM,0⟩⟩ ps (by simp [ko]) (by simp)) ?_;exact (rfl:_=_)
  ·subst hk;refine eG 53 [.tmp 2] func194 rfl ntmps194 rfl fun _ _ _ _=>?_;refine cP pK (key ⟨8,0,0,0,0,[],⟨aM,0⟩⟩ ps (by simp [ko]) (by simp)) ?_;exact (rfl:_=_)
  ·subst hk;refine eG 53 [.tmp 2] func194 rfl ntmps194 rfl fun _ _ _ _=>?_;refine cP pK (key ⟨9,0,0,0,0,[],name⟩ .nil (by simp [ko]) (by simp)) ?_;exact (rfl:_=_)
 ·refine eG 53 [.tmp 2] func194 rfl ntmps194 rfl fun _ _ _ _=>?_;refine br (fun c=>?_) (fun c1=>?_)
  ·have:ay=2:=of_decide_eq_true c;omega
  refine br (fun c=>?_) (fun c2=>?_)
  ·simp [ak] at c;omega
  refine br (fun c=>?_) (fun c3=>?_)
  ·have:ay=4:=of_decide_eq_true c;omega
  refine br (fun c=>?_) (fun c4=>?_)
  ·simp [pickB_and] at c;omega
  refine br (fun c=>?_) (fun c5=>?_)
  ·have:ay=9:=of_decide_eq_true c;omega
  have e1:¬ ay=2:=of_decide_eq_false c1;have e3:¬ ay=4:=of_decide_eq_false c3;have e5:¬ ay=9:=of_decide_eq_false c5;simp [ak,pickB_and] at c2 c4;refine cP pK (key ⟨ay,0,0,0,0,[],⟨aM,0⟩⟩ .nil (by simp [ko,e1,c2,e3,e5]) (by simp;omega)) ?_;exact (rfl:_=_)
abbrev Ft:Type:=Int × Int
def Ft.d (f:Ft):DV:=.agg [.v (.int .i64 f.1),.v (.int .i64 f.2)]
def badWd:List Wd->Ft
 | []=>(0,0)
 | w :: r=>if bM w.s then badWd r else (9,w.a)
def b9 (l:List Wd):Ft:=
 if l.length<=32 then badWd l else (8,((l[32]?).getD (⟨aM,0⟩:Wd)).a)
abbrev Fa (l:List Wd) (e:Nat):St:=
 ⟨[bJ 0 2 (bA l),aJ 2 0,aC 3 e],[[.v (.int .i64 0),.v (.int .i64 0)]],[]⟩
theorem ow (l:List Wd) (hs:wdsWt l<=4611686018427387904) :
  aR prog 192 [.sl 2 (bA l) none] (b9 l).d:=by
 have qJ:=bW l;refine eG 32 [.cell 2 26] func192 rfl ntmps192 rfl fun _ _ _ _=>?_;refine br ?_ ?_<;>intro h
 ·have az:32 < l.length:=by simp [aD] at h;omega
  obtain ⟨x,hx⟩:=gX az;have:b9 l=(8,x.a):=by simp [b9,Nat.not_le.2 az,hx]
  refine ⟨jK x,⟨by omega,bn hx⟩,_,?_,rfl⟩;rw [this];exact ax
 ·have fO:l.length<=32:=by simp [aD] at h;omega
  refine aY (fun j st=>∃ e:Nat,st=Fa l e/\e<=l.length/\badWd l=badWd (l.drop e)/\j=l.length - e) l.length
   (Fa l 0) (wkM wB) ⟨0,rfl,by omega,rfl,by omega⟩ ?_
  rintro j st ⟨e,rfl,he,aQ,rfl⟩;refine br ?_ ?_<;>intro hL
  ·have az:e < l.length:=by simpa [aD] using hL
   obtain ⟨x,hx⟩:=gX az;rw [drop_cons hx] at aQ;have CA:=jJ (mG hx);refine ⟨jK x,⟨by omega,bn hx⟩,?_⟩;refine cP MW (mg x.s (by omega)) ?_;refine br ?_ ?_<;>intro hN
   ·have hN:bM x.s=false:=sU hN;have:b9 l=(9,x.a):=by simp [b9,fO,aQ,badWd,hN]
    refine ⟨jK x,⟨by omega,bn hx⟩,_,?_,rfl⟩;rw [this];exact ax
   ·have hN:bM x.s=true:=sU hN;refine ⟨Fa l (e + 1),(wkM (wB1 (nxt az (by omega)))),l.length - (e + 1),by omega,e + 1,rfl,by omega,?_,rfl⟩;rw [aQ];simp [badWd,hN]
  ·have hge:e=l.length:=by simp [aD] at hL;omega
   have:b9 l=(0,0):=by simp [b9,fO,aQ,hge,badWd]
   refine ⟨_,?_,rfl⟩;rw [this];exact ax
def c8 (l:List Wd) (s:ByteArray):Bool:=l.any fun w=>decide (w.s=s)
def aK (l:List Wd) (i:Nat) (x:Wd):Int:=
 if bM x.s then (if c8 (l.take i) x.s then 10 else 0) else 9
abbrev zQ (l:List Wd) (i e:Nat):St:=
 ⟨[bJ 0 2 (bA l),aC 1 i,aC 5 e],[],[]⟩
theorem rD (l:List Wd) (i:Nat) (x:Wd) (hs:wdsWt l<=4611686018427387904) (hx:l[i]? = some x) :
  aR prog 195 [.sl 2 (bA l) none,.v (.int .i64 i)] (.v (.int .i64 (aK l i x))):=by
 have qJ:=bW l;have hi:=(gS hx).1;have CA:=jJ (mG hx);refine eG 29 [.tmp 4] func195 rfl ntmps195 rfl fun _ _ _ _=>?_;refine ⟨jK x,⟨by omega,bn hx⟩,?_⟩;refine cP MW (mg x.s (by omega)) ?_;refine br ?_ ?_<;>intro hN
 ·have hN:bM x.s=false:=sU hN;refine (rY ?_:);simp [aK,hN]
 ·have hN:bM x.s=true:=sU hN
  refine aY (fun j st=>∃ e:Nat,st=zQ l i e/\e<=i/\c8 (l.take e) x.s=false/\j=i - e) i
   (zQ l i 0) (wkM wB) ⟨0,rfl,by omega,rfl,by omega⟩ ?_
  rintro j st ⟨e,rfl,he,aQ,rfl⟩;refine br ?_ ?_<;>intro hL
  ·have az:e < i:=sU hL;obtain ⟨y,hy⟩:∃ y,l[e]? = some y:=⟨_,gE (by omega)⟩;refine dI ?_;refine ⟨jK y,⟨by omega,bn hy⟩,jK x,⟨by omega,bn hx⟩,?_⟩;refine br ?_ ?_<;>intro hE
   ·have hE:y.s=x.s:=sU hE;refine (rY ?_:)
    have:c8 (l.take i) x.s=true:=by
     simp only [c8,List.any_eq_true];exact ⟨y,List.mem_take_iff_getElem.2 ⟨e,by omega,(gS hy).2⟩,by simpa using hE⟩
    simp [aK,hN,this]
   ·have hE:¬ y.s=x.s:=sU hE;refine ⟨zQ l i (e + 1),(wkM (wB1 (nxt az (by omega)))),i - (e + 1),by omega,e + 1,rfl,by omega,?_,rfl⟩;rw [List.take_add_one,hy];simp only [c8,List.any_append] at aQ ⊢;simp [aQ,hE]
  ·have hge:e=i:=by have:=of_decide_eq_false hL;omega
   refine (rY ?_:);subst hge;simp [aK,hN,aQ]
def pNames:Pts->List Wd
 | .nil=>[]
 | .cons p _ r=>p.name :: pNames r
theorem iw:∀ ps:Pts,(pNames ps).length=ps.len
 | .nil=>rfl
 | .cons p t r=>by simp [pNames,Pts.len,iw r]
theorem iy:∀ {ps:Pts} {j:Nat} {p:Ph} {t:Ty},ps.toList[j]? = some (p,t)->(pNames ps)[j]? = some p.name
 | .nil,j,p,t,h=>by simp [Pts.toList] at h
 | .cons q u r,0,p,t,h=>by grind [Pts.toList,pNames]
 | .cons q u r,j + 1,p,t,h=>by
  simp only [Pts.toList,List.getElem?_cons_succ] at h;simp only [pNames,List.getElem?_cons_succ];exact iy h
theorem vM:∀ ps:Pts,wdsWt (pNames ps)<=ps.wt
 | .nil=>zLeR _
 | .cons p t r=>by
  have:=vM r
  grind [pNames,wdsWt,Pts.wt,Ph.wt]
abbrev Fb (ps:Pts) (l:List Wd) (n e:Nat):St:=
 ⟨[bJ 0 18 (gm ps),(3,⟨[],.sl 2 (bA l) (some 0)⟩),aC 4 e],[],[⟨n,34,2,none⟩]⟩
theorem Fc (ps:Pts) (hs:ps.wt<=1099511627776):aR prog 270 [.sl 18 (gm ps) none] (.sl 2 (bA (pNames ps)) none):=by
 have jZ:=ps.gP;refine eG 20 [.tmp 2] func270 rfl ntmps270 rfl fun _ _ _ _=>?_
 refine aY (fun j st=>∃ (e:Nat),st=Fb ps ((pNames ps).take e) e e/\e<=ps.len/\j=ps.len - e) ps.len
  (Fb ps [] 0 0) (gw ⟨0,34,2,none⟩ rfl ⟨_,rfl⟩ rfl wA rfl rfl lW) ⟨0,by simp,by omega,by omega⟩ ?_
 rintro j st ⟨e,rfl,he,rfl⟩;refine br ?_ ?_<;>intro hL
 ·have az:e < ps.len:=by simpa [aP] using hL
  obtain ⟨p,t,hx⟩:=Pts.fx az;refine iX (ch hx) ?_;refine ⟨by simp [aD,iw];omega,⟨by simp [aD,iw,maxLen];omega,by simp [aD,iw];omega⟩,?_⟩;refine ⟨Fb ps ((pNames ps).take (e + 1)) (e + 1) (e + 1),(wkM (wB2 (nxt az (by omega)) (CS (iy hx)))),ps.len - (e + 1),by omega,e + 1,rfl,by omega,rfl⟩
 ·have hge:e=ps.len:=by simp [aP] at hL;omega
  rw [hge,List.take_of_length_le (by rw [iw];omega)];exact ⟨_,ax,rfl⟩
mutual
def Ty.cnt:Ty->Nat
 | .mk _ ps=>1 + ps.cnt
def Pts.cnt:Pts->Nat
 | .nil=>0
 | .cons p t r=>(if p.bare then 0 else t.cnt) + r.cnt
end
mutual
def Ty.deep:Ty->Nat
 | .mk _ ps=>ps.deep + 1
def Pts.deep:Pts->Nat
 | .nil=>0
 | .cons p t r=>max (if p.bare then 0 else t.deep) r.deep
end
mutual
theorem Ty.fy:∀ t:Ty,t.cnt<=t.wt
 | .mk h ps=>by have:=Pts.fy ps;simp only [Ty.cnt,Ty.wt,Hd.wt];omega
theorem Pts.fy:∀ ps:Pts,ps.cnt<=ps.wt
 | .nil=>zLeR _
 | .cons p t r=>by
  have:=Ty.fy t;have:=Pts.fy r;simp only [Pts.cnt,Pts.wt];split<;>omega
end
mutual
theorem Ty.qO:∀ t:Ty,t.deep<=t.wt
 | .mk h ps=>by have:=Pts.qO ps;simp only [Ty.deep,Ty.wt,Hd.wt];omega
theorem Pts.qO:∀ ps:Pts,ps.deep<=ps.wt
 | .nil=>zLeR _
 | .cons p t r=>by
  have:=Ty.qO t;have:=Pts.qO r
  grind [Pts.deep,Pts.wt]
end
abbrev Fe (t:Ty) (e n d:Nat):St:=
 ⟨[aJ 1 0,aC 4 n,aC 5 d,aC 6 e],[cL t],[]⟩
theorem xC:∀ (k:Nat) (t:Ty),t.wt<=k->t.wt<=1099511627776 ->
  aR prog 39 [.agg (cL t)] (.bo [.v (.int .i64 t.cnt),.v (.int .i64 t.deep)])
 | 0,t,hn,_=>by have:=t.kj;omega
 | k + 1,.mk h ps,hn,c7=>by
  simp only [Ty.wt,Hd.wt] at hn c7;have jZ:=ps.gP;have hc:=ps.fy;have hdp:=ps.qO;refine eG 42 [.tmp 2,.tmp 3] func39 rfl ntmps39 rfl fun _ _ _ _=>?_
  refine aY (fun j st=>∃ (e n d:Nat),st=Fe (.mk h ps) e n d/\e<=ps.len/\n + (ps.drop e).cnt=1 + ps.cnt/\max d (ps.drop e).deep=ps.deep/\j=ps.len - e) ps.len
   (Fe (.mk h ps) 0 1 0) (wkM wB) ⟨0,1,0,rfl,by omega,rfl,by simp [Pts.drop],by omega⟩ ?_
  rintro j st ⟨e,n,d,rfl,he,bF,hde,rfl⟩;refine br ?_ ?_<;>intro hL
  ·have az:e < ps.len:=by simpa [aP] using hL
   obtain ⟨p,t,hx⟩:=Pts.fx az;have BQ:=Pts.iu (mG hx);rw [Pts.drop_cons hx] at bF hde;simp only [Pts.cnt,Pts.deep] at bF hde;have VA:=t.fy;have hdt:=t.qO;refine iX (ch hx) ?_;refine br ?_ ?_<;>intro hB
   ·rw [zIfP hB] at bF hde;exact rE ⟨_,by omega,e + 1,n,d,rfl,by omega,by omega,by omega,rfl⟩ (wkM (wB1 (nxt az (by omega))))
   ·rw [af (by simp [hB])] at bF hde;obtain ⟨u,us⟩:=t;refine iX (ch hx) ?_;refine cP aea (xC k (.mk u us) (by omega) (by omega)) ?_;have CW:IntKind.i64.wrap ((n:Int) + (Ty.mk u us).cnt)=((n + (Ty.mk u us).cnt:Nat):Int):=by rw [wrap64 (by omega) (by omega)];omega
    refine br ?_ ?_<;>intro hD
    ·have hD:d < (Ty.mk u us).deep:=sU hD;exact ⟨Fe (.mk h ps) (e + 1) (n + (Ty.mk u us).cnt) (Ty.mk u us).deep,(wkM (wB2 CW (nxt az (by omega)))),ps.len - (e + 1),by omega,e + 1,_,_,rfl,by omega,by omega,by omega,rfl⟩
    ·have hD:¬ d < (Ty.mk u us).deep:=sU hD;exact ⟨Fe (.mk h ps) (e + 1) (n + (Ty.mk u us).cnt) d,(wkM (wB2 CW (nxt az (by omega)))),ps.len - (e + 1),by omega,e + 1,_,_,rfl,by omega,by omega,by omega,rfl⟩
  ·have hge:e=ps.len:=by simp [aP] at hL;omega
   rw [hge,Pts.dK] at bF hde;simp only [Pts.cnt,Pts.deep] at bF hde;have e1:IntKind.i64.wrap ((d:Int) + 1)=((Ty.mk h ps).deep:Int):=by rw [wrap64 (by omega) (by omega)];simp only [Ty.deep];omega
   have e2:(n:Int)=((Ty.mk h ps).cnt:Int):=by simp only [Ty.cnt];omega
   refine ⟨_,?_,rfl⟩;rw [<- e1,<- e2];exact ax
def wD (f:Ft) (n:Int):DV:=.agg [.v (.int .i64 f.1),.v (.int .i64 f.2),.v (.int .i64 n)]
theorem fp (f:Ft) (n e a:Int):aR prog 193 [wD f n,.v (.int .i64 e),.v (.int .i64 a)] (wD (e,a) n):=by
 refine eG 13 [.cell 6 179] func193 rfl ntmps193 rfl fun _ _ _ _=>?_;exact ⟨_,ax,rfl⟩
def bB (p:Ph):Ft:=
 if p.ck=0 then (if p.cn=0/\p.cl=[] then (0,0) else (19,p.name.a))
 else if p.ck < 0∨3 < p.ck then (14,p.ca)
 else if (p.ck=1/\p.cn < 1)∨(p.ck=2/\(p.cn < 0∨4096 < p.cn))∨(p.ck=3/\p.cn≠0) then (20,p.ca)
 else b9 p.cl
theorem B9 (p:Ph) (tl:List DV) (hs:p.wt<=4611686018427387904) :
  aR prog 272 [.agg (kv p tl)] (bB p).d:=by
 simp only [Ph.wt] at hs;refine eG 73 [.cell 2 26] func272 rfl ntmps272 rfl fun _ _ _ _=>?_;refine br ?_ ?_<;>intro h0
 ·have h0:p.ck=0:=sU h0;refine br ?_ ?_<;>intro h1
  ·have:bB p=(19,p.name.a):=by grind [ak,aD,bB]
   refine ⟨_,?_,rfl⟩;rw [this];exact ax
  ·have:bB p=(0,0):=by
    simp [ak,aD] at h1;simp [bB,h0,h1.1,h1.2]
   refine ⟨_,?_,rfl⟩;rw [this];exact ax
 ·have h0:¬ p.ck=0:=sU h0;refine br ?_ ?_<;>intro h1
  ·have:bB p=(14,p.ca):=by grind [ak,bB]
   refine ⟨_,?_,rfl⟩;rw [this];exact ax
  ·simp [ak] at h1;refine br ?_ ?_<;>intro h2
   ·have:bB p=(20,p.ca):=by grind [ak,pickB_and,bB]
    refine ⟨_,?_,rfl⟩;rw [this];exact ax
   ·have hc:bB p=b9 p.cl:=by grind [ak,pickB_and,bB]
    refine cP RW (ow p.cl (by omega)) ?_;refine ⟨_,?_,rfl⟩;rw [hc];exact ax
def enumL (all:List Wd):Nat->List Wd->Ft
 | _,[]=>(0,0)
 | i,x :: r=>if aK all i x≠0 then (aK all i x,x.a) else enumL all (i + 1) r
def jM (h:Hd):Ft:=
 if h.ag=[] then (15,h.cT)
 else if 64 < h.ag.length then (8,((h.ag[64]?).getD (⟨aM,0⟩:Wd)).a)
 else enumL h.ag 0 h.ag
def eN (p:Ph):Ft:=
 if p.wide < 0∨64 < p.wide then (20,p.name.a)
 else if (b9 p.label).1≠0 then b9 p.label
 else bB p
def zR (t:Ty):Bool:=sameTy t (mask t)
mutual
def wrong:Ty->Int->Int->Ft × Int
 | .mk h ps,depth,m=>
  if 24 < depth then ((6,h.cT),m + 1)
  else if 512 < m + 1 then ((8,h.cT),m + 1)
  else if h.ay < 1∨9 < h.ay then ((14,h.cT),m + 1)
  else if zR (.mk h ps)=false then ((19,h.cT),m + 1)
  else if (h.ay=2/\h.hi < h.lo)∨(h.ay=3/\(h.most < 0∨4096 < h.most)) then ((20,h.cT),m + 1)
  else if h.ay=9/\bM h.name.s=false then ((9,h.name.a),m + 1)
  else if h.ay=4 then (jM h,m + 1)
  else if h.ay=5∨h.ay=6 then wrongOne h ps depth (m + 1)
  else if h.ay=7∨h.ay=8 then
   if h.ay=8/\ps.len=0 then ((15,h.cT),m + 1)
   else if 64 < ps.len then ((8,(((pNames ps)[64]?).getD (⟨aM,0⟩:Wd)).a),m + 1)
   else wrongPts h.ay (pNames ps) 0 ps depth (m + 1)
  else ((0,0),m + 1)
def wrongOne:Hd->Pts->Int->Int->Ft × Int
 | h,.cons p t .nil,depth,m=>
  if p.name.s≠aM∨cY p dP=false then ((19,h.cT),m)
  else if h.most < 0∨1024 < h.most then ((20,h.cT),m)
  else wrong t (depth + 1) m
 | h,_,_,m=>((19,h.cT),m)
def wrongPts (ay:Int) (all:List Wd):Nat->Pts->Int->Int->Ft × Int
 | _,.nil,_,m=>((0,0),m)
 | i,.cons p t r,depth,m=>
  if aK all i p.name≠0 then ((aK all i p.name,p.name.a),m)
  else if p.bare=true then
   if ay=7∨sameTy t cp=false∨cY p km=false then ((19,p.name.a),m) else wrongPts ay all (i + 1) r depth m
  else if (eN p).1≠0 then (eN p,m)
  else if (wrong t (depth + 1) m).1.1≠0 then wrong t (depth + 1) m
  else wrongPts ay all (i + 1) r depth (wrong t (depth + 1) m).2
end
def Ff (k:Nat):Prop:=∀ (t:Ty) (depth m:Int),t.wt<=k->t.wt<=1099511627776->0<=depth->depth<=25->0<=m->m<=512 ->
 aR prog 106 [wD (0,0) m,.agg (cL t),.v (.int .i64 depth)] (wD (wrong t depth m).1 (wrong t depth m).2)
abbrev Nc (t:Ty) (e:Nat) (depth m:Int):St:=
 ⟨[aC 2 depth,aJ 3 0,aJ 4 1,aJ 6 2,aC 7 e],[[.v (.int .i64 0),.v (.int .i64 0),.v (.int .i64 m)],cL t,[.v (.int .i64 0),.v (.int .i64 0),.v (.int .i64 0)]],[]⟩
def fZ (h:Hd) (ps:Pts) (depth m:Int):Ft × Int:=
 if h.ay=8/\ps.len=0 then ((15,h.cT),m)
 else if 64 < ps.len then ((8,(((pNames ps)[64]?).getD (⟨aM,0⟩:Wd)).a),m)
 else wrongPts h.ay (pNames ps) 0 ps depth m
theorem HB (all:List Wd):∀ (l:List Wd) (i:Nat),(enumL all i l).1=0->enumL all i l=(0,0)
 | [],_,_=>rfl
 | x :: r,i,h=>by
  have ih:=HB all r (i + 1)
  grind [enumL]
theorem CY (h:Hd) (he:(jM h).1=0):jM h=(0,0):=by grind [jM,HB]
mutual
theorem tS:∀ (t:Ty) (depth m:Int),0<=m->(wrong t depth m).1.1=0->(wrong t depth m).1=(0,0)/\0<=(wrong t depth m).2/\(wrong t depth m).2<=512
 | .mk h ps,depth,m,hm,he=>by
  have i1:=HC h ps depth (m + 1) (by omega);have i2:=pM h.ay (pNames ps) ps 0 depth (m + 1) (by omega);have i3:=CY h;simp only [wrong] at he ⊢;by_cases c0:24 < depth
  ·rw [zIfP c0] at he;simp at he
  rw [af c0] at he ⊢;by_cases c1:512 < m + 1
  ·rw [zIfP c1] at he;simp at he
  rw [af c1] at he ⊢;by_cases c2:h.ay < 1∨9 < h.ay
  all_goals grind
theorem HC:∀ (h:Hd) (ps:Pts) (depth m:Int),0<=m->m<=512->(wrongOne h ps depth m).1.1=0->(wrongOne h ps depth m).1=(0,0)/\0<=(wrongOne h ps depth m).2/\(wrongOne h ps depth m).2<=512
 | h,.nil,depth,m,hm,_,he=>by simp [wrongOne] at he
 | h,.cons p t .nil,depth,m,hm,h5,he=>by
  have ih:=tS t (depth + 1) m hm
  grind [wrongOne]
 | h,.cons p t (.cons _ _ _),depth,m,hm,_,he=>by simp [wrongOne] at he
theorem pM (ay:Int) (all:List Wd):∀ (ps:Pts) (i:Nat) (depth m:Int),0<=m->m<=512->(wrongPts ay all i ps depth m).1.1=0->(wrongPts ay all i ps depth m).1=(0,0)/\0<=(wrongPts ay all i ps depth m).2/\(wrongPts ay all i ps depth m).2<=512
 | .nil,i,depth,m,hm,h5,he=>by simp only [wrongPts];exact ⟨trivial,hm,h5⟩
 | .cons p t r,i,depth,m,hm,h5,he=>by
  have i1:=tS t (depth + 1) m hm;simp only [wrongPts] at he ⊢;split at he
  ·rename_i h1;exact (h1 he).elim
  ·rename_i h1;rw [af h1];split at he
   ·rename_i h2;rw [zIfP h2];split at he
    ·simp at he
    ·rename_i h3;rw [af h3];exact pM ay all r (i + 1) depth m hm h5 he
   ·rename_i h2;rw [af h2];split at he
    ·rename_i h3;exact (h3 he).elim
    ·rename_i h3;rw [af h3];split at he
     ·rename_i h4;exact (h4 he).elim
     ·rename_i h4;rw [af h4];have i2:=i1 (sU h4);exact pM ay all r (i + 1) depth _ i2.2.1 i2.2.2 he
end
theorem Fg (k:Nat) (ih:Ff k) (h:Hd) (ps:Pts) (depth m:Int) (hk:ps.wt<=k) (c7:(Ty.mk h ps).wt<=1099511627776) (BP:0<=depth) (vb:depth<=24) (oZ:0<=m) (kO:m<=512) :
  aR prog 197 [wD (0,0) m,.agg (cL (.mk h ps)),.v (.int .i64 depth)] (wD (fZ h ps depth m).1 (fZ h ps depth m).2):=by
 simp only [Ty.wt,Hd.wt] at c7;have jZ:=ps.gP;have hnw:=vM ps;refine eG 126 [.cell 6 179] func197 rfl ntmps197 rfl fun _ _ _ _=>?_;refine br ?_ ?_<;>intro c1
 ·refine cP iK (fp (0,0) m 15 h.cT) ?_;have:fZ h ps depth m=((15,h.cT),m):=by grind [pickB_and,aP,fZ]
  refine ⟨_,?_,rfl⟩;rw [this];exact ax
 ·have c1':¬ (h.ay=8/\ps.len=0):=by
   simp [pickB_and,aP] at c1;omega
  refine br ?_ ?_<;>intro c2
  ·have az:64 < ps.len:=by simp [aP] at c2;omega
   obtain ⟨p,t,hx⟩:=Pts.fx az;refine EZ (fun i=>Nat.beq i 8) mo (by decide +kernel) ?_;refine iX (ch hx) ?_;refine cD iK (fp (0,0) m 8 p.name.a) ?_;have:fZ h ps depth m=((8,p.name.a),m):=by grind [fZ,iy]
   refine ⟨_,?_,rfl⟩;rw [this];exact ax
  ·have c2':¬ 64 < ps.len:=by simp [aP] at c2;omega
   have hF:fZ h ps depth m=wrongPts h.ay (pNames ps) 0 ps depth m:=by simp only [fZ,af c1',af c2']
   refine aY (fun j st=>∃ (e:Nat) (m':Int),st=Nc (.mk h ps) e depth m' /\ e<=ps.len/\0<=m' /\ m' <= 512 /\
     wrongPts h.ay (pNames ps) 0 ps depth m=wrongPts h.ay (pNames ps) e (ps.drop e) depth m' /\ j=ps.len - e) ps.len
    (Nc (.mk h ps) 0 depth m) (wkM wB) ⟨0,m,rfl,by omega,oZ,kO,rfl,by omega⟩ ?_
   rintro j st ⟨e,m',rfl,he,Fh,HD,aQ,rfl⟩;refine br ?_ ?_<;>intro hL
   ·have az:e < ps.len:=by simpa [aP] using hL
    obtain ⟨p,t,hx⟩:=Pts.fx az;rw [Pts.drop_cons hx] at aQ;have BQ:=Pts.iu (mG hx);obtain ⟨u,us⟩:=t;refine iX (ch hx) ?_;refine cP ae0 (Fc ps (by omega)) ?_;refine cP YI (rD (pNames ps) e p.name (by omega) (iy hx)) ?_;refine br ?_ ?_<;>intro hl
    ·have hl:aK (pNames ps) e p.name≠0:=sU hl;refine cP iK (fp (0,0) m' _ p.name.a) ?_;have:fZ h ps depth m=((aK (pNames ps) e p.name,p.name.a),m'):=by grind [wrongPts]
     refine ⟨_,?_,rfl⟩;rw [this];exact ax
    ·have hl:aK (pNames ps) e p.name=0:=sU hl;simp only [wrongPts] at aQ;rw [af (by simp [hl])] at aQ;refine br ?_ ?_<;>intro hB
     ·rw [zIfP hB] at aQ;refine br ?_ ?_<;>intro k7
      ·have k7:¬ h.ay=7:=sU k7;refine cP ae1 (HA (.mk u us) (by omega)) ?_;refine br ?_ ?_<;>intro z
       ·have z:sameTy (.mk u us) cp=true:=by simpa [ak,k7] using z
        refine cP RX (ov p km (cL (.mk u us)) (cL cp) (by omega) (CV _ _ _ _ _) (CV _ _ _ _ _)) ?_;refine br ?_ ?_<;>intro q
        ·have q:cY p km=false:=by simpa [ak,k7,z] using q
         refine cP iK (fp (0,0) m' 19 p.name.a) ?_;rw [zIfP (by simp [q])] at aQ;refine ⟨_,?_,rfl⟩;rw [hF,aQ];exact ax
        ·have q:cY p km=true:=by simpa [ak,k7,z] using q
         rw [af (by simp [k7,z,q])] at aQ;exact rE ⟨_,by omega,e + 1,m',rfl,by omega,Fh,HD,aQ,rfl⟩ (wkM (wB1 (nxt az (by omega))))
       ·have z:sameTy (.mk u us) cp=false:=by simpa [ak,k7] using z
        refine cP iK (fp (0,0) m' 19 p.name.a) ?_;rw [zIfP (by simp [z])] at aQ;refine ⟨_,?_,rfl⟩;rw [hF,aQ];exact ax
      ·have k7:h.ay=7:=sU k7;refine cP iK (fp (0,0) m' 19 p.name.a) ?_;rw [zIfP (by simp [k7])] at aQ;refine ⟨_,?_,rfl⟩;rw [hF,aQ];exact ax
     ·rw [af (by simp [hB])] at aQ;refine br ?_ ?_<;>intro hw
      ·have hP:eN p=(20,p.name.a):=by grind [ak,eN]
       rw [zIfP (by rw [hP];simp),hP] at aQ;refine ⟨_,?_,rfl⟩;rw [hF,aQ];exact ax
      ·have hw:¬ (p.wide < 0∨64 < p.wide):=by simp [ak] at hw;omega
       have hpw:p.wt<=ps.wt:=by omega
       simp only [Ph.wt] at hpw;refine cP RW (ow p.label (by omega)) ?_;refine br ?_ ?_<;>intro hb
       ·have hb:(b9 p.label).1=0:=sU hb;have hP:eN p=bB p:=by simp only [eN,af hw,hb,ne_eq,not_true_eq_false,if_false]
        rw [hP] at aQ;refine cP ae2 (B9 p (cL (.mk u us)) (by omega)) ?_ (by repeat' (first | exact rfl | exact trivial | exact Or.inr (Or.inl ⟨_,rfl⟩) | exact Or.inr ⟨_,rfl⟩ | exact Or.inl ⟨rfl,rfl⟩ | exact Or.inl rfl | refine Or.inr ⟨_,_,rfl,Nat.zero_le _,rfl,?_⟩ | refine ⟨_,_,rfl,?_,?_⟩ | refine ⟨_,rfl,?_⟩ | exact congrArg DV.agg rfl| refine Or.inr (Or.inr (Or.inr ⟨_,_,rfl,?_⟩)) | exact Or.inl rfl | refine Or.inr ?_));refine br ?_ ?_<;>intro hc
        ·have hc:(bB p).1≠0:=sU hc;rw [zIfP hc] at aQ;refine ⟨_,?_,rfl⟩;rw [hF,aQ];exact ax
        ·have hc:(bB p).1=0:=sU hc;rw [af (by simp [hc])] at aQ;have JK:=ih (.mk u us) (depth + 1) m' (by omega) (by omega) (by omega) (by omega) Fh HD;have fh:=tS (.mk u us) (depth + 1) m' Fh;generalize wrong (.mk u us) (depth + 1) m'=r at JK fh aQ;obtain ⟨⟨fe,fa⟩,many⟩:=r;simp only at JK fh aQ;refine cP RM JK ?_ (by repeat' (first | exact rfl | exact trivial | exact Or.inr (Or.inl ⟨_,rfl⟩) | exact Or.inr ⟨_,rfl⟩ | exact Or.inl ⟨rfl,rfl⟩ | exact Or.inl rfl | refine Or.inr ⟨_,_,rfl,Nat.zero_le _,rfl,?_⟩ | refine ⟨_,_,rfl,?_,?_⟩ | refine ⟨_,rfl,?_⟩ | exact congrArg (fun z=>DV.v (.int .i64 z)) (wrap64 (by omega) (by omega))| refine Or.inr (Or.inr (Or.inr ⟨_,_,rfl,?_⟩)) | exact Or.inl rfl | refine Or.inr ?_));refine br ?_ ?_<;>intro hd
         ·have hd:fe≠0:=sU hd;rw [zIfP hd] at aQ;refine ⟨_,?_,rfl⟩;rw [hF,aQ];exact ax
         ·have hd:fe=0:=sU hd;subst hd;obtain ⟨h1,h2,h3⟩:=fh rfl;simp only [Prod.mk.injEq,true_and] at h1;subst h1;rw [af (by simp)] at aQ;exact rE ⟨_,by omega,e + 1,many,rfl,by omega,h2,h3,aQ,rfl⟩ (wkM (wB1 (nxt az (by omega))))
       ·have hb:¬ (b9 p.label).1=0:=sU hb;have hP:eN p=b9 p.label:=by simp only [eN,af hw];rw [zIfP hb]
        rw [hP,zIfP hb] at aQ;refine br ?_ ?_<;>intro hc
        ·refine ⟨_,?_,rfl⟩;rw [hF,aQ];exact ax
        ·exact (hb (sU hc)).elim
   ·have hge:e=ps.len:=by simp [aP] at hL;omega
    rw [hge,Pts.dK] at aQ;refine ⟨_,?_,rfl⟩;rw [hF,aQ];simp only [wrongPts];exact ax
theorem bU (e a:Int):aR prog 237 [.v (.int .i64 e),.v (.int .i64 a)] (Ft.d (e,a)):=by
 refine eG 8 [.cell 4 26] func237 rfl ntmps237 rfl fun _ _ _ _=>?_;exact ⟨_,ax,rfl⟩
noncomputable def iY (L:List ByteArray) (x:ByteArray) (a:Int):Ft:=if bM x=true then (if L.Nodup then (0,0) else (10,a)) else (9,a)
theorem xD (L:List ByteArray) (x:ByteArray) (a:Int) (hx:L[L.length - 1]? = some x) (hl:L.length<=1099511627776) (CA:x.size<=4611686018427387904) :
  aR prog 285 [.sl 1 (fQ L) none,.v (.int .i64 a)] (iY L x a).d:=by
 have hN:=cX L;have lk:=(gS hx).1;have hz:IntKind.i64.wrap (((fQ L).length:Int) - 1)=((L.length - 1:Nat):Int):=by rw [hN,wrap64 (by omega) (by omega)];omega
 refine eG 23 [.cell 4 26] func285 rfl ntmps285 rfl fun _ _ _ _=>?_;refine ⟨[.v (.string x)],⟨by rw [hz];omega,by rw [hz];exact iV hx⟩,?_⟩;refine cP Ki (iv x CA) ?_;refine br ?_ ?_<;>intro h
 ·have h:bM x=false:=sU h;refine cP eX (bU 9 a) ?_;refine ⟨_,?_,rfl⟩;rw [iY,af (by rw [h];decide)];exact ax
 ·have h:bM x=true:=sU h;refine bZ RR rfl (si L hl) ax (fun r hr=>?_);obtain ⟨z,rfl,hz⟩:=hr;refine br ?_ ?_<;>intro h2
  ·have h2:0<=z:=sU h2;refine cP eX (bU 10 a) ?_;refine ⟨_,?_,rfl⟩;rw [iY,zIfP h,af (hz.1 h2)];exact ax
  ·have h2:¬ 0<=z:=sU h2;refine ⟨_,?_,rfl⟩;rw [iY,zIfP h,zIfP (Classical.byContradiction fun hn=>h2 (hz.2 hn))];exact ax
theorem Kq {l:List Wd} {e:Nat} {x:Wd} (h:l[e]? = some x):bA ((l.map fun w=>(⟨w.s,0⟩:Wd)).take e) ++ [[.v (.string x.s),.v (.int .i64 0)]]=bA ((l.map fun w=>(⟨w.s,0⟩:Wd)).take (e + 1)):=by
 have h2:(l.map fun w=>(⟨w.s,0⟩:Wd))[e]? = some ⟨x.s,0⟩:=by simp [h]
 exact CS h2
def jN (l:List Wd):List Wd:=l.map fun w=>⟨w.s,0⟩
abbrev Sw (l l':List Wd) (n e:Nat):St:=
 ⟨[bJ 6 2 (bA l),aC 7 ((bA l).length),aC 8 e,(3,⟨[],.sl 2 (bA l') (some 0)⟩)],[],[⟨n,34,2,none⟩]⟩
theorem zS (l:List Wd) (hs:wdsWt l<=1099511627776):aR prog 251 [.sl 2 (bA l) none] (.sl 2 (bA (jN l)) none):=by
 have hl:=bW l;refine eG 20 [.tmp 2] func251 rfl ntmps251 rfl fun _ _ _ _=>?_;refine aY (fun j st=>∃ e:Nat,st=Sw l ((jN l).take e) e e/\e<=l.length/\j=l.length - e) l.length (Sw l [] 0 0) (gw ⟨0,34,2,none⟩ rfl ⟨_,rfl⟩ rfl wA rfl rfl lW) ⟨0,by simp,by omega,by omega⟩ ?_;rintro j st ⟨e,rfl,he,rfl⟩;refine br ?_ ?_<;>intro h
 ·have az:e < l.length:=by simpa [aD] using h
  obtain ⟨w,hw⟩:=gX az;refine ⟨jK w,⟨by omega,bn hw⟩,?_⟩;refine ⟨by simp [aD,jN];omega,⟨by simp [aD,jN,maxLen];omega,by simp [aD,jN];omega⟩,?_⟩;refine ⟨Sw l ((jN l).take (e + 1)) (e + 1) (e + 1),(wkM (wB2 (nxt az (by omega)) (Kq hw))),l.length - (e + 1),by omega,e + 1,rfl,by omega,rfl⟩
 ·have hge:e=l.length:=by
   have:=h;simp [aD] at this;omega
  rw [hge,List.take_of_length_le (by simp [jN])];exact ⟨_,ax,rfl⟩
abbrev zT (l:List Wd) (e:Nat):St:=
 ⟨[bJ 13 2 (bA l),aC 14 ((bA l).length),aJ 2 0,aC 15 e],[[.v (.int .i64 0),.v (.int .i64 0)]],[]⟩
theorem j4 (l:List Wd) (hs:wdsWt l<=1099511627776) :
  aR prog 327 [.sl 2 (bA l) none] (b9 l).d:=by
 have qJ:=bW l;refine eG 28 [.cell 2 26] func327 rfl ntmps327 rfl fun _ _ _ _=>?_;refine br ?_ ?_<;>intro h
 ·have az:32 < l.length:=by simp [aD] at h;omega
  obtain ⟨x,hx⟩:=gX az;have:b9 l=(8,x.a):=by simp [b9,Nat.not_le.2 az,hx]
  refine ⟨jK x,⟨by omega,bn hx⟩,?_⟩;refine cP eX (bU 8 x.a) ?_;refine ⟨_,?_,rfl⟩;rw [this];exact ax
 ·have fO:l.length<=32:=by simp [aD] at h;omega
  refine aY (fun j st=>∃ e:Nat,st=zT l e/\e<=l.length/\badWd l=badWd (l.drop e)/\j=l.length - e) l.length
   (zT l 0) (wkM wB) ⟨0,rfl,by omega,rfl,by omega⟩ ?_
  rintro j st ⟨e,rfl,he,aQ,rfl⟩;refine br ?_ ?_<;>intro hL
  ·have az:e < l.length:=by simpa [aD] using hL
   obtain ⟨x,hx⟩:=gX az;rw [drop_cons hx] at aQ;have CA:=jJ (mG hx);refine ⟨jK x,⟨by omega,bn hx⟩,?_⟩;refine cP Ki (iv x.s (by omega)) ?_;refine br ?_ ?_<;>intro hN
   ·have hN:bM x.s=false:=sU hN;have:b9 l=(9,x.a):=by simp [b9,fO,aQ,badWd,hN]
    refine cP eX (bU 9 x.a) ?_;refine ⟨_,?_,rfl⟩;rw [this];exact ax
   ·have hN:bM x.s=true:=sU hN;refine ⟨zT l (e + 1),(wkM (wB1 (nxt az (by omega)))),l.length - (e + 1),by omega,e + 1,rfl,by omega,?_,rfl⟩;rw [aQ];simp [badWd,hN]
  ·have hge:e=l.length:=by simp [aD] at hL;omega
   have:b9 l=(0,0):=by simp [b9,fO,aQ,hge,badWd]
   refine ⟨_,?_,rfl⟩;rw [this];exact ax
theorem Fi (p:Ph) (tl:List DV) (t:Ty) (gf:tl=cL t) (hs:p.wt<=1099511627776) :
  aR prog 328 [.agg (kv p tl)] (bB p).d:=by
 subst gf;obtain ⟨u,us⟩:=t;simp only [Ph.wt] at hs;refine eG 55 [.cell 2 26] func328 rfl ntmps328 rfl fun _ _ _ _=>?_;refine br ?_ ?_<;>intro h0
 ·have h0:p.ck=0:=of_decide_eq_true h0;refine br ?_ ?_<;>intro h1
  ·have:bB p=(19,p.name.a):=by grind [ak,aD,bB]
   refine cP eX (bU 19 p.name.a) ?_;refine ⟨_,?_,rfl⟩;rw [this];exact ax
  ·have fX:p.cl=[]:=by
    simp [ak,aD] at h1;exact h1.2
   have:bB p=(0,0):=by grind [ak,aD,bB]
   have h00:b9 p.cl=(0,0):=by rw [fX];simp [b9,badWd]
   refine cP Ht (j4 p.cl (by omega)) ?_;refine ⟨_,?_,rfl⟩;rw [this,<- h00];exact ax
 have h0:¬ p.ck=0:=of_decide_eq_false h0;refine br ?_ ?_<;>intro h1
 ·have h1:p.ck=1:=of_decide_eq_true h1;refine br ?_ ?_<;>intro h2
  ·have:bB p=(20,p.ca):=by grind [pickB_and,bB]
   refine cP eX (bU 20 p.ca) ?_;refine ⟨_,?_,rfl⟩;rw [this];exact ax
  ·have:bB p=b9 p.cl:=by grind [pickB_and,bB]
   refine cP Ht (j4 p.cl (by omega)) ?_;refine ⟨_,?_,rfl⟩;rw [this];exact ax
 have h1:¬ p.ck=1:=of_decide_eq_false h1;refine br ?_ ?_<;>intro h3
 ·have h3:p.ck=2:=of_decide_eq_true h3;refine br ?_ ?_<;>intro h2
  ·have:bB p=(20,p.ca):=by grind [pickB_and,bB]
   refine cP eX (bU 20 p.ca) ?_;refine ⟨_,?_,rfl⟩;rw [this];exact ax
  ·have:bB p=b9 p.cl:=by grind [pickB_and,bB]
   refine cP Ht (j4 p.cl (by omega)) ?_;refine ⟨_,?_,rfl⟩;rw [this];exact ax
 have h3:¬ p.ck=2:=of_decide_eq_false h3;refine br ?_ ?_<;>intro h4
 ·have h4:p.ck=3:=of_decide_eq_true h4;refine br ?_ ?_<;>intro h2
  ·have:bB p=(20,p.ca):=by grind [pickB_and,bB]
   refine cP eX (bU 20 p.ca) ?_;refine ⟨_,?_,rfl⟩;rw [this];exact ax
  ·have:bB p=b9 p.cl:=by grind [pickB_and,bB]
   refine cP Ht (j4 p.cl (by omega)) ?_;refine ⟨_,?_,rfl⟩;rw [this];exact ax
 have h4:¬ p.ck=3:=of_decide_eq_false h4;have:bB p=(14,p.ca):=by grind [bB]
 refine cP eX (bU 14 p.ca) ?_;refine ⟨_,?_,rfl⟩;rw [this];exact ax
theorem Sy (w:World) (x y:Operand) (vs vs':Array Value):(eqGuard .neq 34 x y (.agg vs) (.agg vs')).run prog w = .ok () w:=by
 have h:prog.eqGuardType prog.depth 34=false:=by kernel_rfl
 simp [eqGuard,run_program,h]
theorem aa0 (a b:ByteArray) (p q:Int) (w:World):(binOp .neq 34 (.agg #[.string a,.int .i64 p]) (.agg #[.string b,.int .i64 q])).run prog w = .ok (.bool (!(decide (a=b) && decide (p=q)))) w:=by
 have hf:prog.underlying 34=some (.struct (prog.fieldsOf 34)):=by simp [Program.fieldsOf,Tryz.underlying34]
 have BW:(prog.fieldsOf 34).toList=[⟨ "Name",9,0,false, "", "",0⟩,⟨ "At",3,1,false, "", "",16⟩]:=by simp [Program.fieldsOf,Tryz.underlying34]
 have hs:prog.stoodInHeld 34=false:=by kernel_rfl
 have hm:∃ d,Op.maxDepth=d + 1 + 1:=⟨Op.maxDepth - 2,by decide⟩;obtain ⟨d,hm⟩:=hm
 have he:(Op.equal 34 (.agg #[.string a,.int .i64 p]) (.agg #[.string b,.int .i64 q])).run prog w = .ok (decide (a=b) && decide (p=q)) w:=by
  unfold Op.equal;rw [hm,run_equalIn_struct w (d + 1) 34 _ _ hf hs,BW]
  have e1:(a.toList == b.toList)=decide (a=b):=by
   rw [ByteArray.toList_eq,ByteArray.toList_eq];by_cases h:a=b
   ·subst h;simp
   ·have:¬ a.data=b.data:=fun e=>h (ByteArray.ext e);simp [h,this]
  have q9:∀ cs:Array Value,∀ off v,cs[off]? = some v->(part 9 cs off).run prog w = .ok v w:=fun cs off v h=>by
   simp [part,Tryz.isAgg9,h]
  have q3:∀ cs:Array Value,∀ off v,cs[off]? = some v->(part 3 cs off).run prog w = .ok v w:=fun cs off v h=>by
   simp [part,Tryz.isAgg3,h]
  simp only [Op.eqFields,ne_eq,String.reduceEq,not_false_eq_true,if_true,Sem.run_bind,q9 #[.string a,.int .i64 p] 0 (.string a) rfl,q9 #[.string b,.int .i64 q] 0 (.string b) rfl,Result.andThen_ok,run_equalIn_string w d 9 a b Tryz.underlying9,e1];by_cases h:a=b
  ·simp only [h,decide_true,Bool.not_true,Bool.false_eq_true,if_false,Sem.run_bind,q3 #[.string b,.int .i64 p] 1 (.int .i64 p) rfl,q3 #[.string b,.int .i64 q] 1 (.int .i64 q) rfl,Result.andThen_ok,run_equalIn_int w d 3 .i64 .i64 p q Tryz.underlying3];by_cases h2:p=q<;>simp [h2,Sem.run_pure]
  ·simp [h,Sem.run_pure]
 show ((do let r <- Op.equal 34 _ _;pure (Value.bool !r)):Sem Value).run prog w=_;simp only [Sem.run_bind,he,Result.andThen_ok,Sem.run_pure]
theorem Ww (x y:Operand) (a b:Wd):EJ prog .neq x y 34 (jK a) (jK b) (!(decide (a.s=b.s) && decide (a.a=b.a))):=
 ⟨[.string a.s,.int .i64 a.a],[.string b.s,.int .i64 b.a],rfl,rfl,fun w=>⟨Sy w x y _ _,aa0 a.s b.s a.a b.a w⟩⟩
def eqWds:List Wd->List Wd->Bool
 | [],[]=>true
 | x :: r,y :: s=>(decide (x.s=y.s) && decide (x.a=y.a)) && eqWds r s
 | _,_=>false
theorem CZ:∀ {a b:List Wd},a.length≠b.length->eqWds a b=false
 | [],[],h=>(h rfl).elim
 | [],_ :: _,_=>rfl
 | _ :: _,[],_=>rfl
 | x :: r,y :: s,h=>by
  simp only [eqWds];rw [CZ (a:=r) (b:=s) (sU h),Bool.and_false]
theorem xE:∀ a b:List Wd,eqWds (jN a) (jN b)=sameWds a b
 | [],[]=>rfl
 | [],_ :: _=>rfl
 | _ :: _,[]=>rfl
 | x :: r,y :: s=>by
  have:=xE r s
  grind [jN,eqWds,sameWds]
abbrev Sz (a b:List Wd) (e:Nat):St:=
 ⟨[bJ 0 2 (bA a),bJ 1 2 (bA b),aC 12 ((bA a).length),aC 13 e],[],[]⟩
theorem HE (a b:List Wd) (hs:a.length<=1099511627776) :
  aR prog 89 [.sl 2 (bA a) none,.sl 2 (bA b) none] (.v (.bool (eqWds a b))):=by
 refine eG 26 [.tmp 4] func89 rfl ntmps89 rfl fun _ _ _ _=>?_;refine br ?_ ?_<;>intro h
 ·have bF:a.length≠b.length:=by have:=h;simp [aD] at this;omega
  exact congrArg (fun b=>DV.v (.bool b)) (CZ bF).symm
 ·have hl:a.length=b.length:=by have:=h;simp [aD] at this;omega
  refine aY (fun j st=>∃ e:Nat,st=Sz a b e/\e<=a.length/\eqWds a b=eqWds (a.drop e) (b.drop e)/\j=a.length - e) a.length
   (Sz a b 0) (wkM wB) ⟨0,rfl,by omega,rfl,by omega⟩ ?_
  rintro j st ⟨e,rfl,he,aQ,rfl⟩;refine br ?_ ?_<;>intro h
  ·have az:e < a.length:=by simpa [aD] using h
   obtain ⟨x,hx⟩:=gX az;obtain ⟨y,hy⟩:∃ y,b[e]? = some y:=⟨_,gE (hl ▸ az)⟩;rw [drop_cons hx,drop_cons hy] at aQ;refine dI ?_;refine ⟨jK x,⟨by omega,bn hx⟩,jK y,⟨by omega,bn hy⟩,_,Ww _ _ x y,?_⟩;refine br ?_ ?_<;>intro h
   ·have bF:(decide (x.s=y.s) && decide (x.a=y.a))=false:=by grind
    refine (dq ?_:);rw [aQ];simp only [eqWds,bF,Bool.false_and]
   ·have bF:(decide (x.s=y.s) && decide (x.a=y.a))=true:=by grind
    refine ⟨Sz a b (e + 1),(wkM (wB1 (nxt az (by omega)))),a.length - (e + 1),by omega,e + 1,rfl,by omega,?_,rfl⟩;rw [aQ];simp only [eqWds,bF,Bool.true_and]
  ·have hge:e=a.length:=by have:=h;simp [aD] at this;omega
   refine (dq ?_:);rw [aQ,hge,hl];simp [eqWds];rw [<- hl];simp [eqWds]
theorem iZ (a b:List Wd) (ha:wdsWt a<=1099511627776) (hb:wdsWt b<=1099511627776) :
  aR prog 170 [.sl 2 (bA a) none,.sl 2 (bA b) none] (.v (.bool (sameWds a b))):=by
 have hl:=bW a;refine eG 10 [.tmp 4] func170 rfl ntmps170 rfl fun _ _ _ _=>?_;refine cP YU (zS a ha) ?_;refine cP YU (zS b hb) ?_;refine cP en89 (HE (jN a) (jN b) (by simp [jN];omega)) ?_;refine (dq ?_:);exact xE a b
def eqPts (F:Ph->Ty->Ph->Ty->Bool):Pts->Pts->Bool
 | .nil,.nil=>true
 | .cons p t r,.cons q u s=>F p t q u && eqPts F r s
 | _,_=>false
theorem C0 {F:Ph->Ty->Ph->Ty->Bool}:∀ {a b:Pts},a.len≠b.len->eqPts F a b=false
 | .nil,.nil,h=>(h rfl).elim
 | .cons p t r,.cons q u s,h=>by
  simp only [eqPts];rw [C0 (a:=r) (b:=s) (by simpa [Pts.len] using h),Bool.and_false]
 | .nil,.cons _ _ _,_=>rfl
 | .cons _ _ _,.nil,_=>rfl
def dG (p:Ph) (t:Ty) (q:Ph) (u:Ty):Bool:=decide (p.name.s=q.name.s) && cY p q && sameTy t u
theorem zU:∀ a b:Pts,eqPts dG a b=samePts a b
 | .nil,.nil=>by simp [eqPts,samePts]
 | .cons p t r,.cons q u s=>by simp only [eqPts,samePts,dG,zU r s]
 | .nil,.cons _ _ _=>by simp [eqPts,samePts]
 | .cons _ _ _,.nil=>by simp [eqPts,samePts]
abbrev SA (a b:Pts) (g e:Nat):St:=
 ⟨[bJ 1 18 (gm b),(2,⟨[],.fn g [] []⟩),bJ 15 18 (gm a),aC 16 ((gm a).length),aC 17 e],[],[]⟩
theorem HF (g:Nat) (gY:Enters prog g) (F:Ph->Ty->Ph->Ty->Bool) (a b:Pts) (hs:a.wt<=1099511627776)
  (hF:∀ (e:Nat) p t q u,a.toList[e]? = some (p,t)->b.toList[e]? = some (q,u)->aR prog g [.agg (kv p (cL t)),.agg (kv q (cL u))] (.v (.bool (F p t q u)))) :
  aR prog 171 [.sl 18 (gm a) none,.sl 18 (gm b) none,.fn g [] []] (.v (.bool (eqPts F a b))):=by
 have Yq:=a.gP;refine eG 32 [.tmp 6] func171 rfl ntmps171 rfl fun _ _ _ _=>?_;refine br ?_ ?_<;>intro h
 ·have bF:a.len≠b.len:=by have:=h;simp [aP] at this;omega
  exact congrArg (fun b=>DV.v (.bool b)) (C0 bF).symm
 ·have hl:a.len=b.len:=by have:=h;simp [aP] at this;omega
  refine aY (fun j st=>∃ e:Nat,st=SA a b g e/\e<=a.len/\eqPts F a b=eqPts F (a.drop e) (b.drop e)/\j=a.len - e) a.len
   (SA a b g 0) (wkM wB) ⟨0,rfl,by omega,rfl,by omega⟩ ?_
  rintro j st ⟨e,rfl,he,aQ,rfl⟩;refine br ?_ ?_<;>intro h
  ·have az:e < a.len:=by simpa [aP] using h
   obtain ⟨p,t,hx⟩:=Pts.fx az;obtain ⟨q,u,hy⟩:=Pts.fx (hl ▸ az);rw [Pts.drop_cons hx,Pts.drop_cons hy] at aQ;have QR:=hF e p t q u hx hy;obtain ⟨t,ts⟩:=t;obtain ⟨u,us⟩:=u;refine iX (ch hx) ?_;refine iX (ch hy) ?_;refine cP gY QR ?_;refine br ?_ ?_<;>intro h
   ·have bF:F p (.mk t ts) q (.mk u us)=false:=sU h;refine (dq ?_:);rw [aQ];simp only [eqPts,bF,Bool.false_and]
   ·have bF:F p (.mk t ts) q (.mk u us)=true:=sU h;refine ⟨SA a b g (e + 1),(wkM (wB1 (nxt az (by omega)))),a.len - (e + 1),by omega,e + 1,rfl,by omega,?_,rfl⟩;rw [aQ];simp only [eqPts,bF,Bool.true_and]
  ·have hge:e=a.len:=by have:=h;simp [aP] at this;omega
   refine (dq ?_:);rw [aQ,hge,Pts.dK,hl,Pts.dK];simp [eqPts]
theorem pN (p q:Ph) (t u:Ty) (hp:p.wt<=1099511627776) (hq:q.wt<=1099511627776)
  (ht:aR prog 91 [.agg (cL t),.agg (cL u)] (.v (.bool (sameTy t u)))) :
  aR prog 172 [.agg (kv p (cL t)),.agg (kv q (cL u))] (.v (.bool (dG p t q u))):=by
 simp only [Ph.wt] at hp hq;obtain ⟨th,tps⟩:=t;obtain ⟨uh,ups⟩:=u;refine eG 71 [.tmp 4] func172 rfl ntmps172 rfl fun _ _ _ _=>?_
 have e0:dG p (.mk th tps) q (.mk uh ups)=(((decide (p.name.s=q.name.s) && (p.bare == q.bare)) && decide (p.wide=q.wide)) && sameWds p.label q.label && ((decide (p.ck=q.ck) && decide (p.cn=q.cn)) && sameWds p.cl q.cl) && sameTy (.mk th tps) (.mk uh ups)):=by
  simp only [dG,cY,Bool.and_assoc]
 rw [e0];refine br ?_ ?_<;>intro hA
 ·simp only [pickB_and] at hA;refine cP MS (iZ p.label q.label (by omega) (by omega)) ?_;refine br ?_ ?_<;>intro hB
  ·simp only [pickB_and] at hB;refine cP MS (iZ p.cl q.cl (by omega) (by omega)) ?_;refine br ?_ ?_<;>intro hC
   ·refine cP en91 ht ?_;refine (dq ?_:);simp only [pickB_and,Bool.true_and,Bool.and_true] at hC ⊢
    simp_all
   ·refine (dq ?_:);simp only [pickB_and,Bool.true_and,Bool.and_true] at hC ⊢
    simp_all
  ·simp only [pickB_and] at hB;refine br ?_ ?_<;>intro hC
   ·exfalso;simp [pickB_and] at hC
   ·refine (dq ?_:)
    simp_all
 ·simp only [pickB_and,beq_true] at hA;refine br ?_ ?_<;>intro hB
  ·refine cP MS (iZ p.cl q.cl (by omega) (by omega)) ?_;refine (dq ?_:);rw [hA];rfl
  ·refine (dq ?_:);rw [hA];rfl
theorem C7:∀ (n:Nat) (a b:Ty),a.wt<=n->a.wt<=1099511627776->b.wt<=1099511627776 ->
  aR prog 91 [.agg (cL a),.agg (cL b)] (.v (.bool (sameTy a b)))
 | 0,a,b,hn,_,_=>by have:=a.kj;omega
 | n + 1,.mk h ps,.mk k qs,hn,c7,afI=>by
  have ih:=C7 n;simp only [Ty.wt,Hd.wt] at hn c7 afI
  have hE:aR prog 171 [.sl 18 (gm ps) none,.sl 18 (gm qs) none,.fn 172 [] []] (.v (.bool (samePts ps qs))):=by
   rw [<- zU];refine HF 172 RU dG ps qs (by omega) fun e p t q u hx hy=>?_;have s7:=Pts.iu (mG hx);have rk:=Pts.iu (mG hy);exact pN p q t u (by omega) (by omega) (ih t u (by omega) (by omega) (by omega))
  refine eG 53 [.tmp 4] func91 rfl ntmps91 rfl fun _ _ _ _=>?_;refine br ?_ ?_<;>intro hA
  ·simp [ak] at hA;obtain ⟨⟨⟨⟨e1,e2⟩,e3⟩,e4⟩,e5⟩:=hA;refine cP MS (iZ h.ag k.ag (by omega) (by omega)) ?_;refine br ?_ ?_<;>intro hB
   ·refine (dq ?_:);simp [ak,e1,e2,e3,e4,e5] at hB;simp [sameTy,mD,hB]
   ·simp [ak,e1,e2,e3,e4,e5] at hB;refine cP aeB hE ?_;refine (dq ?_:);simp [sameTy,mD,e1,e2,e3,e4,e5,hB]
  ·refine (dq ?_:);simp [ak] at hA;simp only [sameTy,mD]
   grind
theorem zV (a b:Ty) (ha:a.wt<=1099511627776) (hb:b.wt<=1099511627776):aR prog 91 [.agg (cL a),.agg (cL b)] (.v (.bool (sameTy a b))):=C7 _ a b (zLeR _) ha hb
def zW (h:Hd) (ps:Pts):Bool:=
 (((((decide (h.ay=2) || (decide (h.lo=0) && decide (h.hi=0))) && ((decide (h.ay=3) || decide (h.ay=5)) || decide (h.most=0))) && (decide (ps.len=0) || (decide (5<=h.ay) && decide (h.ay<=8)))) &&
  (decide (h.ag.length=0) || decide (h.ay=4))) && (decide (h.name.s=aM) || decide (h.ay=9)))
theorem O8 (h:Hd) (ps:Pts):aR prog 238 [.agg (cL (.mk h ps))] (.v (.bool (zW h ps))):=by
 have l1:(((gm ps).length:Int)=0)=(ps.len=0):=by rw [aP];exact propext (by omega)
 have l2:(((bA h.ag).length:Int)=0)=(h.ag.length=0):=by rw [aD];exact propext (by omega)
 have he:(⟨#[]⟩:ByteArray)=aM:=rfl;refine eG 67 [.tmp 2] func238 rfl ntmps238 rfl fun _ _ _ _=>?_;refine br ?_ ?_<;>intro k2
 ·have k2:h.ay=2:=of_decide_eq_true k2;refine (dq ?_:);rw [Bool.eq_iff_iff];simp [pickB_and,ak,zW,aP,aD,k2,he]
 have k2:¬ h.ay=2:=of_decide_eq_false k2;refine br ?_ ?_<;>intro k3
 ·have k3:h.ay=3:=of_decide_eq_true k3;refine br (fun _=>?_) (fun hf=>?_)
  ·refine (dq ?_:);rw [Bool.eq_iff_iff];simp [pickB_and,ak,zW,aP,aD,k3,he]
  ·exact absurd k3 (of_decide_eq_false hf)
 have k3:¬ h.ay=3:=of_decide_eq_false k3;refine br ?_ ?_<;>intro k5
 ·have k5:h.ay=5:=of_decide_eq_true k5;refine (dq ?_:);rw [Bool.eq_iff_iff];simp [pickB_and,ak,zW,aP,aD,k5,he]
 have k5:¬ h.ay=5:=of_decide_eq_false k5;refine (dq ?_:);rw [Bool.eq_iff_iff];simp [pickB_and,ak,zW,aP,aD,k2,k3,k5,he]
theorem Fj:∀ ps:Pts,samePts ps ps=true:=by
 have wr:∀ l:List Wd,sameWds l l=true:=by
  intro l
  induction l with
  | nil=>rfl
  | cons x r ih=>simp [sameWds,ih]
 have key:∀ n,(∀ t:Ty,t.wt<=n->sameTy t t=true)/\(∀ ps:Pts,ps.wt<=n->samePts ps ps=true):=by
  intro n
  induction n using Nat.strongRecOn with
  | _ n ih=>
   have hp:∀ ps:Pts,ps.wt<=n->(∀ t:Ty,t.wt + 256<=n->sameTy t t=true)->samePts ps ps=true:=by
    intro ps
    induction ps using Pts.rec (motive_1:=fun _=>True) with
    | mk=>trivial
    | nil=>intros;simp [samePts]
    | cons p t r _ ihr=>
     intro hw ht;simp only [Pts.wt,Ph.wt] at hw;simp only [samePts];rw [ht t (by omega),ihr (by omega) ht];simp [cY,wr]
   refine ⟨fun t ht=>?_,fun ps hps=>?_⟩
   ·obtain ⟨h,ps⟩:=t;simp only [Ty.wt,Hd.wt] at ht;simp only [sameTy,mD]
    grind
   all_goals grind
 exact fun ps=>(key ps.wt).2 ps (zLeR _)
theorem Nf (h:Hd) (ps:Pts):zW h ps=sameTy (.mk h ps) (mask (.mk h ps)):=by
 have wr:∀ l:List Wd,sameWds l l=true:=by
  intro l
  induction l with
  | nil=>rfl
  | cons x r ih=>simp [sameWds,ih]
 have wn:∀ l:List Wd,sameWds l []=decide (l.length=0):=by
  intro l;cases l<;>simp [sameWds]
 have pn:∀ l:Pts,samePts l .nil=decide (l.len=0):=by
  intro l;cases l<;>simp [samePts,Pts.len]
 have pr:=Fj ps;simp only [mask,sameTy,mD,ko];have e5:samePts ps (if 4 < h.ay/\h.ay < 9 then ps else .nil)=(decide (ps.len=0) || (decide (5<=h.ay) && decide (h.ay<=8))):=by grind
 have e6:sameWds h.ag (if h.ay=4 then h.ag else [])=(decide (h.ag.length=0) || decide (h.ay=4)):=by grind
 grind [zW]
theorem HG (p:Ph) (t:Ty) (hp:p.wt<=1099511627776):aR prog 286 [.agg (kv p (cL t))] (.v (.bool (dG p cp dP cp))):=by
 obtain ⟨th,tps⟩:=t;refine eG 8 [.tmp 2] func286 rfl ntmps286 rfl fun _ _ _ _=>?_;refine cP RU (pN p dP cp cp hp (by decide) (zV cp cp (by decide) (by decide))) ?_;exact (rfl:_=_)
def aF (l:List Wd):List ByteArray:=l.map fun w=>w.s
noncomputable def enumP (l:List Wd):Nat->Ft
 | 0=>(0,0)
 | e + 1=>
  if (enumP l e).1≠0 then enumP l e
  else match l[e]? with
   | some w=>iY (aF (l.take (e + 1))) w.s w.a
   | none=>(0,0)
theorem sj {l:List Wd} {e:Nat} (h:(enumP l e).1≠0):∀ d,enumP l (e + d)=enumP l e
 | 0=>rfl
 | d + 1=>by
  have ih:=sj h d;rw [<- Nat.add_assoc,enumP,ih,zIfP h]
theorem Fk {L:List ByteArray} {x:ByteArray} {a:Int} (h:(iY L x a).1=0):iY L x a=(0,0):=by
 unfold iY at *
 grind
theorem Kr {l:List Wd}:∀ {e:Nat},(enumP l e).1=0->enumP l e=(0,0)
 | 0,_=>rfl
 | e + 1,h=>by
  rw [enumP] at h ⊢
  grind [Fk]
theorem zX {l:List Wd} {e:Nat} {w:Wd} (h:(enumP l e).1=0) (hw:l[e]? = some w):enumP l (e + 1)=iY (aF (l.take (e + 1))) w.s w.a:=by
 rw [enumP,af (by rw [h];simp),hw]
noncomputable def pO (h:Hd):Ft:=
 if h.ag.length=0 then (15,h.cT) else if 64 < h.ag.length then (8,((h.ag[64]?).getD (⟨aM,0⟩:Wd)).a) else enumP h.ag h.ag.length
abbrev SB (h:Hd) (ps:Pts) (n e:Nat):St:=
 ⟨[aJ 1 0,aJ 2 1,bJ 27 2 (bA h.ag),aC 28 ((bA h.ag).length),aC 29 e,(3,⟨[],.sl 1 (fQ (aF (h.ag.take e))) (some 0)⟩)],
  [cL (.mk h ps),[.v (.int .i64 0),.v (.int .i64 0)]],[⟨n,9,1,none⟩]⟩
theorem kP {l:List Wd} {e:Nat} {w:Wd} (h:l[e]? = some w):fQ (aF (l.take e)) ++ [[DV.v (.string w.s)]]=fQ (aF (l.take (e + 1))):=by
 rw [List.take_add_one,h];simp [fQ,aF]
theorem Ks (h:Hd) (ps:Pts) (hs:wdsWt h.ag<=1099511627776):aR prog 239 [.agg (cL (.mk h ps))] (pO h).d:=by
 have hl:=bW h.ag;refine eG 48 [.cell 2 26] func239 rfl ntmps239 rfl fun _ _ _ _=>?_;refine br ?_ ?_<;>intro h0
 ·have h0:h.ag.length=0:=by have:=h0;simp [aD] at this;simp [this]
  refine cP eX (bU 15 h.cT) ?_;refine ⟨_,?_,rfl⟩;rw [pO,zIfP h0];exact ax
 have h0:¬ h.ag.length=0:=by have:=h0;simp [aD] at this;simpa using this
 refine br ?_ ?_<;>intro h1
 ·have h1:64 < h.ag.length:=by have:=h1;simp [aD] at this;omega
  obtain ⟨x,hx⟩:∃ x,h.ag[64]? = some x:=⟨_,gE h1⟩;refine ⟨jK x,⟨by omega,bn hx⟩,?_⟩;refine cP eX (bU 8 x.a) ?_;refine ⟨_,?_,rfl⟩;rw [pO,af h0,zIfP h1,hx];exact ax
 have h1:¬ 64 < h.ag.length:=by have:=h1;simp [aD] at this;omega
 have hk:pO h=enumP h.ag h.ag.length:=by rw [pO,af h0,af h1]
 rw [hk];refine lI (fun j st=>∃ e:Nat,st=SB h ps e e/\e<=h.ag.length/\(enumP h.ag e).1=0/\j=h.ag.length - e) ⟨0,rfl,by omega,rfl,rfl⟩ (gw ⟨0,9,1,none⟩ rfl ⟨_,rfl⟩ rfl wA rfl rfl lW) ?_;rintro j st ⟨e,rfl,he,hz,rfl⟩;refine br ?_ ?_<;>intro hL
 ·have az:e < h.ag.length:=by simpa [aD] using hL
  obtain ⟨w,hw⟩:=gX az;have VB:=jJ (mG hw);have rF:=zX hz hw;have SC:(aF (h.ag.take (e + 1)))[(aF (h.ag.take (e + 1))).length - 1]? = some w.s:=by grind [aF]
  refine ⟨jK w,⟨by omega,bn hw⟩,?_⟩;refine ⟨by simp [cX,aF];omega,⟨by simp [cX,aF,maxLen];omega,by simp [cX,aF];omega⟩,?_⟩;have pz:=kP hw;have hsp:=xD (aF (h.ag.take (e + 1))) w.s w.a SC (by simp [aF];omega) (by omega);rw [<- pz,<- rF] at hsp;refine cP YZ hsp ?_;refine br ?_ ?_<;>intro hf
  ·have hf:(enumP h.ag (e + 1)).1≠0:=sU hf;refine ⟨_,?_,rfl⟩;have hst:=sj hf (h.ag.length - (e + 1));rw [show e + 1 + (h.ag.length - (e + 1))=h.ag.length by omega] at hst;rw [hst];exact ax
  ·have hf:(enumP h.ag (e + 1)).1=0:=sU hf;refine ⟨SB h ps (e + 1) (e + 1),(wkM (wB2 (nxt az (by omega)) pz)),h.ag.length - (e + 1),by omega,e + 1,rfl,by omega,hf,rfl⟩
 ·have hge:e=h.ag.length:=by
   have:=hL;simp [aD] at this;omega
  subst hge;have hst:=Kr hz;refine ⟨_,?_,rfl⟩;rw [hst];exact ax
def afJ (t:Ty) (depth m:Int) (r:DV) (os:List (List DV)) (_:List TkE):Prop:=
 r=(wrong t depth m).1.d/\∃ z:Int,os=[[.v (.int .i64 z)]]/\((wrong t depth m).1.1=0->z=(wrong t depth m).2)
theorem aa1 {t:Ty} {depth m:Int}:∀ r os tk,afJ t depth m r os tk->clB 0 0 r=true/\∀ va∈os,clB.clL 0 0 va=true:=by
 rintro r os tk ⟨rfl,z,rfl,_⟩;refine ⟨rfl,fun va h=>?_⟩;simp only [List.mem_singleton] at h;subst h;rfl
theorem O9 (t:Ty) (hc:Ev prog 156 [.loc 0 0,.agg (cL t),.v (.int .i64 1)] [[.v (.int .i64 0)]] [] (afJ t 1 0)) :
  aR prog 84 [.agg (cL t)] (wrong t 1 0).1.d:=by
 obtain ⟨h,ps⟩:=t;refine eG 9 [.cell 2 26] func84 rfl ntmps84 rfl fun _ _ _ _=>?_;refine oq RT rfl rfl ax ax hc aa1 (fun r va hr=>?_);obtain ⟨rfl,z,hz,_⟩:=hr;simp only [List.cons.injEq,and_true] at hz;subst hz;exact ⟨_,ax,rfl⟩
theorem wr (z:Int) (h1 : -9223372036854775808<=z) (h2:z<=9223372036854775807):IntKind.i64.wrap z=z:=by
 rw [IntKind.wrap_i64];omega
abbrev ba (l:List UInt8):ByteArray:=⟨l.toArray⟩
def tx (s:ByteArray):List UInt8:=s.data.toList
theorem pP {s:ByteArray} {l:List UInt8} (h:tx s=l):s=ba l:=by
 subst h;apply ByteArray.ext;simp [tx]
theorem aa2 (s t:ByteArray):tx (s ++ t)=tx s ++ tx t:=by simp [tx]
theorem C8 (l:List UInt8):tx (ba l)=l:=by simp [tx]
theorem afK (s:ByteArray):ba (tx s)=s:=(pP rfl).symm
theorem bd (s:ByteArray):(tx s).length=s.size:=by simp [tx]
theorem Ng (l:List UInt8):(ba l).size=l.length:=rfl
theorem Fl {n m:Nat} {Zi:List TkE} {x y:ByteArray} (h:x=y):We n m Zi (.v (.string x)) (.v (.string y)):=.inl ⟨by rw [h],rfl⟩
end Go.Proofs.YtfdedoiiahbnnaaGreat
set_option maxRecDepth 100000
namespace Go.Proofs
open Go.Shelf
end Go.Proofs
namespace Go.Proofs.YtfdedoiiahbnnaaGreat
open Go Go.RowKit Dv Go.Proofs.Tryz
theorem C9 {P:Program} {f:FuncId} {args:List DV} {d:DV}
  (h:∀ (E:En) (w:World) (vs:List Value),Env E [] w->RvL E args vs->Calls P f vs.toArray w fun e w'=>∃ v,e = .returned v/\Rv E d v/\Below w.heap.size w w'):aR P f args d:=by
 intro E w vs hE jt hv;refine (h E w vs hE hv).mono ?_;rintro e w' ⟨v,rfl,hr,hb⟩;exact ⟨v,rfl,⟨hb.os,hb.tape,hb.output,hb.size,fun k hk _=>hb.block k hk⟩,fun hf=>(by cases hf),d,[],E,hE.iU hb.block,rfl,rfl,Nw.refl hE,hr,rfl⟩
end Go.Proofs.YtfdedoiiahbnnaaGreat
namespace Go.Proofs.YtfdedoiiahbnnaaGreat
namespace Dv
open Go Go.RowKit
def Wx (w:World):En:=⟨fun a=>w.cell? a,[],[],[]⟩
theorem Wy (w:World):Env (Wx w) [] w where
 len:=rfl
 tl:=rfl
 eQ:=by simp
 inj:=List.nodup_nil
 sub:=fun x u hx=>hx
 pc:=by simp [Wx]
 dh:=by simp [Wx]
 jY:=by simp [Wx]
section
variable {H:Type} {enc:TypeId × Value->H} {P:Program} {w:World} {sp:Nat->Bool} {held:Bool} {S:List TypeId} {bk:DataW H->Nat}
end
end Dv
end Go.Proofs.YtfdedoiiahbnnaaGreat
namespace Go.Proofs.YtfdedoiiahbnnaaGreat
namespace Dv
open Go Go.RowKit Go.ChangeShapes Go.WideShapes Go.ChangeAt
open Go.ChangeMaps (open_string shut_string)
section
variable {H:Type} {enc:TypeId × Value->H} {P:Program}
theorem rG (hl:laidOutB P=true) {W W':World} (hb:Below W.heap.size W W'):∀ {ts:List TypeId} {vs:List Value} {ds:List (DataW H)} {ps:List MemPlace},(∀ t∈ts,P.readableRec t=true/\t < P.types.size) ->
  DataW.TrodAll enc P W 0 (fun _=>true) true ts vs ds ps->(∀ x∈ps,x.block < W.heap.size)->DataW.TrodAll enc P W' 0 (fun b=>decide (b < W.heap.size)) true ts vs ds ps
 | [],[],[],_,_,h,_=>h
 | t :: ts,v :: vs,d :: ds,_,ht,⟨p,q,h1,h2,e⟩,az=>by
  subst e;obtain ⟨r1,r2⟩:=ht t (by simp);exact ⟨p,q,Below.trod hl r1 r2 h1 hb (fun x hx=>az x (List.mem_append_left _ hx)),rG hl hb (fun t tE=>ht t (by simp [tE])) h2 (fun x hx=>az x (List.mem_append_right _ hx)),rfl⟩
theorem law_post {f:Func} {s:ChangeSpec} {tb:TypeId} (hl:laidOutB P=true) (zm:f.resultTypes = #[tb]) (htb:P.underlying tb=some .bool) (hv:s.vars=[]) (hts:∀ t∈f.params.toList,P.readableRec t=true/\t < P.types.size)
  {W W':World} {args:Array Value} {ds gs:List (DataW H)} {before:List MemPlace} (hW:DataW.Whole enc P f.params.toList s.vars false W args.toList ds gs before) (s6:s.fn H ds={ results:=[.lit (.bool true)],args:=ds }) (hb:Below W.heap.size W W') :
  s.post enc P f false true false false W args (.bool true) W':=by
 have hW':=hW;obtain ⟨p,q,hA,hV,rfl,hfz,hnd⟩:=hW;rw [hv] at hV;obtain ⟨rfl,rfl⟩:=trodVars_none hV;refine ⟨ds,[],p ++ [],[],p,[],hW',?_,?_,?_,hb.frame _,fun h=>by cases h⟩
 ·rw [List.append_nil,s6,zm];exact trodAll_cons_mk (shut_bool htb _) trodAll_mk0
 ·rw [List.append_nil,s6];exact rG hl hb hts hA (fun x hx=>hW'.lt x (List.mem_append_left _ hx))
 ·rw [List.append_nil,s6,hv];rfl
theorem Kt {w w':World} {Φ:DV->List (List DV)->List TkE->Prop} {v:Value} (h:GR false (Wx w) w Φ v w'):Below w.heap.size w w':=by
 obtain ⟨hm,_⟩:=h;refine ⟨hm.os,hm.tape,hm.output,hm.size,fun k hk=>hm.block k hk ?_⟩;rintro (h1 | ⟨y,h1,_⟩)
 ·simp [Wx] at h1
 ·simp [Wx] at h1
theorem calls_law {f:FuncId} {args:List DV} {vs:List Value} {w:World} (h:aR P f args (.v (.bool true))) (hv:RvL (Wx w) args vs) :
  Calls P f vs.toArray w fun e w'=>e = .returned (.bool true)/\Below w.heap.size w w':=by
 refine (h (Wx w) w vs (Wy w) rfl hv).mono ?_;rintro e w' ⟨v,rfl,he⟩;have hb:=Kt he;obtain ⟨_,_,d,os,E,_,_,_,_,hr,rfl⟩:=he;unfold Rv at hr;rw [hr.1];exact ⟨rfl,hb⟩
variable {W:World} {base:Nat} {S:List TypeId} {bk:DataW H->Nat}
end
end Dv
end Go.Proofs.YtfdedoiiahbnnaaGreat
namespace Go.Proofs.YtfdedoiiahbnnaaGreat
open Go Go.RowKit Dv
theorem bulk_le {H:Type} {l:List (DataW H)} (hk:Rows.uptoSmall H l=true):Rows.uptoBulkAll l<=1048576:=of_decide_eq_true hk
theorem laid_out:laidOutB Tryz.prog=true:=by kernel_rfl
theorem own_knob:ownKnob Tryz.prog.godebug=none:=by kernel_rfl
end Go.Proofs.YtfdedoiiahbnnaaGreat
set_option maxRecDepth 100000
namespace Go.Proofs.YtfdedoiiahbnnaaGreat
open Go Go.RowKit Dv Go.Proofs.Tryz
def Pts.take:Nat->Pts->Pts
 | 0,_=>.nil
 | _ + 1,.nil=>.nil
 | e + 1,.cons p t r=>.cons p t (r.take e)
structure Sch where
 ae:List Wd
 order:List (Wd × Wd)
 types:List (Wd × Ty)
 root:Ty
def Nh (p:Wd × Wd):List DV:=[.v (.string p.1.s),.v (.int .i64 p.1.a),.v (.string p.2.s),.v (.int .i64 p.2.a)]
def ez (l:List (Wd × Wd)):List (List DV):=l.map Nh
def dNm (x:Wd × Ty):List DV:=.v (.string x.1.s) :: .v (.int .i64 x.1.a) :: cL x.2
def dNms (l:List (Wd × Ty)):List (List DV):=l.map dNm
def dt (s:Sch):List DV:=.sl 2 (bA s.ae) none :: .sl 4 (ez s.order) none :: .sl 11 (dNms s.types) none :: cL s.root
def prsWt:List (Wd × Wd)->Nat
 | []=>0
 | p :: r=>p.1.wt + p.2.wt + prsWt r
def nmsWt:List (Wd × Ty)->Nat
 | []=>0
 | p :: r=>p.1.wt + p.2.wt + nmsWt r
def Sch.wt (s:Sch):Nat:=wdsWt s.ae + prsWt s.order + nmsWt s.types + s.root.wt
theorem dn (l:List (Wd × Wd)):(ez l).length=l.length:=by simp [ez]
theorem bS (l:List (Wd × Ty)):(dNms l).length=l.length:=by simp [dNms]
theorem ja {l:List (Wd × Wd)} {j:Nat} {p:Wd × Wd} (h:l[j]? = some p):(ez l)[j]? = some (Nh p):=by simp [ez,h]
theorem dNms_get {l:List (Wd × Ty)} {j:Nat} {p:Wd × Ty} (h:l[j]? = some p):(dNms l)[j]? = some (dNm p):=by simp [dNms,h]
theorem kQ:∀ l:List (Wd × Wd),128 * l.length<=prsWt l
 | []=>zLeR _
 | p :: r=>by have:=kQ r;simp only [List.length_cons,prsWt,Wd.wt];omega
theorem nk:∀ l:List (Wd × Ty),256 * l.length<=nmsWt l
 | []=>zLeR _
 | p :: r=>by have:=nk r;have:=p.2.kj;simp only [List.length_cons,nmsWt,Wd.wt];omega
theorem jO:∀ {l:List (Wd × Ty)} {p:Wd × Ty},p∈l->p.1.wt + p.2.wt<=nmsWt l
 | x :: r,p,h=>by
  rcases eU h with h | h
  ·subst h;simp only [nmsWt];omega
  ·have:=jO h;simp only [nmsWt];omega
end Go.Proofs.YtfdedoiiahbnnaaGreat
namespace Go.Proofs.YtfdedoiiahbnnaaGreat
open Go Go.RowKit Dv
set_option maxRecDepth 100000
noncomputable abbrev PP:Program:=Tryz.pinned.checked.prog
def dft:OpenClaim:={ program := "",sum := "",func := "",spec := "" }
theorem and_ok {a b:Bool} (ha:a=true) (hb:b=true):(a && b)=true:=by rw [ha,hb];all_goals rfl
theorem g_laid:laidOutB PP=true:=laid_out
theorem g_maps:mapsRowed PP=true:=by kernel_rfl
theorem g_stops:(PP.stops == [])=true:=by kernel_rfl
theorem g_knobs:(PP.stopKnobs == [])=true:=by kernel_rfl
theorem g_heard:PP.stopsHeard=true:=by kernel_rfl
theorem g_enter:PP.mayEnter=true:=by kernel_rfl
theorem g_lifts:(dft.lifted == PP.liftsFinal)=true:=by kernel_rfl
theorem g_keys:(true == PP.plainKeys)=true:=by kernel_rfl
theorem g_make:(PP.make == some dft.make)=true:=by kernel_rfl
end Go.Proofs.YtfdedoiiahbnnaaGreat
set_option maxRecDepth 100000
namespace Go.Proofs.YtfdedoiiahbnnaaGreat
open Go Go.RowKit Dv Go.Proofs.Tryz
abbrev JN:List DV:=[.v (.int .i64 0),.v (.int .i64 0)]
structure gZ where
 k:Int
 a:Int
 e:Int
 s:ByteArray
 n:Int
def tT (t:gZ):List DV:=[.v (.int .i64 t.k),.v (.int .i64 t.a),.v (.int .i64 t.e),.v (.string t.s),.v (.int .i64 t.n)]
def er (l:List gZ):List (List DV):=l.map tT
theorem cq (l:List gZ):(er l).length=l.length:=List.length_map ..
theorem Pa {l:List gZ} {i:Nat} {t:gZ} (h:l[i]? = some t):(er l)[i]? = some (tT t):=by rw [er,List.getElem?_map,h];all_goals rfl
theorem fA (l:List gZ) (t:gZ):er l ++ [tT t]=er (l ++ [t]):=by simp [er]
def jb (a:Int):gZ:=⟨0,a,a,aM,0⟩
structure au where
 l:List gZ
 p:Nat
 d:Nat
 f:Ft
def aH (c:au):List DV:=[.sl 5 (er c.l) none,.v (.int .i64 c.p),.v (.int .i64 c.d),.v (.int .i64 c.f.1),.v (.int .i64 c.f.2)]
def au.aO (c:au):gZ:=if c.f.1=0 then c.l[c.p]?.getD (jb 0) else jb c.f.2
def au.step (c:au):au:=if c.aO.k=0 then c else { c with p:=c.p + 1 }
def au.is (c:au) (k:Int) (s:ByteArray):Bool:=decide (c.aO.k=k) && decide (c.aO.s=s)
def au.mh (c:au) (k:Int) (s:ByteArray):au:=if c.is k s then c.step else c
def au.tk (c:au) (k:Int):Bool:=!decide (c.aO.k=0) && decide (c.aO.k=k)
def au.BR (c:au) (k:Int):gZ:=if c.tk k then c.aO else ⟨0,0,0,aM,0⟩
def au.VC (c:au) (k:Int):au:=if c.tk k then c.step else c
def au.cM (c:au) (e a:Int):au:=if c.f.1=0/\e≠0 then { c with f:=(e,a) } else c
def au.fail (c:au) (e:Int):au:=c.cM e c.aO.a
def au.wrong (c:au):au:=c.fail (if c.aO.k=0 then 5 else 4)
def au.ah (c:au) (s:ByteArray):au:=if c.is 4 s then c.step else c.wrong
def au.enter (c:au):Bool:=!decide (c.d=24)
def au.sk (c:au):au:=if c.d=24 then c.fail 6 else { c with d:=c.d + 1 }
def au.leave (c:au):au:={ c with d:=c.d - 1 }
structure aw (c:au):Prop where
 lt:c.p < c.l.length
 nx:∀ (i:Nat) t,c.l[i]? = some t->t.k≠0->i + 1 < c.l.length
 len:c.l.length<=274877906944
 dl:c.d<=24
theorem aw.aO {c:au} (h:aw c) (h0:c.f.1=0):∃ t,c.l[c.p]? = some t/\c.aO=t:=by
 refine ⟨_,gE h.lt,?_⟩;rw [au.aO,zIfP h0,gE h.lt];rfl
theorem aw.step {c:au} (h:aw c):aw c.step:=by
 unfold au.step;split
 ·exact h
 ·rename_i hk;refine ⟨?_,h.nx,h.len,h.dl⟩;by_cases h0:c.f.1=0
  ·obtain ⟨t,h1,h2⟩:=h.aO h0;rw [h2] at hk;exact h.nx _ t h1 hk
  ·exfalso;rw [au.aO,af h0] at hk;exact hk rfl
theorem aw.cM {c:au} (h:aw c) (e a:Int):aw (c.cM e a):=by
 unfold au.cM;split
 ·exact ⟨h.lt,h.nx,h.len,h.dl⟩
 ·exact h
theorem aw.wrong {c:au} (h:aw c):aw c.wrong:=h.cM _ _
theorem aw.ah {c:au} (h:aw c) (s:ByteArray):aw (c.ah s):=by
 unfold au.ah;split
 ·exact h.step
 ·exact h.wrong
theorem aw.leave {c:au} (h:aw c):aw c.leave:=by
 have:=h.dl;exact ⟨h.lt,h.nx,h.len,by show c.d - 1<=24;omega⟩
theorem SD {n u:Int} (hu:1<=u):(n.tmod u < 0->n.tmod u + u=n % u)/\(¬ n.tmod u < 0->n.tmod u=n % u):=by
 have h1:=Int.emod_nonneg n (show u≠0 by omega);have h2:=Int.emod_lt_of_pos n (show 0 < u by omega);have h3:=Int.tmod_eq_emod (a:=n) (b:=u);have h4:(u.natAbs:Int)=u:=Int.natAbs_of_nonneg (by omega);rw [h3];split<;>omega
theorem aa3 {q u l:Int} (hu:1<=u) (hl:l<=0):q < l.tdiv u↔q * u < l:=by
 have h1:=Int.mul_tdiv_add_tmod l u;rw [Int.mul_comm] at h1;have hm:=SD (n:=l) (u:=u) hu;have h2:=Int.emod_nonneg l (show u≠0 by omega);have h3:=Int.emod_lt_of_pos l (show 0 < u by omega)
 have h4 : -u < l.tmod u/\l.tmod u<=0:=by
  have h5:(-l).tmod u = -(l.tmod u):=Int.neg_tmod ..;have h6:(-l).tmod u=(-l) % u:=Int.tmod_eq_emod_of_nonneg (by omega);have h7:=Int.emod_nonneg (-l) (show u≠0 by omega);have h8:=Int.emod_lt_of_pos (-l) (show 0 < u by omega);omega
 constructor
 ·intro h;have:=Int.mul_le_mul_of_nonneg_right (a:=q + 1) (b:=l.tdiv u) (c:=u) (by omega) (by omega);rw [Int.add_mul,Int.one_mul] at this;omega
 ·intro h;rcases Int.lt_or_le q (l.tdiv u) with h9 | h9
  ·exact h9
  ·have:=Int.mul_le_mul_of_nonneg_right (a:=l.tdiv u) (b:=q) (c:=u) (by omega) (by omega);omega
def fq (c:UInt8):Bool:=decide (48<=c.toNat) && decide (c.toNat<=57)
def digN:List UInt8->Nat
 | []=>0
 | c :: r=>if fq c=true then digN r + 1 else 0
def cd (l:List UInt8):Nat:=l.foldl (fun n c=>n * 10 + (c.toNat - 48)) 0
theorem qP:∀ l,digN l<=l.length
 | []=>zLeR _
 | c :: r=>by
  have:=qP r;rw [digN,List.length_cons];split<;>omega
theorem pQ:∀ (l:List UInt8) (c:UInt8),c∈l.take (digN l)->fq c=true
 | [],c,h=>by cases h
 | b :: r,c,h=>by
  rw [digN] at h;by_cases g:fq b=true
  ·rw [zIfP g,List.take_succ_cons,List.mem_cons] at h;rcases h with rfl | h
   ·exact g
   ·exact pQ r c h
  ·rw [af g] at h;cases h
theorem Pb (l:List UInt8) (c:UInt8):cd (l ++ [c])=cd l * 10 + (c.toNat - 48):=by simp [cd]
theorem zY (f:Nat->UInt8->Nat) (hf:∀ n c,n<=f n c):∀ (l:List UInt8) (n:Nat),n<=l.foldl f n
 | [],n=>zLeR _
 | c :: r,n=>Nat.le_trans (hf n c) (zY f hf r (f n c))
theorem Pc (l r:List UInt8):cd l<=cd (l ++ r):=by
 unfold cd;rw [List.foldl_append];exact zY _ (fun n c=>by omega) r _
theorem Da {l:List UInt8} {i:Nat} {c:UInt8} (h:l[i]? = some c):cd (l.take (i + 1))=cd (l.take i) * 10 + (c.toNat - 48):=by
 rw [List.take_add_one,h];exact Pb _ _
theorem Ni (l:List UInt8) (i:Nat):cd (l.take i)<=cd l:=by
 have:=Pc (l.take i) (l.drop i)
 rwa [List.take_append_drop] at this
def gn (l:List UInt8) (m:Bool):Int × Bool:=
 if m=true then (if cd l<=9223372036854775808 then (-(cd l:Nat),true) else (0,false))
 else (if cd l<=9223372036854775807 then ((cd l:Nat),true) else (0,false))
def takeN (s:ByteArray) (i:Nat):Int × Int × Int × Int:=
 let m:Bool:=match s.data.toList[i]? with | some c=>decide (c.toNat=45) | none=>false
 let a:Nat:=if m=true then i + 1 else i
 let k:=digN (s.data.toList.drop a)
 if k=0/\a=s.size then (0,0,5,a)
 else if k=0 then (0,0,19,a)
 else if (s.data.toList[a]?).map UInt8.toNat=some 48/\(1 < k∨m=true) then (0,0,19,i)
 else if (gn ((s.data.toList.drop a).take k) m).2=true then ((gn ((s.data.toList.drop a).take k) m).1,(a + k:Nat),0,0)
 else (0,0,13,i)
theorem Wz {n d:Int} (hn:n<=0) (hd:0<=d/\d<=9):n < (-9223372036854775808 + d).tdiv 10↔9223372036854775808 < -n * 10 + d:=by
 rw [aa3 (by decide) (by omega)];omega
abbrev rnSt (s:ByteArray) (e:Nat):St:=⟨[(0,⟨[],.v (.string s)⟩),aC 5 s.size,aC 6 e],[],[]⟩
theorem vN (s:ByteArray) (hs:s.size<=4611686018427387904):aR prog 334 [.v (.string s)] (.v (.int .i64 (digN s.data.toList:Nat))):=by
 refine eG 23 [.tmp 2] func334 rfl ntmps334 rfl fun _ _ _ _=>?_;refine lI (fun j st=>∃ e:Nat,st=rnSt s e/\e<=s.size/\e + digN (s.data.toList.drop e)=digN s.data.toList/\j=s.size - e) ⟨0,rfl,by omega,by simp,rfl⟩ (wkM wB) ?_;rintro j st ⟨e,rfl,he,hinv,rfl⟩;refine br ?_ ?_<;>intro h
 ·have az:e < s.size:=sU h;obtain ⟨c,hd,hb⟩:=bl az;rw [hd,digN] at hinv;refine ⟨⟨by omega,by omega⟩,?_⟩
  have hno:fq c=false->DV.v (Value.int .i64 e) = .v (.int .i64 (digN s.data.toList:Nat)):=fun h=>by
   rw [af (by rw [h];decide)] at hinv;rw [<- hinv];rfl
  refine br ?_ ?_<;>intro g
  ·have g:¬ c.toNat < 48:=by
    have:¬ ((aq s e:Nat):Int) < 48:=sU g;omega
   refine ⟨⟨by omega,by omega⟩,?_⟩;refine br ?_ ?_<;>intro g2
   ·have g2:57 < c.toNat:=by
     have:57 < ((aq s e:Nat):Int):=of_decide_eq_true g2;omega
    exact hno (by unfold fq;rw [decide_eq_false (p:=c.toNat<=57) (by omega),Bool.and_false])
   ·have g2:¬ 57 < c.toNat:=by
     have:¬ 57 < ((aq s e:Nat):Int):=of_decide_eq_false g2;omega
    rw [zIfP (by unfold fq;rw [decide_eq_true (by omega:48<=c.toNat),decide_eq_true (by omega:c.toNat<=57)];rfl)] at hinv;exact rE ⟨_,by omega,e + 1,rfl,by omega,by omega,rfl⟩ (wkM (wB1 (nxt az (by omega))))
  ·have g:c.toNat < 48:=by
    have:((aq s e:Nat):Int) < 48:=sU g;omega
   exact hno (by unfold fq;rw [decide_eq_false (by omega),Bool.false_and])
 ·have hge:e=s.size:=by simp at h;omega
  rw [tP (by omega)] at hinv;simp only [digN] at hinv;subst hge;refine congrArg (fun z=>DV.v (Value.int .i64 z)) ?_;omega
abbrev vlSt (s:ByteArray) (m:Bool) (n:Int) (e:Nat):St:=⟨[(0,⟨[],.v (.string s)⟩),zt 1 m,aC 6 n,aC 10 s.size,aC 11 e],[],[]⟩
theorem vO (s:ByteArray) (hs:s.size<=4611686018427387904) (m:Bool) (hd:∀ c∈s.data.toList,fq c=true):aR prog 335 [.v (.string s),.v (.bool m)] (.bo [.v (.int .i64 (gn s.data.toList m).1),.v (.bool (gn s.data.toList m).2)]):=by
 refine eG 35 [.tmp 4,.tmp 5] func335 rfl ntmps335 rfl fun _ _ _ _=>?_;refine lI (fun j st=>∃ e:Nat,st=vlSt s m (-(cd (s.data.toList.take e):Nat)) e/\e<=s.size/\cd (s.data.toList.take e)<=9223372036854775808/\j=s.size - e) ⟨0,rfl,by omega,by simp [cd],rfl⟩ (wkM wB) ?_;rintro j st ⟨e,rfl,he,fO,rfl⟩;refine br ?_ ?_<;>intro h
 ·have az:e < s.size:=sU h;obtain ⟨c,eH,hb⟩:=bl az
  have GD:s.data.toList[e]? = some c:=by
   have:=congrArg List.head? eH
   rwa [List.head?_drop,List.head?_cons] at this
  have Pd:=hd c (mG GD);unfold fq at Pd;simp only [bh,decide_eq_true_eq] at Pd;have hst:=Da GD;have hmono:=Ni s.data.toList (e + 1);refine ⟨⟨by omega,by omega⟩,?_⟩;have jI:aq s (e:Int).toNat=c.toNat:=hb
  have hw:IntKind.i64.wrap (IntKind.u8.wrap ((aq s (e:Int).toNat:Nat) - 48))=((c.toNat - 48:Nat):Int):=by
   rw [jI,IntKind.wrap_u8,wrap64 (by omega) (by omega)];omega
  have rk:IntKind.i64.wrap (-9223372036854775808 + ((c.toNat - 48:Nat):Int)) = -9223372036854775808 + ((c.toNat - 48:Nat):Int):=wrap64 (by omega) (by omega);have hq:=Wz (n:=-(cd (s.data.toList.take e):Nat)) (d:=((c.toNat - 48:Nat):Int)) (by omega) (by omega)
  have hq1:(-9223372036854775808 + ((c.toNat - 48:Nat):Int)).tdiv 10 = -((9223372036854775808 - ((c.toNat - 48:Nat):Int)) / 10):=by
   rw [show -9223372036854775808 + ((c.toNat - 48:Nat):Int) = -(9223372036854775808 - ((c.toNat - 48:Nat):Int)) by omega,Int.neg_tdiv,Int.tdiv_eq_ediv_of_nonneg (by omega)]
  have BV:IntKind.i64.wrap ((-9223372036854775808 + ((c.toNat - 48:Nat):Int)).tdiv 10)=(-9223372036854775808 + ((c.toNat - 48:Nat):Int)).tdiv 10:=by
   rw [hq1];exact wrap64 (by omega) (by omega)
  refine ⟨⟨rfl,by decide⟩,?_⟩;refine br ?_ ?_<;>intro g
  ·have g:=of_decide_eq_true g;rw [hw,rk,BV,hq] at g;have c7:9223372036854775808 < cd s.data.toList:=by omega
   have hv:gn s.data.toList m=(0,false):=by
    unfold gn;cases m
    ·rw [af (by decide),af (by omega)]
    ·rw [zIfP rfl,af (by omega)]
   rw [hv];exact ⟨_,ax,rfl⟩
  ·have g:=of_decide_eq_false g;rw [hw,rk,BV,hq] at g
   have CW:IntKind.i64.wrap (IntKind.i64.wrap (-(cd (s.data.toList.take e):Nat) * 10) - IntKind.i64.wrap (IntKind.u8.wrap ((aq s (e:Int).toNat:Nat) - 48))) = -(cd (s.data.toList.take (e + 1)):Nat):=by
    rw [hw,wrap64 (n:=-(cd (s.data.toList.take e):Nat) * 10) (by omega) (by omega),wrap64 (by omega) (by omega)];omega
   exact rE ⟨_,by omega,e + 1,rfl,by omega,by omega,rfl⟩ (wkM (wB2 (nxt az (by omega)) CW))
 ·have hge:e=s.size:=by simp at h;omega
  subst hge;rw [List.take_of_length_le (by simp)] at fO ⊢
  cases m with
  | true=>
   have hv:gn s.data.toList true=(-((cd s.data.toList:Nat):Int),true):=by
    unfold gn;rw [zIfP rfl,zIfP (by omega)]
   rw [hv];exact ⟨_,ax,rfl⟩
  | false=>
   refine br ?_ ?_<;>intro g
   ·have g:=of_decide_eq_true g
    have hv:gn s.data.toList false=(0,false):=by
     unfold gn;rw [af (by decide),af (by omega)]
    rw [hv];exact ⟨_,ax,rfl⟩
   ·have g:=of_decide_eq_false g
    have hw:IntKind.i64.wrap (0 - -((cd s.data.toList:Nat):Int))=((cd s.data.toList:Nat):Int):=by
     rw [wrap64 (by omega) (by omega)];omega
    have hv:gn s.data.toList false=(IntKind.i64.wrap (0 - -((cd s.data.toList:Nat):Int)),true):=by
     rw [hw];unfold gn;rw [af (by decide),zIfP (by omega)]
    rw [hv];exact ⟨_,ax,rfl⟩
def a7 (c:Nat):Nat:=if c < 128 then 1 else if 194<=c/\c<=223 then 2 else if 224<=c/\c<=239 then 3 else if 240<=c/\c<=244 then 4 else 0
def jA (c:Nat):Nat:=if c=224 then 160 else if c=240 then 144 else 128
def jB (c:Nat):Nat:=if c=237 then 159 else if c=244 then 143 else 191
theorem Pe (c:Nat):aR prog 329 [.v (.int .u8 c)] (.bo [.v (.int .i64 (a7 c:Nat)),.v (.int .u8 (jA c:Nat)),.v (.int .u8 (jB c:Nat))]):=by
 have hN:a7 c=if c < 128 then 1 else if 194<=c/\c<=223 then 2 else if 224<=c/\c<=239 then 3 else if 240<=c/\c<=244 then 4 else 0:=rfl
 have hL:jA c=if c=224 then 160 else if c=240 then 144 else 128:=rfl
 have hH:jB c=if c=237 then 159 else if c=244 then 143 else 191:=rfl
 generalize a7 c=N at hN ⊢;generalize jA c=L at hL ⊢;generalize jB c=H at hH ⊢;refine eG 41 [.tmp 2,.tmp 3,.tmp 4] func329 rfl ntmps329 rfl fun _ _ _ _=>?_;refine br ?_ ?_<;>intro c1
 ·have c1:(c:Int) < 128:=sU c1;refine br ?_ ?_<;>intro g
  ·have g:(c:Int)=224:=sU g
   have hn:N=1:=by
    rw [hN]
    repeat' split
    all_goals omega
   have hl:L=160:=by
    rw [hL]
    repeat' split
    all_goals omega
   have hh:H=191:=by
    rw [hH]
    repeat' split
    all_goals omega
   rw [hn,hl,hh];exact ⟨_,ax,rfl⟩
  have WA:¬ (c:Int)=224:=sU g;refine br ?_ ?_<;>intro g
  ·have g:(c:Int)=237:=sU g
   have hn:N=1:=by
    rw [hN]
    repeat' split
    all_goals omega
   have hl:L=128:=by
    rw [hL]
    repeat' split
    all_goals omega
   have hh:H=159:=by
    rw [hH]
    repeat' split
    all_goals omega
   rw [hn,hl,hh];exact ⟨_,ax,rfl⟩
  have WB:¬ (c:Int)=237:=sU g;refine br ?_ ?_<;>intro g
  ·have g:(c:Int)=240:=sU g
   have hn:N=1:=by
    rw [hN]
    repeat' split
    all_goals omega
   have hl:L=144:=by
    rw [hL]
    repeat' split
    all_goals omega
   have hh:H=191:=by
    rw [hH]
    repeat' split
    all_goals omega
   rw [hn,hl,hh];exact ⟨_,ax,rfl⟩
  have WC:¬ (c:Int)=240:=sU g;refine br ?_ ?_<;>intro g
  ·have g:(c:Int)=244:=sU g
   have hn:N=1:=by
    rw [hN]
    repeat' split
    all_goals omega
   have hl:L=128:=by
    rw [hL]
    repeat' split
    all_goals omega
   have hh:H=143:=by
    rw [hH]
    repeat' split
    all_goals omega
   rw [hn,hl,hh];exact ⟨_,ax,rfl⟩
  have WD:¬ (c:Int)=244:=sU g
  have hn:N=1:=by
   rw [hN]
   repeat' split
   all_goals omega
  have hl:L=128:=by
   rw [hL]
   repeat' split
   all_goals omega
  have hh:H=191:=by
   rw [hH]
   repeat' split
   all_goals omega
  rw [hn,hl,hh];exact ⟨_,ax,rfl⟩
 have c1:¬ (c:Int) < 128:=sU c1;refine br ?_ ?_<;>intro k
 ·have k:194<=(c:Int)/\(c:Int)<=223:=by simpa [pickB_and] using k
  refine br ?_ ?_<;>intro g
  ·have g:(c:Int)=224:=sU g
   have hn:N=2:=by
    rw [hN]
    repeat' split
    all_goals omega
   have hl:L=160:=by
    rw [hL]
    repeat' split
    all_goals omega
   have hh:H=191:=by
    rw [hH]
    repeat' split
    all_goals omega
   rw [hn,hl,hh];exact ⟨_,ax,rfl⟩
  have WA:¬ (c:Int)=224:=sU g;refine br ?_ ?_<;>intro g
  ·have g:(c:Int)=237:=sU g
   have hn:N=2:=by
    rw [hN]
    repeat' split
    all_goals omega
   have hl:L=128:=by
    rw [hL]
    repeat' split
    all_goals omega
   have hh:H=159:=by
    rw [hH]
    repeat' split
    all_goals omega
   rw [hn,hl,hh];exact ⟨_,ax,rfl⟩
  have WB:¬ (c:Int)=237:=sU g;refine br ?_ ?_<;>intro g
  ·have g:(c:Int)=240:=sU g
   have hn:N=2:=by
    rw [hN]
    repeat' split
    all_goals omega
   have hl:L=144:=by
    rw [hL]
    repeat' split
    all_goals omega
   have hh:H=191:=by
    rw [hH]
    repeat' split
    all_goals omega
   rw [hn,hl,hh];exact ⟨_,ax,rfl⟩
  have WC:¬ (c:Int)=240:=sU g;refine br ?_ ?_<;>intro g
  ·have g:(c:Int)=244:=sU g
   have hn:N=2:=by
    rw [hN]
    repeat' split
    all_goals omega
   have hl:L=128:=by
    rw [hL]
    repeat' split
    all_goals omega
   have hh:H=143:=by
    rw [hH]
    repeat' split
    all_goals omega
   rw [hn,hl,hh];exact ⟨_,ax,rfl⟩
  have WD:¬ (c:Int)=244:=sU g
  have hn:N=2:=by
   rw [hN]
   repeat' split
   all_goals omega
  have hl:L=128:=by
   rw [hL]
   repeat' split
   all_goals omega
  have hh:H=191:=by
   rw [hH]
   repeat' split
   all_goals omega
  rw [hn,hl,hh];exact ⟨_,ax,rfl⟩
 have k194:¬ (194<=(c:Int)/\(c:Int)<=223):=by simpa [pickB_and] using k
 refine br ?_ ?_<;>intro k
 ·have k:224<=(c:Int)/\(c:Int)<=239:=by simpa [pickB_and] using k
  refine br ?_ ?_<;>intro g
  ·have g:(c:Int)=224:=sU g
   have hn:N=3:=by
    rw [hN]
    repeat' split
    all_goals omega
   have hl:L=160:=by
    rw [hL]
    repeat' split
    all_goals omega
   have hh:H=191:=by
    rw [hH]
    repeat' split
    all_goals omega
   rw [hn,hl,hh];exact ⟨_,ax,rfl⟩
  have WA:¬ (c:Int)=224:=sU g;refine br ?_ ?_<;>intro g
  ·have g:(c:Int)=237:=sU g
   have hn:N=3:=by
    rw [hN]
    repeat' split
    all_goals omega
   have hl:L=128:=by
    rw [hL]
    repeat' split
    all_goals omega
   have hh:H=159:=by
    rw [hH]
    repeat' split
    all_goals omega
   rw [hn,hl,hh];exact ⟨_,ax,rfl⟩
  have WB:¬ (c:Int)=237:=sU g;refine br ?_ ?_<;>intro g
  ·have g:(c:Int)=240:=sU g
   have hn:N=3:=by
    rw [hN]
    repeat' split
    all_goals omega
   have hl:L=144:=by
    rw [hL]
    repeat' split
    all_goals omega
   have hh:H=191:=by
    rw [hH]
    repeat' split
    all_goals omega
   rw [hn,hl,hh];exact ⟨_,ax,rfl⟩
  have WC:¬ (c:Int)=240:=sU g;refine br ?_ ?_<;>intro g
  ·have g:(c:Int)=244:=sU g
   have hn:N=3:=by
    rw [hN]
    repeat' split
    all_goals omega
   have hl:L=128:=by
    rw [hL]
    repeat' split
    all_goals omega
   have hh:H=143:=by
    rw [hH]
    repeat' split
    all_goals omega
   rw [hn,hl,hh];exact ⟨_,ax,rfl⟩
  have WD:¬ (c:Int)=244:=sU g
  have hn:N=3:=by
   rw [hN]
   repeat' split
   all_goals omega
  have hl:L=128:=by
   rw [hL]
   repeat' split
   all_goals omega
  have hh:H=191:=by
   rw [hH]
   repeat' split
   all_goals omega
  rw [hn,hl,hh];exact ⟨_,ax,rfl⟩
 have k224:¬ (224<=(c:Int)/\(c:Int)<=239):=by simpa [pickB_and] using k
 refine br ?_ ?_<;>intro k
 ·have k:240<=(c:Int)/\(c:Int)<=244:=by simpa [pickB_and] using k
  refine br ?_ ?_<;>intro g
  ·have g:(c:Int)=224:=sU g
   have hn:N=4:=by
    rw [hN]
    repeat' split
    all_goals omega
   have hl:L=160:=by
    rw [hL]
    repeat' split
    all_goals omega
   have hh:H=191:=by
    rw [hH]
    repeat' split
    all_goals omega
   rw [hn,hl,hh];exact ⟨_,ax,rfl⟩
  have WA:¬ (c:Int)=224:=sU g;refine br ?_ ?_<;>intro g
  ·have g:(c:Int)=237:=sU g
   have hn:N=4:=by
    rw [hN]
    repeat' split
    all_goals omega
   have hl:L=128:=by
    rw [hL]
    repeat' split
    all_goals omega
   have hh:H=159:=by
    rw [hH]
    repeat' split
    all_goals omega
   rw [hn,hl,hh];exact ⟨_,ax,rfl⟩
  have WB:¬ (c:Int)=237:=sU g;refine br ?_ ?_<;>intro g
  ·have g:(c:Int)=240:=sU g
   have hn:N=4:=by
    rw [hN]
    repeat' split
    all_goals omega
   have hl:L=144:=by
    rw [hL]
    repeat' split
    all_goals omega
   have hh:H=191:=by
    rw [hH]
    repeat' split
    all_goals omega
   rw [hn,hl,hh];exact ⟨_,ax,rfl⟩
  have WC:¬ (c:Int)=240:=sU g;refine br ?_ ?_<;>intro g
  ·have g:(c:Int)=244:=sU g
   have hn:N=4:=by
    rw [hN]
    repeat' split
    all_goals omega
   have hl:L=128:=by
    rw [hL]
    repeat' split
    all_goals omega
   have hh:H=143:=by
    rw [hH]
    repeat' split
    all_goals omega
   rw [hn,hl,hh];exact ⟨_,ax,rfl⟩
  have WD:¬ (c:Int)=244:=sU g
  have hn:N=4:=by
   rw [hN]
   repeat' split
   all_goals omega
  have hl:L=128:=by
   rw [hL]
   repeat' split
   all_goals omega
  have hh:H=191:=by
   rw [hH]
   repeat' split
   all_goals omega
  rw [hn,hl,hh];exact ⟨_,ax,rfl⟩
 have k240:¬ (240<=(c:Int)/\(c:Int)<=244):=by simpa [pickB_and] using k
 refine br ?_ ?_<;>intro g
 ·have g:(c:Int)=224:=sU g
  have hn:N=0:=by
   rw [hN]
   repeat' split
   all_goals omega
  have hl:L=160:=by
   rw [hL]
   repeat' split
   all_goals omega
  have hh:H=191:=by
   rw [hH]
   repeat' split
   all_goals omega
  rw [hn,hl,hh];exact ⟨_,ax,rfl⟩
 have WA:¬ (c:Int)=224:=sU g;refine br ?_ ?_<;>intro g
 ·have g:(c:Int)=237:=sU g
  have hn:N=0:=by
   rw [hN]
   repeat' split
   all_goals omega
  have hl:L=128:=by
   rw [hL]
   repeat' split
   all_goals omega
  have hh:H=159:=by
   rw [hH]
   repeat' split
   all_goals omega
  rw [hn,hl,hh];exact ⟨_,ax,rfl⟩
 have WB:¬ (c:Int)=237:=sU g;refine br ?_ ?_<;>intro g
 ·have g:(c:Int)=240:=sU g
  have hn:N=0:=by
   rw [hN]
   repeat' split
   all_goals omega
  have hl:L=144:=by
   rw [hL]
   repeat' split
   all_goals omega
  have hh:H=191:=by
   rw [hH]
   repeat' split
   all_goals omega
  rw [hn,hl,hh];exact ⟨_,ax,rfl⟩
 have WC:¬ (c:Int)=240:=sU g;refine br ?_ ?_<;>intro g
 ·have g:(c:Int)=244:=sU g
  have hn:N=0:=by
   rw [hN]
   repeat' split
   all_goals omega
  have hl:L=128:=by
   rw [hL]
   repeat' split
   all_goals omega
  have hh:H=143:=by
   rw [hH]
   repeat' split
   all_goals omega
  rw [hn,hl,hh];exact ⟨_,ax,rfl⟩
 have WD:¬ (c:Int)=244:=sU g
 have hn:N=0:=by
  rw [hN]
  repeat' split
  all_goals omega
 have hl:L=128:=by
  rw [hL]
  repeat' split
  all_goals omega
 have hh:H=191:=by
  rw [hH]
  repeat' split
  all_goals omega
 rw [hn,hl,hh];exact ⟨_,ax,rfl⟩
def recV:List UInt8->Int
 | [a]=>a.toNat
 | [a,b]=>(a.toNat - 192) * 64 + (b.toNat - 128)
 | [a,b,c]=>(a.toNat - 224) * 4096 + (b.toNat - 128) * 64 + (c.toNat - 128)
 | [a,b,c,d]=>(a.toNat - 240) * 262144 + (b.toNat - 128) * 4096 + (c.toNat - 128) * 64 + (d.toNat - 128)
 | _=>0
def WE:List UInt8->Bool
 | [a]=>decide (a.toNat < 128)
 | [a,b]=>decide (192<=a.toNat/\a.toNat < 224/\128<=b.toNat/\b.toNat < 192)
 | [a,b,c]=>decide (224<=a.toNat/\a.toNat < 240/\128<=b.toNat/\b.toNat < 192/\128<=c.toNat/\c.toNat < 192)
 | [a,b,c,d]=>decide (240<=a.toNat/\a.toNat < 248/\128<=b.toNat/\b.toNat < 192/\128<=c.toNat/\c.toNat < 192/\128<=d.toNat/\d.toNat < 192)
 | _=>false
theorem Fm {n:Int} (h1 : -2147483648<=n) (h2:n<=2147483647):IntKind.i32.wrap n=n:=by
 simp [IntKind.wrap,IntKind.min,IntKind.max,IntKind.signed,IntKind.bits];omega
theorem SE {x:Nat} (h:x < 4294967296):(BitVec.ofInt 32 (x:Int)).toNat=x:=by
 rw [BitVec.toNat_ofInt];omega
theorem SF {x m:Nat} (k:Nat) (hk:m=2 ^ k - 1) (hm:m < 256) (h:x < 256):IntKind.i32.wrap ((BitVec.ofInt IntKind.i32.bits (IntKind.i32.wrap (x:Int)) &&& BitVec.ofInt IntKind.i32.bits (m:Int)).toNat:Nat)=((x % 2 ^ k:Nat):Int):=by
 rw [Fm (n:=(x:Int)) (by omega) (by omega)];show IntKind.i32.wrap ((BitVec.ofInt 32 (x:Int) &&& BitVec.ofInt 32 (m:Int)).toNat:Nat)=_;rw [BitVec.toNat_and,SE (by omega),SE (by omega),hk,Nat.and_two_pow_sub_one_eq_mod];have:=Nat.mod_le x (2 ^ k);exact Fm (by omega) (by omega)
theorem Db {x:Nat} (hx:x < 256):IntKind.i32.wrap (IntKind.u8.wrap ((BitVec.ofInt IntKind.u8.bits (x:Int) &&& BitVec.ofInt IntKind.u8.bits 63).toNat:Nat))=((x % 64:Nat):Int):=by
 show IntKind.i32.wrap (IntKind.u8.wrap ((BitVec.ofInt 8 (x:Int) &&& BitVec.ofInt 8 63).toNat:Nat))=_;have e:(BitVec.ofInt 8 (x:Int)).toNat=x:=by rw [BitVec.toNat_ofInt];omega
 rw [BitVec.toNat_and,e,show (BitVec.ofInt 8 63).toNat=2 ^ 6 - 1 from rfl,Nat.and_two_pow_sub_one_eq_mod];rw [IntKind.wrap_u8'];rw [Fm (by omega) (by omega)];omega
theorem Pf {x y:Nat} (h:x < 1000000) (hy:y < 64):IntKind.i32.wrap ((BitVec.ofInt IntKind.i32.bits (IntKind.i32.wrap ((x:Int) * 2 ^ min (Int.toNat 6) IntKind.i32.bits)) ||| BitVec.ofInt IntKind.i32.bits (y:Int)).toNat:Nat)=((x * 64 + y:Nat):Int):=by
 show IntKind.i32.wrap ((BitVec.ofInt 32 (IntKind.i32.wrap ((x:Int) * 64)) ||| BitVec.ofInt 32 (y:Int)).toNat:Nat)=_;rw [Fm (n:=(x:Int) * 64) (by omega) (by omega),show (x:Int) * 64=((x * 64:Nat):Int) by omega,BitVec.toNat_or,SE (by omega),SE (by omega)];have:=Nat.shiftLeft_add_eq_or_of_lt (i:=6) (b:=y) hy x;rw [Nat.shiftLeft_eq] at this
 grind [Fm]
theorem pS {s:ByteArray} {l:List UInt8} (hl:tx s=l) {z:Int} (k:Nat) (hz:z.toNat=k):aq s z.toNat=(l.getD k 0).toNat:=by
 rw [hz,<- hl];all_goals rfl
theorem Ku (s:ByteArray) (h:1<=s.size/\s.size<=4):Ev prog 330 [.v (.string s)] [] [] (fun r _ _=>∃ z:Int,r = .v (.int .i32 z)/\(WE (tx s)=true->z=recV (tx s))):=by
 have gf:=bd s;refine eG 57 [.tmp 2] func330 rfl ntmps330 rfl fun _ _ _ _=>?_;refine br ?_ ?_<;>intro c1
 ·refine ⟨⟨by omega,by omega⟩,?_⟩;have c1:s.size=1:=by have:=of_decide_eq_true c1;omega
  obtain ⟨a,hl⟩:∃ a,tx s=[a]:=by
   rw [c1] at gf
   match tx s,gf with
   | [a],_=>exact ⟨a,rfl⟩
  refine ⟨_,rfl,fun _=>?_⟩;have ha:=a.toNat_lt;rw [pS hl 0 rfl,hl];exact Fm (by show _<=(a.toNat:Int);omega) (by show (a.toNat:Int)<=_;omega)
 ·refine dI ?_;refine ⟨⟨by omega,by omega⟩,?_⟩;have hw7:IntKind.i64.wrap (7 - (s.size:Int))=7 - s.size:=wrap64 (by omega) (by omega);have rk:IntKind.i64.wrap (1 + 1)=2:=rfl;have BV:IntKind.i64.wrap (IntKind.i64.wrap (1 + 1) + 1)=3:=rfl
  have c1:¬ s.size=1:=by
   have:=of_decide_eq_false c1;omega
  refine ⟨by rw [hw7];omega,?_⟩;refine br ?_ ?_<;>intro c4
  ·have c4:s.size=4:=by have:=of_decide_eq_true c4;omega
   refine ⟨by omega,?_⟩;refine ⟨⟨by first | omega | (rw [rk];omega),by first | omega | (rw [rk];omega)⟩,?_⟩;refine ⟨by omega,?_⟩;refine ⟨⟨by first | omega | (rw [rk];omega),by first | omega | (rw [rk];omega)⟩,?_⟩;refine ⟨by omega,?_⟩;refine ⟨⟨by first | omega | (rw [BV];omega),by first | omega | (rw [BV];omega)⟩,?_⟩
   obtain ⟨a,b,c,d,hl⟩:∃ a b c d,tx s=[a,b,c,d]:=by
    rw [c4] at gf
    match tx s,gf with
    | [a,b,c,d],_=>exact ⟨a,b,c,d,rfl⟩
   refine ⟨_,rfl,fun hi=>?_⟩;have ha:=a.toNat_lt;have hb:=b.toNat_lt;have hc:=c.toNat_lt;have hd:=d.toNat_lt;have hm:IntKind.i32.wrap (IntKind.i32.wrap (1 * 2 ^ min (IntKind.i64.wrap (7 - (s.size:Int))).toNat IntKind.i32.bits) - 1)=((7:Nat):Int):=by rw [c4];all_goals rfl
   rw [hm,pS hl 0 rfl,pS hl 1 rfl,pS hl 2 rfl,pS hl 3 rfl];simp only [List.getD_cons_zero,List.getD_cons_succ];rw [SF 3 rfl (by omega) ha,Db hb,Pf (by omega) (by omega),Db hc,Pf (by omega) (by omega),Db hd,Pf (by omega) (by omega)];rw [hl] at hi ⊢;rw [WE,decide_eq_true_iff] at hi;simp only [recV];omega
  have c4:¬ s.size=4:=by have:=of_decide_eq_false c4;omega
  refine br ?_ ?_<;>intro c3
  ·have c3:s.size=3:=by have:=of_decide_eq_true c3;omega
   refine ⟨by omega,?_⟩;refine ⟨⟨by first | omega | (rw [rk];omega),by first | omega | (rw [rk];omega)⟩,?_⟩;refine ⟨by omega,?_⟩;refine ⟨⟨by first | omega | (rw [rk];omega),by first | omega | (rw [rk];omega)⟩,?_⟩
   obtain ⟨a,b,c,hl⟩:∃ a b c,tx s=[a,b,c]:=by
    rw [c3] at gf
    match tx s,gf with
    | [a,b,c],_=>exact ⟨a,b,c,rfl⟩
   refine ⟨_,rfl,fun hi=>?_⟩;have ha:=a.toNat_lt;have hb:=b.toNat_lt;have hc:=c.toNat_lt;have hm:IntKind.i32.wrap (IntKind.i32.wrap (1 * 2 ^ min (IntKind.i64.wrap (7 - (s.size:Int))).toNat IntKind.i32.bits) - 1)=((15:Nat):Int):=by rw [c3];all_goals rfl
   rw [hm,pS hl 0 rfl,pS hl 1 rfl,pS hl 2 rfl];simp only [List.getD_cons_zero,List.getD_cons_succ];rw [SF 4 rfl (by omega) ha,Db hb,Pf (by omega) (by omega),Db hc,Pf (by omega) (by omega)];rw [hl] at hi ⊢;rw [WE,decide_eq_true_iff] at hi;simp only [recV];omega
  have c3:¬ s.size=3:=by have:=of_decide_eq_false c3;omega
  refine br ?_ ?_<;>intro c2
  ·have c2:s.size=2:=by have:=of_decide_eq_true c2;omega
   refine ⟨by omega,?_⟩;refine ⟨⟨by first | omega | (rw [rk];omega),by first | omega | (rw [rk];omega)⟩,?_⟩
   obtain ⟨a,b,hl⟩:∃ a b,tx s=[a,b]:=by
    rw [c2] at gf
    match tx s,gf with
    | [a,b],_=>exact ⟨a,b,rfl⟩
   refine ⟨_,rfl,fun hi=>?_⟩;have ha:=a.toNat_lt;have hb:=b.toNat_lt;have hm:IntKind.i32.wrap (IntKind.i32.wrap (1 * 2 ^ min (IntKind.i64.wrap (7 - (s.size:Int))).toNat IntKind.i32.bits) - 1)=((31:Nat):Int):=by rw [c2];all_goals rfl
   rw [hm,pS hl 0 rfl,pS hl 1 rfl];simp only [List.getD_cons_zero,List.getD_cons_succ];rw [SF 5 rfl (by omega) ha,Db hb,Pf (by omega) (by omega)];rw [hl] at hi ⊢;rw [WE,decide_eq_true_iff] at hi;simp only [recV];omega
  ·exfalso;have:=of_decide_eq_false c2;omega
def kx (c i b:Nat):Bool:=if i=0 then decide (jA c<=b) && decide (b<=jB c) else decide (128<=b) && decide (b<=191)
def allC (c:Nat) (r:List UInt8) (k:Nat):Bool:=(List.range k).all fun i=>match r[i]? with
 | some b=>kx c i b.toNat
 | none=>false
theorem Pg (c:Nat) (r:List UInt8) (k:Nat):allC c r (k + 1)=(allC c r k && match r[k]? with | some b=>kx c k b.toNat | none=>false):=by grind [allC]
theorem yA {c:Nat} {r:List UInt8} {k n:Nat} (h:k < n) (hk:(match r[k]? with | some b=>kx c k b.toNat | none=>false)=false):allC c r n=false:=by grind [allC]
def okU:List UInt8->Bool
 | []=>false
 | c :: r=>decide (1<=a7 c.toNat) && allC c.toNat r (a7 c.toNat - 1)
def gp:List UInt8->Nat
 | []=>0
 | c :: r=>if okU (c :: r)=true then a7 c.toNat else 1
theorem aa5 {c:UInt8} {r:List UInt8} (h:okU (c :: r)=true):WE ((c :: r).take (a7 c.toNat))=true:=by
 unfold okU at h;rw [bh,decide_eq_true_iff] at h;obtain ⟨h1,h2⟩:=h;have hb:∀ i,i < a7 c.toNat - 1->∃ b:UInt8,r[i]? = some b/\128<=b.toNat/\b.toNat < 192:=fun i hi=>by grind [allC,kx,jA,jB]
 have hn:(a7 c.toNat=1/\c.toNat < 128)∨(a7 c.toNat=2/\192<=c.toNat/\c.toNat < 224)∨(a7 c.toNat=3/\224<=c.toNat/\c.toNat < 240)∨(a7 c.toNat=4/\240<=c.toNat/\c.toNat < 248):=by grind [a7]
 rcases hn with ⟨hn,hc⟩ | ⟨hn,hc⟩ | ⟨hn,hc⟩ | ⟨hn,hc⟩<;>rw [hn] at hb ⊢
 ·simp [WE,hc]
 ·obtain ⟨b,h5,h6⟩:=hb 0 (by omega)
  match r,h5 with
  | x :: r,h5=>grind [WE]
 ·obtain ⟨b,h5,h6⟩:=hb 0 (by omega);obtain ⟨b',h7,h8⟩:=hb 1 (by omega)
  match r,h5,h7 with
  | x :: y :: r,h5,h7=>grind [WE]
 ·obtain ⟨b,h5,h6⟩:=hb 0 (by omega);obtain ⟨b',h7,h8⟩:=hb 1 (by omega);obtain ⟨b2,h9,u7⟩:=hb 2 (by omega)
  match r,h5,h7,h9 with
  | x :: y :: v :: r,h5,h7,h9=>simp_all [WE]
set_option maxHeartbeats 4000000 in
theorem vP (s:ByteArray) (cT:Nat) (hs:s.size<=1099511627776) (c:UInt8) (r:List UInt8) (h:(tx s).drop cT=c :: r) :
  Ev prog 288 [.v (.string s),.v (.int .i64 cT)] [] [] (fun d _ _=>∃ (z:Int) (n:Nat),d = .bo [.v (.int .i32 z),.v (.int .i64 n),.v (.bool (okU (c :: r)))]/\(okU (c :: r)=true->n=a7 c.toNat/\z=recV ((c :: r).take n))/\1<=n):=by
 have hlen:cT < s.size:=by
  have:=congrArg List.length h;rw [List.length_drop,bd] at this;simp at this;omega
 have hB:tx (s.extract (cT:Int).toNat (s.size:Int).toNat)=c :: r:=by
  rw [<- h];simp [tx,dV];exact List.take_of_length_le (by rw [List.length_drop];have:=bd s;unfold tx at this;omega)
 have cK:(s.extract (cT:Int).toNat (s.size:Int).toNat).size=r.length + 1:=by rw [<- bd,hB];all_goals rfl
 have QQ:∀ (k:Nat) b,r[k]? = some b->aq (s.extract (cT:Int).toNat (s.size:Int).toNat) (k + 1)=b.toNat:=fun k b hk=>by
  show ((tx _).getD (k + 1) 0).toNat=_;rw [hB];simp [eo,hk]
 have SG:aR prog 329 [.v (.int .u8 (aq (s.extract (cT:Int).toNat (s.size:Int).toNat) 0:Nat))] (.bo [.v (.int .i64 (a7 c.toNat:Nat)),.v (.int .u8 (jA c.toNat:Nat)),.v (.int .u8 (jB c.toNat:Nat))]):=by
  have:aq (s.extract (cT:Int).toNat (s.size:Int).toNat) 0=c.toNat:=by
   show ((tx _).getD 0 0).toNat=_;rw [hB];rfl
  rw [this];exact Pe c.toNat
 have hv:=fun (k:Nat) (h1:1<=k) (h2:k<=4) (h3:k<=r.length + 1)=>Ku ((s.extract (cT:Int).toNat (s.size:Int).toNat).extract 0 k) (by
  have:((s.extract (cT:Int).toNat (s.size:Int).toNat).extract 0 k).size=k:=by
   rw [ByteArray.size_extract,cK];omega
  omega)
 have hu:okU (c :: r)=(decide (1<=a7 c.toNat) && allC c.toNat r (a7 c.toNat - 1)):=rfl;have B8:=aa5 (c:=c) (r:=r);generalize okU (c :: r)=U at hu B8 ⊢
 have hn4:a7 c.toNat<=4:=by
  unfold a7
  repeat' split
  all_goals omega
 refine eG 60 [.tmp 4,.tmp 5,.tmp 6] func288 rfl ntmps288 rfl fun _ _ _ _=>?_;refine br (fun c=>absurd c (by simp [ak];omega)) (fun _=>?_);refine ⟨⟨by omega,by omega,by omega⟩,?_⟩;refine ⟨⟨by omega,by rw [cK];omega⟩,?_⟩;refine cP aff SG ?_;refine br ?_ ?_<;>intro g
 ·have g:a7 c.toNat=0:=by have:=of_decide_eq_true g;omega
  have fh:U=false:=by rw [hu,g];all_goals rfl
  subst fh;exact ⟨.bo [.v (.int .i32 0),.v (.int .i64 (1:Nat)),.v (.bool false)],ax,0,1,rfl,fun h=>(by cases h),by omega⟩
 have g:1<=a7 c.toNat:=by have:=of_decide_eq_false g;omega
 refine aY (fun j st=>∃ i:Nat,st=⟨[(0,⟨[],.v (.string (s.extract (cT:Int).toNat (s.size:Int).toNat))⟩),aC 7 (a7 c.toNat:Nat),(8,⟨[],.v (.int .u8 ((if i=0 then jA c.toNat else 128:Nat):Int))⟩),(9,⟨[],.v (.int .u8 ((if i=0 then jB c.toNat else 191:Nat):Int))⟩),aC 10 ((i + 1:Nat):Int)],[],[]⟩/\i + 1<=a7 c.toNat/\allC c.toNat r i=true/\j=a7 c.toNat - (i + 1)) (a7 c.toNat - (0 + 1))
  ⟨[(0,⟨[],.v (.string (s.extract (cT:Int).toNat (s.size:Int).toNat))⟩),aC 7 (a7 c.toNat:Nat),(8,⟨[],.v (.int .u8 ((if 0=0 then jA c.toNat else 128:Nat):Int))⟩),(9,⟨[],.v (.int .u8 ((if 0=0 then jB c.toNat else 191:Nat):Int))⟩),aC 10 ((0 + 1:Nat):Int)],[],[]⟩ (wkM lW) ⟨0,rfl,by omega,rfl,by omega⟩ ?_
 rintro j st ⟨i,rfl,hi,ha,rfl⟩;refine br ?_ ?_<;>intro hL
 ·have az:i + 1 < a7 c.toNat:=by have:=of_decide_eq_true hL;omega
  refine br ?_ ?_<;>intro k
  ·have k:i < r.length:=by
    have:=k;have pk:(s.extract cT s.size).size=r.length + 1:=cK;simp [pk] at this;omega
   obtain ⟨b,hb⟩:∃ b,r[i]? = some b:=⟨_,gE k⟩;have JJ:=QQ i b hb;refine ⟨⟨by omega,by rw [cK];omega⟩,?_⟩
   have hcb:kx c.toNat i b.toNat=(decide ((if i=0 then jA c.toNat else 128)<=b.toNat) && decide (b.toNat<=(if i=0 then jB c.toNat else 191))):=by
    unfold kx;split<;>rfl
   have has:=Pg c.toNat r i;rw [ha,hb,Bool.true_and] at has;simp only [hcb] at has;have e:aq (s.extract (cT:Int).toNat (s.size:Int).toNat) (((i + 1:Nat):Int)).toNat=b.toNat:=JJ;refine br ?_ ?_<;>intro k2
   ·have k2:(if i=0 then jA c.toNat else 128)<=b.toNat:=by
     have k3:=k2;rw [e] at k3;generalize (if i=0 then jA c.toNat else 128)=lo at k3 ⊢;simp [ak] at k3;omega
    refine ⟨⟨by omega,by rw [cK];omega⟩,?_⟩;refine br ?_ ?_<;>intro k4
    ·have k4:¬ b.toNat<=(if i=0 then jB c.toNat else 191):=by
      have k3:=k4;rw [e] at k3;generalize (if i=0 then jB c.toNat else 191)=hi at k3 ⊢;simp [ak] at k3;omega
     have hf:=yA (c:=c.toNat) (r:=r) (k:=i) (n:=a7 c.toNat - 1) (by omega) (by rw [hb];simp only [hcb];simp [k4]);rw [hf,Bool.and_false] at hu;subst hu;exact ⟨.bo [.v (.int .i32 0),.v (.int .i64 ((i + 1:Nat):Int)),.v (.bool false)],ax,0,i + 1,rfl,fun h=>(by cases h),by omega⟩
    ·have k4:b.toNat<=(if i=0 then jB c.toNat else 191):=by
      have k3:=k4;rw [e] at k3;generalize (if i=0 then jB c.toNat else 191)=hi at k3 ⊢;simp [ak] at k3;omega
     rw [decide_eq_true k2,decide_eq_true k4] at has;exact rE ⟨_,by omega,i + 1,rfl,by omega,has,rfl⟩ (wkM (wB1 (nxt az (by omega))))
   ·have k2:¬ (if i=0 then jA c.toNat else 128)<=b.toNat:=by
     have k3:=k2;rw [e] at k3;generalize (if i=0 then jA c.toNat else 128)=lo at k3 ⊢;simp [ak] at k3;omega
    have hf:=yA (c:=c.toNat) (r:=r) (k:=i) (n:=a7 c.toNat - 1) (by omega) (by rw [hb];simp only [hcb];simp [k2]);rw [hf,Bool.and_false] at hu;subst hu;exact ⟨.bo [.v (.int .i32 0),.v (.int .i64 ((i + 1:Nat):Int)),.v (.bool false)],ax,0,i + 1,rfl,fun h=>(by cases h),by omega⟩
  ·have k:r.length<=i:=by
    have:=k;have pk:(s.extract cT s.size).size=r.length + 1:=cK;simp [pk] at this;omega
   have hf:=yA (c:=c.toNat) (r:=r) (k:=i) (n:=a7 c.toNat - 1) (by omega) (by rw [rr k]);rw [hf,Bool.and_false] at hu;subst hu;exact ⟨.bo [.v (.int .i32 0),.v (.int .i64 ((i + 1:Nat):Int)),.v (.bool false)],ax,0,i + 1,rfl,fun h=>(by cases h),by omega⟩
 ·have hge:i + 1=a7 c.toNat:=by have:=of_decide_eq_false hL;omega
  have hu1:U=true:=by
   rw [hu,<- hge];simp [ha]
  subst hu1
  have gW:a7 c.toNat<=r.length + 1:=by
   rcases Nat.lt_or_ge r.length (a7 c.toNat - 1) with h | h
   ·have hf:=yA (c:=c.toNat) (r:=r) (k:=r.length) (n:=a7 c.toNat - 1) h (by rw [rr (zLeR _)]);rw [<- hge,Nat.add_sub_cancel,ha] at hf;cases hf
   ·omega
  have hv:=hv (a7 c.toNat) (by omega) hn4 gW;refine ⟨⟨by omega,by omega,by rw [cK];omega⟩,?_⟩;refine bZ afg rfl hv ax (fun q hq=>?_);obtain ⟨z,rfl,hz⟩:=hq;rw [show tx ((s.extract (cT:Int).toNat (s.size:Int).toNat).extract 0 (a7 c.toNat))=(c :: r).take (a7 c.toNat) from by rw [<- hB,(by simp [tx]:∀ (B:ByteArray) k,tx (B.extract 0 k)=(tx B).take k)]] at hz;exact ⟨.bo [.v (.int .i32 z),.v (.int .i64 (a7 c.toNat:Nat)),.v (.bool true)],ax,z,a7 c.toNat,rfl,fun _=>⟨rfl,hz (B8 rfl)⟩,by omega⟩
def recC (l:List UInt8) (e j:Nat):Int:=if j < e then ((l.getD j 0).toNat:Int) - 128 else 0
abbrev HH (l:List UInt8) (e:Nat):List DV:=[.v (.int .i64 (recC l e 0)),.v (.int .i64 (recC l e 1)),.v (.int .i64 (recC l e 2)),.v (.int .i64 (recC l e 3))]
abbrev afL (s:ByteArray) (e:Nat):St:=⟨[(0,⟨[],.v (.string s)⟩),aJ 3 0,aC 4 e],[HH (tx s) e],[]⟩
theorem SH (l:List UInt8) (e:Nat) (h:e < 4) (z:Int) (hz:z=((l.getD e 0).toNat:Int) - 128):(HH l e).set e (.v (.int .i64 z))=HH l (e + 1):=by
 subst hz;have c:e=0∨e=1∨e=2∨e=3:=by omega
 rcases c with rfl | rfl | rfl | rfl<;>simp [HH,recC]
theorem Nj {n m:Nat} {tk:List TkE} {l:List DV} {bs:List UInt8} {e:Nat} (h:l=HH bs e):WeL n m tk l (HH bs e):=by
 subst h;exact ⟨_,_,rfl,aA rfl,_,_,rfl,aA rfl,_,_,rfl,aA rfl,_,_,rfl,aA rfl,rfl⟩
theorem rec_1 (a:UInt8):IntKind.i64.wrap (((a.toNat:Int) - 128) + 128)=recV [a]:=by
 have ga:=a.toNat_lt
 grind [recV,wrap64]
theorem rec_2 (a b:UInt8):IntKind.i64.wrap (IntKind.i64.wrap (IntKind.i64.wrap (((a.toNat:Int) - 128) - 64) * 64) + ((b.toNat:Int) - 128))=recV [a,b]:=by
 have ga:=a.toNat_lt;have gb:=b.toNat_lt
 grind [recV,wrap64]
theorem rec_3 (a b c:UInt8):IntKind.i64.wrap (IntKind.i64.wrap (IntKind.i64.wrap (IntKind.i64.wrap (((a.toNat:Int) - 128) - 96) * 4096) + IntKind.i64.wrap (((b.toNat:Int) - 128) * 64)) + ((c.toNat:Int) - 128))=recV [a,b,c]:=by
 have ga:=a.toNat_lt;have gb:=b.toNat_lt;have gc:=c.toNat_lt
 grind [recV,wrap64]
theorem rec_4 (a b c d:UInt8):IntKind.i64.wrap (IntKind.i64.wrap (IntKind.i64.wrap (IntKind.i64.wrap (IntKind.i64.wrap (((a.toNat:Int) - 128) - 112) * 262144) + IntKind.i64.wrap (((b.toNat:Int) - 128) * 4096)) + IntKind.i64.wrap (((c.toNat:Int) - 128) * 64)) + ((d.toNat:Int) - 128))=recV [a,b,c,d]:=by
 have ga:=a.toNat_lt;have gb:=b.toNat_lt;have gc:=c.toNat_lt;have gd:=d.toNat_lt
 grind [recV,wrap64]
theorem sq (s:ByteArray) (h:1<=s.size/\s.size<=4):aR prog 252 [.v (.string s)] (.v (.int .i64 (recV (tx s)))):=by
 have gf:=bd s;refine eG 63 [.tmp 2] func252 rfl ntmps252 rfl fun _ _ _ _=>?_;refine lJ (fun e=>afL s e) s.size (ej 1 tJ lW) ?_;intro e he;refine br ?_ ?_<;>intro hL
 ·have az:e < s.size:=by have:=of_decide_eq_true hL;omega
  refine ⟨⟨by omega,by omega⟩,?_⟩;refine ⟨⟨by omega,by omega⟩,?_⟩;have hb:aq s e=((tx s).getD e 0).toNat:=rfl
  have hz:IntKind.i64.wrap (IntKind.i64.wrap (aq s ((e:Int).toNat):Nat) - 128)=(((tx s).getD e 0).toNat:Int) - 128:=by
   have h1:=((tx s).getD e 0).toNat_lt;have h2:aq s ((e:Int).toNat)=((tx s).getD e 0).toNat:=rfl;rw [h2,wrap64 (n:=(((tx s).getD e 0).toNat:Int)) (by omega) (by omega)];exact wrap64 (by omega) (by omega)
  have cx:(HH (tx s) e).set (0 + (e:Int).toNat * 1) (.v (.int .i64 (IntKind.i64.wrap (IntKind.i64.wrap (aq s ((e:Int).toNat):Nat) - 128))))=HH (tx s) (e + 1):=by grind [SH]
  refine ⟨by simp;omega,?_⟩;exact rE ⟨_,by omega,e + 1,rfl,by omega,rfl⟩ (ej 1 (by repeat' (first | exact rfl | exact aA rfl | exact Nj cx | exact aG (nxt az (by omega)) | refine ⟨_,_,rfl,?_,?_⟩)) (by repeat' (first | exact trivial | exact aA rfl | exact Nj cx | exact aG (nxt az (by omega)) | refine ⟨⟨_,rfl,?_⟩,?_⟩)))
 ·have hge:e=s.size:=by have:=of_decide_eq_false hL;omega
  subst hge;refine br ?_ ?_<;>intro cn
  ·have cn:s.size=1:=by have:=of_decide_eq_true cn;omega
   obtain ⟨a,hl⟩:∃ a,tx s=[a]:=by
    rw [cn] at gf
    match tx s,gf with
    | [a],_=>exact ⟨a,rfl⟩
   have ha:recC (tx s) s.size 0=(a.toNat:Int) - 128:=by rw [hl,cn];all_goals rfl
   have ga:=a.toNat_lt;refine ⟨⟨by omega,by omega⟩,?_⟩;refine (rY ?_:);rw [ha,hl];exact rec_1 a
  have c1:¬ s.size=1:=by have:=of_decide_eq_false cn;omega
  refine br ?_ ?_<;>intro cn
  ·have cn:s.size=2:=by have:=of_decide_eq_true cn;omega
   obtain ⟨a,b,hl⟩:∃ a b,tx s=[a,b]:=by
    rw [cn] at gf
    match tx s,gf with
    | [a,b],_=>exact ⟨a,b,rfl⟩
   have ha:recC (tx s) s.size 0=(a.toNat:Int) - 128:=by rw [hl,cn];all_goals rfl
   have ga:=a.toNat_lt;have hb:recC (tx s) s.size 1=(b.toNat:Int) - 128:=by rw [hl,cn];all_goals rfl
   have gb:=b.toNat_lt;refine ⟨⟨by omega,by omega⟩,?_⟩;refine ⟨⟨by omega,by omega⟩,?_⟩;refine (rY ?_:);rw [ha,hb,hl];exact rec_2 a b
  have c2:¬ s.size=2:=by have:=of_decide_eq_false cn;omega
  refine br ?_ ?_<;>intro cn
  ·have cn:s.size=3:=by have:=of_decide_eq_true cn;omega
   obtain ⟨a,b,c,hl⟩:∃ a b c,tx s=[a,b,c]:=by
    rw [cn] at gf
    match tx s,gf with
    | [a,b,c],_=>exact ⟨a,b,c,rfl⟩
   have ha:recC (tx s) s.size 0=(a.toNat:Int) - 128:=by rw [hl,cn];all_goals rfl
   have ga:=a.toNat_lt;have hb:recC (tx s) s.size 1=(b.toNat:Int) - 128:=by rw [hl,cn];all_goals rfl
   have gb:=b.toNat_lt;have hc:recC (tx s) s.size 2=(c.toNat:Int) - 128:=by rw [hl,cn];all_goals rfl
   have gc:=c.toNat_lt;refine ⟨⟨by omega,by omega⟩,?_⟩;refine ⟨⟨by omega,by omega⟩,?_⟩;refine ⟨⟨by omega,by omega⟩,?_⟩;refine (rY ?_:);rw [ha,hb,hc,hl];exact rec_3 a b c
  have c3:¬ s.size=3:=by have:=of_decide_eq_false cn;omega
  have cn:s.size=4:=by omega
  obtain ⟨a,b,c,d,hl⟩:∃ a b c d,tx s=[a,b,c,d]:=by
   rw [cn] at gf
   match tx s,gf with
   | [a,b,c,d],_=>exact ⟨a,b,c,d,rfl⟩
  have ha:recC (tx s) s.size 0=(a.toNat:Int) - 128:=by rw [hl,cn];all_goals rfl
  have ga:=a.toNat_lt;have hb:recC (tx s) s.size 1=(b.toNat:Int) - 128:=by rw [hl,cn];all_goals rfl
  have gb:=b.toNat_lt;have hc:recC (tx s) s.size 2=(c.toNat:Int) - 128:=by rw [hl,cn];all_goals rfl
  have gc:=c.toNat_lt;have hd:recC (tx s) s.size 3=(d.toNat:Int) - 128:=by rw [hl,cn];all_goals rfl
  have gd:=d.toNat_lt;refine ⟨⟨by omega,by omega⟩,?_⟩;refine ⟨⟨by omega,by omega⟩,?_⟩;refine ⟨⟨by omega,by omega⟩,?_⟩;refine ⟨⟨by omega,by omega⟩,?_⟩;refine (rY ?_:);rw [ha,hb,hc,hd,hl];exact rec_4 a b c d
def gM (z:Int):Bool:=decide (0<=z) && decide (z<=1114111) && (decide (z < 55296) || decide (57343 < z))
theorem pT (z:Int):aR prog 253 [.v (.int .i32 z)] (.v (.bool (gM z))):=by
 refine eG 17 [.tmp 2] func253 rfl ntmps253 rfl fun _ _ _ _=>?_;refine (dq ?_:);simp only [pickB_and,ak,gM]
def vQ (n:Nat):List UInt8:=
 if n < 128 then [UInt8.ofNat n] else if n < 2048 then [UInt8.ofNat (192 + n / 64),UInt8.ofNat (128 + n % 64)]
 else if n < 65536 then [UInt8.ofNat (224 + n / 4096),UInt8.ofNat (128 + n / 64 % 64),UInt8.ofNat (128 + n % 64)]
 else [UInt8.ofNat (240 + n / 262144),UInt8.ofNat (128 + n / 4096 % 64),UInt8.ofNat (128 + n / 64 % 64),UInt8.ofNat (128 + n % 64)]
def lY (z:Int):List UInt8:=if gM z=true then vQ z.toNat else []
theorem b8 {x:Int} {k:Nat} (hx:x=k) (hk:k < 256):IntKind.u8.wrap x=((UInt8.ofNat k).toNat:Int):=by
 rw [hx,UInt8.toNat_ofNat',IntKind.wrap_u8'];omega
theorem aa6 {n k:Nat} (hn:n<=1114111):IntKind.i64.wrap ((n:Int).tdiv (k:Int))=((n / k:Nat):Int):=by
 rw [Int.tdiv_eq_ediv_of_nonneg (by omega),<- Int.natCast_ediv];have:=Nat.div_le_self n k
 grind [wrap64]
theorem SI {n:Nat} (hn:n<=1114111):IntKind.i64.wrap ((n:Int).tdiv 64)=((n / 64:Nat):Int):=aa6 hn
theorem Nk {n:Nat} (hn:n<=1114111):IntKind.i64.wrap ((n:Int).tdiv 4096)=((n / 4096:Nat):Int):=aa6 hn
theorem Pj {n:Nat} (hn:n<=1114111):IntKind.i64.wrap ((n:Int).tdiv 262144)=((n / 262144:Nat):Int):=aa6 hn
theorem sr (z:Int):aR prog 254 [.v (.int .i32 z)] (.v (.string (ba (lY z)))):=by
 have hs:=pT z;have hE:lY z=if gM z=true then vQ z.toNat else []:=rfl
 have hB:gM z=(decide (0<=z) && decide (z<=1114111) && (decide (z < 55296) || decide (57343 < z))):=rfl;generalize lY z=E at hE ⊢;generalize gM z=B at hs hE hB;refine eG 64 [.tmp 2] func254 rfl ntmps254 rfl fun _ _ _ _=>?_;refine cP R6 hs ?_
 cases B with
 | false=>
  rw [af (by simp)] at hE;subst hE;exact (rfl:_=_)
 | true=>
  rw [zIfP rfl] at hE;have hB:=hB.symm;simp at hB;obtain ⟨n,rfl⟩:∃ n:Nat,z=n:=⟨z.toNat,by omega⟩;rw [dV] at hE;have hn:n<=1114111:=by omega
  have tj:IntKind.i64.wrap (n:Int)=n:=wrap64 (by omega) (by omega);unfold vQ at hE;refine br ?_ ?_<;>intro c
  ·have c:n < 128:=by have:=of_decide_eq_true c;omega
   rw [zIfP c] at hE;refine ⟨[UInt8.ofNat (n)],?_,?_⟩
   ·grind [u8L,b8]
   ·rw [hE];exact (rfl:_=_)
  have c1:¬ n < 128:=by have:=of_decide_eq_false c;omega
  rw [af c1] at hE;refine br ?_ ?_<;>intro c
  ·have c:n < 2048:=by have:=of_decide_eq_true c;omega
   rw [zIfP c] at hE;refine ⟨⟨rfl,by decide⟩,?_⟩;refine ⟨⟨rfl,by decide⟩,?_⟩;refine ⟨[UInt8.ofNat (192 + n / 64),UInt8.ofNat (128 + n % 64)],?_,?_⟩
   ·grind [u8L,b8,SI,wrap64]
   ·rw [hE];exact (rfl:_=_)
  have c2:¬ n < 2048:=by have:=of_decide_eq_false c;omega
  rw [af c2] at hE;refine br ?_ ?_<;>intro c
  ·have c:n < 65536:=by have:=of_decide_eq_true c;omega
   rw [zIfP c] at hE;refine ⟨⟨rfl,by decide⟩,?_⟩;refine ⟨⟨rfl,by decide⟩,?_⟩;refine ⟨⟨rfl,by decide⟩,?_⟩;refine ⟨⟨rfl,by decide⟩,?_⟩;refine ⟨[UInt8.ofNat (224 + n / 4096),UInt8.ofNat (128 + n / 64 % 64),UInt8.ofNat (128 + n % 64)],?_,?_⟩
   ·grind [u8L,b8,Nk,wrap64,SI]
   ·rw [hE];exact (rfl:_=_)
  have c3:¬ n < 65536:=by have:=of_decide_eq_false c;omega
  rw [af c3] at hE;refine ⟨⟨rfl,by decide⟩,?_⟩;refine ⟨⟨rfl,by decide⟩,?_⟩;refine ⟨⟨rfl,by decide⟩,?_⟩;refine ⟨⟨rfl,by decide⟩,?_⟩;refine ⟨⟨rfl,by decide⟩,?_⟩;refine ⟨⟨rfl,by decide⟩,?_⟩;refine ⟨[UInt8.ofNat (240 + n / 262144),UInt8.ofNat (128 + n / 4096 % 64),UInt8.ofNat (128 + n / 64 % 64),UInt8.ofNat (128 + n % 64)],?_,?_⟩
  ·simp only [List.flatten_cons,List.flatten_nil,List.append_nil,List.cons_append,List.nil_append,u8L,List.cons.injEq,and_true,DV.v.injEq,Value.int.injEq,true_and];refine ⟨?_,?_,?_,?_⟩
   ·grind [b8,Pj,wrap64]
   ·grind [b8,Nk,wrap64]
   ·grind [b8,SI,wrap64]
   ·grind [b8,wrap64]
  ·rw [hE];exact (rfl:_=_)
theorem tU (c:UInt8) (r:List UInt8):okU (c :: r)=(decide (1<=a7 c.toNat) && allC c.toNat r (a7 c.toNat - 1)):=rfl
def Zf (l:List UInt8):Bool:=gM (recV l) && decide (lY (recV l)=l)
theorem mi {k:Nat} {a:UInt8} (hk:k < 256):UInt8.ofNat k=a↔k=a.toNat:=by
 constructor
 ·rintro rfl;rw [UInt8.toNat_ofNat'];omega
 ·rintro rfl;exact UInt8.ofNat_toNat
theorem yB (l:List UInt8) {v:Int} (hv:recV l=v):Zf l=true↔(0<=v/\v<=1114111/\(v < 55296∨57343 < v))/\vQ v.toNat=l:=by grind [Zf,lY,gM,recV]
theorem nq (c:Nat):(c=224/\jA c=160)∨(c=240/\jA c=144)∨(c≠224/\c≠240/\jA c=128):=by
 unfold jA
 repeat' split
 all_goals omega
theorem nu (c:Nat):(c=237/\jB c=159)∨(c=244/\jB c=143)∨(c≠237/\c≠244/\jB c=191):=by
 unfold jB
 repeat' split
 all_goals omega
theorem contB_0 (c b:Nat):kx c 0 b=true↔jA c<=b/\b<=jB c:=by grind [kx]
theorem tV (c k b:Nat):kx c (k + 1) b=true↔128<=b/\b<=191:=by grind [kx]
theorem allC_1 (c:Nat) (b:UInt8) (r:List UInt8):allC c (b :: r) 1=kx c 0 b.toNat:=by simp [allC,List.range_succ]
theorem allC_2 (c:Nat) (b d:UInt8) (r:List UInt8):allC c (b :: d :: r) 2=(kx c 0 b.toNat && kx c 1 d.toNat):=by simp [allC,List.range_succ]
theorem allC_3 (c:Nat) (b d e:UInt8) (r:List UInt8):allC c (b :: d :: e :: r) 3=(kx c 0 b.toNat && kx c 1 d.toNat && kx c 2 e.toNat):=by simp [allC,List.range_succ,Bool.and_assoc]
theorem lead_1 (a:Nat):a7 a=1↔a < 128:=by
 unfold a7;repeat' split
 all_goals omega
theorem lead_2 (a:Nat):a7 a=2↔194<=a/\a<=223:=by
 unfold a7;repeat' split
 all_goals omega
theorem lead_3 (a:Nat):a7 a=3↔224<=a/\a<=239:=by
 unfold a7;repeat' split
 all_goals omega
theorem lead_4 (a:Nat):a7 a=4↔240<=a/\a<=244:=by
 unfold a7;repeat' split
 all_goals omega
theorem wf_1 (a:UInt8) (r:List UInt8):Zf [a]=true↔okU (a :: r)=true/\a7 a.toNat=1:=by
 have ha:=a.toNat_lt;rw [yB _ (v:=(a.toNat:Int)) rfl];rw [dV];unfold vQ;rw [tU];constructor
 ·intro ⟨h1,h2⟩;have:a.toNat < 128:=by grind
  have:=(lead_1 _).2 this;rw [this];exact ⟨rfl,rfl⟩
 ·intro ⟨_,h2⟩;have h2:=(lead_1 _).1 h2;rw [zIfP h2];exact ⟨by omega,by rw [UInt8.ofNat_toNat]⟩
theorem wf_2 (a b:UInt8) (r:List UInt8):Zf [a,b]=true↔okU (a :: b :: r)=true/\a7 a.toNat=2:=by
 have ha:=a.toNat_lt;have hb:=b.toNat_lt;rw [yB _ (v:=((a.toNat:Int) - 192) * 64 + ((b.toNat:Int) - 128)) rfl];unfold vQ;rw [tU];constructor
 ·grind [mi,lead_2,allC,allC_1,contB_0,nq,nu]
 ·intro ⟨h1,h2⟩;rw [h2] at h1;have h1:(true && allC _ _ 1)=true:=h1;rw [Bool.true_and,allC_1,contB_0] at h1;have hL:=nq a.toNat;have hH:=nu a.toNat
  grind [lead_2,mi]
theorem wf_3 (a b c:UInt8) (r:List UInt8):Zf [a,b,c]=true↔okU (a :: b :: c :: r)=true/\a7 a.toNat=3:=by
 have ha:=a.toNat_lt;have hb:=b.toNat_lt;have hc:=c.toNat_lt;rw [yB _ (v:=((a.toNat:Int) - 224) * 4096 + ((b.toNat:Int) - 128) * 64 + ((c.toNat:Int) - 128)) rfl];unfold vQ;rw [tU];constructor
 ·intro ⟨h1,h2⟩;generalize hn:((((a.toNat:Int) - 224) * 4096 + ((b.toNat:Int) - 128) * 64 + ((c.toNat:Int) - 128))).toNat=n at h2
  repeat' split at h2
  any_goals (simp at h2;done)
  simp only [List.cons.injEq,and_true] at h2;rw [mi (by omega),mi (by omega),mi (by omega)] at h2
  grind [lead_3,allC,allC_2,contB_0,tV,nq,nu]
 ·intro ⟨h1,h2⟩;rw [h2] at h1;have h1:(true && allC _ _ 2)=true:=h1;rw [Bool.true_and,allC_2,bh,contB_0,tV _ 0] at h1;have hL:=nq a.toNat;have hH:=nu a.toNat;have h2:=(lead_3 _).1 h2;rw [af (by omega),af (by omega),zIfP (by omega)];simp only [List.cons.injEq,and_true]
  grind [mi]
theorem wf_4 (a b c d:UInt8) (r:List UInt8):Zf [a,b,c,d]=true↔okU (a :: b :: c :: d :: r)=true/\a7 a.toNat=4:=by
 have ha:=a.toNat_lt;have hb:=b.toNat_lt;have hc:=c.toNat_lt;have hd:=d.toNat_lt;rw [yB _ (v:=((a.toNat:Int) - 240) * 262144 + ((b.toNat:Int) - 128) * 4096 + ((c.toNat:Int) - 128) * 64 + ((d.toNat:Int) - 128)) rfl];unfold vQ;rw [tU];constructor
 ·intro ⟨h1,h2⟩;generalize hn:((((a.toNat:Int) - 240) * 262144 + ((b.toNat:Int) - 128) * 4096 + ((c.toNat:Int) - 128) * 64 + ((d.toNat:Int) - 128))).toNat=n at h2
  repeat' split at h2
  any_goals (simp at h2;done)
  simp only [List.cons.injEq,and_true] at h2;rw [mi (by omega),mi (by omega),mi (by omega),mi (by omega)] at h2
  grind [lead_4,allC,allC_3,contB_0,tV,nq,nu]
 ·intro ⟨h1,h2⟩;rw [h2] at h1;have h1:(true && allC _ _ 3)=true:=h1;rw [Bool.true_and,allC_3,bh,bh,contB_0,tV _ 0,tV _ 1] at h1;have hL:=nq a.toNat;have hH:=nu a.toNat;have h2:=(lead_4 _).1 h2;rw [af (by omega),af (by omega),af (by omega)];simp only [List.cons.injEq,and_true];rw [mi (by omega),mi (by omega),mi (by omega),mi (by omega)];omega
theorem WG (a:Nat):a7 a<=4:=by
 unfold a7;repeat' split
 all_goals omega
theorem Nl {l:List UInt8} (h:okU l=true):∃ c r,l=c :: r/\1<=a7 c.toNat/\a7 c.toNat<=l.length/\gp l=a7 c.toNat:=by
 cases l with
 | nil=>cases h
 | cons c r=>
  refine ⟨c,r,rfl,?_,?_,?_⟩
  ·grind [okU]
  ·have h0:=h;unfold okU at h;rw [bh] at h;rcases Nat.lt_or_ge r.length (a7 c.toNat - 1) with g | g
   ·have h2:=h.2;unfold allC at h2;rw [List.all_eq_true] at h2;have:=h2 r.length (List.mem_range.2 g)
    grind
   ·rw [List.length_cons];omega
  ·show (if _ then _ else _)=_;rw [zIfP h]
theorem wf_n (c:UInt8) (r:List UInt8) (n:Nat) (h1:1<=n) (h4:n<=4) (hl:n<=r.length + 1):Zf ((c :: r).take n)=(okU (c :: r) && decide (a7 c.toNat=n)):=by
 apply Bool.eq_iff_iff.2;rw [bh,decide_eq_true_iff]
 match n,h1,h4,hl with
 | 1,_,_,_=>exact wf_1 c r
 | 2,_,_,h=>match r,h with
  | b :: r,_=>exact wf_2 c b r
 | 3,_,_,h=>match r,h with
  | b :: d :: r,_=>exact wf_3 c b d r
 | 4,_,_,h=>match r,h with
  | b :: d :: e :: r,_=>exact wf_4 c b d e r
theorem gJ {l:List UInt8} (h:l ≠ []):1<=gp l/\gp l<=l.length:=by
 cases l with
 | nil=>exact absurd rfl h
 | cons c r=>
  show 1<=(if _ then _ else _)/\(if _ then _ else _)<=_
  grind [Nl]
theorem rH (n:Int) (p:ByteArray):Ev prog 300 [.v (.int .i64 n),.v (.string p)] [] [] (fun d _ _=>∃ b:Bool,d = .v (.bool b)):=by
 have hc:=sr (IntKind.i32.wrap n);refine eG 22 [.tmp 4] func300 rfl ntmps300 rfl fun _ _ _ _=>?_;refine cP R7 hc ?_;refine br ?_ ?_<;>intro c
 ·refine ⟨⟨by omega,by omega,by simp at c;omega⟩,?_⟩;exact ⟨_,rfl⟩
 ·exact ⟨_,rfl⟩
abbrev lf01St (p a z:ByteArray) (e:Nat):St:=⟨[(0,⟨[],.v (.string p)⟩),(3,⟨[],.v (.string a)⟩),(4,⟨[],.v (.string z)⟩),aC 5 e],[],[]⟩
theorem size_app (a b:ByteArray):(a ++ b).size=a.size + b.size:=by rw [<- bd,aa2,List.length_append,bd,bd]
theorem HI (p:ByteArray) (hp:1<=p.size/\p.size<=3):Ev prog 255 [.v (.string p)] [] [] (fun d _ _=>∃ b:Bool,d = .v (.bool b)):=by
 refine eG 40 [.tmp 2] func255 rfl ntmps255 rfl fun _ _ _ _=>?_;refine lI (fun j st=>∃ (e:Nat) (a z:ByteArray),st=lf01St p a z e/\e<=4/\p.size<=a.size/\a.size<=4/\z.size=a.size/\j=4 - e) ⟨0,p,p,rfl,by omega,by omega,by omega,rfl,rfl⟩ (wkM lW) ?_;rintro j st ⟨e,a,z,rfl,he,ha,ha4,hz,rfl⟩;have hra:=sq a (by omega);have hrz:=sq z (by omega);have hba:=rH (recV (tx a)) p;have hbz:=rH (recV (tx z)) p;refine br ?_ ?_<;>intro hL
 rotate_left
 ·exact ⟨_,rfl⟩
 have az:e < 4:=by have:=of_decide_eq_true hL;omega
 have ly:∀ (a' z':ByteArray),p.size<=a'.size->a'.size<=4->z'.size=a'.size->∃ j',j' < 4 - e/\∃ (e':Nat) (a'' z'':ByteArray),lf01St p a' z' (e + 1)=lf01St p a'' z'' e' /\ e' <= 4/\p.size<=a''.size/\a''.size<=4/\z''.size=a''.size/\j'=4 - e':=fun a' z' h1 h2 h3=>⟨4 - (e + 1),by omega,e + 1,a',z',rfl,by omega,h1,h2,h3,rfl⟩;refine br ?_ ?_<;>intro c
 ·refine cP R5 hra ?_;refine bZ Y3 rfl hba ax (fun q hq=>?_);obtain ⟨b1,rfl⟩:=hq
  cases b1 with
  | true=>
   exact ⟨_,rfl⟩
  | false=>
   refine cP R5 hrz ?_;refine bZ Y3 rfl hbz ax (fun q hq=>?_);obtain ⟨b2,rfl⟩:=hq
   cases b2 with
   | true=>
     exact ⟨_,rfl⟩
   | false=>
    refine br ?_ ?_<;>intro g
    ·refine ⟨[128],rfl,?_⟩;refine ⟨by show a.size + 1<=_;omega,?_⟩;refine ⟨[191],rfl,?_⟩;refine ⟨by show z.size + 1<=_;omega,?_⟩;obtain ⟨j',h1,h2⟩:=ly (a ++ ba [128]) (z ++ ba [191]) (by rw [size_app];omega) (by rw [size_app];have:=of_decide_eq_true g;show _ + 1<=4;omega) (by rw [size_app,size_app,hz];rfl);exact ⟨lf01St p (a ++ ba [128]) (z ++ ba [191]) (e + 1),(wkM (wB1 (nxt az (by omega)))),j',h1,h2⟩
    ·obtain ⟨j',h1,h2⟩:=ly a z ha ha4 hz;exact ⟨lf01St p a z (e + 1),(wkM (wB1 (nxt az (by omega)))),j',h1,h2⟩
 ·refine br ?_ ?_<;>intro g
  ·refine ⟨[128],rfl,?_⟩;refine ⟨by show a.size + 1<=_;omega,?_⟩;refine ⟨[191],rfl,?_⟩;refine ⟨by show z.size + 1<=_;omega,?_⟩;obtain ⟨j',h1,h2⟩:=ly (a ++ ba [128]) (z ++ ba [191]) (by rw [size_app];omega) (by rw [size_app];have:=of_decide_eq_true g;show _ + 1<=4;omega) (by rw [size_app,size_app,hz];rfl);exact ⟨lf01St p (a ++ ba [128]) (z ++ ba [191]) (e + 1),(wkM (wB1 (nxt az (by omega)))),j',h1,h2⟩
  ·obtain ⟨j',h1,h2⟩:=ly a z ha ha4 hz;exact ⟨lf01St p a z (e + 1),(wkM (wB1 (nxt az (by omega)))),j',h1,h2⟩
theorem wrap32 {n:Int} (h1 : -2147483648<=n) (h2:n<=2147483647):IntKind.i32.wrap n=n:=by
 simp [IntKind.wrap,IntKind.min,IntKind.max,IntKind.signed,IntKind.bits];omega
abbrev zZ (s:ByteArray) (e:Nat):St:=⟨[(0,⟨[],.v (.string s)⟩),aC 7 ((e + 1:Nat):Int)],[],[]⟩
abbrev Kv (s:ByteArray) (m:Int) (e:Nat):St:=⟨[(0,⟨[],.v (.string s)⟩),aC 9 m,aC 10 ((e + 2:Nat):Int)],[],[]⟩
theorem SJ (l:List UInt8) : -2147483648<=recV l/\recV l<=2147483647:=by
 have hb:=fun x:UInt8=>x.toNat_lt
 match l with
 | []=>simp [recV]
 | [a]=>have:=hb a;simp only [recV];omega
 | [a,b]=>have:=hb a;have:=hb b;simp only [recV];omega
 | [a,b,c]=>have:=hb a;have:=hb b;have:=hb c;simp only [recV];omega
 | [a,b,c,d]=>have:=hb a;have:=hb b;have:=hb c;have:=hb d;simp only [recV];omega
 | _ :: _ :: _ :: _ :: _ :: _=>simp [recV]
theorem Fo (s:ByteArray) (n:Nat):tx (s.extract 0 n)=(tx s).take n:=by simp [tx]
theorem SK {s:ByteArray} {l:List UInt8} {k:Nat} (hB:tx s=l):s.extract 0 k=ba (l.take k):=pP (by rw [Fo,hB])
theorem SL {a b:List UInt8}:ba a=ba b↔a=b:=⟨fun h=>by have:=congrArg tx h;rwa [C8,C8] at this,fun h=>by rw [h]⟩
theorem lz (s:ByteArray) (cT:Nat) (hs:s.size<=1099511627776) (c:UInt8) (r:List UInt8) (h:(tx s).drop cT=c :: r) :
  Ev prog 173 [.v (.string s),.v (.int .i64 cT)] [] [] (fun d _ _=>∃ (z:Int) (n:Int),d = .bo [.v (.int .i32 z),.v (.int .i64 n),.v (.bool (okU (c :: r)))]/\(okU (c :: r)=true->n=a7 c.toNat/\z=recV ((c :: r).take (a7 c.toNat))/\gM z=true)):=by
 have hlen:cT < s.size:=by
  have:=congrArg List.length h;rw [List.length_drop,bd] at this;simp at this;omega
 have hB:tx (s.extract (cT:Int).toNat (s.size:Int).toNat)=c :: r:=by
  rw [<- h];simp [tx,dV];exact List.take_of_length_le (by rw [List.length_drop];have:=bd s;unfold tx at this;omega)
 have cK:(s.extract (cT:Int).toNat (s.size:Int).toNat).size=r.length + 1:=by rw [<- bd,hB];all_goals rfl
 have hwf:=fun n=>wf_n c r n;have fh:=fun (h:okU (c :: r)=true)=>Nl h;refine eG 65 [.tmp 4,.tmp 5,.tmp 6] func173 rfl ntmps173 rfl fun _ _ _ _=>?_;refine br (fun c=>absurd c (by simp [ak];omega)) (fun _=>?_);refine ⟨⟨by omega,by omega,by omega⟩,?_⟩;generalize s.extract (cT:Int).toNat (s.size:Int).toNat=b at hB cK ⊢;refine lI (fun j st=>∃ e:Nat,st=zZ b e/\e<=4/\(okU (c :: r)=true->e < a7 c.toNat)/\j=4 - e) ⟨0,rfl,by omega,fun h=>by obtain ⟨_,_,h1,h2,_⟩:=fh h;cases h1;omega,rfl⟩ (wkM lW) ?_;rintro j st ⟨e,rfl,he,bF,rfl⟩;refine br ?_ ?_<;>intro hL
 ·have hL:e < 4/\e<=r.length:=by
   simp [pickB_and,cK] at hL;omega
  have hx:(b.extract 0 (((e + 1:Nat):Int)).toNat)=ba ((c :: r).take (e + 1)):=SK hB;have hbl:(ba ((c :: r).take (e + 1))).size=e + 1:=by rw [<- bd,C8,zLenT,List.length_cons];omega
  have WH:=sq (b.extract 0 (((e + 1:Nat):Int)).toNat) (by rw [hx];omega);rw [show tx (b.extract 0 (((e + 1:Nat):Int)).toNat)=(c :: r).take (e + 1) from by rw [hx,C8]] at WH;have hri:=SJ ((c :: r).take (e + 1));have hw:=hwf (e + 1) (by omega) (by omega) (by omega);have hwd:Zf ((c :: r).take (e + 1))=(gM (recV ((c :: r).take (e + 1))) && decide (lY (recV ((c :: r).take (e + 1)))=(c :: r).take (e + 1))):=rfl;rw [hwd] at hw;have Ro:b.size=r.length + 1:=cK;generalize Hk:(c :: r).take (e + 1)=l at WH hri hw hx;generalize hz0:recV l=z at WH hri hw;have hzr:z=recV ((c :: r).take (e + 1)):=by rw [Hk,hz0]
  have Kw:IntKind.i32.wrap z=z:=by
   exact wrap32 (by omega) (by omega)
  have nc:aR prog 253 [.v (.int .i32 (IntKind.i32.wrap z))] (.v (.bool (gM z))):=by
   rw [Kw];exact pT z
  have gY:aR prog 254 [.v (.int .i32 (IntKind.i32.wrap z))] (.v (.string (ba (lY z)))):=by
   rw [Kw];exact sr z
  generalize hsb:gM z=sb at nc hw;generalize lY z=en at gY hw;refine ⟨⟨by omega,by omega,by omega⟩,?_⟩;refine cP R5 WH ?_
  have xF:okU (c :: r)=false∨e + 1≠a7 c.toNat->∃ j',j' < 4 - e/\∃ e',zZ b (e + 1)=zZ b e' /\ e' <= 4/\(okU (c :: r)=true->e' < a7 c.toNat)/\j'=4 - e':=fun h=>⟨4 - (e + 1),by omega,e + 1,rfl,by omega,fun h2=>by
   have:=bF h2;rcases h with h | h
   ·rw [h] at h2;cases h2
   ·omega,rfl⟩
  have SM:(sb && decide (en=l))=false->okU (c :: r)=false∨e + 1≠a7 c.toNat:=fun h=>by
   rw [h] at hw;cases ho:okU (c :: r)
   ·exact .inl rfl
   ·rw [ho] at hw;simp at hw;exact .inr fun h=>hw h.symm
  refine dI ?_;refine cD R6 nc ?_
  cases sb with
  | false=>
   obtain ⟨j',h1,h2⟩:=xF (SM rfl);exact ⟨zZ b (e + 1),(wkM (by repeat' (first | exact trivial | exact aA rfl | exact aG (nxt (by omega:e + 1 < 5) (by omega)) | refine ⟨⟨_,rfl,?_⟩,?_⟩))),j',h1,h2⟩
  | true=>
   refine cD R7 gY ?_;refine ⟨⟨by omega,by omega,by omega⟩,?_⟩;refine br ?_ ?_<;>intro cc
   ·have hT:(true && decide (en=l))=true:=by
     have c1:ba en=b.extract 0 (((e + 1:Nat):Int)).toNat:=by simpa [pickB] using cc
     rw [hx,SL] at c1;simp [c1]
    rw [hT] at hw;have hu:=hw.symm;rw [bh,decide_eq_true_iff] at hu;rw [hu.1];exact ⟨.bo [.v (.int .i32 (IntKind.i32.wrap z)),.v (.int .i64 ((e + 1:Nat):Int)),.v (.bool true)],ax,_,_,rfl,fun _=>⟨by rw [hu.2],by rw [Kw,hzr,hu.2],by rw [Kw,hsb]⟩⟩
   ·have hF:(true && decide (en=l))=false:=by
     have c1:¬ ba en=b.extract 0 (((e + 1:Nat):Int)).toNat:=by simpa [pickB] using cc
     rw [hx,SL] at c1;simp [c1]
    obtain ⟨j',h1,h2⟩:=xF (SM hF);exact ⟨zZ b (e + 1),(wkM (by repeat' (first | exact trivial | exact aA rfl | exact aG (nxt (by omega:e + 1 < 5) (by omega)) | refine ⟨⟨_,rfl,?_⟩,?_⟩))),j',h1,h2⟩
 ·have hno:okU (c :: r)=false:=by
   cases ho:okU (c :: r)
   ·rfl
   ·obtain ⟨_,_,h1,h2,h3,_⟩:=fh ho;cases h1;have h4:=bF ho;have h5:=WG c.toNat;rw [List.length_cons] at h3;simp [pickB_and,cK] at hL;omega
  rw [hno];refine lI (fun j st=>∃ (e:Nat) (m:Int),st=Kv b m e/\e<=2/\j=2 - e) ⟨0,1,rfl,by omega,rfl⟩ (wkM lW) ?_;rintro j st ⟨e,m,rfl,he,rfl⟩;refine br ?_ ?_<;>intro hL
  ·have hL:e < 2/\e + 1<=r.length:=by
    simp [pickB_and,cK] at hL;omega
   have hx:(b.extract 0 (((e + 2:Nat):Int)).toNat)=ba ((c :: r).take (e + 2)):=SK hB;have hbl:(ba ((c :: r).take (e + 2))).size=e + 2:=by rw [<- bd,C8,zLenT,List.length_cons];omega
   have JO:=HI (b.extract 0 (((e + 2:Nat):Int)).toNat) (by rw [hx];omega);refine ⟨⟨by omega,by omega,by rw [cK];omega⟩,?_⟩;refine bZ aeT rfl JO ax (fun q hq=>?_);obtain ⟨b1,rfl⟩:=hq
   cases b1 with
   | true=>exact ⟨Kv b ((e + 2:Nat):Int) (e + 1),(wkM (by repeat' (first | exact trivial | exact aA rfl | exact aG (nxt (by omega:e + 2 < 4) (by omega)) | refine ⟨⟨_,rfl,?_⟩,?_⟩))),2 - (e + 1),by omega,e + 1,_,rfl,by omega,rfl⟩
   | false=>exact ⟨Kv b m (e + 1),(wkM (by repeat' (first | exact trivial | exact aA rfl | exact aG (nxt (by omega:e + 2 < 4) (by omega)) | refine ⟨⟨_,rfl,?_⟩,?_⟩))),2 - (e + 1),by omega,e + 1,_,rfl,by omega,rfl⟩
  ·exact ⟨.bo [.v (.int .i32 0),.v (.int .i64 m),.v (.bool false)],ax,_,_,rfl,fun h=>by cases h⟩
def spB:List DV->Bool
 | [.v (.int .i32 _),.v (.int .i32 _)]=>true
 | _=>false
theorem SN {cs:List DV} (h:spB cs=true):∃ a b:Int,cs=[.v (.int .i32 a),.v (.int .i32 b)]:=by
 unfold spB at h;split at h
 ·exact ⟨_,_,rfl⟩
 ·cases h
theorem Zg {es:List (List DV)} (h:es.all spB=true) {i:Nat} (hi:i < es.length):∃ a b:Int,es[i]? = some [.v (.int .i32 a),.v (.int .i32 b)]:=by
 rw [List.all_eq_true] at h;obtain ⟨a,b,yh⟩:=SN (h es[i] (List.getElem_mem hi))
 grind
def mE (z:Int):List DV->Bool
 | [.v (.int .i32 a),.v (.int .i32 b)]=>decide (a<=z) && decide (z<=b)
 | _=>false
def srtB:Int->List (List DV)->Bool
 | _,[]=>true
 | m,[.v (.int .i32 a),.v (.int .i32 b)] :: r=>decide (m < a) && decide (a<=b) && srtB b r
 | _,_=>false
theorem Aa {m:Int} {x:List DV} {r:List (List DV)} (h:srtB m (x :: r)=true):∃ a b:Int,x=[.v (.int .i32 a),.v (.int .i32 b)]/\m < a/\a<=b/\srtB b r=true:=by
 unfold srtB at h
 grind
theorem yC:∀ {es:List (List DV)} {m:Int} (_:srtB m es=true) {i:Nat} {a b:Int} (_:es[i]? = some [.v (.int .i32 a),.v (.int .i32 b)]),m < a/\a<=b/\srtB b (es.drop (i + 1))=true
 | [],_,_,i,_,_,hi=>by simp at hi
 | x :: r,m,h,i,a,b,hi=>by
  obtain ⟨a0,b0,rfl,h1,h2,h3⟩:=Aa h
  cases i with
  | zero=>grind
  | succ i=>
   obtain ⟨g1,g2,g3⟩:=yC h3 (i:=i) (sU hi);exact ⟨by omega,g2,g3⟩
theorem SO {z:Int}:∀ {es:List (List DV)} {m:Int} (_:srtB m es=true) (_:z<=m),es.any (mE z)=false
 | [],_,_,_=>rfl
 | x :: r,m,h,hz=>by
  obtain ⟨a0,b0,rfl,h1,h2,h3⟩:=Aa h;rw [List.any_cons,SO h3 (by omega),Bool.or_false]
  grind [mE]
theorem aa8 {z m:Int} {es:List (List DV)} (h:srtB m es=true) {i:Nat} {a b:Int} (hi:es[i]? = some [.v (.int .i32 a),.v (.int .i32 b)]) (hz:z < a):(es.drop i).any (mE z)=false:=by
 obtain ⟨g1,g2,g3⟩:=yC h hi;rw [drop_cons hi,List.any_cons,SO g3 (by omega),Bool.or_false]
 grind [mE]
theorem SP {z:Int}:∀ {es:List (List DV)} {m:Int} (_:srtB m es=true) {i:Nat} {a b:Int} (_:es[i]? = some [.v (.int .i32 a),.v (.int .i32 b)]) (_:b < z),(es.take (i + 1)).any (mE z)=false
 | [],_,_,i,_,_,hi,_=>by simp at hi
 | x :: r,m,h,i,a,b,hi,hz=>by
  obtain ⟨a0,b0,rfl,h1,h2,h3⟩:=Aa h
  cases i with
  | zero=>grind [mE]
  | succ i=>
   have hi:r[i]? = some [.v (.int .i32 a),.v (.int .i32 b)]:=sU hi;have g1:=(yC h3 hi).1;have g2:=(yC h3 hi).2.1;rw [List.take_succ_cons,List.any_cons,SP h3 hi hz,Bool.or_false]
   grind [mE]
theorem Nn {es:List (List DV)} {z a b:Int} {i:Nat} (hi:es[i]? = some [.v (.int .i32 a),.v (.int .i32 b)]) (h1:a<=z) (h2:z<=b):es.any (mE z)=true:=
 List.any_eq_true.2 ⟨_,mG hi,by simp only [mE,bh,decide_eq_true_iff];omega⟩
def afP (d:DV) (_:List (List DV)) (_:List TkE):Prop:=∃ es:List (List DV),d = .sl 2 es none/\(Nat.ble es.length 1000 && es.all spB)=true
set_option maxHeartbeats 4000000 in
theorem Kx:Ev prog 301 [] [] [] afP:=by
 refine eG 118 [.tmp 0] func301 rfl ntmps301 rfl fun _ _ _ _=>?_;exact ⟨_,ax,_,rfl,rfl⟩
set_option maxHeartbeats 4000000 in
theorem Ky:Ev prog 302 [] [] [] afP:=by
 refine eG 84 [.tmp 0] func302 rfl ntmps302 rfl fun _ _ _ _=>?_;exact ⟨_,ax,_,rfl,rfl⟩
abbrev hasSt (es:List (List DV)) (z:Int) (e:Nat):St:=⟨[bJ 0 2 es,(1,⟨[],.v (.int .i32 z)⟩),aC 5 e],[],[]⟩
theorem ss (es:List (List DV)) (z:Int) (hl:es.length<=1000) (hs:es.all spB=true):Ev prog 256 [.sl 2 es none,.v (.int .i32 z)] [] [] (fun d _ _=>∃ b:Bool,d = .v (.bool b)/\(0<=z->z<=1114111->b=es.any (mE z))):=by
 refine eG 36 [.tmp 4] func256 rfl ntmps256 rfl fun _ _ _ _=>?_;refine lI (fun j st=>∃ e:Nat,st=hasSt es z e/\e<=es.length/\(0<=z->z<=1114111->es.any (mE z)=(es.drop e).any (mE z))/\j=es.length - e) ⟨0,rfl,by omega,fun _ _=>rfl,rfl⟩ (wkM lW) ?_;rintro j st ⟨e,rfl,he,hiv,rfl⟩;refine br ?_ ?_<;>intro hL
 rotate_left
 ·have hge:e=es.length:=by have:=of_decide_eq_false hL;omega
  refine ⟨_,rfl,fun h1 h2=>?_⟩;rw [hiv h1 h2,hge,List.drop_length];all_goals rfl
 have az:e < es.length:=by have:=of_decide_eq_true hL;omega
 obtain ⟨a,b,yh⟩:=Zg hs az
 have ly:(0<=z->z<=1114111->¬ (a<=z/\z<=b))->∃ j',j' < es.length - e/\∃ e':Nat,hasSt es z (e + 1)=hasSt es z e' /\ e' <= es.length/\(0<=z->z<=1114111->es.any (mE z)=(es.drop e').any (mE z))/\j'=es.length - e':=fun hno=>⟨es.length - (e + 1),by omega,e + 1,rfl,by omega,fun h1 h2=>by
  rw [hiv h1 h2,drop_cons yh,List.any_cons];have:mE z [.v (.int .i32 a),.v (.int .i32 b)]=false:=by grind [mE]
  rw [this,Bool.false_or],rfl⟩
 refine br ?_ ?_<;>intro c1
 ·refine ⟨_,⟨by omega,yh⟩,?_⟩;refine br ?_ ?_<;>intro c2
  ·have c2:a<=z:=by simpa [pickB_and] using c2
   refine ⟨_,⟨by omega,yh⟩,?_⟩;refine br ?_ ?_<;>intro c3
   ·exact ⟨_,rfl,fun _ _=>(Nn yh c2 (by simpa [pickB_and] using c3)).symm⟩
   ·obtain ⟨j',h1,h2⟩:=ly (fun _ _=>by simp [pickB_and] at c3;omega);exact ⟨hasSt es z (e + 1),(wkM (wB1 (nxt az (by omega)))),j',h1,h2⟩
  ·obtain ⟨j',h1,h2⟩:=ly (fun _ _=>by simp [pickB_and] at c2;omega);exact ⟨hasSt es z (e + 1),(wkM (wB1 (nxt az (by omega)))),j',h1,h2⟩
 ·obtain ⟨j',h1,h2⟩:=ly (fun _ _=>by simp [pickB_and] at c1;omega);exact ⟨hasSt es z (e + 1),(wkM (wB1 (nxt az (by omega)))),j',h1,h2⟩
abbrev aa9 (es:List (List DV)) (z:Int) (lo hi:Nat):St:=⟨[bJ 0 2 es,(1,⟨[],.v (.int .i32 z)⟩),aC 5 lo,aC 6 hi],[],[]⟩
theorem WI (es:List (List DV)) (z:Int) (hl:es.length<=1000) (hs:es.all spB=true):Ev prog 347 [.sl 2 es none,.v (.int .i32 z)] [] [] (fun d _ _=>∃ b:Bool,d = .v (.bool b)/\∀ m,srtB m es=true->b=es.any (mE z)):=by
 refine eG 38 [.tmp 4] func347 rfl ntmps347 rfl fun _ _ _ _=>?_;refine lI (fun j st=>∃ lo hi:Nat,st=aa9 es z lo hi/\lo<=hi/\hi<=es.length/\(∀ m,srtB m es=true->(es.take lo).any (mE z)=false/\(es.drop hi).any (mE z)=false)/\j=hi - lo) ⟨0,es.length,rfl,by omega,by omega,fun _ _=>⟨rfl,by rw [List.drop_length];rfl⟩,rfl⟩ (wkM lW) ?_;rintro j st ⟨lo,hi,rfl,h1,h2,hiv,rfl⟩;refine br ?_ ?_<;>intro hL
 rotate_left
 ·have hge:lo=hi:=by have:=of_decide_eq_false hL;omega
  refine ⟨_,rfl,fun m hm=>?_⟩;obtain ⟨g1,g2⟩:=hiv m hm;rw [<- hge] at g2;rw [<- List.take_append_drop lo es,List.any_append,g1,g2];all_goals rfl
 have az:lo < hi:=by have:=of_decide_eq_true hL;omega
 have hm:IntKind.i64.wrap ((lo:Int) + IntKind.i64.wrap ((IntKind.i64.wrap ((hi:Int) - lo)).tdiv 2))=((lo + (hi - lo) / 2:Nat):Int):=by grind [wrap64]
 obtain ⟨a,b,yh⟩:=Zg hs (i:=lo + (hi - lo) / 2) (by omega);refine ⟨⟨rfl,by decide⟩,?_⟩;refine ⟨_,⟨by rw [hm];omega,by rw [hm,dV];exact yh⟩,?_⟩;refine br ?_ ?_<;>intro c
 ·exact ⟨aa9 es z lo (lo + (hi - lo) / 2),(wkM (wB1 hm)),lo + (hi - lo) / 2 - lo,by omega,_,_,rfl,by omega,by omega,fun m hm=>⟨(hiv m hm).1,aa8 hm yh (sU c)⟩,rfl⟩
 ·refine ⟨_,⟨by rw [hm];omega,by rw [hm,dV];exact yh⟩,?_⟩;have c0:=c;refine br ?_ ?_<;>intro c
  ·have GX:IntKind.i64.wrap (IntKind.i64.wrap ((lo:Int) + IntKind.i64.wrap ((IntKind.i64.wrap ((hi:Int) - lo)).tdiv 2)) + 1)=((lo + (hi - lo) / 2 + 1:Nat):Int):=by
    rw [hm,wrap64 (by omega) (by omega)];omega
   exact ⟨aa9 es z (lo + (hi - lo) / 2 + 1) hi,(wkM (wB1 GX)),hi - (lo + (hi - lo) / 2 + 1),by omega,_,_,rfl,by omega,by omega,fun m hm=>⟨SP hm yh (sU c),(hiv m hm).2⟩,rfl⟩
  ·exact ⟨_,rfl,fun _ _=>(Nn yh (sU c0) (sU c)).symm⟩
theorem HJ (z:Int):Ev prog 259 [.v (.int .i32 z)] [] [] (fun d _ _=>∃ n:Int,d = .v (.int .i64 n)):=by
 refine eG 9 [.tmp 2] func259 rfl ntmps259 rfl fun _ _ _ _=>?_;refine bZ afa rfl Kx ax (fun q hq=>?_);obtain ⟨es,rfl,he⟩:=hq;rw [bh,Nat.ble_eq] at he;refine bZ MY rfl (ss es z he.1 he.2) ax (fun q hq=>?_);obtain ⟨b,rfl,_⟩:=hq
 cases b with
 | true=>exact ⟨_,rfl⟩
 | false=>
  refine bZ afb rfl Ky ax (fun q hq=>?_);obtain ⟨es,rfl,he⟩:=hq;rw [bh,Nat.ble_eq] at he;refine bZ MY rfl (ss es z he.1 he.2) ax (fun q hq=>?_);obtain ⟨b,rfl,_⟩:=hq
  cases b with
  | true=>exact ⟨_,rfl⟩
  | false=>exact ⟨_,rfl⟩
theorem HK (x b:Nat):(x:Int).fdiv (2 ^ b)=((x / 2 ^ b:Nat):Int):=by grind
theorem jP (m:Nat):BitVec.ofInt 64 (m:Int)=BitVec.ofNat 64 m:=by simp
theorem Np {x b:Nat} (hb:b < 64) (hx:x < 18446744073709551616) :
  decide (IntKind.u64.wrap ((BitVec.ofInt 64 ((x:Int).fdiv (2 ^ (min b 64))) &&& BitVec.ofInt 64 1).toNat:Int)=1)=x.testBit b:=by
 rw [Nat.min_eq_left (by omega),HK,jP,show (BitVec.ofInt 64 1)=BitVec.ofNat 64 1 by decide,BitVec.toNat_and,BitVec.toNat_ofNat,BitVec.toNat_ofNat,Nat.testBit_eq_decide_div_mod_eq];have h1:x / 2 ^ b < 18446744073709551616:=Nat.lt_of_le_of_lt (Nat.div_le_self _ _) hx;rw [Nat.mod_eq_of_lt h1,show (1 % 2 ^ 64:Nat)=1 by decide,Nat.and_one_is_mod];simp only [IntKind.wrap_u64];congr 1;apply propext;omega
theorem Kz {x b:Nat} (hb:b < 64) (hx:x < 18446744073709551616) :
  IntKind.u64.wrap ((BitVec.ofInt 64 (x:Int) ||| BitVec.ofInt 64 (IntKind.u64.wrap (1 * 2 ^ (min b 64)))).toNat:Int)=((x ||| 2 ^ b:Nat):Int):=by
 have h2:2 ^ b < 18446744073709551616:=by
  have:2 ^ b<=2 ^ 63:=Nat.pow_le_pow_right (by decide) (by omega);omega
 have e1:IntKind.u64.wrap (1 * 2 ^ (min b 64))=((2 ^ b:Nat):Int):=by
  rw [Nat.min_eq_left (by omega),Int.one_mul];have:((2:Int) ^ b)=((2 ^ b:Nat):Int):=by simp
  rw [this];generalize 2 ^ b=z at h2;simp only [IntKind.wrap_u64];omega
 rw [e1,jP,jP,BitVec.toNat_or,BitVec.toNat_ofNat,BitVec.toNat_ofNat,Nat.mod_eq_of_lt hx,Nat.mod_eq_of_lt h2];have h3:x ||| 2 ^ b < 18446744073709551616:=Nat.or_lt_two_pow (n:=64) hx h2
 simp only [IntKind.wrap_u64];omega
theorem WJ {x y:Nat} (hx:x < 18446744073709551616) (hy:y < 18446744073709551616) :
  IntKind.u64.wrap ((BitVec.ofInt 64 (x:Int) ||| BitVec.ofInt 64 (y:Int)).toNat:Int)=((x ||| y:Nat):Int):=by
 rw [jP,jP,BitVec.toNat_or,BitVec.toNat_ofNat,BitVec.toNat_ofNat,Nat.mod_eq_of_lt hx,Nat.mod_eq_of_lt hy];have h3:x ||| y < 18446744073709551616:=Nat.or_lt_two_pow (n:=64) hx hy
 simp only [IntKind.wrap_u64];omega
theorem lC (x a b:Nat):(x ||| 2 ^ b).testBit a=(x.testBit a || decide (b=a)):=by
 rw [Nat.testBit_or,Nat.testBit_two_pow]
def dU (rows:List Nat):List (List DV):=rows.map fun (x:Nat)=>[DV.v (.int .u64 (x:Int))]
theorem mF (rows:List Nat):(dU rows).length=rows.length:=by simp [dU]
theorem aba {rows:List Nat} {i:Nat} {x:Nat} (h:rows[i]? = some x):(dU rows)[i]? = some [DV.v (.int .u64 (x:Int))]:=by simp [dU,h]
abbrev pq (rows:List Nat):DV:=.pt [.sl 1 (dU rows) none] 0
def eY (rows:List Nat):Prop:=rows.length<=64/\∀ x∈rows,x < 18446744073709551616
def bp (rows:List Nat) (a b:Nat):Bool:=(rows.getD a 0).testBit b
def hasB (rows:List Nat) (a b:Int):Bool:=decide (0<=a) && decide (a < rows.length) && decide (0<=b) && decide (b < rows.length) && bp rows a.toNat b.toNat
theorem Dc (rows:List Nat):aR prog 208 [pq rows] (.v (.int .i64 rows.length)):=by
 refine eG 10 [.tmp 2] func208 rfl ntmps208 rfl fun _ _ _ _=>?_;refine (rY ?_:);rw [mF]
theorem nv (rows:List Nat) (hr:eY rows) (a b:Int):aR prog 212 [pq rows,.v (.int .i64 a),.v (.int .i64 b)] (.v (.bool (hasB rows a b))):=by
 have hl:=Dc rows;refine eG 38 [.tmp 6] func212 rfl ntmps212 rfl fun _ _ _ _=>?_;refine br ?_ ?_<;>intro g1
 ·have g1:0<=a:=sU g1;refine cP RY hl ?_;refine br ?_ ?_<;>intro g2
  ·obtain ⟨g2,g3⟩:a < rows.length/\0<=b:=by grind [pickB]
   refine cP RY hl ?_;refine br ?_ ?_<;>intro g4
   ·have g4:b < rows.length:=by simpa [pickB,g2,g3] using g4
    obtain ⟨x,hx⟩:∃ x,rows[a.toNat]? = some x:=⟨_,gE (by omega)⟩;have GC:=hr.2 x (mG hx);have hr1:=hr.1;refine ⟨_,⟨g1,aba hx⟩,?_⟩;refine ⟨g3,?_⟩;refine (dq ?_:);have BZ:rows.getD a.toNat 0=x:=getD_some hx;have e1:hasB rows a b=x.testBit b.toNat:=by grind [hasB,bp]
    rw [e1];exact Np (x:=x) (b:=b.toNat) (by omega) GC
   ·have g4:¬ b < rows.length:=by simpa [pickB,g2,g3] using g4
    refine (dq ?_:);simp [pickB,g2,g3,g4,hasB]
  ·have g5:¬ (a < rows.length/\0<=b):=by
    rintro ⟨h1,h2⟩;simp [pickB,h1,h2] at g2
   refine (dq ?_:);cases h:decide (a < (rows.length:Int))<;>simp [pickB,h,hasB] at g2 ⊢
   intro _ h0;omega
 ·have g1:¬ 0<=a:=sU g1;refine (dq ?_:);simp [g1,hasB]
def backN (rows:List Nat) (a:Nat):Nat->Nat
 | 0=>0
 | e + 1=>if bp rows a e && bp rows e a then backN rows a e ||| 2 ^ e else backN rows a e
theorem Ab (rows:List Nat) (a:Nat):∀ e,backN rows a e < 2 ^ e
 | 0=>by simp [backN]
 | e + 1=>by
  have ih:=Ab rows a e;have h2:2 ^ e < 2 ^ (e + 1):=Nat.pow_lt_pow_right (by decide) (by omega);simp only [backN];split
  ·exact Nat.or_lt_two_pow (by omega) h2
  ·omega
theorem vR (rows:List Nat) (a b:Nat):∀ e,(backN rows a e).testBit b=(decide (b < e) && (bp rows a b && bp rows b a))
 | 0=>by simp [backN]
 | e + 1=>by
  have ih:=vR rows a b e
  grind [backN,bp,lC]
abbrev abb (rows:List Nat) (a e:Nat):St:=
 ⟨[(0,⟨[],pq rows⟩),aC 1 a,(5,⟨[],.v (.int .u64 (backN rows a e:Nat))⟩),aC 11 ((dU rows).length),aC 12 e],[],[]⟩
theorem tW {rows:List Nat} {a b:Nat} (ha:a < rows.length) (hb:b < rows.length):hasB rows a b=bp rows a b:=by
 simp [hasB,ha,hb]
theorem KA (rows:List Nat) (hr:eY rows) (a:Nat) (ha:a < rows.length):aR prog 210 [pq rows,.v (.int .i64 a)] (.v (.int .u64 (backN rows a rows.length:Nat))):=by
 have hr1:=hr.1;refine eG 31 [.tmp 4] func210 rfl ntmps210 rfl fun _ _ _ _=>?_;refine lJ (fun e=>abb rows a e) rows.length (wkM wB) ?_;intro e he;refine br ?_ ?_<;>intro hL
 ·have az:e < rows.length:=by have:=hL;simp [mF] at this;exact this
  have h1:=nv rows hr a e;have h2:=nv rows hr e a;rw [tW ha az] at h1;rw [tW az ha] at h2;have hbl:=Ab rows a e
  have abc:backN rows a e < 18446744073709551616:=by
   have:2 ^ e<=2 ^ 64:=Nat.pow_le_pow_right (by decide) (by omega);omega
  have hor:=Kz (x:=backN rows a e) (b:=e) (by omega) abc;have hs:backN rows a (e + 1)=if bp rows a e && bp rows e a then backN rows a e ||| 2 ^ e else backN rows a e:=rfl
  refine cP Hq h1 ?_;refine br ?_ ?_<;>intro g1
  ·have g1:bp rows a e=true:=sU g1;refine cP Hq h2 ?_;refine br ?_ ?_<;>intro g2
   ·have g2:bp rows e a=true:=by simpa [pickB,g1] using g2
    rw [g1,g2] at hs;have hs:backN rows a (e + 1)=backN rows a e ||| 2 ^ e:=hs
    refine ⟨by omega,?_⟩;exact rE ⟨_,by omega,e + 1,rfl,by omega,rfl⟩ (wkM (by repeat' (first | exact trivial | exact aA rfl | exact aG (nxt az (by omega)) | exact aG (hor.trans (by rw [hs])) | refine ⟨⟨_,rfl,?_⟩,?_⟩)))
   ·have g2:bp rows e a=false:=by simpa [pickB,g1] using g2
    rw [g1,g2] at hs;have hs:backN rows a (e + 1)=backN rows a e:=hs;exact rE ⟨_,by omega,e + 1,rfl,by omega,rfl⟩ (wkM (by repeat' (first | exact trivial | exact aA rfl | exact aG (nxt az (by omega)) | exact aG (by rw [hs]) | refine ⟨⟨_,rfl,?_⟩,?_⟩)))
  ·have g1:bp rows a e=false:=sU g1;rw [g1] at hs;have hs:backN rows a (e + 1)=backN rows a e:=hs;exact rE ⟨_,by omega,e + 1,rfl,by omega,rfl⟩ (wkM (by repeat' (first | exact trivial | exact aA rfl | exact aG (nxt az (by omega)) | exact aG (by rw [hs]) | refine ⟨⟨_,rfl,?_⟩,?_⟩)))
 ·have hge:e=rows.length:=by have:=hL;simp [mF] at this;omega
  subst hge;exact (rfl:_=_)
def cU (rows:List Nat):List DV:=rows.map fun (x:Nat)=>DV.v (.int .u64 (x:Int))
theorem vS (rows:List Nat):(cU rows).length=rows.length:=by simp [cU]
theorem SQ {rows:List Nat} {i x:Nat} (h:rows[i]? = some x):(cU rows)[i]? = some (DV.v (.int .u64 (x:Int))):=by simp [cU,h]
theorem SR (rows:List Nat) (i x:Nat):(cU rows).set i (DV.v (.int .u64 (x:Int)))=cU (rows.set i x):=by simp [cU,List.map_set]
theorem tX (rows:List Nat):(dU rows).flatten=cU rows:=by
 induction rows with
 | nil=>rfl
 | cons x r ih=>simp only [dU,cU,List.map_cons,List.flatten_cons] at ih ⊢;rw [ih];all_goals rfl
theorem Nq {n m:Nat} {tk:List TkE}:∀ l:List Nat,WeL n m tk (cU l) (cU l)
 | []=>rfl
 | b :: r=>⟨_,_,rfl,aA rfl,Nq r⟩
theorem Fp {n m:Nat} {tk:List TkE} {l:List DV} {ds:List Nat} (h:l=cU ds):WeL n m tk l (cU ds):=by rw [h];exact Nq ds
def dNP (p:Nat × Nat):List DV:=[.v (.int .i64 (p.1:Int)),.v (.int .i64 (p.2:Int))]
def ox (l:List (Nat × Nat)):List (List DV):=l.map dNP
theorem jc (l:List (Nat × Nat)):(ox l).length=l.length:=by simp [ox]
theorem Ac {l:List (Nat × Nat)} {i:Nat} {p:Nat × Nat} (h:l[i]? = some p):(ox l)[i]? = some (dNP p):=by simp [ox,h]
def Ad (rows:List Nat) (p:Nat × Nat):List Nat:=rows.set p.1 (rows.getD p.1 0 ||| 2 ^ p.2)
def gA (n:Nat) (l:List (Nat × Nat)):List Nat:=l.foldl Ad (List.replicate n 0)
theorem Pk (n:Nat) (l:List (Nat × Nat)) (e:Nat) {p:Nat × Nat} (h:l[e]? = some p):gA n (l.take (e + 1))=Ad (gA n (l.take e)) p:=by
 unfold gA;rw [List.take_add_one,h];simp
theorem tY (rows:List Nat) (p:Nat × Nat):(Ad rows p).length=rows.length:=by simp [Ad]
theorem lD (n:Nat):∀ (l:List (Nat × Nat)),(gA n l).length=n:=by
 intro l
 have:∀ (l:List (Nat × Nat)) (r:List Nat),(l.foldl Ad r).length=r.length:=by
  intro l
  induction l with
  | nil=>intro r;rfl
  | cons p l ih=>intro r;rw [List.foldl_cons,ih,tY]
 rw [gA,this];simp
theorem WK {rows:List Nat} {p:Nat × Nat} (h:eY rows) (hp:p.1 < rows.length) (hq:p.2 < 64):eY (Ad rows p):=by
 refine ⟨by rw [tY];exact h.1,fun x hx=>?_⟩;rcases List.mem_or_eq_of_mem_set hx with hx | rfl
 ·exact h.2 x hx
 ·refine Nat.or_lt_two_pow (n:=64) ?_ (Nat.pow_lt_pow_right (by decide) hq);rw [eo,gE hp];exact h.2 _ (List.getElem_mem hp)
theorem Fq {n:Nat} (hn:n<=64):∀ (l:List (Nat × Nat)),(∀ p∈l,p.1 < n/\p.2 < n)->eY (gA n l):=by
 intro l hl
 have:∀ (l:List (Nat × Nat)) (r:List Nat),r.length=n->eY r->(∀ p∈l,p.1 < n/\p.2 < n)->eY (l.foldl Ad r):=by
  intro l
  induction l with
  | nil=>intro r _ h _;exact h
  | cons p l ih=>grind [tY,WK]
 refine this l _ (by simp) ⟨by simp [hn],fun x hx=>?_⟩ hl;rw [List.mem_replicate] at hx;omega
abbrev SS (n:Nat) (l:List (Nat × Nat)) (rows:List Nat) (e:Nat):St:=
 ⟨[aC 0 n,aJ 6 1,bJ 19 2 (ox l),aC 20 ((ox l).length),aC 21 e],
  [cU rows,[.ms 0 1 0 n n]],[]⟩
theorem Pm (n:Nat) (hn:n<=64) (l:List (Nat × Nat)) (hl:∀ p∈l,p.1 < n/\p.2 < n) (hb:l.length<=1099511627776) :
  aR prog 127 [.v (.int .i64 n),.sl 2 (ox l) none] (.bo [pq (gA n l),.v (.bool true)]):=by
 refine eG 60 [.tmp 4,.tmp 5] func127 rfl ntmps127 rfl fun _ _ _ _=>?_;refine br ?_ ?_<;>intro g
 ·exfalso;simp [ak] at g;omega
 refine ⟨⟨rfl,by omega,by omega,by omega⟩,?_⟩
 have h0:(List.replicate (n:Int).toNat [DV.v (.int .u64 0)]).flatten=cU (gA n (l.take 0)):=by
  simp [gA,cU]
 refine lJ (fun e=>SS n l (gA n (l.take e)) e) l.length (ej 2 (by repeat' (first | exact rfl | exact aA rfl | exact Fp h0 | refine ⟨_,_,rfl,?_,?_⟩)) (by repeat' (first | exact trivial | exact aA rfl | exact Fp h0 | refine ⟨⟨_,rfl,?_⟩,?_⟩))) ?_;intro e he;refine br ?_ ?_<;>intro hL
 ·have az:e < l.length:=by have:=hL;simp [jc] at this;exact this
  obtain ⟨p,hp⟩:=gX az;obtain ⟨p1,p2⟩:=hl p (mG hp);refine iX (Ac hp) ?_;refine ⟨⟨by decide,by decide⟩,?_⟩;refine ⟨⟨by decide,by decide⟩,?_⟩;refine br ?_ ?_<;>intro g
  ·refine ⟨⟨by decide,by decide⟩,?_⟩;refine ⟨⟨by decide,by decide⟩,?_⟩;refine br ?_ ?_<;>intro g2
   ·exfalso;simp [pickB] at g2;omega
   obtain ⟨x,hx⟩:∃ x,(gA n (l.take e))[p.1]? = some x:=⟨_,gE (by rw [lD];exact p1)⟩;have fh:=Fq hn (l.take e) (fun q hq=>hl q (List.mem_of_mem_take hq));have GC:=fh.2 x (mG hx);have EP:0 + (p.1:Int).toNat * 1=p.1:=by omega
   refine dS ?_;refine ⟨⟨by decide,by decide⟩,?_⟩;refine ⟨⟨by omega,by omega⟩,?_⟩;refine ⟨_,(by rw [EP];exact SQ hx:(cU (gA n (l.take e)))[0 + (p.1:Int).toNat * 1]? = some _),?_⟩;refine ⟨⟨by decide,by decide⟩,?_⟩;refine ⟨by omega,?_⟩;refine ⟨⟨by omega,by omega⟩,?_⟩;refine ⟨by rw [EP,vS,lD];omega,?_⟩
   have cx:(cU (gA n (l.take e))).set (0 + (p.1:Int).toNat * 1) (DV.v (.int .u64 (IntKind.u64.wrap ((BitVec.ofInt 64 (x:Int) ||| BitVec.ofInt 64 (IntKind.u64.wrap (1 * 2 ^ (min (p.2:Int).toNat 64)))).toNat:Int))))=cU (gA n (l.take (e + 1))):=by
    rw [EP,show ((p.2:Int).toNat)=p.2 by omega,Kz (by omega) GC,SR,Pk n l e hp];simp only [Ad];rw [getD_some hx]
   refine ⟨SS n l (gA n (l.take (e + 1))) (e + 1),(ej 2 (by repeat' (first | exact rfl | exact aA rfl | exact Fp cx | exact aG (nxt az (by omega)) | refine ⟨_,_,rfl,?_,?_⟩)) (by repeat' (first | exact trivial | exact aA rfl | exact Fp cx | exact aG (nxt az (by omega)) | refine ⟨⟨_,rfl,?_⟩,?_⟩))),l.length - (e + 1),by omega,e + 1,rfl,by omega,rfl⟩
  ·exfalso;simp [pickB] at g;omega
 ·have hge:e=l.length:=by have:=hL;simp [jc] at this;omega
  subst hge;rw [List.take_length];refine ⟨_,?_,rfl⟩;have hlen:=lD n l;generalize gA n l=rows at hlen ⊢;refine ⟨_,rfl,_,_,rfl,.inr ⟨1,_,rfl,Nat.zero_le _,rfl,_,_,rfl,.inr (.inr (.inl ⟨0,0,n,cU rows,by rw [mF,hlen],Nat.zero_le _,rfl,?_,?_,?_⟩)),rfl⟩,_,_,rfl,rfl,rfl⟩
  ·grind [tX,mF,vS]
  ·grind [dU]
  ·grind [tX,cU]
def lE (rows:List Nat) (k:Nat):List Nat:=rows.set k (rows.getD k 0 ||| 2 ^ k)
def rI (k:Nat) (rows:List Nat) (a:Nat):List Nat:=if bp rows a k then rows.set a (rows.getD a 0 ||| rows.getD k 0) else rows
def jd (rows:List Nat) (k e:Nat):List Nat:=(List.range e).foldl (rI k) (lE rows k)
def closeR (rows:List Nat) (e:Nat):List Nat:=(List.range e).foldl (fun r k=>jd r k r.length) rows
theorem SU {rows:List Nat} {i x:Nat} (h:eY rows) (hx:x < 18446744073709551616):eY (rows.set i x):=by
 refine ⟨by rw [List.length_set];exact h.1,fun y hy=>?_⟩;rcases List.mem_or_eq_of_mem_set hy with hy | rfl
 ·exact h.2 y hy
 ·exact hx
theorem oy {rows:List Nat} (h:eY rows) (i:Nat):rows.getD i 0 < 18446744073709551616:=by
 rw [eo]
 cases hx:rows[i]? with
 | none=>simp
 | some x=>exact h.2 x (mG hx)
theorem SV {rows:List Nat} {k:Nat} (h:eY rows) (hk:k < 64):eY (lE rows k):=
 SU h (Nat.or_lt_two_pow (n:=64) (oy h k) (Nat.pow_lt_pow_right (by decide) hk))
theorem Pn (rows:List Nat) (k:Nat):(lE rows k).length=rows.length:=by simp [lE]
theorem SX {rows:List Nat} {k a:Nat} (h:eY rows):eY (rI k rows a):=by
 unfold rI;split
 ·exact SU h (Nat.or_lt_two_pow (n:=64) (oy h a) (oy h k))
 ·exact h
theorem Po (rows:List Nat) (k a:Nat):(rI k rows a).length=rows.length:=by
 unfold rI;split<;>simp
theorem oA (rows:List Nat) (k e:Nat):jd rows k (e + 1)=rI k (jd rows k e) e:=by simp [jd,List.range_succ]
theorem qQ (rows:List Nat) (k:Nat):∀ e,(jd rows k e).length=rows.length
 | 0=>by simp [jd,Pn]
 | e + 1=>by rw [oA,Po,qQ]
theorem Ae {rows:List Nat} {k:Nat} (h:eY rows) (hk:k < 64):∀ e,eY (jd rows k e)
 | 0=>by simpa [jd] using SV h hk
 | e + 1=>by rw [oA];exact SX (Ae h hk e)
theorem mj (rows:List Nat) (e:Nat):closeR rows (e + 1)=jd (closeR rows e) e (closeR rows e).length:=by simp [closeR,List.range_succ]
theorem gB (rows:List Nat):∀ e,(closeR rows e).length=rows.length
 | 0=>by simp [closeR]
 | e + 1=>by rw [mj,qQ,gB]
theorem ny {rows:List Nat} (h:eY rows):∀ e,e<=64->eY (closeR rows e)
 | 0,_=>by simpa [closeR] using h
 | e + 1,he=>by rw [mj];exact Ae (ny h e (by omega)) (by omega) _
def spU (m:Nat):List DV:=(List.replicate m (vL [Value.int .u64 0])).flatten
theorem Af {n m:Nat} {tk:List TkE}:∀ l:List DV,(∀ x∈l,∃ y,x = .v y)->WeL n m tk l l
 | [],_=>rfl
 | b :: r,h=>by
  obtain ⟨y,rfl⟩:=h b (by simp);exact ⟨_,_,rfl,aA rfl,Af r (fun x hx=>h x (by simp [hx]))⟩
theorem gO {n m:Nat} {tk:List TkE} {l:List DV} {ds:List Nat} {k:Nat} (h:l=cU ds ++ spU k):WeL n m tk l (cU ds ++ spU k):=by
 rw [h];refine Af _ fun x hx=>?_;rcases List.mem_append.1 hx with hx | hx
 ·grind [cU]
 ·simp_all [spU,vL]
theorem Fs {r:List Nat} {k i x:Nat} (h:r[i]? = some x):(cU r ++ spU k)[0 + (i:Int).toNat * 1]? = some (DV.v (.int .u64 (x:Int))):=by grind [vS,SQ]
theorem SY {r:List Nat} {k i x:Nat} (h:i < r.length):(cU r ++ spU k).set (0 + (i:Int).toNat * 1) (DV.v (.int .u64 (x:Int)))=cU (r.set i x) ++ spU k:=by grind [vS,SR]
theorem SZ {r:List Nat} {k i:Nat} (h:i < r.length):0 + (i:Int).toNat * 1 + 1<=(cU r ++ spU k).length:=by
 rw [List.length_append,vS];omega
abbrev clSt (rows:List Nat) (cap:Nat) (r:List Nat) (e:Nat):St:=
 ⟨[aJ 3 1,aC 19 ((dU rows).length),aC 20 e],[cU r ++ spU (cap - (dU rows).length),[.ms 0 1 0 (dU rows).length cap]],[]⟩
abbrev afR (rows:List Nat) (cap:Nat) (r:List Nat) (e f:Nat):St:=
 ⟨[aJ 3 1,aC 4 e,aC 19 ((dU rows).length),aC 20 e,aC 38 ((dU rows).length),aC 39 f],[cU r ++ spU (cap - (dU rows).length),[.ms 0 1 0 (dU rows).length cap]],[]⟩
theorem su {l:List Nat} {i:Nat} (h:i < l.length):l[i]? = some (l.getD i 0):=vK h
theorem xG (rows:List Nat) (hr:eY rows) (h0:rows ≠ []):aR prog 129 [pq rows] (pq (closeR rows rows.length)):=by
 have hr1:=hr.1;have hN:=mF rows;have tj:0 < rows.length:=List.length_pos_iff.2 h0;refine yz (s:=false) (bt:=[]) (mu:=[12]) (hbt:=fun p hp=>by cases hp) (fr:=false) (P:=prog) tt xq 5000 72 [.tmp 2] func129 rfl ntmps129 rfl (nL rfl) (fun _ _ _ _=>?_);refine ⟨⟨by intro h;exact h0 (by simpa [dU] using h),by rw [mF];simp [maxLen];omega,by rw [mF];omega⟩,fun cap OJ=>?_⟩
 have ib:(dU rows).flatten.append (List.replicate (cap - (dU rows).length) (vL [Value.int .u64 0])).flatten=cU (closeR rows 0) ++ spU (cap - (dU rows).length):=by
  show (dU rows).flatten ++ _=_;rw [tX];rfl
 refine lJ (fun e=>clSt rows cap (closeR rows e) e) rows.length (ej 2 (ng ib) (wB1 ib)) ?_;intro e he;have fh:=ny hr e (by omega);have hlen:=gB rows e;have Zh:=mj rows e;generalize GD:closeR rows e=r at fh hlen Zh ⊢;refine br ?_ ?_<;>intro hL
 ·have az:e < rows.length:=by have:=hL;simp [hN] at this;exact this
  have hx:=su (l:=r) (i:=e) (by omega);have hor:=Kz (x:=r.getD e 0) (b:=e) (by omega) (oy fh e);refine dS ?_;refine ⟨⟨by omega,by omega⟩,?_⟩;refine ⟨_,Fs hx,?_⟩;refine ⟨by omega,?_⟩;refine ⟨⟨by omega,by omega⟩,?_⟩;refine ⟨SZ (by omega),?_⟩
  have mb:(cU r ++ spU (cap - (dU rows).length)).set (0 + (e:Int).toNat * 1) (DV.v (.int .u64 (IntKind.u64.wrap ((BitVec.ofInt 64 ((r.getD e 0:Nat):Int) ||| BitVec.ofInt 64 (IntKind.u64.wrap (1 * 2 ^ (min (e:Int).toNat 64)))).toNat:Int))))=cU (jd r e 0) ++ spU (cap - (dU rows).length):=by
   rw [show min (e:Int).toNat 64=min e 64 by omega,hor,SY (by omega)];rfl
  refine lJ (fun f=>afR rows cap (jd r e f) e f) rows.length (ej 2 (ng mb) (wB1 mb)) ?_;intro f hf;have JP:=Ae (k:=e) fh (by omega) f;have jZ:=qQ r e f;have hps:=oA r e f;have eC:e < (jd r e f).length:=by rw [jZ];omega
  refine br ?_ ?_<;>intro hL
  ·have JO:f < rows.length:=by have:=hL;simp [hN] at this;exact this
   have hpf:f < (jd r e f).length:=by rw [jZ];omega
   generalize jd r e f=q at JP jZ hps eC hpf ⊢;have hy:=su hpf;have hz:=su eC;have S0:=Np (x:=q.getD f 0) (b:=e) (by omega) (oy JP f);have hor:=WJ (oy JP f) (oy JP e);refine ⟨⟨by omega,by omega⟩,?_⟩;refine ⟨_,Fs hy,?_⟩;refine ⟨by omega,?_⟩;refine br ?_ ?_<;>intro g
   ·have g:bp q f e=true:=S0.symm.trans g;refine dS ?_;refine ⟨⟨by omega,by omega⟩,?_⟩;refine ⟨_,Fs hy,?_⟩;refine ⟨⟨by omega,by omega⟩,?_⟩;refine ⟨_,Fs hz,?_⟩;refine ⟨⟨by omega,by omega⟩,?_⟩;refine ⟨SZ hpf,?_⟩
    have iI:(cU q ++ spU (cap - (dU rows).length)).set (0 + (f:Int).toNat * 1) (DV.v (.int .u64 (IntKind.u64.wrap ((BitVec.ofInt 64 ((q.getD f 0:Nat):Int) ||| BitVec.ofInt 64 ((q.getD e 0:Nat):Int)).toNat:Int))))=cU (jd r e (f + 1)) ++ spU (cap - (dU rows).length):=by
     rw [hor,SY hpf,hps,rI,zIfP g]
    exact rE ⟨_,by omega,f + 1,rfl,by omega,rfl⟩ (ej 2 (J9 iI (nxt JO (by omega))) (wB2 iI (nxt JO (by omega))))
   ·have g:bp q f e=false:=S0.symm.trans g
    have iI:cU q ++ spU (cap - (dU rows).length)=cU (jd r e (f + 1)) ++ spU (cap - (dU rows).length):=by
     rw [hps,rI,af (by rw [g];decide)]
    exact rE ⟨_,by omega,f + 1,rfl,by omega,rfl⟩ (ej 2 (J9 iI (nxt JO (by omega))) (wB2 iI (nxt JO (by omega))))
  ·have hge:f=rows.length:=sW hN hL;subst hge
   have MD:cU (jd r e rows.length) ++ spU (cap - (dU rows).length)=cU (closeR rows (e + 1)) ++ spU (cap - (dU rows).length):=by
    rw [Zh,hlen]
   exact rE ⟨_,by omega,e + 1,rfl,by omega,rfl⟩ (ej 2 (J9 MD (nxt az (by omega))) (wB2 MD (nxt az (by omega))))
 ·have hge:e=rows.length:=sW hN hL;subst hge;refine ⟨_,?_,rfl⟩;rw [GD];refine .inr ⟨1,_,rfl,Nat.zero_le _,rfl,_,_,rfl,.inr (.inr (.inl ⟨0,0,cap,cU r ++ spU (cap - (dU rows).length),by rw [mF r,hlen,hN],Nat.zero_le _,rfl,?_,?_,?_⟩)),rfl⟩
  ·grind [tX,mF,vS]
  ·grind [dU]
  ·grind [tX,cU]
theorem nz {a b c d:Nat} (ha:a < 256) (hb:b < 256):(a + 256 * c) &&& (b + 256 * d)=(a &&& b) + 256 * (c &&& d):=by
 have h1:a &&& b < 256:=Nat.and_lt_two_pow (n:=8) a hb;apply Nat.eq_of_testBit_eq;intro i
 have e (x y:Nat) (hx:x < 256):(x + 256 * y).testBit i=if i < 8 then x.testBit i else y.testBit (i - 8):=by
  rw [show x + 256 * y=2 ^ 8 * y + x by omega,Nat.testBit_two_pow_mul_add _ (sU hx)]
 grind
def b1 (x:Nat):Nat:=((x / 2) &&& 85) + (x &&& 85)
def b2 (x:Nat):Nat:=((x / 4) &&& 51) + (x &&& 51)
def b3 (x:Nat):Nat:=((x / 16) + x) &&& 15
def pop8 (x:Nat):Nat:=b3 (b2 (b1 x))
theorem Nr:∀ x:Fin 256,b1 x.val < 256/\b2 (b1 x.val) < 120/\pop8 x.val<=8/\pop8 x.val=(((((((x.val.testBit 0).toNat + (x.val.testBit 1).toNat) + (x.val.testBit 2).toNat) + (x.val.testBit 3).toNat) + (x.val.testBit 4).toNat) + (x.val.testBit 5).toNat) + (x.val.testBit 6).toNat) + (x.val.testBit 7).toNat:=by decide +kernel
def valB:List Nat->Nat
 | []=>0
 | a :: r=>a + 256 * valB r
def rep (m:Nat):Nat->Nat
 | 0=>0
 | n + 1=>m + 256 * rep m n
theorem m1:∀ (a:Fin 256) (c:Fin 2),(a.val / 2 + 128 * c.val) &&& 85=(a.val / 2) &&& 85:=by decide +kernel
theorem m2:∀ (a:Fin 256) (c:Fin 4),(a.val / 4 + 64 * c.val) &&& 51=(a.val / 4) &&& 51:=by decide +kernel
theorem u9:∀ l:List Nat,(∀ a∈l,a < 256)->((valB l / 2) &&& rep 85 l.length) + (valB l &&& rep 85 l.length)=valB (l.map b1)
 | [],_=>rfl
 | a :: r,h=>by
  have ih:=u9 r (fun x hx=>h x (by simp [hx]));have ha:=h a (by simp);have e1:(a + 256 * valB r) / 2=(a / 2 + 128 * (valB r % 2)) + 256 * (valB r / 2):=by omega
  have hm:=m1 ⟨a,ha⟩ ⟨valB r % 2,by omega⟩;simp only at hm;simp only [valB,List.length_cons,rep,List.map_cons,b1];rw [e1,nz (by omega) (by decide),nz ha (by decide),hm,<- ih];omega
theorem OR:∀ l:List Nat,(∀ a∈l,a < 256)->((valB l / 4) &&& rep 51 l.length) + (valB l &&& rep 51 l.length)=valB (l.map b2)
 | [],_=>rfl
 | a :: r,h=>by
  have ih:=OR r (fun x hx=>h x (by simp [hx]));have ha:=h a (by simp);have e1:(a + 256 * valB r) / 4=(a / 4 + 64 * (valB r % 4)) + 256 * (valB r / 4):=by omega
  have hm:=m2 ⟨a,ha⟩ ⟨valB r % 4,by omega⟩;simp only at hm;simp only [valB,List.length_cons,rep,List.map_cons,b2];rw [e1,nz (by omega) (by decide),nz ha (by decide),hm,<- ih];omega
theorem afS (x y:Nat):(x + 16 * y) &&& 15=x &&& 15:=by
 have h (z:Nat):z &&& 15=z % 16:=Nat.and_two_pow_sub_one_eq_mod z 4;rw [h,h];omega
def HL (a:Nat):Prop:=a < 70/\a % 16<=4
theorem st3:∀ l:List Nat,(∀ a∈l,HL a)->((valB l / 16) + valB l) &&& rep 15 l.length=valB (l.map b3)
 | [],_=>rfl
 | a :: r,h=>by
  have ih:=st3 r (fun x hx=>h x (by simp [hx]));have ha:=h a (by simp)
  have hc:valB r % 16<=4:=by
   cases r with
   | nil=>simp [valB]
   | cons b s=>
    have:=(h b (by simp)).2;simp only [valB];omega
  unfold HL at ha;have e1:(a + 256 * valB r) / 16 + (a + 256 * valB r)=((a / 16 + a) + 16 * (valB r % 16)) + 256 * (valB r / 16 + valB r):=by omega
  simp only [valB,List.length_cons,rep,List.map_cons,b3];rw [e1,nz (by omega) (by decide),afS,ih]
def fB (x:Nat):List Nat:=[x % 256,x / 256 % 256,x / 65536 % 256,x / 16777216 % 256,x / 4294967296 % 256,x / 1099511627776 % 256,x / 281474976710656 % 256,x / 72057594037927936 % 256]
theorem KB {x:Nat} (h:x < 18446744073709551616):valB (fB x)=x:=by
 simp only [fB,valB];omega
theorem Pp (x:Nat):∀ a∈fB x,a < 256:=by
 intro a ha;simp only [fB,List.mem_cons,List.not_mem_nil,or_false] at ha;omega
def KC (x:Nat):Nat:=((fB x).map pop8).sum
theorem HM:∀ a:Fin 256,b1 a.val < 256/\b2 (b1 a.val) < 70/\b2 (b1 a.val) % 16<=4:=by decide +kernel
theorem Fu {x m:Nat} (hx:x < 18446744073709551616) (hm:m < 18446744073709551616) :
  IntKind.u64.wrap ((BitVec.ofInt 64 (x:Int) &&& BitVec.ofInt 64 (m:Int)).toNat:Int)=((x &&& m:Nat):Int):=by
 rw [jP,jP,BitVec.toNat_and,BitVec.toNat_ofNat,BitVec.toNat_ofNat,Nat.mod_eq_of_lt hx,Nat.mod_eq_of_lt hm];have h3:x &&& m < 18446744073709551616:=Nat.and_lt_two_pow (n:=64) x hm;simp only [IntKind.wrap_u64];omega
theorem KD {x:Nat} {k:Int} (hk:k.toNat < 64):(x:Int).fdiv (2 ^ min k.toNat IntKind.u64.bits)=((x / 2 ^ k.toNat:Nat):Int):=by
 rw [show min k.toNat IntKind.u64.bits=k.toNat from Nat.min_eq_left (by show k.toNat<=64;omega),HK]
theorem Fv {y:Nat} (h:y < 18446744073709551616):IntKind.u64.wrap (y:Int)=(y:Int):=by
 simp only [IntKind.wrap_u64];omega
theorem afT {k M:Int} {m x y:Nat} (hk:k.toNat < 64) (hx:x < 18446744073709551616) (hM:M=(m:Int)) (hm:m < 18446744073709551616) (hy:((x / 2 ^ k.toNat) &&& m) + (x &&& m)=y) (og:y < 18446744073709551616) :
  IntKind.u64.wrap (IntKind.u64.wrap ((BitVec.ofInt IntKind.u64.bits ((x:Int).fdiv (2 ^ min k.toNat IntKind.u64.bits)) &&& BitVec.ofInt IntKind.u64.bits M).toNat:Int) + IntKind.u64.wrap ((BitVec.ofInt IntKind.u64.bits (x:Int) &&& BitVec.ofInt IntKind.u64.bits M).toNat:Int))=(y:Int):=by
 subst hM;have h1:x / 2 ^ k.toNat < 18446744073709551616:=Nat.lt_of_le_of_lt (Nat.div_le_self _ _) hx;have e1:IntKind.u64.wrap ((BitVec.ofInt IntKind.u64.bits ((x / 2 ^ k.toNat:Nat):Int) &&& BitVec.ofInt IntKind.u64.bits (m:Int)).toNat:Int)=_:=Fu h1 hm;have e2:IntKind.u64.wrap ((BitVec.ofInt IntKind.u64.bits (x:Int) &&& BitVec.ofInt IntKind.u64.bits (m:Int)).toNat:Int)=_:=Fu hx hm;rw [KD hk,e1,e2,<- Int.natCast_add,hy,Fv og]
theorem stgB {k M:Int} {m x y:Nat} (hk:k.toNat < 64) (hs:x / 2 ^ k.toNat + x < 18446744073709551616) (hM:M=(m:Int)) (hm:m < 18446744073709551616) (hy:((x / 2 ^ k.toNat) + x) &&& m=y) :
  IntKind.u64.wrap ((BitVec.ofInt IntKind.u64.bits (IntKind.u64.wrap ((x:Int).fdiv (2 ^ min k.toNat IntKind.u64.bits) + (x:Int))) &&& BitVec.ofInt IntKind.u64.bits M).toNat:Int)=(y:Int):=by
 subst hM;have e2:IntKind.u64.wrap ((BitVec.ofInt IntKind.u64.bits ((x / 2 ^ k.toNat + x:Nat):Int) &&& BitVec.ofInt IntKind.u64.bits (m:Int)).toNat:Int)=_:=Fu hs hm;rw [KD hk,<- Int.natCast_add,Fv hs,e2,hy]
theorem abd {k:Int} {x:Nat} (hk:k.toNat < 64) (hs:x + x / 2 ^ k.toNat < 18446744073709551616) :
  IntKind.u64.wrap ((x:Int) + (x:Int).fdiv (2 ^ min k.toNat IntKind.u64.bits))=((x + x / 2 ^ k.toNat:Nat):Int):=by
 rw [KD hk,<- Int.natCast_add,Fv hs]
theorem Ns:∀ l:List Nat,(∀ a∈l,a < 256)->valB l < 256 ^ l.length
 | [],_=>by simp [valB]
 | a :: r,h=>by
  have ih:=Ns r (fun x hx=>h x (by simp [hx]));have ha:=h a (by simp)
  grind [valB]
theorem S3 {x:Nat} (hx:x < 18446744073709551616):∃ y1 y2 y3:Nat,((x / 2) &&& 6148914691236517205) + (x &&& 6148914691236517205)=y1/\y1 < 18446744073709551616/\((y1 / 4) &&& 3689348814741910323) + (y1 &&& 3689348814741910323)=y2/\y2 / 16 + y2 < 18446744073709551616/\y2 < 18446744073709551616 /\
  ((y2 / 16) + y2) &&& 1085102592571150095=y3/\∃ p0 p1 p2 p3 p4 p5 p6 p7:Nat,y3=valB [p0,p1,p2,p3,p4,p5,p6,p7]/\(p0<=8/\p1<=8/\p2<=8/\p3<=8/\p4<=8/\p5<=8/\p6<=8/\p7<=8)/\KC x=p0 + p1 + p2 + p3 + p4 + p5 + p6 + p7:=by
 have hl:=Pp x;have s1:=u9 (fB x) hl;rw [KB hx] at s1
 have l1:∀ a∈(fB x).map b1,a < 256:=by
  intro a ha;obtain ⟨b,hb,rfl⟩:=List.mem_map.1 ha;exact (HM ⟨b,hl b hb⟩).1
 have l2:∀ a∈((fB x).map b1).map b2,HL a:=by
  intro a ha;obtain ⟨c,hc,rfl⟩:=List.mem_map.1 ha;obtain ⟨b,hb,rfl⟩:=List.mem_map.1 hc;exact (HM ⟨b,hl b hb⟩).2
 have s2:=OR ((fB x).map b1) l1;have s3:=st3 (((fB x).map b1).map b2) l2
 have v1:valB ((fB x).map b1) < 18446744073709551616:=by
  have:=Ns _ l1;rw [List.length_map,show (fB x).length=8 from rfl] at this;simpa using this
 rw [show rep 85 (fB x).length=6148914691236517205 from (by decide:rep 85 8=_)] at s1;rw [List.length_map,show rep 51 (fB x).length=3689348814741910323 from (by decide:rep 51 8=_)] at s2;rw [List.length_map,List.length_map,show rep 15 (fB x).length=1085102592571150095 from (by decide:rep 15 8=_)] at s3;refine ⟨_,_,_,s1,v1,s2,?_,?_,s3,_,_,_,_,_,_,_,_,rfl,?_,?_⟩
 ·have:=l2;simp only [fB,List.map_cons,List.map_nil,List.mem_cons,List.not_mem_nil,or_false,forall_eq_or_imp,forall_eq,HL,valB] at this ⊢;omega
 ·have:=l2;simp only [fB,List.map_cons,List.map_nil,List.mem_cons,List.not_mem_nil,or_false,forall_eq_or_imp,forall_eq,HL,valB] at this ⊢;omega
 ·have h (b:Nat) (hb:b < 256):=(Nr ⟨b,hb⟩).2.2.1;exact ⟨h _ (by omega),h _ (by omega),h _ (by omega),h _ (by omega),h _ (by omega),h _ (by omega),h _ (by omega),h _ (by omega)⟩
 ·simp only [KC,fB,List.map_cons,List.map_nil,List.sum_cons,List.sum_nil,pop8];omega
theorem dr1 {a r:Nat} (h:a < 256):(a + 256 * r) / 256=r:=by omega
theorem dr2 {a b r:Nat} (h:a < 256) (h2:b < 256):(a + 256 * (b + 256 * r)) / 65536=r:=by omega
theorem S4 {p0 p1 p2 p3 p4 p5 p6 p7:Nat} (hp:p0<=8/\p1<=8/\p2<=8/\p3<=8/\p4<=8/\p5<=8/\p6<=8/\p7<=8):∃ z1 z2 z3:Nat,
  (p0 + 256 * (p1 + 256 * (p2 + 256 * (p3 + 256 * (p4 + 256 * (p5 + 256 * (p6 + 256 * (p7 + 256 * 0)))))))) + (p0 + 256 * (p1 + 256 * (p2 + 256 * (p3 + 256 * (p4 + 256 * (p5 + 256 * (p6 + 256 * (p7 + 256 * 0)))))))) / 256=z1/\z1 < 18446744073709551616 /\
  z1 + z1 / 65536=z2/\z2 < 18446744073709551616/\z2 + z2 / 4294967296=z3/\z3 < 18446744073709551616/\z3 % 128=p0 + p1 + p2 + p3 + p4 + p5 + p6 + p7:=by
 refine ⟨(p0 + p1) + 256 * ((p1 + p2) + 256 * ((p2 + p3) + 256 * ((p3 + p4) + 256 * ((p4 + p5) + 256 * ((p5 + p6) + 256 * ((p6 + p7) + 256 * p7)))))),
  (p0 + p1 + p2 + p3) + 256 * ((p1 + p2 + p3 + p4) + 256 * ((p2 + p3 + p4 + p5) + 256 * ((p3 + p4 + p5 + p6) + 256 * ((p4 + p5 + p6 + p7) + 256 * ((p5 + p6 + p7) + 256 * ((p6 + p7) + 256 * p7)))))),
  (p0 + p1 + p2 + p3 + p4 + p5 + p6 + p7) + 256 * ((p1 + p2 + p3 + p4 + p5 + p6 + p7) + 256 * ((p2 + p3 + p4 + p5 + p6 + p7) + 256 * ((p3 + p4 + p5 + p6 + p7) + 256 * ((p4 + p5 + p6 + p7) + 256 * ((p5 + p6 + p7) + 256 * ((p6 + p7) + 256 * p7)))))),?_,by omega,?_,by omega,?_,by omega,by omega⟩
 ·rw [dr1 (by omega)];omega
 ·rw [dr2 (by omega) (by omega)];omega
 ·omega
theorem S6 {z:Nat} (h:z < 18446744073709551616):IntKind.i64.wrap ((BitVec.ofInt IntKind.i64.bits (IntKind.i64.wrap (z:Int)) &&& BitVec.ofInt IntKind.i64.bits 127).toNat:Int)=((z % 128:Nat):Int):=by
 have e1:BitVec.ofInt 64 (IntKind.i64.wrap (z:Int))=BitVec.ofNat 64 z:=by
  apply BitVec.eq_of_toNat_eq;rw [BitVec.toNat_ofInt,BitVec.toNat_ofNat,IntKind.wrap_i64];omega
 have e2:(BitVec.ofInt 64 (IntKind.i64.wrap (z:Int)) &&& BitVec.ofInt 64 127).toNat=z % 128:=by
  rw [e1,show BitVec.ofInt 64 127=BitVec.ofNat 64 127 by decide,BitVec.toNat_and,BitVec.toNat_ofNat,BitVec.toNat_ofNat,Nat.mod_eq_of_lt h];exact Nat.and_two_pow_sub_one_eq_mod z 7
 have e3:(BitVec.ofInt IntKind.i64.bits (IntKind.i64.wrap (z:Int)) &&& BitVec.ofInt IntKind.i64.bits 127).toNat=z % 128:=e2;rw [e3,IntKind.wrap_i64];omega
theorem Pq (x:Nat) (hx:x < 18446744073709551616):aR prog 209 [.v (.int .u64 x)] (.v (.int .i64 (KC x:Nat))):=by
 obtain ⟨y1,y2,y3,h1,h1b,h2,h2s,h2b,h3,p0,p1,p2,p3,p4,p5,p6,p7,h4,hp,h5⟩:=S3 hx;rw [h5];simp only [valB] at h4;refine eG 35 [.tmp 2] func209 rfl ntmps209 rfl fun _ _ _ _=>?_;refine ⟨by decide,?_⟩;refine ⟨by decide,?_⟩;refine ⟨by decide,?_⟩;refine ⟨by decide,?_⟩;refine ⟨by decide,?_⟩;refine ⟨by decide,?_⟩;refine (rY ?_:);rw [afT (k:=1) (M:=6148914691236517205) (by decide) hx rfl (by decide) h1 h1b,afT (k:=2) (M:=3689348814741910323) (by decide) h1b rfl (by decide) h2 h2b,stgB (k:=4) (M:=1085102592571150095) (by decide) h2s rfl (by decide) h3];obtain ⟨z1,z2,z3,g1,g1b,g2,g2b,g3,g3b,g4⟩:=S4 hp;rw [<- h4] at g1;have k1:y3 + y3 / 2 ^ (8:Int).toNat=z1:=g1;rw [abd (k:=8) (by decide) (by rw [k1];exact g1b),k1];have k2:z1 + z1 / 2 ^ (16:Int).toNat=z2:=g2;rw [abd (k:=16) (by decide) (by rw [k2];exact g2b),k2];have k3:z2 + z2 / 2 ^ (32:Int).toNat=z3:=g3;rw [abd (k:=32) (by decide) (by rw [k3];exact g3b),k3,<- g4];exact S6 g3b
theorem j5 (x k i:Nat) (hi:i < 8):(x / 2 ^ (8 * k) % 256).testBit i=x.testBit (8 * k + i):=by
 rw [show (256:Nat)=2 ^ 8 by decide,Nat.testBit_mod_two_pow,decide_eq_true hi,Bool.true_and,Nat.testBit_div_two_pow,Nat.add_comm]
theorem j6 (x k:Nat):pop8 (x / 2 ^ (8 * k) % 256)=(((((((x.testBit (8 * k + 0)).toNat + (x.testBit (8 * k + 1)).toNat) + (x.testBit (8 * k + 2)).toNat) + (x.testBit (8 * k + 3)).toNat) + (x.testBit (8 * k + 4)).toNat) + (x.testBit (8 * k + 5)).toNat) + (x.testBit (8 * k + 6)).toNat) + (x.testBit (8 * k + 7)).toNat:=by
 have h:=(Nr ⟨x / 2 ^ (8 * k) % 256,Nat.mod_lt _ (by decide)⟩).2.2.2;simp only at h;rw [h,j5 x k 0 (by decide),j5 x k 1 (by decide),j5 x k 2 (by decide),j5 x k 3 (by decide),j5 x k 4 (by decide),j5 x k 5 (by decide),j5 x k 6 (by decide),j5 x k 7 (by decide)]
def sumB (x:Nat):Nat->Nat
 | 0=>0
 | n + 1=>sumB x n + (x.testBit n).toNat
theorem S7 (x:Nat):KC x=sumB x 64:=by
 have h0:=j6 x 0;have h1:=j6 x 1;have h2:=j6 x 2;have h3:=j6 x 3;have h4:=j6 x 4;have h5:=j6 x 5;have h6:=j6 x 6;have h7:=j6 x 7;simp only [Nat.mul_zero,Nat.pow_zero,Nat.div_one] at h0;simp only [KC,fB,List.map_cons,List.map_nil,List.sum_cons,List.sum_nil,sumB]
 grind
theorem Ag (x:Nat):∀ n,0 < sumB x n↔∃ b,b < n/\x.testBit b=true
 | 0=>by simp [sumB]
 | n + 1=>by
  have ih:=Ag x n
  grind [sumB]
theorem HN (x a:Nat) (ha:x.testBit a=true):∀ n,a < n->(1 < sumB x n↔∃ b,b < n/\b≠a/\x.testBit b=true)
 | 0,h=>by omega
 | n + 1,h=>by
  simp only [sumB];by_cases hn:a=n
  ·grind [Ag]
  ·have ih:=HN x a ha n (by omega)
   grind [Ag]
def cA (p:Nat->Bool) (n:Nat):Option Nat:=(List.range n).find? p
theorem dR {p:Nat->Bool} {n e:Nat} (he:e < n) (hp:p e=true) (h:∀ a,a < e->p a=false):cA p n=some e:=by simp_all [cA]
theorem eI {p:Nat->Bool} {n:Nat} (h:∀ a,a < n->p a=false):cA p n=none:=by grind [cA]
theorem gC {p:Nat->Bool} {n e:Nat} (h:cA p n=some e):e < n/\p e=true/\∀ a,a < e->p a=false:=by simp_all [cA]
def tZ (c:List Nat) (a:Nat):Bool:=decide (1 < KC (backN c a c.length))
def S8:Option Nat->DV
 | some a=>.bo [.v (.int .i64 (a:Int)),.v (.bool true)]
 | none=>.bo [.v (.int .i64 0),.v (.bool false)]
abbrev WL (c:List Nat) (e:Nat):St:=
 ⟨[(4,⟨[],pq c⟩),aC 9 c.length,aC 10 e],[],[]⟩
theorem KE (rows:List Nat) (hr:eY rows) (h0:rows ≠ []):aR prog 128 [pq rows] (S8 (cA (tZ (closeR rows rows.length)) rows.length)):=by
 have hc:=xG rows hr h0;have fh:=ny hr rows.length hr.1;have hlen:=gB rows rows.length;have hr1:=hr.1;generalize closeR rows rows.length=c at hc fh hlen ⊢;rw [<- hlen];have hl:=Dc c;refine eG 20 [.tmp 2,.tmp 3] func128 rfl ntmps128 rfl fun _ _ _ _=>?_;refine cP YD hc ?_;refine cP RY hl ?_;refine lI (fun j st=>∃ e:Nat,st=WL c e/\e<=c.length/\(∀ a,a < e->tZ c a=false)/\j=c.length - e) ⟨0,rfl,by omega,fun a h=>by omega,rfl⟩ (wkM wB) ?_;rintro j st ⟨e,rfl,he,hno,rfl⟩;refine br ?_ ?_<;>intro hL
 ·have az:e < c.length:=by have:=hL;simp at this;exact this
  have abc:backN c e c.length < 18446744073709551616:=by
   have h1:=Ab c e c.length;have:2 ^ c.length<=2 ^ 64:=Nat.pow_le_pow_right (by decide) (by omega);omega
  refine cP aeM (KA c fh e az) ?_;refine cP aeL (Pq _ abc) ?_;refine br ?_ ?_<;>intro g
  ·have g:tZ c e=true:=by
    simp at g;simp [tZ];omega
   rw [dR az g hno];refine ⟨_,?_,rfl⟩;exact ax
  ·have g:tZ c e=false:=by
    simp at g;simp [tZ];omega
   exact rE ⟨_,by omega,e + 1,rfl,by omega,fun a ha=>by
    rcases rP ha with ha | rfl
    ·exact hno a ha
    ·exact g,rfl⟩ (wkM (wB1 (nxt az (by omega))))
 ·have hge:e=c.length:=by have:=hL;simp at this;omega
  subst hge;rw [eI hno];refine ⟨_,?_,rfl⟩;exact ax
end Go.Proofs.YtfdedoiiahbnnaaGreat
