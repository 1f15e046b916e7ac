/- Part 3 of the proof: names.New: the table; names.Twice: does a text stand earlier, too?; Contracts: the reference's words, Plain, Same, Zero, own; Contracts: the reference's Same, Zero, own; Contracts: the reference's Label, listed, names, Size, with, coarse; What is wrong with a type: the plain function; the reference's Wrong and parts return it; The program's checks of types: bad, listed, label, words; The program's checks of types: label, coarse; The program's comparing of names and types; The program's Same; The program's own, empty; The program's empty, enum; kinds.Right, once the checker's check is known; Numbers in tens: the reference's Put; Numbers in tens: the program's Put; The text of a type, plain; the reference's Label and comma; The reference's text of a type: Label, comma, part, Type; The reference's text of a part; The reference's text of a type; The library's strings.Join, laid at this program by the kit's tool (lay-plain; wip/tools/lay.sh); The program's text of a label, of what stands behind a part's type, of lists; The program's text of a type: field, tag, kind; unparse.Type, once the checker's check is known; A type with which nothing is wrong is fine for its text; Readable data as data of the evaluator: what the statement's form reads of an argument is a datum of the evaluator, of the argument's type, no heavier than what was read; What is read of a type, as the plain data; From a contract over data to what a law's statement asks: the arguments are read, the call returns true, all that was there stays; What all laws' frames share: the bulk, the program's closed facts; Types without places: plain, and the program's kinds.Strip; Schemas: plain, as the evaluator has them, without places; What is read of a schema, as the plain data; What the frames of laws over schemas share; The program's closed facts, each by itself (all at once they ask more memory than a Lean process has); Relations as rows of bits: plain, and rel's functions that read; rel.back: who leads to a thing and is led to by it; rel.New: the rows of a list of pairs; rel.Close: the closure, by rows; The number of bits that are set, as the library reckons it; math/bits.OnesCount64; When two bits are set; rel.Loop: the least thing in a loop; The plain law of closeR: its bits are what is led to; The program's and the reference's check of names that must differ; The table's Find, whole; lattice.many, called, numbered. No condition. -/
import Derived.Laws.StructEq
import Derived.Shelf.Strings.OnBuilder
import Derived.Deep.Slices
import Derived.ChangeArms
import Derived.DataReads
import Derived.WalkKit
import Derived.ProofKit
import Derived.OpenShut
import Derived.Carry
import Derived.JoinedCond
import Derived.Test.YtgjagnmeonoehaaGreatRows
import Derived.Test.YtgjagnmeonoehaaGreatMt2
set_option linter.all false
set_option maxRecDepth 100000
namespace Go.Proofs.YtgjagnmeonoehaaGreat
open Go Go.RowKit Dv Go.Proofs.Tryz
theorem yZ {n m:Nat} {tk:List TkE}:∀ ds:List Nat,WeL n m tk (dInts ds).flatten (dInts ds).flatten
 | []=>rfl
 | b :: r=>⟨_,_,rfl,we_rfl rfl,yZ r⟩
theorem pN {n m:Nat} {tk:List TkE} {l:List DV} {ds:List Nat} (h:l=(dInts ds).flatten):WeL n m tk l (dInts ds).flatten:=by rw [h];exact yZ ds
def gK (n e:Nat):List Nat:=List.range e ++ List.replicate (n - e) 0
theorem JU {n e:Nat} (h:e<=n):(gK n e).length=n:=by simp [gK];omega
theorem fillA_0 (n:Nat):(List.replicate n [DV.v (.int .i64 0)]).flatten=(dInts (gK n 0)).flatten:=by simp [gK,dInts]
theorem PQ (n:Nat):gK n n=List.range n:=by simp [gK]
theorem nM (ds:List Nat):(dInts ds).flatten=ds.map fun (i:Nat)=>DV.v (.int .i64 (i:Int)):=by
 induction ds with
 | nil=>rfl
 | cons x r ih=>simp only [dInts,List.map_cons,List.flatten_cons] at ih ⊢;rw [ih];all_goals rfl
theorem FF {n e:Nat} (h:e < n):(dInts (gK n e)).flatten.take e ++ [DV.v (.int .i64 (e:Int))] ++ (dInts (gK n e)).flatten.drop (e + 1)=(dInts (gK n (e + 1))).flatten:=by
 simp only [nM,<- List.map_take,<- List.map_drop];have e1:(gK n e).take e=List.range e:=by simp [gK]
 have e2:(gK n e).drop (e + 1)=List.replicate (n - (e + 1)) 0:=by
  simp only [gK,List.drop_append,List.length_range];rw [List.drop_eq_nil_of_le (by simp),List.nil_append,List.drop_replicate];congr 1;omega
 rw [e1,e2];simp [gK,List.range_succ]
abbrev MA (L:List ByteArray) (e:Nat):St:=
 ⟨[aw 3 1,aw 4 3,ap 16 ((ey L).length),ap 17 e],
  [[.sl 1 (ey L) (some 0),.v (.slice none 0 0)],[.loc 0 0],(dInts (gK (ey L).length e)).flatten,[.ms 2 1 0 (ey L).length (ey L).length]],[⟨(ey L).length,9,1,none⟩]⟩
def gp (L:List ByteArray) (ds:List Nat) (i:Nat):Bool:=decide (i=0) || !decide (L.getD (ds.getD i 0) emptyB=L.getD (ds.getD (i - 1) 0) emptyB)
def eT (L:List ByteArray) (ds:List Nat) (e:Nat):List Nat:=((List.range e).filter (gp L ds)).map fun i=>ds.getD i 0
theorem ve (L:List ByteArray) (ds:List Nat) (e:Nat):eT L ds (e + 1)=eT L ds e ++ (if gp L ds e=true then [ds.getD e 0] else []):=by
 unfold eT;rw [List.range_succ,List.filter_append,List.map_append];congr 1;cases h:gp L ds e<;>simp [h]
theorem JV (L:List ByteArray) (ds:List Nat) (e:Nat):(eT L ds e).length<=e:=by grind [eT]
abbrev TW (L:List ByteArray) (ds:List Nat):St:=
 ⟨[aw 3 1,oJ 4 [.sl 1 (dInts ds) none],aU 29 1 (dInts ds),ap 30 ((ey L).length),ap 31 0],
  [[.sl 1 (ey L) (some 0),.v (.slice none 0 0)],[.loc 0 0]],[⟨(ey L).length,9,1,none⟩]⟩
abbrev CO (L:List ByteArray) (ds az:List Nat) (m e:Nat):St:=
 ⟨[aw 3 1,oJ 4 [.sl 1 (dInts ds) none],aU 29 1 (dInts ds),ap 30 ((ey L).length),ap 31 e],
  [[.sl 1 (ey L) (some 0),.sl 1 (dInts az) (some 1)],[.loc 0 0]],[⟨(ey L).length,9,1,none⟩,⟨m,3,1,none⟩]⟩
theorem getD_some {α:Type} {l:List α} {i:Nat} {x d:α} (h:l[i]? = some x):l.getD i d=x:=by simp [ek,h]
theorem rq {α:Type} {l:List α} {i:Nat} {d:α} (h:i < l.length):l[i]? = some (l.getD i d):=by grind
theorem TX {L:List ByteArray} {ds:List Nat} (oq:ds.Perm (List.range L.length)) (Mw:∀ i j p q:Nat,i < j->ds[i]? = some p->ds[j]? = some q->CM L q p=false):gJ L (eT L ds L.length):=by
 have hlen:ds.length=L.length:=by rw [oq.length_eq,List.length_range]
 let D:Nat->Nat:=fun i=>ds.getD i 0
 let T:Nat->ByteArray:=fun i=>L.getD (D i) emptyB
 have hD:∀ i,i < L.length->ds[i]? = some (D i):=fun i hi=>rq (by omega)
 have hDn:∀ i,i < L.length->D i < L.length:=fun i hi=>by
  have:=oq.mem_iff.1 (mG (hD i hi));exact List.mem_range.1 this
 have hT:∀ i,i < L.length->L[D i]? = some (T i):=fun i hi=>rq (hDn i hi);have fW:∀ i j,i < j->j < L.length->T i=T j∨Az (T i) (T j)=true:=by grind [CM,Ii]
 have Yj:∀ i,i < L.length->gp L ds i=true->∀ j,j < i->Az (T j) (T i)=true:=by
  intro i hi hh j Te;have aT:T i≠T (i - 1):=by grind [gp]
  grind [Az,fJ]
 have yK:∀ j,j < L.length->∃ k,k < L.length/\D k=j:=by
  intro j hj;have:=oq.mem_iff.2 (List.mem_range.2 hj);obtain ⟨k,hk⟩:=List.getElem?_of_mem this
  grind
 let H:=(List.range L.length).filter (gp L ds)
 have hH:∀ (a i:Nat),H[a]? = some i->i < L.length/\gp L ds i=true:=fun a i h=>by
  have:=mG h
  grind
 have JW:∀ (a p:Nat),(eT L ds L.length)[a]? = some p->∃ i,H[a]? = some i/\D i=p:=by grind [eT,gp]
 have hinc:∀ (a b i k:Nat),a < b->H[a]? = some i->H[b]? = some k->i < k:=by
  intro a b i k CL hi hk;have hp:List.Pairwise (·< ·) H:=List.Pairwise.filter _ List.pairwise_lt_range;obtain ⟨ha,rfl⟩:=List.getElem?_eq_some_iff.1 hi;obtain ⟨hb,rfl⟩:=List.getElem?_eq_some_iff.1 hk;exact List.pairwise_iff_getElem.1 hp a b ha hb CL
 refine ⟨?_,?_,?_,?_⟩
 ·intro a p h;obtain ⟨i,hi,rfl⟩:=JW a p h;exact hDn i (hH a i hi).1
 ·intro a b p q s t CL hp hq hs ht;obtain ⟨i,hi,rfl⟩:=JW a p hp;obtain ⟨k,hk,rfl⟩:=JW b q hq;rw [hT i (hH a i hi).1] at hs;rw [hT k (hH b k hk).1] at ht
  grind
 ·intro a p j s hp hs hj;obtain ⟨i,hi,rfl⟩:=JW a p hp;obtain ⟨ru,qO⟩:=hH a i hi;obtain ⟨k,hk,rfl⟩:=yK j (gS hj).1;rw [hT i ru] at hs;rw [hT k hk] at hj;simp only [oI] at hs hj;rcases Nat.lt_trichotomy k i with h | h | h
  ·have:=Yj i ru qO k h;rw [hs,hj,Az,ko] at this;cases this
  ·rw [h];exact aJ _
  ·have h2:=Mw i k (D i) (D k) h (hD i ru) (hD k hk)
   grind [CM,emptyB]
 ·intro j s hj;obtain ⟨k,hk,rfl⟩:=yK j (gS hj).1;rw [hT k hk] at hj;simp only [oI] at hj;obtain ⟨i,⟨ru,his⟩,hmin⟩:=least (p:=fun i=>i < L.length/\T i=s) ⟨k,hk,hj⟩;have qO:gp L ds i=true:=by grind [gp,emptyB]
  have hm:i∈H:=by simp only [H,List.mem_filter,List.mem_range];exact ⟨ru,qO⟩
  obtain ⟨a,ha⟩:=List.getElem?_of_mem hm;refine ⟨a,D i,?_,by rw [hT i ru,his]⟩;unfold eT
  grind
theorem vf (L:List ByteArray) (hl:L.length<=1099511627776) :
  Ev prog 105 [.sl 1 (ey L) none] [] [] (fun r _ _=>∃ az,gJ L az/\az.length<=L.length/\r = .pt (cC L az) 0):=by
 have hN:=bL L;refine eG 71 [.tmp 2] func105 rfl ntmps105 rfl fun _ _ _ _=>?_;refine ⟨⟨by simp [hN,maxLen];omega,by simp [hN];omega⟩,?_⟩;refine ⟨⟨rfl,by omega,by omega,by omega⟩,?_⟩;refine lJ (fun e=>MA L e) L.length (wkB 4 (by repeat' (first | exact rfl | exact we_rfl rfl | exact pN (fillA_0 _) | refine ⟨_,_,rfl,?_,?_⟩)) (by repeat' (first | exact trivial | exact we_rfl rfl | exact pN (fillA_0 _) | refine ⟨⟨_,rfl,?_⟩,?_⟩))) ?_;intro e he;refine br ?_ ?_<;>intro h
 ·have al:e < (ey L).length:=sU h;refine ⟨⟨by omega,by omega⟩,?_⟩;have e1:(dInts (gK (ey L).length e)).flatten.length=(ey L).length:=by rw [nM,List.length_map,JU (by omega)]
  refine ⟨by rw [e1];omega,?_⟩
  have cx:(dInts (gK (ey L).length e)).flatten.set (0 + (e:Int).toNat * 1) (DV.v (.int .i64 (e:Int)))=(dInts (gK (ey L).length (e + 1))).flatten:=by
   rw [show 0 + (e:Int).toNat * 1=e by omega,List.set_eq_take_append_cons_drop,aj (by rw [e1];omega),<- FF al];simp
  refine ⟨MA L (e + 1),(wkB 4 (by repeat' (first | exact rfl | exact we_rfl rfl | exact pN cx | exact we_int (nxt al (by omega)) | refine ⟨_,_,rfl,?_,?_⟩)) (by repeat' (first | exact trivial | exact we_rfl rfl | exact pN cx | exact we_int (nxt al (by omega)) | refine ⟨⟨_,rfl,?_⟩,?_⟩))),L.length - (e + 1),by omega,e + 1,rfl,by omega,rfl⟩
 ·have aM:e=(ey L).length:=by grind
  subst aM;rw [PQ]
  have hms:∀ dk:List Nat,dk.length=(List.range (ey L).length).length->∀ bx:List (List DV),bx[2]? = some (dInts dk).flatten->∀ N0 n0 m0:Nat,N0<=2->Cc bx N0 n0 m0 (.sl 1 (dInts dk) none) (.ms 2 1 0 (ey L).length (ey L).length):=by
   intro dk hdk bx hb N0 n0 m0 hN0;simp only [Cc];refine Or.inr (Or.inr (Or.inl ⟨2,0,(ey L).length,_,?_,hN0,hb,?_,?_,?_⟩))
   ·rw [bl,hdk,List.length_range]
   ·rw [List.drop_zero,List.take_of_length_le];rw [nM,List.length_map,bl];omega
   ·grind [dInts]
   ·grind [nM]
  refine JS (ds:=List.range (ey L).length) rfl (by simp) (ey L).length (fun p hp=>List.mem_range.1 hp) (CM L) (PL L) rfl (by simp [hN];omega)
   (fun dk=>[.pt [.sl 1 (dInts dk) none] 0,.pt [.pt [.sl 1 (ey L) none,.v (.slice none 0 0)] 0] 0])
   (fun dk hdk=>⟨_,_,rfl,Or.inr ⟨3,_,rfl,Nat.zero_le _,rfl,⟨_,_,rfl,hms dk hdk _ rfl 0 0 0 (Nat.zero_le _),rfl⟩⟩,ax⟩)
   (fun dk hdk hp i j p q hi hj=>JR L dk i j p q hi hj (by have:=hp p (mG hi);omega) (by have:=hp q (mG hj);omega)) rfl (fun ds oq Mw=>?_)
  have dc:ds.length=(ey L).length:=by rw [oq.length_eq,List.length_range]
  have Yk:=hms ds (by rw [dc,List.length_range])
  refine L3 2 (TW L ds) rfl rfl rfl ⟨_,_,rfl,⟨_,_,rfl,⟨nL rfl,rfl⟩,_,_,rfl,rfl,rfl⟩,_,_,rfl,⟨_,_,rfl,⟨nL rfl,rfl⟩,rfl⟩,rfl⟩
   ⟨⟨_,rfl,⟨nL rfl,rfl⟩⟩,⟨_,rfl,Or.inr ⟨3,_,rfl,by decide,rfl,⟨_,_,rfl,Yk _ rfl 2 0 0 (by decide),rfl⟩⟩⟩,⟨_,rfl,Yk _ rfl 2 2 1 (by decide)⟩,⟨_,rfl,rfl⟩,⟨_,rfl,rfl⟩,trivial⟩ ?_
  refine aQ (fun j st=>∃ e m:Nat,st=CO L ds (eT L ds e) m e/\m=(eT L ds e).length/\e<=(ey L).length/\j=(ey L).length - e) (ey L).length (CO L ds [] 0 0)
   (de 2 ⟨0,3,1,none⟩ rfl rfl rfl tH rfl rfl wB) ⟨0,0,rfl,rfl,by omega,by omega⟩ ?_
  rintro j st ⟨e,m,rfl,hm,he,rfl⟩;have kB:=JV L ds e;refine br ?_ ?_<;>intro h
  ·have al:e < (ey L).length:=sU h;obtain ⟨p,hp⟩:∃ p,ds[e]? = some p:=⟨_,gE (by omega)⟩
   have hpL:p < L.length:=by
    have:=oq.mem_iff.1 (mG hp);rw [List.mem_range] at this;omega
   obtain ⟨s,hs⟩:∃ s,L[p]? = some s:=⟨_,gE hpL⟩;refine iX (dK hp) ?_;have hgp:ds.getD e 0=p:=by simp [ek,hp]
   have Jv:L.getD p emptyB=s:=by simp [ek,hs]
   have dV:gp L ds e=true->eT L ds (e + 1)=eT L ds e ++ [p]:=fun hh=>by rw [ve,aj hh,hgp]
   have hold:gp L ds e=false->eT L ds (e + 1)=eT L ds e:=fun hh=>by rw [ve,ai (by rw [hh];decide),List.append_nil]
   have Il:gp L ds e=true->dInts (eT L ds e) ++ [[DV.v (.int .i64 (p:Int))]]=dInts (eT L ds (e + 1)):=fun hh=>by rw [dV hh];simp [dInts]
   by_cases h0:e=0
   ·subst h0;have hh:gp L ds 0=true:=by simp [gp]
    refine dI ?_;refine dS ?_;refine ⟨by rw [bl,hm],⟨by simp [bl,maxLen];omega,by simp [bl];omega⟩,?_⟩;refine ⟨CO L ds (eT L ds 1) (m + 1) 1,(wkB 2 (by repeat' (first | exact rfl | exact we_rfl rfl | exact we_int (nxt al (by omega)) | exact bZ (Il hh) rfl | refine ⟨_,_,rfl,?_,?_⟩)) (by repeat' (first | exact trivial | exact we_rfl rfl | exact we_int (nxt al (by omega)) | exact bZ (Il hh) rfl | refine ⟨⟨_,rfl,?_⟩,?_⟩))),(ey L).length - 1,by omega,1,m + 1,rfl,by rw [dV hh,List.length_append,hm];rfl,by omega,rfl⟩
   ·obtain ⟨p',x6⟩:∃ p',ds[e - 1]? = some p':=⟨_,gE (by omega)⟩
    have hpL':p' < L.length:=by
     have:=oq.mem_iff.1 (mG x6);rw [List.mem_range] at this;omega
    obtain ⟨s',hs'⟩:∃ s',L[p']? = some s':=⟨_,gE hpL'⟩;have hgp':ds.getD (e - 1) 0=p':=by simp [ek,x6]
    have hgs':L.getD p' emptyB=s':=by simp [ek,hs']
    have hhd:gp L ds e = !decide (s=s'):=by grind [gp]
    have hz:IntKind.i64.wrap ((e:Int) - 1)=((e - 1:Nat):Int):=by rw [wrap64 (by omega) (by omega)];omega
    refine dI ?_;refine br (fun _=>?_) (fun h=>?_)
    ·refine iX (eJ hs) ?_;refine ⟨[.v (.int .i64 (p':Int))],⟨by rw [hz];omega,by rw [hz];exact dK x6⟩,?_⟩;refine iX (eJ hs') ?_;refine br ?_ ?_<;>intro h2
     ·have hh:gp L ds e=true:=by grind [ak]
      refine dS ?_;refine ⟨by rw [bl,hm],⟨by simp [bl,maxLen];omega,by simp [bl];omega⟩,?_⟩;refine ⟨CO L ds (eT L ds (e + 1)) (m + 1) (e + 1),(wkB 2 (by repeat' (first | exact rfl | exact we_rfl rfl | exact we_int (nxt al (by omega)) | exact bZ (Il hh) rfl | refine ⟨_,_,rfl,?_,?_⟩)) (by repeat' (first | exact trivial | exact we_rfl rfl | exact we_int (nxt al (by omega)) | exact bZ (Il hh) rfl | refine ⟨⟨_,rfl,?_⟩,?_⟩))),(ey L).length - (e + 1),by omega,e + 1,m + 1,rfl,by rw [dV hh,List.length_append,hm];rfl,by omega,rfl⟩
     ·have hh:gp L ds e=false:=by grind [ak]
      have aG:dInts (eT L ds e)=dInts (eT L ds (e + 1)):=by rw [hold hh]
      refine ⟨CO L ds (eT L ds (e + 1)) m (e + 1),(wkB 2 (wA2 (nxt al (by omega)) aG) (wB2 (nxt al (by omega)) aG)),(ey L).length - (e + 1),by omega,e + 1,m,rfl,by rw [hold hh,hm],by omega,rfl⟩
    ·grind
  ·have aM:e=L.length:=by grind
   subst aM;exact ⟨.pt (cC L (eT L ds L.length)) 0,Or.inr ⟨0,_,rfl,Nat.zero_le _,rfl,ax⟩,_,TX (by rw [<- hN];exact oq) Mw,kB,rfl⟩
abbrev Ym (L:List ByteArray) (az:List Nat) (e:Nat):St:=
 ⟨[oJ 3 (cC L az),aU 10 1 (ey L),ap 11 ((ey L).length),ap 12 e],[],[]⟩
theorem MB {α:Type}:∀ {l:List α},(∀ (i j:Nat) (x:α),j < i->l[i]? = some x->l[j]? ≠ some x)->l.Nodup
 | l,h=>by
  rw [List.nodup_iff_pairwise_ne,List.pairwise_iff_getElem];intro i j hi hj BZ he;exact h j i l[j] BZ (gE hj) (by rw [gE hi,he])
theorem oN (L:List ByteArray) (hl:L.length<=1099511627776) :
  Ev prog 112 [.sl 1 (ey L) none] [] [] (fun r _ _=>∃ z:Int,r = .v (.int .i64 z)/\(0<=z↔¬ L.Nodup)):=by
 have hN:=bL L;refine eG 28 [.tmp 2] func112 rfl ntmps112 rfl fun _ _ _ _=>?_;refine bp L7 rfl (vf L hl) ax (fun r hr=>?_);obtain ⟨az,hT,kB,rfl⟩:=hr;refine lI (fun j st=>∃ e:Nat,st=Ym L az e/\e<=L.length/\(∀ (i j:Nat) (x:ByteArray),i < e->j < i->L[i]? = some x->L[j]? ≠ some x)/\j=L.length - e) ⟨0,rfl,by omega,fun i j x hi=>by omega,rfl⟩ (wkM wB) ?_;rintro j st ⟨e,rfl,he,hinv,rfl⟩;refine br ?_ ?_<;>intro h
 ·have al:e < L.length:=sV hN h;obtain ⟨s,hs⟩:=gX al;obtain ⟨q,p,hq,hp⟩:=hT.all e s hs;have du:=hT.fst q p e s hq hp hs;refine iX (eJ hs) ?_;refine cP mO (find_spec L az s q p hT (by omega) hq hp) ?_;refine br ?_ ?_<;>intro h2
  ·have h2:p < e:=sU h2;refine ⟨(e:Int),rfl,⟨fun _ hnd=>?_,fun _=>by omega⟩⟩;rw [List.nodup_iff_pairwise_ne,List.pairwise_iff_getElem] at hnd;obtain ⟨h3,h4⟩:=List.getElem?_eq_some_iff.1 hp;obtain ⟨h5,h6⟩:=List.getElem?_eq_some_iff.1 hs;exact hnd p e h3 h5 h2 (by rw [h4,h6])
  ·have h2:¬ p < e:=sU h2;refine ⟨Ym L az (e + 1),(wkM (wB1 (nxt al (by omega)))),L.length - (e + 1),by omega,e + 1,rfl,by omega,fun i j x hi hj hx hjx=>?_,rfl⟩;by_cases Lh:i=e
   ·subst Lh;rw [hs] at hx;simp only [oI] at hx;subst hx;have:=hT.fst q p j s hq hp hjx;omega
   ·exact hinv i j x (by omega) hj hx hjx
 ·have aM:e=L.length:=by grind
  subst aM;refine ⟨-1,rfl,⟨fun h3=>by omega,fun h3=>?_⟩⟩;exact absurd (MB fun i j x BZ hi hj=>hinv i j x (gS hi).1 BZ hi hj) h3
def sameWds:List Wd->List Wd->Bool
 | [],[]=>true
 | x :: r,y :: s=>decide (x.s=y.s) && sameWds r s
 | _,_=>false
theorem sC:∀ {a b:List Wd},a.length≠b.length->sameWds a b=false
 | [],[],h=>(h rfl).elim
 | x :: r,y :: s,h=>by
  have:r.length≠s.length:=sU h;simp [sameWds,sC this]
 | [],y :: s,_=>rfl
 | x :: r,[],_=>rfl
abbrev AA (a b:List Wd) (e:Nat):St:=
 ⟨[aU 0 2 (bq a),aU 1 2 (bq b),ap 5 e],[],[]⟩
theorem lF (a b:List Wd) (hs:a.length<=4611686018427387904) :
  EvP prog 318 [.sl 2 (bq a) none,.sl 2 (bq b) none] (.v (.bool (sameWds a b))):=by
 refine eG 28 [.tmp 4] func318 rfl ntmps318 rfl fun _ _ _ _=>?_;refine br ?_ ?_<;>intro h
 ·have aT:a.length≠b.length:=by have:=h;simp [av] at this;omega
  exact congrArg (fun b=>DV.v (.bool b)) (sC aT).symm
 ·have hl:a.length=b.length:=by have:=h;simp [av] at this;omega
  refine aQ (fun j st=>∃ e:Nat,st=AA a b e/\e<=a.length/\sameWds a b=sameWds (a.drop e) (b.drop e)/\j=a.length - e) a.length
   (AA a b 0) (wkM wB) ⟨0,rfl,by omega,rfl,by omega⟩ ?_
  rintro j st ⟨e,rfl,he,aG,rfl⟩;refine br ?_ ?_<;>intro h
  ·have al:e < a.length:=by simpa [av] using h
   obtain ⟨x,hx⟩:=gX al;obtain ⟨y,hy⟩:∃ y,b[e]? = some y:=⟨_,gE (hl ▸ al)⟩;rw [drop_cons hx,drop_cons hy] at aG;refine dI ?_;refine ⟨jA x,⟨by omega,aK hx⟩,jA y,⟨by omega,aK hy⟩,?_⟩;refine br ?_ ?_<;>intro h
   ·have aT:x.s≠y.s:=sU h;refine (bH ?_:);rw [aG];simp [sameWds,aT]
   ·have aT:x.s=y.s:=sU h;refine ⟨AA a b (e + 1),(wkM (wB1 (nxt al (by omega)))),a.length - (e + 1),by omega,e + 1,rfl,by omega,?_,rfl⟩;rw [aG];simp [sameWds,aT]
  ·have aM:e=a.length:=by have:=h;simp [av] at this;omega
   refine (bH ?_:);rw [aG,aM,hl];simp [sameWds];rw [<- hl];simp [sameWds]
def ch (p q:Ph):Bool:=(p.bare == q.bare) && decide (p.wide=q.wide) && sameWds p.label q.label && decide (p.ck=q.ck) && decide (p.cn=q.cn) && sameWds p.cl q.cl
theorem lG (p q:Ph) (tl tl':List DV) (hs:p.wt<=4611686018427387904) (ht:CcL [] 0 0 0 tl tl) (tF:CcL [] 0 0 0 tl' tl') :
  EvP prog 281 [.agg (Fz p tl),.agg (Fz q tl')] (.v (.bool (ch p q))):=by
 refine eG 51 [.tmp 4] func281 rfl ntmps281 rfl fun _ _ _ _=>?_;have h1:=bi p.label;have h2:=bi p.cl;simp only [Ph.wt] at hs;refine br ?_ ?_<;>intro h
 ·refine cP Mm (lF p.label q.label (by omega)) ?_;refine br ?_ ?_<;>intro h2
  ·refine cP Mm (lF p.cl q.cl (by omega)) ?_;refine (bH ?_:);simp [pickB_and] at h h2;simp [ch,pickB_and,h,h2]
  ·refine (bH ?_:);simp [pickB_and] at h h2;simp [ch,pickB_and,h]
   grind
 ·refine (bH ?_:);simp [pickB_and] at h;simp [ch]
  grind
def kp (h k:Hd):Bool:=decide (h.ag=k.ag) && decide (h.lo=k.lo) && decide (h.hi=k.hi) && decide (h.most=k.most) && decide (h.name.s=k.name.s) && sameWds h.af k.af
mutual
def sameTy:Ty->Ty->Bool
 | .mk h ps,.mk k qs=>kp h k && samePts ps qs
def samePts:Pts->Pts->Bool
 | .nil,.nil=>true
 | .cons p t r,.cons q u s=>decide (p.name.s=q.name.s) && ch p q && sameTy t u && samePts r s
 | _,_=>false
end
theorem sD:∀ {a b:Pts},a.len≠b.len->samePts a b=false
 | .nil,.nil,h=>(h rfl).elim
 | .cons p t r,.cons q u s,h=>by
  have:r.len≠s.len:=by simpa [Pts.len] using h
  simp [samePts,sD this]
 | .nil,.cons _ _ _,_=>by simp [samePts]
 | .cons _ _ _,.nil,_=>by simp [samePts]
def iI (h:Hd):Hd:=
 ⟨h.ag,0,if h.ag=2 then h.lo else 0,if h.ag=2 then h.hi else 0,if h.ag=3∨h.ag=5 then h.most else 0,if h.ag=4 then h.af else [],if h.ag=9 then h.name else ⟨emptyB,0⟩⟩
def mask:Ty->Ty
 | .mk h ps=>.mk (iI h) (if 4 < h.ag/\h.ag < 9 then ps else .nil)
theorem y4 (bx:List (List DV)) (N n m:Nat) (t:Ty):CcL bx N n m (dG t) (dG t):=by
 obtain ⟨h,ps⟩:=t;simp only [dG,CcL,Cc]
 repeat' (first | exact rfl | exact trivial | exact Or.inr (Or.inl ⟨_,rfl⟩) | refine ⟨_,_,rfl,?_,?_⟩)
abbrev FG (a b:Ty) (e:Nat):St:=
 ⟨[aw 2 0,aw 3 1,ap 5 e],[dG a,dG b],[]⟩
theorem mQ:∀ (n:Nat) (a b:Ty),a.wt<=n->a.wt<=4611686018427387904 ->
  EvP prog 317 [.agg (dG a),.agg (dG b)] (.v (.bool (sameTy a b)))
 | 0,a,b,hn,_=>by have:=a.cT;omega
 | n + 1,.mk h ps,.mk k qs,hn,bW=>by
  simp only [Ty.wt,Hd.wt] at hn bW;have hl:=bi h.af;have iP:=ps.fk;refine eG 98 [.tmp 4] func317 rfl ntmps317 rfl fun _ _ _ _=>?_;refine br ?_ ?_<;>intro hA
  ·simp [ak] at hA;obtain ⟨⟨⟨⟨e1,e2⟩,e3⟩,e4⟩,e5⟩:=hA;refine cP Mm (lF h.af k.af (by omega)) ?_;refine br ?_ ?_<;>intro hB
   ·refine (bH ?_:);simp [ak,e1,e2,e3,e4,e5,aD] at hB;simp only [sameTy,kp];rcases hB with hB | hB
    ·simp [hB]
    ·have:ps.len≠qs.len:=by omega
     simp [sD this]
   ·simp [ak,e1,e2,e3,e4,e5,aD] at hB;obtain ⟨e6,e7⟩:=hB;have e8:ps.len=qs.len:=by omega
    have eh:sameTy (.mk h ps) (.mk k qs)=samePts ps qs:=by simp [sameTy,kp,e1,e2,e3,e4,e5,e6]
    refine aQ (fun j st=>∃ e:Nat,st=FG (.mk h ps) (.mk k qs) e/\e<=ps.len/\samePts ps qs=samePts (ps.drop e) (qs.drop e)/\j=ps.len - e) ps.len
     (FG (.mk h ps) (.mk k qs) 0) (wkM wB) ⟨0,rfl,by omega,rfl,by omega⟩ ?_
    rintro j st ⟨e,rfl,he,aG,rfl⟩;refine br ?_ ?_<;>intro hL
    ·have al:e < ps.len:=by simpa [aD] using hL
     obtain ⟨p,t,hx⟩:=Pts.dX al;obtain ⟨q,u,hy⟩:=Pts.dX (e8 ▸ al);rw [Pts.drop_cons hx,Pts.drop_cons hy] at aG;have CP:=Pts.fM (mG hx);obtain ⟨t,ts⟩:=t;obtain ⟨u,us⟩:=u;apply nI (fun _=>false) 10 11 [0,1,2,3,4,5,6,7,8,9,10,11,12,13] [0,1,2,3,4,5,6,7,8,9,11,10,12,13] 2 3 mo (by decide +kernel)
     ·refine ⟨_,⟨by omega,bF hx⟩,_,⟨by omega,bF hy⟩,?_⟩;refine (?_:@Eq St _ _);exact rfl
     ·refine ⟨_,⟨by omega,bF hx⟩,_,⟨by omega,bF hy⟩,?_⟩;refine (⟨rfl,rfl,?_⟩:_/\_/\_)
      repeat' (first | exact trivial | refine ⟨rfl,?_⟩)
     ·rfl
     refine br ?_ ?_<;>intro hC
     ·have hC:p.name.s=q.name.s:=sU hC;refine cP Mk (lG p q (dG (.mk t ts)) (dG (.mk u us)) (by omega) (y4 _ _ _ _ _) (y4 _ _ _ _ _)) ?_;refine br ?_ ?_<;>intro hD
      ·have hD:ch p q=true:=by simpa [ak,hC] using hD
       refine cP mP (mQ n (.mk t ts) (.mk u us) (by omega) (by omega)) ?_;refine br ?_ ?_<;>intro hE
       ·refine (bH ?_:);rw [eh,aG];simp [ak,hC,hD] at hE;simp [samePts,hE]
       ·simp [ak,hC,hD] at hE;refine ⟨FG (.mk h ps) (.mk k qs) (e + 1),(wkM (wB1 (nxt al (by omega)))),ps.len - (e + 1),by omega,e + 1,rfl,by omega,?_,rfl⟩;rw [aG];simp [samePts,hC,hD,hE]
      ·have hD:ch p q=false:=by simpa [ak,hC] using hD
       refine (bH ?_:);rw [eh,aG];simp [samePts,hD]
     ·have hC:p.name.s≠q.name.s:=sU hC;refine (bH ?_:);rw [eh,aG];simp [samePts,hC]
    ·have aM:e=ps.len:=by have:=hL;simp [aD] at this;omega
     refine (bH ?_:);rw [eh,aG,aM,Pts.cV,e8,Pts.cV];simp [samePts]
  ·refine (bH ?_:);simp [ak] at hA;simp only [sameTy,kp]
   grind
theorem CQ (t:Ty) (bW:t.wt<=4611686018427387904) :
  EvP prog 320 [.agg (dG t)] (.v (.bool (sameTy t cr))):=by
 obtain ⟨h,ps⟩:=t;refine eG 6 [.tmp 2] func320 rfl ntmps320 rfl fun _ _ _ _=>?_;refine cP mP (mQ _ (.mk h ps) cr (aJ _) bW) ?_;exact (rfl:_=_)
theorem FH (t:Ty) (bW:t.wt<=4611686018427387904) :
  EvP prog 279 [.agg (dG t)] (.v (.bool (sameTy t (mask t)))):=by
 obtain ⟨h,ps⟩:=t
 have key:∀ (h':Hd) (ps':Pts),iI h=h' -> (if 4 < h.ag/\h.ag < 9 then ps else .nil)=ps' ->
   EvP prog 317 [.agg (dG (.mk h ps)),.agg (dG (.mk h' ps'))] (.v (.bool (sameTy (.mk h ps) (mask (.mk h ps))))):=by
  rintro h' ps' rfl rfl;exact mQ _ (.mk h ps) _ (aJ _) bW
 obtain ⟨ag,at',lo,hi,most,af,name⟩:=h;by_cases hr:2<=ag/\ag<=9
 ·obtain hk | hk | hk | hk | hk | hk | hk | hk:ag=2∨ag=3∨ag=4∨ag=5∨ag=6∨ag=7∨ag=8∨ag=9:=by omega
  ·subst hk;refine eG 53 [.tmp 2] func279 rfl ntmps279 rfl fun _ _ _ _=>?_;refine cP mP (key ⟨2,0,lo,hi,0,[],⟨emptyB,0⟩⟩ .nil (by simp [iI]) (by simp)) ?_;exact (rfl:_=_)
  ·subst hk;refine eG 53 [.tmp 2] func279 rfl ntmps279 rfl fun _ _ _ _=>?_;refine cP mP (key ⟨3,0,0,0,most,[],⟨emptyB,0⟩⟩ .nil (by simp [iI]) (by simp)) ?_;exact (rfl:_=_)
  ·subst hk;refine eG 53 [.tmp 2] func279 rfl ntmps279 rfl fun _ _ _ _=>?_;refine cP mP (key ⟨4,0,0,0,0,af,⟨emptyB,0⟩⟩ .nil (by simp [iI]) (by simp)) ?_;exact (rfl:_=_)
  ·subst hk;refine eG 53 [.tmp 2] func279 rfl ntmps279 rfl fun _ _ _ _=>?_;refine cP mP (key ⟨5,0,0,0,most,[],⟨emptyB,0⟩⟩ ps (by simp [iI]) (by simp)) ?_;exact (rfl:_=_)
  ·subst hk;refine eG 53 [.tmp 2] func279 rfl ntmps279 rfl fun _ _ _ _=>?_;refine cP mP (key ⟨6,0,0,0,0,[],⟨emptyB,0⟩⟩ ps (by simp [iI]) (by simp)) ?_;exact (rfl:_=_)
  ·subst hk;refine eG 53 [.tmp 2] func279 rfl ntmps279 rfl fun _ _ _ _=>?_;refine cP mP (key ⟨7,0,0,0,0,[],⟨emptyB,0⟩⟩ ps (by simp [iI]) (by simp)) ?_;exact (rfl:_=_)
  ·subst hk;refine eG 53 [.tmp 2] func279 rfl ntmps279 rfl fun _ _ _ _=>?_;refine cP mP (key ⟨8,0,0,0,0,[],⟨emptyB,0⟩⟩ ps (by simp [iI]) (by simp)) ?_;exact (rfl:_=_)
  ·subst hk;refine eG 53 [.tmp 2] func279 rfl ntmps279 rfl fun _ _ _ _=>?_;refine cP mP (key ⟨9,0,0,0,0,[],name⟩ .nil (by simp [iI]) (by simp)) ?_;exact (rfl:_=_)
 ·refine eG 53 [.tmp 2] func279 rfl ntmps279 rfl fun _ _ _ _=>?_;refine br (fun c=>?_) (fun c1=>?_)
  ·have:ag=2:=of_decide_eq_true c;omega
  refine br (fun c=>?_) (fun c2=>?_)
  ·simp [ak] at c;omega
  refine br (fun c=>?_) (fun c3=>?_)
  ·have:ag=4:=of_decide_eq_true c;omega
  refine br (fun c=>?_) (fun c4=>?_)
  ·simp [pickB_and] at c;omega
  refine br (fun c=>?_) (fun c5=>?_)
  ·have:ag=9:=of_decide_eq_true c;omega
  have e1:¬ ag=2:=of_decide_eq_false c1;have e3:¬ ag=4:=of_decide_eq_false c3;have e5:¬ ag=9:=of_decide_eq_false c5;simp [ak,pickB_and] at c2 c4;refine cP mP (key ⟨ag,0,0,0,0,[],⟨emptyB,0⟩⟩ .nil (by simp [iI,e1,c2,e3,e5]) (by simp;omega)) ?_;exact (rfl:_=_)
abbrev Ft:Type:=Int × Int
def Ft.d (f:Ft):DV:=.agg [.v (.int .i64 f.1),.v (.int .i64 f.2)]
def badWd:List Wd->Ft
 | []=>(0,0)
 | w :: r=>if bc w.s then badWd r else (9,w.a)
def bA (l:List Wd):Ft:=
 if l.length<=32 then badWd l else (8,((l[32]?).getD (⟨emptyB,0⟩:Wd)).a)
abbrev AB (l:List Wd) (e:Nat):St:=
 ⟨[aU 0 2 (bq l),aw 2 0,ap 3 e],[[.v (.int .i64 0),.v (.int .i64 0)]],[]⟩
theorem lH (l:List Wd) (hs:wdsWt l<=4611686018427387904) :
  EvP prog 277 [.sl 2 (bq l) none] (bA l).d:=by
 have mh:=bi l;refine eG 32 [.cell 2 44] func277 rfl ntmps277 rfl fun _ _ _ _=>?_;refine br ?_ ?_<;>intro h
 ·have al:32 < l.length:=by simp [av] at h;omega
  obtain ⟨x,hx⟩:=gX al;have:bA l=(8,x.a):=by simp [bA,Nat.not_le.2 al,hx]
  refine ⟨jA x,⟨by omega,aK hx⟩,_,?_,rfl⟩;rw [this];exact ax
 ·have fW:l.length<=32:=by simp [av] at h;omega
  refine aQ (fun j st=>∃ e:Nat,st=AB l e/\e<=l.length/\badWd l=badWd (l.drop e)/\j=l.length - e) l.length
   (AB l 0) (wkM wB) ⟨0,rfl,by omega,rfl,by omega⟩ ?_
  rintro j st ⟨e,rfl,he,aG,rfl⟩;refine br ?_ ?_<;>intro hL
  ·have al:e < l.length:=by simpa [av] using hL
   obtain ⟨x,hx⟩:=gX al;rw [drop_cons hx] at aG;have Cn:=gY (mG hx);refine ⟨jA x,⟨by omega,aK hx⟩,?_⟩;refine cP H7 (j4 x.s (by omega)) ?_;refine br ?_ ?_<;>intro hN
   ·have hN:bc x.s=false:=sU hN;have:bA l=(9,x.a):=by simp [bA,fW,aG,badWd,hN]
    refine ⟨jA x,⟨by omega,aK hx⟩,_,?_,rfl⟩;rw [this];exact ax
   ·have hN:bc x.s=true:=sU hN;refine ⟨AB l (e + 1),(wkM (wB1 (nxt al (by omega)))),l.length - (e + 1),by omega,e + 1,rfl,by omega,?_,rfl⟩;rw [aG];simp [badWd,hN]
  ·have aM:e=l.length:=by simp [av] at hL;omega
   have:bA l=(0,0):=by simp [bA,fW,aG,aM,badWd]
   refine ⟨_,?_,rfl⟩;rw [this];exact ax
def cp (l:List Wd) (s:ByteArray):Bool:=l.any fun w=>decide (w.s=s)
def aA (l:List Wd) (i:Nat) (x:Wd):Int:=
 if bc x.s then (if cp (l.take i) x.s then 10 else 0) else 9
abbrev vg (l:List Wd) (i e:Nat):St:=
 ⟨[aU 0 2 (bq l),ap 1 i,ap 5 e],[],[]⟩
theorem ou (l:List Wd) (i:Nat) (x:Wd) (hs:wdsWt l<=4611686018427387904) (hx:l[i]? = some x) :
  EvP prog 280 [.sl 2 (bq l) none,.v (.int .i64 i)] (.v (.int .i64 (aA l i x))):=by
 have mh:=bi l;have hi:=(gS hx).1;have Cn:=gY (mG hx);refine eG 29 [.tmp 4] func280 rfl ntmps280 rfl fun _ _ _ _=>?_;refine ⟨jA x,⟨by omega,aK hx⟩,?_⟩;refine cP H7 (j4 x.s (by omega)) ?_;refine br ?_ ?_<;>intro hN
 ·have hN:bc x.s=false:=sU hN;refine (rb ?_:);simp [aA,hN]
 ·have hN:bc x.s=true:=sU hN
  refine aQ (fun j st=>∃ e:Nat,st=vg l i e/\e<=i/\cp (l.take e) x.s=false/\j=i - e) i
   (vg l i 0) (wkM wB) ⟨0,rfl,by omega,rfl,by omega⟩ ?_
  rintro j st ⟨e,rfl,he,aG,rfl⟩;refine br ?_ ?_<;>intro hL
  ·have al:e < i:=sU hL;obtain ⟨y,hy⟩:∃ y,l[e]? = some y:=⟨_,gE (by omega)⟩;refine dI ?_;refine ⟨jA y,⟨by omega,aK hy⟩,jA x,⟨by omega,aK hx⟩,?_⟩;refine br ?_ ?_<;>intro hE
   ·have hE:y.s=x.s:=sU hE;refine (rb ?_:)
    have:cp (l.take i) x.s=true:=by
     simp only [cp,List.any_eq_true];exact ⟨y,List.mem_take_iff_getElem.2 ⟨e,by omega,(gS hy).2⟩,by simpa using hE⟩
    simp [aA,hN,this]
   ·have hE:¬ y.s=x.s:=sU hE;refine ⟨vg l i (e + 1),(wkM (wB1 (nxt al (by omega)))),i - (e + 1),by omega,e + 1,rfl,by omega,?_,rfl⟩;rw [List.take_add_one,hy];simp only [cp,List.any_append] at aG ⊢;simp [aG,hE]
  ·have aM:e=i:=by have:=of_decide_eq_false hL;omega
   refine (rb ?_:);subst aM;simp [aA,hN,aG]
def pNames:Pts->List Wd
 | .nil=>[]
 | .cons p _ r=>p.name :: pNames r
theorem fN:∀ ps:Pts,(pNames ps).length=ps.len
 | .nil=>rfl
 | .cons p t r=>by simp [pNames,Pts.len,fN r]
theorem fO:∀ {ps:Pts} {j:Nat} {p:Ph} {t:Ty},ps.toList[j]? = some (p,t)->(pNames ps)[j]? = some p.name
 | .nil,j,p,t,h=>by simp [Pts.toList] at h
 | .cons q u r,0,p,t,h=>by grind [Pts.toList,pNames]
 | .cons q u r,j + 1,p,t,h=>by
  simp only [Pts.toList,List.getElem?_cons_succ] at h;simp only [pNames,List.getElem?_cons_succ];exact fO h
theorem ry:∀ ps:Pts,wdsWt (pNames ps)<=ps.wt
 | .nil=>aJ _
 | .cons p t r=>by
  have:=ry r
  grind [pNames,wdsWt,Pts.wt,Ph.wt]
abbrev AD (ps:Pts) (l:List Wd) (n e:Nat):St:=
 ⟨[aU 0 18 (fm ps),(3,⟨[],.sl 2 (bq l) (some 0)⟩),ap 4 e],[],[⟨n,27,2,none⟩]⟩
theorem AE (ps:Pts) (hs:ps.wt<=1099511627776):EvP prog 319 [.sl 18 (fm ps) none] (.sl 2 (bq (pNames ps)) none):=by
 have iP:=ps.fk;refine eG 20 [.tmp 2] func319 rfl ntmps319 rfl fun _ _ _ _=>?_
 refine aQ (fun j st=>∃ (e:Nat),st=AD ps ((pNames ps).take e) e e/\e<=ps.len/\j=ps.len - e) ps.len
  (AD ps [] 0 0) (fq ⟨0,27,2,none⟩ rfl ⟨_,rfl⟩ rfl wA rfl rfl jT) ⟨0,by simp,by omega,by omega⟩ ?_
 rintro j st ⟨e,rfl,he,rfl⟩;refine br ?_ ?_<;>intro hL
 ·have al:e < ps.len:=by simpa [aD] using hL
  obtain ⟨p,t,hx⟩:=Pts.dX al;refine iX (bF hx) ?_;refine ⟨by simp [av,fN];omega,⟨by simp [av,fN,maxLen];omega,by simp [av,fN];omega⟩,?_⟩;refine ⟨AD ps ((pNames ps).take (e + 1)) (e + 1) (e + 1),(wkM (wB2 (nxt al (by omega)) (yW (fO hx)))),ps.len - (e + 1),by omega,e + 1,rfl,by omega,rfl⟩
 ·have aM:e=ps.len:=by simp [aD] at hL;omega
  rw [aM,List.take_of_length_le (by rw [fN];omega)];exact ⟨_,ax,rfl⟩
mutual
def Ty.cnt:Ty->Nat
 | .mk _ ps=>1 + ps.cnt
def Pts.cnt:Pts->Nat
 | .nil=>0
 | .cons p t r=>(if p.bare then 0 else t.cnt) + r.cnt
end
mutual
def Ty.deep:Ty->Nat
 | .mk _ ps=>ps.deep + 1
def Pts.deep:Pts->Nat
 | .nil=>0
 | .cons p t r=>max (if p.bare then 0 else t.deep) r.deep
end
mutual
theorem Ty.dY:∀ t:Ty,t.cnt<=t.wt
 | .mk h ps=>by have:=Pts.dY ps;simp only [Ty.cnt,Ty.wt,Hd.wt];omega
theorem Pts.dY:∀ ps:Pts,ps.cnt<=ps.wt
 | .nil=>aJ _
 | .cons p t r=>by
  have:=Ty.dY t;have:=Pts.dY r;simp only [Pts.cnt,Pts.wt];split<;>omega
end
mutual
theorem Ty.nN:∀ t:Ty,t.deep<=t.wt
 | .mk h ps=>by have:=Pts.nN ps;simp only [Ty.deep,Ty.wt,Hd.wt];omega
theorem Pts.nN:∀ ps:Pts,ps.deep<=ps.wt
 | .nil=>aJ _
 | .cons p t r=>by
  have:=Ty.nN t;have:=Pts.nN r
  grind [Pts.deep,Pts.wt]
end
abbrev AF (t:Ty) (e n d:Nat):St:=
 ⟨[aw 1 0,ap 4 n,ap 5 d,ap 6 e],[dG t],[]⟩
theorem j5:∀ (k:Nat) (t:Ty),t.wt<=k->t.wt<=1099511627776 ->
  EvP prog 101 [.agg (dG t)] (.tup [.v (.int .i64 t.cnt),.v (.int .i64 t.deep)])
 | 0,t,hn,_=>by have:=t.cT;omega
 | k + 1,.mk h ps,hn,bW=>by
  simp only [Ty.wt,Hd.wt] at hn bW;have iP:=ps.fk;have hc:=ps.dY;have hdp:=ps.nN;refine eG 42 [.tmp 2,.tmp 3] func101 rfl ntmps101 rfl fun _ _ _ _=>?_
  refine aQ (fun j st=>∃ (e n d:Nat),st=AF (.mk h ps) e n d/\e<=ps.len/\n + (ps.drop e).cnt=1 + ps.cnt/\max d (ps.drop e).deep=ps.deep/\j=ps.len - e) ps.len
   (AF (.mk h ps) 0 1 0) (wkM wB) ⟨0,1,0,rfl,by omega,rfl,by simp [Pts.drop],by omega⟩ ?_
  rintro j st ⟨e,n,d,rfl,he,aT,VF,rfl⟩;refine br ?_ ?_<;>intro hL
  ·have al:e < ps.len:=by simpa [aD] using hL
   obtain ⟨p,t,hx⟩:=Pts.dX al;have CP:=Pts.fM (mG hx);rw [Pts.drop_cons hx] at aT VF;simp only [Pts.cnt,Pts.deep] at aT VF;have hct:=t.dY;have hdt:=t.nN;refine iX (bF hx) ?_;refine br ?_ ?_<;>intro hB
   ·rw [aj hB] at aT VF;exact rE ⟨_,by omega,e + 1,n,d,rfl,by omega,by omega,by omega,rfl⟩ (wkM (wB1 (nxt al (by omega))))
   ·rw [ai (by simp [hB])] at aT VF;obtain ⟨u,us⟩:=t;refine iX (bF hx) ?_;refine cP H5 (j5 k (.mk u us) (by omega) (by omega)) ?_;have sE:IntKind.i64.wrap ((n:Int) + (Ty.mk u us).cnt)=((n + (Ty.mk u us).cnt:Nat):Int):=by rw [wrap64 (by omega) (by omega)];omega
    refine br ?_ ?_<;>intro hD
    ·have hD:d < (Ty.mk u us).deep:=sU hD;exact ⟨AF (.mk h ps) (e + 1) (n + (Ty.mk u us).cnt) (Ty.mk u us).deep,(wkM (wB2 sE (nxt al (by omega)))),ps.len - (e + 1),by omega,e + 1,_,_,rfl,by omega,by omega,by omega,rfl⟩
    ·have hD:¬ d < (Ty.mk u us).deep:=sU hD;exact ⟨AF (.mk h ps) (e + 1) (n + (Ty.mk u us).cnt) d,(wkM (wB2 sE (nxt al (by omega)))),ps.len - (e + 1),by omega,e + 1,_,_,rfl,by omega,by omega,by omega,rfl⟩
  ·have aM:e=ps.len:=by simp [aD] at hL;omega
   rw [aM,Pts.cV] at aT VF;simp only [Pts.cnt,Pts.deep] at aT VF;have e1:IntKind.i64.wrap ((d:Int) + 1)=((Ty.mk h ps).deep:Int):=by rw [wrap64 (by omega) (by omega)];simp only [Ty.deep];omega
   have e2:(n:Int)=((Ty.mk h ps).cnt:Int):=by simp only [Ty.cnt];omega
   refine ⟨_,?_,rfl⟩;rw [<- e1,<- e2];exact ax
def wD (f:Ft) (n:Int):DV:=.agg [.v (.int .i64 f.1),.v (.int .i64 f.2),.v (.int .i64 n)]
theorem dR (f:Ft) (n e a:Int):EvP prog 278 [wD f n,.v (.int .i64 e),.v (.int .i64 a)] (wD (e,a) n):=by
 refine eG 13 [.cell 6 335] func278 rfl ntmps278 rfl fun _ _ _ _=>?_;exact ⟨_,ax,rfl⟩
def aR (p:Ph):Ft:=
 if p.ck=0 then (if p.cn=0/\p.cl=[] then (0,0) else (19,p.name.a))
 else if p.ck < 0∨3 < p.ck then (14,p.ca)
 else if (p.ck=1/\p.cn < 1)∨(p.ck=2/\(p.cn < 0∨4096 < p.cn))∨(p.ck=3/\p.cn≠0) then (20,p.ca)
 else bA p.cl
theorem x9 (p:Ph) (tl:List DV) (hs:p.wt<=4611686018427387904) :
  EvP prog 321 [.agg (Fz p tl)] (aR p).d:=by
 simp only [Ph.wt] at hs;refine eG 73 [.cell 2 44] func321 rfl ntmps321 rfl fun _ _ _ _=>?_;refine br ?_ ?_<;>intro h0
 ·have h0:p.ck=0:=sU h0;refine br ?_ ?_<;>intro h1
  ·have:aR p=(19,p.name.a):=by grind [ak,av,aR]
   refine ⟨_,?_,rfl⟩;rw [this];exact ax
  ·have:aR p=(0,0):=by
    simp [ak,av] at h1;simp [aR,h0,h1.1,h1.2]
   refine ⟨_,?_,rfl⟩;rw [this];exact ax
 ·have h0:¬ p.ck=0:=sU h0;refine br ?_ ?_<;>intro h1
  ·have:aR p=(14,p.ca):=by grind [ak,aR]
   refine ⟨_,?_,rfl⟩;rw [this];exact ax
  ·simp [ak] at h1;refine br ?_ ?_<;>intro h2
   ·have:aR p=(20,p.ca):=by grind [ak,pickB_and,aR]
    refine ⟨_,?_,rfl⟩;rw [this];exact ax
   ·have hc:aR p=bA p.cl:=by grind [ak,pickB_and,aR]
    refine cP Mj (lH p.cl (by omega)) ?_;refine ⟨_,?_,rfl⟩;rw [hc];exact ax
def enumL (all:List Wd):Nat->List Wd->Ft
 | _,[]=>(0,0)
 | i,x :: r=>if aA all i x≠0 then (aA all i x,x.a) else enumL all (i + 1) r
def hZ (h:Hd):Ft:=
 if h.af=[] then (15,h.at')
 else if 64 < h.af.length then (8,((h.af[64]?).getD (⟨emptyB,0⟩:Wd)).a)
 else enumL h.af 0 h.af
def dD (p:Ph):Ft:=
 if p.wide < 0∨64 < p.wide then (20,p.name.a)
 else if (bA p.label).1≠0 then bA p.label
 else aR p
def vi (t:Ty):Bool:=sameTy t (mask t)
mutual
def wrong:Ty->Int->Int->Ft × Int
 | .mk h ps,depth,m=>
  if 24 < depth then ((6,h.at'),m + 1)
  else if 512 < m + 1 then ((8,h.at'),m + 1)
  else if h.ag < 1∨9 < h.ag then ((14,h.at'),m + 1)
  else if vi (.mk h ps)=false then ((19,h.at'),m + 1)
  else if (h.ag=2/\h.hi < h.lo)∨(h.ag=3/\(h.most < 0∨4096 < h.most)) then ((20,h.at'),m + 1)
  else if h.ag=9/\bc h.name.s=false then ((9,h.name.a),m + 1)
  else if h.ag=4 then (hZ h,m + 1)
  else if h.ag=5∨h.ag=6 then wrongOne h ps depth (m + 1)
  else if h.ag=7∨h.ag=8 then
   if h.ag=8/\ps.len=0 then ((15,h.at'),m + 1)
   else if 64 < ps.len then ((8,(((pNames ps)[64]?).getD (⟨emptyB,0⟩:Wd)).a),m + 1)
   else wrongPts h.ag (pNames ps) 0 ps depth (m + 1)
  else ((0,0),m + 1)
def wrongOne:Hd->Pts->Int->Int->Ft × Int
 | h,.cons p t .nil,depth,m=>
  if p.name.s≠emptyB∨ch p eS=false then ((19,h.at'),m)
  else if h.most < 0∨1024 < h.most then ((20,h.at'),m)
  else wrong t (depth + 1) m
 | h,_,_,m=>((19,h.at'),m)
def wrongPts (ag:Int) (all:List Wd):Nat->Pts->Int->Int->Ft × Int
 | _,.nil,_,m=>((0,0),m)
 | i,.cons p t r,depth,m=>
  if aA all i p.name≠0 then ((aA all i p.name,p.name.a),m)
  else if p.bare=true then
   if ag=7∨sameTy t cr=false∨ch p iH=false then ((19,p.name.a),m) else wrongPts ag all (i + 1) r depth m
  else if (dD p).1≠0 then (dD p,m)
  else if (wrong t (depth + 1) m).1.1≠0 then wrong t (depth + 1) m
  else wrongPts ag all (i + 1) r depth (wrong t (depth + 1) m).2
end
def AG (k:Nat):Prop:=∀ (t:Ty) (depth m:Int),t.wt<=k->t.wt<=1099511627776->0<=depth->depth<=25->0<=m->m<=512 ->
 EvP prog 242 [wD (0,0) m,.agg (dG t),.v (.int .i64 depth)] (wD (wrong t depth m).1 (wrong t depth m).2)
abbrev Im (t:Ty) (e:Nat) (depth m:Int):St:=
 ⟨[ap 2 depth,aw 3 0,aw 4 1,aw 6 2,ap 7 e],[[.v (.int .i64 0),.v (.int .i64 0),.v (.int .i64 m)],dG t,[.v (.int .i64 0),.v (.int .i64 0),.v (.int .i64 0)]],[]⟩
def eD (h:Hd) (ps:Pts) (depth m:Int):Ft × Int:=
 if h.ag=8/\ps.len=0 then ((15,h.at'),m)
 else if 64 < ps.len then ((8,(((pNames ps)[64]?).getD (⟨emptyB,0⟩:Wd)).a),m)
 else wrongPts h.ag (pNames ps) 0 ps depth m
theorem CR (all:List Wd):∀ (l:List Wd) (i:Nat),(enumL all i l).1=0->enumL all i l=(0,0)
 | [],_,_=>rfl
 | x :: r,i,h=>by
  have ih:=CR all r (i + 1)
  grind [enumL]
theorem y5 (h:Hd) (he:(hZ h).1=0):hZ h=(0,0):=by grind [hZ,CR]
mutual
theorem pO:∀ (t:Ty) (depth m:Int),0<=m->(wrong t depth m).1.1=0->(wrong t depth m).1=(0,0)/\0<=(wrong t depth m).2/\(wrong t depth m).2<=512
 | .mk h ps,depth,m,hm,he=>by
  have i1:=CS h ps depth (m + 1) (by omega);have i2:=mR h.ag (pNames ps) ps 0 depth (m + 1) (by omega);have i3:=y5 h;simp only [wrong] at he ⊢;by_cases c0:24 < depth
  ·rw [aj c0] at he;simp at he
  rw [ai c0] at he ⊢;by_cases c1:512 < m + 1
  ·rw [aj c1] at he;simp at he
  rw [ai c1] at he ⊢;by_cases c2:h.ag < 1∨9 < h.ag
  all_goals grind
theorem CS:∀ (h:Hd) (ps:Pts) (depth m:Int),0<=m->m<=512->(wrongOne h ps depth m).1.1=0->(wrongOne h ps depth m).1=(0,0)/\0<=(wrongOne h ps depth m).2/\(wrongOne h ps depth m).2<=512
 | h,.nil,depth,m,hm,_,he=>by simp [wrongOne] at he
 | h,.cons p t .nil,depth,m,hm,h5,he=>by
  have ih:=pO t (depth + 1) m hm
  grind [wrongOne]
 | h,.cons p t (.cons _ _ _),depth,m,hm,_,he=>by simp [wrongOne] at he
theorem mR (ag:Int) (all:List Wd):∀ (ps:Pts) (i:Nat) (depth m:Int),0<=m->m<=512->(wrongPts ag all i ps depth m).1.1=0->(wrongPts ag all i ps depth m).1=(0,0)/\0<=(wrongPts ag all i ps depth m).2/\(wrongPts ag all i ps depth m).2<=512
 | .nil,i,depth,m,hm,h5,he=>by simp only [wrongPts];exact ⟨trivial,hm,h5⟩
 | .cons p t r,i,depth,m,hm,h5,he=>by
  have i1:=pO t (depth + 1) m hm;simp only [wrongPts] at he ⊢;split at he
  ·rename_i h1;exact (h1 he).elim
  ·rename_i h1;rw [ai h1];split at he
   ·rename_i h2;rw [aj h2];split at he
    ·simp at he
    ·rename_i h3;rw [ai h3];exact mR ag all r (i + 1) depth m hm h5 he
   ·rename_i h2;rw [ai h2];split at he
    ·rename_i h3;exact (h3 he).elim
    ·rename_i h3;rw [ai h3];split at he
     ·rename_i h4;exact (h4 he).elim
     ·rename_i h4;rw [ai h4];have i2:=i1 (sU h4);exact mR ag all r (i + 1) depth _ i2.2.1 i2.2.2 he
end
theorem AH (k:Nat) (ih:AG k) (h:Hd) (ps:Pts) (depth m:Int) (hk:ps.wt<=k) (bW:(Ty.mk h ps).wt<=1099511627776) (yX:0<=depth) (EY:depth<=24) (mz:0<=m) (iE:m<=512) :
  EvP prog 282 [wD (0,0) m,.agg (dG (.mk h ps)),.v (.int .i64 depth)] (wD (eD h ps depth m).1 (eD h ps depth m).2):=by
 simp only [Ty.wt,Hd.wt] at bW;have iP:=ps.fk;have TY:=ry ps;refine eG 126 [.cell 6 335] func282 rfl ntmps282 rfl fun _ _ _ _=>?_;refine br ?_ ?_<;>intro c1
 ·refine cP fX (dR (0,0) m 15 h.at') ?_;have:eD h ps depth m=((15,h.at'),m):=by grind [pickB_and,aD,eD]
  refine ⟨_,?_,rfl⟩;rw [this];exact ax
 ·have c1':¬ (h.ag=8/\ps.len=0):=by
   simp [pickB_and,aD] at c1;omega
  refine br ?_ ?_<;>intro c2
  ·have al:64 < ps.len:=by simp [aD] at c2;omega
   obtain ⟨p,t,hx⟩:=Pts.dX al;refine j3 (fun i=>Nat.beq i 8) mo (by decide +kernel) ?_;refine iX (bF hx) ?_;refine cD fX (dR (0,0) m 8 p.name.a) ?_;have:eD h ps depth m=((8,p.name.a),m):=by grind [eD,fO]
   refine ⟨_,?_,rfl⟩;rw [this];exact ax
  ·have c2':¬ 64 < ps.len:=by simp [aD] at c2;omega
   have hF:eD h ps depth m=wrongPts h.ag (pNames ps) 0 ps depth m:=by simp only [eD,ai c1',ai c2']
   refine aQ (fun j st=>∃ (e:Nat) (m':Int),st=Im (.mk h ps) e depth m' /\ e<=ps.len/\0<=m' /\ m' <= 512 /\
     wrongPts h.ag (pNames ps) 0 ps depth m=wrongPts h.ag (pNames ps) e (ps.drop e) depth m' /\ j=ps.len - e) ps.len
    (Im (.mk h ps) 0 depth m) (wkM wB) ⟨0,m,rfl,by omega,mz,iE,rfl,by omega⟩ ?_
   rintro j st ⟨e,m',rfl,he,tM,CT,aG,rfl⟩;refine br ?_ ?_<;>intro hL
   ·have al:e < ps.len:=by simpa [aD] using hL
    obtain ⟨p,t,hx⟩:=Pts.dX al;rw [Pts.drop_cons hx] at aG;have CP:=Pts.fM (mG hx);obtain ⟨u,us⟩:=t;refine iX (bF hx) ?_;refine cP XI (AE ps (by omega)) ?_;refine cP RI (ou (pNames ps) e p.name (by omega) (fO hx)) ?_;refine br ?_ ?_<;>intro hl
    ·have hl:aA (pNames ps) e p.name≠0:=sU hl;refine cP fX (dR (0,0) m' _ p.name.a) ?_;have:eD h ps depth m=((aA (pNames ps) e p.name,p.name.a),m'):=by grind [wrongPts]
     refine ⟨_,?_,rfl⟩;rw [this];exact ax
    ·have hl:aA (pNames ps) e p.name=0:=sU hl;simp only [wrongPts] at aG;rw [ai (by simp [hl])] at aG;refine br ?_ ?_<;>intro hB
     ·rw [aj hB] at aG;refine br ?_ ?_<;>intro k7
      ·have k7:¬ h.ag=7:=sU k7;refine cP XJ (CQ (.mk u us) (by omega)) ?_;refine br ?_ ?_<;>intro z
       ·have z:sameTy (.mk u us) cr=true:=by simpa [ak,k7] using z
        refine cP Mk (lG p iH (dG (.mk u us)) (dG cr) (by omega) (y4 _ _ _ _ _) (y4 _ _ _ _ _)) ?_;refine br ?_ ?_<;>intro q
        ·have q:ch p iH=false:=by simpa [ak,k7,z] using q
         refine cP fX (dR (0,0) m' 19 p.name.a) ?_;rw [aj (by simp [q])] at aG;refine ⟨_,?_,rfl⟩;rw [hF,aG];exact ax
        ·have q:ch p iH=true:=by simpa [ak,k7,z] using q
         rw [ai (by simp [k7,z,q])] at aG;exact rE ⟨_,by omega,e + 1,m',rfl,by omega,tM,CT,aG,rfl⟩ (wkM (wB1 (nxt al (by omega))))
       ·have z:sameTy (.mk u us) cr=false:=by simpa [ak,k7] using z
        refine cP fX (dR (0,0) m' 19 p.name.a) ?_;rw [aj (by simp [z])] at aG;refine ⟨_,?_,rfl⟩;rw [hF,aG];exact ax
      ·have k7:h.ag=7:=sU k7;refine cP fX (dR (0,0) m' 19 p.name.a) ?_;rw [aj (by simp [k7])] at aG;refine ⟨_,?_,rfl⟩;rw [hF,aG];exact ax
     ·rw [ai (by simp [hB])] at aG;refine br ?_ ?_<;>intro hw
      ·have hP:dD p=(20,p.name.a):=by grind [ak,dD]
       rw [aj (by rw [hP];simp),hP] at aG;refine ⟨_,?_,rfl⟩;rw [hF,aG];exact ax
      ·have hw:¬ (p.wide < 0∨64 < p.wide):=by simp [ak] at hw;omega
       have hpw:p.wt<=ps.wt:=by omega
       simp only [Ph.wt] at hpw;refine cP Mj (lH p.label (by omega)) ?_;refine br ?_ ?_<;>intro hb
       ·have hb:(bA p.label).1=0:=sU hb;have hP:dD p=aR p:=by simp only [dD,ai hw,hb,ne_eq,not_true_eq_false,if_false]
        rw [hP] at aG;refine cP XK (x9 p (dG (.mk u us)) (by omega)) ?_ (by repeat' (first | exact rfl | exact trivial | exact Or.inr (Or.inl ⟨_,rfl⟩) | exact Or.inr ⟨_,rfl⟩ | exact Or.inl ⟨rfl,rfl⟩ | exact Or.inl rfl | refine Or.inr ⟨_,_,rfl,Nat.zero_le _,rfl,?_⟩ | refine ⟨_,_,rfl,?_,?_⟩ | refine ⟨_,rfl,?_⟩ | exact congrArg DV.agg rfl| refine Or.inr (Or.inr (Or.inr ⟨_,_,rfl,?_⟩)) | exact Or.inl rfl | refine Or.inr ?_));refine br ?_ ?_<;>intro hc
        ·have hc:(aR p).1≠0:=sU hc;rw [aj hc] at aG;refine ⟨_,?_,rfl⟩;rw [hF,aG];exact ax
        ·have hc:(aR p).1=0:=sU hc;rw [ai (by simp [hc])] at aG;have qO:=ih (.mk u us) (depth + 1) m' (by omega) (by omega) (by omega) (by omega) tM CT;have bu:=pO (.mk u us) (depth + 1) m' tM;generalize wrong (.mk u us) (depth + 1) m'=r at qO bu aG;obtain ⟨⟨fe,fa⟩,many⟩:=r;simp only at qO bu aG;refine cP Mh qO ?_ (by repeat' (first | exact rfl | exact trivial | exact Or.inr (Or.inl ⟨_,rfl⟩) | exact Or.inr ⟨_,rfl⟩ | exact Or.inl ⟨rfl,rfl⟩ | exact Or.inl rfl | refine Or.inr ⟨_,_,rfl,Nat.zero_le _,rfl,?_⟩ | refine ⟨_,_,rfl,?_,?_⟩ | refine ⟨_,rfl,?_⟩ | exact congrArg (fun z=>DV.v (.int .i64 z)) (wrap64 (by omega) (by omega))| refine Or.inr (Or.inr (Or.inr ⟨_,_,rfl,?_⟩)) | exact Or.inl rfl | refine Or.inr ?_));refine br ?_ ?_<;>intro hd
         ·have hd:fe≠0:=sU hd;rw [aj hd] at aG;refine ⟨_,?_,rfl⟩;rw [hF,aG];exact ax
         ·have hd:fe=0:=sU hd;subst hd;obtain ⟨h1,h2,h3⟩:=bu rfl;simp only [Prod.mk.injEq,true_and] at h1;subst h1;rw [ai (by simp)] at aG;exact rE ⟨_,by omega,e + 1,many,rfl,by omega,h2,h3,aG,rfl⟩ (wkM (wB1 (nxt al (by omega))))
       ·have hb:¬ (bA p.label).1=0:=sU hb;have hP:dD p=bA p.label:=by simp only [dD,ai hw];rw [aj hb]
        rw [hP,aj hb] at aG;refine br ?_ ?_<;>intro hc
        ·refine ⟨_,?_,rfl⟩;rw [hF,aG];exact ax
        ·exact (hb (sU hc)).elim
   ·have aM:e=ps.len:=by simp [aD] at hL;omega
    rw [aM,Pts.cV] at aG;refine ⟨_,?_,rfl⟩;rw [hF,aG];simp only [wrongPts];exact ax
theorem bm (e a:Int):EvP prog 252 [.v (.int .i64 e),.v (.int .i64 a)] (Ft.d (e,a)):=by
 refine eG 8 [.cell 4 44] func252 rfl ntmps252 rfl fun _ _ _ _=>?_;exact ⟨_,ax,rfl⟩
noncomputable def gq (L:List ByteArray) (x:ByteArray) (a:Int):Ft:=if bc x=true then (if L.Nodup then (0,0) else (10,a)) else (9,a)
theorem sF (L:List ByteArray) (x:ByteArray) (a:Int) (hx:L[L.length - 1]? = some x) (hl:L.length<=1099511627776) (Cn:x.size<=4611686018427387904) :
  EvP prog 303 [.sl 1 (ey L) none,.v (.int .i64 a)] (gq L x a).d:=by
 have hN:=bL L;have kk:=(gS hx).1;have hz:IntKind.i64.wrap (((ey L).length:Int) - 1)=((L.length - 1:Nat):Int):=by rw [hN,wrap64 (by omega) (by omega)];omega
 refine eG 23 [.cell 4 44] func303 rfl ntmps303 rfl fun _ _ _ _=>?_;refine ⟨[.v (.string x)],⟨by rw [hz];omega,by rw [hz];exact eJ hx⟩,?_⟩;refine cP CD (jB x Cn) ?_;refine br ?_ ?_<;>intro h
 ·have h:bc x=false:=sU h;refine cP dJ (bm 9 a) ?_;refine ⟨_,?_,rfl⟩;rw [gq,ai (by rw [h];decide)];exact ax
 ·have h:bc x=true:=sU h;refine bp L8 rfl (oN L hl) ax (fun r hr=>?_);obtain ⟨z,rfl,hz⟩:=hr;refine br ?_ ?_<;>intro h2
  ·have h2:0<=z:=sU h2;refine cP dJ (bm 10 a) ?_;refine ⟨_,?_,rfl⟩;rw [gq,aj h,ai (hz.1 h2)];exact ax
  ·have h2:¬ 0<=z:=sU h2;refine ⟨_,?_,rfl⟩;rw [gq,aj h,aj (Classical.byContradiction fun hn=>h2 (hz.2 hn))];exact ax
theorem FI {l:List Wd} {e:Nat} {x:Wd} (h:l[e]? = some x):bq ((l.map fun w=>(⟨w.s,0⟩:Wd)).take e) ++ [[.v (.string x.s),.v (.int .i64 0)]]=bq ((l.map fun w=>(⟨w.s,0⟩:Wd)).take (e + 1)):=by
 have h2:(l.map fun w=>(⟨w.s,0⟩:Wd))[e]? = some ⟨x.s,0⟩:=by simp [h]
 exact yW h2
def ia (l:List Wd):List Wd:=l.map fun w=>⟨w.s,0⟩
abbrev MC (l l':List Wd) (n e:Nat):St:=
 ⟨[aU 6 2 (bq l),ap 7 ((bq l).length),ap 8 e,(3,⟨[],.sl 2 (bq l') (some 0)⟩)],[],[⟨n,27,2,none⟩]⟩
theorem vj (l:List Wd) (hs:wdsWt l<=1099511627776):EvP prog 371 [.sl 2 (bq l) none] (.sl 2 (bq (ia l)) none):=by
 have hl:=bi l;refine eG 20 [.tmp 2] func371 rfl ntmps371 rfl fun _ _ _ _=>?_;refine aQ (fun j st=>∃ e:Nat,st=MC l ((ia l).take e) e e/\e<=l.length/\j=l.length - e) l.length (MC l [] 0 0) (fq ⟨0,27,2,none⟩ rfl ⟨_,rfl⟩ rfl wA rfl rfl jT) ⟨0,by simp,by omega,by omega⟩ ?_;rintro j st ⟨e,rfl,he,rfl⟩;refine br ?_ ?_<;>intro h
 ·have al:e < l.length:=by simpa [av] using h
  obtain ⟨w,hw⟩:=gX al;refine ⟨jA w,⟨by omega,aK hw⟩,?_⟩;refine ⟨by simp [av,ia];omega,⟨by simp [av,ia,maxLen];omega,by simp [av,ia];omega⟩,?_⟩;refine ⟨MC l ((ia l).take (e + 1)) (e + 1) (e + 1),(wkM (wB2 (nxt al (by omega)) (FI hw))),l.length - (e + 1),by omega,e + 1,rfl,by omega,rfl⟩
 ·have aM:e=l.length:=by
   have:=h;simp [av] at this;omega
  rw [aM,List.take_of_length_le (by simp [ia])];exact ⟨_,ax,rfl⟩
abbrev vm (l:List Wd) (e:Nat):St:=
 ⟨[aU 13 2 (bq l),ap 14 ((bq l).length),aw 2 0,ap 15 e],[[.v (.int .i64 0),.v (.int .i64 0)]],[]⟩
theorem iv (l:List Wd) (hs:wdsWt l<=1099511627776) :
  EvP prog 328 [.sl 2 (bq l) none] (bA l).d:=by
 have mh:=bi l;refine eG 28 [.cell 2 44] func328 rfl ntmps328 rfl fun _ _ _ _=>?_;refine br ?_ ?_<;>intro h
 ·have al:32 < l.length:=by simp [av] at h;omega
  obtain ⟨x,hx⟩:=gX al;have:bA l=(8,x.a):=by simp [bA,Nat.not_le.2 al,hx]
  refine ⟨jA x,⟨by omega,aK hx⟩,?_⟩;refine cP dJ (bm 8 x.a) ?_;refine ⟨_,?_,rfl⟩;rw [this];exact ax
 ·have fW:l.length<=32:=by simp [av] at h;omega
  refine aQ (fun j st=>∃ e:Nat,st=vm l e/\e<=l.length/\badWd l=badWd (l.drop e)/\j=l.length - e) l.length
   (vm l 0) (wkM wB) ⟨0,rfl,by omega,rfl,by omega⟩ ?_
  rintro j st ⟨e,rfl,he,aG,rfl⟩;refine br ?_ ?_<;>intro hL
  ·have al:e < l.length:=by simpa [av] using hL
   obtain ⟨x,hx⟩:=gX al;rw [drop_cons hx] at aG;have Cn:=gY (mG hx);refine ⟨jA x,⟨by omega,aK hx⟩,?_⟩;refine cP CD (jB x.s (by omega)) ?_;refine br ?_ ?_<;>intro hN
   ·have hN:bc x.s=false:=sU hN;have:bA l=(9,x.a):=by simp [bA,fW,aG,badWd,hN]
    refine cP dJ (bm 9 x.a) ?_;refine ⟨_,?_,rfl⟩;rw [this];exact ax
   ·have hN:bc x.s=true:=sU hN;refine ⟨vm l (e + 1),(wkM (wB1 (nxt al (by omega)))),l.length - (e + 1),by omega,e + 1,rfl,by omega,?_,rfl⟩;rw [aG];simp [badWd,hN]
  ·have aM:e=l.length:=by simp [av] at hL;omega
   have:bA l=(0,0):=by simp [bA,fW,aG,aM,badWd]
   refine ⟨_,?_,rfl⟩;rw [this];exact ax
theorem AJ (p:Ph) (tl:List DV) (t:Ty) (eN:tl=dG t) (hs:p.wt<=1099511627776) :
  EvP prog 329 [.agg (Fz p tl)] (aR p).d:=by
 subst eN;obtain ⟨u,us⟩:=t;simp only [Ph.wt] at hs;refine eG 55 [.cell 2 44] func329 rfl ntmps329 rfl fun _ _ _ _=>?_;refine br ?_ ?_<;>intro h0
 ·have h0:p.ck=0:=of_decide_eq_true h0;refine br ?_ ?_<;>intro h1
  ·have:aR p=(19,p.name.a):=by grind [ak,av,aR]
   refine cP dJ (bm 19 p.name.a) ?_;refine ⟨_,?_,rfl⟩;rw [this];exact ax
  ·have j1:p.cl=[]:=by
    simp [ak,av] at h1;exact h1.2
   have:aR p=(0,0):=by grind [ak,av,aR]
   have h00:bA p.cl=(0,0):=by rw [j1];simp [bA,badWd]
   refine cP CG (iv p.cl (by omega)) ?_;refine ⟨_,?_,rfl⟩;rw [this,<- h00];exact ax
 have h0:¬ p.ck=0:=of_decide_eq_false h0;refine br ?_ ?_<;>intro h1
 ·have h1:p.ck=1:=of_decide_eq_true h1;refine br ?_ ?_<;>intro h2
  ·have:aR p=(20,p.ca):=by grind [pickB_and,aR]
   refine cP dJ (bm 20 p.ca) ?_;refine ⟨_,?_,rfl⟩;rw [this];exact ax
  ·have:aR p=bA p.cl:=by grind [pickB_and,aR]
   refine cP CG (iv p.cl (by omega)) ?_;refine ⟨_,?_,rfl⟩;rw [this];exact ax
 have h1:¬ p.ck=1:=of_decide_eq_false h1;refine br ?_ ?_<;>intro h3
 ·have h3:p.ck=2:=of_decide_eq_true h3;refine br ?_ ?_<;>intro h2
  ·have:aR p=(20,p.ca):=by grind [pickB_and,aR]
   refine cP dJ (bm 20 p.ca) ?_;refine ⟨_,?_,rfl⟩;rw [this];exact ax
  ·have:aR p=bA p.cl:=by grind [pickB_and,aR]
   refine cP CG (iv p.cl (by omega)) ?_;refine ⟨_,?_,rfl⟩;rw [this];exact ax
 have h3:¬ p.ck=2:=of_decide_eq_false h3;refine br ?_ ?_<;>intro h4
 ·have h4:p.ck=3:=of_decide_eq_true h4;refine br ?_ ?_<;>intro h2
  ·have:aR p=(20,p.ca):=by grind [pickB_and,aR]
   refine cP dJ (bm 20 p.ca) ?_;refine ⟨_,?_,rfl⟩;rw [this];exact ax
  ·have:aR p=bA p.cl:=by grind [pickB_and,aR]
   refine cP CG (iv p.cl (by omega)) ?_;refine ⟨_,?_,rfl⟩;rw [this];exact ax
 have h4:¬ p.ck=3:=of_decide_eq_false h4;have:aR p=(14,p.ca):=by grind [aR]
 refine cP dJ (bm 14 p.ca) ?_;refine ⟨_,?_,rfl⟩;rw [this];exact ax
theorem MD (w:World) (x y:Operand) (vs vs':Array Value):(eqGuard .neq 27 x y (.agg vs) (.agg vs')).run prog w = .ok () w:=by
 have h:prog.eqGuardType prog.depth 27=false:=by kernel_rfl
 simp [eqGuard,run_program,h]
theorem TZ (a b:ByteArray) (p q:Int) (w:World):(binOp .neq 27 (.agg #[.string a,.int .i64 p]) (.agg #[.string b,.int .i64 q])).run prog w = .ok (.bool (!(decide (a=b) && decide (p=q)))) w:=by
 have hf:prog.underlying 27=some (.struct (prog.fieldsOf 27)):=by simp [Program.fieldsOf,Tryz.underlying27]
 have yE:(prog.fieldsOf 27).toList=[⟨ "Name",9,0,false, "", "",0⟩,⟨ "At",3,1,false, "", "",16⟩]:=by simp [Program.fieldsOf,Tryz.underlying27]
 have hs:prog.stoodInHeld 27=false:=by kernel_rfl
 have hm:∃ d,Op.maxDepth=d + 1 + 1:=⟨Op.maxDepth - 2,by decide⟩;obtain ⟨d,hm⟩:=hm
 have he:(Op.equal 27 (.agg #[.string a,.int .i64 p]) (.agg #[.string b,.int .i64 q])).run prog w = .ok (decide (a=b) && decide (p=q)) w:=by
  unfold Op.equal;rw [hm,run_equalIn_struct w (d + 1) 27 _ _ hf hs,yE]
  have e1:(a.toList == b.toList)=decide (a=b):=by
   rw [ByteArray.toList_eq,ByteArray.toList_eq];by_cases h:a=b
   ·subst h;simp
   ·have:¬ a.data=b.data:=fun e=>h (ByteArray.ext e);simp [h,this]
  have q9:∀ cs:Array Value,∀ off v,cs[off]? = some v->(part 9 cs off).run prog w = .ok v w:=fun cs off v h=>by
   simp [part,Tryz.isAgg9,h]
  have q3:∀ cs:Array Value,∀ off v,cs[off]? = some v->(part 3 cs off).run prog w = .ok v w:=fun cs off v h=>by
   simp [part,Tryz.isAgg3,h]
  simp only [Op.eqFields,ne_eq,String.reduceEq,not_false_eq_true,if_true,Sem.run_bind,q9 #[.string a,.int .i64 p] 0 (.string a) rfl,q9 #[.string b,.int .i64 q] 0 (.string b) rfl,Result.andThen_ok,run_equalIn_string w d 9 a b Tryz.underlying9,e1];by_cases h:a=b
  ·simp only [h,decide_true,Bool.not_true,Bool.false_eq_true,if_false,Sem.run_bind,q3 #[.string b,.int .i64 p] 1 (.int .i64 p) rfl,q3 #[.string b,.int .i64 q] 1 (.int .i64 q) rfl,Result.andThen_ok,run_equalIn_int w d 3 .i64 .i64 p q Tryz.underlying3];by_cases h2:p=q<;>simp [h2,Sem.run_pure]
  ·simp [h,Sem.run_pure]
 show ((do let r <- Op.equal 27 _ _;pure (Value.bool !r)):Sem Value).run prog w=_;simp only [Sem.run_bind,he,Result.andThen_ok,Sem.run_pure]
theorem PR (x y:Operand) (a b:Wd):Lr prog .neq x y 27 (jA a) (jA b) (!(decide (a.s=b.s) && decide (a.a=b.a))):=
 ⟨[.string a.s,.int .i64 a.a],[.string b.s,.int .i64 b.a],rfl,rfl,fun w=>⟨MD w x y _ _,TZ a.s b.s a.a b.a w⟩⟩
def eqWds:List Wd->List Wd->Bool
 | [],[]=>true
 | x :: r,y :: s=>(decide (x.s=y.s) && decide (x.a=y.a)) && eqWds r s
 | _,_=>false
theorem y6:∀ {a b:List Wd},a.length≠b.length->eqWds a b=false
 | [],[],h=>(h rfl).elim
 | [],_ :: _,_=>rfl
 | _ :: _,[],_=>rfl
 | x :: r,y :: s,h=>by
  simp only [eqWds];rw [y6 (a:=r) (b:=s) (sU h),Bool.and_false]
theorem sG:∀ a b:List Wd,eqWds (ia a) (ia b)=sameWds a b
 | [],[]=>rfl
 | [],_ :: _=>rfl
 | _ :: _,[]=>rfl
 | x :: r,y :: s=>by
  have:=sG r s
  grind [ia,eqWds,sameWds]
abbrev ME (a b:List Wd) (e:Nat):St:=
 ⟨[aU 0 2 (bq a),aU 1 2 (bq b),ap 12 ((bq a).length),ap 13 e],[],[]⟩
theorem CU (a b:List Wd) (hs:a.length<=1099511627776) :
  EvP prog 370 [.sl 2 (bq a) none,.sl 2 (bq b) none] (.v (.bool (eqWds a b))):=by
 refine eG 26 [.tmp 4] func370 rfl ntmps370 rfl fun _ _ _ _=>?_;refine br ?_ ?_<;>intro h
 ·have aT:a.length≠b.length:=by have:=h;simp [av] at this;omega
  exact congrArg (fun b=>DV.v (.bool b)) (y6 aT).symm
 ·have hl:a.length=b.length:=by have:=h;simp [av] at this;omega
  refine aQ (fun j st=>∃ e:Nat,st=ME a b e/\e<=a.length/\eqWds a b=eqWds (a.drop e) (b.drop e)/\j=a.length - e) a.length
   (ME a b 0) (wkM wB) ⟨0,rfl,by omega,rfl,by omega⟩ ?_
  rintro j st ⟨e,rfl,he,aG,rfl⟩;refine br ?_ ?_<;>intro h
  ·have al:e < a.length:=by simpa [av] using h
   obtain ⟨x,hx⟩:=gX al;obtain ⟨y,hy⟩:∃ y,b[e]? = some y:=⟨_,gE (hl ▸ al)⟩;rw [drop_cons hx,drop_cons hy] at aG;refine dI ?_;refine ⟨jA x,⟨by omega,aK hx⟩,jA y,⟨by omega,aK hy⟩,_,PR _ _ x y,?_⟩;refine br ?_ ?_<;>intro h
   ·have aT:(decide (x.s=y.s) && decide (x.a=y.a))=false:=by grind
    refine (bH ?_:);rw [aG];simp only [eqWds,aT,Bool.false_and]
   ·have aT:(decide (x.s=y.s) && decide (x.a=y.a))=true:=by grind
    refine ⟨ME a b (e + 1),(wkM (wB1 (nxt al (by omega)))),a.length - (e + 1),by omega,e + 1,rfl,by omega,?_,rfl⟩;rw [aG];simp only [eqWds,aT,Bool.true_and]
  ·have aM:e=a.length:=by have:=h;simp [av] at this;omega
   refine (bH ?_:);rw [aG,aM,hl];simp [eqWds];rw [<- hl];simp [eqWds]
theorem gv (a b:List Wd) (ha:wdsWt a<=1099511627776) (hb:wdsWt b<=1099511627776) :
  EvP prog 353 [.sl 2 (bq a) none,.sl 2 (bq b) none] (.v (.bool (sameWds a b))):=by
 have hl:=bi a;refine eG 10 [.tmp 4] func353 rfl ntmps353 rfl fun _ _ _ _=>?_;refine cP RR (vj a ha) ?_;refine cP RR (vj b hb) ?_;refine cP X2 (CU (ia a) (ia b) (by simp [ia];omega)) ?_;refine (bH ?_:);exact sG a b
def eqPts (F:Ph->Ty->Ph->Ty->Bool):Pts->Pts->Bool
 | .nil,.nil=>true
 | .cons p t r,.cons q u s=>F p t q u && eqPts F r s
 | _,_=>false
theorem y7 {F:Ph->Ty->Ph->Ty->Bool}:∀ {a b:Pts},a.len≠b.len->eqPts F a b=false
 | .nil,.nil,h=>(h rfl).elim
 | .cons p t r,.cons q u s,h=>by
  simp only [eqPts];rw [y7 (a:=r) (b:=s) (by simpa [Pts.len] using h),Bool.and_false]
 | .nil,.cons _ _ _,_=>rfl
 | .cons _ _ _,.nil,_=>rfl
def cM (p:Ph) (t:Ty) (q:Ph) (u:Ty):Bool:=decide (p.name.s=q.name.s) && ch p q && sameTy t u
theorem vo:∀ a b:Pts,eqPts cM a b=samePts a b
 | .nil,.nil=>by simp [eqPts,samePts]
 | .cons p t r,.cons q u s=>by simp only [eqPts,samePts,cM,vo r s]
 | .nil,.cons _ _ _=>by simp [eqPts,samePts]
 | .cons _ _ _,.nil=>by simp [eqPts,samePts]
abbrev MF (a b:Pts) (g e:Nat):St:=
 ⟨[aU 1 18 (fm b),(2,⟨[],.fn g [] []⟩),aU 15 18 (fm a),ap 16 ((fm a).length),ap 17 e],[],[]⟩
theorem CV (g:Nat) (jS:Enters prog g) (F:Ph->Ty->Ph->Ty->Bool) (a b:Pts) (hs:a.wt<=1099511627776)
  (hF:∀ (e:Nat) p t q u,a.toList[e]? = some (p,t)->b.toList[e]? = some (q,u)->EvP prog g [.agg (Fz p (dG t)),.agg (Fz q (dG u))] (.v (.bool (F p t q u)))) :
  EvP prog 372 [.sl 18 (fm a) none,.sl 18 (fm b) none,.fn g [] []] (.v (.bool (eqPts F a b))):=by
 have Pq:=a.fk;refine eG 32 [.tmp 6] func372 rfl ntmps372 rfl fun _ _ _ _=>?_;refine br ?_ ?_<;>intro h
 ·have aT:a.len≠b.len:=by have:=h;simp [aD] at this;omega
  exact congrArg (fun b=>DV.v (.bool b)) (y7 aT).symm
 ·have hl:a.len=b.len:=by have:=h;simp [aD] at this;omega
  refine aQ (fun j st=>∃ e:Nat,st=MF a b g e/\e<=a.len/\eqPts F a b=eqPts F (a.drop e) (b.drop e)/\j=a.len - e) a.len
   (MF a b g 0) (wkM wB) ⟨0,rfl,by omega,rfl,by omega⟩ ?_
  rintro j st ⟨e,rfl,he,aG,rfl⟩;refine br ?_ ?_<;>intro h
  ·have al:e < a.len:=by simpa [aD] using h
   obtain ⟨p,t,hx⟩:=Pts.dX al;obtain ⟨q,u,hy⟩:=Pts.dX (hl ▸ al);rw [Pts.drop_cons hx,Pts.drop_cons hy] at aG;have hev:=hF e p t q u hx hy;obtain ⟨t,ts⟩:=t;obtain ⟨u,us⟩:=u;refine iX (bF hx) ?_;refine iX (bF hy) ?_;refine cP jS hev ?_;refine br ?_ ?_<;>intro h
   ·have aT:F p (.mk t ts) q (.mk u us)=false:=sU h;refine (bH ?_:);rw [aG];simp only [eqPts,aT,Bool.false_and]
   ·have aT:F p (.mk t ts) q (.mk u us)=true:=sU h;refine ⟨MF a b g (e + 1),(wkM (wB1 (nxt al (by omega)))),a.len - (e + 1),by omega,e + 1,rfl,by omega,?_,rfl⟩;rw [aG];simp only [eqPts,aT,Bool.true_and]
  ·have aM:e=a.len:=by have:=h;simp [aD] at this;omega
   refine (bH ?_:);rw [aG,aM,Pts.cV,hl,Pts.cV];simp [eqPts]
theorem mS (p q:Ph) (t u:Ty) (hp:p.wt<=1099511627776) (hq:q.wt<=1099511627776)
  (ht:EvP prog 354 [.agg (dG t),.agg (dG u)] (.v (.bool (sameTy t u)))) :
  EvP prog 327 [.agg (Fz p (dG t)),.agg (Fz q (dG u))] (.v (.bool (cM p t q u))):=by
 simp only [Ph.wt] at hp hq;obtain ⟨th,tps⟩:=t;obtain ⟨uh,ups⟩:=u;refine eG 71 [.tmp 4] func327 rfl ntmps327 rfl fun _ _ _ _=>?_
 have e0:cM p (.mk th tps) q (.mk uh ups)=(((decide (p.name.s=q.name.s) && (p.bare == q.bare)) && decide (p.wide=q.wide)) && sameWds p.label q.label && ((decide (p.ck=q.ck) && decide (p.cn=q.cn)) && sameWds p.cl q.cl) && sameTy (.mk th tps) (.mk uh ups)):=by
  simp only [cM,ch,Bool.and_assoc]
 rw [e0];refine br ?_ ?_<;>intro hA
 ·simp only [pickB_and] at hA;refine cP Ig (gv p.label q.label (by omega) (by omega)) ?_;refine br ?_ ?_<;>intro hB
  ·simp only [pickB_and] at hB;refine cP Ig (gv p.cl q.cl (by omega) (by omega)) ?_;refine br ?_ ?_<;>intro hC
   ·refine cP XV ht ?_;refine (bH ?_:);simp only [pickB_and,Bool.true_and,Bool.and_true] at hC ⊢
    simp_all
   ·refine (bH ?_:);simp only [pickB_and,Bool.true_and,Bool.and_true] at hC ⊢
    simp_all
  ·simp only [pickB_and] at hB;refine br ?_ ?_<;>intro hC
   ·exfalso;simp [pickB_and] at hC
   ·refine (bH ?_:)
    simp_all
 ·simp only [pickB_and,beq_true] at hA;refine br ?_ ?_<;>intro hB
  ·refine cP Ig (gv p.cl q.cl (by omega) (by omega)) ?_;refine (bH ?_:);rw [hA];rfl
  ·refine (bH ?_:);rw [hA];rfl
theorem y8:∀ (n:Nat) (a b:Ty),a.wt<=n->a.wt<=1099511627776->b.wt<=1099511627776 ->
  EvP prog 354 [.agg (dG a),.agg (dG b)] (.v (.bool (sameTy a b)))
 | 0,a,b,hn,_,_=>by have:=a.cT;omega
 | n + 1,.mk h ps,.mk k qs,hn,bW,Yn=>by
  have ih:=y8 n;simp only [Ty.wt,Hd.wt] at hn bW Yn
  have hE:EvP prog 372 [.sl 18 (fm ps) none,.sl 18 (fm qs) none,.fn 327 [] []] (.v (.bool (samePts ps qs))):=by
   rw [<- vo];refine CV 327 Mn cM ps qs (by omega) fun e p t q u hx hy=>?_;have hw1:=Pts.fM (mG hx);have nG:=Pts.fM (mG hy);exact mS p q t u (by omega) (by omega) (ih t u (by omega) (by omega) (by omega))
  refine eG 53 [.tmp 4] func354 rfl ntmps354 rfl fun _ _ _ _=>?_;refine br ?_ ?_<;>intro hA
  ·simp [ak] at hA;obtain ⟨⟨⟨⟨e1,e2⟩,e3⟩,e4⟩,e5⟩:=hA;refine cP Ig (gv h.af k.af (by omega) (by omega)) ?_;refine br ?_ ?_<;>intro hB
   ·refine (bH ?_:);simp [ak,e1,e2,e3,e4,e5] at hB;simp [sameTy,kp,hB]
   ·simp [ak,e1,e2,e3,e4,e5] at hB;refine cP X3 hE ?_;refine (bH ?_:);simp [sameTy,kp,e1,e2,e3,e4,e5,hB]
  ·refine (bH ?_:);simp [ak] at hA;simp only [sameTy,kp]
   grind
theorem vq (a b:Ty) (ha:a.wt<=1099511627776) (hb:b.wt<=1099511627776):EvP prog 354 [.agg (dG a),.agg (dG b)] (.v (.bool (sameTy a b))):=y8 _ a b (aJ _) ha hb
def vt (h:Hd) (ps:Pts):Bool:=
 (((((decide (h.ag=2) || (decide (h.lo=0) && decide (h.hi=0))) && ((decide (h.ag=3) || decide (h.ag=5)) || decide (h.most=0))) && (decide (ps.len=0) || (decide (5<=h.ag) && decide (h.ag<=8)))) &&
  (decide (h.af.length=0) || decide (h.ag=4))) && (decide (h.name.s=emptyB) || decide (h.ag=9)))
theorem JX (h:Hd) (ps:Pts):EvP prog 253 [.agg (dG (.mk h ps))] (.v (.bool (vt h ps))):=by
 have l1:(((fm ps).length:Int)=0)=(ps.len=0):=by rw [aD];exact propext (by omega)
 have l2:(((bq h.af).length:Int)=0)=(h.af.length=0):=by rw [av];exact propext (by omega)
 have he:(⟨#[]⟩:ByteArray)=emptyB:=rfl;refine eG 67 [.tmp 2] func253 rfl ntmps253 rfl fun _ _ _ _=>?_;refine br ?_ ?_<;>intro k2
 ·have k2:h.ag=2:=of_decide_eq_true k2;refine (bH ?_:);rw [Bool.eq_iff_iff];simp [pickB_and,ak,vt,aD,av,k2,he]
 have k2:¬ h.ag=2:=of_decide_eq_false k2;refine br ?_ ?_<;>intro k3
 ·have k3:h.ag=3:=of_decide_eq_true k3;refine br (fun _=>?_) (fun hf=>?_)
  ·refine (bH ?_:);rw [Bool.eq_iff_iff];simp [pickB_and,ak,vt,aD,av,k3,he]
  ·exact absurd k3 (of_decide_eq_false hf)
 have k3:¬ h.ag=3:=of_decide_eq_false k3;refine br ?_ ?_<;>intro k5
 ·have k5:h.ag=5:=of_decide_eq_true k5;refine (bH ?_:);rw [Bool.eq_iff_iff];simp [pickB_and,ak,vt,aD,av,k5,he]
 have k5:¬ h.ag=5:=of_decide_eq_false k5;refine (bH ?_:);rw [Bool.eq_iff_iff];simp [pickB_and,ak,vt,aD,av,k2,k3,k5,he]
theorem AK:∀ ps:Pts,samePts ps ps=true:=by
 have wr:∀ l:List Wd,sameWds l l=true:=by
  intro l
  induction l with
  | nil=>rfl
  | cons x r ih=>simp [sameWds,ih]
 have key:∀ n,(∀ t:Ty,t.wt<=n->sameTy t t=true)/\(∀ ps:Pts,ps.wt<=n->samePts ps ps=true):=by
  intro n
  induction n using Nat.strongRecOn with
  | _ n ih=>
   have hp:∀ ps:Pts,ps.wt<=n->(∀ t:Ty,t.wt + 256<=n->sameTy t t=true)->samePts ps ps=true:=by
    intro ps
    induction ps using Pts.rec (motive_1:=fun _=>True) with
    | mk=>trivial
    | nil=>intros;simp [samePts]
    | cons p t r _ ihr=>
     intro hw ht;simp only [Pts.wt,Ph.wt] at hw;simp only [samePts];rw [ht t (by omega),ihr (by omega) ht];simp [ch,wr]
   refine ⟨fun t ht=>?_,fun ps hps=>?_⟩
   ·obtain ⟨h,ps⟩:=t;simp only [Ty.wt,Hd.wt] at ht;simp only [sameTy,kp]
    grind
   all_goals grind
 exact fun ps=>(key ps.wt).2 ps (aJ _)
theorem Io (h:Hd) (ps:Pts):vt h ps=sameTy (.mk h ps) (mask (.mk h ps)):=by
 have wr:∀ l:List Wd,sameWds l l=true:=by
  intro l
  induction l with
  | nil=>rfl
  | cons x r ih=>simp [sameWds,ih]
 have wn:∀ l:List Wd,sameWds l []=decide (l.length=0):=by
  intro l;cases l<;>simp [sameWds]
 have pn:∀ l:Pts,samePts l .nil=decide (l.len=0):=by
  intro l;cases l<;>simp [samePts,Pts.len]
 have pr:=AK ps;simp only [mask,sameTy,kp,iI];have e5:samePts ps (if 4 < h.ag/\h.ag < 9 then ps else .nil)=(decide (ps.len=0) || (decide (5<=h.ag) && decide (h.ag<=8))):=by grind
 have e6:sameWds h.af (if h.ag=4 then h.af else [])=(decide (h.af.length=0) || decide (h.ag=4)):=by grind
 grind [vt]
theorem CW (p:Ph) (t:Ty) (hp:p.wt<=1099511627776):EvP prog 304 [.agg (Fz p (dG t))] (.v (.bool (cM p cr eS cr))):=by
 obtain ⟨th,tps⟩:=t;refine eG 8 [.tmp 2] func304 rfl ntmps304 rfl fun _ _ _ _=>?_;refine cP Mn (mS p eS cr cr hp (by decide) (vq cr cr (by decide) (by decide))) ?_;exact (rfl:_=_)
def au (l:List Wd):List ByteArray:=l.map fun w=>w.s
noncomputable def enumP (l:List Wd):Nat->Ft
 | 0=>(0,0)
 | e + 1=>
  if (enumP l e).1≠0 then enumP l e
  else match l[e]? with
   | some w=>gq (au (l.take (e + 1))) w.s w.a
   | none=>(0,0)
theorem oO {l:List Wd} {e:Nat} (h:(enumP l e).1≠0):∀ d,enumP l (e + d)=enumP l e
 | 0=>rfl
 | d + 1=>by
  have ih:=oO h d;rw [<- Nat.add_assoc,enumP,ih,aj h]
theorem AL {L:List ByteArray} {x:ByteArray} {a:Int} (h:(gq L x a).1=0):gq L x a=(0,0):=by
 unfold gq at *
 grind
theorem FJ {l:List Wd}:∀ {e:Nat},(enumP l e).1=0->enumP l e=(0,0)
 | 0,_=>rfl
 | e + 1,h=>by
  rw [enumP] at h ⊢
  grind [AL]
theorem vu {l:List Wd} {e:Nat} {w:Wd} (h:(enumP l e).1=0) (hw:l[e]? = some w):enumP l (e + 1)=gq (au (l.take (e + 1))) w.s w.a:=by
 rw [enumP,ai (by rw [h];simp),hw]
noncomputable def mT (h:Hd):Ft:=
 if h.af.length=0 then (15,h.at') else if 64 < h.af.length then (8,((h.af[64]?).getD (⟨emptyB,0⟩:Wd)).a) else enumP h.af h.af.length
abbrev MG (h:Hd) (ps:Pts) (n e:Nat):St:=
 ⟨[aw 1 0,aw 2 1,aU 27 2 (bq h.af),ap 28 ((bq h.af).length),ap 29 e,(3,⟨[],.sl 1 (ey (au (h.af.take e))) (some 0)⟩)],
  [dG (.mk h ps),[.v (.int .i64 0),.v (.int .i64 0)]],[⟨n,9,1,none⟩]⟩
theorem je {l:List Wd} {e:Nat} {w:Wd} (h:l[e]? = some w):ey (au (l.take e)) ++ [[DV.v (.string w.s)]]=ey (au (l.take (e + 1))):=by
 rw [List.take_add_one,h];simp [ey,au]
theorem FK (h:Hd) (ps:Pts) (hs:wdsWt h.af<=1099511627776):EvP prog 254 [.agg (dG (.mk h ps))] (mT h).d:=by
 have hl:=bi h.af;refine eG 48 [.cell 2 44] func254 rfl ntmps254 rfl fun _ _ _ _=>?_;refine br ?_ ?_<;>intro h0
 ·have h0:h.af.length=0:=by have:=h0;simp [av] at this;simp [this]
  refine cP dJ (bm 15 h.at') ?_;refine ⟨_,?_,rfl⟩;rw [mT,aj h0];exact ax
 have h0:¬ h.af.length=0:=by have:=h0;simp [av] at this;simpa using this
 refine br ?_ ?_<;>intro h1
 ·have h1:64 < h.af.length:=by have:=h1;simp [av] at this;omega
  obtain ⟨x,hx⟩:∃ x,h.af[64]? = some x:=⟨_,gE h1⟩;refine ⟨jA x,⟨by omega,aK hx⟩,?_⟩;refine cP dJ (bm 8 x.a) ?_;refine ⟨_,?_,rfl⟩;rw [mT,ai h0,aj h1,hx];exact ax
 have h1:¬ 64 < h.af.length:=by have:=h1;simp [av] at this;omega
 have hk:mT h=enumP h.af h.af.length:=by rw [mT,ai h0,ai h1]
 rw [hk];refine lI (fun j st=>∃ e:Nat,st=MG h ps e e/\e<=h.af.length/\(enumP h.af e).1=0/\j=h.af.length - e) ⟨0,rfl,by omega,rfl,rfl⟩ (fq ⟨0,9,1,none⟩ rfl ⟨_,rfl⟩ rfl wA rfl rfl jT) ?_;rintro j st ⟨e,rfl,he,hz,rfl⟩;refine br ?_ ?_<;>intro hL
 ·have al:e < h.af.length:=by simpa [av] using hL
  obtain ⟨w,hw⟩:=gX al;have ub:=gY (mG hw);have CX:=vu hz hw;have MH:(au (h.af.take (e + 1)))[(au (h.af.take (e + 1))).length - 1]? = some w.s:=by grind [au]
  refine ⟨jA w,⟨by omega,aK hw⟩,?_⟩;refine ⟨by simp [bL,au];omega,⟨by simp [bL,au,maxLen];omega,by simp [bL,au];omega⟩,?_⟩;have di:=je hw;have Tb:=sF (au (h.af.take (e + 1))) w.s w.a MH (by simp [au];omega) (by omega);rw [<- di,<- CX] at Tb;refine cP RK Tb ?_;refine br ?_ ?_<;>intro hf
  ·have hf:(enumP h.af (e + 1)).1≠0:=sU hf;refine ⟨_,?_,rfl⟩;have aY:=oO hf (h.af.length - (e + 1));rw [show e + 1 + (h.af.length - (e + 1))=h.af.length by omega] at aY;rw [aY];exact ax
  ·have hf:(enumP h.af (e + 1)).1=0:=sU hf;refine ⟨MG h ps (e + 1) (e + 1),(wkM (wB2 (nxt al (by omega)) di)),h.af.length - (e + 1),by omega,e + 1,rfl,by omega,hf,rfl⟩
 ·have aM:e=h.af.length:=by
   have:=hL;simp [av] at this;omega
  subst aM;have aY:=FJ hz;refine ⟨_,?_,rfl⟩;rw [aY];exact ax
def Yo (t:Ty) (depth m:Int) (r:DV) (os:List (List DV)) (_:List TkE):Prop:=
 r=(wrong t depth m).1.d/\∃ z:Int,os=[[.v (.int .i64 z)]]/\((wrong t depth m).1.1=0->z=(wrong t depth m).2)
theorem T0 {t:Ty} {depth m:Int}:∀ r os tk,Yo t depth m r os tk->clB 0 0 r=true/\∀ rk∈os,clB.clL 0 0 rk=true:=by
 rintro r os tk ⟨rfl,z,rfl,_⟩;refine ⟨rfl,fun rk h=>?_⟩;simp only [List.mem_singleton] at h;subst h;rfl
theorem JY (t:Ty) (hc:Ev prog 199 [.loc 0 0,.agg (dG t),.v (.int .i64 1)] [[.v (.int .i64 0)]] [] (Yo t 1 0)) :
  EvP prog 113 [.agg (dG t)] (wrong t 1 0).1.d:=by
 obtain ⟨h,ps⟩:=t;refine eG 9 [.cell 2 44] func113 rfl ntmps113 rfl fun _ _ _ _=>?_;refine lE Me rfl rfl ax ax hc T0 (fun r rk hr=>?_);obtain ⟨rfl,z,hz,_⟩:=hr;simp only [List.cons.injEq,and_true] at hz;subst hz;exact ⟨_,ax,rfl⟩
def kr (n:Nat):List UInt8:=if n < 10 then [UInt8.ofNat (48 + n)] else kr (n / 10) ++ [UInt8.ofNat (48 + n % 10)]
termination_by n
decreasing_by omega
theorem lK {n:Nat} (h:n < 10):kr n=[UInt8.ofNat (48 + n)]:=by rw [kr,aj h]
theorem pP {n:Nat} (h:¬ n < 10):kr n=kr (n / 10) ++ [UInt8.ofNat (48 + n % 10)]:=by rw [kr,ai h]
theorem CY:∀ (k n:Nat),n < 10 ^ (k + 1)->(kr n).length<=k + 1
 | 0,n,h=>by grind [lK]
 | k + 1,n,h=>by
  by_cases hn:n < 10
  ·rw [lK hn];simp
  ·rw [pP hn];have h2:n / 10 < 10 ^ (k + 1):=by omega
   have:=CY k (n / 10) h2
   grind
theorem digs_20 {n:Nat} (h:n<=18446744073709551616):(kr n).length<=20:=CY 19 n (by omega)
def fQ (z:Int):List UInt8:=if z < 0 then 45 :: kr z.natAbs else kr z.natAbs
def pQ (z:Int):ByteArray:=⟨(fQ z).toArray⟩
theorem pS {z:Int} (h1 : -9223372036854775808<=z) (h2:z<=9223372036854775807):(fQ z).length<=21:=by grind [digs_20,fQ]
theorem kF {z:Int} (h1 : -9223372036854775808<=z) (h2:z<=9223372036854775807):(pQ z).size<=21:=pS h1 h2
theorem bX (a b:List UInt8):(⟨a.toArray⟩:ByteArray) ++ ⟨b.toArray⟩=⟨(a ++ b).toArray⟩:=by
 apply ByteArray.ext;simp
theorem wr (z:Int) (h1 : -9223372036854775808<=z) (h2:z<=9223372036854775807):IntKind.i64.wrap z=z:=by
 rw [IntKind.wrap_i64];omega
theorem lL {z:Int} (h:0<=z):fQ z=kr z.toNat:=by grind [fQ]
theorem pT:∀ (N:Nat) (z:Int),0<=z->z<=9223372036854775807->z.toNat < N->EvP prog 159 [.v (.int .i64 z)] (.v (.string (pQ z)))
 | 0,z,_,_,h=>by omega
 | N + 1,z,h0,h1,hN=>by
  have ih:=pT N;refine eG 33 [.tmp 2] func159 rfl ntmps159 rfl fun _ _ _ _=>?_;refine br (fun h=>?_) (fun _=>?_)
  ·have:z < 0:=sU h;omega
  refine br ?_ ?_<;>intro h
  ·have hz:z < 10:=sU h;have hw:IntKind.i64.wrap (48 + z)=48 + z:=wr _ (by omega) (by omega);refine ⟨[UInt8.ofNat (48 + z.toNat)],?_,?_⟩
   ·simp only [List.flatten_cons,List.flatten_nil,List.append_nil,u8L,List.cons.injEq,and_true];refine congrArg (fun x=>DV.v (.int .u8 x)) ?_;rw [hw,IntKind.wrap_u8]
    have:(UInt8.ofNat (48 + z.toNat)).toNat=48 + z.toNat:=by
     rw [UInt8.toNat_ofNat'];omega
    rw [this];omega
   ·refine (congrArg (fun s=>DV.v (.string s)) ?_:_=_);rw [pQ,lL h0,lK (by omega)]
  ·have hz:¬ z < 10:=sU h;have hq:IntKind.i64.wrap (z.tdiv 10)=((z.toNat / 10:Nat):Int):=by grind [wr]
   have hr:z.tmod 10=((z.toNat % 10:Nat):Int):=by
    rw [Int.tmod_eq_emod_of_nonneg h0];omega
   refine ⟨⟨rfl,by decide⟩,?_⟩;refine cP pL (ih (IntKind.i64.wrap (z.tdiv 10)) (by rw [hq];omega) (by rw [hq];omega) (by rw [hq];omega)) ?_;refine ⟨⟨rfl,by decide⟩,?_⟩;refine cP pL (ih (z.tmod 10) (by rw [hr];omega) (by rw [hr];omega) (by rw [hr];omega)) ?_;rw [hq,hr];have l1:=kF (z:=((z.toNat / 10:Nat):Int)) (by omega) (by omega);have l2:=kF (z:=((z.toNat % 10:Nat):Int)) (by omega) (by omega);refine ⟨by omega,?_⟩;refine (congrArg (fun s=>DV.v (.string s)) ?_:_=_);simp only [pQ];rw [bX,lL h0,lL (by omega),lL (by omega),pP (n:=z.toNat) (by omega),lK (n:=((z.toNat % 10:Nat):Int).toNat) (by omega)];rfl
theorem pU {z:Int} (h:z < 0):fQ z=45 :: kr z.natAbs:=by unfold fQ;rw [aj h]
theorem CZ:∀ (N:Nat) (z:Int),z < 0 -> -9223372036854775808<=z->z.natAbs < N->EvP prog 159 [.v (.int .i64 z)] (.v (.string (pQ z)))
 | 0,z,_,_,h=>by omega
 | N + 1,z,h0,h1,hN=>by
  have ih:=CZ N;refine eG 33 [.tmp 2] func159 rfl ntmps159 rfl fun _ _ _ _=>?_;refine br (fun _=>?_) (fun h=>?_)
  ·refine br ?_ ?_<;>intro h
   ·have hz : -10 < z:=sU h;have hw:IntKind.i64.wrap (0 - z) = -z:=by rw [wr _ (by omega) (by omega)];omega
    refine cP pL (pT (z.natAbs + 1) (IntKind.i64.wrap (0 - z)) (by rw [hw];omega) (by rw [hw];omega) (by rw [hw];omega)) ?_;rw [hw];have l1:=kF (z:=-z) (by omega) (by omega);refine ⟨by show 1 + (pQ (-z)).size<=_;omega,?_⟩;refine (congrArg (fun s=>DV.v (.string s)) ?_:_=_);simp only [pQ];rw [pU h0,lL (z:=-z) (by omega),show (-z).toNat=z.natAbs by omega];exact bX [45] _
   ·have hz:¬ -10 < z:=sU h;have hq:IntKind.i64.wrap (z.tdiv 10) = -((z.natAbs / 10:Nat):Int):=by grind [wr]
    have hr:z.tmod 10 = -((z.natAbs % 10:Nat):Int):=by grind
    have hw:IntKind.i64.wrap (0 - z.tmod 10)=((z.natAbs % 10:Nat):Int):=by
     rw [hr,wr _ (by omega) (by omega)];omega
    refine ⟨⟨rfl,by decide⟩,?_⟩;refine cP pL (ih (IntKind.i64.wrap (z.tdiv 10)) (by rw [hq];omega) (by rw [hq];omega) (by rw [hq];omega)) ?_;refine ⟨⟨rfl,by decide⟩,?_⟩;refine cP pL (pT 11 (IntKind.i64.wrap (0 - z.tmod 10)) (by rw [hw];omega) (by rw [hw];omega) (by rw [hw];omega)) ?_;rw [hq,hw];have l1:=kF (z:=-((z.natAbs / 10:Nat):Int)) (by omega) (by omega);have l2:=kF (z:=((z.natAbs % 10:Nat):Int)) (by omega) (by omega);refine ⟨by omega,?_⟩;refine (congrArg (fun s=>DV.v (.string s)) ?_:_=_);simp only [pQ];rw [bX,pU h0,pU (by omega),lL (by omega),pP (n:=z.natAbs) (by omega),lK (n:=((z.natAbs % 10:Nat):Int).toNat) (by omega),Int.natAbs_neg,Int.natAbs_natCast];rfl
  ·have:¬ z < 0:=sU h;omega
theorem vv (z:Int) (h1 : -9223372036854775808<=z) (h2:z<=9223372036854775807):EvP prog 159 [.v (.int .i64 z)] (.v (.string (pQ z))):=by
 by_cases h:z < 0
 ·exact CZ _ z h h1 (Nat.lt_succ_self _)
 ·exact pT _ z (by omega) h2 (Nat.lt_succ_self _)
theorem pV:∀ bs:List UInt8,u8L bs=bs.map fun b=>DV.v (.int .u8 (b.toNat:Int))
 | []=>rfl
 | b :: r=>by simp [u8L,pV r]
theorem AM (bs:List UInt8):(u8L bs).length=bs.length:=by simp [pV]
theorem Ip (a b:List UInt8):u8L (a ++ b)=u8L a ++ u8L b:=by simp [pV]
theorem MI (n:Nat) (a:List UInt8):u8L (a.take n)=(u8L a).take n:=by simp [pV,List.map_take]
theorem C0 (n:Nat) (a:List UInt8):u8L (a.drop n)=(u8L a).drop n:=by simp [pV,List.map_drop]
theorem Iq {n m:Nat} {tk:List TkE}:∀ bs:List UInt8,WeL n m tk (u8L bs) (u8L bs)
 | []=>rfl
 | b :: r=>⟨_,_,rfl,we_rfl rfl,Iq r⟩
theorem rz {n m:Nat} {tk:List TkE} {l:List DV} {bs:List UInt8} (h:l=u8L bs):WeL n m tk l (u8L bs):=by rw [h];exact Iq bs
theorem MJ (n:Nat):0 < (kr n).length:=by
 rw [kr];split<;>simp
abbrev C1 (m:Bool) (u a:Nat) (bs:List UInt8):St:=⟨[Ar 3 m,(4,⟨[],.v (.int .u64 u)⟩),aw 5 0,ap 6 a],[u8L bs],[]⟩
def T5 (m:Bool) (N j:Nat) (st:St):Prop:=∃ (u a:Nat) (bs:List UInt8),st=C1 m u a bs/\bs.length=20/\a<=20/\u < 18446744073709551616 /\
 ((a < 20/\u=0/\kr N=bs.drop a)∨((a=20∨0 < u)/\kr N=kr u ++ bs.drop a))/\j=a
theorem putI_0 (m:Bool) (N:Nat) (h:N < 18446744073709551616):T5 m N 20 (C1 m N 20 (List.replicate 20 0)):=
 ⟨N,20,_,rfl,by simp,aJ _,h,.inr ⟨.inl rfl,by simp⟩,rfl⟩
theorem C2 (z:Int) (h1 : -9223372036854775808<=z) (h2:z<=9223372036854775807):EvP prog 156 [.v (.int .i64 z)] (.v (.string (pQ z))):=by
 have hN:z.natAbs<=9223372036854775808:=by omega
 refine eG 38 [.tmp 2] func156 rfl ntmps156 rfl fun _ _ _ _=>?_;refine br ?_ ?_<;>intro h
 case' refine_1=>
  have hz:z < 0:=sU h
  have hu:IntKind.u64.wrap (0 - IntKind.u64.wrap z)=(z.natAbs:Int):=by
   simp only [IntKind.wrap_u64];omega
  refine aQ (T5 (decide (z < 0)) z.natAbs) 20 (C1 (decide (z < 0)) z.natAbs 20 (List.replicate 20 0)) (Aq ⟨_,rfl⟩ (by repeat' (first | exact rfl | exact we_rfl rfl | exact rz rfl | refine ⟨_,_,rfl,?_,?_⟩)) rfl rfl rfl (by repeat' (first | exact trivial | exact we_rfl rfl | exact we_int hu | exact rz rfl | refine ⟨⟨_,rfl,?_⟩,?_⟩))) (putI_0 _ _ (by omega)) ?_
 case' refine_2=>
  have hz:¬ z < 0:=sU h
  have hu:IntKind.u64.wrap z=(z.natAbs:Int):=by
   simp only [IntKind.wrap_u64];omega
  refine aQ (T5 (decide (z < 0)) z.natAbs) 20 (C1 (decide (z < 0)) z.natAbs 20 (List.replicate 20 0)) (Aq ⟨_,rfl⟩ (by repeat' (first | exact rfl | exact we_rfl rfl | exact rz rfl | refine ⟨_,_,rfl,?_,?_⟩)) rfl rfl rfl (by repeat' (first | exact trivial | exact we_rfl rfl | exact we_int hu | exact rz rfl | refine ⟨⟨_,rfl,?_⟩,?_⟩))) (putI_0 _ _ (by omega)) ?_
 all_goals
  clear hu hz h;rintro a st ⟨u,j,bs,rfl,hbl,ha,hu64,hinv,rfl⟩;refine br ?_ ?_<;>intro h
  ·have hc:a=20∨0 < u:=by
    simp [ak] at h;omega
   have hd:kr z.natAbs=kr u ++ bs.drop a:=by grind
   have hp:0 < a:=by grind [MJ,digs_20]
   have Yp:IntKind.i64.wrap ((a:Int) - 1)=((a - 1:Nat):Int):=by rw [wr _ (by omega) (by omega)];omega
   have hb:IntKind.u8.wrap (48 + IntKind.u8.wrap ((u:Int).tmod 10))=((UInt8.ofNat (48 + u % 10)).toNat:Int):=by
    rw [Int.tmod_eq_emod_of_nonneg (by omega),UInt8.toNat_ofNat',IntKind.wrap_u8',IntKind.wrap_u8'];omega
   have hq:IntKind.u64.wrap ((u:Int).tdiv 10)=((u / 10:Nat):Int):=by
    rw [Int.tdiv_eq_ediv_of_nonneg (by omega),IntKind.wrap_u64];omega
   refine ⟨⟨rfl,by decide⟩,?_⟩;refine ⟨⟨by rw [Yp];omega,by rw [Yp];omega⟩,?_⟩;have tG:0 + (IntKind.i64.wrap ((a:Int) - 1)).toNat * 1=a - 1:=by rw [Yp];omega
   refine ⟨by rw [tG,AM,hbl];omega,?_⟩;refine ⟨⟨rfl,by decide⟩,?_⟩
   have cx:(u8L bs).set (0 + (IntKind.i64.wrap ((a:Int) - 1)).toNat * 1) (DV.v (.int .u8 (IntKind.u8.wrap (48 + IntKind.u8.wrap ((u:Int).tmod 10)))))=u8L (bs.take (a - 1) ++ [UInt8.ofNat (48 + u % 10)] ++ bs.drop a):=by
    rw [tG,hb,List.set_eq_take_append_cons_drop,aj (by rw [AM,hbl];omega),Ip,Ip,MI,C0,show a - 1 + 1=a by omega];simp [u8L]
   refine ⟨C1 (decide (z < 0)) (u / 10) (a - 1) (bs.take (a - 1) ++ [UInt8.ofNat (48 + u % 10)] ++ bs.drop a),(wkB 1 (by repeat' (first | exact rfl | exact we_rfl rfl | exact rz cx | exact we_int Yp | exact we_int hq | refine ⟨_,_,rfl,?_,?_⟩)) (by repeat' (first | exact trivial | exact we_rfl rfl | exact rz cx | exact we_int Yp | exact we_int hq | refine ⟨⟨_,rfl,?_⟩,?_⟩))),a - 1,by omega,u / 10,a - 1,_,rfl,by simp;omega,by omega,by omega,?_,rfl⟩;have Yq:(bs.take (a - 1) ++ [UInt8.ofNat (48 + u % 10)] ++ bs.drop a).drop (a - 1)=UInt8.ofNat (48 + u % 10) :: bs.drop a:=by grind
   rw [Yq,hd];by_cases sx:u < 10
   ·grind [lK]
   ·grind [pP]
  ·have hc:a≠20/\u=0:=by
    simp [ak] at h;omega
   have hd:kr z.natAbs=bs.drop a:=by grind
   have hdu:((u8L bs).drop (0 + (a:Int).toNat * 1)).take (((20:Nat):Int).toNat - (a:Int).toNat)=u8L (bs.drop a):=by grind [C0,AM]
   have hl:(bs.drop a).length=((20:Nat):Int).toNat - (a:Int).toNat:=by simp [hbl]
   refine br ?_ ?_<;>intro hz
   ·have hz:z < 0:=sU hz;refine ⟨⟨by omega,by omega,by omega⟩,?_⟩;refine ⟨bs.drop a,hdu,hl,?_⟩;refine ⟨by show 1 + (bs.drop a).length<=_;rw [hl];omega,?_⟩;refine (congrArg (fun s=>DV.v (.string s)) ?_:_=_);rw [<- hd,pQ,pU hz];exact bX [45] _
   ·have hz:¬ z < 0:=sU hz;refine ⟨⟨by omega,by omega,by omega⟩,?_⟩;refine ⟨bs.drop a,hdu,hl,?_⟩;refine (congrArg (fun s=>DV.v (.string s)) ?_:_=_);rw [<- hd,pQ,lL (by omega),show z.toNat=z.natAbs by omega]
abbrev ba (l:List UInt8):ByteArray:=⟨l.toArray⟩
def tx (s:ByteArray):List UInt8:=s.data.toList
theorem mU {s:ByteArray} {l:List UInt8} (h:tx s=l):s=ba l:=by
 subst h;apply ByteArray.ext;simp [tx]
theorem lM (s t:ByteArray):tx (s ++ t)=tx s ++ tx t:=by simp [tx]
theorem fh (l:List UInt8):tx (ba l)=l:=by simp [tx]
theorem vw (a:Array UInt8):tx ⟨a⟩=a.toList:=rfl
theorem mV (s:ByteArray):ba (tx s)=s:=(mU rfl).symm
theorem bf (s:ByteArray):(tx s).length=s.size:=by simp [tx]
theorem bI (s t:ByteArray):(s ++ t).size=s.size + t.size:=by simp
theorem fY (l:List UInt8):(ba l).size=l.length:=rfl
def joinT (f s:List UInt8):List (List UInt8)->List UInt8
 | []=>[]
 | x :: r=>f ++ x ++ r.flatMap fun y=>s ++ y
theorem FL (f s:List UInt8) (x:List UInt8):∀ l:List (List UInt8),joinT f s (l ++ [x])=joinT f s l ++ (if l.length=0 then f else s) ++ x
 | []=>by simp [joinT]
 | y :: r=>by simp [joinT,List.flatMap_append]
def od (z:Int):Prop:=-9223372036854775808<=z/\z<=9223372036854775807
theorem iJ {n m:Nat} {bP:List TkE} {x y:ByteArray} (h:x=y):We n m bP (.v (.string x)) (.v (.string y)):=.inl ⟨by rw [h],rfl⟩
theorem vx {f s:List UInt8} {l:List (List UInt8)} {e:Nat} {x:List UInt8} (h:l[e]? = some x):joinT f s (l.take (e + 1))=joinT f s (l.take e) ++ (if e=0 then f else s) ++ x:=by
 have al:=(gS h).1;rw [List.take_add_one,h,Option.toList_some,FL]
 grind
end Go.Proofs.YtgjagnmeonoehaaGreat
set_option maxRecDepth 100000
namespace Go.Proofs
open Go.Shelf
def Tryz.lays156_ren:Go.Shelf.Ren:=⟨fun | 156=>227 | 165=>267 | 166=>74 | 169=>76 | 240=>149 | 241=>312 | 276=>217 | 277=>346 | n=>n,fun | 31=>73 | 9=>9 | 3=>3 | 4=>4 | 0=>0 | 20=>20 | 72=>160 | 76=>163 | 70=>157 | 37=>158 | 75=>162 | 127=>258 | 164=>316 | 5=>5 | 80=>166 | n=>n,fun | n=>n⟩
theorem Tryz.lays156:Go.Proofs.Lays.n156 prog Tryz.lays156_ren:={
 mixed:=by kernel_rfl
 f156:=func227.trans (congrArg some (by kernel_rfl))
 f165:=func267.trans (congrArg some (by kernel_rfl))
 f166:=func74.trans (congrArg some (by kernel_rfl))
 f169:=func76.trans (congrArg some (by kernel_rfl))
 f240:=func149.trans (congrArg some (by kernel_rfl))
 f241:=func312.trans (congrArg some (by kernel_rfl))
 f276:=func217.trans (congrArg some (by kernel_rfl))
 f277:=func346.trans (congrArg some (by kernel_rfl))
 t0:=Tryz.underlying0
 a0:=Tryz.isAgg0
 z0:=Tryz.sizeOf0
 v0:=Tryz.zeroValue0
 t3:=Tryz.underlying3
 a3:=Tryz.isAgg3
 z3:=Tryz.sizeOf3
 v3:=Tryz.zeroValue3
 t4:=Tryz.underlying4
 a4:=Tryz.isAgg4
 z4:=Tryz.sizeOf4
 v4:=Tryz.zeroValue4
 t9:=Tryz.underlying9
 a9:=Tryz.isAgg9
 z9:=Tryz.sizeOf9
 v9:=Tryz.zeroValue9
 t20:=Tryz.underlying20
 a20:=Tryz.isAgg20
 z20:=Tryz.sizeOf20
 v20:=Tryz.zeroValue20
 t31:=Tryz.underlying73
 a31:=Tryz.isAgg73
 z31:=Tryz.sizeOf73
 v31:=Tryz.zeroValue73
 t37:=Tryz.underlying158
 a37:=Tryz.isAgg158
 z37:=Tryz.sizeOf158
 v37:=Tryz.zeroValue158
 t70:=Tryz.underlying157
 a70:=Tryz.isAgg157
 z70:=Tryz.sizeOf157
 v70:=Tryz.zeroValue157
 t72:=Tryz.underlying160
 a72:=Tryz.isAgg160
 z72:=Tryz.sizeOf160
 v72:=Tryz.zeroValue160
 t75:=Tryz.underlying162
 a75:=Tryz.isAgg162
 z75:=Tryz.sizeOf162
 v75:=Tryz.zeroValue162
 t76:=Tryz.underlying163
 a76:=Tryz.isAgg163
 z76:=Tryz.sizeOf163
 v76:=Tryz.zeroValue163
 t127:=Tryz.underlying258
 a127:=Tryz.isAgg258
 z127:=Tryz.sizeOf258
 v127:=Tryz.zeroValue258
 t164:=Tryz.underlying316
 a164:=Tryz.isAgg316
 z164:=Tryz.sizeOf316
 v164:=Tryz.zeroValue316 }
theorem Tryz.Builder_Extra_156:Builder.Extra prog Tryz.lays156_ren:={
 sizeBuilder:=by kernel_rfl
 liesBuilder:=by kernel_rfl
 t5:=Tryz.underlying5
 a5:=Tryz.isAgg5
 z5:=Tryz.sizeOf5
 v5:=Tryz.zeroValue5
 infoByte:=by kernel_rfl
 cellsByte:=by kernel_rfl
 sizeByte:=by kernel_rfl
 neB5:=by decide }
end Go.Proofs
namespace Go.Proofs.YtgjagnmeonoehaaGreat
open Go Go.RowKit Dv Go.Proofs.Tryz
theorem y9 {P:Program} {f:FuncId} {args:List DV} {d:DV}
  (h:∀ (E:En) (w:World) (vs:List Value),Env E [] w->RvL E args vs->Calls P f vs.toArray w fun e w'=>∃ v,e = .returned v/\Rv E d v/\Below w.heap.size w w'):EvP P f args d:=by
 intro E w vs hE iG hv;refine (h E w vs hE hv).mono ?_;rintro e w' ⟨v,rfl,hr,hb⟩;exact ⟨v,rfl,⟨hb.os,hb.tape,hb.output,hb.size,fun k hk _=>hb.block k hk⟩,fun hf=>(by cases hf),d,[],E,hE.kj hb.block,rfl,rfl,Nw.refl hE,hr,rfl⟩
def cO (l:List (List UInt8)):List (List DV):=l.map fun x=>[.v (.string (ba x))]
theorem ez (l:List (List UInt8)):(cO l).length=l.length:=by simp [cO]
theorem C3 {E:En}:∀ {ls:List (List UInt8)} {arr:List Value},RvL E (cO ls).flatten arr->arr=ls.map fun x=>Value.string (ba x)
 | [],arr,h=>by simpa [cO,RvL] using h
 | x :: r,arr,h=>by
  simp only [cO,List.map_cons,List.flatten_cons,List.cons_append,List.nil_append,RvL] at h;obtain ⟨v,s,rfl,h1,h2⟩:=h;unfold Rv at h1;rw [h1.1,C3 (ls:=r) h2];rfl
theorem JZ (s:List UInt8):∀ l:List (List UInt8),joinT [] s l=Lib.join l s
 | []=>rfl
 | x :: r=>by
  rw [Lib.join_cons];simp [joinT,Lib.joinTail,List.flatMap]
theorem J0 (ls:List (List UInt8)) (sep:ByteArray) (hN:ls.length<=140737488355328) (hlen:(joinT [] (tx sep) ls).length<=140737488355328) :
  EvP prog 227 [.sl 1 (cO ls) none,.v (.string sep)] (.v (.string (ba (joinT [] (tx sep) ls)))):=by
 refine y9 fun E w vs hE hv=>?_;simp only [RvL] at hv;obtain ⟨v1,s1,rfl,h1,v2,s2,rfl,h2,rfl⟩:=hv;have h2:=bg h2;subst h2;unfold Rv at h1;obtain ⟨b,n,cap,rfl,⟨rfl,Ak⟩,hr,_⟩:=h1;rw [ez] at Ak;rw [JZ] at hlen ⊢
 have hd:(ls.map ba).map (·.data.toList)=ls:=by
  rw [List.map_map]
  conv=>rhs;rw [<- List.map_id ls]
  rfl
 by_cases aT:ls=[]
 ·subst aT;refine (Any.strings_Join_none Tryz.lays156 Tryz.Builder_Extra_156 b cap sep w).mono ?_;rintro e w' ⟨rfl,rfl⟩;exact ⟨_,rfl,fc rfl,Below.refl _ _⟩
 ·have Td:cO ls ≠ []:=by grind [ez]
  obtain ⟨bu,iR⟩:=hr Td;obtain ⟨arr,ha1,HO,Po⟩:=iR.tC;have FD:=C3 ha1.1;have hb:=lr bu
  have j2:∀ (j:Nat) x,(ls.map ba)[j]? = some x->w.cell? ⟨ab b,ao b + j,none⟩=some (.string x):=by
   intro j x hx;refine hE.sub _ _ (Po j _ ?_);rw [FD];rw [List.getElem?_map] at hx ⊢
   cases hl:ls[j]? with
   | none=>rw [hl] at hx;cases hx
   | some y=>rw [hl] at hx;simp only [Option.map_some,oI] at hx ⊢;rw [hx]
  have mr:ab b < w.heap.size:=by
   cases hl:ls with
   | nil=>exact (aT hl).elim
   | cons y r=>exact World.block_lt_of_cell? w _ (j2 0 (ba y) (by rw [hl];rfl))
  rw [hb,ez];have hJ:=Any.strings_Join Tryz.lays156 Tryz.Builder_Extra_156 (ab b) (ao b) cap (ls.map ba) sep w j2 mr (sU hN) (sU Ak) (by rw [hd];exact hlen);rw [hd,List.length_map] at hJ;refine hJ.mono ?_;rintro e w' ⟨rfl,Fk⟩;exact ⟨_,rfl,fc rfl,Fk⟩
end Go.Proofs.YtgjagnmeonoehaaGreat
set_option maxRecDepth 100000
namespace Go.Proofs.YtgjagnmeonoehaaGreat
open Go Go.RowKit Dv Go.Proofs.Tryz
theorem FM {L:List (List UInt8)} {e:Nat} {s:ByteArray} (h:L[e]? = some (tx s)):cO (L.take e) ++ [[DV.v (.string s)]]=cO (L.take (e + 1)):=by
 rw [List.take_add_one,h];simp [cO,mV]
mutual
def rngT:Ty->Prop
 | .mk h ps=>od h.lo/\od h.hi/\od h.most/\rngP ps
def rngP:Pts->Prop
 | .nil=>True
 | .cons p t r=>od p.wide/\od p.cn/\rngT t/\rngP r
end
end Go.Proofs.YtgjagnmeonoehaaGreat
namespace Go.Proofs.YtgjagnmeonoehaaGreat
namespace Dv
open Go Go.RowKit
def TypFs (f:TypeId->List DV->Prop):List TypeId->List DV->Prop
 | [],ds=>ds=[]
 | t :: r,ds=>∃ a b,ds=a ++ b/\f t a/\TypFs f r b
def Typ (P:Program):Nat->TypeId->List DV->Prop
 | 0,_,_=>False
 | n + 1,t,ds=>
  match P.underlying t with
  | some .bool=>∃ b,ds=[.v (.bool b)]
  | some (.int k)=>∃ z,ds=[.v (.int k z)]/\(Lit.int k z).wf=true
  | some .string=>∃ s:ByteArray,ds=[.v (.string s)]
  | some (.slice e)=>∃ es,ds=[.sl (P.cellsOf e) es none]/\∀ cs∈es,Typ P n e cs
  | some (.struct fs)=>TypFs (Typ P n) (fs.toList.map (·.type)) ds
  | _=>False
mutual
def wgD:DV->Nat
 | .v (.string s)=>s.size + 64
 | .sl _ es _=>64 + wgEs es
 | _=>64
def wgL:List DV->Nat
 | []=>0
 | d :: r=>wgD d + wgL r
def wgEs:List (List DV)->Nat
 | []=>0
 | cs :: r=>wgL cs + wgEs r
end
theorem eU:∀ a b:List DV,wgL (a ++ b)=wgL a + wgL b
 | [],b=>by simp [wgL]
 | d :: r,b=>by simp only [List.cons_append,wgL,eU r b];omega
def laidF (P:Program) (S:List TypeId):Nat->List Field->Nat->Bool
 | off,[],n=>decide (off=n)
 | off,f :: r,n=>decide (f.offset=off) && S.contains f.type && laidF P S (off + P.cellsOf f.type) r n
def lN (P:Program) (S:List TypeId) (t:TypeId):Bool:=
 match P.underlying t with
 | some .bool=>decide (P.cellsOf t=1)
 | some (.int _)=>decide (P.cellsOf t=1)
 | some .string=>decide (P.cellsOf t=1)
 | some (.slice e)=>decide (P.cellsOf t=1) && S.contains e && decide (0 < P.cellsOf e)
 | some (.struct fs)=>laidF P S 0 fs.toList (P.cellsOf t)
 | _=>false
def bkS {H:Type} (bk:DataW H->Nat):List (DataW H)->Nat
 | []=>0
 | d :: r=>bk d + bkS bk r
structure Bk {H:Type} (bk:DataW H->Nat):Prop where
 str:∀ l:List UInt8,l.length + 1<=bk (.lit (.string l))
 lit:∀ l,1<=bk (.lit l)
 nil:1<=bk .nil
 slice:∀ es sp,1 + bkS bk es<=bk (.slice es sp)
 agg:∀ l,bkS bk l<=bk (.agg l)
def B1 (w:World):En:=⟨fun a=>w.cell? a,[],[],[]⟩
theorem PS (w:World):Env (B1 w) [] w where
 len:=rfl
 tl:=rfl
 eo:=by simp
 inj:=List.nodup_nil
 sub:=fun x u hx=>hx
 pc:=by simp [B1]
 cA:=by simp [B1]
 ja:=by simp [B1]
theorem J1 {w:World} {a:Addr} {k:Nat} {v:Value} (h:w.cell? (a.add k)=some v):w.cell? ⟨a.block,a.off + k,none⟩=some v:=by
 unfold Addr.add at h;split at h
 ·rename_i hk;subst hk;unfold World.cell? at h ⊢;split at h
  ·rename_i c e z he;split at h
   ·cases h
   ·simpa [he] using h
  ·cases h
 ·exact h
theorem J2 {w:World} {a:Addr} {v:Value} (h:w.cell? a=some v):a.spot=none:=by
 unfold World.cell? at h;split at h
 ·split at h
  ·cases h
  ·rename_i hs;simpa using hs
 ·cases h
theorem vy {E:En} {b:Nat}:∀ {p:Nat} {ds:List DV} {vs:List Value},RvL E.cl ds vs->(∀ (j:Nat) v,vs[j]? = some v->E.c ⟨b,p + j,none⟩=some v/\v.oneCell'=true)->RvAt E.cl b p ds
 | p,[],vs,h,hc=>by simp only [RvAt]
 | p,d :: r,vs,h,hc=>by
  simp only [RvL] at h;obtain ⟨v,s,rfl,h1,h2⟩:=h;simp only [RvAt];obtain ⟨c1,c2⟩:=hc 0 v rfl;refine ⟨⟨v,c1,c2,h1⟩,vy (p:=p + 1) h2 fun j u hj=>?_⟩;have:=hc (j + 1) u hj;rw [show p + 1 + j=p + (j + 1) by omega];exact this
section
variable {H:Type} {enc:TypeId × Value->H} {P:Program} {w:World} {sp:Nat->Bool} {held:Bool} {S:List TypeId} {bk:DataW H->Nat}
def Rd (enc:TypeId × Value->H) (P:Program) (w:World) (bk:DataW H->Nat) (n:Nat) (t:TypeId) (cs:List Value) (d:DataW H):Prop:=
 ∃ ds,RvL (B1 w) ds cs/\(∀ v∈cs,v.oneCell'=true)/\Typ P n t ds/\wgL ds<=64 * bk d/\cs.length=P.cellsOf t
theorem za {n:Nat} (ih:∀ t cs x,t∈S->DataW.trod enc P w 0 sp held n t cs=some x->Rd enc P w bk n t cs x.1) (cs:List Value) :
  ∀ (fs:List Field) (off:Nat) (xs:List (DataW H × List MemPlace)),laidF P S off fs cs.length=true->xs.length=fs.length ->
   (∀ (i:Nat) f,fs[i]? = some f->DataW.trod enc P w 0 sp held n f.type ((cs.drop f.offset).take (P.cellsOf f.type))=xs[i]?) ->
   ∃ ds,RvL (B1 w) ds (cs.drop off)/\(∀ v∈cs.drop off,v.oneCell'=true)/\TypFs (Typ P n) (fs.map (·.type)) ds/\wgL ds<=64 * bkS bk (xs.map (·.1))
 | [],off,xs,hl,uP,hx=>by
  simp only [laidF,decide_eq_true_eq] at hl;subst hl;simp only [List.length_nil,List.length_eq_zero_iff] at uP;subst uP;exact ⟨[],by simpa using cf _,by simp,by simp [TypFs],by simp [wgL]⟩
 | f :: r,off,xs,hl,uP,hx=>by
  simp only [laidF,aO,decide_eq_true_eq] at hl;obtain ⟨⟨RY,hS⟩,hl⟩:=hl
  match xs,uP with
  | x :: xs,uP=>
   have h0:=hx 0 f rfl;rw [RY] at h0;simp only [List.getElem?_cons_zero] at h0;obtain ⟨ds0,r1,r2,r3,r4,r5⟩:=ih f.type _ x (sU hS) h0;obtain ⟨ds1,s1,s2,s3,s4⟩:=za ih cs r (off + P.cellsOf f.type) xs hl (sU uP) (fun i g hg=>by simpa using hx (i + 1) g (sU hg))
   have MK:cs.drop off=(cs.drop off).take (P.cellsOf f.type) ++ cs.drop (off + P.cellsOf f.type):=by
    rw [<- List.drop_drop,List.take_append_drop]
   refine ⟨ds0 ++ ds1,?_,?_,?_,?_⟩
   ·rw [MK];exact RvL.append r1 s1
   ·rw [MK];intro v hv;rcases List.mem_append.1 hv with hv | hv
    ·exact r2 v hv
    ·exact s2 v hv
   ·simp only [List.map_cons,TypFs];exact ⟨ds0,ds1,rfl,r3,s3⟩
   ·rw [eU];simp only [List.map_cons,bkS];omega
theorem C4 {n e:Nat} (ih:∀ t cs x,t∈S->DataW.trod enc P w 0 sp held n t cs=some x->Rd enc P w bk n t cs x.1) (he:e∈S) (a:Addr) :
  ∀ (xs:List (DataW H × List MemPlace)) (i0:Nat),(∀ i,i < xs.length->(w.cells? 0 (a.add ((i0 + i) * P.cellsOf e)) (P.cellsOf e)).bind (DataW.trod enc P w 0 sp held n e)=xs[i]?) ->
   ∃ es,es.length=xs.length/\RvEs (B1 w) (P.cellsOf e) a.block (a.off + i0 * P.cellsOf e) es/\(∀ cs∈es,Typ P n e cs)/\wgEs es<=64 * bkS bk (xs.map (·.1))
 | [],i0,hx=>⟨[],rfl,by simp only [RvEs],by simp,by simp [wgEs]⟩
 | x :: xs,i0,hx=>by
  have h0:=hx 0 (by simp);simp only [Nat.add_zero,List.getElem?_cons_zero] at h0;obtain ⟨cs,cx,ht⟩:=Option.bind_eq_some_iff.1 h0;obtain ⟨_,hlen,j2⟩:=World.cells?_some cx;obtain ⟨ds0,r1,r2,r3,r4,r5⟩:=ih e cs x he ht
  obtain ⟨es,s1,s2,s3,s4⟩:=C4 ih he a xs (i0 + 1) (fun i hi=>by
   have:=hx (i + 1) (sU hi);simp only [List.getElem?_cons_succ] at this;rw [show i0 + 1 + i=i0 + (i + 1) by omega]
   exact this)
  refine ⟨ds0 :: es,by simp [s1],?_,?_,?_⟩
  ·simp only [RvEs];refine ⟨by rw [<- r1.length,hlen],vy (E:=B1 w) r1 fun j v hj=>⟨?_,r2 v (mG hj)⟩,?_⟩
   ·have n8:j < P.cellsOf e:=by rw [<- hlen];exact (gS hj).1
    have h1:=j2 j n8;rw [hj,Deep.add_add] at h1;have h2:=J1 h1;show w.cell? _=_;rw [Nat.add_assoc];exact h2
   ·rw [Nat.add_assoc,show i0 * P.cellsOf e + P.cellsOf e=(i0 + 1) * P.cellsOf e by rw [Nat.add_mul,Nat.one_mul]];exact s2
  ·intro cs' hc;rcases dg hc with hc | hc
   ·subst hc;exact r3
   ·exact s3 cs' hc
  ·simp only [wgEs,List.map_cons,bkS];omega
theorem lO (mr:Bk bk) (hS:∀ t∈S,lN P S t=true):∀ (n:Nat) (t:TypeId) (cs:List Value) (x:DataW H × List MemPlace),t∈S->DataW.trod enc P w 0 sp held n t cs=some x->Rd enc P w bk n t cs x.1
 | 0,t,cs,x,_,h=>by simp [DataW.trod] at h
 | n + 1,t,cs,x,ht,h=>by
  have hf:=hS t ht;unfold lN at hf;unfold Rd
  cases hu:P.underlying t with
  | none=>rw [hu] at hf;cases hf
  | some D=>
   rw [hu] at hf
   cases D with
   | bool=>
    simp only [decide_eq_true_eq] at hf;obtain ⟨b,rfl,rfl⟩:=DataW.trod_bool hu h;have:=mr.lit (.bool b);exact ⟨[.v (.bool b)],rvL_one (by unfold Rv;exact ⟨rfl,rfl⟩),by simp [Value.oneCell'],by simp only [Typ,hu];exact ⟨b,rfl⟩,by simp only [wgL,wgD];omega,by simp [hf]⟩
   | int k=>
    simp only [decide_eq_true_eq] at hf;obtain ⟨z,rfl,rfl,hw⟩:=DataW.trod_int hu h;have:=mr.lit (.int k z);exact ⟨[.v (.int k z)],rvL_one (by unfold Rv;exact ⟨rfl,rfl⟩),by simp [Value.oneCell'],by simp only [Typ,hu];exact ⟨z,rfl,hw⟩,by simp only [wgL,wgD];omega,by simp [hf]⟩
   | string=>
    simp only [decide_eq_true_eq] at hf;obtain ⟨s,rfl,rfl,hw⟩:=DataW.trod_string hu h;have:=mr.str s.data.toList;have bM:s.data.toList.length=s.size:=by rw [Array.length_toList];all_goals rfl
    exact ⟨[.v (.string s)],rvL_one (by unfold Rv;exact ⟨rfl,rfl⟩),by simp [Value.oneCell'],by simp only [Typ,hu];exact ⟨s,rfl⟩,by simp only [wgL,wgD];omega,by simp [hf]⟩
   | slice e=>
    simp only [aO,decide_eq_true_eq] at hf;obtain ⟨⟨J3,yE⟩,hf3⟩:=hf;rcases DataW.trod_slice hu h with ⟨rfl,rfl⟩ | ⟨a,len,cap,elems,rest,m,hm,rfl,rfl,_,Vp,_,mn,hx,_,_⟩
    ·have:=mr.nil;refine ⟨[.sl (P.cellsOf e) [] none],rvL_one ?_,by simp [Value.oneCell'],by simp only [Typ,hu];exact ⟨[],rfl,by simp⟩,by simp only [wgL,wgD,wgEs];omega,by simp [J3]⟩;unfold Rv;exact ⟨none,0,0,rfl,⟨rfl,aJ _⟩,fun hc=>absurd rfl hc,fun k hk=>by cases hk⟩
    ·simp only [Nat.add_right_cancel_iff] at hm;subst hm;obtain ⟨es,s1,s2,s3,s4⟩:=C4 (fun t cs x=>lO mr hS n t cs x) (sU yE) a elems 0 (fun i hi=>by simpa using hx i (by omega));have hb:=mr.slice (elems.map (·.1)) (rest.map (·.1));refine ⟨[.sl (P.cellsOf e) es none],rvL_one ?_,by simp [Value.oneCell'],by simp only [Typ,hu];exact ⟨es,rfl,s3⟩,by simp only [wgL,wgD];omega,by simp [J3]⟩;unfold Rv;refine ⟨some a,len,cap,rfl,⟨by omega,Vp⟩,fun aT=>⟨?_,?_⟩,fun k hk=>by cases hk⟩
     ·have kk:0 < len:=by
       rw [<- mn,<- s1];exact List.length_pos_iff.2 aT
      have h0:=hx 0 kk;rw [gE (by omega)] at h0;obtain ⟨cs,cx,_⟩:=Option.bind_eq_some_iff.1 h0;obtain ⟨_,hlen,j2⟩:=World.cells?_some cx;have h1:=j2 0 hf3;rw [gE (by omega),Deep.add_add] at h1;simp only [Nat.zero_mul,Nat.add_zero] at h1;exact J2 (a:=a) h1
     ·have s2':RvEs (B1 w) (P.cellsOf e) a.block a.off es:=sU s2;exact s2'
   | struct fs=>
    obtain ⟨xs,m,hm,rfl,hlen,uP,hx⟩:=DataW.trod_struct hu h;simp only [Nat.add_right_cancel_iff] at hm;subst hm;simp only at hf;obtain ⟨ds,s1,s2,s3,s4⟩:=za (fun t cs x=>lO mr hS n t cs x) cs fs.toList 0 xs (by rw [hlen];exact hf) (sU uP) (fun i f hi=>hx i f (sU hi));have hb:=mr.agg (xs.map (·.1));refine ⟨ds,by simpa using s1,by simpa using s2,by simp only [Typ,hu];exact s3,by simp only;omega,hlen⟩
   | _=>cases hf
end
theorem Ir {P:Program} {n:Nat} {t:TypeId} {k:IntKind} {ds:List DV} (hu:P.underlying t=some (.int k)) (h:Typ P n t ds):∃ z,ds=[.v (.int k z)]/\(Lit.int k z).wf=true:=by
 cases n with
 | zero=>exact h.elim
 | succ n=>simp only [Typ,hu] at h;exact h
theorem ML {P:Program} {n:Nat} {t:TypeId} {ds:List DV} (hu:P.underlying t=some .bool) (h:Typ P n t ds):∃ b,ds=[.v (.bool b)]:=by
 cases n with
 | zero=>exact h.elim
 | succ n=>simp only [Typ,hu] at h;exact h
theorem Is {P:Program} {n:Nat} {t:TypeId} {ds:List DV} (hu:P.underlying t=some .string) (h:Typ P n t ds):∃ s:ByteArray,ds=[.v (.string s)]:=by
 cases n with
 | zero=>exact h.elim
 | succ n=>simp only [Typ,hu] at h;exact h
theorem rA {P:Program} {n:Nat} {t e:TypeId} {ds:List DV} (hu:P.underlying t=some (.slice e)) (h:Typ P n t ds):∃ m es,n=m + 1/\ds=[.sl (P.cellsOf e) es none]/\∀ cs∈es,Typ P m e cs:=by
 cases n with
 | zero=>exact h.elim
 | succ n=>
  simp only [Typ,hu] at h;obtain ⟨es,h1,h2⟩:=h;exact ⟨n,es,rfl,h1,h2⟩
theorem mW {P:Program} {n:Nat} {t:TypeId} {fs:Array Field} {ds:List DV} (hu:P.underlying t=some (.struct fs)) (h:Typ P n t ds):∃ m,n=m + 1/\TypFs (Typ P m) (fs.toList.map (·.type)) ds:=by
 cases n with
 | zero=>exact h.elim
 | succ n=>
  simp only [Typ,hu] at h;exact ⟨n,rfl,h⟩
theorem wf_i64 {z:Int} (h:(Lit.int .i64 z).wf=true) : -9223372036854775808<=z/\z<=9223372036854775807:=by
 simpa [Lit.wf,IntKind.min,IntKind.max,IntKind.signed,IntKind.bits] using h
end Dv
end Go.Proofs.YtgjagnmeonoehaaGreat
set_option maxRecDepth 100000
namespace Go.Proofs.YtgjagnmeonoehaaGreat
open Go Go.RowKit Dv Go.Proofs.Tryz
theorem FN:prog.cellsOf 27=2:=by kernel_rfl
theorem FO:prog.cellsOf 109=18:=by kernel_rfl
theorem rB {n:Nat} {ds:List DV} (h:Typ prog n 27 ds):∃ w:Wd,ds=jA w/\w.wt<=wgL ds:=by
 obtain ⟨m,_,hf⟩:=mW Tryz.underlying27 h;obtain ⟨a,b,rfl,h1,c,d,rfl,h2,rfl⟩:=hf;obtain ⟨s,rfl⟩:=Is Tryz.underlying9 h1;obtain ⟨z,rfl,_⟩:=Ir Tryz.underlying3 h2;exact ⟨⟨s,z⟩,rfl,by simp [wgL,wgD,Wd.wt]⟩
theorem MM:∀ {m:Nat} {es:List (List DV)},(∀ cs∈es,Typ prog m 27 cs)->∃ l:List Wd,es=bq l/\wdsWt l<=wgEs es
 | m,[],h=>⟨[],rfl,by simp [wdsWt,wgEs]⟩
 | m,cs :: r,h=>by
  obtain ⟨w,rfl,hw⟩:=rB (h cs (by simp));obtain ⟨l,rfl,hl⟩:=MM (m:=m) (es:=r) (fun c hc=>h c (ir _ hc));exact ⟨w :: l,rfl,by simp only [wdsWt,wgEs];omega⟩
theorem uc {n:Nat} {ds:List DV} (h:Typ prog n 22 ds):∃ l:List Wd,ds=[.sl 2 (bq l) none]/\64 + wdsWt l<=wgL ds:=by
 obtain ⟨m,es,_,rfl,he⟩:=rA Tryz.underlying22 h;obtain ⟨l,rfl,hl⟩:=MM he;rw [FN];exact ⟨l,rfl,by simp only [wgL,wgD];omega⟩
theorem j6 {n:Nat} {ds:List DV} (h:Typ prog n 3 ds):∃ z,ds=[.v (.int .i64 z)]/\od z:=by
 obtain ⟨z,rfl,hw⟩:=Ir Tryz.underlying3 h;exact ⟨z,rfl,wf_i64 hw⟩
theorem MN {m:Nat} (ih:∀ k,k < m->∀ ds,Typ prog k 29 ds->∃ t:Ty,ds=dG t/\rngT t/\t.wt<=wgL ds) :
  ∀ {es:List (List DV)},(∀ cs∈es,Typ prog m 109 cs)->∃ ps:Pts,es=fm ps/\rngP ps/\ps.wt<=wgEs es
 | [],h=>⟨.nil,by simp [fm],by simp [rngP],by simp [Pts.wt]⟩
 | cs :: r,h=>by
  obtain ⟨ps,rfl,hr,hl⟩:=MN ih (es:=r) (fun c hc=>h c (ir _ hc));obtain ⟨k,rfl,hf⟩:=mW Tryz.underlying109 (h cs (by simp));obtain ⟨a1,b1,rfl,h1,a2,b2,rfl,h2,a3,b3,rfl,h3,a4,b4,rfl,h4,a5,b5,rfl,h5,a6,b6,rfl,h6,rfl⟩:=hf;obtain ⟨nm,rfl,w1⟩:=rB h1;obtain ⟨bare,rfl⟩:=ML Tryz.underlying4 h2;obtain ⟨lab,rfl,w3⟩:=uc h3;obtain ⟨wide,rfl,r4⟩:=j6 h4;obtain ⟨k5,_,hf5⟩:=mW Tryz.underlying107 h5;obtain ⟨c1,d1,rfl,g1,c2,d2,rfl,g2,c3,d3,rfl,g3,c4,d4,rfl,g4,rfl⟩:=hf5;obtain ⟨ck,rfl,_⟩:=j6 g1;obtain ⟨cn,rfl,q2⟩:=j6 g2;obtain ⟨ca,rfl,_⟩:=j6 g3;obtain ⟨cl,rfl,w5⟩:=uc g4;obtain ⟨t,rfl,rt,wt⟩:=ih k (by omega) _ h6;refine ⟨.cons ⟨nm,bare,lab,wide,ck,cn,ca,cl⟩ t ps,?_,by simp only [rngP];exact ⟨r4,q2,rt,hr⟩,?_⟩
  ·grind [fm,Fz,jA]
  ·grind [Pts.wt,Ph.wt,wgEs,eU,wgL,wgD,jA,Wd.wt]
theorem MO:∀ (n:Nat) (ds:List DV),Typ prog n 29 ds->∃ t:Ty,ds=dG t/\rngT t/\t.wt<=wgL ds:=by
 intro n
 induction n using Nat.strongRecOn with
 | _ n ih=>
  intro ds h;obtain ⟨m,rfl,hf⟩:=mW Tryz.underlying29 h;obtain ⟨a1,b1,rfl,h1,a2,b2,rfl,h2,a3,b3,rfl,h3,a4,b4,rfl,h4,a5,b5,rfl,h5,a6,b6,rfl,h6,a7,b7,rfl,h7,a8,b8,rfl,h8,rfl⟩:=hf;obtain ⟨ag,rfl,_⟩:=j6 h1;obtain ⟨at',rfl,_⟩:=j6 h2;obtain ⟨lo,rfl,r3⟩:=j6 h3;obtain ⟨hi,rfl,r4⟩:=j6 h4;obtain ⟨most,rfl,r5⟩:=j6 h5;obtain ⟨af,rfl,w6⟩:=uc h6;obtain ⟨k,es,rfl,rfl,iR⟩:=rA Tryz.underlying25 h7;obtain ⟨ps,rfl,rp,wp⟩:=MN (fun j hj=>ih j (by omega)) iR;obtain ⟨nm,rfl,w8⟩:=rB h8;rw [FO];refine ⟨.mk ⟨ag,at',lo,hi,most,af,nm⟩ ps,?_,by simp only [rngT];exact ⟨r3,r4,r5,rp⟩,?_⟩
  ·grind [dG,jA]
  ·grind [Ty.wt,Hd.wt,eU,wgL,wgD,jA,Wd.wt]
end Go.Proofs.YtgjagnmeonoehaaGreat
namespace Go.Proofs.YtgjagnmeonoehaaGreat
namespace Dv
open Go Go.RowKit Go.ChangeShapes Go.WideShapes Go.ChangeAt
open Go.ChangeMaps (open_string shut_string)
section
variable {H:Type} {enc:TypeId × Value->H} {P:Program}
theorem ov (hl:laidOutB P=true) {W W':World} (hb:Below W.heap.size W W'):∀ {ts:List TypeId} {vs:List Value} {ds:List (DataW H)} {ps:List MemPlace},(∀ t∈ts,P.readableRec t=true/\t < P.types.size) ->
  DataW.TrodAll enc P W 0 (fun _=>true) true ts vs ds ps->(∀ x∈ps,x.block < W.heap.size)->DataW.TrodAll enc P W' 0 (fun b=>decide (b < W.heap.size)) true ts vs ds ps
 | [],[],[],_,_,h,_=>h
 | t :: ts,v :: vs,d :: ds,_,ht,⟨p,q,h1,h2,e⟩,al=>by
  subst e;obtain ⟨r1,r2⟩:=ht t (by simp);exact ⟨p,q,Below.trod hl r1 r2 h1 hb (fun x hx=>al x (List.mem_append_left _ hx)),ov hl hb (fun t tF=>ht t (by simp [tF])) h2 (fun x hx=>al x (List.mem_append_right _ hx)),rfl⟩
theorem law_post {f:Func} {s:ChangeSpec} {tb:TypeId} (hl:laidOutB P=true) (LJ:f.resultTypes = #[tb]) (htb:P.underlying tb=some .bool) (hv:s.vars=[]) (hts:∀ t∈f.params.toList,P.readableRec t=true/\t < P.types.size)
  {W W':World} {args:Array Value} {ds gs:List (DataW H)} {before:List MemPlace} (hW:DataW.Whole enc P f.params.toList s.vars false W args.toList ds gs before) (B0:s.fn H ds={ results:=[.lit (.bool true)],args:=ds }) (hb:Below W.heap.size W W') :
  s.post enc P f false true false false W args (.bool true) W':=by
 have hW':=hW;obtain ⟨p,q,hA,hV,rfl,hfz,hnd⟩:=hW;rw [hv] at hV;obtain ⟨rfl,rfl⟩:=trodVars_none hV;refine ⟨ds,[],p ++ [],[],p,[],hW',?_,?_,?_,hb.frame _,fun h=>by cases h⟩
 ·rw [List.append_nil,B0,LJ];exact trodAll_cons_mk (shut_bool htb _) trodAll_mk0
 ·rw [List.append_nil,B0];exact ov hl hb hts hA (fun x hx=>hW'.lt x (List.mem_append_left _ hx))
 ·rw [List.append_nil,B0,hv];rfl
theorem FP {w w':World} {Φ:DV->List (List DV)->List TkE->Prop} {v:Value} (h:B8 false (B1 w) w Φ v w'):Below w.heap.size w w':=by
 obtain ⟨hm,_⟩:=h;refine ⟨hm.os,hm.tape,hm.output,hm.size,fun k hk=>hm.block k hk ?_⟩;rintro (h1 | ⟨y,h1,_⟩)
 ·simp [B1] at h1
 ·simp [B1] at h1
theorem calls_law {f:FuncId} {args:List DV} {vs:List Value} {w:World} (h:EvP P f args (.v (.bool true))) (hv:RvL (B1 w) args vs) :
  Calls P f vs.toArray w fun e w'=>e = .returned (.bool true)/\Below w.heap.size w w':=by
 refine (h (B1 w) w vs (PS w) rfl hv).mono ?_;rintro e w' ⟨v,rfl,he⟩;have hb:=FP he;obtain ⟨_,_,d,os,E,_,_,_,_,hr,rfl⟩:=he;unfold Rv at hr;rw [hr.1];exact ⟨rfl,hb⟩
variable {W:World} {base:Nat} {S:List TypeId} {bk:DataW H->Nat}
theorem arg_st (mr:Bk bk) (hS:∀ t∈S,lN P S t=true) {t:TypeId} {fs:Array Field} {v:Value} {d:DataW H} {ps:List MemPlace} (ht:t∈S) (hu:P.underlying t=some (.struct fs))
  (hval:Value.okWide P W .any base t v) (h:DataW.Trod enc P W 0 (fun _=>true) true t v d ps):∃ n ds,Rv (B1 W) (.agg ds) v/\Typ P n t ds/\wgL ds<=64 * bk d:=by
 unfold Value.okWide at hval;rw [hu] at hval;obtain ⟨cs,rfl,_,_⟩:=hval;obtain ⟨n,hn⟩:=h;obtain ⟨ds,h1,h2,h3,h4,_⟩:=lO mr hS n t _ _ ht hn;refine ⟨n,ds,?_,h3,h4⟩;unfold Rv;exact ⟨cs.toList,by simp,h1,h2⟩
end
end Dv
end Go.Proofs.YtgjagnmeonoehaaGreat
namespace Go.Proofs.YtgjagnmeonoehaaGreat
open Go Go.RowKit Dv
theorem FQ {H:Type}:∀ l:List (DataW H),bkS Rows.uptoBulk l=Rows.uptoBulkAll l
 | []=>by simp [bkS,Rows.uptoBulkAll]
 | d :: r=>by simp only [bkS,Rows.uptoBulkAll,FQ r]
theorem bk_ok {H:Type}:Bk (Rows.uptoBulk (H:=H)) where
 str:=fun l=>by simp [Rows.uptoBulk]
 lit:=fun l=>by cases l<;>simp [Rows.uptoBulk]
 nil:=by simp [Rows.uptoBulk]
 slice:=fun es sp=>by simp only [Rows.uptoBulk,FQ];omega
 agg:=fun l=>by simp only [Rows.uptoBulk,FQ];omega
theorem bulk_le {H:Type} {l:List (DataW H)} (hk:Rows.uptoSmall H l=true):Rows.uptoBulkAll l<=1048576:=of_decide_eq_true hk
theorem laid_out:laidOutB Tryz.prog=true:=by kernel_rfl
theorem own_knob:ownKnob Tryz.prog.godebug=none:=by kernel_rfl
def tyS:List TypeId:=[29,22,27,9,3,25,109,4,107]
end Go.Proofs.YtgjagnmeonoehaaGreat
set_option maxRecDepth 100000
namespace Go.Proofs.YtgjagnmeonoehaaGreat
open Go Go.RowKit Dv Go.Proofs.Tryz
def Pts.take:Nat->Pts->Pts
 | 0,_=>.nil
 | _ + 1,.nil=>.nil
 | e + 1,.cons p t r=>.cons p t (r.take e)
structure Sch where
 ae:List Wd
 order:List (Wd × Wd)
 types:List (Wd × Ty)
 root:Ty
def Lj (p:Wd × Wd):List DV:=[.v (.string p.1.s),.v (.int .i64 p.1.a),.v (.string p.2.s),.v (.int .i64 p.2.a)]
def mv (l:List (Wd × Wd)):List (List DV):=l.map Lj
def dNm (x:Wd × Ty):List DV:=.v (.string x.1.s) :: .v (.int .i64 x.1.a) :: dG x.2
def dNms (l:List (Wd × Ty)):List (List DV):=l.map dNm
def eu (s:Sch):List DV:=.sl 2 (bq s.ae) none :: .sl 4 (mv s.order) none :: .sl 11 (dNms s.types) none :: dG s.root
def prsWt:List (Wd × Wd)->Nat
 | []=>0
 | p :: r=>p.1.wt + p.2.wt + prsWt r
def nmsWt:List (Wd × Ty)->Nat
 | []=>0
 | p :: r=>p.1.wt + p.2.wt + nmsWt r
def Sch.wt (s:Sch):Nat:=wdsWt s.ae + prsWt s.order + nmsWt s.types + s.root.wt
theorem fv (l:List (Wd × Wd)):(mv l).length=l.length:=by simp [mv]
theorem dz (l:List (Wd × Ty)):(dNms l).length=l.length:=by simp [dNms]
theorem gw {l:List (Wd × Wd)} {j:Nat} {p:Wd × Wd} (h:l[j]? = some p):(mv l)[j]? = some (Lj p):=by simp [mv,h]
theorem dNms_get {l:List (Wd × Ty)} {j:Nat} {p:Wd × Ty} (h:l[j]? = some p):(dNms l)[j]? = some (dNm p):=by simp [dNms,h]
theorem ib:∀ l:List (Wd × Wd),128 * l.length<=prsWt l
 | []=>aJ _
 | p :: r=>by have:=ib r;simp only [List.length_cons,prsWt,Wd.wt];omega
theorem jf:∀ l:List (Wd × Ty),256 * l.length<=nmsWt l
 | []=>aJ _
 | p :: r=>by have:=jf r;have:=p.2.cT;simp only [List.length_cons,nmsWt,Wd.wt];omega
theorem fZ:∀ {l:List (Wd × Ty)} {p:Wd × Ty},p∈l->p.1.wt + p.2.wt<=nmsWt l
 | x :: r,p,h=>by
  rcases dg h with h | h
  ·subst h;simp only [nmsWt];omega
  ·have:=fZ h;simp only [nmsWt];omega
def PT (s:Sch):Prop:=(∀ x∈s.types,rngT x.2)/\rngT s.root
theorem FR:prog.cellsOf 171=4:=by kernel_rfl
theorem C5:prog.cellsOf 124=11:=by kernel_rfl
theorem T6 {n:Nat} {ds:List DV} (h:Typ prog n 171 ds):∃ p:Wd × Wd,ds=Lj p/\p.1.wt + p.2.wt<=wgL ds:=by
 obtain ⟨m,_,hf⟩:=mW Tryz.underlying171 h;obtain ⟨a,b,rfl,h1,c,d,rfl,h2,rfl⟩:=hf;obtain ⟨x,rfl,w1⟩:=rB h1;obtain ⟨y,rfl,w2⟩:=rB h2;exact ⟨(x,y),rfl,by simp only [eU,wgL];omega⟩
theorem T7 {n:Nat} {ds:List DV} (h:Typ prog n 124 ds):∃ p:Wd × Ty,ds=dNm p/\rngT p.2/\p.1.wt + p.2.wt<=wgL ds:=by
 obtain ⟨m,_,hf⟩:=mW Tryz.underlying124 h;obtain ⟨a,b,rfl,h1,c,d,rfl,h2,rfl⟩:=hf;obtain ⟨x,rfl,w1⟩:=rB h1;obtain ⟨y,rfl,r2,w2⟩:=MO _ _ h2;exact ⟨(x,y),by simp [dNm,jA],r2,by simp only [eU,wgL];omega⟩
theorem MP:∀ {m:Nat} {es:List (List DV)},(∀ cs∈es,Typ prog m 171 cs)->∃ l:List (Wd × Wd),es=mv l/\prsWt l<=wgEs es
 | m,[],h=>⟨[],rfl,by simp [prsWt,wgEs]⟩
 | m,cs :: r,h=>by
  obtain ⟨w,rfl,hw⟩:=T6 (h cs (by simp));obtain ⟨l,rfl,hl⟩:=MP (m:=m) (es:=r) (fun c hc=>h c (ir _ hc));exact ⟨w :: l,rfl,by simp only [prsWt,wgEs];omega⟩
theorem MQ:∀ {m:Nat} {es:List (List DV)},(∀ cs∈es,Typ prog m 124 cs)->∃ l:List (Wd × Ty),es=dNms l/\(∀ x∈l,rngT x.2)/\nmsWt l<=wgEs es
 | m,[],h=>⟨[],rfl,by simp,by simp [nmsWt,wgEs]⟩
 | m,cs :: r,h=>by
  obtain ⟨w,rfl,hr,hw⟩:=T7 (h cs (by simp));obtain ⟨l,rfl,hlr,hl⟩:=MQ (m:=m) (es:=r) (fun c hc=>h c (ir _ hc));refine ⟨w :: l,rfl,fun x hx=>?_,by simp only [nmsWt,wgEs];omega⟩;rcases dg hx with rfl | hx
  ·exact hr
  ·exact hlr x hx
theorem typ_sch {n:Nat} {ds:List DV} (h:Typ prog n 31 ds):∃ s:Sch,ds=eu s/\PT s/\s.wt<=wgL ds:=by
 obtain ⟨m,_,hf⟩:=mW Tryz.underlying31 h;obtain ⟨a1,b1,rfl,h1,a2,b2,rfl,h2,a3,b3,rfl,h3,a4,b4,rfl,h4,rfl⟩:=hf;obtain ⟨l1,rfl,w1⟩:=uc h1;obtain ⟨m2,es2,_,rfl,he2⟩:=rA Tryz.underlying23 h2;obtain ⟨l2,rfl,w2⟩:=MP he2;obtain ⟨m3,es3,_,rfl,he3⟩:=rA Tryz.underlying24 h3;obtain ⟨l3,rfl,r3,w3⟩:=MQ he3;obtain ⟨t,rfl,r4,w4⟩:=MO _ _ h4;rw [FR,C5];refine ⟨⟨l1,l2,l3,t⟩,by simp [eu],⟨r3,r4⟩,?_⟩;simp only [Sch.wt,eU,wgL,wgD] at *;omega
end Go.Proofs.YtgjagnmeonoehaaGreat
namespace Go.Proofs.YtgjagnmeonoehaaGreat
open Go Go.RowKit Dv
def tySS:List TypeId:=31 :: 23 :: 171 :: 24 :: 124 :: tyS
theorem tySS_ok:∀ t∈tySS,lN Tryz.prog tySS t=true:=by
 have h:(tySS.all fun t=>lN Tryz.prog tySS t)=true:=by kernel_rfl
 exact fun t ht=>List.all_eq_true.1 h t ht
set_option maxRecDepth 100000
noncomputable abbrev PP:Program:=Tryz.pinned.checked.prog
def dft:OpenClaim:={ program := "",sum := "",func := "",spec := "" }
theorem and_ok {a b:Bool} (ha:a=true) (hb:b=true):(a && b)=true:=by rw [ha,hb];all_goals rfl
theorem g_laid:laidOutB PP=true:=laid_out
theorem g_maps:mapsRowed PP=true:=by kernel_rfl
theorem g_stops:(PP.stops == [])=true:=by kernel_rfl
theorem g_knobs:(PP.stopKnobs == [])=true:=by kernel_rfl
theorem g_heard:PP.stopsHeard=true:=by kernel_rfl
theorem g_enter:PP.mayEnter=true:=by kernel_rfl
theorem g_lifts:(dft.lifted == PP.liftsFinal)=true:=by kernel_rfl
theorem g_keys:(true == PP.plainKeys)=true:=by kernel_rfl
theorem g_make:(PP.make == some dft.make)=true:=by kernel_rfl
end Go.Proofs.YtgjagnmeonoehaaGreat
set_option maxRecDepth 100000
namespace Go.Proofs.YtgjagnmeonoehaaGreat
open Go Go.RowKit Dv Go.Proofs.Tryz
theorem C6 (x b:Nat):(x:Int).fdiv (2 ^ b)=((x / 2 ^ b:Nat):Int):=by grind
theorem ic (m:Nat):BitVec.ofInt 64 (m:Int)=BitVec.ofNat 64 m:=by simp
theorem Iu {x b:Nat} (hb:b < 64) (hx:x < 18446744073709551616) :
  decide (IntKind.u64.wrap ((BitVec.ofInt 64 ((x:Int).fdiv (2 ^ (min b 64))) &&& BitVec.ofInt 64 1).toNat:Int)=1)=x.testBit b:=by
 rw [Nat.min_eq_left (by omega),C6,ic,show (BitVec.ofInt 64 1)=BitVec.ofNat 64 1 by decide,BitVec.toNat_and,BitVec.toNat_ofNat,BitVec.toNat_ofNat,Nat.testBit_eq_decide_div_mod_eq];have h1:x / 2 ^ b < 18446744073709551616:=Nat.lt_of_le_of_lt (Nat.div_le_self _ _) hx;rw [Nat.mod_eq_of_lt h1,show (1 % 2 ^ 64:Nat)=1 by decide,Nat.and_one_is_mod];simp only [IntKind.wrap_u64];congr 1;apply propext;omega
theorem FT {x b:Nat} (hb:b < 64) (hx:x < 18446744073709551616) :
  IntKind.u64.wrap ((BitVec.ofInt 64 (x:Int) ||| BitVec.ofInt 64 (IntKind.u64.wrap (1 * 2 ^ (min b 64)))).toNat:Int)=((x ||| 2 ^ b:Nat):Int):=by
 have h2:2 ^ b < 18446744073709551616:=by
  have:2 ^ b<=2 ^ 63:=Nat.pow_le_pow_right (by decide) (by omega);omega
 have e1:IntKind.u64.wrap (1 * 2 ^ (min b 64))=((2 ^ b:Nat):Int):=by
  rw [Nat.min_eq_left (by omega),Int.one_mul];have:((2:Int) ^ b)=((2 ^ b:Nat):Int):=by simp
  rw [this];generalize 2 ^ b=z at h2;simp only [IntKind.wrap_u64];omega
 rw [e1,ic,ic,BitVec.toNat_or,BitVec.toNat_ofNat,BitVec.toNat_ofNat,Nat.mod_eq_of_lt hx,Nat.mod_eq_of_lt h2];have h3:x ||| 2 ^ b < 18446744073709551616:=Nat.or_lt_two_pow (n:=64) hx h2
 simp only [IntKind.wrap_u64];omega
theorem PU {x y:Nat} (hx:x < 18446744073709551616) (hy:y < 18446744073709551616) :
  IntKind.u64.wrap ((BitVec.ofInt 64 (x:Int) ||| BitVec.ofInt 64 (y:Int)).toNat:Int)=((x ||| y:Nat):Int):=by
 rw [ic,ic,BitVec.toNat_or,BitVec.toNat_ofNat,BitVec.toNat_ofNat,Nat.mod_eq_of_lt hx,Nat.mod_eq_of_lt hy];have h3:x ||| y < 18446744073709551616:=Nat.or_lt_two_pow (n:=64) hx hy
 simp only [IntKind.wrap_u64];omega
theorem jD (x a b:Nat):(x ||| 2 ^ b).testBit a=(x.testBit a || decide (b=a)):=by
 rw [Nat.testBit_or,Nat.testBit_two_pow]
def dU (rows:List Nat):List (List DV):=rows.map fun (x:Nat)=>[DV.v (.int .u64 (x:Int))]
theorem ku (rows:List Nat):(dU rows).length=rows.length:=by simp [dU]
theorem T8 {rows:List Nat} {i:Nat} {x:Nat} (h:rows[i]? = some x):(dU rows)[i]? = some [DV.v (.int .u64 (x:Int))]:=by simp [dU,h]
abbrev mw (rows:List Nat):DV:=.pt [.sl 1 (dU rows) none] 0
def dL (rows:List Nat):Prop:=rows.length<=64/\∀ x∈rows,x < 18446744073709551616
def aN (rows:List Nat) (a b:Nat):Bool:=(rows.getD a 0).testBit b
def hasB (rows:List Nat) (a b:Int):Bool:=decide (0<=a) && decide (a < rows.length) && decide (0<=b) && decide (b < rows.length) && aN rows a.toNat b.toNat
theorem zb (rows:List Nat):EvP prog 190 [mw rows] (.v (.int .i64 rows.length)):=by
 refine eG 10 [.tmp 2] func190 rfl ntmps190 rfl fun _ _ _ _=>?_;refine (rb ?_:);rw [ku]
theorem kG (rows:List Nat) (hr:dL rows) (a b:Int):EvP prog 169 [mw rows,.v (.int .i64 a),.v (.int .i64 b)] (.v (.bool (hasB rows a b))):=by
 have hl:=zb rows;refine eG 38 [.tmp 6] func169 rfl ntmps169 rfl fun _ _ _ _=>?_;refine br ?_ ?_<;>intro g1
 ·have g1:0<=a:=sU g1;refine cP Mb hl ?_;refine br ?_ ?_<;>intro g2
  ·obtain ⟨g2,g3⟩:a < rows.length/\0<=b:=by grind [pickB]
   refine cP Mb hl ?_;refine br ?_ ?_<;>intro g4
   ·have g4:b < rows.length:=by simpa [pickB,g2,g3] using g4
    obtain ⟨x,hx⟩:∃ x,rows[a.toNat]? = some x:=⟨_,gE (by omega)⟩;have JL:=hr.2 x (mG hx);have hr1:=hr.1;refine ⟨_,⟨g1,T8 hx⟩,?_⟩;refine ⟨g3,?_⟩;refine (bH ?_:);have Ld:rows.getD a.toNat 0=x:=getD_some hx;have e1:hasB rows a b=x.testBit b.toNat:=by grind [hasB,aN]
    rw [e1];exact Iu (x:=x) (b:=b.toNat) (by omega) JL
   ·have g4:¬ b < rows.length:=by simpa [pickB,g2,g3] using g4
    refine (bH ?_:);simp [pickB,g2,g3,g4,hasB]
  ·have g5:¬ (a < rows.length/\0<=b):=by
    rintro ⟨h1,h2⟩;simp [pickB,h1,h2] at g2
   refine (bH ?_:);cases h:decide (a < (rows.length:Int))<;>simp [pickB,h,hasB] at g2 ⊢
   intro _ h0;omega
 ·have g1:¬ 0<=a:=sU g1;refine (bH ?_:);simp [g1,hasB]
def backN (rows:List Nat) (a:Nat):Nat->Nat
 | 0=>0
 | e + 1=>if aN rows a e && aN rows e a then backN rows a e ||| 2 ^ e else backN rows a e
theorem vz (rows:List Nat) (a:Nat):∀ e,backN rows a e < 2 ^ e
 | 0=>by simp [backN]
 | e + 1=>by
  have ih:=vz rows a e;have h2:2 ^ e < 2 ^ (e + 1):=Nat.pow_lt_pow_right (by decide) (by omega);simp only [backN];split
  ·exact Nat.or_lt_two_pow (by omega) h2
  ·omega
theorem rC (rows:List Nat) (a b:Nat):∀ e,(backN rows a e).testBit b=(decide (b < e) && (aN rows a b && aN rows b a))
 | 0=>by simp [backN]
 | e + 1=>by
  have ih:=rC rows a b e
  grind [backN,aN,jD]
abbrev T9 (rows:List Nat) (a e:Nat):St:=
 ⟨[(0,⟨[],mw rows⟩),ap 1 a,(5,⟨[],.v (.int .u64 (backN rows a e:Nat))⟩),ap 11 ((dU rows).length),ap 12 e],[],[]⟩
theorem pW {rows:List Nat} {a b:Nat} (ha:a < rows.length) (hb:b < rows.length):hasB rows a b=aN rows a b:=by
 simp [hasB,ha,hb]
theorem FU (rows:List Nat) (hr:dL rows) (a:Nat) (ha:a < rows.length):EvP prog 192 [mw rows,.v (.int .i64 a)] (.v (.int .u64 (backN rows a rows.length:Nat))):=by
 have hr1:=hr.1;refine eG 31 [.tmp 4] func192 rfl ntmps192 rfl fun _ _ _ _=>?_;refine lJ (fun e=>T9 rows a e) rows.length (wkM wB) ?_;intro e he;refine br ?_ ?_<;>intro hL
 ·have al:e < rows.length:=by have:=hL;simp [ku] at this;exact this
  have h1:=kG rows hr a e;have h2:=kG rows hr e a;rw [pW ha al] at h1;rw [pW al ha] at h2;have hbl:=vz rows a e
  have Ua:backN rows a e < 18446744073709551616:=by
   have:2 ^ e<=2 ^ 64:=Nat.pow_le_pow_right (by decide) (by omega);omega
  have Yr:=FT (x:=backN rows a e) (b:=e) (by omega) Ua;have hs:backN rows a (e + 1)=if aN rows a e && aN rows e a then backN rows a e ||| 2 ^ e else backN rows a e:=rfl
  refine cP CF h1 ?_;refine br ?_ ?_<;>intro g1
  ·have g1:aN rows a e=true:=sU g1;refine cP CF h2 ?_;refine br ?_ ?_<;>intro g2
   ·have g2:aN rows e a=true:=by simpa [pickB,g1] using g2
    rw [g1,g2] at hs;have hs:backN rows a (e + 1)=backN rows a e ||| 2 ^ e:=hs
    refine ⟨by omega,?_⟩;exact rE ⟨_,by omega,e + 1,rfl,by omega,rfl⟩ (wkM (by repeat' (first | exact trivial | exact we_rfl rfl | exact we_int (nxt al (by omega)) | exact we_int (Yr.trans (by rw [hs])) | refine ⟨⟨_,rfl,?_⟩,?_⟩)))
   ·have g2:aN rows e a=false:=by simpa [pickB,g1] using g2
    rw [g1,g2] at hs;have hs:backN rows a (e + 1)=backN rows a e:=hs;exact rE ⟨_,by omega,e + 1,rfl,by omega,rfl⟩ (wkM (by repeat' (first | exact trivial | exact we_rfl rfl | exact we_int (nxt al (by omega)) | exact we_int (by rw [hs]) | refine ⟨⟨_,rfl,?_⟩,?_⟩)))
  ·have g1:aN rows a e=false:=sU g1;rw [g1] at hs;have hs:backN rows a (e + 1)=backN rows a e:=hs;exact rE ⟨_,by omega,e + 1,rfl,by omega,rfl⟩ (wkM (by repeat' (first | exact trivial | exact we_rfl rfl | exact we_int (nxt al (by omega)) | exact we_int (by rw [hs]) | refine ⟨⟨_,rfl,?_⟩,?_⟩)))
 ·have aM:e=rows.length:=by have:=hL;simp [ku] at this;omega
  subst aM;exact (rfl:_=_)
def cU (rows:List Nat):List DV:=rows.map fun (x:Nat)=>DV.v (.int .u64 (x:Int))
theorem rD (rows:List Nat):(cU rows).length=rows.length:=by simp [cU]
theorem MR {rows:List Nat} {i x:Nat} (h:rows[i]? = some x):(cU rows)[i]? = some (DV.v (.int .u64 (x:Int))):=by simp [cU,h]
theorem MS (rows:List Nat) (i x:Nat):(cU rows).set i (DV.v (.int .u64 (x:Int)))=cU (rows.set i x):=by simp [cU,List.map_set]
theorem pX (rows:List Nat):(dU rows).flatten=cU rows:=by
 induction rows with
 | nil=>rfl
 | cons x r ih=>simp only [dU,cU,List.map_cons,List.flatten_cons] at ih ⊢;rw [ih];all_goals rfl
theorem Iv {n m:Nat} {tk:List TkE}:∀ l:List Nat,WeL n m tk (cU l) (cU l)
 | []=>rfl
 | b :: r=>⟨_,_,rfl,we_rfl rfl,Iv r⟩
theorem AN {n m:Nat} {tk:List TkE} {l:List DV} {ds:List Nat} (h:l=cU ds):WeL n m tk l (cU ds):=by rw [h];exact Iv ds
def dNP (p:Nat × Nat):List DV:=[.v (.int .i64 (p.1:Int)),.v (.int .i64 (p.2:Int))]
def lP (l:List (Nat × Nat)):List (List DV):=l.map dNP
theorem gx (l:List (Nat × Nat)):(lP l).length=l.length:=by simp [lP]
theorem vA {l:List (Nat × Nat)} {i:Nat} {p:Nat × Nat} (h:l[i]? = some p):(lP l)[i]? = some (dNP p):=by simp [lP,h]
def vB (rows:List Nat) (p:Nat × Nat):List Nat:=rows.set p.1 (rows.getD p.1 0 ||| 2 ^ p.2)
def eV (n:Nat) (l:List (Nat × Nat)):List Nat:=l.foldl vB (List.replicate n 0)
theorem J4 (n:Nat) (l:List (Nat × Nat)) (e:Nat) {p:Nat × Nat} (h:l[e]? = some p):eV n (l.take (e + 1))=vB (eV n (l.take e)) p:=by
 unfold eV;rw [List.take_add_one,h];simp
theorem pY (rows:List Nat) (p:Nat × Nat):(vB rows p).length=rows.length:=by simp [vB]
theorem jE (n:Nat):∀ (l:List (Nat × Nat)),(eV n l).length=n:=by
 intro l
 have:∀ (l:List (Nat × Nat)) (r:List Nat),(l.foldl vB r).length=r.length:=by
  intro l
  induction l with
  | nil=>intro r;rfl
  | cons p l ih=>intro r;rw [List.foldl_cons,ih,pY]
 rw [eV,this];simp
theorem PV {rows:List Nat} {p:Nat × Nat} (h:dL rows) (hp:p.1 < rows.length) (hq:p.2 < 64):dL (vB rows p):=by
 refine ⟨by rw [pY];exact h.1,fun x hx=>?_⟩;rcases List.mem_or_eq_of_mem_set hx with hx | rfl
 ·exact h.2 x hx
 ·refine Nat.or_lt_two_pow (n:=64) ?_ (Nat.pow_lt_pow_right (by decide) hq);rw [ek,gE hp];exact h.2 _ (List.getElem_mem hp)
theorem AO {n:Nat} (hn:n<=64):∀ (l:List (Nat × Nat)),(∀ p∈l,p.1 < n/\p.2 < n)->dL (eV n l):=by
 intro l hl
 have:∀ (l:List (Nat × Nat)) (r:List Nat),r.length=n->dL r->(∀ p∈l,p.1 < n/\p.2 < n)->dL (l.foldl vB r):=by
  intro l
  induction l with
  | nil=>intro r _ h _;exact h
  | cons p l ih=>grind [pY,PV]
 refine this l _ (by simp) ⟨by simp [hn],fun x hx=>?_⟩ hl;rw [List.mem_replicate] at hx;omega
abbrev MT (n:Nat) (l:List (Nat × Nat)) (rows:List Nat) (e:Nat):St:=
 ⟨[ap 0 n,aw 6 1,aU 19 2 (lP l),ap 20 ((lP l).length),ap 21 e],
  [cU rows,[.ms 0 1 0 n n]],[]⟩
theorem J5 (n:Nat) (hn:n<=64) (l:List (Nat × Nat)) (hl:∀ p∈l,p.1 < n/\p.2 < n) (hb:l.length<=1099511627776) :
  EvP prog 107 [.v (.int .i64 n),.sl 2 (lP l) none] (.tup [mw (eV n l),.v (.bool true)]):=by
 refine eG 60 [.tmp 4,.tmp 5] func107 rfl ntmps107 rfl fun _ _ _ _=>?_;refine br ?_ ?_<;>intro g
 ·exfalso;simp [ak] at g;omega
 refine ⟨⟨rfl,by omega,by omega,by omega⟩,?_⟩
 have h0:(List.replicate (n:Int).toNat [DV.v (.int .u64 0)]).flatten=cU (eV n (l.take 0)):=by
  simp [eV,cU]
 refine lJ (fun e=>MT n l (eV n (l.take e)) e) l.length (wkB 2 (by repeat' (first | exact rfl | exact we_rfl rfl | exact AN h0 | refine ⟨_,_,rfl,?_,?_⟩)) (by repeat' (first | exact trivial | exact we_rfl rfl | exact AN h0 | refine ⟨⟨_,rfl,?_⟩,?_⟩))) ?_;intro e he;refine br ?_ ?_<;>intro hL
 ·have al:e < l.length:=by have:=hL;simp [gx] at this;exact this
  obtain ⟨p,hp⟩:=gX al;obtain ⟨p1,p2⟩:=hl p (mG hp);refine iX (vA hp) ?_;refine ⟨⟨by decide,by decide⟩,?_⟩;refine ⟨⟨by decide,by decide⟩,?_⟩;refine br ?_ ?_<;>intro g
  ·refine ⟨⟨by decide,by decide⟩,?_⟩;refine ⟨⟨by decide,by decide⟩,?_⟩;refine br ?_ ?_<;>intro g2
   ·exfalso;simp [pickB] at g2;omega
   obtain ⟨x,hx⟩:∃ x,(eV n (l.take e))[p.1]? = some x:=⟨_,gE (by rw [jE];exact p1)⟩;have bu:=AO hn (l.take e) (fun q hq=>hl q (List.mem_of_mem_take hq));have JL:=bu.2 x (mG hx);have tG:0 + (p.1:Int).toNat * 1=p.1:=by omega
   refine dS ?_;refine ⟨⟨by decide,by decide⟩,?_⟩;refine ⟨⟨by omega,by omega⟩,?_⟩;refine ⟨_,(by rw [tG];exact MR hx:(cU (eV n (l.take e)))[0 + (p.1:Int).toNat * 1]? = some _),?_⟩;refine ⟨⟨by decide,by decide⟩,?_⟩;refine ⟨by omega,?_⟩;refine ⟨⟨by omega,by omega⟩,?_⟩;refine ⟨by rw [tG,rD,jE];omega,?_⟩
   have cx:(cU (eV n (l.take e))).set (0 + (p.1:Int).toNat * 1) (DV.v (.int .u64 (IntKind.u64.wrap ((BitVec.ofInt 64 (x:Int) ||| BitVec.ofInt 64 (IntKind.u64.wrap (1 * 2 ^ (min (p.2:Int).toNat 64)))).toNat:Int))))=cU (eV n (l.take (e + 1))):=by
    rw [tG,show ((p.2:Int).toNat)=p.2 by omega,FT (by omega) JL,MS,J4 n l e hp];simp only [vB];rw [getD_some hx]
   refine ⟨MT n l (eV n (l.take (e + 1))) (e + 1),(wkB 2 (by repeat' (first | exact rfl | exact we_rfl rfl | exact AN cx | exact we_int (nxt al (by omega)) | refine ⟨_,_,rfl,?_,?_⟩)) (by repeat' (first | exact trivial | exact we_rfl rfl | exact AN cx | exact we_int (nxt al (by omega)) | refine ⟨⟨_,rfl,?_⟩,?_⟩))),l.length - (e + 1),by omega,e + 1,rfl,by omega,rfl⟩
  ·exfalso;simp [pickB] at g;omega
 ·have aM:e=l.length:=by have:=hL;simp [gx] at this;omega
  subst aM;rw [List.take_length];refine ⟨_,?_,rfl⟩;have hlen:=jE n l;generalize eV n l=rows at hlen ⊢;refine ⟨_,rfl,_,_,rfl,.inr ⟨1,_,rfl,Nat.zero_le _,rfl,_,_,rfl,.inr (.inr (.inl ⟨0,0,n,cU rows,by rw [ku,hlen],Nat.zero_le _,rfl,?_,?_,?_⟩)),rfl⟩,_,_,rfl,rfl,rfl⟩
  ·grind [pX,ku,rD]
  ·grind [dU]
  ·grind [pX,cU]
def jF (rows:List Nat) (k:Nat):List Nat:=rows.set k (rows.getD k 0 ||| 2 ^ k)
def ow (k:Nat) (rows:List Nat) (a:Nat):List Nat:=if aN rows a k then rows.set a (rows.getD a 0 ||| rows.getD k 0) else rows
def gy (rows:List Nat) (k e:Nat):List Nat:=(List.range e).foldl (ow k) (jF rows k)
def closeR (rows:List Nat) (e:Nat):List Nat:=(List.range e).foldl (fun r k=>gy r k r.length) rows
theorem MU {rows:List Nat} {i x:Nat} (h:dL rows) (hx:x < 18446744073709551616):dL (rows.set i x):=by
 refine ⟨by rw [List.length_set];exact h.1,fun y hy=>?_⟩;rcases List.mem_or_eq_of_mem_set hy with hy | rfl
 ·exact h.2 y hy
 ·exact hx
theorem lQ {rows:List Nat} (h:dL rows) (i:Nat):rows.getD i 0 < 18446744073709551616:=by
 rw [ek]
 cases hx:rows[i]? with
 | none=>simp
 | some x=>exact h.2 x (mG hx)
theorem MV {rows:List Nat} {k:Nat} (h:dL rows) (hk:k < 64):dL (jF rows k):=
 MU h (Nat.or_lt_two_pow (n:=64) (lQ h k) (Nat.pow_lt_pow_right (by decide) hk))
theorem J6 (rows:List Nat) (k:Nat):(jF rows k).length=rows.length:=by simp [jF]
theorem MW {rows:List Nat} {k a:Nat} (h:dL rows):dL (ow k rows a):=by
 unfold ow;split
 ·exact MU h (Nat.or_lt_two_pow (n:=64) (lQ h a) (lQ h k))
 ·exact h
theorem J7 (rows:List Nat) (k a:Nat):(ow k rows a).length=rows.length:=by
 unfold ow;split<;>simp
theorem lR (rows:List Nat) (k e:Nat):gy rows k (e + 1)=ow k (gy rows k e) e:=by simp [gy,List.range_succ]
theorem nO (rows:List Nat) (k:Nat):∀ e,(gy rows k e).length=rows.length
 | 0=>by simp [gy,J6]
 | e + 1=>by rw [lR,J7,nO]
theorem vC {rows:List Nat} {k:Nat} (h:dL rows) (hk:k < 64):∀ e,dL (gy rows k e)
 | 0=>by simpa [gy] using MV h hk
 | e + 1=>by rw [lR];exact MW (vC h hk e)
theorem j7 (rows:List Nat) (e:Nat):closeR rows (e + 1)=gy (closeR rows e) e (closeR rows e).length:=by simp [closeR,List.range_succ]
theorem eW (rows:List Nat):∀ e,(closeR rows e).length=rows.length
 | 0=>by simp [closeR]
 | e + 1=>by rw [j7,nO,eW]
theorem kH {rows:List Nat} (h:dL rows):∀ e,e<=64->dL (closeR rows e)
 | 0,_=>by simpa [closeR] using h
 | e + 1,he=>by rw [j7];exact vC (kH h e (by omega)) (by omega) _
def spU (m:Nat):List DV:=(List.replicate m (vL [Value.int .u64 0])).flatten
theorem vD {n m:Nat} {tk:List TkE}:∀ l:List DV,(∀ x∈l,∃ y,x = .v y)->WeL n m tk l l
 | [],_=>rfl
 | b :: r,h=>by
  obtain ⟨y,rfl⟩:=h b (by simp);exact ⟨_,_,rfl,we_rfl rfl,vD r (fun x hx=>h x (by simp [hx]))⟩
theorem fj {n m:Nat} {tk:List TkE} {l:List DV} {ds:List Nat} {k:Nat} (h:l=cU ds ++ spU k):WeL n m tk l (cU ds ++ spU k):=by
 rw [h];refine vD _ fun x hx=>?_;rcases List.mem_append.1 hx with hx | hx
 ·grind [cU]
 ·simp_all [spU,vL]
theorem AP {r:List Nat} {k i x:Nat} (h:r[i]? = some x):(cU r ++ spU k)[0 + (i:Int).toNat * 1]? = some (DV.v (.int .u64 (x:Int))):=by grind [rD,MR]
theorem MX {r:List Nat} {k i x:Nat} (h:i < r.length):(cU r ++ spU k).set (0 + (i:Int).toNat * 1) (DV.v (.int .u64 (x:Int)))=cU (r.set i x) ++ spU k:=by grind [rD,MS]
theorem MY {r:List Nat} {k i:Nat} (h:i < r.length):0 + (i:Int).toNat * 1 + 1<=(cU r ++ spU k).length:=by
 rw [List.length_append,rD];omega
abbrev clSt (rows:List Nat) (cap:Nat) (r:List Nat) (e:Nat):St:=
 ⟨[aw 3 1,ap 19 ((dU rows).length),ap 20 e],[cU r ++ spU (cap - (dU rows).length),[.ms 0 1 0 (dU rows).length cap]],[]⟩
abbrev Ys (rows:List Nat) (cap:Nat) (r:List Nat) (e f:Nat):St:=
 ⟨[aw 3 1,ap 4 e,ap 19 ((dU rows).length),ap 20 e,ap 38 ((dU rows).length),ap 39 f],[cU r ++ spU (cap - (dU rows).length),[.ms 0 1 0 (dU rows).length cap]],[]⟩
theorem oP {l:List Nat} {i:Nat} (h:i < l.length):l[i]? = some (l.getD i 0):=rq h
theorem sH (rows:List Nat) (hr:dL rows) (h0:rows ≠ []):EvP prog 109 [mw rows] (mw (closeR rows rows.length)):=by
 have hr1:=hr.1;have hN:=ku rows;have oe:0 < rows.length:=List.length_pos_iff.2 h0;refine Ap (s:=false) (bt:=[]) (mu:=[12]) (hbt:=fun p hp=>by cases hp) (fr:=false) (P:=prog) tt om 5000 72 [.tmp 2] func109 rfl ntmps109 rfl (nL rfl) (fun _ _ _ _=>?_);refine ⟨⟨by intro h;exact h0 (by simpa [dU] using h),by rw [ku];simp [maxLen];omega,by rw [ku];omega⟩,fun cap Ak=>?_⟩
 have gI:(dU rows).flatten.append (List.replicate (cap - (dU rows).length) (vL [Value.int .u64 0])).flatten=cU (closeR rows 0) ++ spU (cap - (dU rows).length):=by
  show (dU rows).flatten ++ _=_;rw [pX];rfl
 refine lJ (fun e=>clSt rows cap (closeR rows e) e) rows.length (wkB 2 (yL gI) (wB1 gI)) ?_;intro e he;have bu:=kH hr e (by omega);have hlen:=eW rows e;have RZ:=j7 rows e;generalize hce:closeR rows e=r at bu hlen RZ ⊢;refine br ?_ ?_<;>intro hL
 ·have al:e < rows.length:=by have:=hL;simp [hN] at this;exact this
  have hx:=oP (l:=r) (i:=e) (by omega);have Yr:=FT (x:=r.getD e 0) (b:=e) (by omega) (lQ bu e);refine dS ?_;refine ⟨⟨by omega,by omega⟩,?_⟩;refine ⟨_,AP hx,?_⟩;refine ⟨by omega,?_⟩;refine ⟨⟨by omega,by omega⟩,?_⟩;refine ⟨MY (by omega),?_⟩
  have gT:(cU r ++ spU (cap - (dU rows).length)).set (0 + (e:Int).toNat * 1) (DV.v (.int .u64 (IntKind.u64.wrap ((BitVec.ofInt 64 ((r.getD e 0:Nat):Int) ||| BitVec.ofInt 64 (IntKind.u64.wrap (1 * 2 ^ (min (e:Int).toNat 64)))).toNat:Int))))=cU (gy r e 0) ++ spU (cap - (dU rows).length):=by
   rw [show min (e:Int).toNat 64=min e 64 by omega,Yr,MX (by omega)];rfl
  refine lJ (fun f=>Ys rows cap (gy r e f) e f) rows.length (wkB 2 (yL gT) (wB1 gT)) ?_;intro f hf;have hpk:=vC (k:=e) bu (by omega) f;have iP:=nO r e f;have hps:=lR r e f;have du:e < (gy r e f).length:=by rw [iP];omega
  refine br ?_ ?_<;>intro hL
  ·have ue:f < rows.length:=by have:=hL;simp [hN] at this;exact this
   have hpf:f < (gy r e f).length:=by rw [iP];omega
   generalize gy r e f=q at hpk iP hps du hpf ⊢;have hy:=oP hpf;have hz:=oP du;have MZ:=Iu (x:=q.getD f 0) (b:=e) (by omega) (lQ hpk f);have Yr:=PU (lQ hpk f) (lQ hpk e);refine ⟨⟨by omega,by omega⟩,?_⟩;refine ⟨_,AP hy,?_⟩;refine ⟨by omega,?_⟩;refine br ?_ ?_<;>intro g
   ·have g:aN q f e=true:=MZ.symm.trans g;refine dS ?_;refine ⟨⟨by omega,by omega⟩,?_⟩;refine ⟨_,AP hy,?_⟩;refine ⟨⟨by omega,by omega⟩,?_⟩;refine ⟨_,AP hz,?_⟩;refine ⟨⟨by omega,by omega⟩,?_⟩;refine ⟨MY hpf,?_⟩
    have gg:(cU q ++ spU (cap - (dU rows).length)).set (0 + (f:Int).toNat * 1) (DV.v (.int .u64 (IntKind.u64.wrap ((BitVec.ofInt 64 ((q.getD f 0:Nat):Int) ||| BitVec.ofInt 64 ((q.getD e 0:Nat):Int)).toNat:Int))))=cU (gy r e (f + 1)) ++ spU (cap - (dU rows).length):=by
     rw [Yr,MX hpf,hps,ow,aj g]
    exact rE ⟨_,by omega,f + 1,rfl,by omega,rfl⟩ (wkB 2 (wA2 gg (nxt ue (by omega))) (wB2 gg (nxt ue (by omega))))
   ·have g:aN q f e=false:=MZ.symm.trans g
    have gg:cU q ++ spU (cap - (dU rows).length)=cU (gy r e (f + 1)) ++ spU (cap - (dU rows).length):=by
     rw [hps,ow,ai (by rw [g];decide)]
    exact rE ⟨_,by omega,f + 1,rfl,by omega,rfl⟩ (wkB 2 (wA2 gg (nxt ue (by omega))) (wB2 gg (nxt ue (by omega))))
  ·have aM:f=rows.length:=sW hN hL;subst aM
   have Lb:cU (gy r e rows.length) ++ spU (cap - (dU rows).length)=cU (closeR rows (e + 1)) ++ spU (cap - (dU rows).length):=by
    rw [RZ,hlen]
   exact rE ⟨_,by omega,e + 1,rfl,by omega,rfl⟩ (wkB 2 (wA2 Lb (nxt al (by omega))) (wB2 Lb (nxt al (by omega))))
 ·have aM:e=rows.length:=sW hN hL;subst aM;refine ⟨_,?_,rfl⟩;rw [hce];refine .inr ⟨1,_,rfl,Nat.zero_le _,rfl,_,_,rfl,.inr (.inr (.inl ⟨0,0,cap,cU r ++ spU (cap - (dU rows).length),by rw [ku r,hlen,hN],Nat.zero_le _,rfl,?_,?_,?_⟩)),rfl⟩
  ·grind [pX,ku,rD]
  ·grind [dU]
  ·grind [pX,cU]
theorem kI {a b c d:Nat} (ha:a < 256) (hb:b < 256):(a + 256 * c) &&& (b + 256 * d)=(a &&& b) + 256 * (c &&& d):=by
 have h1:a &&& b < 256:=Nat.and_lt_two_pow (n:=8) a hb;apply Nat.eq_of_testBit_eq;intro i
 have e (x y:Nat) (hx:x < 256):(x + 256 * y).testBit i=if i < 8 then x.testBit i else y.testBit (i - 8):=by
  rw [show x + 256 * y=2 ^ 8 * y + x by omega,Nat.testBit_two_pow_mul_add _ (sU hx)]
 grind
def b1 (x:Nat):Nat:=((x / 2) &&& 85) + (x &&& 85)
def b2 (x:Nat):Nat:=((x / 4) &&& 51) + (x &&& 51)
def b3 (x:Nat):Nat:=((x / 16) + x) &&& 15
def pop8 (x:Nat):Nat:=b3 (b2 (b1 x))
theorem Iw:∀ x:Fin 256,b1 x.val < 256/\b2 (b1 x.val) < 120/\pop8 x.val<=8/\pop8 x.val=(((((((x.val.testBit 0).toNat + (x.val.testBit 1).toNat) + (x.val.testBit 2).toNat) + (x.val.testBit 3).toNat) + (x.val.testBit 4).toNat) + (x.val.testBit 5).toNat) + (x.val.testBit 6).toNat) + (x.val.testBit 7).toNat:=by decide +kernel
def valB:List Nat->Nat
 | []=>0
 | a :: r=>a + 256 * valB r
def rep (m:Nat):Nat->Nat
 | 0=>0
 | n + 1=>m + 256 * rep m n
theorem m1:∀ (a:Fin 256) (c:Fin 2),(a.val / 2 + 128 * c.val) &&& 85=(a.val / 2) &&& 85:=by decide +kernel
theorem m2:∀ (a:Fin 256) (c:Fin 4),(a.val / 4 + 64 * c.val) &&& 51=(a.val / 4) &&& 51:=by decide +kernel
theorem rc:∀ l:List Nat,(∀ a∈l,a < 256)->((valB l / 2) &&& rep 85 l.length) + (valB l &&& rep 85 l.length)=valB (l.map b1)
 | [],_=>rfl
 | a :: r,h=>by
  have ih:=rc r (fun x hx=>h x (by simp [hx]));have ha:=h a (by simp);have e1:(a + 256 * valB r) / 2=(a / 2 + 128 * (valB r % 2)) + 256 * (valB r / 2):=by omega
  have hm:=m1 ⟨a,ha⟩ ⟨valB r % 2,by omega⟩;simp only at hm;simp only [valB,List.length_cons,rep,List.map_cons,b1];rw [e1,kI (by omega) (by decide),kI ha (by decide),hm,<- ih];omega
theorem JE:∀ l:List Nat,(∀ a∈l,a < 256)->((valB l / 4) &&& rep 51 l.length) + (valB l &&& rep 51 l.length)=valB (l.map b2)
 | [],_=>rfl
 | a :: r,h=>by
  have ih:=JE r (fun x hx=>h x (by simp [hx]));have ha:=h a (by simp);have e1:(a + 256 * valB r) / 4=(a / 4 + 64 * (valB r % 4)) + 256 * (valB r / 4):=by omega
  have hm:=m2 ⟨a,ha⟩ ⟨valB r % 4,by omega⟩;simp only at hm;simp only [valB,List.length_cons,rep,List.map_cons,b2];rw [e1,kI (by omega) (by decide),kI ha (by decide),hm,<- ih];omega
theorem Yt (x y:Nat):(x + 16 * y) &&& 15=x &&& 15:=by
 have h (z:Nat):z &&& 15=z % 16:=Nat.and_two_pow_sub_one_eq_mod z 4;rw [h,h];omega
def C7 (a:Nat):Prop:=a < 70/\a % 16<=4
theorem st3:∀ l:List Nat,(∀ a∈l,C7 a)->((valB l / 16) + valB l) &&& rep 15 l.length=valB (l.map b3)
 | [],_=>rfl
 | a :: r,h=>by
  have ih:=st3 r (fun x hx=>h x (by simp [hx]));have ha:=h a (by simp)
  have hc:valB r % 16<=4:=by
   cases r with
   | nil=>simp [valB]
   | cons b s=>
    have:=(h b (by simp)).2;simp only [valB];omega
  unfold C7 at ha;have e1:(a + 256 * valB r) / 16 + (a + 256 * valB r)=((a / 16 + a) + 16 * (valB r % 16)) + 256 * (valB r / 16 + valB r):=by omega
  simp only [valB,List.length_cons,rep,List.map_cons,b3];rw [e1,kI (by omega) (by decide),Yt,ih]
def dZ (x:Nat):List Nat:=[x % 256,x / 256 % 256,x / 65536 % 256,x / 16777216 % 256,x / 4294967296 % 256,x / 1099511627776 % 256,x / 281474976710656 % 256,x / 72057594037927936 % 256]
theorem FV {x:Nat} (h:x < 18446744073709551616):valB (dZ x)=x:=by
 simp only [dZ,valB];omega
theorem J8 (x:Nat):∀ a∈dZ x,a < 256:=by
 intro a ha;simp only [dZ,List.mem_cons,List.not_mem_nil,or_false] at ha;omega
def FW (x:Nat):Nat:=((dZ x).map pop8).sum
theorem C8:∀ a:Fin 256,b1 a.val < 256/\b2 (b1 a.val) < 70/\b2 (b1 a.val) % 16<=4:=by decide +kernel
theorem AQ {x m:Nat} (hx:x < 18446744073709551616) (hm:m < 18446744073709551616) :
  IntKind.u64.wrap ((BitVec.ofInt 64 (x:Int) &&& BitVec.ofInt 64 (m:Int)).toNat:Int)=((x &&& m:Nat):Int):=by
 rw [ic,ic,BitVec.toNat_and,BitVec.toNat_ofNat,BitVec.toNat_ofNat,Nat.mod_eq_of_lt hx,Nat.mod_eq_of_lt hm];have h3:x &&& m < 18446744073709551616:=Nat.and_lt_two_pow (n:=64) x hm;simp only [IntKind.wrap_u64];omega
theorem FX {x:Nat} {k:Int} (hk:k.toNat < 64):(x:Int).fdiv (2 ^ min k.toNat IntKind.u64.bits)=((x / 2 ^ k.toNat:Nat):Int):=by
 rw [show min k.toNat IntKind.u64.bits=k.toNat from Nat.min_eq_left (by show k.toNat<=64;omega),C6]
theorem AR {y:Nat} (h:y < 18446744073709551616):IntKind.u64.wrap (y:Int)=(y:Int):=by
 simp only [IntKind.wrap_u64];omega
theorem Yu {k M:Int} {m x y:Nat} (hk:k.toNat < 64) (hx:x < 18446744073709551616) (hM:M=(m:Int)) (hm:m < 18446744073709551616) (hy:((x / 2 ^ k.toNat) &&& m) + (x &&& m)=y) (mj:y < 18446744073709551616) :
  IntKind.u64.wrap (IntKind.u64.wrap ((BitVec.ofInt IntKind.u64.bits ((x:Int).fdiv (2 ^ min k.toNat IntKind.u64.bits)) &&& BitVec.ofInt IntKind.u64.bits M).toNat:Int) + IntKind.u64.wrap ((BitVec.ofInt IntKind.u64.bits (x:Int) &&& BitVec.ofInt IntKind.u64.bits M).toNat:Int))=(y:Int):=by
 subst hM;have h1:x / 2 ^ k.toNat < 18446744073709551616:=Nat.lt_of_le_of_lt (Nat.div_le_self _ _) hx;have e1:IntKind.u64.wrap ((BitVec.ofInt IntKind.u64.bits ((x / 2 ^ k.toNat:Nat):Int) &&& BitVec.ofInt IntKind.u64.bits (m:Int)).toNat:Int)=_:=AQ h1 hm;have e2:IntKind.u64.wrap ((BitVec.ofInt IntKind.u64.bits (x:Int) &&& BitVec.ofInt IntKind.u64.bits (m:Int)).toNat:Int)=_:=AQ hx hm;rw [FX hk,e1,e2,<- Int.natCast_add,hy,AR mj]
theorem stgB {k M:Int} {m x y:Nat} (hk:k.toNat < 64) (hs:x / 2 ^ k.toNat + x < 18446744073709551616) (hM:M=(m:Int)) (hm:m < 18446744073709551616) (hy:((x / 2 ^ k.toNat) + x) &&& m=y) :
  IntKind.u64.wrap ((BitVec.ofInt IntKind.u64.bits (IntKind.u64.wrap ((x:Int).fdiv (2 ^ min k.toNat IntKind.u64.bits) + (x:Int))) &&& BitVec.ofInt IntKind.u64.bits M).toNat:Int)=(y:Int):=by
 subst hM;have e2:IntKind.u64.wrap ((BitVec.ofInt IntKind.u64.bits ((x / 2 ^ k.toNat + x:Nat):Int) &&& BitVec.ofInt IntKind.u64.bits (m:Int)).toNat:Int)=_:=AQ hs hm;rw [FX hk,<- Int.natCast_add,AR hs,e2,hy]
theorem Ub {k:Int} {x:Nat} (hk:k.toNat < 64) (hs:x + x / 2 ^ k.toNat < 18446744073709551616) :
  IntKind.u64.wrap ((x:Int) + (x:Int).fdiv (2 ^ min k.toNat IntKind.u64.bits))=((x + x / 2 ^ k.toNat:Nat):Int):=by
 rw [FX hk,<- Int.natCast_add,AR hs]
theorem Ix:∀ l:List Nat,(∀ a∈l,a < 256)->valB l < 256 ^ l.length
 | [],_=>by simp [valB]
 | a :: r,h=>by
  have ih:=Ix r (fun x hx=>h x (by simp [hx]));have ha:=h a (by simp)
  grind [valB]
theorem M0 {x:Nat} (hx:x < 18446744073709551616):∃ y1 y2 y3:Nat,((x / 2) &&& 6148914691236517205) + (x &&& 6148914691236517205)=y1/\y1 < 18446744073709551616/\((y1 / 4) &&& 3689348814741910323) + (y1 &&& 3689348814741910323)=y2/\y2 / 16 + y2 < 18446744073709551616/\y2 < 18446744073709551616 /\
  ((y2 / 16) + y2) &&& 1085102592571150095=y3/\∃ p0 p1 p2 p3 p4 p5 p6 p7:Nat,y3=valB [p0,p1,p2,p3,p4,p5,p6,p7]/\(p0<=8/\p1<=8/\p2<=8/\p3<=8/\p4<=8/\p5<=8/\p6<=8/\p7<=8)/\FW x=p0 + p1 + p2 + p3 + p4 + p5 + p6 + p7:=by
 have hl:=J8 x;have s1:=rc (dZ x) hl;rw [FV hx] at s1
 have l1:∀ a∈(dZ x).map b1,a < 256:=by
  intro a ha;obtain ⟨b,hb,rfl⟩:=List.mem_map.1 ha;exact (C8 ⟨b,hl b hb⟩).1
 have l2:∀ a∈((dZ x).map b1).map b2,C7 a:=by
  intro a ha;obtain ⟨c,hc,rfl⟩:=List.mem_map.1 ha;obtain ⟨b,hb,rfl⟩:=List.mem_map.1 hc;exact (C8 ⟨b,hl b hb⟩).2
 have s2:=JE ((dZ x).map b1) l1;have s3:=st3 (((dZ x).map b1).map b2) l2
 have v1:valB ((dZ x).map b1) < 18446744073709551616:=by
  have:=Ix _ l1;rw [List.length_map,show (dZ x).length=8 from rfl] at this;simpa using this
 rw [show rep 85 (dZ x).length=6148914691236517205 from (by decide:rep 85 8=_)] at s1;rw [List.length_map,show rep 51 (dZ x).length=3689348814741910323 from (by decide:rep 51 8=_)] at s2;rw [List.length_map,List.length_map,show rep 15 (dZ x).length=1085102592571150095 from (by decide:rep 15 8=_)] at s3;refine ⟨_,_,_,s1,v1,s2,?_,?_,s3,_,_,_,_,_,_,_,_,rfl,?_,?_⟩
 ·have:=l2;simp only [dZ,List.map_cons,List.map_nil,List.mem_cons,List.not_mem_nil,or_false,forall_eq_or_imp,forall_eq,C7,valB] at this ⊢;omega
 ·have:=l2;simp only [dZ,List.map_cons,List.map_nil,List.mem_cons,List.not_mem_nil,or_false,forall_eq_or_imp,forall_eq,C7,valB] at this ⊢;omega
 ·have h (b:Nat) (hb:b < 256):=(Iw ⟨b,hb⟩).2.2.1;exact ⟨h _ (by omega),h _ (by omega),h _ (by omega),h _ (by omega),h _ (by omega),h _ (by omega),h _ (by omega),h _ (by omega)⟩
 ·simp only [FW,dZ,List.map_cons,List.map_nil,List.sum_cons,List.sum_nil,pop8];omega
theorem dr1 {a r:Nat} (h:a < 256):(a + 256 * r) / 256=r:=by omega
theorem dr2 {a b r:Nat} (h:a < 256) (h2:b < 256):(a + 256 * (b + 256 * r)) / 65536=r:=by omega
theorem M3 {p0 p1 p2 p3 p4 p5 p6 p7:Nat} (hp:p0<=8/\p1<=8/\p2<=8/\p3<=8/\p4<=8/\p5<=8/\p6<=8/\p7<=8):∃ z1 z2 z3:Nat,
  (p0 + 256 * (p1 + 256 * (p2 + 256 * (p3 + 256 * (p4 + 256 * (p5 + 256 * (p6 + 256 * (p7 + 256 * 0)))))))) + (p0 + 256 * (p1 + 256 * (p2 + 256 * (p3 + 256 * (p4 + 256 * (p5 + 256 * (p6 + 256 * (p7 + 256 * 0)))))))) / 256=z1/\z1 < 18446744073709551616 /\
  z1 + z1 / 65536=z2/\z2 < 18446744073709551616/\z2 + z2 / 4294967296=z3/\z3 < 18446744073709551616/\z3 % 128=p0 + p1 + p2 + p3 + p4 + p5 + p6 + p7:=by
 refine ⟨(p0 + p1) + 256 * ((p1 + p2) + 256 * ((p2 + p3) + 256 * ((p3 + p4) + 256 * ((p4 + p5) + 256 * ((p5 + p6) + 256 * ((p6 + p7) + 256 * p7)))))),
  (p0 + p1 + p2 + p3) + 256 * ((p1 + p2 + p3 + p4) + 256 * ((p2 + p3 + p4 + p5) + 256 * ((p3 + p4 + p5 + p6) + 256 * ((p4 + p5 + p6 + p7) + 256 * ((p5 + p6 + p7) + 256 * ((p6 + p7) + 256 * p7)))))),
  (p0 + p1 + p2 + p3 + p4 + p5 + p6 + p7) + 256 * ((p1 + p2 + p3 + p4 + p5 + p6 + p7) + 256 * ((p2 + p3 + p4 + p5 + p6 + p7) + 256 * ((p3 + p4 + p5 + p6 + p7) + 256 * ((p4 + p5 + p6 + p7) + 256 * ((p5 + p6 + p7) + 256 * ((p6 + p7) + 256 * p7)))))),?_,by omega,?_,by omega,?_,by omega,by omega⟩
 ·rw [dr1 (by omega)];omega
 ·rw [dr2 (by omega) (by omega)];omega
 ·omega
theorem M4 {z:Nat} (h:z < 18446744073709551616):IntKind.i64.wrap ((BitVec.ofInt IntKind.i64.bits (IntKind.i64.wrap (z:Int)) &&& BitVec.ofInt IntKind.i64.bits 127).toNat:Int)=((z % 128:Nat):Int):=by
 have e1:BitVec.ofInt 64 (IntKind.i64.wrap (z:Int))=BitVec.ofNat 64 z:=by
  apply BitVec.eq_of_toNat_eq;rw [BitVec.toNat_ofInt,BitVec.toNat_ofNat,IntKind.wrap_i64];omega
 have e2:(BitVec.ofInt 64 (IntKind.i64.wrap (z:Int)) &&& BitVec.ofInt 64 127).toNat=z % 128:=by
  rw [e1,show BitVec.ofInt 64 127=BitVec.ofNat 64 127 by decide,BitVec.toNat_and,BitVec.toNat_ofNat,BitVec.toNat_ofNat,Nat.mod_eq_of_lt h];exact Nat.and_two_pow_sub_one_eq_mod z 7
 have e3:(BitVec.ofInt IntKind.i64.bits (IntKind.i64.wrap (z:Int)) &&& BitVec.ofInt IntKind.i64.bits 127).toNat=z % 128:=e2;rw [e3,IntKind.wrap_i64];omega
theorem J9 (x:Nat) (hx:x < 18446744073709551616):EvP prog 191 [.v (.int .u64 x)] (.v (.int .i64 (FW x:Nat))):=by
 obtain ⟨y1,y2,y3,h1,VC,h2,h2s,h2b,h3,p0,p1,p2,p3,p4,p5,p6,p7,h4,hp,h5⟩:=M0 hx;rw [h5];simp only [valB] at h4;refine eG 35 [.tmp 2] func191 rfl ntmps191 rfl fun _ _ _ _=>?_;refine ⟨by decide,?_⟩;refine ⟨by decide,?_⟩;refine ⟨by decide,?_⟩;refine ⟨by decide,?_⟩;refine ⟨by decide,?_⟩;refine ⟨by decide,?_⟩;refine (rb ?_:);rw [Yu (k:=1) (M:=6148914691236517205) (by decide) hx rfl (by decide) h1 VC,Yu (k:=2) (M:=3689348814741910323) (by decide) VC rfl (by decide) h2 h2b,stgB (k:=4) (M:=1085102592571150095) (by decide) h2s rfl (by decide) h3];obtain ⟨z1,z2,z3,g1,g1b,g2,g2b,g3,g3b,g4⟩:=M3 hp;rw [<- h4] at g1;have k1:y3 + y3 / 2 ^ (8:Int).toNat=z1:=g1;rw [Ub (k:=8) (by decide) (by rw [k1];exact g1b),k1];have k2:z1 + z1 / 2 ^ (16:Int).toNat=z2:=g2;rw [Ub (k:=16) (by decide) (by rw [k2];exact g2b),k2];have k3:z2 + z2 / 2 ^ (32:Int).toNat=z3:=g3;rw [Ub (k:=32) (by decide) (by rw [k3];exact g3b),k3,<- g4];exact M4 g3b
theorem iw (x k i:Nat) (hi:i < 8):(x / 2 ^ (8 * k) % 256).testBit i=x.testBit (8 * k + i):=by
 rw [show (256:Nat)=2 ^ 8 by decide,Nat.testBit_mod_two_pow,decide_eq_true hi,Bool.true_and,Nat.testBit_div_two_pow,Nat.add_comm]
theorem iy (x k:Nat):pop8 (x / 2 ^ (8 * k) % 256)=(((((((x.testBit (8 * k + 0)).toNat + (x.testBit (8 * k + 1)).toNat) + (x.testBit (8 * k + 2)).toNat) + (x.testBit (8 * k + 3)).toNat) + (x.testBit (8 * k + 4)).toNat) + (x.testBit (8 * k + 5)).toNat) + (x.testBit (8 * k + 6)).toNat) + (x.testBit (8 * k + 7)).toNat:=by
 have h:=(Iw ⟨x / 2 ^ (8 * k) % 256,Nat.mod_lt _ (by decide)⟩).2.2.2;simp only at h;rw [h,iw x k 0 (by decide),iw x k 1 (by decide),iw x k 2 (by decide),iw x k 3 (by decide),iw x k 4 (by decide),iw x k 5 (by decide),iw x k 6 (by decide),iw x k 7 (by decide)]
def sumB (x:Nat):Nat->Nat
 | 0=>0
 | n + 1=>sumB x n + (x.testBit n).toNat
theorem M5 (x:Nat):FW x=sumB x 64:=by
 have h0:=iy x 0;have h1:=iy x 1;have h2:=iy x 2;have h3:=iy x 3;have h4:=iy x 4;have h5:=iy x 5;have h6:=iy x 6;have h7:=iy x 7;simp only [Nat.mul_zero,Nat.pow_zero,Nat.div_one] at h0;simp only [FW,dZ,List.map_cons,List.map_nil,List.sum_cons,List.sum_nil,sumB]
 grind
theorem vE (x:Nat):∀ n,0 < sumB x n↔∃ b,b < n/\x.testBit b=true
 | 0=>by simp [sumB]
 | n + 1=>by
  have ih:=vE x n
  grind [sumB]
theorem C9 (x a:Nat) (ha:x.testBit a=true):∀ n,a < n->(1 < sumB x n↔∃ b,b < n/\b≠a/\x.testBit b=true)
 | 0,h=>by omega
 | n + 1,h=>by
  simp only [sumB];by_cases hn:a=n
  ·grind [vE]
  ·have ih:=C9 x a ha n (by omega)
   grind [vE]
def bJ (p:Nat->Bool) (n:Nat):Option Nat:=(List.range n).find? p
theorem cH {p:Nat->Bool} {n e:Nat} (he:e < n) (hp:p e=true) (h:∀ a,a < e->p a=false):bJ p n=some e:=by simp_all [bJ]
theorem dh {p:Nat->Bool} {n:Nat} (h:∀ a,a < n->p a=false):bJ p n=none:=by grind [bJ]
theorem dT {p:Nat->Bool} {n e:Nat} (h:bJ p n=some e):e < n/\p e=true/\∀ a,a < e->p a=false:=by simp_all [bJ]
def pZ (c:List Nat) (a:Nat):Bool:=decide (1 < FW (backN c a c.length))
def M6:Option Nat->DV
 | some a=>.tup [.v (.int .i64 (a:Int)),.v (.bool true)]
 | none=>.tup [.v (.int .i64 0),.v (.bool false)]
abbrev PW (c:List Nat) (e:Nat):St:=
 ⟨[(4,⟨[],mw c⟩),ap 9 c.length,ap 10 e],[],[]⟩
theorem FY (rows:List Nat) (hr:dL rows) (h0:rows ≠ []):EvP prog 108 [mw rows] (M6 (bJ (pZ (closeR rows rows.length)) rows.length)):=by
 have hc:=sH rows hr h0;have bu:=kH hr rows.length hr.1;have hlen:=eW rows rows.length;have hr1:=hr.1;generalize closeR rows rows.length=c at hc bu hlen ⊢;rw [<- hlen];have hl:=zb c;refine eG 20 [.tmp 2,.tmp 3] func108 rfl ntmps108 rfl fun _ _ _ _=>?_;refine cP Ri hc ?_;refine cP Mb hl ?_;refine lI (fun j st=>∃ e:Nat,st=PW c e/\e<=c.length/\(∀ a,a < e->pZ c a=false)/\j=c.length - e) ⟨0,rfl,by omega,fun a h=>by omega,rfl⟩ (wkM wB) ?_;rintro j st ⟨e,rfl,he,fH,rfl⟩;refine br ?_ ?_<;>intro hL
 ·have al:e < c.length:=by have:=hL;simp at this;exact this
  have Ua:backN c e c.length < 18446744073709551616:=by
   have h1:=vz c e c.length;have:2 ^ c.length<=2 ^ 64:=Nat.pow_le_pow_right (by decide) (by omega);omega
  refine cP Xg (FU c bu e al) ?_;refine cP Xf (J9 _ Ua) ?_;refine br ?_ ?_<;>intro g
  ·have g:pZ c e=true:=by
    simp at g;simp [pZ];omega
   rw [cH al g fH];refine ⟨_,?_,rfl⟩;exact ax
  ·have g:pZ c e=false:=by
    simp at g;simp [pZ];omega
   exact rE ⟨_,by omega,e + 1,rfl,by omega,fun a ha=>by
    rcases lh ha with ha | rfl
    ·exact fH a ha
    ·exact g,rfl⟩ (wkM (wB1 (nxt al (by omega))))
 ·have aM:e=c.length:=by have:=hL;simp at this;omega
  subst aM;rw [dh fH];refine ⟨_,?_,rfl⟩;exact ax
theorem vF {rows:List Nat} {i x a b:Nat} (hi:i < rows.length):aN (rows.set i x) a b=if a=i then x.testBit b else aN rows a b:=by grind [aN]
theorem nP {rows:List Nat} {k a b:Nat} (hk:k < rows.length):aN (jF rows k) a b=(aN rows a b || (decide (a=k) && decide (b=k))):=by
 unfold jF;rw [vF hk];by_cases h:a=k
 ·subst h;rw [aj rfl,jD];simp only [decide_true,Bool.true_and];rw [show decide (a=b)=decide (b=a) from by simp only [eq_comm]];rfl
 ·rw [ai h];simp [h]
theorem Ka {rows:List Nat} {k i a b:Nat} (hi:i < rows.length):aN (ow k rows i) a b=(aN rows a b || (decide (a=i) && (aN rows a k && aN rows k b))):=by grind [ow,aN,vF]
theorem zc {rows:List Nat} {k:Nat} (hk:k < rows.length):∀ e,e<=rows.length->∀ a b,aN (gy rows k e) a b=(aN (jF rows k) a b || (decide (a < e) && (aN (jF rows k) a k && aN (jF rows k) k b)))
 | 0,_,a,b=>by simp [gy]
 | e + 1,he,a,b=>by
  have ih:=zc hk e (by omega)
  grind [lR,Ka,nO,aN,jF,nP]
inductive uf (p:Nat->Nat->Prop):Nat->Nat->Prop
 | refl (a:Nat):uf p a a
 | step {a b c:Nat}:uf p a b->p b c->uf p a c
theorem uf.trans {p:Nat->Nat->Prop} {a b c:Nat} (h1:uf p a b) (h2:uf p b c):uf p a c:=by
 induction h2 with
 | refl=>exact h1
 | step _ h ih=>exact .step ih h
theorem uf.mono {p q:Nat->Nat->Prop} (h:∀ a b,p a b->uf q a b) {a b:Nat} (h1:uf p a b):uf q a b:=by
 induction h1 with
 | refl=>exact .refl _
 | step _ h2 ih=>exact ih.trans (h _ _ h2)
def wayQ (p:Nat->Nat->Prop):Nat->Nat->Nat->Prop
 | 0,a,b=>a=b∨p a b
 | k + 1,a,b=>wayQ p k a b∨(wayQ p k a k/\wayQ p k k b)
theorem zd {p:Nat->Nat->Prop} (a:Nat):∀ k,wayQ p k a a
 | 0=>.inl rfl
 | k + 1=>.inl (zd a k)
theorem ze {p:Nat->Nat->Prop} {a b:Nat} (h:p a b):∀ k,wayQ p k a b
 | 0=>.inr h
 | k + 1=>.inl (ze h k)
theorem p8 {p:Nat->Nat->Prop}:∀ k a b,wayQ p k a b->uf p a b
 | 0,a,b,h=>by
  rcases h with rfl | h
  ·exact .refl _
  ·exact .step (.refl _) h
 | k + 1,a,b,h=>by
  rcases h with h | ⟨h1,h2⟩
  ·exact p8 k a b h
  ·exact (p8 k a k h1).trans (p8 k k b h2)
theorem lS {p:Nat->Nat->Prop}:∀ k a m b,m < k->wayQ p k a m->wayQ p k m b->wayQ p k a b
 | 0,_,_,_,h,_,_=>by omega
 | k + 1,a,m,b,hm,h1,h2=>by
  by_cases VG:m=k
  ·grind [wayQ]
  ·have tD:m < k:=by omega
   rcases h1 with h1 | ⟨h1,h3⟩
   ·rcases h2 with h2 | ⟨h2,h4⟩
    ·exact .inl (lS k a m b tD h1 h2)
    ·exact .inr ⟨lS k a m k tD h1 h2,h4⟩
   ·rcases h2 with h2 | ⟨h2,h4⟩
    ·exact .inr ⟨h1,lS k k m b tD h3 h2⟩
    ·exact .inr ⟨h1,h4⟩
theorem vG {rows:List Nat}:∀ k,k<=rows.length->∀ a b,a < rows.length->((aN (closeR rows k) a b=true∨a=b)↔wayQ (fun x y=>aN rows x y=true) k a b)/\(a < k->aN (closeR rows k) a a=true)
 | 0,_,a,b,_=>by grind [closeR,wayQ]
 | k + 1,hk,a,b,ha=>by
  have ih:=vG (rows:=rows) k (by omega);have iT:k < (closeR rows k).length:=by rw [eW];omega
  have hb:∀ a b,a < rows.length->aN (closeR rows (k + 1)) a b=(aN (jF (closeR rows k) k) a b || (aN (jF (closeR rows k) k) a k && aN (jF (closeR rows k) k) k b)):=fun a b ha=>by grind [j7,zc,eW]
  have Iy:∀ a b,(aN (jF (closeR rows k) k) a b=true∨a=b)↔(aN (closeR rows k) a b=true∨a=b):=fun a b=>by grind [nP]
  have yC:aN (jF (closeR rows k) k) k k=true:=by rw [nP iT];simp
  have key:∀ a b,a < rows.length->((aN (closeR rows (k + 1)) a b=true∨a=b)↔wayQ (fun x y=>aN rows x y=true) (k + 1) a b):=fun a b ha=>by grind [wayQ]
  refine ⟨key a b ha,fun hak=>?_⟩;rw [hb a a ha];by_cases h:a=k
  ·subst h;rw [yC];all_goals rfl
  ·have:=(ih a a ha).2 (by omega);rw [nP iT,this];all_goals rfl
theorem FZ {rows:List Nat} (hb:∀ a b,a < rows.length->aN rows a b=true->b < rows.length) {a b:Nat} (ha:a < rows.length) (hbl:b < rows.length):aN (closeR rows rows.length) a b=true↔uf (fun x y=>x < rows.length/\aN rows x y=true) a b:=by
 have hw:=vG (rows:=rows) rows.length (aJ _) a b ha;have h1:aN (closeR rows rows.length) a b=true↔wayQ (fun x y=>aN rows x y=true) rows.length a b:=by grind
 rw [h1];constructor
 ·intro h
  have al:∀ {x},uf (fun x y=>aN rows x y=true) a x->uf (fun x y=>x < rows.length/\aN rows x y=true) a x/\x < rows.length:=by
   intro x hx
   induction hx with
   | refl=>exact ⟨.refl _,ha⟩
   | step _ h2 ih=>exact ⟨.step ih.1 ⟨ih.2,h2⟩,hb _ _ ih.2 h2⟩
  exact (al (p8 _ _ _ h)).1
 ·intro h
  have:wayQ (fun x y=>aN rows x y=true) rows.length a b/\b < rows.length:=by
   clear h1 hw hbl
   induction h with
   | refl=>exact ⟨zd _ _,ha⟩
   | step _ h2 ih=>exact ⟨lS _ _ _ _ ih.2 ih.1 (ze h2.2 _),hb _ _ h2.1 h2.2⟩
  exact this.1
theorem M7 {rows:List Nat} {p:Nat × Nat} {a b:Nat} (hp:p.1 < rows.length):aN (vB rows p) a b=(aN rows a b || (decide (a=p.1) && decide (b=p.2))):=by
 unfold vB;rw [vF hp];by_cases h:a=p.1
 ·subst h;rw [aj rfl,jD];simp only [decide_true,Bool.true_and];rw [show decide (p.2=b)=decide (b=p.2) from by simp only [eq_comm]];rfl
 ·rw [ai h];simp [h]
theorem zf:∀ (l:List (Nat × Nat)) (rows:List Nat) (a b:Nat),(∀ p∈l,p.1 < rows.length)->(aN (l.foldl vB rows) a b=true↔aN rows a b=true∨(a,b)∈l)
 | [],_,_,_,_=>by simp
 | p :: l,rows,a,b,h=>by
  rw [List.foldl_cons,zf l _ a b (fun q hq=>by rw [pY];exact h q (by simp [hq])),M7 (h p (by simp))]
  grind
theorem vH {n:Nat} {l:List (Nat × Nat)} (h:∀ p∈l,p.1 < n) (a b:Nat):aN (eV n l) a b=true↔(a,b)∈l:=by grind [eV,zf,aN]
def ee (n:Nat) (l:List (Nat × Nat)) (a b:Nat):Bool:=aN (closeR (eV n l) n) a b
def rF (n:Nat) (l:List (Nat × Nat)):Prop:=∀ p∈l,p.1 < n/\p.2 < n
theorem mX {n:Nat} {l:List (Nat × Nat)} (h:rF n l) {a b:Nat} (ha:a < n) (hb:b < n):ee n l a b=true↔uf (fun x y=>(x,y)∈l) a b:=by
 have hlen:(eV n l).length=n:=jE n l;unfold ee
 have:=FZ (rows:=eV n l) (fun a b _ MZ=>by
  rw [vH (fun p hp=>(h p hp).1)] at MZ
  rw [hlen];exact (h _ MZ).2) (a:=a) (b:=b) (by omega) (by omega)
 rw [hlen] at this;rw [this];constructor
 ·exact uf.mono fun x y JH=>.step (.refl _) ((vH (fun p hp=>(h p hp).1) x y).1 JH.2)
 ·exact uf.mono fun x y JH=>.step (.refl _) ⟨(h _ JH).1,(vH (fun p hp=>(h p hp).1) x y).2 JH⟩
theorem rG {n:Nat} {l:List (Nat × Nat)} (h:rF n l) {a:Nat} (ha:a < n):ee n l a a=true:=(mX h ha ha).2 (.refl _)
theorem F0 {n:Nat} {l:List (Nat × Nat)} (h:rF n l) {a b c:Nat} (ha:a < n) (hb:b < n) (hc:c < n) (h1:ee n l a b=true) (h2:ee n l b c=true):ee n l a c=true:=
 (mX h ha hc).2 (((mX h ha hb).1 h1).trans ((mX h hb hc).1 h2))
def j8 (n:Nat) (f:Nat->Nat->Bool) (a:Nat):Bool:=(List.range n).any fun b=>decide (a≠b) && (f a b && f b a)
theorem M8 {n:Nat} {l:List (Nat × Nat)} (hn:n<=64) (h:rF n l) {a:Nat} (ha:a < n):pZ (closeR (eV n l) n) a=j8 n (ee n l) a:=by
 have hlen:(closeR (eV n l) n).length=n:=by rw [eW,jE]
 unfold pZ j8;rw [M5,hlen,Bool.eq_iff_iff,decide_eq_true_eq]
 have haa:(backN (closeR (eV n l) n) a n).testBit a=true:=by
  rw [rC];have:aN (closeR (eV n l) n) a a=true:=rG h ha;simp [ha,this]
 rw [C9 _ a haa 64 (by omega)];simp only [List.any_eq_true,List.mem_range,aO,decide_eq_true_eq,rC];constructor
 ·rintro ⟨b,_,aT,hb,h1,h2⟩;exact ⟨b,hb,fun e=>aT e.symm,h1,h2⟩
 ·rintro ⟨b,hb,aT,h1,h2⟩;exact ⟨b,by omega,fun e=>aT e.symm,hb,h1,h2⟩
theorem AS {p q:Nat->Bool} {n:Nat} (h:∀ a,a < n->p a=q a):bJ p n=bJ q n:=by
 unfold bJ
 have:∀ (l:List Nat),(∀ a∈l,p a=q a)->l.find? p=l.find? q:=by
  intro l
  induction l with
  | nil=>intro _;rfl
  | cons x r ih=>grind
 grind
theorem PX {n:Nat} {l:List (Nat × Nat)} (hn:n<=64) (h:rF n l):bJ (pZ (closeR (eV n l) n)) n=bJ (j8 n (ee n l)) n:=
 AS fun _ ha=>M8 hn h ha
def gz (r:List Bool) (p:Nat × Nat):List Bool:=if r.getD p.1 false then r.set p.2 true else r
def ie (l:List (Nat × Nat)) (r:List Bool):List Bool:=l.foldl gz r
def cE (l:List (Nat × Nat)) (r:List Bool) (k:Nat):List Bool:=(List.range k).foldl (fun r _=>ie l r) r
def tN (n:Nat) (l:List (Nat × Nat)) (a:Nat):List Bool:=cE l ((List.replicate n false).set a true) n
theorem ef (l:List (Nat × Nat)) (r:List Bool) (k:Nat):cE l r (k + 1)=ie l (cE l r k):=by simp [cE,List.range_succ]
theorem kJ (r:List Bool) (p:Nat × Nat):(gz r p).length=r.length:=by unfold gz;split<;>simp
theorem oQ (l:List (Nat × Nat)):∀ r,(ie l r).length=r.length:=by
 induction l with
 | nil=>intro r;rfl
 | cons p l ih=>intro r;simp only [ie,List.foldl_cons] at ih ⊢;rw [ih,kJ]
theorem eX (l:List (Nat × Nat)) (r:List Bool):∀ k,(cE l r k).length=r.length
 | 0=>by simp [cE]
 | k + 1=>by rw [ef,oQ,eX]
theorem p9 (n:Nat) (l:List (Nat × Nat)) (a:Nat):(tN n l a).length=n:=by simp [tN,eX]
def PY (r s:List Bool):Prop:=∀ i:Nat,r.getD i false=true->s.getD i false=true
theorem jG {r:List Bool} {i j:Nat} (hi:i < r.length):(r.set i true).getD j false=(decide (j=i) || r.getD j false):=by grind
theorem Da {r:List Bool} {p:Nat × Nat} (hp:p.2 < r.length):PY r (gz r p):=by
 intro i hi
 grind [gz,jG]
theorem nQ:∀ {l:List (Nat × Nat)} {r:List Bool},(∀ p∈l,p.2 < r.length)->PY r (ie l r)
 | [],r,_,i,hi=>hi
 | p :: l,r,h,i,hi=>by
  have:PY (gz r p) (ie l (gz r p)):=nQ fun q hq=>by rw [kJ];exact h q (by simp [hq])
  exact this i (Da (h p (by simp)) i hi)
def vI (r:List Bool):Nat:=r.countP (fun x=>x)
theorem Iz (r:List Bool):vI r<=r.length:=List.countP_le_length
theorem vJ:∀ {r s:List Bool},r.length=s.length->PY r s->(r=s∨vI r < vI s)/\vI r<=vI s
 | [],[],_,_=>⟨.inl rfl,aJ _⟩
 | x :: r,y :: s,hl,h=>by
  have yO:r.length=s.length:=sU hl;have ih:=vJ yO (fun i hi=>by simpa using h (i + 1) (sU hi));have h0:x=true->y=true:=fun hx=>by simpa using h 0 (sU hx)
  grind [vI]
 | [],_ :: _,h,_=>by simp at h
 | _ :: _,[],h,_=>by simp at h
theorem Db {r s:List Bool} (hl:r.length=s.length) (h1:PY r s) (h2:PY s r):r=s:=by
 rcases (vJ hl h1).1 with h | h
 ·exact h
 ·have:=(vJ hl.symm h2).2;omega
theorem vK:∀ {l:List (Nat × Nat)} {r:List Bool},(∀ p∈l,p.2 < r.length)->ie l r=r->∀ p∈l,r.getD p.1 false=true->r.getD p.2 false=true
 | [],_,_,_,p,hp,_=>by cases hp
 | q :: l,r,h,he,p,hp,h1=>by
  have hq:=h q (by simp);have hl:∀ p∈l,p.2 < (gz r q).length:=fun p hp=>by rw [kJ];exact h p (by simp [hp])
  have hs:gz r q=r:=by
   have h2:PY (gz r q) r:=by
    have:=nQ hl
    grind [ie,gz]
   grind [Db,kJ,Da]
  rcases dg hp with rfl | hp
  ·grind [gz,jG]
  ·have JD:ie l r=r:=by grind [ie,gz]
   exact vK (fun p hp=>h p (by simp [hp])) JD p hp h1
theorem sI {l:List (Nat × Nat)} {r:List Bool} (h:∀ p∈l,p.2 < r.length):∀ k,ie l (cE l r k)=cE l r k∨vI r + k<=vI (cE l r k)
 | 0=>.inr (by simp [cE])
 | k + 1=>by
  have hk:∀ p∈l,p.2 < (cE l r k).length:=fun p hp=>by rw [eX];exact h p hp
  rcases sI h k with h1 | h1
  ·left;rw [ef,h1,h1]
  ·rcases (vJ (oQ l _).symm (nQ hk)).1 with h2 | h2
   ·left;rw [ef,<- h2,<- h2]
   ·right;rw [ef];omega
theorem Kb {l:List (Nat × Nat)} {a:Nat} {r:List Bool} {p:Nat × Nat} (hp:p∈l) (hl:p.2 < r.length) (h:∀ i,r.getD i false=true->uf (fun x y=>(x,y)∈l) a i):∀ i,(gz r p).getD i false=true->uf (fun x y=>(x,y)∈l) a i:=by
 intro i hi;unfold gz at hi;split at hi
 ·rename_i h1;rw [jG hl] at hi;simp only [Bool.or_eq_true,decide_eq_true_eq] at hi;rcases hi with rfl | hi
  ·exact .step (h _ h1) hp
  ·exact h i hi
 ·exact h i hi
theorem vM {l:List (Nat × Nat)} {a:Nat}:∀ (m:List (Nat × Nat)) {r:List Bool},(∀ p∈m,p∈l/\p.2 < r.length)->(∀ i,r.getD i false=true->uf (fun x y=>(x,y)∈l) a i)->∀ i,(ie m r).getD i false=true->uf (fun x y=>(x,y)∈l) a i
 | [],_,_,h=>h
 | p :: m,r,hm,h=>vM m (r:=gz r p) (fun q hq=>by rw [kJ];exact hm q (by simp [hq])) (Kb (hm p (by simp)).1 (hm p (by simp)).2 h)
theorem sJ {l:List (Nat × Nat)} {a:Nat} {r:List Bool} (hl:∀ p∈l,p.2 < r.length) (h:∀ i,r.getD i false=true->uf (fun x y=>(x,y)∈l) a i):∀ k i,(cE l r k).getD i false=true->uf (fun x y=>(x,y)∈l) a i
 | 0=>by simpa [cE] using h
 | k + 1=>by
  rw [ef];exact vM l (fun p hp=>⟨hp,by rw [eX];exact hl p hp⟩) (sJ hl h k)
theorem vN {l:List (Nat × Nat)} {r:List Bool} (hl:∀ p∈l,p.2 < r.length):∀ k,PY r (cE l r k)
 | 0=>by intro i hi;simpa [cE] using hi
 | k + 1=>fun i hi=>by
  rw [ef];exact nQ (fun p hp=>by rw [eX];exact hl p hp) i (vN hl k i hi)
theorem M9 {n a:Nat} (ha:a < n):1<=vI ((List.replicate n false).set a true):=by grind [vI]
theorem Na {n:Nat} {l:List (Nat × Nat)} (h:rF n l) {a b:Nat} (ha:a < n) (hb:b < n):(tN n l a).getD b false=ee n l a b:=by
 have hl:∀ p∈l,p.2 < ((List.replicate n false).set a true).length:=fun p hp=>by simp;exact (h p hp).2
 have ru:a < (List.replicate n false).length:=by simp [ha]
 rw [Bool.eq_iff_iff,mX h ha hb];constructor
 ·refine sJ hl (fun i hi=>?_) n b;rw [jG ru] at hi;simp only [Bool.or_eq_true,decide_eq_true_eq] at hi;rcases hi with rfl | hi
  ·exact .refl _
  all_goals grind
 ·have hfix:ie l (tN n l a)=tN n l a:=by
   rcases sI hl n with h1 | h1
   ·exact h1
   ·grind [Iz,cE,eX,M9]
  have j1:=vK (fun p hp=>by rw [p9];exact (h p hp).2) hfix;intro hr;have haa:(tN n l a).getD a false=true:=vN hl n a (by rw [jG ru];simp);clear hb
  induction hr with
  | refl=>exact haa
  | step _ h2 ih=>exact j1 _ h2 ih
def dj (n:Nat) (f:Nat->Nat->Bool):List (List Bool):=(List.range n).map fun a=>(List.range n).map (f a)
theorem PZ {n:Nat} {l:List (Nat × Nat)} (h:rF n l) {a:Nat} (ha:a < n):tN n l a=(List.range n).map (ee n l a):=by
 refine List.ext_getElem? fun i=>?_;by_cases hi:i < n
 ·have:=Na h ha hi
  grind [p9]
 ·grind [p9]
theorem Dc {n:Nat} {f:Nat->Nat->Bool} {a:Nat} (ha:a < n):(dj n f)[a]? = some ((List.range n).map (f a)):=by
 simp [dj,List.getElem?_range ha]
theorem Kc {l:List Wd} {i:Nat} {x:Wd} (h:l[i]? = some x):au (l.take (i + 1))=au (l.take i) ++ [x.s]:=by
 rw [List.take_add_one,h];simp [au]
theorem P4 (l:List Wd) (s:ByteArray):cp l s=true↔s∈au l:=by grind [cp,au]
theorem lT {l:List Wd} {i:Nat} {x:Wd} (h:l[i]? = some x) (hn:(au (l.take i)).Nodup):(au (l.take (i + 1))).Nodup↔cp (l.take i) x.s=false:=by grind [Kc,cp,P4]
theorem zg {l:List Wd} {i:Nat} {x:Wd} (a:Int) (h:l[i]? = some x) (hn:(au (l.take i)).Nodup) :
  gq (au (l.take (i + 1))) x.s a=if aA l i x≠0 then (aA l i x,a) else (0,0):=by
 have hs:=lT h hn;unfold gq aA;by_cases h1:bc x.s=true
 ·grind
 ·rw [ai h1,ai h1];all_goals rfl
theorem lU {l:List Wd} {i:Nat} {x:Wd} (h:l[i]? = some x) (hn:(au (l.take i)).Nodup) (hz:aA l i x=0):(au (l.take (i + 1))).Nodup:=by grind [lT,aA,bc,cp]
theorem zh (l:List Wd):∀ (d e:Nat),e + d=l.length->(enumP l e)=(0,0)->(au (l.take e)).Nodup->enumP l l.length=enumL l e (l.drop e)
 | 0,e,hd,hz,hn=>by
  have:e=l.length:=by omega
  subst this;rw [hz,List.drop_length];all_goals rfl
 | d + 1,e,hd,hz,hn=>by
  obtain ⟨x,hx⟩:∃ x,l[e]? = some x:=⟨_,gE (by omega)⟩;have h1:=vu (by rw [hz]) hx;rw [zg x.a hx hn] at h1;rw [drop_cons hx];simp only [enumL];by_cases hf:aA l e x≠0
  ·rw [aj hf] at h1 ⊢;have aY:=oO (l:=l) (e:=e + 1) (by rw [h1];exact hf) d
   grind
  ·rw [ai hf] at h1 ⊢;exact zh l d (e + 1) (by omega) h1 (lU hx hn (sU hf))
theorem Nb (h:Hd):mT h=hZ h:=by
 unfold mT hZ;by_cases h0:h.af=[]
 ·rw [aj h0,aj (by simp [h0])]
 ·rw [ai h0,ai (sU h0)];by_cases h1:64 < h.af.length
  ·rw [aj h1,aj h1]
  ·rw [ai h1,ai h1];have:=zh h.af h.af.length 0 (by omega) rfl (by simp [au]);simpa using this
def oR (p:Ph):Ph:=⟨p.name,true,[],0,0,0,0,[]⟩
theorem P5 (p:Ph) (t:Ty):cM p t (oR p) cr=(ch p iH && sameTy t cr):=by grind [ch,oR,iH,cM]
theorem empty_eq (p:Ph):cM p cr eS cr=(decide (p.name.s=emptyB) && ch p eS):=by
 have e:sameTy cr cr=true:=by simp [cr,Mq,sameTy,kp,samePts,sameWds]
 simp only [cM,e,Bool.and_true];rfl
def cI (L:List ByteArray) (s:ByteArray):Option Nat:=bJ (fun i=>decide (L[i]? = some s)) L.length
theorem cQ {L:List ByteArray} {s:ByteArray} {p:Nat} (h:cI L s=some p):p < L.length/\L[p]? = some s/\∀ j,L[j]? = some s->p<=j:=by
 obtain ⟨h1,h2,h3⟩:=dT h
 grind
theorem AU {L:List ByteArray} {s:ByteArray} {p:Nat} (h1:L[p]? = some s) (h2:∀ j,L[j]? = some s->p<=j):cI L s=some p:=by
 refine cH (gS h1).1 (sU h1) fun a ha=>?_
 grind
theorem rH {L:List ByteArray} {s:ByteArray} (h:∀ j:Nat,L[j]? ≠ some s):cI L s=none:=dh fun a _=>by simpa using h a
theorem ya {L:List ByteArray} {s:ByteArray}:cI L s=none↔s ∉ L:=by
 constructor
 ·intro h hm;obtain ⟨j,hj⟩:=List.mem_iff_getElem?.1 hm
  grind [cI,bJ]
 ·grind [rH]
theorem ig (L:List ByteArray) (az:List Nat) (s:ByteArray) (hT:gJ L az) (hl:az.length<=1099511627776) :
  EvP prog 115 [.pt (cC L az) 0,.v (.string s)] (M6 (cI L s)):=by
 by_cases hm:s∈L
 ·obtain ⟨j,hj⟩:=List.mem_iff_getElem?.1 hm;obtain ⟨q,p,hq,hp⟩:=hT.all j s hj;rw [AU hp fun j' jd=>hT.fst q p j' s hq hp jd];exact find_spec L az s q p hT hl hq hp
 rw [rH fun j hj=>hm (mG hj)]
 let pr:Nat->Prop:=fun i=>i=az.length∨∃ p t,az[i]? = some p/\L[p]? = some t/\Az t s=false
 obtain ⟨m,iE,Ai⟩:=least (p:=pr) ⟨az.length,.inl rfl⟩;have hmn:m<=az.length:=Ai _ (.inl rfl);refine eG 47 [.tmp 4,.tmp 5] func115 rfl ntmps115 rfl fun _ _ _ _=>?_
 have j1:∀ i:Nat,i < az.length->EvP prog 201 [.v (.int .i64 i),.pt [.pt (cC L az) 0] 0,.pt [.v (.string s)] 0] (.v (.bool (decide (m<=i)))):=by
  intro i hi;obtain ⟨p',x6⟩:∃ p',az[i]? = some p':=⟨_,gE hi⟩;obtain ⟨t,ht⟩:∃ t,L[p']? = some t:=⟨_,gE (hT.lt i p' x6)⟩;have:=vb L az s i p' t x6 ht
  have e:(!Az t s)=decide (m<=i):=by
   by_cases h:m<=i
   ·have:Az t s=false:=by
     rcases iE with iE | ⟨p,u,h1,h2,h3⟩
     ·omega
     ·rcases Nat.lt_or_eq_of_le h with h4 | h4
      ·have h5:=hT.srt m i p p' u t h4 h1 x6 h2 ht;cases h6:Az t s
       ·rfl
       ·grind [fJ,Az]
      ·grind
    simp [this,h]
   ·grind
  rw [e] at this;exact this
 have hS:=sB 201 Rs [.pt [.pt (cC L az) 0] 0,.pt [.v (.string s)] 0] az.length m hl hmn ax rfl j1;refine Aw Rr hS (ra (bl az)) rfl ?_;refine dI ?_;refine br ?_ ?_<;>intro h
 ·have al:m < az.length:=by grind [dInts,bl]
  rcases iE with iE | ⟨p,t,h1,h2,h3⟩
  ·omega
  refine iX (dK h1) ?_;refine iX (eJ h2) ?_;refine br ?_ ?_<;>intro h4
  ·exact ⟨_,ax,rfl⟩
  ·grind [ak]
 ·exact ⟨_,ax,rfl⟩
def fw (l:List Wd) (o:List (Wd × Wd)):Ft:=
 if l=[] then (15,0)
 else if 32 < l.length then (8,((l[32]?).getD (⟨emptyB,0⟩:Wd)).a)
 else if 256 < o.length then (8,((o[256]?).getD ((⟨emptyB,0⟩,⟨emptyB,0⟩):Wd × Wd)).1.a)
 else (0,0)
theorem Kd (l:List Wd) (o:List (Wd × Wd)):EvP prog 103 [.sl 2 (bq l) none,.sl 4 (mv o) none] (fw l o).d:=by
 refine eG 30 [.cell 4 44] func103 rfl ntmps103 rfl fun _ _ _ _=>?_;refine br ?_ ?_<;>intro h
 ·have h:l=[]:=by simpa [av] using h
  refine ⟨_,?_,rfl⟩;rw [fw,aj h];exact ax
 have h:¬ l=[]:=by simpa [av] using h
 refine br ?_ ?_<;>intro h1
 ·have h1:32 < l.length:=by simp [av] at h1;omega
  obtain ⟨x,hx⟩:∃ x,l[32]? = some x:=⟨_,gE h1⟩;refine ⟨jA x,⟨by omega,aK hx⟩,?_⟩;refine ⟨_,?_,rfl⟩;rw [fw,ai h,aj h1,hx];exact ax
 have h1:¬ 32 < l.length:=by simp [av] at h1;omega
 refine br ?_ ?_<;>intro h2
 ·have h2:256 < o.length:=by simp [fv] at h2;omega
  obtain ⟨x,hx⟩:∃ x,o[256]? = some x:=⟨_,gE h2⟩;refine ⟨Lj x,⟨by omega,gw hx⟩,?_⟩;refine ⟨_,?_,rfl⟩;rw [fw,ai h,ai h1,aj h2,hx];exact ax
 have h2:¬ 256 < o.length:=by simp [fv] at h2;omega
 refine ⟨_,?_,rfl⟩;rw [fw,ai h,ai h1,ai h2];exact ax
def Yv (f:Ft) (L:List ByteArray):DV:=.tup [if f.1=0 then .sl 1 (ey L) none else .v (.slice none 0 0),f.d]
abbrev R0 (l:List Wd) (n e:Nat):St:=
 ⟨[aw 3 0,(4,⟨[],.sl 1 (ey (au (l.take e))) (some 0)⟩),aU 7 2 (bq l),ap 8 ((bq l).length),ap 9 e],[[.v (.int .i64 0),.v (.int .i64 0)]],[⟨n,9,1,none⟩]⟩
theorem oS {all:List Wd} {e:Nat} {w:Wd} (h:all[e]? = some w):enumL all e (all.drop e)=if aA all e w≠0 then (aA all e w,w.a) else enumL all (e + 1) (all.drop (e + 1)):=by
 rw [drop_cons h,enumL]
theorem Dd (l:List Wd) (hs:wdsWt l<=1099511627776):EvP prog 104 [.sl 2 (bq l) none] (Yv (enumL l 0 l) (au l)):=by
 have mh:=bi l;refine eG 36 [.tmp 2,.cell 3 44] func104 rfl ntmps104 rfl fun _ _ _ _=>?_;refine lI (fun j st=>∃ e:Nat,st=R0 l e e/\e<=l.length/\(au (l.take e)).Nodup/\enumL l 0 l=enumL l e (l.drop e)/\j=l.length - e) ⟨0,rfl,by omega,by simp [au],rfl,rfl⟩ (fq ⟨0,9,1,none⟩ rfl ⟨_,rfl⟩ rfl wA rfl rfl jT) ?_;rintro j st ⟨e,rfl,he,hnd,aG,rfl⟩;rw [aG];refine br ?_ ?_<;>intro hL
 ·have al:e < l.length:=by simpa [av] using hL
  obtain ⟨w,hw⟩:=gX al;have ub:=gY (mG hw);have di:=je hw;have aY:=oS hw;have x7:=lT hw hnd;have Nc:=oN (au (l.take (e + 1))) (by simp [au];omega);rw [<- di] at Nc;refine ⟨jA w,⟨by omega,aK hw⟩,?_⟩;refine ⟨by simp [bL,au];omega,⟨by simp [bL,au,maxLen];omega,by simp [bL,au];omega⟩,?_⟩;refine cP CD (jB w.s (by omega)) ?_;refine br ?_ ?_<;>intro hN
  ·have hN:bc w.s=false:=sU hN;have hf:aA l e w=9:=by simp [aA,hN]
   rw [aY,hf,aj (by decide)];refine dS ?_;exact ⟨_,ax,rfl⟩
  ·have hN:bc w.s=true:=sU hN;refine bp L8 rfl Nc ax (fun r hr=>?_);obtain ⟨z,rfl,hz⟩:=hr;refine br ?_ ?_<;>intro h2
   ·have h2:0<=z:=sU h2;have hd:cp (l.take e) w.s=true:=by grind
    have hf:aA l e w=10:=by simp [aA,hN,hd]
    rw [aY,hf,aj (by decide)];refine dS ?_;exact ⟨_,ax,rfl⟩
   ·have h2:¬ 0<=z:=sU h2;have x8:(au (l.take (e + 1))).Nodup:=Classical.byContradiction fun hn=>h2 (hz.2 hn);have hf:aA l e w=0:=by simp [aA,hN,x7.1 x8]
    rw [hf,ai (by simp)] at aY;refine ⟨R0 l (e + 1) (e + 1),(wkM (wB2 (nxt al (by omega)) di)),l.length - (e + 1),by omega,e + 1,rfl,by omega,x8,aY,rfl⟩
 ·have aM:e=l.length:=by
   have:=hL;simp [av] at this;omega
  have h0:enumL l e (l.drop e)=(0,0):=by rw [aM,List.drop_length];all_goals rfl
  rw [h0];have ht:l.take e=l:=by rw [aM,List.take_length]
  rw [ht];exact ⟨_,ax,rfl⟩
def numF (L:List ByteArray):List (Wd × Wd)->Ft
 | []=>(0,0)
 | p :: r=>if cI L p.1.s=none then (17,p.1.a) else if cI L p.2.s=none then (17,p.2.a) else numF L r
def Uc (L:List ByteArray) (p:Wd × Wd):Nat × Nat:=((cI L p.1.s).getD 0,(cI L p.2.s).getD 0)
def cW (L:List ByteArray) (o:List (Wd × Wd)):List (Nat × Nat):=o.map (Uc L)
def Yw (f:Ft) (l:List (Nat × Nat)):DV:=.tup [if f.1=0 then .sl 2 (lP l) none else .v (.slice none 0 0),f.d]
theorem zi {L:List ByteArray} {o:List (Wd × Wd)} {e a b:Nat} {x:Wd × Wd} (h:o[e]? = some x) (ha:cI L x.1.s=some a) (hb:cI L x.2.s=some b):lP (cW L (o.take e)) ++ [[DV.v (.int .i64 (a:Int)),DV.v (.int .i64 (b:Int))]]=lP (cW L (o.take (e + 1))):=by
 rw [List.take_add_one,h];simp [lP,cW,Uc,ha,hb,dNP]
abbrev R4 (L:List ByteArray) (az:List Nat) (o:List (Wd × Wd)) (n e:Nat):St:=
 ⟨[oJ 0 (cC L az),aw 5 0,(6,⟨[],.sl 2 (lP (cW L (o.take e))) (some 0)⟩),aU 12 4 (mv o),ap 13 ((mv o).length),ap 14 e],[[.v (.int .i64 0),.v (.int .i64 0)]],[⟨n,291,2,none⟩]⟩
theorem yb (L:List ByteArray) (az:List Nat) (hT:gJ L az) (hl:az.length<=1099511627776) (o:List (Wd × Wd)) (hs:prsWt o<=1099511627776) :
  EvP prog 106 [.pt (cC L az) 0,.sl 4 (mv o) none] (Yw (numF L o) (cW L o)):=by
 have mh:=ib o;refine eG 55 [.tmp 4,.cell 5 44] func106 rfl ntmps106 rfl fun _ _ _ _=>?_;refine lI (fun j st=>∃ e:Nat,st=R4 L az o e e/\e<=o.length/\numF L o=numF L (o.drop e)/\j=o.length - e) ⟨0,rfl,by omega,rfl,rfl⟩ (fq ⟨0,291,2,none⟩ rfl ⟨_,rfl⟩ rfl wA rfl rfl jT) ?_;rintro j st ⟨e,rfl,he,aG,rfl⟩;rw [aG];refine br ?_ ?_<;>intro hL
 ·have al:e < o.length:=by simpa [fv] using hL
  obtain ⟨w,hw⟩:=gX al;have aY:numF L (o.drop e)=if cI L w.1.s=none then (17,w.1.a) else if cI L w.2.s=none then (17,w.2.a) else numF L (o.drop (e + 1)):=by rw [drop_cons hw,numF]
  have J3:=ig L az w.1.s hT hl;have yE:=ig L az w.2.s hT hl;refine ⟨Lj w,⟨by omega,gw hw⟩,?_⟩
  cases ha:cI L w.1.s with
  | none=>
   rw [ha] at J3;refine cP mO J3 ?_;rw [aY,aj ha];refine dS ?_;exact ⟨_,ax,rfl⟩
  | some a=>
   rw [ha] at J3;refine cP mO J3 ?_
   cases hb:cI L w.2.s with
   | none=>
    rw [hb] at yE;refine cP mO yE ?_;rw [aY,ai (by rw [ha];simp),aj hb];refine dS ?_;exact ⟨_,ax,rfl⟩
   | some b=>
    rw [hb] at yE;refine cP mO yE ?_;rw [ai (by rw [ha];simp),ai (by rw [hb];simp)] at aY;refine ⟨by simp [gx,cW];omega,⟨by simp [gx,cW,maxLen];omega,by simp [gx,cW];omega⟩,?_⟩;refine ⟨R4 L az o (e + 1) (e + 1),(wkM (wB2 (nxt al (by omega)) (zi hw ha hb))),o.length - (e + 1),by omega,e + 1,rfl,by omega,aY,rfl⟩
 ·have aM:e=o.length:=by
   have:=hL;simp [fv] at this;omega
  have h0:numF L (o.drop e)=(0,0):=by rw [aM,List.drop_length];all_goals rfl
  rw [h0];have ht:o.take e=o:=by rw [aM,List.take_length]
  rw [ht];exact ⟨_,ax,rfl⟩
end Go.Proofs.YtgjagnmeonoehaaGreat
