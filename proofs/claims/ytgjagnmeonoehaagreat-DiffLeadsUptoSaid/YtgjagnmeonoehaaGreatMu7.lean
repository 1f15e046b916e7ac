/- Part 7 of the proof: The least depths of the values of a plan's nodes: plain; The program's nodes, least depths; The document's least depths; fine; the chapter's example; The program's Depths; The law of least depths: fine, the example, the call returns true; The document's Fits; Written values: well formed; the document's Same on the same value; its Raw; ref25.Paths; tree: walk, Paths; What is different between two values: plain; How what is seen of values is written: the program's write; A text's first units: the document's Head, the program's heads, floors; The numbers of a plan's nodes are ints; A region that draws its order, in which a new object may come at any time among calls: its run with the object made at each of these times serves every order; Where steps lead: the document's Edge, Walk; the program's; The program's way along steps: fits, step, Walk; With which schemas nothing is wrong: the document's Wrong of chapters 20, 21; the law's fine; Which levels see a place: the program's Who; A region that draws its order, run by a schedule: at each point all that may come and has an effect is tried; The document's rows of an audit: With, Under, How, Rows; What is seen of a value: the document's Edge, Coarse, Erase, Seen; How what is seen of values is written: Compact; the document's open, end, Text; How what is seen of values is written: the document's Text; what is seen may be written; Documents: plain (as values); the program's Text, Line, Soft, Cat, Nest, Group; What is seen of a value: the program's look, sees, coarsely, edge, coarse; The document's Kid, Get, Set of a value that fits; The document's Same of values, Set; The document's rows of an audit; All rows of an audit, by the document; the law's bounds; Alike, differ: the document's; What is seen of a value: the program's erase, Erase, Hidden; Which values may be what is seen of one: shell, May, outer, plain, the document's May; Which values may be what is seen of one: the program's fits, Fits, the document's Fits, Seeable; The law of what may be seen; What is seen may be written; the example of chapter 33; the laws of Leaf and Compact; The example of chapter 33; the laws of Leaf and Compact: the calls return true; The document of what is seen of a value: plain, and the program's; What is different between two values: the program's near, step, to, own; Regions that draw their order, in which two new objects may come in either order; What is different between two values: the program's walk; The program's rows of an audit: step, sees, row; The program's rows of an audit: walk, Rows; How kinds of types, and ways of seeing, are called; The program's rows of an audit: Rows; What is different between two values: the program's Diff; the document's Changes; What is different between two values: the example's texts; What is different between two values: the document's Changes; What is different between two values: the chapter's example; the law of Diff; What is different between two values: the law of Diff; A change is applied: the closure that puts a value in another's place; Rules for the evaluator: a slice literal without elements, its cells known; A clone of values; the closure that lengthens or shortens a list. No condition. -/
import Derived.Test.YtgjagnmeonoehaaGreatMu2
import Derived.Test.YtgjagnmeonoehaaGreatMu3
import Derived.Test.YtgjagnmeonoehaaGreatMu5
import Derived.Test.YtgjagnmeonoehaaGreatMu6
set_option linter.all false
set_option maxRecDepth 100000
namespace Go.Proofs.YtgjagnmeonoehaaGreat
open Go Go.RowKit Dv Go.Proofs.Tryz
def qS (K:List Nat) (e:Ed):Nat:=K.getD e.to.toNat 0
def leastR (K:List Nat):List Ed->Nat->Nat
 | [],m=>m + 1
 | e :: r,m=>if qS K e=0 then 0 else leastR K r (max m (qS K e))
def fw (K:List Nat):List Ed->Nat->Nat
 | [],b=>if b=0 then 0 else b + 1
 | e :: r,b=>if e.bare=true then 1 else if 0 < qS K e/\(b=0∨qS K e < b) then fw K r (qS K e) else fw K r b
def ij (n:Nd) (K:List Nat):Nat:=if n.ag=7 then leastR K n.az 0 else if n.ag=8 then fw K n.az 0 else 1
def depN (ND:List Nd):Nat->List Nat
 | 0=>List.replicate ND.length 0
 | d + 1=>ND.map fun n=>ij n (depN ND d)
theorem gM (ND:List Nd):∀ d,(depN ND d).length=ND.length
 | 0=>by simp [depN]
 | d + 1=>by simp [depN]
theorem depN_get (ND:List Nd) (d j:Nat):(depN ND (d + 1)).getD j 0=match ND[j]? with | none=>0 | some n=>ij n (depN ND d):=by grind [depN]
def N9 (d:Nat) (A B:List Nat):Prop:=∀ j:Nat,(0 < A.getD j 0->B.getD j 0=A.getD j 0/\A.getD j 0<=d)/\(A.getD j 0=0->B.getD j 0=0∨B.getD j 0=d + 1)
theorem L7 {d:Nat} {A B:List Nat} (h:N9 d A B) (j:Nat):B.getD j 0<=d + 1:=by
 obtain ⟨h1,h2⟩:=h j;omega
theorem oX {K:List Nat}:∀ {es:List Ed} {m:Nat},leastR K es m=0↔∃ e∈es,qS K e=0
 | [],m=>by simp [leastR]
 | e :: r,m=>by
  rw [leastR];by_cases h:qS K e=0
  ·grind
  ·rw [ai h,oX]
   grind
theorem vb {d:Nat} {A B:List Nat} (hR:N9 d A B):∀ {es:List Ed} {m:Nat},0 < leastR A es m->leastR B es m=leastR A es m
 | [],m,_=>rfl
 | e :: r,m,h=>by
  rw [leastR] at h ⊢;rw [leastR];by_cases h0:qS A e=0
  ·rw [aj h0] at h;omega
  rw [ai h0] at h ⊢;have h1:qS B e=qS A e:=((hR e.to.toNat).1 (by unfold qS at h0;omega)).1;rw [h1,ai h0];exact vb hR h
theorem zm {d:Nat} {A B:List Nat} (hR:N9 d A B):∀ {es:List Ed} {m:Nat},m<=d + 1->(m=d + 1∨∃ e∈es,qS A e=0)->leastR B es m=0∨leastR B es m=d + 2
 | [],m,_,h=>by grind [leastR]
 | e :: r,m,hm,h=>by
  rw [leastR];by_cases h0:qS B e=0
  ·rw [aj h0];exact .inl rfl
  rw [ai h0];have gk:qS B e<=d + 1:=L7 hR _;refine zm hR (by omega) ?_;rcases h with h | ⟨x,hx,h⟩
  ·left;omega
  ·rcases dB hx with rfl | hx
   ·left;have:=(hR x.to.toNat).2 h;unfold qS at h0 gk ⊢;omega
   ·exact .inr ⟨x,hx,h⟩
theorem nC {d:Nat} {A B:List Nat} (hR:N9 d A B):∀ {es:List Ed} {a b:Nat},(0 < a->b=a/\a<=d)->(a=0->b=0∨b=d + 1) ->
  (0 < fw A es a->fw B es b=fw A es a)/\(fw A es a=0->fw B es b=0∨fw B es b=d + 2)
 | [],a,b,h1,h2=>by grind [fw]
 | e :: r,a,b,h1,h2=>by
  rw [fw,fw];by_cases hb:e.bare=true
  ·grind
  rw [ai hb,ai hb];obtain ⟨g1,g2⟩:=hR e.to.toNat;change (0 < qS A e->qS B e=qS A e/\qS A e<=d) at g1;change (qS A e=0->qS B e=0∨qS B e=d + 1) at g2;by_cases c1:0 < qS A e/\(a=0∨qS A e < a)<;>by_cases c2:0 < qS B e/\(b=0∨qS B e < b)
  ·rw [aj c1,aj c2];exact nC hR (by omega) (by omega)
  ·omega
  ·rw [ai c1,aj c2];exact nC hR (by omega) (by omega)
  ·rw [ai c1,ai c2];exact nC hR (by omega) (by omega)
theorem J4 {d:Nat} {A B:List Nat} (hR:N9 d A B) (n:Nd):(0 < ij n A->ij n B=ij n A)/\(ij n A=0->ij n B=0∨ij n B=d + 2):=by
 unfold ij;by_cases h7:n.ag=7
 ·rw [aj h7,aj h7];exact ⟨vb hR,fun h=>zm hR (by omega) (.inr (oX.1 h))⟩
 grind [nC]
theorem G9 (N:Nat) (e:Ed):qS (List.replicate N 0) e=0:=by grind [qS]
theorem vc (N:Nat):∀ es:List Ed,fw (List.replicate N 0) es 0=0∨fw (List.replicate N 0) es 0=1
 | []=>.inl rfl
 | e :: r=>by
  rw [fw,G9];by_cases hb:e.bare=true
  ·rw [aj hb];exact .inr rfl
  ·rw [ai hb,ai (by omega)];exact vc N r
theorem Ha (N:Nat) (n:Nd):ij n (List.replicate N 0)=0∨ij n (List.replicate N 0)=1:=by
 unfold ij;by_cases h7:n.ag=7
 ·rw [aj h7]
  cases h:n.az with
  | nil=>right;rfl
  | cons e r=>left;rw [leastR,G9,aj rfl]
 grind [vc]
theorem Oa (ND:List Nd) (j:Nat):(depN ND 0).getD j 0=0:=by grind [depN]
theorem Hb (ND:List Nd):∀ d,N9 d (depN ND d) (depN ND (d + 1))
 | 0=>fun j=>by
  refine ⟨fun h=>by rw [Oa] at h;omega,fun _=>?_⟩;rw [depN_get]
  cases ND[j]? with
  | none=>exact .inl rfl
  | some n=>exact Ha _ n
 | d + 1=>fun j=>by
  have ih:=Hb ND d
  grind [depN_get,J4,L7]
def gN (K:List Nat):List Bool:=K.map fun k=>decide (0 < k)
theorem zo (K:List Nat) (j:Nat):(gN K).getD j false=decide (0 < K.getD j 0):=by grind [gN]
theorem oY (K:List Nat):(gN K).length=K.length:=by simp [gN]
theorem Sx {A B:List Nat} (hl:A.length=B.length) (h:∀ j,A.getD j 0=B.getD j 0):A=B:=by
 refine List.ext_getElem hl fun j h1 h2=>?_;have:=h j
 grind
def vQ (K:List Bool) (e:Ed):Bool:=e.bare || K.getD e.to.toNat false
def L8 (n:Nd) (K:List Bool):Bool:=if n.ag < 7 then true else if n.ag=7 then n.az.all (vQ K) else n.az.any (vQ K)
theorem qT {K:List Nat}:∀ {es:List Ed} {b:Nat},0 < fw K es b↔(0 < b∨es.any (vQ (gN K))=true)
 | [],b=>by grind [fw]
 | e :: r,b=>by
  have hg:(gN K).getD e.to.toNat false=decide (0 < qS K e):=zo K _;rw [fw,List.any_cons];by_cases hb:e.bare=true
  ·rw [aj hb];simp [vQ,hb]
  ·rw [ai hb]
   have v7:vQ (gN K) e=decide (0 < qS K e):=by
    unfold vQ;rw [hg];simp [hb]
   rw [v7,Bool.or_eq_true,decide_eq_true_eq];split
   ·rename_i h1;rw [qT];omega
   ·rename_i h1;rw [qT]
    grind
theorem J5 {n:Nd} {K:List Nat} (h8:n.ag<=8) (hb:∀ e∈n.az,e.bare=true->n.ag=8):(0 < ij n K)↔L8 n (gN K)=true:=by
 unfold ij L8
 grind [leastR,oX,qS,gN,zo,vQ,qT]
theorem Sy {ND:List Nd} (hN:∀ n∈ND,n.ag<=8/\∀ e∈n.az,e.bare=true->n.ag=8) (d:Nat) {i:Nat} {n:Nd} (h:ND[i]? = some n) :
  (depN ND (d + 1)).getD i 0=(if L8 n (gN (depN ND d))=true/\(depN ND d).getD i 0=0 then d + 1 else (depN ND d).getD i 0) /\
  (gN (depN ND (d + 1))).getD i false=L8 n (gN (depN ND d)):=by
 obtain ⟨h8,hb⟩:=hN n (mG h);have hp:=J5 (K:=depN ND d) h8 hb;have hg:(depN ND (d + 1)).getD i 0=ij n (depN ND d):=by rw [depN_get,h]
 obtain ⟨h1,h2⟩:=(Hb ND d) i;refine ⟨?_,?_⟩
 ·grind
 ·grind [zo]
def cN (l:List Nat):List DV:=l.map fun (z:Nat)=>DV.v (.int .i64 (z:Int))
theorem Sz (l:List Nat):(cN l).length=l.length:=by simp [cN]
theorem ZP {l:List Nat} {i z:Nat} (h:l[i]? = some z):(cN l)[i]? = some (DV.v (.int .i64 (z:Int))):=by simp [cN,h]
theorem ZQ (l:List Nat) (i z:Nat):(cN l).set i (DV.v (.int .i64 (z:Int)))=cN (l.set i z):=by simp [cN,List.map_set]
theorem zp (l:List Nat):(dInts l).flatten=cN l:=by
 induction l with
 | nil=>rfl
 | cons b r ih=>simp only [dInts,cN,List.map_cons,List.flatten_cons] at ih ⊢;rw [ih];all_goals rfl
theorem repN (n:Nat):(List.replicate n (vL [Value.int .i64 0])).flatten=cN (List.replicate n 0):=by
 induction n with
 | zero=>rfl
 | succ n ih=>simp only [List.replicate_succ,List.flatten_cons,ih];rfl
theorem dw {n m:Nat} {tk:List TkE} {l:List DV} {r:List Nat} (h:l=cN r):WeL n m tk l (cN r):=by
 subst h;refine xY _ fun x hx=>?_;obtain ⟨z,_,rfl⟩:=List.mem_map.1 hx;exact ⟨_,rfl⟩
theorem ms_n {bx:List (List DV)} {N n0 m0 n i:Nat} {r:List Nat} (hr:r.length=n) (hN:N<=i) (hb:bx[i]? = some (cN r)):Cc bx N n0 m0 (.sl 1 (dInts r) none) (.ms i 1 0 n n):=by
 simp only [Cc];refine Or.inr (Or.inr (Or.inl ⟨i,0,n,_,by rw [bN,hr],hN,hb,?_,?_,?_⟩))
 ·grind [zp,Sz,bN]
 ·grind [dInts]
 ·intro x hx;rw [zp] at hx;obtain ⟨_,_,rfl⟩:=List.mem_map.1 hx;exact .inl ⟨_,rfl⟩
abbrev XH (n:Nd) (K:List Bool) (s v:Bool) (e:Nat):St:=
 ⟨[bi 1 1 (yw K),aF 2 0,Cu 5 s,Cu 6 v,ay 7 e],[kg n],[]⟩
theorem J6 {L:Nat} {n:Nd} (K:List Bool) (hK:K.length<=1099511627776) (hn:cr L K.length n) (pU:n.az.length<=1099511627776) :
  EvP prog 244 [.agg (kg n),.sl 1 (yw K) none] (.v (.bool (L8 n K))):=by
 have lu:=hn.gq;have aeQ:=hn.bare;have GG:=hn.k8;obtain ⟨ag,at',lo,hi,most,af,es⟩:=n;simp only at lu aeQ pU GG;refine eG 50 [.tmp 4] func244 rfl ntmps244 rfl fun _ _ _ _=>?_;refine br ?_ ?_<;>intro h7
 ·have h7:ag < 7:=sU h7;refine (bK ?_:);simp [L8,h7]
 have h7:¬ ag < 7:=sU h7;refine aT (fun j st=>∃ e:Nat,st=XH ⟨ag,at',lo,hi,most,af,es⟩ K ((es.take e).any (vQ K)) ((es.take e).all (vQ K)) e/\e<=es.length/\j=es.length - e) es.length (XH ⟨ag,at',lo,hi,most,af,es⟩ K false true 0) (bG wB) ⟨0,by simp,by omega,by omega⟩ ?_;rintro j st ⟨e,rfl,he,rfl⟩;refine br ?_ ?_<;>intro hL
 ·have aw:e < es.length:=by have:=hL;simp [cW] at this;exact this
  obtain ⟨x,hx⟩:=gX aw;refine iX (bH hx) ?_;have hs:(es.take (e + 1)).any (vQ K)=((es.take e).any (vQ K) || vQ K x):=by rw [List.take_add_one,hx];simp
  have hv:(es.take (e + 1)).all (vQ K)=((es.take e).all (vQ K) && vQ K x):=by rw [List.take_add_one,hx];simp
  generalize (es.take e).any (vQ K)=s at hs ⊢;generalize (es.take e).all (vQ K)=v at hv ⊢;refine br ?_ ?_<;>intro hb
  ·have hb:x.bare=false:=sU hb;obtain ⟨k,hk,lf⟩:=(lu x (mG hx)).to1 hb;obtain ⟨b,fx⟩:∃ b,K[k]? = some b:=⟨_,gE lf⟩;have hg:(yw K)[(max x.to 0).toNat]? = some [DV.v (.bool b)]:=by rw [show (max x.to 0).toNat=k by omega];exact LD fx
   have hik:vQ K x=b:=by unfold vQ;rw [hb,hk];simp [eO,fx]
   rw [hik] at hs hv;refine iX (bH hx) ?_;refine ⟨_,⟨by omega,hg⟩,?_⟩;have e5:pickB s true b=(es.take (e + 1)).any (vQ K):=by rw [hs,au]
   have e6:pickB v b false=(es.take (e + 1)).all (vQ K):=by rw [hv,aq]
   exact rE ⟨_,by omega,e + 1,rfl,by omega,rfl⟩ (bG (Wa e5 e6 (aX aw (by omega))))
  ·have hb:x.bare=true:=sU hb;have hik:vQ K x=true:=by unfold vQ;rw [hb];all_goals rfl
   rw [hik] at hs hv;have e5:pickB s true true=(es.take (e + 1)).any (vQ K):=by rw [hs,au]
   have e6:pickB v true false=(es.take (e + 1)).all (vQ K):=by rw [hv,aq]
   exact rE ⟨_,by omega,e + 1,rfl,by omega,rfl⟩ (bG (Wa e5 e6 (aX aw (by omega))))
 ·have hge:e=es.length:=by have:=hL;simp [cW] at this;omega
  subst hge;rw [List.take_length];refine br ?_ ?_<;>intro g
  ·have g:ag=7:=sU g;refine (bK ?_:);simp [L8,g]
  ·have g:¬ ag=7:=sU g;refine (bK ?_:);simp [L8,g,h7]
theorem aeR {bx:List (List DV)} {N n0 m0 n i:Nat} {r:List Bool} (hr:r.length=n) (hN:N<=i) (hb:bx[i]? = some (cB r)):Cc bx N n0 m0 (.sl 1 (yw r) none) (.ms i 1 0 n n):=by
 simp only [Cc];refine Or.inr (Or.inr (Or.inl ⟨i,0,n,_,by rw [wj,hr],hN,hb,?_,?_,?_⟩))
 ·grind [sb,tW,wj]
 ·grind [yw]
 ·intro x hx;rw [sb] at hx;obtain ⟨_,_,rfl⟩:=List.mem_map.1 hx;exact .inl ⟨_,rfl⟩
theorem SA (l:List Nat) (bx:List (List DV)) (N n m:Nat):CcL bx N n m (cN l) (cN l):=by
 induction l with
 | nil=>rfl
 | cons a r ih=>exact ⟨_,_,rfl,rfl,ih⟩
abbrev wG (a b:Nat) (A B:List (List DV)) (ND:List Nd) (z:Int):List DV:=[.sl a A none,.sl b B none,.sl 7 (dK ND) none,.v (.int .i64 z)]
abbrev SB (W:List DV) (O:List Nat) (K:List Bool) (n d:Nat):St:=
 ⟨[aF 1 0,(3,⟨[],.ms 1 1 0 n n⟩),bi 4 1 (yw K),ay 5 d],[W,cN O],[]⟩
abbrev Hc (W:List DV) (O:List Nat) (K:List Bool) (M:List Bool) (n d e:Nat):St:=
 ⟨[aF 1 0,(3,⟨[],.ms 1 1 0 n n⟩),bi 4 1 (yw K),ay 5 d,(6,⟨[],.ms 2 1 0 n n⟩),ay 7 e],[W,cN O,cB M],[]⟩
theorem Ai (a b:Nat) (A B:List (List DV)) {ND:List Nd} {L:Nat} (z:Int) (bA:∀ n∈ND,cr L ND.length n) (gR:ND.length<=1099511627776) (cf:∀ n∈ND,n.az.length<=1099511627776) :
  EvP prog 186 [.agg (wG a b A B ND z)] (.sl 1 (dInts (depN ND ND.length)) none):=by
 have cw:=oK ND;refine eG 61 [.tmp 2] func186 rfl ntmps186 rfl fun _ _ _ _=>?_;refine ⟨⟨rfl,by omega,by rw [cw];omega,by rw [cw];omega⟩,?_⟩;refine ⟨⟨rfl,by omega,by rw [cw];omega,by rw [cw];omega⟩,?_⟩;refine Q4 (fun j st=>∃ d:Nat,st=SB (wG a b A B ND z) (depN ND d) (gN (depN ND d)) (dK ND).length (d + 1)/\d<=ND.length/\j=ND.length - d) ND.length (SB (wG a b A B ND z) (depN ND 0) (gN (depN ND 0)) (dK ND).length 1) (.HS 2 rfl rfl ?_ rfl ?_) ⟨0,rfl,by omega,by omega⟩ ?_
 ·refine ⟨_,_,rfl,ax,_,_,rfl,?_,rfl⟩;rw [repN,cw];exact SA _ _ _ _ _
 ·refine ⟨⟨_,rfl,iP⟩,⟨_,rfl,iP⟩,⟨_,rfl,aeR (by rw [oY,gM,cw];omega) (aR _) ?_⟩,⟨_,rfl,ax⟩,trivial⟩;refine congrArg some ?_;rw [Nu,cw];simp [gN,depN]
 rintro j st ⟨d,rfl,hd,rfl⟩;have fV:(gN (depN ND d)).length=ND.length:=by rw [oY,gM]
 refine br ?_ ?_<;>intro hc
 ·have aw:d < ND.length:=sW cw hc;refine ⟨⟨rfl,by omega,by rw [cw];omega,by rw [cw];omega⟩,?_⟩;refine aT (fun j st=>∃ (e:Nat) (O:List Nat) (M:List Bool),st=Hc (wG a b A B ND z) O (gN (depN ND d)) M (dK ND).length (d + 1) e/\e<=ND.length/\O.length=ND.length/\M.length=ND.length/\(∀ i:Nat,i < e->O.getD i 0=(depN ND (d + 1)).getD i 0/\M.getD i false=(gN (depN ND (d + 1))).getD i false)/\(∀ i:Nat,e<=i->O.getD i 0=(depN ND d).getD i 0)/\j=ND.length - e) ND.length (Hc (wG a b A B ND z) (depN ND d) (gN (depN ND d)) (List.replicate ((dK ND).length:Int).toNat false) (dK ND).length (d + 1) 0) (dz 3 (by repeat' (first | exact rfl | exact aA rfl | exact dw rfl | exact cO (Nu _) | refine ⟨_,_,rfl,?_,?_⟩)) (by repeat' (first | exact trivial | exact aA rfl | exact dw rfl | exact cO (Nu _) | refine ⟨⟨_,rfl,?_⟩,?_⟩))) ⟨0,_,_,rfl,by omega,by rw [gM],by rw [List.length_replicate,cw];omega,fun i hi=>by omega,fun i _=>rfl,by omega⟩ ?_;rintro j st ⟨e,O,M,rfl,he,hO,hM,vW,Tv,rfl⟩;refine br ?_ ?_<;>intro hL
  ·have gk:e < ND.length:=by have:=hL;simp [cw] at this;exact this
   obtain ⟨n,hn⟩:∃ n,ND[e]? = some n:=⟨_,gE gk⟩;have nS:=mG hn;have h1:=J6 (gN (depN ND d)) (by rw [fV];exact gR) (n:=n) (by rw [fV];exact bA n nS) (cf n nS);obtain ⟨r1,r2⟩:=Sy (fun m hm=>⟨(bA m hm).k8,(bA m hm).bare⟩) d hn;refine iX (oL hn) ?_;refine cP acp h1 ?_
   have bd:(cB M).set (0 + (e:Int).toNat * 1) (DV.v (.bool (L8 n (gN (depN ND d)))))=cB (M.set e (L8 n (gN (depN ND d)))):=by
    rw [show 0 + (e:Int).toNat * 1=e by omega,C7]
   have HU:(cB (M.set e (L8 n (gN (depN ND d)))))[0 + (e:Int).toNat * 1]? = some (DV.v (.bool (L8 n (gN (depN ND d))))):=by
    rw [show 0 + (e:Int).toNat * 1=e by omega];exact Rx (gz (by omega))
   obtain ⟨q,hq⟩:∃ q,O[e]? = some q:=⟨_,gE (by omega)⟩;have hqd:(depN ND d).getD e 0=q:=by rw [<- Tv e (aR _),eO,hq];all_goals rfl
   rw [hqd] at r1
   have hMs:∀ i:Nat,i < e + 1->(M.set e (L8 n (gN (depN ND d)))).getD i false=(gN (depN ND (d + 1))).getD i false:=fun i hi=>by
    by_cases Iu:i=e
    ·subst Iu;rw [r2,eO,gz (by omega)];all_goals rfl
    ·rw [eO,List.getElem?_set_ne (Ne.symm Iu),<- eO];exact (vW i (by omega)).2
   generalize L8 n (gN (depN ND d))=h at bd HU r1 hMs ⊢;refine ⟨⟨by omega,by rw [cw];omega⟩,?_⟩;refine ⟨by rw [tW];omega,?_⟩;refine ⟨⟨by omega,by rw [cw];omega⟩,?_⟩;refine ⟨DV.v (.bool h),(by rw [bd];exact HU),?_⟩
   have hOs:∀ v,v=(depN ND (d + 1)).getD e 0->∀ i:Nat,i < e + 1->(O.set e v).getD i 0=(depN ND (d + 1)).getD i 0:=fun v hv i hi=>by
    by_cases Iu:i=e
    ·subst Iu;rw [<- hv,eO,gz (by omega)];all_goals rfl
    ·rw [eO,List.getElem?_set_ne (Ne.symm Iu),<- eO];exact (vW i (by omega)).1
   have hOr:∀ v:Nat,∀ i:Nat,e + 1<=i->(O.set e v).getD i 0=(depN ND d).getD i 0:=fun v i hi=>by
    rw [eO,List.getElem?_set_ne (by omega),<- eO];exact Tv i (by omega)
   have hOq:O.set e q=O:=List.ext_getElem? fun i=>by
    by_cases Iu:e=i
    ·subst Iu;rw [gz (by omega),hq]
    ·rw [List.getElem?_set_ne Iu]
   refine br ?_ ?_<;>intro g
   ·have g:h=true:=sU g;refine ⟨⟨by omega,by rw [cw];omega⟩,?_⟩;refine ⟨DV.v (.int .i64 (q:Int)),(by rw [show 0 + (e:Int).toNat * 1=e by omega];exact ZP hq),?_⟩;refine br ?_ ?_<;>intro g2
    ·have g2:q=0:=by simpa [pickB,pickD] using g2
     rw [aj ⟨g,g2⟩] at r1;refine ⟨⟨by omega,by rw [cw];omega⟩,?_⟩;refine ⟨by rw [Sz];omega,?_⟩
     have Pu:(cN O).set (0 + (e:Int).toNat * 1) (DV.v (.int .i64 ((d + 1:Nat):Int)))=cN (O.set e (d + 1)):=by
      rw [show 0 + (e:Int).toNat * 1=e by omega,ZQ]
     exact ⟨Hc (wG a b A B ND z) (O.set e (d + 1)) (gN (depN ND d)) (M.set e h) (dK ND).length (d + 1) (e + 1),(dz 3 (wA3 Pu bd (aX gk (by omega))) (Wa Pu bd (aX gk (by omega)))),ND.length - (e + 1),by omega,e + 1,_,_,rfl,by omega,by simp [hO],by rw [List.length_set];exact hM,fun i hi=>⟨hOs _ r1.symm i hi,hMs i hi⟩,hOr (d + 1),rfl⟩
    ·have g2:¬ q=0:=by simpa [pickB,pickD] using g2
     rw [ai (fun h=>g2 h.2)] at r1;exact ⟨Hc (wG a b A B ND z) (O.set e q) (gN (depN ND d)) (M.set e h) (dK ND).length (d + 1) (e + 1),(dz 3 (by repeat' (first | exact rfl | exact aA rfl | exact dw (by rw [hOq]) | exact cO bd | exact aD (aX gk (by omega)) | refine ⟨_,_,rfl,?_,?_⟩)) (by repeat' (first | exact trivial | exact aA rfl | exact dw (by rw [hOq]) | exact cO bd | exact aD (aX gk (by omega)) | refine ⟨⟨_,rfl,?_⟩,?_⟩))),ND.length - (e + 1),by omega,e + 1,_,_,rfl,by omega,by simp [hO],by rw [List.length_set];exact hM,fun i hi=>⟨hOs _ r1.symm i hi,hMs i hi⟩,hOr q,rfl⟩
   ·have g:h=false:=sU g;rw [ai (by rw [g];simp)] at r1;exact ⟨Hc (wG a b A B ND z) (O.set e q) (gN (depN ND d)) (M.set e h) (dK ND).length (d + 1) (e + 1),(dz 3 (by repeat' (first | exact rfl | exact aA rfl | exact dw (by rw [hOq]) | exact cO bd | exact aD (aX gk (by omega)) | refine ⟨_,_,rfl,?_,?_⟩)) (by repeat' (first | exact trivial | exact aA rfl | exact dw (by rw [hOq]) | exact cO bd | exact aD (aX gk (by omega)) | refine ⟨⟨_,rfl,?_⟩,?_⟩))),ND.length - (e + 1),by omega,e + 1,_,_,rfl,by omega,by simp [hO],by rw [List.length_set];exact hM,fun i hi=>⟨hOs _ r1.symm i hi,hMs i hi⟩,hOr q,rfl⟩
  ·have hge:e=ND.length:=sW cw hL;subst hge
   have hO2:O=depN ND (d + 1):=Sx (by rw [hO,gM]) fun j=>by
    rcases Nat.lt_or_ge j ND.length with hj | hj
    ·exact (vW j hj).1
    ·simp only [eO];rw [nX (by omega),nX (by rw [gM];omega)]
   have hM2:M=gN (depN ND (d + 1)):=FJ (by rw [hM,oY,gM]) (fun j hj=>by
     rcases Nat.lt_or_ge j ND.length with h | h
     ·rw [<- (vW j h).2];exact hj
     ·rw [eO,nX (by omega)] at hj;cases hj) (fun j hj=>by
     rcases Nat.lt_or_ge j ND.length with h | h
     ·rw [(vW j h).2];exact hj
     ·rw [eO,nX (by rw [oY,gM];omega)] at hj;cases hj)
   subst hO2 hM2;refine ⟨SB (wG a b A B ND z) (depN ND (d + 1)) (gN (depN ND (d + 1))) (dK ND).length (d + 1 + 1),.HS 2 rfl rfl ⟨_,_,rfl,ax,_,_,rfl,SA _ _ _ _ _,rfl⟩ rfl ⟨⟨_,rfl,iP⟩,⟨_,rfl,iP⟩,⟨_,rfl,aeR (by rw [oY,gM,cw]) (aR _) rfl⟩,⟨_,rfl,?_⟩,trivial⟩,ND.length - (d + 1),by omega,d + 1,rfl,by omega,rfl⟩;exact congrArg (fun z=>DV.v (Value.int .i64 z)) (aX (n:=1099511627777) (by omega) (by omega))
 ·have hge:d=ND.length:=sW cw hc;subst hge;exact ⟨_,ms_n (by rw [gM,cw]) (Nat.zero_le _) rfl,rfl⟩
theorem J7 (l:List Stp) (x:Stp):bf l ++ [fT x]=bf (l ++ [x]):=by simp [bf]
def dP:List Stp->DV
 | []=>.v (.slice none 0 0)
 | s :: p=>.sl 3 (bf (s :: p)) none
theorem SD:EvP prog 216 [.v (.slice none 0 0)] (.v (.slice none 0 0)):=by
 refine eG 8 [.tmp 2] func216 rfl ntmps216 rfl fun _ _ _ _=>?_;refine VC ⟨_,rfl⟩ rfl rfl rfl rfl ?_;exact (rfl:_=_)
theorem SE (s:Stp) (p:List Stp) (hl:(s :: p).length<=1099511627776):TB prog 216 [.sl 3 (bf (s :: p)) none] [] [] (fun r _ bU=>r = .sl 3 (bf (s :: p)) (some 0)/\bU=[⟨(s :: p).length,141,3,none⟩]):=by
 have cw:=eM (s :: p);have aY:bf (s :: p) ≠ []:=by simp [bf]
 refine j7 (s:=false) (bt:=[]) (mu:=[]) (hbt:=fun p hp=>by cases hp) (fr:=true) (P:=prog) tt eT 5000 8 [.tmp 2] func216 rfl ntmps216 rfl (nL rfl) (fun _ _ _ _=>?_);refine qJ ⟨_,rfl⟩ rfl rfl rfl rfl (fun b hb=>?_);rw [hb aY];refine l7 rfl rfl rfl rfl (hk:=?_);refine ⟨rfl,⟨by simp [maxLen,cw];simp at hl;omega,by simp [cw];simp at hl;omega⟩,?_⟩;refine ⟨_,[],iP,rfl,rfl,?_⟩;show [(⟨0 + (bf (s :: p)).length,_,3,none⟩:TkE)]=_;rw [cw,Nat.zero_add]
structure Chg where
 k:Int
 p:List Stp
 x:Option Val
 y:Option Val
def vD:Option Val->List DV
 | none=>[.v (.int .i64 0),.v (.int .i64 0),.v (.string av),.v (.slice none 0 0)]
 | some v=>aG v
def DP (c:Chg):List DV:=[.v (.int .i64 c.k),dP c.p] ++ (vD c.x ++ vD c.y)
def dp (l:List Chg):List (List DV):=l.map DP
theorem mn (l:List Chg):(dp l).length=l.length:=by simp [dp]
theorem kR (l:List Chg) (c:Chg):dp l ++ [DP c]=dp (l ++ [c]):=by simp [dp]
def nN (x y:Val):Bool:=decide (x.k=y.k) && (decide (x.n=y.n) && (decide (x.s=y.s) && (decide (x.ks.length=y.ks.length) || decide (x.k=5))))
def cX (j:Nat):Stp:=⟨2,j,av⟩
def addC (p:List Stp):List Val->Nat->List Chg
 | [],_=>[]
 | y :: r,j=>⟨2,p ++ [cX j],none,some y⟩ :: addC p r (j + 1)
def kS (p:List Stp):List Val->Nat->List Chg
 | [],_=>[]
 | x :: r,j=>kS p r (j + 1) ++ [⟨3,p ++ [cX j],some x,none⟩]
section
variable (ND:List Nd)
def kidD (F:Val->Val->Int->List Stp->List Chg) (d:Nd) (x y:Val) (p:List Stp) (j:Nat):List Chg:=
 match x.ks[j]?,y.ks[j]?,aW d x.n j with
 | some a,some b,some e=>F a b e.to (p ++ [stpR d x j])
 | _,_,_=>[]
def kidsD (F:Val->Val->Int->List Stp->List Chg) (d:Nd) (x y:Val) (p:List Stp):Nat->List Chg
 | 0=>[]
 | j + 1=>kidsD F d x y p j ++ kidD F d x y p j
def dfK:Nat->Val->Val->Int->List Stp->List Chg
 | 0,_,_,_,_=>[]
 | k + 1,x,y,i,p=>if nN x y=true then (match bR ND i with
  | none=>[]
  | some d=>kidsD (dfK k) d x y p (min x.ks.length y.ks.length) ++ addC p (y.ks.drop x.ks.length) x.ks.length ++ kS p (x.ks.drop y.ks.length) y.ks.length) else [⟨1,p,some x,some y⟩]
end
theorem zq (p:List Stp):∀ (l:List Val) (j:Nat),(addC p l j).length=l.length
 | [],_=>rfl
 | _ :: r,j=>by rw [addC,List.length_cons,List.length_cons,zq p r]
theorem sA (p:List Stp):∀ (l:List Val) (j:Nat),(kS p l j).length=l.length
 | [],_=>rfl
 | _ :: r,j=>by rw [kS,List.length_append,List.length_cons,sA p r];all_goals rfl
theorem He (p:List Stp):∀ {l:List Val} {j e:Nat} {y:Val},l[e]? = some y->(addC p l j)[e]? = some ⟨2,p ++ [cX (j + e)],none,some y⟩
 | [],_,_,_,h=>by simp at h
 | z :: r,j,0,y,h=>by
  simp only [List.getElem?_cons_zero,oI] at h;subst h;rfl
 | z :: r,j,e + 1,y,h=>by
  rw [addC,List.getElem?_cons_succ,He p (j:=j + 1) (sU h),show j + 1 + e=j + (e + 1) by omega]
theorem Hf (p:List Stp):∀ {l:List Val} {j t:Nat} {x:Val},t < l.length->l[l.length - 1 - t]? = some x->(kS p l j)[t]? = some ⟨3,p ++ [cX (j + (l.length - 1 - t))],some x,none⟩
 | [],_,_,_,h,_=>by simp at h
 | z :: r,j,t,x,h,hx=>by
  rw [kS];have hl:=sA p r (j + 1);rw [List.length_cons] at h hx ⊢;by_cases c:t < r.length
  ·rw [dn (by omega),Hf p c (x:=x) (by rw [show r.length + 1 - 1 - t=(r.length - 1 - t) + 1 by omega,List.getElem?_cons_succ] at hx;exact hx),show j + 1 + (r.length - 1 - t)=j + (r.length + 1 - 1 - t) by omega]
  all_goals grind
theorem pP:∀ l:List Val,l.length<=bQ l
 | []=>by simp [bQ]
 | v :: r=>by
  have:=pP r;have h1:1<=dA v:=by obtain ⟨_,_,_,_⟩:=v;rw [dA];omega
  rw [bQ,List.length_cons];omega
theorem kT:∀ (l:List Val) (m:Nat),bQ (l.take m) + bQ (l.drop m)=bQ l
 | [],m=>by simp [bQ]
 | v :: r,0=>by simp [bQ]
 | v :: r,m + 1=>by
  have:=kT r m
  grind [bQ]
theorem oZ {l:List Val} {j:Nat} {a:Val} (h:l[j]? = some a):bQ (l.take (j + 1))=bQ (l.take j) + dA a:=by
 rw [List.take_add_one,h];exact qM _ _
theorem J8 (l:List Val) (m:Nat):bQ (l.take m)<=bQ (l.take (m + 1)):=by
 cases h:l[m]? with
 | none=>rw [List.take_add_one,h];simp
 | some a=>rw [oZ h];omega
theorem Hg {F:Val->Val->Int->List Stp->List Chg} (hF:∀ x y i p,(F x y i p).length<=dA x + dA y) (d:Nd) (x y:Val) (p:List Stp):∀ m,(kidsD F d x y p m).length<=bQ (x.ks.take m) + bQ (y.ks.take m):=by
 intro m
 induction m with
 | zero=>simp [kidsD]
 | succ m im=>grind [kidsD,kidD,bQ,J8,stpR,oZ]
theorem DQ (ND:List Nd):∀ (k:Nat) (x y:Val) (i:Int) (p:List Stp),(dfK ND k x y i p).length<=dA x + dA y
 | 0,_,_,_,_=>Nat.zero_le _
 | k + 1,x,y,i,p=>by
  have ih:=DQ ND k;rw [dfK];have hx1:dA x=1 + bQ x.ks:=by obtain ⟨_,_,_,_⟩:=x;rfl
  have vt:dA y=1 + bQ y.ks:=by obtain ⟨_,_,_,_⟩:=y;rfl
  grind [bR,Hg,dfK,zq,sA,pP,kT]
theorem Ob (ND:List Nd) (k:Nat) (d:Nd) (x y:Val) (p:List Stp) (m:Nat):(kidsD (dfK ND k) d x y p m).length<=bQ (x.ks.take m) + bQ (y.ks.take m):=Hg (DQ ND k) d x y p m
end Go.Proofs.YtgjagnmeonoehaaGreat
set_option maxRecDepth 100000
namespace Go.Proofs.YtgjagnmeonoehaaGreat
open Go Go.RowKit Dv Tryz
abbrev bO (p:DV) (l:List UInt8):List DV:=[p,.sl 1 (bD l) (some 0)]
abbrev bT (l:List UInt8):List TkE:=[⟨l.length,5,1,none⟩]
def ZR (y:Val) (l:List UInt8) (r:DV) (os:List (List DV)) (bU:List TkE):Prop:=r = .tup []/\os=[aG y,bO (.loc 1 0) l]/\bU=bT l
abbrev BQ (y:Val) (PC:List DV) (d:Nd) (v:Val) (O Z:List UInt8) (NM:DV) (T:List Int) (L:List UInt8) (e:Nat):St:=
 ⟨[(0,⟨[],.loc 1 0⟩),(1,⟨[],.pt PC 0⟩),(10,⟨[],.loc 4 0⟩),(11,⟨[],.sl 1 (pK T) none⟩),(38,⟨[],.sl 4 (dVals v.ks) none⟩),(39,⟨[],.v (.int .i64 (dVals v.ks).length)⟩),(40,⟨[],.v (.int .i64 e)⟩)],
  [aG y,bO (.loc 1 0) L,aG v,kg d,[.v (.string (ba O)),.v (.string (ba Z)),NM]],bT L⟩
theorem nD {S:Sch} {ND:List Nd} {PC:List DV} (hP:dM S ND PC) (y:Val):∀ (k:Nat) (v:Val),v.wt<=k->v.wt<=1099511627776->rngW v->∀ i:Int,dW ND v i=true->∀ (l:List UInt8) (p:DV),p = .v (.pointer none)∨p = .loc 1 0->l.length + 50 * v.wt<=140737488355328 ->
  EvT false Tryz.prog 219 [.loc 1 0,.pt PC 0,.v (.int .i64 i),.agg (aG v)] [aG y,bO p l] (bT l) [(1,160)] (ZR y (l ++ textV ND v i))
 | 0,v,h,_=>by have:=v.cT;omega
 | k + 1,v,h,hb=>fun hr i hw l p hp hl=>by
  have ih:=nD hP y k;obtain ⟨yk,yn,ys,yl⟩:=y;obtain ⟨d,hd,hc⟩:=gL hw;obtain ⟨h0,hg⟩:=bu hd;obtain ⟨j,rfl⟩:∃ j:Nat,i=j:=⟨i.toNat,by omega⟩;have hg:ND[j]? = some d:=by simpa using hg
  have hN:=hP.ok d (mG hg);have og:=hN.k1;have GG:=hN.k8;have cJ:=hP.ah j d hg;have fV:=nB v;obtain ⟨hon,lS⟩:=DL hN (by obtain ⟨_,_,_,_⟩:=v;rw [rngW] at hr;exact hr.2.1) hc;have hol2:(opnT d v).length + 1<=50 * (64 + v.s.size):=by omega
  have gD:=uz hP.ok v j hr hw
  have hT:textV ND v j=opnT d v ++ textVs ND v.ks d v.n 0 ++ mj v:=by
   obtain ⟨q,z,s,ks⟩:=v;rw [textV,hd];rfl
  have hvw:v.wt=64 + v.s.size + cu v.ks:=by obtain ⟨q,z,s,ks⟩:=v;rfl
  have L9:=fun a b=>GZ d v (by omega) (by obtain ⟨_,_,_,_⟩:=v;rw [rngW] at hr;exact hr.2.1) a b;by_cases c9:v.k < 5∨8 < v.k
  ·have hk0:v.ks=[]:=by grind
   have h4:v.k=4->0<=v.n/\v.n < d.af.length:=by omega
   have L9:=L9 (by omega) h4;have pW:mj v=[]:=XG (by omega) hk0;rw [hk0,pW,textVs,List.append_nil,List.append_nil] at hT;rw [hT] at gD ⊢;rw [show (decide (v.k < 5) || decide (8 < v.k))=true by simpa using c9] at fV;generalize opnT d v=O at *;clear hc hT;obtain ⟨q,z,s,ks⟩:=v;obtain ⟨ag,at',lo,hi,most,af,es⟩:=d;refine Cr (s:=false) (bt:=[(1,160)]) (mu:=[]) (fr:=false) (P:=Tryz.prog) tt eT 5000 72 [] Tryz.func219 rfl Tryz.ntmps219 rfl (nL rfl) (fun E9 w9 hn9 hm9=>?_);refine call_p mT (cJ) ax rfl ?_;refine call_p E8 (fV) ax rfl ?_;refine call_p acv (L9) ax rfl ?_;refine gK rfl (l ++ O) (l:=l) (kt:=0) rfl (.head _) rfl hp rfl (by simp [hon]) (by rw [List.length_append];omega) rfl (fun n9=>?_);exact ⟨.tup [],[aG ⟨yk,yn,ys,yl⟩,bO (.loc 1 0) (l ++ O)],aL,aL,rfl,rfl,rfl⟩
  ·obtain ⟨hk,h5,Ah,J9⟩:v.k=d.ag/\5<=d.ag/\shellF d v=true/\iw ND v.ks d v.n 0=true:=by grind
   clear L9;have hed:∀ m,m < v.ks.length->∃ e,aW d v.n m=some e/\dW ND (v.ks[m]?.getD v) e.to=true:=fun m hm=>by grind [kQ]
   have M3:=BN hN h5 v hb hk (fun m hm=>(hed m hm).imp fun e h=>h.1) (fun c=>shell_8 Ah c);rw [show (decide (v.k < 5) || decide (8 < v.k))=false by simp;omega] at fV;have nW:=fun e (he:e<=v.ks.length)=>qR hP.ok (v.ks.take e) d v.n 0 hN h5 (zi e (by obtain ⟨_,_,_,_⟩:=v;rw [rngW] at hr;exact hr.2.2)) (G6 e J9);have rz:=DM v.ks;have pU:=L4 v;have hT7:d.ag=7->G3 d = .sl 1 (nH (G2 d d.az.length)) none:=fun c=>by rw [G3,if_pos c]
   have hTn:d.ag≠7->G3 d = .v (.slice none 0 0):=fun c=>by rw [G3,if_neg c]
   have aeU:∀ (n m:Nat) (tk:List TkE),We n m tk (G3 d) (G3 d):=fun n m tk=>by
    by_cases c:d.ag=7
    ·rw [hT7 c];exact aA rfl
    ·rw [hTn c];exact aA rfl
   have htg:=fun m e h1 h2=>@G1 d v v.ks.length m e h1 h2;have hNL:=L0 d d.az.length (Nat.le_refl _);have hNg:∀ (m:Nat) (e:Ed),d.ag=7->aW d v.n m=some e->(nH (G2 d d.az.length))[m]? = some [.v (.string (ba (tx e.name ++ [58,32])))]:=fun m e c h=>by grind [aW,nH,G2]
   have vE:∀ e∈d.az,d.ag=7->e.name.size<=32:=fun e he c=>jw ((hN.many (.inl c)).2.2.2 e he);have hXs:=fun e x ed (h1:v.ks[e]? = some x) (h2:aW d v.n e=some ed)=>GU (ND:=ND) h1 h2;have hX0:textVs ND (v.ks.take 0) d v.n 0=[]:=by rw [List.take_zero,textVs]
   have hXf:textVs ND (v.ks.take v.ks.length) d v.n 0=textVs ND v.ks d v.n 0:=by rw [List.take_length]
   rw [hT] at gD ⊢;rw [<- hXf];generalize Zl:(fun e=>textVs ND (v.ks.take e) d v.n 0)=X at *;have hX:∀ e,textVs ND (v.ks.take e) d v.n 0=X e:=fun e=>by rw [<- Zl]
   simp only [hX] at hXs hX0 nW ⊢;generalize opnT d v=O at *;generalize mj v=Z at *;generalize G3 d=NM at *;generalize tosL d v v.ks.length=T at *;generalize G2 d d.az.length=M at *;clear hc hT hXf Ah gD hX Zl;obtain ⟨q,z,s,ks⟩:=v;obtain ⟨ag,at',lo,hi,most,af,es⟩:=d;have cw:=aU ks;have lf:=cq ks;simp only [Val.k,Val.n,Val.s,Val.ks] at *;refine Cr (s:=false) (bt:=[(1,160)]) (mu:=[]) (fr:=false) (P:=Tryz.prog) tt eT 5000 72 [] Tryz.func219 rfl Tryz.ntmps219 rfl (nL rfl) (fun E9 w9 hn9 hm9=>?_);refine call_p mT (cJ) ax rfl ?_;refine call_p E8 (fV) ax rfl ?_;refine call_p WM (M3) ax rfl ?_;refine gK rfl (l ++ O) (l:=l) (kt:=0) rfl (.head _) rfl hp rfl (by simp [hon]) (by rw [List.length_append];omega) rfl (fun n9=>?_);refine aT (fun j st=>∃ e:Nat,st=BQ ⟨yk,yn,ys,yl⟩ PC ⟨ag,at',lo,hi,most,af,es⟩ (.mk q z s ks) O Z NM T (l ++ O ++ X e) e/\e<=ks.length/\j=ks.length - e) ks.length (BQ ⟨yk,yn,ys,yl⟩ PC ⟨ag,at',lo,hi,most,af,es⟩ (.mk q z s ks) O Z NM T (l ++ O) 0) (weak_b 5 rfl (by repeat' (first | exact rfl | exact aA rfl | exact aeU _ _ _ | refine ⟨_,_,rfl,?_,?_⟩)) rfl rfl rfl (by repeat' (first | exact trivial | exact aA rfl | exact aeU _ _ _ | refine ⟨⟨_,rfl,?_⟩,?_⟩))) ⟨0,by rw [hX0,List.append_nil],by omega,by omega⟩ ?_;rintro _ st ⟨e,rfl,he,rfl⟩;have hXl:=nW e he;refine br (fun hL=>?_) (fun hL=>?_)
   ·have aw:e < ks.length:=by simpa [cw,Val.ks] using hL
    obtain ⟨ed,J1,TO⟩:=hed e aw;obtain ⟨x,hx⟩:∃ x,ks[e]? = some x:=⟨_,gE aw⟩;rw [hx] at TO;have Rj:=cz (mG hx);have hxt:=BP hx;have hxr:rngW x:=by rw [rngW] at hr;exact eN hr.2.2 (mG hx)
    have zS:=fun (L1:List UInt8) h1=>ih x (by omega) (by omega) hxr ed.to TO L1 (.loc 1 0) (.inr rfl) h1;have SG:=hXs e x ed hx J1;have hTg:=htg e ed J1 aw;have nS:=fun c=>hNg e ed c J1;have VE:=vE ed (G4 J1);generalize textV ND x ed.to=t at zS SG;obtain ⟨xk,xn,xs,xl⟩:=x;refine ⟨_,⟨by omega,bJ (by simpa [Val.ks] using hx)⟩,?_⟩;refine br (fun c=>?_) (fun c=>?_)
    ·have c:e≠0:=by rintro rfl;simp at c
     rw [if_neg c] at SG;refine gK rfl (l ++ O ++ X e ++ [44,32]) (l:=l ++ O ++ X e) (kt:=0) rfl (.head _) rfl (.inr rfl) rfl (by simp) (by simp only [List.length_append,List.length_cons,List.length_nil];omega) rfl (fun n9=>?_);by_cases c7:ag=7
     ·have nS:=nS c7;have VE:=VE c7;have Vz:=hT7 c7;subst Vz;rw [if_pos c7] at SG;refine XE ⟨_,rfl⟩ rfl rfl (by intro h9;rw [h9] at nS;simp at nS) rfl rfl ?_;refine ⟨_,⟨by omega,nS⟩,?_⟩;refine gK rfl ((l ++ O ++ X e ++ [44,32]) ++ (tx ed.name ++ [58,32])) (l:=(l ++ O ++ X e ++ [44,32])) (kt:=0) rfl (.head _) rfl (.inr rfl) rfl (by simp) (by simp only [List.length_append,List.length_cons,List.length_nil,dg];omega) rfl (fun n9=>?_);refine fZ (fun i=>Nat.beq i 7) mo (by decide +kernel) ?_;refine ⟨_,⟨by omega,pL hTg⟩,?_⟩;have ZS:(l ++ O ++ X e ++ [44,32]) ++ (tx ed.name ++ [58,32]) ++ t=l ++ O ++ X (e + 1):=by rw [SG];simp only [List.append_assoc]
      refine fG rfl (lY 2 1 AH rfl rfl rfl aL aL (zS ((l ++ O ++ X e ++ [44,32]) ++ (tx ed.name ++ [58,32])) (by simp only [List.length_append,List.length_cons,List.length_nil,dg];omega)) (fun r ir cC hΦ h1 h2=>?_));rw [ZS] at hΦ;obtain ⟨rfl,rfl,rfl⟩:=hΦ;exact ⟨BQ ⟨yk,yn,ys,yl⟩ PC ⟨ag,at',lo,hi,most,af,es⟩ (.mk q z s ks) O Z _ T (l ++ O ++ X (e + 1)) (e + 1),(weak_b 5 rfl (wNA aw) rfl rfl rfl (wNB aw)),ks.length - (e + 1),by omega,e + 1,rfl,by omega,rfl⟩
     ·have Vz:=hTn c7;subst Vz;rw [if_neg c7,List.nil_append] at SG;refine Sh ⟨_,rfl⟩ rfl rfl rfl rfl ?_;refine fZ (fun i=>Nat.beq i 7) mo (by decide +kernel) ?_;refine ⟨_,⟨by omega,pL hTg⟩,?_⟩;have ZS:(l ++ O ++ X e ++ [44,32]) ++ t=l ++ O ++ X (e + 1):=by rw [SG];simp only [List.append_assoc]
      refine fG rfl (lY 2 1 AH rfl rfl rfl aL aL (zS (l ++ O ++ X e ++ [44,32]) (by simp only [List.length_append,List.length_cons,List.length_nil];omega)) (fun r ir cC hΦ h1 h2=>?_));rw [ZS] at hΦ;obtain ⟨rfl,rfl,rfl⟩:=hΦ;exact ⟨BQ ⟨yk,yn,ys,yl⟩ PC ⟨ag,at',lo,hi,most,af,es⟩ (.mk q z s ks) O Z _ T (l ++ O ++ X (e + 1)) (e + 1),(weak_b 5 rfl (wNA aw) rfl rfl rfl (wNB aw)),ks.length - (e + 1),by omega,e + 1,rfl,by omega,rfl⟩
    ·have c:e=0:=by simp at c;omega
     rw [if_pos c,List.nil_append] at SG;by_cases c7:ag=7
     ·have nS:=nS c7;have VE:=VE c7;have Vz:=hT7 c7;subst Vz;rw [if_pos c7] at SG;refine XE ⟨_,rfl⟩ rfl rfl (by intro h9;rw [h9] at nS;simp at nS) rfl rfl ?_;refine ⟨_,⟨by omega,nS⟩,?_⟩;refine gK rfl ((l ++ O ++ X e) ++ (tx ed.name ++ [58,32])) (l:=(l ++ O ++ X e)) (kt:=0) rfl (.head _) rfl (.inr rfl) rfl (by simp) (by simp only [List.length_append,List.length_cons,List.length_nil,dg];omega) rfl (fun n9=>?_);refine fZ (fun i=>Nat.beq i 7) mo (by decide +kernel) ?_;refine ⟨_,⟨by omega,pL hTg⟩,?_⟩;have ZS:(l ++ O ++ X e) ++ (tx ed.name ++ [58,32]) ++ t=l ++ O ++ X (e + 1):=by rw [SG];simp only [List.append_assoc]
      refine fG rfl (lY 2 1 AH rfl rfl rfl aL aL (zS ((l ++ O ++ X e) ++ (tx ed.name ++ [58,32])) (by simp only [List.length_append,List.length_cons,List.length_nil,dg];omega)) (fun r ir cC hΦ h1 h2=>?_));rw [ZS] at hΦ;obtain ⟨rfl,rfl,rfl⟩:=hΦ;exact ⟨BQ ⟨yk,yn,ys,yl⟩ PC ⟨ag,at',lo,hi,most,af,es⟩ (.mk q z s ks) O Z _ T (l ++ O ++ X (e + 1)) (e + 1),(weak_b 5 rfl (wNA aw) rfl rfl rfl (wNB aw)),ks.length - (e + 1),by omega,e + 1,rfl,by omega,rfl⟩
     ·have Vz:=hTn c7;subst Vz;rw [if_neg c7,List.nil_append] at SG;refine Sh ⟨_,rfl⟩ rfl rfl rfl rfl ?_;refine fZ (fun i=>Nat.beq i 7) mo (by decide +kernel) ?_;refine ⟨_,⟨by omega,pL hTg⟩,?_⟩;have ZS:(l ++ O ++ X e) ++ t=l ++ O ++ X (e + 1):=by rw [SG];simp only [List.append_assoc]
      refine fG rfl (lY 2 1 AH rfl rfl rfl aL aL (zS (l ++ O ++ X e) (by simp only [List.length_append,List.length_cons,List.length_nil];omega)) (fun r ir cC hΦ h1 h2=>?_));rw [ZS] at hΦ;obtain ⟨rfl,rfl,rfl⟩:=hΦ;exact ⟨BQ ⟨yk,yn,ys,yl⟩ PC ⟨ag,at',lo,hi,most,af,es⟩ (.mk q z s ks) O Z _ T (l ++ O ++ X (e + 1)) (e + 1),(weak_b 5 rfl (wNA aw) rfl rfl rfl (wNB aw)),ks.length - (e + 1),by omega,e + 1,rfl,by omega,rfl⟩
   ·have hge:e=ks.length:=by grind [Val.ks]
    subst hge;have hw9:=rz ks.length;rw [<- List.append_assoc,<- List.append_assoc];refine gK rfl (l ++ O ++ X ks.length ++ Z) (l:=l ++ O ++ X ks.length) (kt:=0) rfl (.head _) rfl (.inr rfl) rfl (by simp [hon]) (by simp only [List.length_append];omega) rfl (fun n9=>?_);exact ⟨.tup [],[aG ⟨yk,yn,ys,yl⟩,bO (.loc 1 0) (l ++ O ++ X ks.length ++ Z)],aL,aL,rfl,rfl,rfl⟩
end Go.Proofs.YtgjagnmeonoehaaGreat
set_option maxRecDepth 100000
namespace Go.Proofs.YtgjagnmeonoehaaGreat
open Go Go.RowKit Dv Go.Proofs.Tryz
abbrev aeV (a b:ByteArray) (at':Nat) (m:Int) (e:Nat):St:=⟨[(0,⟨[],.v (.string a)⟩),(1,⟨[],.v (.string b)⟩),ay 7 at',ay 12 m,ay 13 e],[],[]⟩
theorem Ka (a b:ByteArray) (ha:a.size<=1099511627776) (hb:b.size<=1099511627776) (m:Int) (hm:m<=9223372036854775807):EvP prog 266 [.v (.string a),.v (.string b),.v (.int .i64 m)] (.v (.bool (headsL m.toNat (tx a) (tx b)))):=by
 refine eG 49 [.tmp 6] func266 rfl ntmps266 rfl fun _ _ _ _=>?_;refine lI (fun j st=>∃ e at':Nat,st=aeV a b at' m e/\(e:Int)<=max m 0/\at' <= a.size/\at' <= b.size/\headsL (m.toNat - e) ((tx a).drop at') ((tx b).drop at')=headsL m.toNat (tx a) (tx b)/\j=m.toNat - e) ⟨0,0,rfl,by omega,by omega,by omega,rfl,rfl⟩ (bG j8) ?_;rintro j st ⟨e,at',rfl,he,h1,h2,hE,rfl⟩;refine br ?_ ?_<;>intro hL
 rotate_left
 ·have hge:m.toNat - e=0:=by have:=of_decide_eq_false hL;omega
  rw [hge] at hE;rw [<- hE];exact (rfl:_=_)
 have aw:(e:Int) < m:=of_decide_eq_true hL;obtain ⟨k,hk⟩:∃ k,m.toNat - e=k + 1:=⟨m.toNat - e - 1,by omega⟩;have xQ:headsL (k + 1) ((tx a).drop at') ((tx b).drop at')=(decide (eW ((tx a).drop at')=eW ((tx b).drop at')) && decide (((tx a).drop at').take (eW ((tx a).drop at'))=((tx b).drop at').take (eW ((tx b).drop at'))) && headsL k (((tx a).drop at').drop (eW ((tx a).drop at'))) (((tx b).drop at').drop (eW ((tx b).drop at')))):=rfl;rw [hk,xQ] at hE;have hua:=um a at' ha h1;have hub:=um b at' hb h2
 have hla:eW ((tx a).drop at') + at' <= a.size:=by
  have:=dg a;by_cases c:(tx a).drop at'=[]
  ·rw [c];show 0 + at' <= _;omega
  ·grind [gW]
 have Qh:eW ((tx b).drop at') + at' <= b.size:=by
  have:=dg b;by_cases c:(tx b).drop at'=[]
  ·rw [c];show 0 + at' <= _;omega
  ·grind [gW]
 refine cE P5 rfl hua ax (fun q hq=>?_);obtain ⟨z1,rfl⟩:=hq;refine cE P5 rfl hub ax (fun q hq=>?_);obtain ⟨z2,rfl⟩:=hq;generalize eW ((tx a).drop at')=n at hE hla ⊢;generalize eW ((tx b).drop at')=m' at hE Qh ⊢;refine dI ?_;refine br ?_ ?_<;>intro c
 ·have c:n=m':=by grind
  subst c;rw [decide_eq_true rfl,Bool.true_and] at hE
  have hw:IntKind.i64.wrap ((at':Int) + n)=((at' + n:Nat):Int):=by
   rw [wrap64 (by omega) (by omega)];omega
  have LN:IntKind.i64.wrap ((e:Int) + 1)=((e + 1:Nat):Int):=by
   rw [wrap64 (by omega) (by omega)];omega
  have hx:∀ s:ByteArray,s.extract at' (IntKind.i64.wrap ((at':Int) + n)).toNat=ba (((tx s).drop at').take n):=fun s=>ov (by
   rw [hw,lK]
   simp [tx])
  refine ⟨⟨by omega,by rw [hw];omega,by rw [hw];omega⟩,?_⟩;refine ⟨⟨by omega,by rw [hw];omega,by rw [hw];omega⟩,?_⟩;refine br ?_ ?_<;>intro c
  ·have c:¬ ((tx a).drop at').take n=((tx b).drop at').take n:=by grind [pickB]
   rw [decide_eq_false c] at hE;rw [<- hE];exact (rfl:_=_)
  ·have c:((tx a).drop at').take n=((tx b).drop at').take n:=by grind [pickB]
   rw [decide_eq_true c,Bool.true_and,List.drop_drop,List.drop_drop] at hE;exact rE ⟨_,by omega,e + 1,at' + n,rfl,by omega,by omega,by omega,by rw [show m.toNat - (e + 1)=k by omega];exact hE,rfl⟩ (bG (gC hw LN))
 ·have c:¬ n=m':=by grind
  rw [decide_eq_false c] at hE;rw [<- hE];exact (rfl:_=_)
theorem Hh (a b u:Int) (ha : -9223372036854775808<=a/\a<=9223372036854775807) (hb : -9223372036854775808<=b/\b<=9223372036854775807) (hu : -9223372036854775808<=u/\u<=9223372036854775807) :
  EvP prog 265 [.v (.int .i64 a),.v (.int .i64 b),.v (.int .i64 u)] (.v (.bool (decide (aN a u=aN b u)))):=by
 have h1:=jv a u ha hu;have h2:=jv b u hb hu;unfold Dk at h1 h2;generalize aN a u=x at h1 ⊢;generalize aN b u=y at h2 ⊢;obtain ⟨x1,x2⟩:=x;obtain ⟨y1,y2⟩:=y;refine eG 31 [.tmp 6] func265 rfl ntmps265 rfl fun _ _ _ _=>?_;refine cP AG h1 ?_;refine cP AG h2 ?_;refine (congrArg (fun z=>DV.v (.bool z)) ?_:_=_);simp only [aq,Prod.mk.injEq,Bool.decide_and];cases x2<;>cases y2<;>rfl
mutual
theorem BR:∀ (t:Ty),rngT t->∀ u∈flatT t,rngT u
 | .mk h ps,hr,u,hu=>by
  rw [flatT] at hu;split at hu
  ·cases hu
  ·rcases dB hu with rfl | hu
   ·exact hr
   ·rw [rngT] at hr;exact BS ps hr.2.2.2 u hu
theorem BS:∀ (ps:Pts),rngP ps->∀ u∈flatP ps,rngT u
 | .nil,_,u,hu=>by cases hu
 | .cons p v r,hr,u,hu=>by
  rw [flatP] at hu;rw [rngP] at hr;rcases List.mem_append.1 hu with hu | hu
  ·split at hu
   ·cases hu
   ·exact BR v hr.2.2.1 u hu
  ·exact BS r hr.2.2.2 u hu
end
theorem Hi {lev:List Wd->Int} {s:Sch}:∀ (ps:Pts) (k:Nat),rngP ps->∀ e∈edsP lev s ps k,mZ e.cn
 | .nil,_,_,e,he=>by cases he
 | .cons p v r,k,hr,e,he=>by
  rw [edsP] at he;rw [rngP] at hr;rcases dB he with rfl | he
  ·exact hr.2.1
  ·exact Hi r _ hr.2.2.2 e he
def DR (n:Nd):Prop:=mZ n.lo/\mZ n.hi/\∀ e∈n.az,mZ e.cn
theorem zr {S:Sch} (hr:QF S) {n:Nd} (h:n∈aQ S):DR n:=by
 rw [kk] at h;obtain ⟨t,ht,u,hu,k,rfl⟩:=yQ h
 have h1:rngT t:=by
  rcases List.mem_append.1 ht with h | h
  ·obtain ⟨x,hx,rfl⟩:=List.mem_map.1 h;exact hr.1 x hx
  ·simp only [List.mem_singleton] at h;subst h;exact hr.2
 have h2:=BR t h1 u hu;obtain ⟨uh,us⟩:=u;rw [rngT] at h2;exact ⟨h2.1,h2.2.1,Hi us _ h2.2.2.2⟩
end Go.Proofs.YtgjagnmeonoehaaGreat
namespace Go.Proofs.YtgjagnmeonoehaaGreat
namespace Dv
open Go Go.RowKit
section
variable {P:Program} {ops:Array Oper} {C:World->Prop} {Q:Act->World->Prop} {W:Nat->Bool} {x:Nat}
def exX (ops:Array Oper) (x:Nat) (j i:Nat):Bool:=Nat.beq j x && (match ops[i]? with | some o=>isE o.op | none=>false)
end
section
variable {X:Ctx} {D:Dw} {x:Nat} {tail:List Nat} {π:Nat->Nat}
theorem Hj {s S:St} (h:iE s S:=by refine ⟨rfl,rfl,?_⟩;repeat' (first | exact trivial | refine ⟨rfl,?_⟩)):s=S∨iE s S:=.inr h
end
end Dv
end Go.Proofs.YtgjagnmeonoehaaGreat
set_option maxRecDepth 100000
namespace Go.Proofs.YtgjagnmeonoehaaGreat
open Go Go.RowKit Dv Go.Proofs.Tryz
abbrev wL (lv:List Wd) (f:Nat->Nat->Bool) (ND:List Nd) (z:Int):List DV:=[.sl 2 (bV lv) none,.sl 1 (dL (eB lv.length f)) none,.sl 7 (dK ND) none,.v (.int .i64 z)]
theorem Kb (d:Nd) (e:Ed) (s:Stp):EvP prog 232 [.agg (kg d),.agg (zW e),.agg (fT s)] (.v (.bool (JQ d s e))):=by
 obtain ⟨ag,at',lo,hi,most,af,es⟩:=d;obtain ⟨en,eb,ea,et,sP,ew,jy,sQ,uB,qd⟩:=e;obtain ⟨k,n,t⟩:=s
 have hF:JQ ⟨ag,at',lo,hi,most,af,es⟩ ⟨k,n,t⟩ ⟨en,eb,ea,et,sP,ew,jy,sQ,uB,qd⟩=if k=1 then decide (ag=7) && decide (en=t)
  else if k=5 then decide (ag=8) && decide (en=t) && !eb
  else if k=2 then decide (ag=5) && decide (n < most)
  else if k=3 then decide (ag=5) && decide (0 < most)
  else decide (ag=6):=rfl
 generalize JQ ⟨ag,at',lo,hi,most,af,es⟩ ⟨k,n,t⟩ ⟨en,eb,ea,et,sP,ew,jy,sQ,uB,qd⟩=F at hF ⊢;refine eG 63 [.tmp 6] func232 rfl ntmps232 rfl fun _ _ _ _=>?_;refine br ?_ ?_<;>intro c
 ·have c:k=1:=sU c;rw [aj c] at hF;refine (bK ?_:);rw [hF];simp only [aq]
 have c1:¬ k=1:=sU c;rw [ai c1] at hF;refine br ?_ ?_<;>intro c
 ·have c:k=5:=sU c;rw [aj c] at hF;refine (bK ?_:);rw [hF];simp only [aq]
 have c5:¬ k=5:=sU c;rw [ai c5] at hF;refine br ?_ ?_<;>intro c
 ·have c:k=2:=sU c;rw [aj c] at hF;refine (bK ?_:);rw [hF];simp only [aq]
 have c2:¬ k=2:=sU c;rw [ai c2] at hF;refine br ?_ ?_<;>intro c
 ·have c:k=3:=sU c;rw [aj c] at hF;refine (bK ?_:);rw [hF];simp only [aq]
 have c3:¬ k=3:=sU c;rw [ai c3] at hF;refine (bK ?_:);rw [hF]
def estW (ND:List Nd) (f:Nat->Nat->Bool) (n:Nat) (s:Stp) (i a:Nat):Option (Nat × Nat):=match ND[i]? with
 | none=>none
 | some d=>match oS d s with
  | none=>none
  | some k=>match d.az[k]? with
   | none=>none
   | some e=>some (e.to.toNat,y9 f n a e.label.toNat)
theorem walkV_drop (ND:List Nd) (f:Nat->Nat->Bool) (n:Nat) (p:List Stp) (e i a:Nat):walkV ND f n (p.drop e) i a=match p[e]? with
  | none=>some (i,a)
  | some s=>match estW ND f n s i a with
   | none=>none
   | some (j,b)=>walkV ND f n (p.drop (e + 1)) j b:=by
 cases hs:p[e]? with
 | none=>rw [List.drop_eq_nil_of_le (List.getElem?_eq_none_iff.1 hs)];all_goals rfl
 | some s=>
  obtain ⟨h1,h2⟩:=List.getElem?_eq_some_iff.1 hs;rw [List.drop_eq_getElem_cons h1,h2,walkV]
  grind [estW,oS]
theorem VF {f:Nat->Nat->Bool} {L:Nat} (hL:gH f L) {ND:List Nd} (bA:∀ n∈ND,cr L ND.length n) {s:Stp} {i a j b:Nat} (hi:i < ND.length) (ha:a < L) (h:estW ND f L s i a=some (j,b)):j < ND.length/\b < L:=by
 have hw:=walkV_drop ND f L [s] 0 i a;simp only [List.getElem?_cons_zero,h] at hw;exact GM hL bA [s] i a hi ha hw
def aeW (o:Option (Nat × Nat)):DV:=match o with
 | some (j,b)=>.tup [.agg [.v (.int .i64 (j:Nat)),.v (.int .i64 (b:Nat))],.v (.bool true)]
 | none=>.tup [.agg [.v (.int .i64 0),.v (.int .i64 0)],.v (.bool false)]
abbrev aeX (PC:List DV) (i a:Nat) (s:Stp) (d:Nd) (e:Nat):St:=
 ⟨[iQ 0 PC,aF 4 0,aF 5 1,aF 6 2,aF 8 3,bi 20 10 (iM d.az),ay 21 ((iM d.az).length),ay 22 e],
  [[.v (.int .i64 i),.v (.int .i64 a)],fT s,[.v (.int .i64 0),.v (.int .i64 0)],kg d],[]⟩
theorem Kc {S:Sch} {ND:List Nd} {PC:List DV} (hP:dM S ND PC) (s:Stp) (hr:bI s=true) (i a:Nat) (hi:i < ND.length) (ha:a < S.ae.length) :
  EvP prog 167 [.pt PC 0,.agg [.v (.int .i64 i),.v (.int .i64 a)],.agg (fT s)] (aeW (estW ND (aH S) S.ae.length s i a)):=by
 obtain ⟨LC,gg,hLR⟩:=hP.Vt;obtain ⟨d,hd⟩:∃ d,ND[i]? = some d:=⟨_,gE hi⟩;have hN:=hP.ok d (mG hd);have cJ:=hP.ah i d hd
 have pU:d.az.length<=1099511627776:=by
  have:=mc (S:=S) (n:=d) (by rw [<- hP.C4];exact mG hd) hP.wt;exact this.2
 have hjn:=fun b hb=>hLR.join a b ha hb
 have hW:estW ND (aH S) S.ae.length s i a=match cm (edgeP d s) d.az.length with
  | none=>none
  | some k=>match d.az[k]? with
   | none=>none
   | some e=>some (e.to.toNat,y9 (aH S) S.ae.length a e.label.toNat):=by
  unfold estW;simp only [hd,oS,aj hr]
 have hPe:∀ (e:Nat) x,d.az[e]? = some x->edgeP d s e=JQ d s x:=fun e x h=>by
  rw [LX hN hr (mG h)];unfold edgeP;rw [h]
 have T8:=fun x=>Kb d x s;have Ae:=fun (e:Ed) (he:e∈d.az) (h:kP d s e=true)=>And.intro ((iv hN he).1 (zb hN he h)) (iv hN he).2.1;have Pk:=fun x hx=>LX hN hr (e:=x) hx;generalize estW ND (aH S) S.ae.length s i a=R at hW ⊢;generalize edgeP d s=pE at hW hPe;generalize y9 (aH S) S.ae.length a=jn at hW hjn;obtain ⟨ag,at',lo,ik,most,af,es⟩:=d;obtain ⟨k,n,t⟩:=s;have cw:=cW es;simp only at hW hPe pU;refine eG 42 [.cell 6 272,.tmp 7] func167 rfl ntmps167 rfl fun _ _ _ _=>?_;refine cP mT cJ ?_;refine lI (fun j st=>∃ e:Nat,st=aeX PC i a ⟨k,n,t⟩ ⟨ag,at',lo,ik,most,af,es⟩ e/\e<=es.length/\(∀ c,c < e->pE c=false)/\j=es.length - e) ⟨0,rfl,by omega,fun _ h=>by omega,rfl⟩ (bG wB) ?_;rintro j st ⟨e,rfl,he,iA,rfl⟩;refine br ?_ ?_<;>intro hL
 ·have aw:e < es.length:=sV cw hL;obtain ⟨x,hx⟩:=gX aw;have hPx:=hPe e x hx;have ZU:=T8 x;have zX:=mG hx;have I6:=Ae x zX;have ZV:=Pk x zX
  cases hv:JQ ⟨ag,at',lo,ik,most,af,es⟩ ⟨k,n,t⟩ x with
  | true=>
   rw [hv] at hPx ZU ZV;obtain ⟨⟨h1,_⟩,h2,h3⟩:=I6 ZV.symm;rw [dc aw hPx iA] at hW;simp only [hx] at hW;clear Ae Pk I6 ZV T8;obtain ⟨en,eb,ea,et,sP,ew,jy,sQ,uB,qd⟩:=x;simp only at h1 h2 h3;obtain ⟨lb,rfl⟩:∃ n:Nat,sP=n:=⟨_,h2⟩;obtain ⟨tn,rfl⟩:∃ n:Nat,et=n:=⟨_,h1⟩;simp only [lK] at h3 hW;have hj:=hjn lb h3;subst hW;refine iX (bH hx) ?_;refine cP WG ZU ?_;refine dS ?_;refine cD Ip gg ?_;refine cD uN hj ?_;exact ⟨_,ax,rfl⟩
  | false=>
   rw [hv] at hPx ZU;obtain ⟨en,eb,ea,et,sP,ew,jy,sQ,uB,qd⟩:=x;refine iX (bH hx) ?_;refine cP WG ZU ?_
   exact rE ⟨_,by omega,e + 1,rfl,by omega,fun c hc=>by
    rcases mD hc with h | h
    ·exact iA c h
    ·rw [h];exact hPx,rfl⟩ (dz 4 (pX (aX aw (by omega))) (dH (aX aw (by omega))))
 ·have hge:e=es.length:=sW cw hL;subst hge;rw [dO iA] at hW;simp only at hW;subst hW;exact ⟨_,ax,rfl⟩
def BT (o:Option (Nat × Nat)):DV:=match o with
 | some (j,b)=>.tup [.v (.int .i64 (j:Nat)),.v (.int .i64 (b:Nat)),.v (.bool true)]
 | none=>.tup [.v (.int .i64 (-1)),.v (.int .i64 (-1)),.v (.bool false)]
abbrev aeZ (PC:List DV) (p:List Stp) (i a e:Nat):St:=
 ⟨[iQ 0 PC,aF 7 0,bi 18 3 (bf p),ay 19 ((bf p).length),ay 20 e],[[.v (.int .i64 i),.v (.int .i64 a)]],[]⟩
theorem qU {S:Sch} {ND:List Nd} {PC:List DV} (hP:dM S ND PC) (p:List Stp) (hp:p.length<=1099511627776) (hs:∀ s∈p,s.s.size<=4611686018427387904) (rt:Nat) (nT:dF S=rt) (fm:rt < ND.length) :
  EvP prog 87 [.pt PC 0,.sl 3 (bf p) none] (BT (walkV ND (aH S) S.ae.length p rt (eC (aH S) S.ae.length))):=by
 obtain ⟨LC,gg,hLR⟩:=hP.Vt;have dy:=hP.root;rw [nT] at dy;have rX:=hLR.bot;have hbl:=wz hLR.ok;have bd:=fun s hr i a hi ha=>Kc hP s hr i a hi ha;have hwd:=walkV_drop ND (aH S) S.ae.length p;have bA:=fun {s i a j b}=>@VF _ _ hLR.ok _ hP.ok s i a j b;have cw:=eM p;have OM:∀ s i a,bI s=false->estW ND (aH S) S.ae.length s i a=none:=fun s i a h=>by grind [estW,oS]
 generalize hR:walkV ND (aH S) S.ae.length p rt (eC (aH S) S.ae.length)=R;have Zm:walkV ND (aH S) S.ae.length (p.drop 0) rt (eC (aH S) S.ae.length)=R:=by rw [List.drop_zero];exact hR
 clear hR;generalize eC (aH S) S.ae.length=bt at rX hbl Zm;refine eG 42 [.tmp 4,.tmp 5,.tmp 6] func87 rfl ntmps87 rfl fun _ _ _ _=>?_;refine cP xu dy ?_;refine cP Ip gg ?_;refine cP PG rX ?_;refine lI (fun j st=>∃ e i a:Nat,st=aeZ PC p i a e/\e<=p.length/\i < ND.length/\a < S.ae.length/\walkV ND (aH S) S.ae.length (p.drop e) i a=R/\j=p.length - e) ⟨0,rt,bt,rfl,by omega,fm,hbl,Zm,rfl⟩ (bG wB) ?_;rintro j st ⟨e,i,a,rfl,he,hi,ha,hw,rfl⟩;rw [hwd] at hw;refine br ?_ ?_<;>intro hL
 ·have aw:e < p.length:=sV cw hL;obtain ⟨x,hx⟩:=gX aw;have Ec:=hs x (mG hx);have hr:=u9 [x] (sU Ec);rw [JP] at hr;rw [hx] at hw;simp only at hw
  cases nI:bI x with
  | false=>
   rw [OM x i a nI] at hw;simp only at hw;subst hw;rw [nI] at hr;obtain ⟨xk,xn,xt⟩:=x;refine iX (iu hx) ?_;refine cP K6 hr ?_;exact ⟨_,ax,rfl⟩
  | true=>
   have Wc:=bd x nI i a hi ha;have hkx:=@bA x i a;rw [nI] at hr;generalize estW ND (aH S) S.ae.length x i a=o at hw Wc hkx;obtain ⟨xk,xn,xt⟩:=x;refine iX (iu hx) ?_;refine cP K6 hr ?_;refine cP ab5 Wc ?_
   cases o with
   | none=>
    simp only at hw;subst hw;exact ⟨_,ax,rfl⟩
   | some r=>
    obtain ⟨j,b⟩:=r;simp only at hw;obtain ⟨h1,h2⟩:=hkx hi ha rfl;exact rE ⟨_,by omega,e + 1,j,b,rfl,by omega,h1,h2,hw,rfl⟩ (dz 1 (pX (aX aw (by omega))) (dH (aX aw (by omega))))
 ·have hge:p.length<=e:=sV cw hL;rw [nX hge] at hw;simp only at hw;subst hw;refine dI ?_;exact ⟨_,ax,rfl⟩
theorem Hk {S:Sch} (hF:yL S) {i:Nat} {n:Nd} (h:(aQ S)[i]? = some n) {e:Ed} (he:e∈n.az) (hb:e.bare=true):e.ck=0:=by
 have GG:=(uf hF h).bare e he hb;rw [kk] at h;obtain ⟨t,ht,u,hu,rfl,kB⟩:=yP h;have HX:=yN t ⟨_,_,hF.wr t ht⟩ u hu;have hT:=Jw HX;obtain ⟨uh,us⟩:=u;simp only [Ty.h,Ty.ps] at hT;obtain ⟨p,v,k',h1,rfl,_⟩:=si he;obtain ⟨j,hj⟩:=List.mem_iff_getElem?.1 h1;obtain ⟨_,hP⟩:=(hT.many (.inr GG)).2.2 j p v hj;rcases hP with ⟨_,_,_,fV⟩ | ⟨eD,_⟩
 ·exact (pI fV).2.2.1
 ·have:p.bare=true:=hb;rw [eD] at this;cases this
def Ma (ck:Int):Int:=if ck=3 then 5 else if ck=2 then 3 else 2
def Kd (f:Nat->Nat->Bool) (ND:List Nd) (e:Ed):Prop:=e.ck≠0->(∃ m,ND[e.to.toNat]? = some m/\m.ag=Ma e.ck)/\f e.seen.toNat e.label.toNat=true/\f e.label.toNat e.seen.toNat=false
def SI (f:Nat->Nat->Bool) (ND:List Nd):Prop:=∀ n∈ND,∀ e∈n.az,Kd f ND e
abbrev ae0 (W:List DV) (e:Nat):St:=⟨[aF 1 0,aF 2 1,ay 3 e],[W,[.v (.int .i64 0),.v (.int .i64 0)]],[]⟩
abbrev ZW (W:List DV) (es:List Ed) (e k:Nat):St:=⟨[aF 1 0,aF 2 1,ay 3 e,bi 4 10 (iM es),ay 5 k],[W,[.v (.int .i64 0),.v (.int .i64 0)]],[]⟩
def W20Φ (f:Nat->Nat->Bool) (ND:List Nd) (r:DV):Prop:=∃ ft:Ft,r=ft.d/\(ft.1=0->SI f ND)
theorem DS (lv:List Wd) (f:Nat->Nat->Bool) (ND:List Nd) (z:Int) (hn:lv.length<=32) (bA:∀ n∈ND,cr lv.length ND.length n) (gR:ND.length<=1099511627776) (cf:∀ n∈ND,n.az.length<=1099511627776) (hbr:∀ n∈ND,∀ e∈n.az,e.bare=true->e.ck=0) :
  Ev prog 187 [.agg (wL lv f ND z)] [] [] (fun r _ _=>W20Φ f ND r):=by
 have hNl:=oK ND;refine eG 79 [.cell 2 44] func187 rfl ntmps187 rfl fun _ _ _ _=>?_;refine lI (fun j st=>∃ e:Nat,st=ae0 (wL lv f ND z) e/\e<=ND.length/\(∀ c n,c < e->ND[c]? = some n->∀ x∈n.az,Kd f ND x)/\j=ND.length - e) ⟨0,rfl,by omega,fun _ _ h=>by omega,rfl⟩ (bG wB) ?_;rintro j st ⟨e,rfl,he,iA,rfl⟩;refine br ?_ ?_<;>intro hL
 ·have aw:e < ND.length:=sV hNl hL;obtain ⟨d,hd⟩:=gX aw;have hm:=mG hd;have hN:=bA d hm;have pU:=cf d hm;have cw:=cW d.az;have Oc:=hbr d hm;refine iX (oL hd) ?_;refine lI (fun j st=>∃ k:Nat,st=ZW (wL lv f ND z) d.az e k/\k<=d.az.length/\(∀ c x,c < k->d.az[c]? = some x->Kd f ND x)/\j=d.az.length - k) ⟨0,rfl,by omega,fun _ _ h=>by omega,rfl⟩ (bG wB) ?_;rintro j st ⟨k,rfl,hk,Rz,rfl⟩;refine br ?_ ?_<;>intro qb
  ·have jz:k < d.az.length:=sV cw qb;obtain ⟨x,hx⟩:∃ x,d.az[k]? = some x:=⟨_,gE jz⟩;have zX:=mG hx;obtain ⟨nJ,⟨h2,TH⟩,h3,VG⟩:=iv hN zX;have jA:=Oc x zX;have HY:=(hN.gq x zX).ck
   have SJ:Kd f ND x->∀ c y,c < k + 1->d.az[c]? = some y->Kd f ND y:=fun h c y hc hy=>by
    rcases mD hc with h1 | h1
    ·exact Rz c y h1 hy
    ·rw [h1,hx] at hy;simp only [oI] at hy;rw [<- hy];exact h
   have hE:Kd f ND x=(x.ck≠0->(∃ m,ND[x.to.toNat]? = some m/\m.ag=Ma x.ck)/\f x.seen.toNat x.label.toNat=true/\f x.label.toNat x.seen.toNat=false):=rfl;generalize Kd f ND x=EX at hE SJ;obtain ⟨en,eb,ea,et,sP,ew,jy,sQ,uB,qd⟩:=x;simp only at h2 TH h3 VG nJ jA HY hE;obtain ⟨lb,rfl⟩:∃ n:Nat,sP=n:=⟨_,h2⟩;obtain ⟨sn,rfl⟩:∃ n:Nat,uB=n:=⟨_,h3⟩;simp only [lK] at TH VG hE;refine iX (bH hx) ?_;refine br ?_ ?_<;>intro g
   ·have g:jy=0:=sU g;exact rE ⟨_,by omega,k + 1,rfl,by omega,SJ (by rw [hE];intro h;exact absurd g h),rfl⟩ (dz 2 (pX (aX jz (by omega))) (dH (aX jz (by omega))))
   have g:¬ jy=0:=sU g
   obtain ⟨h1,wS⟩:=nJ (by
    cases hb:eb
    ·rfl
    ·exact absurd (jA hb) g)
   obtain ⟨tn,rfl⟩:∃ n:Nat,et=n:=⟨_,h1⟩;simp only [lK] at wS hE;obtain ⟨m,hmt⟩:∃ m,ND[tn]? = some m:=⟨_,gE wS⟩
   have hW:∀ w:Int,w=Ma jy->(m.ag=w/\f sn lb=true/\f lb sn=false)->EX:=fun w h1 h2=>by
    rw [hE];exact fun _=>⟨⟨m,hmt,by rw [<- h1];exact h2.1⟩,h2.2⟩
   have h3c:jy=1∨jy=2∨jy=3:=by omega
   rcases h3c with rfl | rfl | rfl
   all_goals
    refine ⟨_,⟨Eh _,oL hmt⟩,?_⟩;refine br ?_ ?_<;>intro c1
    ·exact ⟨Ft.d (14,qd),ax,(14,qd),rfl,fun h=>by simp at h⟩
    refine dI ?_;refine ⟨_,⟨Eh _,fp VG⟩,?_⟩;refine ⟨_,⟨Eh _,ee TH⟩,?_⟩;refine br ?_ ?_<;>intro c2
    ·refine ⟨_,⟨Eh _,fp TH⟩,?_⟩;refine ⟨_,⟨Eh _,ee VG⟩,?_⟩;refine br ?_ ?_<;>intro c3
     ·exact ⟨Ft.d (18,qd),ax,(18,qd),rfl,fun h=>by simp at h⟩
     ·have hx:=SJ (hW _ rfl ⟨by simpa [Ma] using c1,by simpa using c2,by simpa [pickB] using c3⟩);exact rE ⟨_,by omega,k + 1,rfl,by omega,hx,rfl⟩ (dz 2 (pX (aX jz (by omega))) (dH (aX jz (by omega))))
    ·exact ⟨Ft.d (18,qd),ax,(18,qd),rfl,fun h=>by simp at h⟩
  ·have hge:k=d.az.length:=sW cw qb;subst hge
   exact rE ⟨_,by omega,e + 1,rfl,by omega,fun c n hc hn x hxm=>by
    rcases mD hc with h1 | h1
    ·exact iA c n h1 hn x hxm
    ·rw [h1,hd] at hn;simp only [oI] at hn;rw [<- hn] at hxm;obtain ⟨q,hq⟩:=List.mem_iff_getElem?.1 hxm
     exact Rz q x (gS hq).1 hq,rfl⟩ (bG (dH (aX aw (by omega))))
 ·have hge:e=ND.length:=sW hNl hL;subst hge
  exact ⟨Ft.d (0,0),ax,(0,0),rfl,fun _ n hn x hx=>by
   obtain ⟨q,hq⟩:=List.mem_iff_getElem?.1 hn
   exact iA q n (gS hq).1 hq x hx⟩
structure zt (S:Sch):Prop where
 tu:(lF S).1=0
 live:∀ i:Nat,i < (aQ S).length->(depN (aQ S) (aQ S).length).getD i 0≠0
 eff:SI (aH S) (aQ S)
abbrev ae1 (S:Sch) (a b:Int) (W:List DV) (D:List Nat) (e:Nat):St:=
 ⟨[aF 1 0,aF 3 1,aF 5 3,bi 6 1 (dInts D),ay 7 e],[ei S,[.v (.int .i64 0),.v (.int .i64 0)],[.v (.int .i64 a),.v (.int .i64 b)],W],[]⟩
theorem DT (S:Sch) (hS:S.wt<=1099511627776):Ev prog 102 [.agg (ei S)] [] [] (fun r _ _=>∃ (z:Int) (ft:Ft),r = .tup [.v (.int .i64 z),ft.d]/\(z=0->zt S)):=by
 have HX:=De S hS;have hw:=fun h=>Dh S hS h;generalize hR:lF S=R at HX;obtain ⟨ae,order,types,⟨rh,rp⟩⟩:=S;refine eG 44 [.tmp 2,.cell 3 44] func102 rfl ntmps102 rfl fun _ _ _ _=>?_;refine cP ab6 HX ?_;refine br ?_ ?_<;>intro g
 ·refine dS ?_;exact ⟨.tup [.v (.int .i64 2),Ft.d R],ax,2,R,rfl,fun h=>by simp at h⟩
 have g:R.1=0:=sU g;have h0:(lF ⟨ae,order,types,.mk rh rp⟩).1=0:=by rw [hR];exact g
 have hF:=sg h0;have hw:=hw h0;obtain ⟨aer,Ro⟩:=l8 hF.lat;have bA:=fun n (hn:n∈aQ ⟨ae,order,types,.mk rh rp⟩)=>(List.mem_iff_getElem?.1 hn).elim fun i hi=>uf hF hi;have gR:(aQ ⟨ae,order,types,.mk rh rp⟩).length<=1099511627776:=by rw [nq];exact Nat.le_trans (Jv _) hS
 have cf:=fun n (hn:n∈aQ ⟨ae,order,types,.mk rh rp⟩)=>(mc hn hS).2;have hbr:=fun n (hn:n∈aQ ⟨ae,order,types,.mk rh rp⟩)=>(List.mem_iff_getElem?.1 hn).elim fun i hi e he hb=>Hk hF hi (e:=e) he hb;have h19:=fun A B=>Ai 2 1 A B (dF ⟨ae,order,types,.mk rh rp⟩) bA gR cf;have h20:=DS ae (aH ⟨ae,order,types,.mk rh rp⟩) (aQ ⟨ae,order,types,.mk rh rp⟩) (dF ⟨ae,order,types,.mk rh rp⟩) Ro bA gR cf hbr;have hmk:(∀ i:Nat,i < (aQ ⟨ae,order,types,.mk rh rp⟩).length->(depN (aQ ⟨ae,order,types,.mk rh rp⟩) (aQ ⟨ae,order,types,.mk rh rp⟩).length).getD i 0≠0)->SI (aH ⟨ae,order,types,.mk rh rp⟩) (aQ ⟨ae,order,types,.mk rh rp⟩)->zt ⟨ae,order,types,.mk rh rp⟩:=fun h1 h2=>⟨h0,h1,h2⟩;have Ix:=gM (aQ ⟨ae,order,types,.mk rh rp⟩) (aQ ⟨ae,order,types,.mk rh rp⟩).length;generalize depN (aQ ⟨ae,order,types,.mk rh rp⟩) (aQ ⟨ae,order,types,.mk rh rp⟩).length=D at h19 hmk Ix;unfold aH at h20 hmk;generalize fo (Sch.mk ae order types (.mk rh rp)).ae.length (dN (aC (Sch.mk ae order types (.mk rh rp)).ae) (Sch.mk ae order types (.mk rh rp)).order)=f at hw h20 hmk;generalize aQ ⟨ae,order,types,.mk rh rp⟩=ND at hw h19 h20 hmk Ix gR cf hbr bA;generalize dF ⟨ae,order,types,.mk rh rp⟩=rt at hw h19 h20;have Ew:=bN D;obtain ⟨R1,R2⟩:=R;simp only at g;subst g;refine cP en12 hw ?_;refine cP ab7 (h19 _ _) ?_;refine lI (fun j st=>∃ e:Nat,st=ae1 ⟨ae,order,types,.mk rh rp⟩ 0 R2 (wL ae f ND rt) D e/\e<=D.length/\(∀ i < e,D.getD i 0≠0)/\j=D.length - e) ⟨0,rfl,by omega,fun _ h=>by omega,rfl⟩ (bG wB) ?_;rintro j st ⟨e,rfl,he,iA,rfl⟩;refine br ?_ ?_<;>intro hL
 ·have aw:e < D.length:=sV Ew hL;obtain ⟨x,hx⟩:=gX aw;obtain ⟨d,hd⟩:∃ d,ND[e]? = some d:=⟨_,gE (by omega)⟩;refine iX (eJ hx) ?_;refine br ?_ ?_<;>intro c
  ·refine dS ?_;refine iX (oL hd) ?_;exact ⟨.tup [.v (.int .i64 3),Ft.d (11,d.at')],ax,3,(11,d.at'),rfl,fun h=>by simp at h⟩
  ·have c:x≠0:=by simp at c;omega
   exact rE ⟨_,by omega,e + 1,rfl,by omega,fun i hi=>by
    rcases mD hi with h1 | h1
    ·exact iA i h1
    ·rw [h1,eO,hx];exact c,rfl⟩ (dz 4 (pX (aX aw (by omega))) (dH (aX aw (by omega))))
 ·have hge:e=D.length:=sW Ew hL;subst hge;refine cE ab8 rfl h20 ax (fun r hr=>?_);obtain ⟨ft,rfl,Xs⟩:=hr;refine br ?_ ?_<;>intro c
  ·refine dS ?_;exact ⟨.tup [.v (.int .i64 4),Ft.d ft],ax,4,ft,rfl,fun h=>by simp at h⟩
  ·have c:ft.1=0:=sU c;exact ⟨.tup [.v (.int .i64 0),Ft.d (0,0)],ax,0,(0,0),rfl,fun _=>hmk (fun i hi=>iA i (by omega)) (Xs c)⟩
theorem Hl (S:Sch) (hS:S.wt<=1099511627776):Ev prog 44 [.agg (ei S)] [] [] (fun r _ _=>∃ b:Bool,r = .v (.bool b)/\(b=true->zt S)):=by
 have hw:=DT S hS;obtain ⟨ae,order,types,⟨rh,rp⟩⟩:=S;refine eG 12 [.tmp 2] func44 rfl ntmps44 rfl fun _ _ _ _=>?_;refine cE abS rfl hw ax (fun r hr=>?_);obtain ⟨z,ft,rfl,hz⟩:=hr;exact ⟨_,rfl,fun h=>hz (sU h)⟩
end Go.Proofs.YtgjagnmeonoehaaGreat
namespace Go.Proofs.YtgjagnmeonoehaaGreat
namespace Dv
open Go Go.RowKit
inductive mq
 | fin
 | op (i:Nat) (t:mq)
 | ev (i:Nat) (t alt:mq)
 | stop
section
variable {P:Program} {ops:Array Oper} {C:World->Prop} {Q:Act->World->Prop} {W:Nat->Bool}
def rdy (ops:Array Oper) (rem:List Nat) (i:Nat):Bool:=
 match ops[i]? with
 | some o=>o.after.toList.all fun e=>!Region.binds .any e || !rem.contains e.on
 | none=>false
def VH (ops:Array Oper) (i:Nat):Bool:=match ops[i]? with | some o=>isE o.op | none=>false
def chkA (ops:Array Oper):mq->List Nat->Option (List Nat)->Bool
 | .fin,rem,m=>m.isNone && rem.isEmpty
 | .op i t,rem,m=>m.isNone && (rem.contains i && (!VH ops i && (rdy ops rem i && chkA ops t (rem.erase i) none)))
 | .ev i t alt,rem,m=>rem.contains i && (VH ops i && (rdy ops rem i && (chkA ops t (rem.erase i) none && chkA ops alt rem (some (i :: m.getD [])))))
 | .stop,rem,m=>match m with
  | some seen=>rem.all fun j=>!rdy ops rem j || seen.contains j
  | none=>false
def Ke (ops:Array Oper) (W:Nat->Bool):Bool:=
 (List.range ops.size).all fun i=>(List.range ops.size).all fun j=>
  Nat.beq i j || ordB ops ops.size i j || ordB ops ops.size j i || (VH ops i && VH ops j) || (nG ops W j i && nG ops W i j)
def runS (P:Program) (ops:Array Oper) (W:Nat->Bool) (C:World->Prop) (Q:Act->World->Prop):mq->Act->World->Prop
 | .fin,a,w=>Q a w
 | .op i t,a,w=>∃ o,ops[i]? = some o/\∃ v,Yl P ops C o v a/\(qi o.op=true->C w)/\runS P ops W C Q t (a.put o.dst v) w
 | .ev i t alt,a,w=>(∃ o,ops[i]? = some o/\ez P ops o a w fun a' w'=>(W i=false->C w->C w')/\runS P ops W C Q t a' w')/\runS P ops W C Q alt a w
 | .stop,_,_=>True
def VI (P:Program) (ops:Array Oper) (W:Nat->Bool) (C:World->Prop) (Q:Act->World->Prop) (rem:List Nat) (a:Act) (w:World):Prop:=∃ T,chkA ops T rem none=true/\runS P ops W C Q T a w
def Cl (ops:Array Oper) (rem:List Nat):Prop:=∀ (k:Nat) o,ops[k]? = some o->k ∉ rem->∀ e∈o.after,Region.binds .any e=true->e.on ∉ rem
theorem mr {rem:List Nat} {i:Nat} (h:rdy ops rem i=true):∃ o,ops[i]? = some o/\∀ e∈o.after,Region.binds .any e=true->e.on ∉ rem:=by grind [rdy]
theorem pQ {rem:List Nat} {i j:Nat} (h:rdy ops rem i=true):rdy ops (rem.erase j) i=true:=by grind [mr,rdy]
theorem zu {rem:List Nat} (hn:rem.Nodup) (hc:Cl ops rem) {i:Nat} (h:rdy ops rem i=true):Cl ops (rem.erase i):=by
 intro k o ho hk e he hb hm;have rq:=List.mem_of_mem_erase hm;by_cases uJ:k=i
 ·grind [mr]
 ·exact hc k o ho (fun hkm=>hk ((List.mem_erase_of_ne uJ).2 hkm)) e he hb rq
theorem SK {rem:List Nat} (hc:Cl ops rem):∀ (n:Nat) (j k:Nat) o,ops[k]? = some o->(∀ e∈o.after,Region.binds .any e=true->e.on ∉ rem)->ordB ops n j k=true->j ∉ rem
 | 0,j,k,o,_,_,h=>by simp [ordB] at h
 | n + 1,j,k,o,ho,iO,h=>by
  simp only [ordB,ho,List.any_eq_true,aO,Bool.or_eq_true] at h;obtain ⟨e,he,hb,hj⟩:=h;have Ih:e∈o.after:=sU he;have h1:=iO e Ih hb;rcases hj with hj | hj
  ·have:e.on=j:=sU hj;rw [<- this];exact h1
  ·cases Yj:ops[e.on]? with
   | none=>
    cases n with
    | zero=>simp [ordB] at hj
    | succ n=>simp [ordB,Yj] at hj
   | some o'=>exact SK hc n j e.on o' Yj (hc e.on o' Yj h1) hj
theorem Hm {rem:List Nat} (hP:Ke ops W=true) (hc:Cl ops rem) {i j:Nat} (hi:rdy ops rem i=true) (hj:rdy ops rem j=true) (vA:i∈rem) (CZ:j∈rem) (qj:i≠j) (V8:VH ops i=false∨VH ops j=false):nG ops W j i=true:=by
 obtain ⟨o,ho,ha⟩:=mr hi;obtain ⟨o',KJ,ha'⟩:=mr hj;simp only [Ke,List.all_eq_true,List.mem_range] at hP;have h1:=hP i (Array.getElem?_eq_some_iff.1 ho).1 j (Array.getElem?_eq_some_iff.1 KJ).1;simp only [Bool.or_eq_true,aO,Nat.beq_eq] at h1
 grind [SK]
theorem DU {i:Nat} {o:Oper} (h:ops[i]? = some o):VH ops i=isE o.op:=by unfold VH;rw [h]
theorem BU (j9:∀ (j:Nat) (o:Oper) cs b,ops[j]? = some o->o.op ≠ .select cs b) (hP:Ke ops W=true) {i:Nat} {o:Oper} (hi:ops[i]? = some o) (hE:isE o.op=false) :
  ∀ (T:mq) (rem:List Nat) (a:Act) (w:World),rem.Nodup->Cl ops rem->chkA ops T rem none=true->runS P ops W C Q T a w->i∈rem->rdy ops rem i=true ->
   ∃ v,Yl P ops C o v a/\(qi o.op=true->C w)/\VI P ops W C Q (rem.erase i) (a.put o.dst v) w
 | .fin,rem,a,w,_,_,hc,_,vA,_=>by grind [chkA]
 | .stop,rem,a,w,_,_,hc,_,_,_=>by simp [chkA] at hc
 | .ev j t alt,rem,a,w,hn,gQ,hc,hr,vA,O1=>by
  exfalso
  have key:∀ (T:mq) (seen:List Nat),(∀ k∈seen,VH ops k=true)->chkA ops T rem (some seen)=true->False:=by
   intro T
   induction T with
   | fin=>intro seen _ h;simp [chkA] at h
   | op=>intro seen _ h;simp [chkA] at h
   | ev k t alt _ ih=>grind [chkA]
   | stop=>grind [chkA,DU]
  grind [chkA]
 | .op j t,rem,a,w,hn,gQ,hc,hr,vA,O1=>by
  simp only [chkA,aO,Bool.not_eq_true'] at hc;obtain ⟨_,CZ,hje,hjr,OV⟩:=hc;have CZ:j∈rem:=sU CZ;simp only [runS] at hr;obtain ⟨y,hy,v,Yu,hyc,nT⟩:=hr;by_cases qj:i=j
  ·subst qj;rw [hi] at hy;simp only [oI] at hy;subst hy;exact ⟨v,Yu,hyc,t,OV,nT⟩
  ·have MD:=Hm hP gQ O1 hjr vA CZ qj (.inr hje);obtain ⟨Wb,ap2,_,_⟩:=gY MD hy hi;obtain ⟨u,hu,huc,T',hT',hrT⟩:=BU j9 hP hi hE t (rem.erase j) (a.put y.dst v) w (hn.erase j) (zu hn gQ hjr) OV nT ((List.mem_erase_of_ne qj).2 vA) (pQ O1);have Pu:=fun cs b=>j9 i o cs b hi;have hsy:=fun cs b=>j9 j y cs b hy;obtain ⟨_,O2,_⟩:=Oper.apart_spec Wb;refine ⟨u,(Yl.same Wb Pu).1 hu,huc,.op j T',?_,?_⟩
   ·grind [chkA,pQ]
   ·simp only [runS];refine ⟨y,hy,v,(Yl.same ap2 hsy).2 Yu,hyc,?_⟩;rw [<- Act.put_comm a v u O2];exact hrT
theorem Hn {e:Nat}:∀ (T:mq) (rem:List Nat) (seen:List Nat) (a:Act) (w:World),chkA ops T rem (some seen)=true->runS P ops W C Q T a w->e∈rem->rdy ops rem e=true->e ∉ seen ->
  ∃ o t,ops[e]? = some o/\chkA ops t (rem.erase e) none=true/\ez P ops o a w fun a' w'=>(W e=false->C w->C w')/\runS P ops W C Q t a' w'
 | .fin,rem,seen,a,w,hc,_,_,_,_=>by simp [chkA] at hc
 | .op _ _,rem,seen,a,w,hc,_,_,_,_=>by simp [chkA] at hc
 | .stop,rem,seen,a,w,hc,_,hm,hr,hs=>by
  simp only [chkA,List.all_eq_true,Bool.or_eq_true,Bool.not_eq_true'] at hc;rcases hc e hm with h | h
  ·rw [hr] at h;cases h
  ·exact (hs (sU h)).elim
 | .ev i t alt,rem,seen,a,w,hc,hr,hm,O1,hs=>by
  simp only [chkA,aO,Option.getD_some] at hc;simp only [runS] at hr;obtain ⟨⟨o,ho,bd⟩,hra⟩:=hr;by_cases Iu:i=e
  ·subst Iu;exact ⟨o,t,ho,hc.2.2.2.1,bd⟩
  ·exact Hn alt rem (i :: seen) a w hc.2.2.2.2 hra hm O1 (fun h=>by
    rcases dB h with h | h
    ·exact Iu h.symm
    ·exact hs h)
theorem Mb (j9:∀ (j:Nat) (o:Oper) cs b,ops[j]? = some o->o.op ≠ .select cs b) (hP:Ke ops W=true) {i:Nat} {o:Oper} (hi:ops[i]? = some o) (hE:isE o.op=true) :
  ∀ (T:mq) (rem:List Nat) (a:Act) (w:World),rem.Nodup->Cl ops rem->chkA ops T rem none=true->runS P ops W C Q T a w->i∈rem->rdy ops rem i=true ->
   ez P ops o a w (fun a' w'=>(W i=false->C w->C w')/\VI P ops W C Q (rem.erase i) a' w')
 | .fin,rem,a,w,_,_,hc,_,vA,_=>by grind [chkA]
 | .stop,rem,a,w,_,_,hc,_,_,_=>by simp [chkA] at hc
 | .ev j t alt,rem,a,w,hn,gQ,hc,hr,vA,O1=>by
  simp only [chkA,aO,Option.getD_none] at hc;simp only [runS] at hr;obtain ⟨⟨y,hy,bd⟩,hra⟩:=hr;by_cases qj:i=j
  ·subst qj;rw [hi] at hy;simp only [oI] at hy;subst hy;exact fc (fun a' w' h=>⟨h.1,t,hc.2.2.2.1,h.2⟩) bd
  ·obtain ⟨o',t',KJ,OV,hs⟩:=Hn alt rem [j] a w hc.2.2.2.2 hra vA O1 (sU qj);rw [hi] at KJ;simp only [oI] at KJ;subst KJ;exact fc (fun a' w' h=>⟨h.1,t',OV,h.2⟩) hs
 | .op j t,rem,a,w,hn,gQ,hc,hr,vA,O1=>by
  simp only [chkA,aO,Bool.not_eq_true'] at hc;obtain ⟨_,CZ,hje,hjr,OV⟩:=hc;have CZ:j∈rem:=sU CZ;simp only [runS] at hr;obtain ⟨y,hy,v,Yu,hyc,nT⟩:=hr;have qj:i≠j:=by grind [DU]
  have MD:=Hm hP gQ O1 hjr vA CZ qj (.inr hje);obtain ⟨Wb,ap2,_,hLW⟩:=gY MD hy hi;have Pu:=fun cs b=>j9 i o cs b hi;have hsy:=fun cs b=>j9 j y cs b hy;have ih:=Mb j9 hP hi hE t (rem.erase j) (a.put y.dst v) w (hn.erase j) (zu hn gQ hjr) OV nT ((List.mem_erase_of_ne qj).2 vA) (pQ O1);refine fc ?_ (qv ((tj Wb Pu).1 ih));rintro a' w' ⟨⟨Cv,T',hT',hrT⟩,u,rfl⟩;refine ⟨Cv,.op j T',?_,?_⟩
  ·grind [chkA,pQ]
  ·grind [runS,Yl.same]
theorem SL {Q':Exit->Act->World->Prop} (j9:∀ (j:Nat) (o:Oper) cs b,ops[j]? = some o->o.op ≠ .select cs b) (hP:Ke ops W=true) (hb:∀ (i:Nat) (o:Oper),ops[i]? = some o->∀ e∈o.after,Region.binds .any e=true->e.on < ops.size)
  (hQ:∀ a w,Q a w->Q' .normal a w):∀ (lT:Nat) (bo:Array Bool) (rem:List Nat) (a:Act) (w:World),
  bo.size=ops.size->(∀ i,i∈rem↔i < ops.size/\bo.getD i true=false)->rem.Nodup->Cl ops rem->rem.length<=lT->VI P ops W C Q rem a w->wpAny P .any ops Q' lT bo a w:=by
 have VJ:∀ (bo:Array Bool) (rem:List Nat),bo.size=ops.size->(∀ i,i∈rem↔i < ops.size/\bo.getD i true=false)->∀ i,i∈Region.ready .any ops bo↔i∈rem/\rdy ops rem i=true:=by
  intro bo rem cf vz i;have hl:∀ k,k < ops.size->(bo.getD k false=true↔k ∉ rem):=fun k hk=>by grind
  rw [mem_ready]
  grind [rdy,mr]
 intro lT
 induction lT with
 | zero=>
  intro bo rem a w cf vz hn gQ hlen hr;have:rem=[]:=List.length_eq_zero_iff.1 (by omega);subst this;obtain ⟨T,hT,hrT⟩:=hr;refine ⟨?_,hQ _ _ ?_⟩
  ·rw [List.eq_nil_iff_forall_not_mem];intro i hi;cases ((VJ bo [] cf vz i).1 hi).1
  ·cases T with
   | fin=>exact hrT
   | op i t=>simp [chkA] at hT
   | ev i t alt=>simp [chkA] at hT
   | stop=>simp [chkA] at hT
 | succ lT ih=>
  intro bo rem a w cf vz hn gQ hlen hr;obtain ⟨T,hT,hrT⟩:=hr;refine ⟨fun h0=>?_,fun i hi=>?_⟩
  ·cases T with
   | fin=>exact hQ _ _ hrT
   | op i t=>
    exfalso;simp only [chkA,aO] at hT;have:=(VJ bo rem cf vz i).2 ⟨by simpa using hT.2.1,hT.2.2.2.1⟩;rw [h0] at this;cases this
   | ev i t alt=>
    exfalso;simp only [chkA,aO] at hT;have:=(VJ bo rem cf vz i).2 ⟨by simpa using hT.1,hT.2.2.1⟩;rw [h0] at this;cases this
   | stop=>simp [chkA] at hT
  ·obtain ⟨vA,hir⟩:=(VJ bo rem cf vz i).1 hi;obtain ⟨o,ho,_⟩:=mr hir;have ik:=(Array.getElem?_eq_some_iff.1 ho).1
   have ES:∀ k,k∈rem.erase i↔k < ops.size/\(bo.setIfInBounds i true).getD k true=false:=by
    intro k;rw [List.Nodup.mem_erase_iff hn];by_cases uJ:k=i
    ·subst uJ;simp [cf,ik]
    ·rw [getD_set_ne true (Ne.symm uJ)]
     grind
   grind [VI,zu,AA,isE,fc,Mb,BU,lg]
end
def goA (X:Ctx) (D:Dr):mq->Bool->List (Nat × Sl)->St->Prop
 | .fin,_,_,st=>go X 4000 D.k st
 | .op i t,c,s0,st=>
  match D.ops.toList[i]? with
  | some o=>goD X ⟨D.ops,D.W,D.k,D.kZ,some (goA X D t)⟩ 3000 c [(i,o)] s0 st
  | none=>False
 | .ev i t alt,c,s0,st=>
  (match D.ops.toList[i]? with
  | some o=>goD X ⟨D.ops,D.W,D.k,D.kZ,some (goA X D t)⟩ 3000 c [(i,o)] s0 st
  | none=>False)/\goA X D alt c s0 st
 | .stop,_,_,_=>True
def ZX (ops:Array Oper):Bool:=Region.noSelect ops && (List.range ops.size).all fun i=>match ops[i]? with | some o=>o.after.toList.all fun e=>!Region.binds .any e || Nat.blt e.on ops.size | none=>true
section
variable {X:Ctx} {D:Dw}
theorem Od (hD:vB D.E0 D.d.kZ.bx D.wr) (hf:D.d.fin=none):∀ (T:mq) (rem:List Nat) m,chkA D.d.ops T rem m=true->∀ c s0 st,goA X D.d T c s0 st->∀ E a w,fX X D c E s0 st a w->runS X.P D.d.ops D.d.W D.C (D.Q X) T a w:=by
 intro T
 have NX:∀ (t:mq) (i:Nat) (o:Oper),D.d.ops[i]? = some o->(∀ c s0 st,goA X D.d t c s0 st->∀ E a w,fX X D c E s0 st a w->runS X.P D.d.ops D.d.W D.C (D.Q X) t a w)->∀ c s0 st,goD X ⟨D.d.ops,D.d.W,D.d.k,D.d.kZ,some (goA X D.d t)⟩ 3000 c [(i,o)] s0 st->∀ E a w,fX X D c E s0 st a w ->
   runT X.P D.d.ops D.d.W D.C (fun a w=>runS X.P D.d.ops D.d.W D.C (D.Q X) t a w) [i] a w:=fun t i o ho ih c s0 st hg E a w h=>by
  have h1:=fY (D:=⟨⟨D.d.ops,D.d.W,D.d.k,D.d.kZ,some (goA X D.d t)⟩,D.E0,D.wr⟩) hD 3000 c [(i,o)] s0 st hg (fun p hp=>by
   rw [List.mem_singleton] at hp;rw [hp]
   exact ho) E a w ⟨h.rel,h.x,h.β,h.t0,h.cc⟩
  refine po ?_ h1;rintro a w ⟨c,E,s0,st,h2,h3⟩;exact ih c s0 st h3 E a w ⟨h2.rel,h2.x,h2.β,h2.t0,h2.cc⟩
 induction T with
 | fin=>
  intro rem m _ c s0 st hg E a w h;show D.Q X a w;unfold Dw.Q;rw [hf];exact go_sound 4000 _ _ hg E a w h.rel
 | stop=>intro rem m _ c s0 st hg E a w h;exact trivial
 | op i t ih=>
  intro rem m hc c s0 st hg E a w h;simp only [chkA,aO,Bool.not_eq_true'] at hc;simp only [goA] at hg;split at hg
  ·rename_i o ho;have ho:D.d.ops[i]? = some o:=sU ho;have h4:=NX t i o ho (ih _ _ hc.2.2.2.2) c s0 st hg E a w h;have hE:isE o.op=false:=by rw [<- DU ho];exact hc.2.2.1
   simp only [runT,ho,hE,Bool.false_eq_true,if_false] at h4;exact ⟨o,ho,h4⟩
  ·exact hg.elim
 | ev i t alt ih1 ih2=>
  intro rem m hc c s0 st hg E a w h;simp only [chkA,aO] at hc;obtain ⟨hg,KU⟩:=hg;refine ⟨?_,ih2 _ _ hc.2.2.2.2 c s0 st KU E a w h⟩;split at hg
  ·rename_i o ho;have ho:D.d.ops[i]? = some o:=sU ho;have h4:=NX t i o ho (ih1 _ _ hc.2.2.2.1) c s0 st hg E a w h;have hE:isE o.op=true:=by rw [<- DU ho];exact hc.2.1
   simp only [runT,ho,hE,if_true] at h4;exact ⟨o,ho,h4⟩
  ·exact hg.elim
theorem DW {id:Nat} {ops:Array Oper} {k:List It} {st:St} (W:Nat->Bool) (T:mq) (hm:X.P.follows .mixedOrders=true) (hc:(ZX ops && Ke ops W && chkA ops T (List.range ops.size) none)=true) (S:St)
  (h:goA X ⟨ops,W,[.B9 fun s=>s=S∨iE s S],st,none⟩ T true st.sl st) (hk:go X 4000 k S):lM X id ops k st:=by
 intro E a w hr;have mP:=kz hr;simp only [aO] at hc;obtain ⟨⟨hN,hP⟩,hT⟩:=hc;simp only [ZX,aO,List.all_eq_true,List.mem_range] at hN;have hs:=qy mP (ops:=ops) (W:=W) (k:=[.B9 fun s=>s=S∨iE s S]);have cd:=Od (D:=⟨⟨ops,W,[.B9 fun s=>s=S∨iE s S],st,none⟩,E,w.drew⟩) mP.env.em rfl T _ _ hT true st.sl st h E a w.drew hs;refine wp_region_any hm ?_;refine SL (C:=CC E st.bx w.drew) (Q:=kq X [.B9 fun s=>s=S∨iE s S] .normal) (Region.noSelect_spec hN.1) hP (fun i o ho e he hb=>?_) (fun a w hq=>?_) ops.size (Array.replicate ops.size false) (List.range ops.size) a _ (by simp) ?_ List.nodup_range ?_ (by simp) ⟨T,hT,cd⟩
 ·have h1:=hN.2 i (Array.getElem?_eq_some_iff.1 ho).1;rw [ho] at h1;have h2:=List.all_eq_true.1 h1 e (sU he);rw [hb] at h2;simpa using h2
 ·obtain ⟨rF,E1,bY,hJ⟩:=hq;rcases hJ with rfl | hJ
  ·exact go_sound 4000 _ _ hk E1 a w bY
  ·exact go_sound 4000 _ _ hk E1 a w (EY bY hJ)
 ·simp_all
 ·intro k o ho hk
  grind
end
end Dv
end Go.Proofs.YtgjagnmeonoehaaGreat
set_option maxRecDepth 100000
namespace Go.Proofs.YtgjagnmeonoehaaGreat
open Go Go.RowKit Dv Go.Proofs.Tryz
theorem Mc {d:Nd} {z:Int} {j:Nat} {e:Ed} (h:TN d (.mk 0 z av []) j=e.to) (h0:0<=e.to) (c:d.ag=8):0<=z/\z < d.az.length:=by
 unfold TN at h;rw [ai (by omega),ai (by omega),ai (by omega),aj c] at h;split at h
 ·rename_i g;exact ⟨g.2.1,g.2.2⟩
 ·omega
theorem Md {v:Val} (h:rngW v):mZ v.n:=by obtain ⟨_,_,_,_⟩:=v;rw [rngW] at h;exact h.2.1
theorem zw {L:Nat} {ND:List Nd} (bA:∀ d∈ND,cr L ND.length d) {v:Val} {i:Int} (hr:rngW v) (h:dW ND v i=true):textV ND v i ≠ []:=by
 obtain ⟨d,hd,hc⟩:=gL h;have h1:=(DL (bA d (mG (bu hd).2)) (Md hr) hc).1;obtain ⟨k,n,s,ks⟩:=v;rw [textV,hd];simp [h1]
abbrev XI (PC LC:List DV) (obs:Int):List DV:=[.pt PC 0,.pt LC 0,.v (.int .i64 obs)]
section
variable {n:Nat} {f:Nat->Nat->Bool} {af:List ByteArray} {LC:List DV} (hR:za n f af LC) (PC:List DV)
include hR
theorem qV (obs a:Nat) (ho:obs < n) (ha:a < n):EvP prog 140 [.agg (XI PC LC obs),.v (.int .i64 a)] (.v (.bool (f a obs))):=by
 have hq:=hR.leq a obs;rw [GJ ha ho] at hq;refine eG 11 [.tmp 4] func140 rfl ntmps140 rfl fun _ _ _ _=>?_;refine cP abP hq ?_;exact (rfl:_=_)
theorem o0 {ND:List Nd} (obs a:Nat) (ho:obs < n) (ha:a < n) (d:Nd) (e:Ed) (hN:cr n ND.length d) (hm:e∈d.az):EvP prog 141 [.agg (XI PC LC obs),.agg (zW e),.v (.int .i64 a)] (.v (.bool (decide (e.ck≠0) && f (y9 f n a e.seen.toNat) obs))):=by
 obtain ⟨_,_,h3,VG⟩:=iv hN hm;have hj:=hR.join a e.seen.toNat ha VG;rw [<- h3] at hj;have hs:=qV hR PC obs (y9 f n a e.seen.toNat) ho (DD hR.ok ha VG);obtain ⟨en,eb,ea,et,sP,ew,jy,sQ,uB,qd⟩:=e;refine eG 20 [.tmp 6] func141 rfl ntmps141 rfl fun _ _ _ _=>?_;refine dI ?_;refine br ?_ ?_<;>intro c
 ·have c:jy≠0:=sU c;refine cD uN hj ?_;refine cD PN hs ?_;rw [show decide ((⟨en,eb,ea,et,sP,ew,jy,sQ,uB,qd⟩:Ed).ck≠0)=true from decide_eq_true c,Bool.true_and];exact (rfl:_=_)
 ·have c:¬ jy≠0:=sU c;rw [show decide ((⟨en,eb,ea,et,sP,ew,jy,sQ,uB,qd⟩:Ed).ck≠0)=false from decide_eq_false c,Bool.false_and];exact (rfl:_=_)
theorem zx {ND:List Nd} (obs:Int) (a:Nat) (ha:a < n) (d:Nd) (v:Val) (j:Nat) (e:Ed) (h:aW d v.n j=some e) (hm:e∈d.az) (hN:cr n ND.length d) (h5:5<=d.ag) (hz:d.ag=8->(0<=v.n/\v.n < d.az.length)/\j=0) (jF:d.az.length<=1099511627776) :
  EvP prog 139 [.agg (XI PC LC obs),.agg (kg d),.agg (aG v),.v (.int .i64 j),.v (.int .i64 a)] (.tup [.agg (zW e),.v (.int .i64 (gy f n d e a:Nat))]):=by
 obtain ⟨_,⟨h2,TH⟩,_⟩:=iv hN hm;have hj:=hR.join a e.label.toNat ha TH;rw [<- h2] at hj;have hU:gy f n d e a=if d.ag < 7 then a else y9 f n a e.label.toNat:=rfl
 generalize gy f n d e a=U at hU ⊢;have h8:=hN.k8;obtain ⟨ag,at',lo,hi,most,DX,es⟩:=d;obtain ⟨k,z,s,ks⟩:=v;simp only [Val.n] at h hz jF hU h5 h8;have pU:=cW es;unfold aW at h;simp only at h;have hd:∃ en eb ea et sP ew jy sQ uB qd,e=⟨en,eb,ea,et,sP,ew,jy,sQ,uB,qd⟩:=⟨_,_,_,_,_,_,_,_,_,_,rfl⟩
 have ZY:∃ (l:List (List DV)) (b:Bool),EvP prog 213 [.agg (kg ⟨ag,at',lo,hi,most,DX,es⟩),.agg (aG (.mk k z s ks))] (.tup [.sl 10 l none,.v (.bool b)])/\(if ag < 7 then b=false/\l[0]? = some (zW e) else b=true/\l[j]? = some (zW e)):=by
  by_cases c7:ag=7
  ·rw [aj c7] at h;refine ⟨iM es,true,?_,by rw [ai (by omega)];exact ⟨rfl,bH h⟩⟩;refine eG 24 [.tmp 4,.tmp 5] func213 rfl ntmps213 rfl fun _ _ _ _=>?_;refine br (fun _=>?_) (fun c=>absurd c7 (sU c));exact ⟨_,ax,rfl⟩
  rw [ai c7] at h;by_cases c8:ag=8
  ·rw [aj c8] at h;have hz:=hz c8;have hw:IntKind.i64.wrap (z + 1)=z + 1:=wrap64 (by omega) (by omega);refine ⟨((iM es).take (IntKind.i64.wrap (z + 1)).toNat).drop z.toNat,true,?_,by rw [ai (by omega),hz.2,List.getElem?_drop,cI,aj (by rw [hw];omega)];exact ⟨rfl,bH h⟩⟩;refine eG 24 [.tmp 4,.tmp 5] func213 rfl ntmps213 rfl fun _ _ _ _=>?_;refine br (fun c=>absurd (sU c) c7) (fun _=>?_);refine br (fun _=>?_) (fun c=>absurd c8 (sU c));refine ⟨⟨by omega,by rw [hw];omega,by rw [hw,cW];simp only;omega⟩,?_⟩;exact ⟨_,ax,rfl⟩
  ·rw [ai c8] at h;refine ⟨iM es,false,?_,by rw [aj (by omega)];exact ⟨rfl,bH h⟩⟩;refine eG 24 [.tmp 4,.tmp 5] func213 rfl ntmps213 rfl fun _ _ _ _=>?_;refine br (fun c=>absurd (sU c) c7) (fun _=>?_);refine br (fun c=>absurd (sU c) c8) (fun _=>?_);exact ⟨_,ax,rfl⟩
 obtain ⟨l,b,hE,hl⟩:=ZY;by_cases c:ag < 7
 ·rw [aj c] at hl hU;obtain ⟨rfl,hl⟩:=hl;subst hU;obtain ⟨en,eb,ea,et,sP,ew,jy,sQ,uB,qd,rfl⟩:=hd;refine eG 38 [.cell 10 193,.tmp 11] func139 rfl ntmps139 rfl fun _ _ _ _=>?_;refine cP WB hE ?_;refine ⟨_,⟨by omega,hl⟩,?_⟩;exact ⟨_,ax,rfl⟩
 ·rw [ai c] at hl hU;obtain ⟨rfl,hl⟩:=hl;subst hU;obtain ⟨en,eb,ea,et,sP,ew,jy,sQ,uB,qd,rfl⟩:=hd;refine eG 38 [.cell 10 193,.tmp 11] func139 rfl ntmps139 rfl fun _ _ _ _=>?_;refine cP WB hE ?_;refine ⟨_,⟨by omega,hl⟩,?_⟩;refine dS ?_;refine cD uN hj ?_;exact ⟨_,ax,rfl⟩
end
theorem sB (e:Ed):EvP prog 143 [.agg (zW e)] (.agg (aG (oT e))):=by
 obtain ⟨en,eb,ea,et,sP,ew,jy,sQ,uB,qd⟩:=e;refine eG 6 [.cell 2 34] func143 rfl ntmps143 rfl fun _ _ _ _=>?_;exact ⟨_,ax,rfl⟩
abbrev ae4 (a:ByteArray) (at':Nat) (m:Int) (e:Nat):St:=⟨[(0,⟨[],.v (.string a)⟩),ay 5 at',ay 8 m,ay 9 e],[],[]⟩
theorem zy (a:ByteArray) (ha:a.size<=1099511627776) (m:Int) (hm:m<=9223372036854775807):EvP prog 215 [.v (.string a),.v (.int .i64 m)] (.v (.string (ba (headL m.toNat (tx a))))):=by
 refine eG 28 [.tmp 4] func215 rfl ntmps215 rfl fun _ _ _ _=>?_;refine lI (fun j st=>∃ e at':Nat,st=ae4 a at' m e/\(e:Int)<=max m 0/\at' <= a.size/\(tx a).take at' ++ headL (m.toNat - e) ((tx a).drop at')=headL m.toNat (tx a)/\j=m.toNat - e) ⟨0,0,rfl,by omega,by omega,by simp,rfl⟩ (bG j8) ?_;rintro j st ⟨e,at',rfl,he,h1,hE,rfl⟩;have gD:=dg a;have ae5:headL (m.toNat - e) ((tx a).drop at')=[]->a.extract 0 at'=ba (headL m.toNat (tx a)):=fun h=>by grind [ov,Vj]
 refine br ?_ ?_<;>intro hL
 rotate_left
 ·have hge:m.toNat - e=0:=by have:=of_decide_eq_false hL;omega
  refine ⟨⟨by omega,by omega,by omega⟩,?_⟩;exact (congrArg (fun z=>DV.v (.string z)) (ae5 (by rw [hge];rfl)):_=_)
 have aw:(e:Int) < m:=of_decide_eq_true hL;refine br ?_ ?_<;>intro c
 ·have c:at'=a.size:=by have:=of_decide_eq_true c;omega
  refine ⟨⟨by omega,by omega,by omega⟩,?_⟩;exact (congrArg (fun z=>DV.v (.string z)) (ae5 (by rw [List.drop_of_length_le (by omega),ui])):_=_)
 have c:at' < a.size:=by have:=of_decide_eq_false c;omega
 have hua:=um a at' ha h1
 have aY:(tx a).drop at' ≠ []:=fun h=>by
  have:=congrArg List.length h;rw [List.length_drop,List.length_nil] at this;omega
 have hup:=gW aY;rw [List.length_drop] at hup;obtain ⟨k,hk⟩:∃ k,m.toNat - e=k + 1:=⟨m.toNat - e - 1,by omega⟩;rw [hk,show headL (k + 1) ((tx a).drop at')=((tx a).drop at').take (eW ((tx a).drop at')) ++ headL k (((tx a).drop at').drop (eW ((tx a).drop at'))) from rfl,<- List.append_assoc,List.drop_drop,<- List.take_add] at hE;generalize eW ((tx a).drop at')=w at hua hup hE;refine cE P5 rfl hua ax (fun q hq=>?_);obtain ⟨z1,rfl⟩:=hq
 have hw:IntKind.i64.wrap ((at':Int) + w)=((at' + w:Nat):Int):=by
  rw [wrap64 (by omega) (by omega)];omega
 have LN:IntKind.i64.wrap ((e:Int) + 1)=((e + 1:Nat):Int):=by
  rw [wrap64 (by omega) (by omega)];omega
 exact rE ⟨_,by omega,e + 1,at' + w,rfl,by omega,by omega,by rw [show m.toNat - (e + 1)=k by omega];exact hE,rfl⟩ (bG (gC hw LN))
theorem DY (e:Ed) (v:Val) (hn : -9223372036854775808<=v.n/\v.n<=9223372036854775807) (hs:v.wt<=1099511627776) (hc : -9223372036854775808<=e.cn/\e.cn<=9223372036854775807) :
  EvP prog 142 [.agg (zW e),.agg (aG v)] (.agg (aG (bS e v))):=by
 have hw:v.s.size<=1099511627776/\v.ks.length<=1099511627776:=by
  obtain ⟨k,n,s,ks⟩:=v;have:=cq ks;rw [Val.wt] at hs;show s.size<=_/\ks.length<=_;omega
 have hf:=jv v.n e.cn hn hc;have hh:=zy v.s hw.1 e.cn hc.2;have ZZ:=sB e
 have hA:e.ck=1->v.k=2->(aN v.n e.cn).2=true->bS e v = .mk 10 (aN v.n e.cn).1 av []:=fun h1 h2 h3=>by
  unfold bS;rw [aj ⟨h1,h2,h3⟩]
 have hB:e.ck=2->v.k=3->bS e v = .mk 11 0 (ba (headL e.cn.toNat (tx v.s))) []:=fun h1 h2=>by grind [bS]
 have hC:e.ck=3->v.k=5->bS e v = .mk 12 v.ks.length av []:=fun h1 h2=>by grind [bS]
 have hD:¬ (e.ck=1/\v.k=2/\(aN v.n e.cn).2=true)->¬ (e.ck=2/\v.k=3)->¬ (e.ck=3/\v.k=5)->bS e v=oT e:=fun h1 h2 h3=>by grind [bS]
 generalize bS e v=C at hA hB hC hD ⊢;generalize hH:oT e=HV at ZZ hD;obtain ⟨hvk,hvn,zR,Eb⟩:=HV;clear hH;obtain ⟨en,eb,ea,et,sP,ew,jy,sQ,uB,qd⟩:=e;obtain ⟨k,n,s,ks⟩:=v;simp only [Val.k,Val.n,Val.s,Val.ks] at hA hB hC hD hf hh hw;have cw:=aU ks;generalize aN n sQ=fl at hf hA hD;obtain ⟨fz,fb⟩:=fl;unfold Dk at hf;simp only at hA hD;generalize headL sQ.toNat (tx s)=H at hh hB;refine eG 57 [.cell 4 34] func142 rfl ntmps142 rfl fun _ _ _ _=>?_;refine br ?_ ?_<;>intro c
 ·have c:jy=1/\k=2:=by simpa [aq] using c
  refine cP AG hf ?_
  cases fb with
  | true=>
   rw [hA c.1 c.2 rfl];exact ⟨_,ax,rfl⟩
  | false=>
   rw [hD (by simp) (by omega) (by omega)];refine cP en143 ZZ ?_;exact ⟨_,ax,rfl⟩
 have c1:¬ (jy=1/\k=2):=by simpa [aq] using c
 refine br ?_ ?_<;>intro c
 ·have c:jy=2/\k=3:=by simpa [aq] using c
  refine cP WC hh ?_;rw [hB c.1 c.2];exact ⟨_,ax,rfl⟩
 have c2:¬ (jy=2/\k=3):=by simpa [aq] using c
 refine br ?_ ?_<;>intro c
 ·have c:jy=3/\k=5:=by simpa [aq] using c
  rw [hC c.1 c.2,<- cw];exact ⟨_,ax,rfl⟩
 have c3:¬ (jy=3/\k=5):=by simpa [aq] using c
 rw [hD (fun h=>c1 ⟨h.1,h.2.1⟩) c2 c3];refine cP en143 ZZ ?_;exact ⟨_,ax,rfl⟩
abbrev XJ (a b:Val) (e:Nat):St:=⟨[aF 2 0,aF 3 1,ay 5 e],[aG a,aG b],[]⟩
theorem vd:∀ (k:Nat) (a:Val),a.wt<=k->a.wt<=1099511627776->∀ b:Val,EvP prog 66 [.agg (aG a),.agg (aG b)] (.v (.bool (sameV a b)))
 | 0,v,h,_=>by have:=v.cT;omega
 | k + 1,.mk q n s ks,h,hb=>fun b=>by
  have ih:=vd k;rw [Val.wt] at h hb;obtain ⟨bk,bn,bs,bl⟩:=b;have My:=cq ks;have h1:=aU ks;have h2:=aU bl;have hS:sameV (.mk q n s ks) (.mk bk bn bs bl)=(decide (q=bk) && decide (n=bn) && decide (s=bs) && sameVs ks bl):=by rw [sameV]
  refine eG 53 [.tmp 4] func66 rfl ntmps66 rfl fun _ _ _ _=>?_;refine br ?_ ?_<;>intro c
  ·have c:¬ (q=bk/\n=bn/\s=bs/\ks.length=bl.length):=by grind [au]
   refine (bK ?_:);rw [hS];by_cases hl:ks.length=bl.length
   ·grind
   ·rw [qO hl,Bool.and_false]
  ·have c:q=bk/\n=bn/\s=bs/\ks.length=bl.length:=by grind [au]
   obtain ⟨rfl,rfl,rfl,hl⟩:=c;simp only [decide_true,Bool.true_and] at hS;rw [hS]
   refine aT (fun j st=>∃ e:Nat,st=XJ (.mk q n s ks) (.mk q n s bl) e/\e<=ks.length/\sameVs ks bl=sameVs (ks.drop e) (bl.drop e)/\j=ks.length - e) ks.length
    (XJ (.mk q n s ks) (.mk q n s bl) 0) (bG wB) ⟨0,rfl,by omega,rfl,by omega⟩ ?_
   rintro _ st ⟨e,rfl,he,aP,rfl⟩;refine br ?_ ?_<;>intro h
   ·have aw:e < ks.length:=sV h1 h;obtain ⟨x,hx⟩:=gX aw;obtain ⟨y,hy⟩:∃ y,bl[e]? = some y:=⟨_,gE (hl ▸ aw)⟩;rw [drop_cons hx,drop_cons hy,sameVs] at aP;have Rj:=cz (mG hx);have V8:=ih x (by omega) (by omega) y;obtain ⟨xk,xn,xs,xl⟩:=x;obtain ⟨yk,yn,ys,yl⟩:=y;refine dI ?_;refine iX (bJ hx) ?_;refine iX (bJ hy) ?_;refine cD abM V8 ?_;refine br ?_ ?_<;>intro h
    ·have aY:sameV (.mk xk xn xs xl) (.mk yk yn ys yl)=false:=sU h;refine (bK ?_:);rw [aP,aY,Bool.false_and]
    ·have aY:sameV (.mk xk xn xs xl) (.mk yk yn ys yl)=true:=sU h;rw [aY,Bool.true_and] at aP;exact rE ⟨_,by omega,e + 1,rfl,by omega,aP,rfl⟩ (bG (dH (aX aw (by omega))))
   ·have hge:ks.length<=e:=sV h1 h;rw [List.drop_of_length_le (by omega),List.drop_of_length_le (by omega)] at aP;refine (bK ?_:);rw [aP];simp [sameVs]
theorem Ho (a:Val) (ha:a.wt<=1099511627776) (b:Val):EvP prog 17 [.agg (aG a),.agg (aG b)] (.v (.bool (sameV a b))):=by
 have h:=vd _ a (aR _) ha b;obtain ⟨q,n,s,ks⟩:=a;obtain ⟨bk,bn,bs,bl⟩:=b;refine eG 8 [.tmp 4] func17 rfl ntmps17 rfl fun _ _ _ _=>?_;refine cP abM h ?_;exact (rfl:_=_)
section
variable (a b:Nat) (A B:List (List DV)) (rt:Int) {ND:List Nd} {L:Nat} (bA:∀ n∈ND,cr L ND.length n)
include bA
end
def dfD:Option (List Stp)->DV
 | some p=>.tup [.sl 3 (bf p) none,.v (.bool true)]
 | none=>.tup [.v (.slice none 0 0),.v (.bool false)]
def qf (ND:List Nd) (f:Nat->Nat->Bool) (n rt:Nat) (o:Int) (v:Val):Option Val:=if 0<=o/\o < n/\fitV ND v rt=true then some (eraseV ND f n o.toNat v rt (eC f n)) else none
def SM:Option Val->DV
 | some y=>.tup [.agg (aG y),.v (.bool true)]
 | none=>.tup [.agg (aG (.mk 0 0 av [])),.v (.bool false)]
section
variable (lv:List Wd) (f:Nat->Nat->Bool) (ND:List Nd) (rt:Nat) (hL:gH f lv.length) (hn:lv.length<=32) (bA:∀ n∈ND,cr lv.length ND.length n) (cf:∀ n∈ND,n.az.length<=1099511627776) (TJ:∀ n∈ND,DR n)
include hL hn bA cf TJ
def dfF (ND:List Nd) (f:Nat->Nat->Bool) (n rt:Nat) (o:Int) (a b:Val):Option (List Stp):=if 0<=o/\o < n/\fitV ND a rt=true/\fitV ND b rt=true then diffV ND f n o.toNat a b rt (eC f n) else none
def akF (ND:List Nd) (f:Nat->Nat->Bool) (n rt:Nat) (o:Int) (a b:Val):Bool:=decide (0<=o/\o < n) && fitV ND a rt && fitV ND b rt && (diffV ND f n o.toNat a b rt (eC f n)).isNone
end
end Go.Proofs.YtgjagnmeonoehaaGreat
set_option maxRecDepth 100000
namespace Go.Proofs.YtgjagnmeonoehaaGreat
open Go Go.RowKit Dv Tryz
theorem SO {d:Nd} {z:Int} {j:Nat} {e:Ed} (h:TN d (.mk 0 z av []) j=e.to) (h0:0<=e.to) (c:d.ag=8):(0<=z/\z < d.az.length)/\j=0:=by
 refine ⟨Mc h h0 c,?_⟩
 grind [TN]
abbrev erPSt (PC LC:List DV) (obs a:Nat) (v:Val) (d:Nd) (o:List Val) (q e:Nat):St:=
 ⟨[(2,⟨[],.v (.int .i64 a)⟩),(4,⟨[],.loc 0 0⟩),(7,⟨[],.loc 1 0⟩),(8,⟨[],.loc 2 0⟩),(9,⟨[],.loc 3 0⟩),(11,⟨[],.loc 4 0⟩),(31,⟨[],.sl 4 (dVals v.ks) none⟩),(32,⟨[],.v (.int .i64 (dVals v.ks).length)⟩),(33,⟨[],.v (.int .i64 e)⟩)],
  [XI PC LC obs,aG v,[.v (.int .i64 0),.v (.int .i64 0),.v (.string av),.v (.slice none 0 0)],kg d,[.v (.int .i64 v.k),.v (.int .i64 v.n),.v (.string v.s),.sl 4 (dVals o) (some 0)]],[⟨q,34,4,none⟩]⟩
theorem ve {S:Sch} {ND:List Nd} {PC LC:List DV} (hP:dM S ND PC) (hR:za S.ae.length (aH S) (aC S.ae) LC) (TJ:∀ n∈ND,DR n) (cf:∀ n∈ND,n.az.length<=1099511627776) (obs:Nat) (ho:obs < S.ae.length) :
  ∀ (k:Nat) (v:Val),v.wt<=k->v.wt<=1099511627776->rngW v->∀ (i:Int) (a:Nat),a < S.ae.length->fitV ND v i=true ->
   EvP Tryz.prog 69 [.agg (XI PC LC obs),.v (.int .i64 i),.v (.int .i64 a),.agg (aG v)] (.agg (aG (eraseV ND (aH S) S.ae.length obs v i a)))
 | 0,v,h,_=>by have:=v.cT;omega
 | k + 1,v,h,hb=>fun hr i a ha iz=>by
  have ih:=ve hP hR TJ cf obs ho k;have hL:=hR.ok;obtain ⟨d,hF⟩:=dT hP.ok iz;obtain ⟨h0,hg⟩:=bu hF.ah;obtain ⟨j,rfl⟩:∃ j:Nat,i=j:=⟨i.toNat,by omega⟩;have hg:ND[j]? = some d:=by simpa using hg
  have kX:=mG hg;have hN:=hP.ok d kX;have cJ:=hP.ah j d hg;have Kf:=fun {m:Nat} {x:Val}=>ny (m:=m) (x:=x) hP.ok iz hF;have Oe:=cf d kX;have SP:=TJ d kX;have zA:=hF.leaf
  have hE:eraseV ND (aH S) S.ae.length obs v j a = .mk v.k v.n v.s (eraseVs ND (aH S) S.ae.length obs v.ks d v.n a 0):=by
   obtain ⟨q,z,s,ks⟩:=v;rw [eraseV,hF.ah];rfl
  rw [hE];have Z0:=jO (ND:=ND) (f:=aH S) (L:=S.ae.length) (obs:=obs) v.ks d v.n a 0;have hOa:=fun {m:Nat} {x:Val}=>zd (ND:=ND) (f:=aH S) (L:=S.ae.length) (obs:=obs) (ks:=v.ks) (d:=d) (z:=v.n) (a:=a) (j:=0) (m:=m) (x:=x);generalize eraseVs ND (aH S) S.ae.length obs v.ks d v.n a 0=O at Z0 hOa ⊢;obtain ⟨vk,vn,vs,ks⟩:=v;have lf:=cq ks;have cw:=aU ks;rw [Val.wt] at h hb;have Z1:=pM hr;simp only [Val.ks,Val.n,Val.k,Val.s] at Kf Z0 hOa Z1 zA ⊢;obtain ⟨ag,at',lo,hi,most,af,es⟩:=d;refine EJ (P:=Tryz.prog) tt eT 5000 75 [.cell 8 34] Tryz.func69 rfl Tryz.ntmps69 rfl (nL rfl) (fun E9 w9 hn9 hm9=>?_);refine call_p mT (cJ) ax rfl ?_;refine aT (fun t st=>∃ e q:Nat,st=erPSt PC LC obs a (.mk vk vn vs ks) ⟨ag,at',lo,hi,most,af,es⟩ (O.take e) q e/\q=e/\e<=ks.length/\t=ks.length - e) ks.length (erPSt PC LC obs a (.mk vk vn vs ks) ⟨ag,at',lo,hi,most,af,es⟩ [] 0 0) (dq 5 ⟨0,34,4,none⟩ rfl rfl rfl (by repeat' (first | exact rfl | exact aA rfl | exact aD rfl | exact ch (Nat.le_refl _) rfl | exact ch (Nat.le_refl _) rfl | refine ⟨_,_,rfl,?_,?_⟩)) rfl rfl (by repeat' (first | exact trivial | exact aA rfl | exact aD rfl | exact ch (Nat.le_refl _) rfl | refine ⟨⟨_,rfl,?_⟩,?_⟩))) ⟨0,0,by rw [List.take_zero],rfl,by omega,by omega⟩ ?_;rintro t st ⟨e,q,rfl,hq,he,rfl⟩;refine br (fun iD=>?_) (fun iD=>?_)
  ·have aw:e < ks.length:=by simpa [cw,Val.ks] using iD
   obtain ⟨x,hx⟩:∃ x,ks[e]? = some x:=⟨_,gE aw⟩;obtain ⟨ed,hK⟩:=Kf hx;have hm:=mG hx;have TO:=cz hm;have nI:=eN Z1 hm;have hxe:=hOa hx;rw [Nat.zero_add,hK.gq] at hxe;simp only at hxe;obtain ⟨h1,h2⟩:=GO hN hK.mem hK.bare;have h5:5<=ag:=by grind
   have lu:=zx hR PC obs a ha ⟨ag,at',lo,hi,most,af,es⟩ (.mk vk vn vs ks) e ed hK.gq hK.mem hN h5 (SO hK.to' h1) Oe;have hU:=DF hL hN hK.mem ha;have o6:=qV hR PC obs (gy (aH S) S.ae.length ⟨ag,at',lo,hi,most,af,es⟩ ed a) ho hU;have hco:=o0 hR PC obs a ho ha ⟨ag,at',lo,hi,most,af,es⟩ ed hN hK.mem;have hcv:=DY ed x (uy nI) (by omega) (SP.2.2 ed hK.mem);have hhv:=sB ed;have hrec:=ih x (by omega) (by omega) nI ed.to (gy (aH S) S.ae.length ⟨ag,at',lo,hi,most,af,es⟩ ed a) hU hK.fit;have hOl':(O.take e).length=e:=by rw [List.length_take];omega
   have hdOl:(dVals (O.take e)).length=e:=by rw [aU,hOl']
   have pW:∀ y:Val,O[e]? = some y->dVals (O.take e) ++ [aG y]=dVals (O.take (e + 1)):=fun y hy=>yR hy;rw [DE] at hxe;generalize gy (aH S) S.ae.length ⟨ag,at',lo,hi,most,af,es⟩ ed a=U at lu o6 hrec hxe;generalize aH S U obs=b1 at o6 hxe;generalize eP:aH S (y9 (aH S) S.ae.length a ed.seen.toNat) obs=b2 at hco hxe;generalize OY:decide (ed.ck≠0)=DC at hco;generalize eraseV ND (aH S) S.ae.length obs x ed.to U=Y1 at hrec hxe;generalize bS ed x=Y2 at hcv hxe;generalize oT ed=Y3 at hhv hxe;obtain ⟨xk,xn,xs,nU⟩:=x;obtain ⟨y1k,y1n,y1s,y1ks⟩:=Y1;obtain ⟨y2k,y2n,y2s,y2ks⟩:=Y2;obtain ⟨y3k,y3n,y3s,y3ks⟩:=Y3;obtain ⟨en,eb,ea,et,sP,ew,jy,sQ,uB,qd⟩:=ed;refine ⟨_,⟨by omega,bJ hx⟩,?_⟩;refine call_p Ws (lu) ax rfl ?_;refine call_p PN (o6) ax rfl ?_
   cases b1 with
   | true=>
    simp only [reduceIte] at hxe;have eK:=pW _ hxe;refine call_p en69 (hrec) ax rfl ?_;refine ⟨by rw [hdOl,hq],⟨by simp [maxLen,hdOl];omega,by simp [hdOl];omega⟩,?_⟩;exact ⟨erPSt PC LC obs a (.mk vk vn vs ks) ⟨ag,at',lo,hi,most,af,es⟩ (O.take (e + 1)) (q + 1) (e + 1),(weak_b 5 rfl (wSA aw eK) rfl rfl rfl (wSB aw eK)),ks.length - (e + 1),by omega,e + 1,q + 1,rfl,by omega,by omega,rfl⟩
   | false=>
    cases DC with
    | false=>
     have HY:jy=0:=by simpa using of_decide_eq_false OY
     simp [HY] at hxe;have eK:=pW _ hxe;refine call_p en141 (hco) ax rfl ?_;refine call_p en143 (hhv) ax rfl ?_;refine ⟨by rw [hdOl,hq],⟨by simp [maxLen,hdOl];omega,by simp [hdOl];omega⟩,?_⟩;exact ⟨erPSt PC LC obs a (.mk vk vn vs ks) ⟨ag,at',lo,hi,most,af,es⟩ (O.take (e + 1)) (q + 1) (e + 1),(weak_b 5 rfl (wSA aw eK) rfl rfl rfl (wSB aw eK)),ks.length - (e + 1),by omega,e + 1,q + 1,rfl,by omega,by omega,rfl⟩
    | true=>
     have HY:=of_decide_eq_true OY
     cases b2 with
     | false=>
      simp at hxe;have eK:=pW _ hxe;refine call_p en141 (hco) ax rfl ?_;refine call_p en143 (hhv) ax rfl ?_;refine ⟨by rw [hdOl,hq],⟨by simp [maxLen,hdOl];omega,by simp [hdOl];omega⟩,?_⟩;exact ⟨erPSt PC LC obs a (.mk vk vn vs ks) ⟨ag,at',lo,hi,most,af,es⟩ (O.take (e + 1)) (q + 1) (e + 1),(weak_b 5 rfl (wSA aw eK) rfl rfl rfl (wSB aw eK)),ks.length - (e + 1),by omega,e + 1,q + 1,rfl,by omega,by omega,rfl⟩
     | true=>
      have hck':¬ jy=0:=HY;simp [hck'] at hxe;have eK:=pW _ hxe;refine call_p en141 (hco) ax rfl ?_;refine call_p en142 (hcv) ax rfl ?_;refine ⟨by rw [hdOl,hq],⟨by simp [maxLen,hdOl];omega,by simp [hdOl];omega⟩,?_⟩;exact ⟨erPSt PC LC obs a (.mk vk vn vs ks) ⟨ag,at',lo,hi,most,af,es⟩ (O.take (e + 1)) (q + 1) (e + 1),(weak_b 5 rfl (wSA aw eK) rfl rfl rfl (wSB aw eK)),ks.length - (e + 1),by omega,e + 1,q + 1,rfl,by omega,by omega,rfl⟩
  ·have hge:e=ks.length:=by have:=iD;simp [cw,Val.ks] at this;omega
   subst hge;rw [List.take_of_length_le (by omega)];exact ⟨_,ax,rfl⟩
section
variable {S:Sch} {ND:List Nd} {PC LC:List DV} (hP:dM S ND PC) (gg:EvP Tryz.prog 72 [.pt PC 0] (.pt LC 0)) (hR:za S.ae.length (aH S) (aC S.ae) LC) (Kg:∀ n∈ND,DR n) (cf:∀ n∈ND,n.az.length<=1099511627776) (rt:Nat) (nT:dF S=rt)
include gg hR
theorem zB (o:Int):EvP Tryz.prog 67 [.pt PC 0,.v (.int .i64 o)] (.tup [.agg (XI PC LC o),.v (.bool (decide (0<=o/\o < S.ae.length)))]):=by
 have hlen:=hR.len;refine EJ (P:=Tryz.prog) tt eT 5000 21 [.cell 4 148,.tmp 5] Tryz.func67 rfl Tryz.ntmps67 rfl (nL rfl) (fun E9 w9 hn9 hm9=>?_);refine call_p Ip (gg) ax rfl ?_;refine br (fun c=>?_) (fun c=>?_)
 ·have c:0<=o:=by simpa using c
  refine call_p Iq (hlen) ax rfl ?_;have hd:decide (0<=o/\o < (S.ae.length:Int))=decide (o < (S.ae.length:Int)):=decide_eq_decide.2 ⟨fun h=>h.2,fun h=>⟨c,h⟩⟩;rw [hd];exact ⟨_,ax,rfl⟩
 ·have c:¬ 0<=o:=by simpa using c
  rw [show decide (0<=o/\o < (S.ae.length:Int))=false from decide_eq_false (fun h=>c h.1)];exact ⟨_,ax,rfl⟩
include hP Kg cf nT
theorem Hp (o:Int) (v:Val) (hv:v.wt<=1099511627776) (CE:rngW v) :
  EvP Tryz.prog 18 [.pt PC 0,.v (.int .i64 o),.agg (aG v)] (SM (qf ND (aH S) S.ae.length rt o v)):=by
 have FU:=zB gg hR o;have dy:=hP.root;rw [nT] at dy;have rX:=hR.bot;have hf:=kO hP _ v (Nat.le_refl _) hv rt;have hs:=fun (obs:Nat) (ho:obs < S.ae.length)=>ve hP hR Kg cf obs ho _ v (Nat.le_refl _) hv CE rt (eC (aH S) S.ae.length) (wz hR.ok);have hS:qf ND (aH S) S.ae.length rt o v=if 0<=o/\o < S.ae.length/\fitV ND v rt=true then some (eraseV ND (aH S) S.ae.length o.toNat v rt (eC (aH S) S.ae.length)) else none:=rfl
 generalize qf ND (aH S) S.ae.length rt o v=SF at hS ⊢;generalize fitV ND v rt=F at hf hs hS;obtain ⟨k,n,s,ks⟩:=v;by_cases ho:0<=o/\o < S.ae.length
 ·obtain ⟨ob,rfl⟩:∃ n:Nat,o=n:=⟨_,(Int.toNat_of_nonneg ho.1).symm⟩;have hs:=hs ob (by omega);rw [Int.toNat_natCast] at hS;rw [show decide (0<=(ob:Int)/\(ob:Int) < (S.ae.length:Int))=true from decide_eq_true ho] at FU;generalize eraseV ND (aH S) S.ae.length ob (.mk k n s ks) rt (eC (aH S) S.ae.length)=Y at hs hS;generalize eC (aH S) S.ae.length=bt at rX hs;obtain ⟨yk,yn,ys,q7⟩:=Y;refine EJ (P:=Tryz.prog) tt eT 5000 35 [.cell 6 34,.tmp 7] Tryz.func18 rfl Tryz.ntmps18 rfl (nL rfl) (fun E9 w9 hn9 hm9=>?_);refine call_p Uo (FU) ax rfl ?_;refine fZ (fun _=>false) mo (by decide +kernel) ?_;refine pk xu (dy) ax rfl ?_;refine pk PF (hf) ax rfl ?_
  cases F with
  | true=>
   have hs:=hs rfl;rw [if_pos ⟨by omega,by omega,rfl⟩] at hS;rw [hS];refine KX mo (by decide +kernel) ?_;refine pk xu (dy) ax rfl ?_;refine pk PG (rX) ax rfl ?_;refine pk en69 (hs) ax rfl ?_;exact ⟨_,ax,rfl⟩
  | false=>
   rw [if_neg (by simp)] at hS;rw [hS];exact ⟨_,ax,rfl⟩
 ·rw [if_neg (fun h=>ho ⟨h.1,h.2.1⟩)] at hS;rw [hS];rw [show decide (0<=o/\o < (S.ae.length:Int))=false from decide_eq_false ho] at FU;refine EJ (P:=Tryz.prog) tt eT 5000 35 [.cell 6 34,.tmp 7] Tryz.func18 rfl Tryz.ntmps18 rfl (nL rfl) (fun E9 w9 hn9 hm9=>?_);refine call_p Uo (FU) ax rfl ?_;refine fZ (fun _=>false) mo (by decide +kernel) ?_;exact ⟨_,ax,rfl⟩
end
end Go.Proofs.YtgjagnmeonoehaaGreat
set_option maxRecDepth 100000
namespace Go.Proofs.YtgjagnmeonoehaaGreat
open Go Go.RowKit Dv Go.Proofs.Tryz
theorem shellF_567 {d:Nd} {v:Val} (c:d.ag=5∨d.ag=6∨d.ag=7):shellF d v=(decide (v.s=av) && decide (v.k=d.ag) && decide (v.n=0) && (if d.ag=5 then decide ((v.ks.length:Int)<=d.most) else if d.ag=6 then decide (v.ks.length < 2) else decide (v.ks.length=d.az.length))):=by grind [shellF,av]
theorem shellF_8 {d:Nd} {v:Val} (c:d.ag=8):shellF d v=if v.s≠av∨v.k≠8∨v.n < 0∨(d.az.length:Int)<=v.n then false else match d.az[v.n.toNat]? with
  | none=>false
  | some e=>(decide (v.ks.length=0) == e.bare) && decide (v.ks.length < 2):=by
 unfold shellF;rw [c];by_cases h1:v.s=av
 ·grind
 ·grind
theorem Hq (d:Nd) (v:Val) (h5:5<=d.ag) (h8:d.ag<=8) (jF:d.az.length<=1099511627776) (hv:v.wt<=1099511627776):EvP prog 207 [.agg (kg d),.agg (aG v)] (.v (.bool (shellF d v))):=by
 have hA:=fun c=>shellF_567 (d:=d) (v:=v) c;have hB:=fun c=>shellF_8 (d:=d) (v:=v) c;have hA5:d.ag=5->shellF d v=(decide (v.s=av) && decide (v.k=5) && decide (v.n=0) && decide ((v.ks.length:Int)<=d.most)):=fun c=>by rw [hA (.inl c),aj c,c]
 have hA6:d.ag=6->shellF d v=(decide (v.s=av) && decide (v.k=6) && decide (v.n=0) && decide (v.ks.length < 2)):=fun c=>by rw [hA (.inr (.inl c)),ai (by omega),aj c,c]
 have hA7:d.ag=7->shellF d v=(decide (v.s=av) && decide (v.k=7) && decide (v.n=0) && decide (v.ks.length=d.az.length)):=fun c=>by rw [hA (.inr (.inr c)),ai (by omega),ai (by omega),c]
 have hB1:d.ag=8->(v.s≠av∨v.k≠8∨v.n < 0∨(d.az.length:Int)<=v.n)->shellF d v=false:=fun c h=>by rw [hB c,aj h]
 have hB2:d.ag=8->¬ (v.s≠av∨v.k≠8∨v.n < 0∨(d.az.length:Int)<=v.n)->∀ e,d.az[v.n.toNat]? = some e->shellF d v=((decide (v.ks.length=0) == e.bare) && decide (v.ks.length < 2)):=fun c h e he=>by rw [hB c,ai h,he]
 clear hA hB;generalize shellF d v=B at hA5 hA6 hA7 hB1 hB2 ⊢;obtain ⟨ag,at',lo,hi,most,DX,es⟩:=d;obtain ⟨k,z,s,ks⟩:=v;simp only [Val.k,Val.n,Val.s,Val.ks] at hA5 hA6 hA7 hB1 hB2 h5 h8 jF;have pU:=cW es;have cw:=aU ks;refine eG 111 [.tmp 4] func207 rfl ntmps207 rfl fun _ _ _ _=>?_;refine br ?_ ?_<;>intro c
 ·have c:ag=5:=sU c;subst c;rw [hA5 rfl];refine (bK ?_:);simp only [aq,cw];rfl
 have c5:¬ ag=5:=sU c;refine br ?_ ?_<;>intro c
 ·have c:ag=6:=sU c;subst c;rw [hA6 rfl];refine (bK ?_:);simp only [aq,cw];rw [show decide ((ks.length:Int)<=1)=decide (ks.length < 2) from decide_eq_decide.2 ⟨fun h=>by omega,fun h=>by omega⟩];rfl
 have c6:¬ ag=6:=sU c;refine br ?_ ?_<;>intro c
 ·have c:ag=7:=sU c;subst c;rw [hA7 rfl];refine (bK ?_:);simp only [aq,cw,pU];rw [show decide ((ks.length:Int)=es.length)=decide (ks.length=es.length) from decide_eq_decide.2 ⟨fun h=>by omega,fun h=>by omega⟩];rfl
 have c7:¬ ag=7:=sU c;refine br ?_ ?_<;>intro c
 ·have c:s≠av∨k≠8∨z < 0∨(es.length:Int)<=z:=by
   simp [au,pU] at c;rcases c with ((c | c) | c) | c
   ·exact .inl c
   ·exact .inr (.inl c)
   ·exact .inr (.inr (.inl c))
   ·exact .inr (.inr (.inr c))
  rw [hB1 (by omega) c];exact (rfl:_=_)
 ·have c:¬ (s≠av∨k≠8∨z < 0∨(es.length:Int)<=z):=by
   simp [au,pU] at c;rintro (h | h | h | h)
   ·exact h c.1.1.1
   ·exact h c.1.1.2
   ·omega
   ·omega
  obtain ⟨e,he⟩:∃ e,es[z.toNat]? = some e:=⟨_,gE (by omega)⟩;rw [hB2 (by omega) c e he];obtain ⟨en,eb,ea,et,sP,ew,jy,sQ,uB,qd⟩:=e;refine dI ?_;refine iX (bH he) ?_;refine (bK ?_:);simp only [aq,cw];rw [show decide ((ks.length:Int)=0)=decide (ks.length=0) from decide_eq_decide.2 ⟨fun h=>by omega,fun h=>by omega⟩,show decide ((ks.length:Int) < 2)=decide (ks.length < 2) from decide_eq_decide.2 ⟨fun h=>by omega,fun h=>by omega⟩];rfl
theorem Kh {v:Val} {k n:Int} {s:ByteArray} (h:0 < v.ks.length):dh v k n s=false:=by grind [dh]
theorem Ki {z u:Int} (hz : -9223372036854775808<=z) (hu:1<=u):((aN z u).2 && decide ((aN z u).1=z))=decide (z % u=0):=by
 rw [sx hu];have h1:=Int.emod_nonneg z (b:=u) (by omega);by_cases c:z - z % u < -9223372036854775808
 ·rw [aj c,decide_eq_false (show ¬ z % u=0 by omega)];rfl
 ·rw [ai c];show (true && decide (z - z % u=z))=_;rw [Bool.true_and];exact decide_eq_decide.2 ⟨fun h=>by omega,fun h=>by omega⟩
theorem mayF_1 {e:Ed} {d:Nd} {v:Val} (c:e.ck=1/\d.ag=2):iS e d v=if dh v 9 e.wide av=true then !(aN d.lo e.cn).2
  else dh v 10 v.n av && decide (v.n % e.cn=0) && (aN d.hi e.cn).2 && decide (v.n<=(aN d.hi e.cn).1) && (!(aN d.lo e.cn).2 || decide ((aN d.lo e.cn).1<=v.n)):=by
 unfold iS;rw [aj c]
theorem mayF_2 {e:Ed} {d:Nd} {v:Val} (c:e.ck=2/\d.ag=3):iS e d v=(dh v 11 0 v.s && decide ((v.s.size:Int)<=d.most) && decide (headL e.cn.toNat (tx v.s)=tx v.s)):=by grind [iS]
theorem mayF_3 {e:Ed} {d:Nd} {v:Val} (c:e.ck=3/\d.ag=5):iS e d v=(dh v 12 v.n av && decide (0<=v.n) && decide (v.n<=d.most)):=by grind [iS]
theorem mayF_0 {e:Ed} {d:Nd} {v:Val} (c1:¬ (e.ck=1/\d.ag=2)) (c2:¬ (e.ck=2/\d.ag=3)) (c3:¬ (e.ck=3/\d.ag=5)):iS e d v=dh v 9 e.wide av:=by grind [iS]
theorem SQ {e:Ed} {d:Nd} {v:Val} (h:0 < v.ks.length):iS e d v=false:=by grind [mayF_1,Kh,mayF_2,mayF_3,mayF_0]
theorem sC {v:Val} {k n:Int} {s:ByteArray} (h:v.ks=[]):dh v k n s=(decide (v.k=k) && decide (v.n=n) && decide (v.s=s)):=by
 unfold dh;rw [h];exact Bool.and_true _
theorem mayF_9 {e:Ed} {d:Nd} {v:Val} (c:e.ck=1/\d.ag=2) (J9:v.ks=[]) (h:v.k=9):iS e d v=(!(aN d.lo e.cn).2 && decide (v.n=e.wide) && decide (v.s=av)):=by grind [mayF_1,sC,av]
theorem mayF_10 {e:Ed} {d:Nd} {v:Val} (c:e.ck=1/\d.ag=2) (J9:v.ks=[]) (h:¬ v.k=9) (hn : -9223372036854775808<=v.n) (N3:1<=e.cn) :
  iS e d v=(decide (v.k=10) && decide (v.s=av) && (aN v.n e.cn).2 && decide ((aN v.n e.cn).1=v.n) && (aN d.hi e.cn).2 && (!(aN d.lo e.cn).2 || decide ((aN d.lo e.cn).1<=v.n)) && decide (v.n<=(aN d.hi e.cn).1)):=by
 rw [mayF_1 c,sC J9,sC J9,decide_eq_false h,<- Ki hn N3];generalize (aN v.n e.cn).2=b1;generalize decide ((aN v.n e.cn).1=v.n)=b2;generalize (aN d.hi e.cn).2=b3;generalize decide (v.n<=(aN d.hi e.cn).1)=b4;generalize (!(aN d.lo e.cn).2 || decide ((aN d.lo e.cn).1<=v.n))=b5;generalize decide (v.k=10)=b6;generalize decide (v.s=av)=b7;rw [show decide (v.n=v.n)=true from decide_eq_true rfl];cases b1<;>cases b2<;>cases b3<;>cases b4<;>cases b5<;>cases b6<;>cases b7<;>rfl
theorem DZ (e:Ed) (d:Nd) (v:Val) (J9:v.ks=[]) (HY:e.ck=1/\d.ag=2) (N3:1<=e.cn) (hn : -9223372036854775808<=v.n/\v.n<=9223372036854775807) (hlo : -9223372036854775808<=d.lo/\d.lo<=9223372036854775807) (pT : -9223372036854775808<=d.hi/\d.hi<=9223372036854775807) (hc : -9223372036854775808<=e.cn/\e.cn<=9223372036854775807) :
  EvP prog 258 [.agg (zW e),.agg (kg d),.agg (aG v)] (.v (.bool (iS e d v))):=by
 have h1:=jv d.lo e.cn hlo hc;have h2:=jv v.n e.cn hn hc;have h3:=jv d.hi e.cn pT hc;have jT:=mayF_9 HY J9;have Cj:=fun h=>mayF_10 HY J9 h hn.1 N3;generalize iS e d v=B at jT Cj ⊢;unfold Dk at h1 h2 h3;generalize aN d.lo e.cn=L at h1 jT Cj;generalize aN v.n e.cn=M at h2 Cj;generalize aN d.hi e.cn=H at h3 Cj;obtain ⟨L1,L2⟩:=L;obtain ⟨M1,M2⟩:=M;obtain ⟨H1,H2⟩:=H;obtain ⟨q,z,s,ks⟩:=v;obtain ⟨en,eb,ea,et,sP,ew,jy,sQ,uB,qd⟩:=e;obtain ⟨ag,at',lo,hi,most,DX,es⟩:=d;refine eG 90 [.tmp 6] func258 rfl ntmps258 rfl fun _ _ _ _=>?_;refine cP AG h1 ?_;refine br ?_ ?_<;>intro c
 ·have c:q=9:=sU c;rw [jT c];refine (bK ?_:);simp only [aq];rfl
 ·have c:¬ q=9:=sU c;rw [Cj c];refine cP AG h2 ?_;refine cP AG h3 ?_;refine (bK ?_:);simp only [aq,au];rfl
theorem BV (e:Ed) (d:Nd) (v:Val) (N3:e.ck=1->1<=e.cn) (hn : -9223372036854775808<=v.n/\v.n<=9223372036854775807) (hlo : -9223372036854775808<=d.lo/\d.lo<=9223372036854775807) (pT : -9223372036854775808<=d.hi/\d.hi<=9223372036854775807) (hc : -9223372036854775808<=e.cn/\e.cn<=9223372036854775807) (hv:v.wt<=1099511627776) :
  EvP prog 208 [.agg (zW e),.agg (kg d),.agg (aG v)] (.v (.bool (iS e d v))):=by
 have OP:=fun J9 HY=>DZ e d v J9 HY (N3 HY.1) hn hlo pT hc
 have cf:v.s.size<=1099511627776/\v.ks.length<=1099511627776:=by
  obtain ⟨k,n,s,ks⟩:=v;have:=cq ks;rw [Val.wt] at hv;exact ⟨by show s.size<=_;omega,by show ks.length<=_;omega⟩
 have hh:=zy v.s cf.1 e.cn hc.2;have hlen:=fun h=>SQ (e:=e) (d:=d) (v:=v) h;have Cj:=fun c=>mayF_2 (e:=e) (d:=d) (v:=v) c;have hm3:=fun c=>mayF_3 (e:=e) (d:=d) (v:=v) c;have mH:=fun a b c=>mayF_0 (e:=e) (d:=d) (v:=v) a b c;have fV:=fun k n s h=>sC (v:=v) (k:=k) (n:=n) (s:=s) h;generalize iS e d v=B at OP hlen Cj hm3 mH ⊢;have Z2:(e.ck=2/\d.ag=3)->v.ks=[]->B=(decide (v.k=11) && decide (v.n=0) && decide ((v.s.size:Int)<=d.most) && decide (headL e.cn.toNat (tx v.s)=tx v.s)):=fun c h=>by grind
 have ae6:(e.ck=3/\d.ag=5)->v.ks=[]->B=(decide (v.k=12) && decide (v.s=av) && decide (0<=v.n) && decide (v.n<=d.most)):=fun c h=>by grind
 have vG:¬ (e.ck=1/\d.ag=2)->¬ (e.ck=2/\d.ag=3)->¬ (e.ck=3/\d.ag=5)->v.ks=[]->B=(decide (v.k=9) && decide (v.n=e.wide) && decide (v.s=av)):=fun a b c h=>by
  rw [mH a b c,fV _ _ _ h]
 clear Cj hm3 mH fV;generalize headL e.cn.toNat (tx v.s)=HD at hh Z2;obtain ⟨q,z,s,ks⟩:=v;simp only [Val.ks,Val.s] at OP hlen Z2 ae6 vG hh cf;have cw:=aU ks;obtain ⟨en,eb,ea,et,sP,ew,jy,sQ,uB,qd⟩:=e;obtain ⟨ag,at',lo,hi,most,DX,es⟩:=d;refine eG 104 [.tmp 6] func208 rfl ntmps208 rfl fun _ _ _ _=>?_;refine br ?_ ?_<;>intro c
 ·have c:0 < ks.length:=sV cw c;rw [hlen c];exact (rfl:_=_)
 have c0:ks=[]:=by simp_all
 refine br ?_ ?_<;>intro c
 ·have c:jy=1/\ag=2:=by simpa [aq] using c
  have OP:=OP c0 c;refine cP acu OP ?_;exact (rfl:_=_)
 have c1:¬ (jy=1/\ag=2):=by simpa [aq] using c
 refine br ?_ ?_<;>intro c
 ·have c:jy=2/\ag=3:=by simpa [aq] using c
  have hB:B=((decide (q=11) && decide (z=0) && decide ((s.size:Int)<=most)) && decide (HD=tx s)):=Z2 c c0;have hbt:decide (ba HD=s)=decide (HD=tx s):=decide_eq_decide.2 ⟨fun h=>by rw [<- h,uU],fun h=>by rw [h,Lf]⟩;refine dI ?_;refine br ?_ ?_<;>intro g
  ·have g:(decide (q=11) && decide (z=0) && decide ((s.size:Int)<=most))=true:=by simpa [aq] using g
   rw [g,Bool.true_and] at hB;refine cD WC hh ?_;refine (bK ?_:);rw [hB,<- hbt];rfl
  ·have g:(decide (q=11) && decide (z=0) && decide ((s.size:Int)<=most))=false:=by simpa [aq] using g
   rw [g,Bool.false_and] at hB;rw [hB];exact (rfl:_=_)
 have c2:¬ (jy=2/\ag=3):=by simpa [aq] using c
 refine br ?_ ?_<;>intro c
 ·have c:jy=3/\ag=5:=by simpa [aq] using c
  rw [ae6 c c0];refine (bK ?_:);simp only [aq];rfl
 have c3:¬ (jy=3/\ag=5):=by simpa [aq] using c
 rw [vG c1 c2 c3 c0];refine (bK ?_:);simp only [aq];rfl
def edW (w:Int):Ed:=⟨av,false,0,0,0,w,0,0,0,0⟩
theorem Z3 (w:Int) (d:Nd) (v:Val):iS (edW w) d v=dh v 9 w av:=by
 rw [mayF_0 (by rintro ⟨h,_⟩;cases h) (by rintro ⟨h,_⟩;cases h) (by rintro ⟨h,_⟩;cases h)];rfl
theorem Kj {N:Nat} {ND:List Nd} {d:Nd} (hN:cr N ND.length d) {v:Val} (h:shellF d v=true) (c:d.ag=8) {m:Nat} (hm:m < v.ks.length):(0<=v.n/\v.n < d.az.length)/\m=0:=by grind [shellF_8]
def kidS (ND:List Nd) (f:Nat->Nat->Bool) (L obs:Nat) (d:Nd) (e:Ed) (a:Nat) (x:Val):Bool:=if jZ f L obs d e a=2 then seeV ND f L obs x e.to (gy f L d e a) else if jZ f L obs d e a=1 then (match bR ND e.to with | none=>false | some t=>iS e t x) else dh x 9 e.wide av
theorem Og {ND:List Nd} {f:Nat->Nat->Bool} {L obs:Nat} {ks:List Val} {d:Nd} {z:Int} {a j m:Nat} {x:Val} {e:Ed} (h:ks[m]? = some x) (he:aW d z j=some e):seeVs ND f L obs (ks.drop m) d z a j=(kidS ND f L obs d e a x && seeVs ND f L obs (ks.drop (m + 1)) d z a (j + 1)):=by
 rw [JW h,he];rfl
abbrev Oh (PC LC:List DV) (obs a:Nat) (v:Val) (d:Nd) (e:Nat):St:=
 ⟨[ay 2 a,aF 4 0,aF 7 1,aF 9 2,bi 38 4 (dVals v.ks),ay 39 ((dVals v.ks).length),ay 40 e],[XI PC LC obs,aG v,kg d],[]⟩
theorem vf {S:Sch} {ND:List Nd} {PC LC:List DV} (hP:dM S ND PC) (hR:za S.ae.length (aH S) (aC S.ae) LC) (TJ:∀ n∈ND,DR n) (cf:∀ n∈ND,n.az.length<=1099511627776) (obs:Nat) (ho:obs < S.ae.length) :
  ∀ (k:Nat) (v:Val),v.wt<=k->v.wt<=1099511627776->rngW v->∀ (i a:Nat),a < S.ae.length->i < ND.length ->
   EvP prog 125 [.agg (XI PC LC obs),.v (.int .i64 i),.v (.int .i64 a),.agg (aG v)] (.v (.bool (seeV ND (aH S) S.ae.length obs v i a)))
 | 0,v,h,_=>by have:=v.cT;omega
 | k + 1,v,h,hb=>fun hr i a ha hi=>by
  have ih:=vf hP hR TJ cf obs ho k;have hL:=hR.ok;obtain ⟨d,hg⟩:∃ d,ND[i]? = some d:=⟨_,gE hi⟩;have hnd:bR ND (i:Int)=some d:=by grind [bR]
  have kX:=mG hg;have hN:=hP.ok d kX;have cJ:=hP.ah i d hg;have Oe:=cf d kX;have SP:=TJ d kX;have Xs:=kO hP _ v (aR _) hb i;have Ah:=fun h5=>Hq d v h5 hN.k8 Oe hb;have Z4:=fun h5 hs m hm=>uw hN h5 (v:=v) hs (m:=m) hm;have Z5:=fun hs c m hm=>Kj hN (v:=v) hs c (m:=m) hm
  have hV:seeV ND (aH S) S.ae.length obs v i a=if d.ag < 5 then fitV ND v i else shellF d v && seeVs ND (aH S) S.ae.length obs v.ks d v.n a 0:=by
   obtain ⟨q,z,s,ks⟩:=v;rw [seeV,hnd];rfl
  have hV1:d.ag < 5->seeV ND (aH S) S.ae.length obs v i a=fitV ND v i:=fun c=>by rw [hV,aj c]
  have VK:¬ d.ag < 5->seeV ND (aH S) S.ae.length obs v i a=(shellF d v && seeVs ND (aH S) S.ae.length obs v.ks d v.n a 0):=fun c=>by rw [hV,ai c]
  clear hV;generalize seeV ND (aH S) S.ae.length obs v i a=B at hV1 VK ⊢;generalize fitV ND v i=F at Xs hV1;generalize shellF d v=SH at Ah Z4 Z5 VK;obtain ⟨vk,vn,vs,ks⟩:=v;have lf:=cq ks;have cw:=aU ks;rw [Val.wt] at h hb;have Z1:=pM hr;simp only [Val.ks,Val.n] at VK Z1 Z4 Z5;obtain ⟨ag,at',lo,ik,most,af,es⟩:=d;refine eG 90 [.tmp 8] func125 rfl ntmps125 rfl fun _ _ _ _=>?_;refine cP mT cJ ?_;refine br ?_ ?_<;>intro c
  ·have c:ag < 5:=sU c;rw [hV1 c];refine cP PF Xs ?_;exact (rfl:_=_)
  have c5:¬ ag < 5:=sU c;have VK:=VK c5;have h5:5<=ag:=by omega
  have Ah:=Ah h5;refine cP acg Ah ?_
  cases SH with
  | false=>
   rw [Bool.false_and] at VK;rw [VK];exact (rfl:_=_)
  | true=>
   rw [Bool.true_and] at VK;refine lI (fun t st=>∃ e:Nat,st=Oh PC LC obs a (.mk vk vn vs ks) ⟨ag,at',lo,ik,most,af,es⟩ e/\e<=ks.length/\B=seeVs ND (aH S) S.ae.length obs (ks.drop e) ⟨ag,at',lo,ik,most,af,es⟩ vn a e/\t=ks.length - e) ⟨0,rfl,by omega,VK,rfl⟩ (dz 3 pV j8) ?_;rintro t st ⟨e,rfl,he,hE,rfl⟩;refine br ?_ ?_<;>intro iD
   ·have aw:e < ks.length:=by simpa [cw,Val.ks] using iD
    obtain ⟨x,hx⟩:=gX aw;obtain ⟨ed,hK⟩:=Z4 h5 rfl e aw;have hm:=mG hx;have TO:=cz hm;have nI:=eN Z1 hm;obtain ⟨h1,t2,h2⟩:=GO hN hK.mem hK.bare;obtain ⟨_,KU⟩:=bu h2;have gD:=(gS KU).1;have nJ:ed.to=(ed.to.toNat:Nat):=by omega
    have VL:=TJ t2 (mG KU);have SR:=hP.ah ed.to.toNat t2 KU;rw [<- nJ] at SR;rw [Og hx hK.gq] at hE;have lu:=zx hR PC obs a ha ⟨ag,at',lo,ik,most,af,es⟩ (.mk vk vn vs ks) e ed hK.gq hK.mem hN h5 (fun c=>Z5 rfl c e aw) Oe;have hU:=DF hL hN hK.mem ha;have o6:=qV hR PC obs (gy (aH S) S.ae.length ⟨ag,at',lo,ik,most,af,es⟩ ed a) ho hU;have hco:=o0 hR PC obs a ho ha ⟨ag,at',lo,ik,most,af,es⟩ ed hN hK.mem;have hcnr:=SP.2.2 ed hK.mem;have hcn1:=(hN.gq ed hK.mem).cn.2.1;have ae7:=BV ed t2 x hcn1 (uy nI) VL.1 VL.2.1 hcnr (by omega);have SU:=BV (edW ed.wide) t2 x (fun h=>by cases h) (uy nI) VL.1 VL.2.1 ⟨by show (-9223372036854775808:Int)<=0;decide,by show (0:Int)<=9223372036854775807;decide⟩ (by omega);rw [Z3] at SU;have hrec:=ih x (by omega) (by omega) nI ed.to.toNat (gy (aH S) S.ae.length ⟨ag,at',lo,ik,most,af,es⟩ ed a) hU gD;rw [<- nJ] at hrec
    have Oi:kidS ND (aH S) S.ae.length obs ⟨ag,at',lo,ik,most,af,es⟩ ed a x=if aH S (gy (aH S) S.ae.length ⟨ag,at',lo,ik,most,af,es⟩ ed a) obs=true then seeV ND (aH S) S.ae.length obs x ed.to (gy (aH S) S.ae.length ⟨ag,at',lo,ik,most,af,es⟩ ed a) else if (decide (ed.ck≠0) && aH S (y9 (aH S) S.ae.length a ed.seen.toNat) obs)=true then iS ed t2 x else dh x 9 ed.wide av:=by
     unfold kidS;rw [DE,h2];by_cases g1:aH S (gy (aH S) S.ae.length ⟨ag,at',lo,ik,most,af,es⟩ ed a) obs=true
     ·simp only [aj g1,reduceIte]
     ·grind
    generalize kidS ND (aH S) S.ae.length obs ⟨ag,at',lo,ik,most,af,es⟩ ed a x=KS at hE Oi;generalize gy (aH S) S.ae.length ⟨ag,at',lo,ik,most,af,es⟩ ed a=U at lu o6 hrec Oi;generalize aH S U obs=b1 at o6 Oi;generalize (decide (ed.ck≠0) && aH S (y9 (aH S) S.ae.length a ed.seen.toNat) obs)=b2 at hco Oi;generalize seeV ND (aH S) S.ae.length obs x ed.to U=R1 at hrec Oi;generalize iS ed t2 x=R2 at ae7 Oi;generalize dh x 9 ed.wide av=R3 at SU Oi;have Nx:KS=false->B=false:=fun h=>by rw [hE,h,Bool.false_and]
    have kV:KS=true->∃ j',j' < ks.length - e/\∃ e',Oh PC LC obs a (.mk vk vn vs ks) ⟨ag,at',lo,ik,most,af,es⟩ (e + 1)=Oh PC LC obs a (.mk vk vn vs ks) ⟨ag,at',lo,ik,most,af,es⟩ e' /\ e' <= ks.length/\B=seeVs ND (aH S) S.ae.length obs (ks.drop e') ⟨ag,at',lo,ik,most,af,es⟩ vn a e' /\ j'=ks.length - e':=fun h=>⟨ks.length - (e + 1),by omega,e + 1,rfl,by omega,by rw [hE,h,Bool.true_and],rfl⟩;obtain ⟨xk,xn,xs,nU⟩:=x;obtain ⟨en,eb,ea,et,sP,ew,jy,sQ,uB,qd⟩:=ed;obtain ⟨kind2,at2,lo2,vX,most2,aiY,es2⟩:=t2;clear hE;refine iX (bJ hx) ?_;refine cP Ws lu ?_;refine cP mT SR ?_;refine cP PN o6 ?_
    cases b1 with
    | true=>
     refine cP Wr hrec ?_
     cases R1 with
     | false=>
      have hB:=Nx (by rw [Oi];rfl);rw [hB];exact (rfl:_=_)
     | true=>
      obtain ⟨j',g1,g2⟩:=kV (by rw [Oi];rfl);exact ⟨Oh PC LC obs a (.mk vk vn vs ks) ⟨ag,at',lo,ik,most,af,es⟩ (e + 1),(dz 3 (pX (aX aw (by omega))) (dH (aX aw (by omega)))),j',g1,g2⟩
    | false=>
     refine cP en141 hco ?_
     cases b2 with
     | true=>
      refine cP Wz ae7 ?_
      cases R2 with
      | false=>
       have hB:=Nx (by rw [Oi];rfl);rw [hB];exact (rfl:_=_)
      | true=>
       obtain ⟨j',g1,g2⟩:=kV (by rw [Oi];rfl);exact ⟨Oh PC LC obs a (.mk vk vn vs ks) ⟨ag,at',lo,ik,most,af,es⟩ (e + 1),(dz 3 (pX (aX aw (by omega))) (dH (aX aw (by omega)))),j',g1,g2⟩
     | false=>
      refine cP Wz SU ?_
      cases R3 with
      | false=>
       have hB:=Nx (by rw [Oi];rfl);rw [hB];exact (rfl:_=_)
      | true=>
       obtain ⟨j',g1,g2⟩:=kV (by rw [Oi];rfl);exact ⟨Oh PC LC obs a (.mk vk vn vs ks) ⟨ag,at',lo,ik,most,af,es⟩ (e + 1),(dz 3 (pX (aX aw (by omega))) (dH (aX aw (by omega)))),j',g1,g2⟩
   ·have hge:e=ks.length:=by have:=iD;simp [cw,Val.ks] at this;omega
    subst hge;rw [List.drop_length,seeVs] at hE;rw [hE];exact (rfl:_=_)
def mv (ND:List Nd) (f:Nat->Nat->Bool) (n rt:Nat) (o:Int) (v:Val):Bool:=decide (0<=o/\o < n) && seeV ND f n o.toNat v rt (eC f n)
theorem jQ {S:Sch} {ND:List Nd} {PC LC:List DV} (hP:dM S ND PC) (gg:EvP prog 72 [.pt PC 0] (.pt LC 0)) (hR:za S.ae.length (aH S) (aC S.ae) LC) (Kg:∀ n∈ND,DR n) (cf:∀ n∈ND,n.az.length<=1099511627776) (rt:Nat) (nT:dF S=rt) (fm:rt < ND.length) (o:Int) (v:Val) (hv:v.wt<=1099511627776) (CE:rngW v) :
  EvP prog 58 [.pt PC 0,.v (.int .i64 o),.agg (aG v)] (.v (.bool (mv ND (aH S) S.ae.length rt o v))):=by
 have FU:=zB gg hR o;have dy:=hP.root;rw [nT] at dy;have rX:=hR.bot;have hs:=fun (obs:Nat) (ho:obs < S.ae.length)=>vf hP hR Kg cf obs ho _ v (aR _) hv CE rt (eC (aH S) S.ae.length) (wz hR.ok) fm;have hS:mv ND (aH S) S.ae.length rt o v=(decide (0<=o/\o < S.ae.length) && seeV ND (aH S) S.ae.length o.toNat v rt (eC (aH S) S.ae.length)):=rfl;generalize mv ND (aH S) S.ae.length rt o v=SF at hS ⊢;by_cases ho:0<=o/\o < S.ae.length
 ·obtain ⟨ob,rfl⟩:∃ n:Nat,o=n:=⟨_,(Int.toNat_of_nonneg ho.1).symm⟩;have hs:=hs ob (by omega);rw [show decide (0<=(ob:Int)/\(ob:Int) < (S.ae.length:Int))=true from decide_eq_true ho] at FU hS;rw [lK,Bool.true_and] at hS;rw [<- hS] at hs;generalize eC (aH S) S.ae.length=bt at rX hs;obtain ⟨k,n,s,ks⟩:=v;refine eG 26 [.tmp 6] func58 rfl ntmps58 rfl fun _ _ _ _=>?_;refine cP Uo FU ?_;refine dI ?_;refine cD xu dy ?_;refine cD PG rX ?_;refine cD Wr hs ?_;exact (rfl:_=_)
 ·rw [show decide (0<=o/\o < (S.ae.length:Int))=false from decide_eq_false ho] at FU hS;rw [Bool.false_and] at hS;rw [hS];obtain ⟨k,n,s,ks⟩:=v;refine eG 26 [.tmp 6] func58 rfl ntmps58 rfl fun _ _ _ _=>?_;refine cP Uo FU ?_;refine dI ?_;exact (rfl:_=_)
section
variable {ND:List Nd} {f:Nat->Nat->Bool} {L obs:Nat}
theorem VM {v:Val} {i:Int} {d:Nd} (hd:bR ND i=some d) (h9:9<=v.k) (hb:dQ v=true) (hk:v.ks=[]):dW ND v i=true:=by
 obtain ⟨k,n,s,ks⟩:=v;have hk:ks=[]:=hk;subst hk;have h9:9<=k:=h9
 grind [dW]
theorem zC {v:Val} {i:Int} {d:Nd} {k n:Int} {s:ByteArray} (hd:bR ND i=some d) (h:dh v k n s=true) (hk:(k=9/\1<=n/\n<=64)∨k=10∨k=11∨k=12):dW ND v i=true:=by
 rw [qQ.1 h];refine VM hd (by show 9<=k;omega) ?_ rfl
 grind [dQ,Val.k,Val.n]
theorem VN {v:Val} {i:Int} {d:Nd} {e:Ed} {t:Nd} (hd:bR ND i=some d) (hw:1<=e.wide/\e.wide<=64) (h:iS e t v=true):dW ND v i=true:=by grind [iS,zC]
mutual
theorem Me (bA:∀ n∈ND,cr L ND.length n):∀ (v:Val) (i:Int) (a:Nat),seeV ND f L obs v i a=true->dW ND v i=true
 | .mk k n s ks,i,a,h=>by
  rw [seeV] at h
  cases hd:bR ND i with
  | none=>rw [hd] at h;cases h
  | some d=>
   rw [hd] at h;simp only at h;have hN:=bA d (mG (bu hd).2);have GG:=hN.k8;rw [dW,hd];simp only;split at h
   ·rename_i c5;obtain ⟨d',hF⟩:=dT bA h;have O2:=hF.ah;rw [hd] at O2;injection O2 with O2
    subst O2;have h1:k=d.ag:=hF.k;have h2:ks=[]:=hF.leaf c5;have h3:=hF.enum;rw [ai (by omega),ai (by omega),aj c5,h2];simp only [decide_true,Bool.true_and,Bool.or_eq_true,decide_eq_true_iff];by_cases c4:k=4
    ·exact .inr (h3 (by omega))
    ·exact .inl c4
   ·rename_i c5;rw [aO] at h
    have hk:k=d.ag:=by
     by_cases c:k=d.ag
     ·exact c
     ·have:=h.1;unfold shellF at this;rw [aj (.inl c)] at this;cases this
    rw [ai (by omega),ai (by omega),ai c5,aO];exact ⟨h.1,Hr bA ks d n a 0 hN (fun m hm=>by rw [Nat.zero_add];exact uw hN (by omega) h.1 hm) h.2⟩
theorem Hr (bA:∀ n∈ND,cr L ND.length n):∀ (l:List Val) (d:Nd) (z:Int) (a j:Nat),cr L ND.length d->(∀ m,m < l.length->∃ e,aeH ND d z (j + m) e)->seeVs ND f L obs l d z a j=true->iw ND l d z j=true
 | [],_,_,_,_,_,_,_=>by rw [iw]
 | x :: r,d,z,a,j,hN,hK,h=>by
  rw [seeVs,aO] at h;rw [iw,aO];refine ⟨?_,Hr bA r d z a (j + 1) hN (fun m hm=>by have:=hK (m + 1) (by rw [List.length_cons];omega);rwa [show j + (m + 1)=j + 1 + m by omega] at this) h.2⟩;obtain ⟨e,hE⟩:=hK 0 (by simp);have he:=hE.gq;rw [Nat.add_zero] at he;have h1:=h.1;rw [he] at h1 ⊢;simp only at h1 ⊢;obtain ⟨g1,t,ht⟩:=GO hN hE.mem hE.bare;have hw:=(hN.gq e hE.mem).wide;split at h1
  ·exact Me bA x e.to _ h1
  ·grind [VN,zC]
end
theorem o8 (bA:∀ n∈ND,cr L ND.length n) {rt:Nat} {o:Int} {v:Val} (h:mv ND f L rt o v=true):dW ND v (rt:Nat)=true:=by grind [mv,Me]
end
section
variable (ND:List Nd) (ind:Int)
end
section
variable {ND:List Nd} {ind:Int}
end
abbrev zD:List DV:=[.v (.int .i64 0),.v (.int .i64 0),.v (.string av),.v (.slice none 0 0)]
theorem Kk (x y:Val):EvP prog 145 [.agg (aG x),.agg (aG y)] (.v (.bool (nN x y))):=by
 have h1:=aU x.ks;have h2:=aU y.ks;obtain ⟨xk,xn,xs,xl⟩:=x;obtain ⟨yk,yn,ys,yl⟩:=y;simp only [Val.ks] at h1 h2;refine eG 38 [.tmp 4] func145 rfl ntmps145 rfl fun _ _ _ _=>?_;refine (bK ?_:);rw [show nN (.mk xk xn xs xl) (.mk yk yn ys yl)=(decide (xk=yk) && (decide (xn=yn) && (decide (xs=ys) && (decide (xl.length=yl.length) || decide (xk=5))))) from rfl];simp [aq,au,h1,h2,Bool.and_assoc,Int.ofNat_inj]
theorem nE (d:Nd) (v:Val) (j:Nat) (hk:v.k=d.ag) (h5:5<=d.ag) (h8':d.ag<=8) (h7:d.ag=7->j < d.az.length) (h8:d.ag=8->0<=v.n/\v.n < d.az.length) :
  EvP prog 148 [.agg (kg d),.agg (aG v),.v (.int .i64 j)] (.agg (fT (stpR d v j))):=by
 obtain ⟨ag,at',lo,hi,most,af,es⟩:=d;obtain ⟨q,z,s,ks⟩:=v;have pU:=cW es;simp only [Val.n,Val.k] at hk h5 h7 h8 h8';subst hk
 have hS:stpR ⟨q,at',lo,hi,most,af,es⟩ (.mk q z s ks) j=if q=5 then ⟨2,j,av⟩
  else if q=6 then ⟨4,0,av⟩
  else if q=7 then ⟨1,0,match es[j]? with | some e=>e.name | none=>av⟩
  else ⟨5,0,match es[z.toNat]? with | some e=>e.name | none=>av⟩:=rfl
 rw [hS];refine eG 33 [.cell 6 141] func148 rfl ntmps148 rfl fun _ _ _ _=>?_;refine br ?_ ?_<;>intro c
 ·have c:q=7:=sU c;subst c;obtain ⟨e,he⟩:∃ e,es[j]? = some e:=⟨_,gE (h7 rfl)⟩;rw [ai (by omega),ai (by omega),aj rfl,he];have h7:=h7 rfl;refine iX (bH he) ?_;exact ⟨_,ax,rfl⟩
 have c7:¬ q=7:=sU c;refine br ?_ ?_<;>intro c
 ·have c:q=8:=sU c;subst c;have h8:=h8 rfl;obtain ⟨m,rfl⟩:∃ m:Nat,z=m:=⟨z.toNat,by omega⟩;obtain ⟨e,he⟩:∃ e,es[m]? = some e:=⟨_,gE (by omega)⟩;rw [ai (by omega),ai (by omega),ai (by omega),lK,he];refine iX (bH he) ?_;exact ⟨_,ax,rfl⟩
 have c8:¬ q=8:=sU c;refine br ?_ ?_<;>intro c
 ·have c:q=5:=sU c;rw [aj c];exact ⟨_,ax,rfl⟩
 have c5:¬ q=5:=sU c;rw [ai c5,aj (by omega)];exact ⟨_,ax,rfl⟩
theorem Hs (d:Nd) (v:Val) (j:Nat) (e:Ed) (hk:v.k=d.ag) (h:aW d v.n j=some e) (h8:d.ag=8->0<=v.n/\v.n < d.az.length) :
  EvP prog 146 [.agg (kg d),.agg (aG v),.v (.int .i64 j)] (.v (.int .i64 e.to)):=by
 obtain ⟨ag,at',lo,hi,most,af,es⟩:=d;obtain ⟨q,z,s,ks⟩:=v;have pU:=cW es;simp only [Val.n,Val.k] at hk h h8;subst hk;unfold aW at h;simp only at h;refine eG 31 [.tmp 6] func146 rfl ntmps146 rfl fun _ _ _ _=>?_;refine br ?_ ?_<;>intro c
 ·have c:q=7:=sU c;rw [aj c] at h;have aw:=(gS h).1;refine iX (bH h) ?_;exact (rfl:_=_)
 have c7:¬ q=7:=sU c;rw [ai c7] at h;refine br ?_ ?_<;>intro c
 ·have c:q=8:=sU c;have h8:=h8 c;rw [aj c] at h;refine iX (bH h) ?_;exact (rfl:_=_)
 have c8:¬ q=8:=sU c;rw [ai c8] at h;have aw:=(gS h).1;refine iX (bH h) ?_;exact (rfl:_=_)
theorem D0 (p:List Stp) (s:Stp) (hl:p.length<=1000000):EvP prog 147 [dP p,.agg (fT s)] (.sl 3 (bf (p ++ [s])) none):=by
 rcases p with _ | ⟨s0,p⟩
 ·obtain ⟨k,n,t⟩:=s;refine eG 10 [.tmp 4] func147 rfl ntmps147 rfl fun _ _ _ _=>?_;apply DW (fun _=>false) (.op 0 (.op 2 (.ev 1 (.ev 3 (.ev 4 (.op 5 .fin) .stop) .stop) (.ev 3 (.ev 1 (.ev 4 (.op 5 .fin) .stop) .stop) .stop)))) mo (by decide +kernel);·repeat' (first | refine cD WD SD ?_ | exact nL rfl | exact trivial | exact Or.inl rfl | exact Hj | refine ⟨?_,?_⟩)
  exact ⟨_,ax,rfl⟩
 ·have hcf:=SE s0 p (by omega);have fx:=eM (s0 :: p);have eP:(bf (s0 :: p)).length + 1<=maxLen:=by rw [fx];simp only [maxLen];omega
  have Ee:((bf (s0 :: p)).length + 1) * 32<=140737488355328:=by rw [fx];omega
  have Zp:=J7 (s0 :: p) s;obtain ⟨k,n,t⟩:=s;refine eG 10 [.tmp 4] func147 rfl ntmps147 rfl fun _ _ _ _=>?_;apply DW (fun _=>false) (.op 0 (.op 2 (.ev 1 (.ev 3 (.ev 4 (.op 5 .fin) .stop) .stop) (.ev 3 (.ev 1 (.ev 4 (.op 5 .fin) .stop) .stop) .stop)))) mo (by decide +kernel);·repeat' (first | (refine sy WD rfl hcf ax (fun tu bU hr=>?_);obtain ⟨rfl,rfl⟩:=hr) | refine ⟨fx,⟨eP,Ee⟩,?_⟩ | exact trivial | exact Or.inl rfl | exact Hj | refine ⟨?_,?_⟩)
  exact ⟨_,(by repeat' (first | exact rfl | exact trivial | exact Or.inr (Or.inl ⟨_,rfl⟩) | exact Or.inr ⟨_,rfl⟩ | exact Or.inl ⟨rfl,rfl⟩ | exact Or.inl rfl | refine Or.inr ⟨_,_,rfl,Nat.zero_le _,rfl,?_⟩ | refine ⟨_,_,rfl,?_,?_⟩ | refine ⟨_,rfl,?_⟩ | exact Or.inr (Or.inl ⟨_,congrArg (fun l=>DV.sl 3 l _) Zp⟩) | refine Or.inr (Or.inr (Or.inr ⟨_,_,rfl,?_⟩)) | exact Or.inl rfl | refine Or.inr ?_)),rfl⟩
abbrev XK (v:Val) (D:List Val) (q e:Nat):St:=
 ⟨[aF 1 0,aF 2 1,(3,⟨[],.sl 4 (dVals D) (some 0)⟩),bi 7 4 (dVals v.ks),ay 8 ((dVals v.ks).length),ay 9 e],[aG v,zD],[⟨q,34,4,none⟩]⟩
theorem iy:∀ (k:Nat) (v:Val),v.wt<=k->v.wt<=1099511627776->EvP prog 59 [.agg (aG v)] (.agg (aG v))
 | 0,v,h,_=>by have:=v.cT;omega
 | k + 1,v,h,hb=>by
  have ih:=iy k;obtain ⟨q,z,s,ks⟩:=v;have lf:=cq ks;have cw:=aU ks;rw [Val.wt] at h hb;refine eG 22 [.cell 2 34] func59 rfl ntmps59 rfl fun _ _ _ _=>?_;refine lI (fun t st=>∃ e n:Nat,st=XK (.mk q z s ks) (ks.take e) n e/\n=(ks.take e).length/\e<=ks.length/\t=ks.length - e) ⟨0,0,rfl,rfl,by omega,rfl⟩ (fF ⟨0,34,4,none⟩ rfl ⟨_,rfl⟩ rfl wA rfl rfl j8) ?_;rintro t st ⟨e,n,rfl,hn,he,rfl⟩;refine br ?_ ?_<;>intro iD
  ·have aw:e < ks.length:=by
    have h2:=iD;simp at h2;have h2:e < (dVals ks).length:=h2;omega
   obtain ⟨x,hx⟩:=gX aw;have Rj:=cz (mG hx);have hw:=ih x (by omega) (by omega);have eK:=yR hx;have SV:=aU (ks.take e);have gR:n=e:=by rw [hn,zLenT];omega
   have Zg:e + 1=(ks.take (e + 1)).length:=by rw [zLenT];omega
   subst gR;obtain ⟨xk,xn,xs,xl⟩:=x;refine iX (bJ hx) ?_;refine cP Cz hw ?_;refine ⟨by rw [SV,<- hn],⟨by rw [SV];simp [maxLen];omega,by rw [SV];simp;omega⟩,?_⟩;exact ⟨XK (.mk q z s ks) (ks.take (n + 1)) (n + 1) (n + 1),(dz 2 (oc (aX aw (by omega)) eK) (gC (aX aw (by omega)) eK)),ks.length - (n + 1),by omega,n + 1,_,rfl,Zg,by omega,rfl⟩
  ·have hge:e=ks.length:=by
    have h2:=iD;simp at h2;have h2:(dVals ks).length<=e:=h2;omega
   subst hge;rw [List.take_length];exact ⟨_,ax,rfl⟩
end Go.Proofs.YtgjagnmeonoehaaGreat
set_option maxRecDepth 100000
namespace Go.Proofs.YtgjagnmeonoehaaGreat
open Go Go.RowKit
namespace Dv
section
variable {X:Ctx} {st:St}
theorem yB {i j:Nat} {s S:St} (h:iE s (fH i j S):=by refine (⟨rfl,rfl,?_⟩:_/\_/\_);repeat' (first | exact trivial | refine ⟨rfl,?_⟩)):(s=S∨iE s S)∨iE s (fH i j S):=.inr h
theorem mw {id:Nat} {ops:Array Oper} {k:List It} (T:mq) (hm:X.P.follows .mixedOrders=true) (hc:(ZX ops && Ke ops (Wh ops) && chkA ops T (List.range ops.size) none)=true) (S:St)
  (h:goA X ⟨ops,Wh ops,[.B9 fun s=>s=S∨iE s S],st,none⟩ T true st.sl st) (hk:go X 4000 k S):lM X id ops k st:=DW (Wh ops) T hm hc S h hk
end
end Dv
end Go.Proofs.YtgjagnmeonoehaaGreat
set_option maxRecDepth 100000
namespace Go.Proofs.YtgjagnmeonoehaaGreat
open Go Go.RowKit Dv Go.Proofs.Tryz
abbrev TP (PC:List DV) (O:List Chg):List DV:=[.pt PC 0,.sl 10 (dp O) (some 0)]
abbrev XL (n:Nat):TkE:=⟨n,58,10,none⟩
def GoΦ (u v:Val) (PC:List DV) (O:List Chg) (tu:DV) (os:List (List DV)) (tk:List TkE):Prop:=tu = .tup []/\os=[aG u,aG v,TP PC O]/\tk=[XL O.length]
abbrev Oj (u v:Val) (PC:List DV) (O:List Chg) (q:Nat) (P:DV) (x y:Val) (d:Nd) (m e:Nat):St:=
 ⟨[aF 0 2,(2,⟨[],P⟩),aF 8 3,aF 9 4,aF 10 5,ay 12 m,ay 49 m,ay 50 e],[aG u,aG v,TP PC O,aG x,aG y,kg d],[XL q]⟩
abbrev Ol (u v:Val) (PC:List DV) (O:List Chg) (q:Nat) (P:DV) (x y:Val) (d:Nd) (m e:Nat):St:=
 ⟨[aF 0 2,(2,⟨[],P⟩),aF 8 3,aF 9 4,aF 10 5,ay 12 m,ay 14 e],[aG u,aG v,TP PC O,aG x,aG y,kg d],[XL q]⟩
abbrev Om (u v:Val) (PC:List DV) (O:List Chg) (q:Nat) (P:DV) (x y:Val) (d:Nd) (m:Nat) (e:Int):St:=
 ⟨[aF 0 2,(2,⟨[],P⟩),aF 8 3,aF 9 4,aF 10 5,ay 12 m,ay 15 e],[aG u,aG v,TP PC O,aG x,aG y,kg d],[XL q]⟩
theorem Z6 {x y:Val} (h:nN x y=true):x.k=y.k/\x.n=y.n/\x.s=y.s/\(x.ks.length=y.ks.length∨x.k=5):=by
 unfold nN at h;simpa using h
set_option maxHeartbeats 4000000 in
theorem zE {S:Sch} {ND:List Nd} {PC:List DV} (hP:dM S ND PC) (cf:∀ n∈ND,n.az.length<=1099511627776) (u v:Val):∀ (k:Nat) (x y:Val),x.wt<=k->x.wt<=1099511627776->y.wt<=1099511627776->∀ i:Int,dW ND x i=true->dW ND y i=true ->
  ∀ (p:List Stp) (O:List Chg),O.length + dA x + dA y<=100000->p.length + dA x<=100000 ->
  Ev prog 71 [.loc 2 0,.v (.int .i64 i),dP p,.agg (aG x),.agg (aG y)] [aG u,aG v,TP PC O] [XL O.length] (GoΦ u v PC (O ++ dfK ND k x y i p))
 | 0,x,_,h,_,_=>by have:=x.cT;omega
 | k + 1,x,y,h,jA,qh=>fun i TO hwy p O hO hp=>by
  have ih:=zE hP cf u v k;obtain ⟨uk,un,us,ul⟩:=u;obtain ⟨vk,vn,vs,vl⟩:=v;have TA:=Kk x y;have Z0:=mn O;by_cases c:nN x y=true
  ·obtain ⟨nk,nn,ns,nl⟩:=Z6 c;obtain ⟨d,hd,TL⟩:=gL TO;obtain ⟨d',uM,Z7⟩:=gL hwy;rw [hd] at uM;cases uM;obtain ⟨h0,hg⟩:=bu hd;obtain ⟨j,rfl⟩:∃ j:Nat,i=j:=⟨i.toNat,by omega⟩;have hg:ND[j]? = some d:=sU hg;have kX:=mG hg;have hN:=hP.ok d kX;have jF:=cf d kX;have GG:=hN.k8;have cJ:=hP.ah j d hg;have hV:dfK ND (k + 1) x y j p=kidsD (dfK ND k) d x y p (min x.ks.length y.ks.length) ++ addC p (y.ks.drop x.ks.length) x.ks.length ++ kS p (x.ks.drop y.ks.length) y.ks.length:=by rw [dfK,aj c,hd]
   have hF:x.ks ≠ []∨y.ks ≠ []->x.k=d.ag/\5<=d.ag/\(d.ag=8->0<=x.n/\x.n < d.az.length)/\iw ND x.ks d x.n 0=true/\iw ND y.ks d x.n 0=true:=fun aY=>by grind [shell_8]
   have Kf:∀ m a b,x.ks[m]? = some a->y.ks[m]? = some b->∃ e,aW d x.n m=some e/\dW ND a e.to=true/\dW ND b e.to=true:=fun m a b h1 h2=>by grind [kQ]
   have nJ:∀ m a b e,x.ks[m]? = some a->y.ks[m]? = some b->aW d x.n m=some e->EvP prog 146 [.agg (kg d),.agg (aG x),.v (.int .i64 m)] (.v (.int .i64 e.to)):=fun m a b e h1 h2 he=>by grind [Hs]
   have bd:∀ m a b e,x.ks[m]? = some a->y.ks[m]? = some b->aW d x.n m=some e->EvP prog 148 [.agg (kg d),.agg (aG x),.v (.int .i64 m)] (.agg (fT (stpR d x m))):=fun m a b e h1 h2 he=>by grind [nE,aW]
   have yF:∀ m b,x.ks.length<=m->y.ks[m]? = some b->EvP prog 148 [.agg (kg d),.agg (aG y),.v (.int .i64 m)] (.agg (fT (cX m))):=fun m b h1 h2=>by
    have aw:=(gS h2).1;obtain ⟨w0,w5,w8,_,_⟩:=hF (.inr (by rintro h;rw [h] at h2;simp at h2));have h5:d.ag=5:=by omega
    have:=nE d y m (by omega) w5 GG (by omega) (by omega)
    rwa [stpR,aj h5] at this
   have Ht:∀ m a,y.ks.length<=m->x.ks[m]? = some a->EvP prog 148 [.agg (kg d),.agg (aG x),.v (.int .i64 m)] (.agg (fT (cX m))):=fun m a h1 h2=>by
    have aw:=(gS h2).1;obtain ⟨w0,w5,w8,_,_⟩:=hF (.inl (by rintro h;rw [h] at h2;simp at h2));have h5:d.ag=5:=by omega
    have:=nE d x m (by omega) w5 GG (by omega) (by omega)
    rwa [stpR,aj h5] at this
   have tf:=fun s=>D0 p s (by omega)
   have hD:∀ m a b e,x.ks[m]? = some a->y.ks[m]? = some b->aW d x.n m=some e->kidsD (dfK ND k) d x y p (m + 1)=kidsD (dfK ND k) d x y p m ++ dfK ND k a b e.to (p ++ [stpR d x m]):=fun m a b e h1 h2 h3=>by
    rw [kidsD,kidD,h1,h2,h3]
   have Ix:∀ m,(kidsD (dfK ND k) d x y p m).length<=bQ (x.ks.take m) + bQ (y.ks.take m):=fun m=>Ob ND k d x y p m;have hA1:∀ e b,y.ks[x.ks.length + e]? = some b->(addC p (y.ks.drop x.ks.length) x.ks.length)[e]? = some ⟨2,p ++ [cX (x.ks.length + e)],none,some b⟩:=fun e b h=>He p (by rw [List.getElem?_drop];exact h);have hA2:=zq p (y.ks.drop x.ks.length) x.ks.length
   have hG1:∀ t a,t < x.ks.length - y.ks.length->x.ks[x.ks.length - 1 - t]? = some a->(kS p (x.ks.drop y.ks.length) y.ks.length)[t]? = some ⟨3,p ++ [cX (x.ks.length - 1 - t)],some a,none⟩:=fun t a ht h=>by
    have hl:(x.ks.drop y.ks.length).length=x.ks.length - y.ks.length:=List.length_drop;have:=Hf p (l:=x.ks.drop y.ks.length) (j:=y.ks.length) (t:=t) (x:=a) (by omega) (by rw [List.getElem?_drop,hl,show y.ks.length + (x.ks.length - y.ks.length - 1 - t)=x.ks.length - 1 - t by omega];exact h);rw [this,hl,show y.ks.length + (x.ks.length - y.ks.length - 1 - t)=x.ks.length - 1 - t by omega]
   have hG2:=sA p (x.ks.drop y.ks.length) y.ks.length;rw [List.length_drop] at hA2 hG2;have hxc:dA x=1 + bQ x.ks:=by obtain ⟨_,_,_,_⟩:=x;rfl
   have hyc:dA y=1 + bQ y.ks:=by obtain ⟨_,_,_,_⟩:=y;rfl
   have TQ:∀ m,bQ (x.ks.take m) + bQ (x.ks.drop m)=bQ x.ks:=kT x.ks;have Z8:∀ m,bQ (y.ks.take m) + bQ (y.ks.drop m)=bQ y.ks:=kT y.ks;have hca:∀ m a,x.ks[m]? = some a->bQ (x.ks.take (m + 1))=bQ (x.ks.take m) + dA a:=fun m a h=>oZ h;have Fg:∀ m a,y.ks[m]? = some a->bQ (y.ks.take (m + 1))=bQ (y.ks.take m) + dA a:=fun m a h=>oZ h;have Z9:=pP (x.ks.drop y.ks.length);have aaa:=pP (y.ks.drop x.ks.length);rw [List.length_drop] at Z9 aaa;have Rj:x.wt=64 + x.s.size + cu x.ks:=by obtain ⟨_,_,_,_⟩:=x;rfl
   have hyw:y.wt=64 + y.s.size + cu y.ks:=by obtain ⟨_,_,_,_⟩:=y;rfl
   have lf:=cq x.ks;have vP:=cq y.ks;have cw:=aU x.ks;have SV:=aU y.ks;rw [hV];generalize hAA:addC p (y.ks.drop x.ks.length) x.ks.length=A at *;generalize hGG:kS p (x.ks.drop y.ks.length) y.ks.length=G at *;clear hV TL Z7 TO hwy;rw [c] at TA;have hmin:min x.ks.length y.ks.length<=x.ks.length/\min x.ks.length y.ks.length<=y.ks.length:=⟨Nat.min_le_left _ _,Nat.min_le_right _ _⟩;have hmc:min x.ks.length y.ks.length=x.ks.length∨(y.ks.length<=x.ks.length/\min x.ks.length y.ks.length=y.ks.length):=by omega
   have hmi:((min x.ks.length y.ks.length:Nat):Int)=min (x.ks.length:Int) (y.ks.length:Int):=by omega
   generalize min x.ks.length y.ks.length=m at *;have hcm1:=TQ m;have hcm2:=Z8 m;have hDm:=Ix m;have hD0:kidsD (dfK ND k) d x y p 0=[]:=rfl;generalize kidsD (dfK ND k) d x y p=KD at *;obtain ⟨xk,xn,xs,xl⟩:=x;obtain ⟨yk,yn,ys,yl⟩:=y;obtain ⟨ag,at',lo,hi,most,af,es⟩:=d;simp only [Val.k,Val.n,Val.s,Val.ks] at *;have sK:dp O=dp (O ++ KD 0):=by rw [hD0,List.append_nil]
   have wT:dp (O ++ KD m)=dp (O ++ (KD m ++ A.take 0)):=by simp
   have hAm:m + A.length=yl.length:=by omega
   have hGm:m + G.length=xl.length:=by omega
   have hs3:dp (O ++ (KD m ++ A))=dp (O ++ (KD m ++ A ++ G.take 0)):=by simp
   have TM:IntKind.i64.wrap (((dVals xl).length:Int) - 1)=(xl.length:Int) - 1:=by rw [cw];exact wrap64 (by omega) (by omega)
   have hmd:min ((dVals xl).length:Int) ((dVals yl).length:Int)=(m:Int):=by rw [cw,SV,hmi]
   rcases p with _ | ⟨s0,p⟩
   ·refine eG 135 [] func71 rfl ntmps71 rfl fun _ _ _ _=>?_;refine cP PO TA ?_;refine cP mT cJ ?_
    refine aT (fun t st=>∃ e q:Nat,st=Oj (.mk uk un us ul) (.mk vk vn vs vl) PC (O ++ KD e) q (dP ([]:List Stp)) (.mk xk xn xs xl) (.mk yk yn ys yl) ⟨ag,at',lo,hi,most,af,es⟩ m e/\q=(O ++ KD e).length/\e<=m/\t=m - e) m
     (Oj (.mk uk un us ul) (.mk vk vn vs vl) PC (O ++ KD 0) O.length (dP ([]:List Stp)) (.mk xk xn xs xl) (.mk yk yn ys yl) ⟨ag,at',lo,hi,most,af,es⟩ m 0) (dz 6 (oc sK hmd) (gC sK hmd)) ⟨0,O.length,rfl,by rw [hD0,List.append_nil],by omega,by omega⟩ ?_
    rintro t st ⟨e,q,rfl,rfl,he,rfl⟩;refine br ?_ ?_<;>intro iD
    ·have aw:e < m:=sU iD;obtain ⟨a,ha⟩:∃ a,xl[e]? = some a:=⟨_,gE (by omega)⟩;obtain ⟨b,hb⟩:∃ b,yl[e]? = some b:=⟨_,gE (by omega)⟩;obtain ⟨ed,LN,hw1,mA⟩:=Kf e a b ha hb;have nJ:=nJ e a b ed ha hb LN;have bd:=bd e a b ed ha hb LN;have hD:=hD e a b ed ha hb LN;have tf:=tf (stpR ⟨ag,at',lo,hi,most,af,es⟩ (.mk xk xn xs xl) e);have haw:=cz (mG ha);have Ia:=cz (mG hb);have hDle:=Ix e;have hcc1:=hca e a ha;have hcc2:=Fg e b hb;have hcc3:=TQ (e + 1);have hcc4:=Z8 (e + 1);have hrec:=ih a b (by omega) (by omega) (by omega) ed.to hw1 mA (([]:List Stp) ++ [stpR ⟨ag,at',lo,hi,most,af,es⟩ (.mk xk xn xs xl) e]) (O ++ KD e) (by rw [List.length_append];omega) (by simp only [List.length_append,List.length_cons,List.length_nil] at hp ⊢;omega);generalize stpR ⟨ag,at',lo,hi,most,af,es⟩ (.mk xk xn xs xl) e=sr at *;generalize dfK ND k a b ed.to (([]:List Stp) ++ [sr])=RR at hrec hD;have l5:dp (O ++ KD e ++ RR)=dp (O ++ KD (e + 1)):=by rw [hD,List.append_assoc]
     have hql:(O ++ KD e ++ RR).length=(O ++ KD (e + 1)).length:=by rw [hD,List.append_assoc]
     obtain ⟨ak,an,O3,al⟩:=a;obtain ⟨bk,bn,bs,bl⟩:=b;refine fZ (fun i=>Nat.beq i 21) mo (by decide +kernel) ?_;refine cD PQ nJ ?_;refine cD xy bd ?_;refine cD AE tf ?_;refine iX (bJ ha) ?_;refine iX (bJ hb) ?_;refine fG rfl ?_;refine gf 3 1 Up rfl rfl rfl iP iP hrec (fun r ir cC hΦ h1 h2=>?_);obtain ⟨rfl,rfl,rfl⟩:=hΦ;exact ⟨Oj (.mk uk un us ul) (.mk vk vn vs vl) PC (O ++ KD (e + 1)) (O ++ KD e ++ RR).length (dP ([]:List Stp)) (.mk xk xn xs xl) (.mk yk yn ys yl) ⟨ag,at',lo,hi,most,af,es⟩ m (e + 1),(dz 6 (oc (aX aw (by omega)) l5) (gC (aX aw (by omega)) l5)),m - (e + 1),by omega,e + 1,_,rfl,hql,by omega,rfl⟩
    ·have hge:m=e:=by have:=iD;simp at this;omega
     subst hge
     refine aT (fun t st=>∃ e q:Nat,st=Ol (.mk uk un us ul) (.mk vk vn vs vl) PC (O ++ (KD m ++ A.take e)) q (dP ([]:List Stp)) (.mk xk xn xs xl) (.mk yk yn ys yl) ⟨ag,at',lo,hi,most,af,es⟩ m (m + e)/\q=(O ++ (KD m ++ A.take e)).length/\e<=A.length/\t=A.length - e) A.length
      (Ol (.mk uk un us ul) (.mk vk vn vs vl) PC (O ++ (KD m ++ A.take 0)) (O ++ KD m).length (dP ([]:List Stp)) (.mk xk xn xs xl) (.mk yk yn ys yl) ⟨ag,at',lo,hi,most,af,es⟩ m (m + 0)) (dz 6 (pX wT) (dH wT)) ⟨0,_,rfl,by simp,by omega,by omega⟩ ?_
     rintro t st ⟨e,q,rfl,rfl,he,rfl⟩;refine br ?_ ?_<;>intro iD
     ·have aw:m + e < yl.length:=by
       have h2:=iD;simp at h2;omega
      have gk:e < A.length:=by omega
      have zX:m=xl.length:=by omega
      rw [<- zX] at aaa;obtain ⟨b,hb⟩:=gX aw;have yF:=yF (m + e) b (by omega) hb;have tf:=tf (cX (m + e));have hA:=hA1 e b (by rw [<- zX];exact hb);rw [<- zX] at hA
      have l5:dp (O ++ (KD m ++ A.take e)) ++ [DP ⟨2,([]:List Stp) ++ [cX (m + e)],none,some b⟩]=dp (O ++ (KD m ++ A.take (e + 1))):=by
       rw [kR,List.take_add_one,hA];simp
      have qW:=mn (O ++ (KD m ++ A.take e))
      have zV:(O ++ (KD m ++ A.take e)).length<=100000:=by
       simp only [List.length_append,zLenT];omega
      have Kl:(O ++ (KD m ++ A.take (e + 1))).length=(O ++ (KD m ++ A.take e)).length + 1:=by
       simp only [List.length_append,zLenT];omega
      generalize cX (m + e)=sr at *;generalize A.take e=T1 at *;have fx:(dp (O ++ (KD m ++ T1))).length + 1<=maxLen:=by rw [qW];simp only [maxLen];omega
      have eP:((dp (O ++ (KD m ++ T1))).length + 1) * 144<=140737488355328:=by rw [qW];omega
      obtain ⟨bk,bn,bs,bl⟩:=b;apply mw (.op 0 (.op 1 (.op 2 (.op 3 (.op 4 (.op 5 (.op 6 (.op 7 (.op 8 (.op 11 (.op 12 (.op 13 (.op 14 (.op 15 (.ev 9 (.ev 10 (.op 16 (.ev 17 (.ev 18 (.op 19 (.op 20 (.ev 21 .fin .stop))) .stop) .stop)) .stop) .stop))))))))))))))) mo (by decide +kernel);·repeat' (first | refine cD xy yF ?_ | refine cD AE tf ?_ | refine iX (bJ hb) ?_ | refine ⟨qW,⟨fx,eP⟩,?_⟩ | exact trivial | exact Or.inl rfl | exact Hj | refine ⟨?_,?_⟩)
      exact ⟨Ol (.mk uk un us ul) (.mk vk vn vs vl) PC (O ++ (KD m ++ A.take (e + 1))) ((O ++ (KD m ++ T1)).length + 1) (dP ([]:List Stp)) (.mk xk xn xs xl) (.mk yk yn ys yl) ⟨ag,at',lo,hi,most,af,es⟩ m (m + (e + 1)),(dz 6 (oc (aX aw (by omega)) l5) (gC (aX aw (by omega)) l5)),A.length - (e + 1),by omega,e + 1,_,rfl,Kl.symm,by omega,rfl⟩
     ·have hge:e=A.length:=by
       have h2:=iD;simp at h2;omega
      subst hge;rw [List.take_length]
      refine aT (fun t st=>∃ (e q:Nat) (z:Int),st=Om (.mk uk un us ul) (.mk vk vn vs vl) PC (O ++ (KD m ++ A ++ G.take e)) q (dP ([]:List Stp)) (.mk xk xn xs xl) (.mk yk yn ys yl) ⟨ag,at',lo,hi,most,af,es⟩ m z/\z=(xl.length:Int) - 1 - (e:Int)/\q=(O ++ (KD m ++ A ++ G.take e)).length/\e<=G.length/\t=G.length - e) G.length
       (Om (.mk uk un us ul) (.mk vk vn vs vl) PC (O ++ (KD m ++ A ++ G.take 0)) (O ++ (KD m ++ A)).length (dP ([]:List Stp)) (.mk xk xn xs xl) (.mk yk yn ys yl) ⟨ag,at',lo,hi,most,af,es⟩ m ((xl.length:Int) - 1)) (dz 6 (oc hs3 TM) (gC hs3 TM)) ⟨0,_,_,rfl,by omega,by simp,by omega,by omega⟩ ?_
      rintro t st ⟨e,q,z,rfl,hz,rfl,he,rfl⟩;refine br ?_ ?_<;>intro iD
      ·have iD:(m:Int)<=z:=sU iD;have gk:e < G.length:=by omega
       have zX:m=yl.length:=by omega
       rw [<- zX] at Z9;obtain ⟨a,ha⟩:∃ a,xl[xl.length - 1 - e]? = some a:=⟨_,gE (by omega)⟩;have Ht:=Ht (xl.length - 1 - e) a (by omega) ha;have tf:=tf (cX (xl.length - 1 - e));have hGg:=hG1 e a (by omega) ha;obtain ⟨n,hn⟩:∃ n,n=xl.length - 1 - e:=⟨_,rfl⟩;obtain rfl:z=(n:Int):=by omega
       rw [<- hn] at ha Ht tf hGg
       have l5:dp (O ++ (KD m ++ A ++ G.take e)) ++ [DP ⟨3,([]:List Stp) ++ [cX n],some a,none⟩]=dp (O ++ (KD m ++ A ++ G.take (e + 1))):=by
        rw [kR,List.take_add_one,hGg];simp
       have qW:=mn (O ++ (KD m ++ A ++ G.take e))
       have zV:(O ++ (KD m ++ A ++ G.take e)).length<=100000:=by
        simp only [List.length_append,zLenT];omega
       have Kl:(O ++ (KD m ++ A ++ G.take (e + 1))).length=(O ++ (KD m ++ A ++ G.take e)).length + 1:=by
        simp only [List.length_append,zLenT];omega
       have wV:IntKind.i64.wrap ((n:Int) - 1)=(n:Int) - 1:=wrap64 (by omega) (by omega);generalize cX n=sr at *;generalize G.take e=T1 at *;have fx:(dp (O ++ (KD m ++ A ++ T1))).length + 1<=maxLen:=by rw [qW];simp only [maxLen];omega
       have eP:((dp (O ++ (KD m ++ A ++ T1))).length + 1) * 144<=140737488355328:=by rw [qW];omega
       have gR:n < xl.length:=by omega
       obtain ⟨ak,an,O3,al⟩:=a;apply mw (.op 0 (.op 1 (.op 2 (.op 3 (.op 4 (.op 5 (.op 6 (.op 7 (.op 8 (.op 11 (.op 12 (.op 13 (.op 14 (.op 15 (.ev 9 (.ev 10 (.op 16 (.ev 17 (.ev 18 (.op 19 (.op 20 (.ev 21 .fin .stop))) .stop) .stop)) .stop) .stop))))))))))))))) mo (by decide +kernel);·repeat' (first | refine cD xy Ht ?_ | refine cD AE tf ?_ | refine iX (bJ ha) ?_ | refine ⟨qW,⟨fx,eP⟩,?_⟩ | exact trivial | exact Or.inl rfl | exact Hj | refine ⟨?_,?_⟩)
       exact ⟨Om (.mk uk un us ul) (.mk vk vn vs vl) PC (O ++ (KD m ++ A ++ G.take (e + 1))) ((O ++ (KD m ++ A ++ T1)).length + 1) (dP ([]:List Stp)) (.mk xk xn xs xl) (.mk yk yn ys yl) ⟨ag,at',lo,hi,most,af,es⟩ m ((n:Int) - 1),(dz 6 (oc wV l5) (gC wV l5)),G.length - (e + 1),by omega,e + 1,_,_,rfl,by omega,Kl.symm,by omega,rfl⟩
      ·have iD:z < (m:Int):=by
        have h2:=iD;simp at h2;omega
       have hge:e=G.length:=by omega
       subst hge;rw [List.take_length];exact ⟨_,[aG (.mk uk un us ul),aG (.mk vk vn vs vl),TP PC (O ++ (KD m ++ A ++ G))],ax,iP,rfl,rfl,rfl⟩
   ·refine eG 135 [] func71 rfl ntmps71 rfl fun _ _ _ _=>?_;refine cP PO TA ?_;refine cP mT cJ ?_
    refine aT (fun t st=>∃ e q:Nat,st=Oj (.mk uk un us ul) (.mk vk vn vs vl) PC (O ++ KD e) q (dP (s0 :: p)) (.mk xk xn xs xl) (.mk yk yn ys yl) ⟨ag,at',lo,hi,most,af,es⟩ m e/\q=(O ++ KD e).length/\e<=m/\t=m - e) m
     (Oj (.mk uk un us ul) (.mk vk vn vs vl) PC (O ++ KD 0) O.length (dP (s0 :: p)) (.mk xk xn xs xl) (.mk yk yn ys yl) ⟨ag,at',lo,hi,most,af,es⟩ m 0) (dz 6 (oc sK hmd) (gC sK hmd)) ⟨0,O.length,rfl,by rw [hD0,List.append_nil],by omega,by omega⟩ ?_
    rintro t st ⟨e,q,rfl,rfl,he,rfl⟩;refine br ?_ ?_<;>intro iD
    ·have aw:e < m:=sU iD;obtain ⟨a,ha⟩:∃ a,xl[e]? = some a:=⟨_,gE (by omega)⟩;obtain ⟨b,hb⟩:∃ b,yl[e]? = some b:=⟨_,gE (by omega)⟩;obtain ⟨ed,LN,hw1,mA⟩:=Kf e a b ha hb;have nJ:=nJ e a b ed ha hb LN;have bd:=bd e a b ed ha hb LN;have hD:=hD e a b ed ha hb LN;have tf:=tf (stpR ⟨ag,at',lo,hi,most,af,es⟩ (.mk xk xn xs xl) e);have haw:=cz (mG ha);have Ia:=cz (mG hb);have hDle:=Ix e;have hcc1:=hca e a ha;have hcc2:=Fg e b hb;have hcc3:=TQ (e + 1);have hcc4:=Z8 (e + 1);have hrec:=ih a b (by omega) (by omega) (by omega) ed.to hw1 mA ((s0 :: p) ++ [stpR ⟨ag,at',lo,hi,most,af,es⟩ (.mk xk xn xs xl) e]) (O ++ KD e) (by rw [List.length_append];omega) (by simp only [List.length_append,List.length_cons,List.length_nil] at hp ⊢;omega);generalize stpR ⟨ag,at',lo,hi,most,af,es⟩ (.mk xk xn xs xl) e=sr at *;generalize dfK ND k a b ed.to ((s0 :: p) ++ [sr])=RR at hrec hD;have l5:dp (O ++ KD e ++ RR)=dp (O ++ KD (e + 1)):=by rw [hD,List.append_assoc]
     have hql:(O ++ KD e ++ RR).length=(O ++ KD (e + 1)).length:=by rw [hD,List.append_assoc]
     obtain ⟨ak,an,O3,al⟩:=a;obtain ⟨bk,bn,bs,bl⟩:=b;refine fZ (fun i=>Nat.beq i 21) mo (by decide +kernel) ?_;refine cD PQ nJ ?_;refine cD xy bd ?_;refine cD AE tf ?_;refine iX (bJ ha) ?_;refine iX (bJ hb) ?_;refine fG rfl ?_;refine gf 3 1 Up rfl rfl rfl iP iP hrec (fun r ir cC hΦ h1 h2=>?_);obtain ⟨rfl,rfl,rfl⟩:=hΦ;exact ⟨Oj (.mk uk un us ul) (.mk vk vn vs vl) PC (O ++ KD (e + 1)) (O ++ KD e ++ RR).length (dP (s0 :: p)) (.mk xk xn xs xl) (.mk yk yn ys yl) ⟨ag,at',lo,hi,most,af,es⟩ m (e + 1),(dz 6 (oc (aX aw (by omega)) l5) (gC (aX aw (by omega)) l5)),m - (e + 1),by omega,e + 1,_,rfl,hql,by omega,rfl⟩
    ·have hge:m=e:=by have:=iD;simp at this;omega
     subst hge
     refine aT (fun t st=>∃ e q:Nat,st=Ol (.mk uk un us ul) (.mk vk vn vs vl) PC (O ++ (KD m ++ A.take e)) q (dP (s0 :: p)) (.mk xk xn xs xl) (.mk yk yn ys yl) ⟨ag,at',lo,hi,most,af,es⟩ m (m + e)/\q=(O ++ (KD m ++ A.take e)).length/\e<=A.length/\t=A.length - e) A.length
      (Ol (.mk uk un us ul) (.mk vk vn vs vl) PC (O ++ (KD m ++ A.take 0)) (O ++ KD m).length (dP (s0 :: p)) (.mk xk xn xs xl) (.mk yk yn ys yl) ⟨ag,at',lo,hi,most,af,es⟩ m (m + 0)) (dz 6 (pX wT) (dH wT)) ⟨0,_,rfl,by simp,by omega,by omega⟩ ?_
     rintro t st ⟨e,q,rfl,rfl,he,rfl⟩;refine br ?_ ?_<;>intro iD
     ·have aw:m + e < yl.length:=by
       have h2:=iD;simp at h2;omega
      have gk:e < A.length:=by omega
      have zX:m=xl.length:=by omega
      rw [<- zX] at aaa;obtain ⟨b,hb⟩:=gX aw;have yF:=yF (m + e) b (by omega) hb;have tf:=tf (cX (m + e));have hA:=hA1 e b (by rw [<- zX];exact hb);rw [<- zX] at hA
      have l5:dp (O ++ (KD m ++ A.take e)) ++ [DP ⟨2,(s0 :: p) ++ [cX (m + e)],none,some b⟩]=dp (O ++ (KD m ++ A.take (e + 1))):=by
       rw [kR,List.take_add_one,hA];simp
      have qW:=mn (O ++ (KD m ++ A.take e))
      have zV:(O ++ (KD m ++ A.take e)).length<=100000:=by
       simp only [List.length_append,zLenT];omega
      have Kl:(O ++ (KD m ++ A.take (e + 1))).length=(O ++ (KD m ++ A.take e)).length + 1:=by
       simp only [List.length_append,zLenT];omega
      generalize cX (m + e)=sr at *;generalize A.take e=T1 at *;have fx:(dp (O ++ (KD m ++ T1))).length + 1<=maxLen:=by rw [qW];simp only [maxLen];omega
      have eP:((dp (O ++ (KD m ++ T1))).length + 1) * 144<=140737488355328:=by rw [qW];omega
      obtain ⟨bk,bn,bs,bl⟩:=b;apply mw (.op 0 (.op 1 (.op 2 (.op 3 (.op 4 (.op 5 (.op 6 (.op 7 (.op 8 (.op 11 (.op 12 (.op 13 (.op 14 (.op 15 (.ev 9 (.ev 10 (.op 16 (.ev 17 (.ev 18 (.op 19 (.op 20 (.ev 21 .fin .stop))) .stop) .stop)) .stop) .stop))))))))))))))) mo (by decide +kernel);·repeat' (first | refine cD xy yF ?_ | refine cD AE tf ?_ | refine iX (bJ hb) ?_ | refine ⟨qW,⟨fx,eP⟩,?_⟩ | exact trivial | exact Or.inl rfl | exact Hj | refine ⟨?_,?_⟩)
      exact ⟨Ol (.mk uk un us ul) (.mk vk vn vs vl) PC (O ++ (KD m ++ A.take (e + 1))) ((O ++ (KD m ++ T1)).length + 1) (dP (s0 :: p)) (.mk xk xn xs xl) (.mk yk yn ys yl) ⟨ag,at',lo,hi,most,af,es⟩ m (m + (e + 1)),(dz 6 (oc (aX aw (by omega)) l5) (gC (aX aw (by omega)) l5)),A.length - (e + 1),by omega,e + 1,_,rfl,Kl.symm,by omega,rfl⟩
     ·have hge:e=A.length:=by
       have h2:=iD;simp at h2;omega
      subst hge;rw [List.take_length]
      refine aT (fun t st=>∃ (e q:Nat) (z:Int),st=Om (.mk uk un us ul) (.mk vk vn vs vl) PC (O ++ (KD m ++ A ++ G.take e)) q (dP (s0 :: p)) (.mk xk xn xs xl) (.mk yk yn ys yl) ⟨ag,at',lo,hi,most,af,es⟩ m z/\z=(xl.length:Int) - 1 - (e:Int)/\q=(O ++ (KD m ++ A ++ G.take e)).length/\e<=G.length/\t=G.length - e) G.length
       (Om (.mk uk un us ul) (.mk vk vn vs vl) PC (O ++ (KD m ++ A ++ G.take 0)) (O ++ (KD m ++ A)).length (dP (s0 :: p)) (.mk xk xn xs xl) (.mk yk yn ys yl) ⟨ag,at',lo,hi,most,af,es⟩ m ((xl.length:Int) - 1)) (dz 6 (oc hs3 TM) (gC hs3 TM)) ⟨0,_,_,rfl,by omega,by simp,by omega,by omega⟩ ?_
      rintro t st ⟨e,q,z,rfl,hz,rfl,he,rfl⟩;refine br ?_ ?_<;>intro iD
      ·have iD:(m:Int)<=z:=sU iD;have gk:e < G.length:=by omega
       have zX:m=yl.length:=by omega
       rw [<- zX] at Z9;obtain ⟨a,ha⟩:∃ a,xl[xl.length - 1 - e]? = some a:=⟨_,gE (by omega)⟩;have Ht:=Ht (xl.length - 1 - e) a (by omega) ha;have tf:=tf (cX (xl.length - 1 - e));have hGg:=hG1 e a (by omega) ha;obtain ⟨n,hn⟩:∃ n,n=xl.length - 1 - e:=⟨_,rfl⟩;obtain rfl:z=(n:Int):=by omega
       rw [<- hn] at ha Ht tf hGg
       have l5:dp (O ++ (KD m ++ A ++ G.take e)) ++ [DP ⟨3,(s0 :: p) ++ [cX n],some a,none⟩]=dp (O ++ (KD m ++ A ++ G.take (e + 1))):=by
        rw [kR,List.take_add_one,hGg];simp
       have qW:=mn (O ++ (KD m ++ A ++ G.take e))
       have zV:(O ++ (KD m ++ A ++ G.take e)).length<=100000:=by
        simp only [List.length_append,zLenT];omega
       have Kl:(O ++ (KD m ++ A ++ G.take (e + 1))).length=(O ++ (KD m ++ A ++ G.take e)).length + 1:=by
        simp only [List.length_append,zLenT];omega
       have wV:IntKind.i64.wrap ((n:Int) - 1)=(n:Int) - 1:=wrap64 (by omega) (by omega);generalize cX n=sr at *;generalize G.take e=T1 at *;have fx:(dp (O ++ (KD m ++ A ++ T1))).length + 1<=maxLen:=by rw [qW];simp only [maxLen];omega
       have eP:((dp (O ++ (KD m ++ A ++ T1))).length + 1) * 144<=140737488355328:=by rw [qW];omega
       have gR:n < xl.length:=by omega
       obtain ⟨ak,an,O3,al⟩:=a;apply mw (.op 0 (.op 1 (.op 2 (.op 3 (.op 4 (.op 5 (.op 6 (.op 7 (.op 8 (.op 11 (.op 12 (.op 13 (.op 14 (.op 15 (.ev 9 (.ev 10 (.op 16 (.ev 17 (.ev 18 (.op 19 (.op 20 (.ev 21 .fin .stop))) .stop) .stop)) .stop) .stop))))))))))))))) mo (by decide +kernel);·repeat' (first | refine cD xy Ht ?_ | refine cD AE tf ?_ | refine iX (bJ ha) ?_ | refine ⟨qW,⟨fx,eP⟩,?_⟩ | exact trivial | exact Or.inl rfl | exact Hj | refine ⟨?_,?_⟩)
       exact ⟨Om (.mk uk un us ul) (.mk vk vn vs vl) PC (O ++ (KD m ++ A ++ G.take (e + 1))) ((O ++ (KD m ++ A ++ T1)).length + 1) (dP (s0 :: p)) (.mk xk xn xs xl) (.mk yk yn ys yl) ⟨ag,at',lo,hi,most,af,es⟩ m ((n:Int) - 1),(dz 6 (oc wV l5) (gC wV l5)),G.length - (e + 1),by omega,e + 1,_,_,rfl,by omega,Kl.symm,by omega,rfl⟩
      ·have iD:z < (m:Int):=by
        have h2:=iD;simp at h2;omega
       have hge:e=G.length:=by omega
       subst hge;rw [List.take_length];exact ⟨_,[aG (.mk uk un us ul),aG (.mk vk vn vs vl),TP PC (O ++ (KD m ++ A ++ G))],ax,iP,rfl,rfl,rfl⟩
  ·have hV:dfK ND (k + 1) x y i p=[⟨1,p,some x,some y⟩]:=by rw [dfK,ai c]
   have c:nN x y=false:=sU c;rw [c] at TA;rw [hV];have eK:=kR O ⟨1,p,some x,some y⟩;have N2:(O ++ [(⟨1,p,some x,some y⟩:Chg)]).length=O.length + 1:=by simp
   obtain ⟨xk,xn,xs,xl⟩:=x;obtain ⟨yk,yn,ys,yl⟩:=y;have hx1:1<=dA (.mk xk xn xs xl):=by rw [dA];omega
   rcases p with _ | ⟨s0,p⟩
   all_goals
    refine eG 135 [] func71 rfl ntmps71 rfl fun _ _ _ _=>?_;refine cP PO TA ?_;refine dS ?_;refine ⟨Z0,⟨by rw [Z0];simp [maxLen];omega,by rw [Z0];simp;omega⟩,?_⟩;exact ⟨_,[aG (.mk uk un us ul),aG (.mk vk vn vs vl),TP PC (O ++ [_])],ax,(by repeat' (first | exact rfl | exact trivial | exact Or.inr (Or.inl ⟨_,rfl⟩) | exact Or.inr ⟨_,rfl⟩ | exact Or.inl ⟨rfl,rfl⟩ | exact Or.inl rfl | refine Or.inr ⟨_,_,rfl,Nat.zero_le _,rfl,?_⟩ | refine ⟨_,_,rfl,?_,?_⟩ | refine ⟨_,rfl,?_⟩ | exact ⟨nL rfl,rfl⟩ | exact ⟨nL rfl,(congrArg (fun l=>DV.sl 10 l _) eK).symm⟩ | exact ⟨nL rfl,congrArg (fun l=>DV.sl 10 l _) eK⟩ | refine Or.inr (Or.inr (Or.inr ⟨_,_,rfl,?_⟩)) | exact Or.inl rfl | refine Or.inr ?_)),rfl,rfl,by simp [XL,Z0]⟩
namespace Dv
theorem Hu {X:Ctx} {id:Nat} {ops:Array Oper} {k:List It} {st:St} (st':St) (hw:qu X.n0 X.m0 st st') (h:lM X id ops k st'):lM X id ops k st:=fun E a w hr=>by
 obtain ⟨E',h'⟩:=Wk.FO hw E a w hr;exact h E' a w h'
end Dv
theorem On {S:Sch} {ND:List Nd} {PC:List DV} (hP:dM S ND PC) (cf:∀ n∈ND,n.az.length<=1099511627776) (rt:Nat) (nT:dF S=rt) (x y:Val) (hx:x.wt<=1099511627776) (hy:y.wt<=1099511627776) (N3:dA x + dA y<=10000) (o:Int) (B1 B2:Bool)
  (uW:EvP prog 58 [.pt PC 0,.v (.int .i64 o),.agg (aG x)] (.v (.bool B1))) (sJ:EvP prog 58 [.pt PC 0,.v (.int .i64 o),.agg (aG y)] (.v (.bool B2))) (hw1:B1=true->dW ND x (rt:Nat)=true) (mA:B2=true->dW ND y (rt:Nat)=true) :
  EvP prog 19 [.pt PC 0,.v (.int .i64 o),.agg (aG x),.agg (aG y)] (.tup [.sl 10 (dp (if (B1 && B2)=true then dfK ND x.wt x y (rt:Nat) [] else [])) none,.v (.bool (B1 && B2))]):=by
 have dy:=hP.root;rw [nT] at dy;have ho1:=iy x.wt x (aR _) hx;have ho2:=iy y.wt y (aR _) hy;have kV:=fun h1 h2=>zE hP cf x y x.wt x y (aR _) hx hy (rt:Nat) (hw1 h1) (mA h2) [] [] (by simp;omega) (by simp;omega);simp only [List.nil_append,List.length_nil] at kV;generalize dfK ND x.wt x y (rt:Nat) []=L at *;obtain ⟨xk,xn,xs,xl⟩:=x;obtain ⟨yk,yn,ys,yl⟩:=y
 cases B1 with
 | false=>
  refine eG 38 [.tmp 8,.tmp 9] func19 rfl ntmps19 rfl fun _ _ _ _=>?_;refine cP rG uW ?_;exact ⟨_,ax,rfl⟩
 | true=>
  cases B2 with
  | false=>
   refine eG 38 [.tmp 8,.tmp 9] func19 rfl ntmps19 rfl fun _ _ _ _=>?_;refine cP rG uW ?_;refine cP rG sJ ?_;exact ⟨_,ax,rfl⟩
  | true=>
   have kV:=kV rfl rfl;refine eG 38 [.tmp 8,.tmp 9] func19 rfl ntmps19 rfl fun _ _ _ _=>?_;refine cP rG uW ?_;refine cP rG sJ ?_;refine Dv.Hu ⟨[iQ 0 PC,aF 6 0,aF 7 1,aF 10 2],[aG (.mk xk xn xs xl),aG (.mk yk yn ys yl),TP PC []],[XL 0]⟩ (dq 3 ⟨0,58,10,none⟩ rfl rfl rfl pV rfl rfl j8) ?_;refine fZ (fun i=>Nat.beq i 7) mo (by decide +kernel) ?_;refine cD xu dy ?_;refine cD Cz ho1 ?_;refine cD Cz ho2 ?_;refine fG rfl ?_;refine gf 3 1 Up rfl rfl rfl iP iP kV (fun r ir cC hΦ h1 h2=>?_);obtain ⟨rfl,rfl,rfl⟩:=hΦ;exact ⟨_,ax,rfl⟩
def sR:Sch:=⟨[⟨⟨#[97]⟩,0⟩],[],[],.mk ⟨5,0,0,0,4,[],⟨av,0⟩⟩ (.cons ⟨⟨av,0⟩,false,[],0,0,0,0,[]⟩ (.mk ⟨2,0,0,9,0,[],⟨av,0⟩⟩ .nil) .nil)⟩
abbrev vI (n:Int):Val:=.mk 2 n av []
def exX:Val:=.mk 5 0 av [vI 1,vI 2]
def exY:Val:=.mk 5 0 av [vI 3]
def vR:Nd:=⟨2,0,0,9,0,[],[]⟩
theorem Oo {S:Sch} {ND:List Nd} {PC:List DV} (hP:dM S ND PC) (j:Nat) (hd:ND[j]? = some vR) (n:Int):EvP prog 218 [.pt PC 0,.v (.int .i64 j),.agg (aG (vI n))] (.v (.bool true)):=by
 have cJ:=hP.ah j vR hd;have fV:EvP prog 262 [.agg (aG (vI n))] (.v (.bool true)):=nB (vI n);refine eG 159 [.tmp 6] func218 rfl ntmps218 rfl fun _ _ _ _=>?_;refine cP mT cJ ?_;refine cP E8 fV ?_;exact (rfl:_=_)
theorem Km {S:Sch} {ND:List Nd} {PC:List DV} (hP:dM S ND PC) (j:Nat) (hd:ND[j]? = some vR):EvP prog 218 [.pt PC 0,.v (.int .i64 j),.agg (vD none)] (.v (.bool false)):=by
 have cJ:=hP.ah j vR hd;refine eG 159 [.tmp 6] func218 rfl ntmps218 rfl fun _ _ _ _=>?_;refine cP mT cJ ?_;exact (rfl:_=_)
theorem uC {S:Sch} {ND:List Nd} {PC:List DV} (hP:dM S ND PC) (j:Nat) (hd:ND[j]? = some vR) (n:Int) (hn:mZ n):EvP prog 150 [.pt PC 0,.v (.int .i64 j),.agg (aG (vI n))] (.v (.string (ba (ic n)))):=by
 have ha:=Oo hP j hd n;have hnd:bR ND (j:Int)=some vR:=by grind [bR]
 have hw:dW ND (vI n) (j:Nat)=true:=by
  rw [dW,hnd];rfl
 have nI:rngW (vI n):=by grind [rngW,mZ,rngWs]
 have hT:textV ND (vI n) (j:Nat)=ic n:=by
  rw [textV,hnd];simp [opnT,vR,mj,textVs,eA,dQ,mi,Val.k,Val.ks,Val.n]
 have aY:=zw hP.ok nI hw;have HX:=fun p hp=>nD hP (vI n) (vI n).wt (vI n) (aR _) (by rw [Val.wt];decide) nI (j:Nat) hw [] p hp (by rw [List.length_nil,Val.wt];decide);simp only [List.nil_append] at HX;rw [hT] at HX aY;generalize ic n=T at *;refine jB (s:=false) (bt:=[(1,160)]) (hbt:=fun p hp=>Nat.zero_le _) (P:=prog) tt eT 5000 18 [.tmp 6] func150 rfl ntmps150 rfl (nL rfl) (fun _ _ _ _=>?_);refine cP E7 ha ?_;refine yZ ⟨0,5,1,none⟩ ⟨[aF 7 1],[aG (vI n),[.v (.pointer none),.sl 1 [] (some 0)]],[⟨0,5,1,none⟩]⟩ rfl ?_ rfl ?_ ⟨⟨_,rfl,aA rfl⟩,trivial⟩ rfl rfl ?_
 ·repeat' (first | exact rfl | exact aA rfl | refine ⟨_,_,rfl,?_,?_⟩)
 ·repeat' (first | exact rfl | exact aA rfl | exact ch (aR _) rfl | refine ⟨_,_,rfl,?_,?_⟩)
 refine lY 2 1 AH rfl rfl rfl iP iP (HX (.v (.pointer none)) (.inl rfl)) (fun r ir cC hΦ h1 h2=>?_);obtain ⟨rfl,rfl,rfl⟩:=hΦ;refine pJ rfl (kt:=0) (l:=T) (.head _) rfl aY rfl rfl rfl rfl ?_;exact (rfl:_=_)
theorem Kn {S:Sch} {ND:List Nd} {PC:List DV} (hP:dM S ND PC) (j:Nat) (hd:ND[j]? = some vR):EvP prog 150 [.pt PC 0,.v (.int .i64 j),.agg (vD none)] (.v (.string av)):=by
 have ha:=Km hP j hd;refine jB (s:=false) (bt:=[(1,160)]) (hbt:=fun p hp=>Nat.zero_le _) (P:=prog) tt eT 5000 18 [.tmp 6] func150 rfl ntmps150 rfl (nL rfl) (fun _ _ _ _=>?_);refine cP E7 ha ?_;exact (rfl:_=_)
def TR:List UInt8:=[126,32,91,48,93,58,32,49,32,45,62,32,51,10]
def ln2:List UInt8:=[45,32,91,49,93,58,32,50,10]
theorem line39_1 {S:Sch} {ND:List Nd} {PC:List DV} (hP:dM S ND PC) (hd:ND[1]? = some vR) (rz:EvP prog 87 [.pt PC 0,.sl 3 (bf [cX 0]) none] (BT (some (1,0)))) :
  EvP prog 75 [.pt PC 0,.agg (DP ⟨1,[cX 0],some (vI 1),some (vI 3)⟩)] (.v (.string (ba TR))):=by
 have h1:=uC hP 1 hd 1 (by unfold mZ;omega);have h3:=uC hP 1 hd 3 (by unfold mZ;omega);rw [show ic 1=[49] by decide +kernel] at h1;rw [show ic 3=[51] by decide +kernel] at h3
 have hp:=ux [cX 0] (fun s h=>by
  simp only [List.mem_singleton] at h;subst h
  exact ⟨by simp [cX],Nat.zero_le _⟩)
 rw [show jP [cX 0]=[91,48,93] by decide +kernel] at hp;refine eG 92 [.tmp 4] func75 rfl ntmps75 rfl fun _ _ _ _=>?_;refine cP YB rz ?_;refine dI ?_;refine cD AF h1 ?_;refine cD AF h3 ?_;refine cP PR hp ?_
 repeat' (first | exact (rfl:_=_) | exact nL rfl | refine ⟨?_,?_⟩)
theorem line39_2 {S:Sch} {ND:List Nd} {PC:List DV} (hP:dM S ND PC) (hd:ND[1]? = some vR) (rz:EvP prog 87 [.pt PC 0,.sl 3 (bf [cX 1]) none] (BT (some (1,0)))) :
  EvP prog 75 [.pt PC 0,.agg (DP ⟨3,[cX 1],some (vI 2),none⟩)] (.v (.string (ba ln2))):=by
 have h1:=uC hP 1 hd 2 (by unfold mZ;omega);have h3:=Kn hP 1 hd;rw [show ic 2=[50] by decide +kernel] at h1
 have hp:=ux [cX 1] (fun s h=>by
  simp only [List.mem_singleton] at h;subst h
  exact ⟨by simp [cX],Nat.zero_le _⟩)
 rw [show jP [cX 1]=[91,49,93] by decide +kernel] at hp;refine eG 92 [.tmp 4] func75 rfl ntmps75 rfl fun _ _ _ _=>?_;refine cP YB rz ?_;refine dI ?_;refine cD AF h1 ?_;refine cD AF h3 ?_;refine cP PR hp ?_
 repeat' (first | exact (rfl:_=_) | exact nL rfl | refine ⟨?_,?_⟩)
def exL:List Chg:=[⟨1,[cX 0],some (vI 1),some (vI 3)⟩,⟨3,[cX 1],some (vI 2),none⟩]
abbrev BW (PC:List DV) (T:List UInt8) (p:DV) (e:Nat):St:=
 ⟨[iQ 0 PC,aF 7 0,bi 19 10 (dp exL),ay 20 2,ay 21 e],[bO p T],bT T⟩
theorem Oq {S:Sch} {ND:List Nd} {PC LC:List DV} {n:Nat} {af:List ByteArray} {f:Nat->Nat->Bool} (hP:dM S ND PC) (gg:EvP prog 72 [.pt PC 0] (.pt LC 0)) (hR:za n f af LC) (hn:0 < n) (hd:ND[1]? = some vR)
  (hw1:EvP prog 87 [.pt PC 0,.sl 3 (bf [cX 0]) none] (BT (some (1,0)))) (mA:EvP prog 87 [.pt PC 0,.sl 3 (bf [cX 1]) none] (BT (some (1,0)))) :
  EvP prog 20 [.pt PC 0,.v (.int .i64 0),.sl 10 (dp exL) none] (.v (.string (ba (TR ++ ln2)))):=by
 have h1:=line39_1 hP hd hw1;have h2:=line39_2 hP hd mA;have hlen:=hR.len;refine jB (s:=false) (bt:=[(0,160)]) (hbt:=fun p hp=>Nat.zero_le _) (P:=prog) tt eT 5000 31 [.tmp 6] func20 rfl ntmps20 rfl (nL rfl) (fun _ _ _ _=>?_);refine cP Ip gg ?_;refine cP Iq hlen ?_
 refine br (fun c=>absurd c (by
  simp [pickB]
  omega)) (fun _=>?_)
 refine aT (fun j st=>(st=BW PC [] (.v (.pointer none)) 0/\j=2)∨(st=BW PC TR (.loc 0 0) 1/\j=1)∨(st=BW PC (TR ++ ln2) (.loc 0 0) 2/\j=0)) 2 (BW PC [] (.v (.pointer none)) 0) (dq 1 ⟨0,5,1,none⟩ rfl rfl rfl pV rfl rfl j8) (.inl ⟨rfl,rfl⟩) ?_;rintro _ st (⟨rfl,rfl⟩ | ⟨rfl,rfl⟩ | ⟨rfl,rfl⟩)
 ·refine ⟨_,⟨by decide,rfl⟩,?_⟩;refine cP Ur h1 ?_;refine gK rfl (kt:=0) (l:=[]) TR rfl (.head _) rfl (.inl rfl) rfl (by decide) (by decide) rfl (fun n=>?_);exact ⟨BW PC TR (.loc 0 0) 1,(dz 1 pV j8),1,by omega,.inr (.inl ⟨rfl,rfl⟩)⟩
 ·refine ⟨_,⟨by decide,rfl⟩,?_⟩;refine cP Ur h2 ?_;refine gK rfl (kt:=0) (l:=TR) (TR ++ ln2) rfl (.head _) rfl (.inr rfl) rfl (by decide) (by decide) rfl (fun n=>?_);exact ⟨BW PC (TR ++ ln2) (.loc 0 0) 2,(dz 1 pV j8),0,by omega,.inr (.inr ⟨rfl,rfl⟩)⟩
 ·refine pJ rfl (kt:=0) (l:=TR ++ ln2) (.head _) rfl (by decide) rfl rfl rfl rfl ?_;exact (rfl:_=_)
theorem SX:(lF sR).1=0:=by decide +kernel
theorem o9:dF sR=(0:Nat):=by decide +kernel
theorem wF:0 < (aQ sR).length:=by decide +kernel
theorem aab:(aQ sR)[1]? = some vR:=by rfl
theorem Hv:mv (aQ sR) (aH sR) sR.ae.length 0 0 exX=true:=by decide +kernel
theorem Hw:mv (aQ sR) (aH sR) sR.ae.length 0 0 exY=true:=by decide +kernel
theorem aac:walkV (aQ sR) (aH sR) sR.ae.length [cX 0] 0 (eC (aH sR) sR.ae.length)=some (1,0):=by decide +kernel
theorem aad:walkV (aQ sR) (aH sR) sR.ae.length [cX 1] 0 (eC (aH sR) sR.ae.length)=some (1,0):=by decide +kernel
theorem aae:dfK (aQ sR) exX.wt exX exY ((0:Nat):Int) []=exL:=by rfl
theorem gj:EvP prog 10 [] (.v (.bool true)):=by
 have Fl:sR.wt<=1099511627776:=by decide +kernel
 have hb:=(yv sR Fl).mono (Ψ:=fun r _ _=>Jz sR r) fun _ _ _ h=>Bu Fl h;refine eG 43 [.tmp 0] func10 rfl ntmps10 rfl fun _ _ _ _=>?_;refine cE abG rfl hb ax (fun r hr=>?_);rcases hr with ⟨hr,_⟩ | ⟨_,PC,hP,rfl⟩
 ·exact (hr SX).elim
 obtain ⟨LC,gg,hR⟩:=hP.Vt;have afc:∀ n∈aQ sR,DR n:=fun n hn=>zr (S:=sR) (by simp [sR,QF,rngT,rngP,mZ]) hn;have cf:∀ n∈aQ sR,n.az.length<=1099511627776:=fun n hn=>(mc hn Fl).2;have f1:=jQ hP gg hR afc cf 0 o9 wF 0 exX (by decide +kernel) (by simp [exX,rngW,rngWs,mZ]);have f2:=jQ hP gg hR afc cf 0 o9 wF 0 exY (by decide +kernel) (by simp [exY,rngW,rngWs,mZ]);rw [Hv] at f1;rw [Hw] at f2;have hD:=On hP cf 0 o9 exX exY (by decide +kernel) (by decide +kernel) (by decide +kernel) 0 true true f1 f2 (fun _=>o8 hP.ok Hv) (fun _=>o8 hP.ok Hw);rw [show (true && true)=true from rfl,aj rfl,aae] at hD;have w1:=qU hP [cX 0] (by decide) (by decide) 0 o9 wF;have w2:=qU hP [cX 1] (by decide) (by decide) 0 o9 wF;rw [aac] at w1;rw [aad] at w2;have hT:=Oq hP gg hR (by decide) aab w1 w2;refine cP PE hD ?_;refine cP abH hT ?_;exact (rfl:_=_)
structure Mf (c:Chg):Prop where
 p:c.p.length<=1000000
 x:∀ v,c.x=some v->v.wt<=1099511627776
 y:∀ v,c.y=some v->v.wt<=1099511627776
theorem Mg (p:List Stp) (hp:p.length + 1<=1000000):∀ (l:List Val) (j:Nat),(∀ v∈l,v.wt<=1099511627776)->∀ c∈addC p l j,Mf c
 | [],_,_,c,h=>by simp [addC] at h
 | y :: r,j,hl,c,h=>by
  rw [addC] at h;rcases dB h with rfl | h
  ·exact ⟨by simp;omega,fun v hv=>(by cases hv),fun v hv=>(by cases hv;exact hl _ (.head _))⟩
  ·exact Mg p hp r (j + 1) (fun v hv=>hl v (.tail _ hv)) c h
theorem Mh (p:List Stp) (hp:p.length + 1<=1000000):∀ (l:List Val) (j:Nat),(∀ v∈l,v.wt<=1099511627776)->∀ c∈kS p l j,Mf c
 | [],_,_,c,h=>by simp [kS] at h
 | y :: r,j,hl,c,h=>by
  rw [kS] at h;rcases List.mem_append.1 h with h | h
  ·exact Mh p hp r (j + 1) (fun v hv=>hl v (.tail _ hv)) c h
  ·simp only [List.mem_singleton] at h;subst h;exact ⟨by simp;omega,fun v hv=>(by cases hv;exact hl _ (.head _)),fun v hv=>(by cases hv)⟩
theorem SY (ND:List Nd):∀ (k:Nat) (x y:Val) (i:Int) (p:List Stp),x.wt<=1099511627776->y.wt<=1099511627776->p.length + dA x<=100000->∀ c∈dfK ND k x y i p,Mf c
 | 0,_,_,_,_,_,_,_,c,h=>by simp [dfK] at h
 | k + 1,x,y,i,p,hx,hy,hp,c,h=>by
  have ih:=SY ND k;have Rj:x.wt=64 + x.s.size + cu x.ks:=by obtain ⟨_,_,_,_⟩:=x;rfl
  have hyw:y.wt=64 + y.s.size + cu y.ks:=by obtain ⟨_,_,_,_⟩:=y;rfl
  have hx1:dA x=1 + bQ x.ks:=by obtain ⟨_,_,_,_⟩:=x;rfl
  have mx:∀ v∈x.ks,v.wt<=1099511627776:=fun v hv=>by have:=cz hv;omega
  have my:∀ v∈y.ks,v.wt<=1099511627776:=fun v hv=>by have:=cz hv;omega
  rw [dfK] at h;split at h
  ·cases hd:bR ND i with
   | none=>rw [hd] at h;simp at h
   | some d=>
    rw [hd] at h;simp only [List.mem_append] at h;rcases h with (h | h) | h
    ·have hk:∀ m,∀ c∈kidsD (dfK ND k) d x y p m,Mf c:=by
      intro m
      induction m with
      | zero=>intro c h;simp [kidsD] at h
      | succ m im=>
       intro c h;rw [kidsD] at h;rcases List.mem_append.1 h with h | h
       ·exact im c h
       ·unfold kidD at h;split at h
        ·rename_i a b e h1 h2 h3;have ha:=mG h1;have hca:=oZ h1;have TQ:=kT x.ks (m + 1)
         grind
        ·simp at h
     exact hk _ c h
    ·grind [Mg]
    ·grind [Mh]
  ·simp only [List.mem_singleton] at h;subst h;exact ⟨by show p.length<=_;omega,fun v hv=>(by cases hv;exact hx),fun v hv=>(by cases hv;exact hy)⟩
abbrev BX (S:List DV) (x y:Val) (e:Nat):St:=⟨[bi 1 4 [aG x,aG y],aF 2 0,ay 5 e],[S],[]⟩
theorem Hx (S:Sch) (hS:S.wt<=1099511627776) (x y:Val) (hx:x.wt<=1099511627776) (hy:y.wt<=1099511627776) :
  Ev prog 8 [.agg (ei S),.sl 4 [aG x,aG y] none] [] [] (fun r _ _=>∃ b:Bool,r = .v (.bool b)/\(b=true->zt S/\dA x<=500/\dA y<=500)):=by
 have ga:=C6 S hS;have hf:=Hl S hS;have h1:=oP x.wt x (aR _) hx;have h2:=oP y.wt y (aR _) hy;generalize dA x=c1 at *;generalize yS x=d1 at h1;generalize dA y=c2 at *;generalize yS y=d2 at h2;obtain ⟨ae,order,types,⟨rh,rp⟩⟩:=S;obtain ⟨xk,xn,xs,nU⟩:=x;obtain ⟨yk,yn,ys,q7⟩:=y;refine eG 31 [.tmp 4] func8 rfl ntmps8 rfl fun _ _ _ _=>?_
 refine aT (fun j st=>(st=BX (ei ⟨ae,order,types,.mk rh rp⟩) (.mk xk xn xs nU) (.mk yk yn ys q7) 0/\j=2)∨(st=BX (ei ⟨ae,order,types,.mk rh rp⟩) (.mk xk xn xs nU) (.mk yk yn ys q7) 1/\c1<=500/\j=1)∨(st=BX (ei ⟨ae,order,types,.mk rh rp⟩) (.mk xk xn xs nU) (.mk yk yn ys q7) 2/\c1<=500/\c2<=500/\j=0)) 2
  (BX (ei ⟨ae,order,types,.mk rh rp⟩) (.mk xk xn xs nU) (.mk yk yn ys q7) 0) (dz 1 pV j8) (.inl ⟨rfl,rfl⟩) ?_
 rintro _ st (⟨rfl,rfl⟩ | ⟨rfl,Il,rfl⟩ | ⟨rfl,Il,nV,rfl⟩)
 ·refine ⟨_,⟨by decide,rfl⟩,?_⟩;refine cP Yy h1 ?_;refine br ?_ ?_<;>intro c
  ·exact ⟨false,rfl,fun h=>by cases h⟩
  ·exact ⟨BX (ei ⟨ae,order,types,.mk rh rp⟩) (.mk xk xn xs nU) (.mk yk yn ys q7) 1,(dz 1 pV j8),1,by omega,.inr (.inl ⟨rfl,by simp at c;omega,rfl⟩)⟩
 ·refine ⟨_,⟨by decide,rfl⟩,?_⟩;refine cP Yy h2 ?_;refine br ?_ ?_<;>intro c
  ·exact ⟨false,rfl,fun h=>by cases h⟩
  ·exact ⟨BX (ei ⟨ae,order,types,.mk rh rp⟩) (.mk xk xn xs nU) (.mk yk yn ys q7) 2,(dz 1 pV j8),0,by omega,.inr (.inr ⟨rfl,Il,by simp at c;omega,rfl⟩)⟩
 ·refine cE en43 rfl ga ax (fun r hr=>?_);obtain ⟨g,rfl⟩:=hr
  cases g with
  | true=>exact ⟨false,rfl,fun h=>by cases h⟩
  | false=>
   refine cE en44 rfl hf ax (fun r hr=>?_);obtain ⟨b,rfl,hb⟩:=hr;exact ⟨b,rfl,fun h=>⟨hb h,Il,nV⟩⟩
def oV (o:Option Val):Val:=o.getD zeroV
def Mi (k:Int) (p:List Stp) (X Y:Val):List DV:=[.v (.int .i64 k),.sl 3 (bf p) none] ++ (aG X ++ aG Y)
theorem S0 (k:Int) (p:List Stp) (v X Y:Val) (hv:v.wt<=1099511627776) (hY:Y.wt<=1099511627776) :
  EvP prog 127 [.agg (aG v),.pt (Mi k p X Y) 0] (.tup [.agg (aG Y),.v (.bool (sameV v X))]):=by
 have ho:=iy Y.wt Y (aR _) hY;have hs:=qP v.wt v (aR _) hv X;generalize sameV v X=b at hs ⊢;obtain ⟨vk,vn,vs,vl⟩:=v;obtain ⟨xk,xn,xs,xl⟩:=X;obtain ⟨yk,yn,ys,yl⟩:=Y;refine eG 12 [.cell 3 34,.tmp 4] func127 rfl ntmps127 rfl fun _ _ _ _=>?_;refine dS ?_;refine cD Cz ho ?_;refine cD PL hs ?_;exact ⟨_,ax,rfl⟩
theorem Hy (s:Stp) (n:Nat):EvP prog 131 [.agg (fT s),.v (.int .i64 n)] (.v (.bool (jN s (cX n)))):=by
 refine eG 9 [.tmp 4] func131 rfl ntmps131 rfl fun _ _ _ _=>?_;refine ⟨_,Vs _ _ s (cX n),?_⟩;exact (rfl:_=_)
def jE (x:Val) (a:Nat) (k:Val):Val:=.mk x.k x.n x.s (x.ks.set a k)
end Go.Proofs.YtgjagnmeonoehaaGreat
namespace Go.Proofs.YtgjagnmeonoehaaGreat
namespace Dv
open Go Go.RowKit
section
variable {X:Ctx} {st:St} {k:List It} {E:En} {a:Act} {w:World} {o:Oper}
theorem aaf {t d et e iB n:Nat} {bb:Bool} {z:List Value} (mB:o.op = .buildSlice t 0 #[]) (gZ:o.dst=some d) (hT:X.T.find t=some ⟨n,bb,.sl et e iB,z⟩) (hd:ep X.nt st.sl (some d)=true) (bd:X.still=false:=by exact rfl) (hX:X.bt=[]:=by exact rfl) :
  OpS X o st ⟨(d,⟨[],.sl 0 [] (some st.tk.length)⟩) :: st.sl,st.bx,st.tk ++ [⟨0,et,e,some []⟩]⟩:=by
 intro E a w h;obtain ⟨hu,ii,zv,vX,hz,cf,qh,KA⟩:=er X.hT hT;have lQ:iN X.P et=some e:=by rw [eZ vX,cf]
 have cd:(execOp a.eval o).run X.P w = .ok (.value (.slice (some ⟨w.heap.size,0,none⟩) 0 0)) (w.alloc (.cells #[] et)):=by
  have h1:(Instr.buildSlice t 0 #[]).run X.P w = .ok (.slice (some ⟨w.heap.size,0,none⟩) 0 0) (w.alloc (.cells #[] et)):=by
   have h0:Array.range 0 = #[]:=rfl;simp [Instr.buildSlice,run_underlying hu,aS lQ,Instr.fill,newRow,h0]
  simp only [execOp,mB,List.map_toArray,List.map_nil,Sem.run_bind,h1,Result.andThen_ok,Sem.run_pure]
 refine eH cd ?_;rw [gZ];have og:=h.env.kW (w':=w.alloc (.cells #[] et)) fun i hi=>alloc_old w _ hi
 let E2:En:=⟨E.c,E.β,E.tk ++ [⟨0,et,e,some []⟩],E.τ ++ [.slice (some ⟨w.heap.size,0,none⟩) 0 0]⟩
 have hext:Ext E E2:=⟨fun _ _ h=>h,fun _ _ h=>h,fun k q' hk=>by
  have aw:=(gS hk).1;refine ⟨q',by show (E.tk ++ _)[k]? = _;rw [dn aw];exact hk,.inl ⟨rfl,?_⟩⟩;show (E.τ ++ _)[k]? = _
  rw [dn (by rw [h.env.tl];exact aw)]⟩
 have hτ:∀ (k:Nat) y,E2.τ[k]? = some y->(k < E.τ.length/\E.τ[k]? = some y)∨(k=E.τ.length/\y = .slice (some ⟨w.heap.size,0,none⟩) 0 0):=fun k y hy=>by grind
 have dm:∀ (k:Nat) y g,E.τ[k]? = some y->y.ownBlock=some g->g < w.heap.size:=fun k y g hy hg=>(h.env.own (mG hy) hg).1
 have bY:Rel X E2 ⟨st.sl,st.bx,st.tk ++ [⟨0,et,e,some []⟩]⟩ a (w.alloc (.cells #[] et)):=by
  refine dC h hext ?_ (by show E.tk ++ _=_;rw [h.tk]) ?_ (h.fr.alloc _) (mJ bd) (.nil hX)
  ·exact {
    len:=h.env.len
    tl:=by show (E.τ ++ _).length=(E.tk ++ _).length;simp [h.env.tl]
    ey:=fun i cs hi=>by
     obtain ⟨b,t,arr,hb,hw,hc⟩:=og.ey i cs hi;exact ⟨b,t,arr,hb,hw,hc.mono hext⟩
    inj:=h.env.inj
    sub:=og.sub
    pc:=h.env.pc
    bU:=fun k q' y Xe hy=>by
     rcases hτ k y hy with ⟨aw,fW⟩ | ⟨rfl,rfl⟩
     ·have fC:(E.tk ++ [⟨0,et,e,some []⟩])[k]? = some q':=Xe;rw [dn (by rw [<- h.env.tl];exact aw)] at fC;exact og.bU k q' y fC fW
     ·have fC:(E.tk ++ [⟨0,et,e,some []⟩])[E.τ.length]? = some q':=Xe;rw [List.getElem?_append_right (by rw [h.env.tl];exact aR _),h.env.tl] at fC;simp only [Nat.sub_self,List.getElem?_cons_zero,oI] at fC;subst fC;refine .inr ⟨w.heap.size,0,#[],rfl,jb w _,⟨by simp,fun cs hc=>by cases hc;exact ⟨by simp,by simp [RvC,RvL]⟩⟩,aR _,Nat.zero_le _,fun hm=>?_,fun x v hx HP=>?_⟩
      ·have:=h.env.bp hm;omega
      ·have:=World.block_lt_of_cell? w x (h.env.sub x v hx);omega
    jc:=fun k k' y y' g uK hy fW hg qX=>by
     rcases hτ k y hy with ⟨_,vt⟩ | ⟨rfl,rfl⟩
     ·rcases hτ k' y' fW with ⟨_,lO⟩ | ⟨rfl,rfl⟩
      ·exact h.env.jc k k' y y' g uK vt lO hg qX
      ·have:=dm k y g vt hg;simp only [Value.ownBlock,oI] at qX;omega
     ·rcases hτ k' y' fW with ⟨_,lO⟩ | ⟨rfl,rfl⟩
      ·have:=dm k' y' g lO qX;simp only [Value.ownBlock,oI] at hg;omega
      ·exact uK rfl }
  ·exact {
    c:=h.nw.c
    cn:=h.nw.cn
    β:=h.nw.β
    tk:=fun j q0 y0 zZ Ch=>by
     obtain ⟨q',y',h1,h2,h3⟩:=h.nw.tk j q0 y0 zZ Ch
     grind
    tn:=fun j y g hj hy hg=>by
     rcases hτ j y hy with ⟨_,vt⟩ | ⟨_,rfl⟩
     ·exact h.nw.tn j y g hj vt hg
     ·simp only [Value.ownBlock,oI] at hg;have:=h.fr.size;omega
    l0:=h.nw.l0 }
 refine ⟨E2,bc bY hd (.sl 0 [] (some st.tk.length)) _ ?_,hext,⟨[],by simp [E2]⟩,fun i b hb _=>alloc_old w _ (h.env.bp (mG hb))⟩;unfold Rv;refine ⟨_,0,0,rfl,⟨rfl,aR _⟩,fun hn=>(hn rfl).elim,fun k' fC=>?_⟩;cases fC;refine ⟨⟨0,et,e,some []⟩,?_,aR _,fun _=>?_⟩
 ·show (E.tk ++ _)[st.tk.length]? = _;rw [h.tk];simp
 ·show (E.τ ++ _)[st.tk.length]? = _;rw [<- h.tk,<- h.env.tl];simp
theorem Ot {t d et e iB n:Nat} {bb:Bool} {z:List Value} (mB:o.op = .buildSlice t 0 #[]) (gZ:o.dst=some d) (hT:X.T.find t=some ⟨n,bb,.sl et e iB,z⟩) (hd:ep X.nt st.sl (some d)=true) (bd:X.still=false:=by exact rfl) (hX:X.bt=[]:=by exact rfl)
  (hk:go X 4000 k ⟨(d,⟨[],.sl 0 [] (some st.tk.length)⟩) :: st.sl,st.bx,st.tk ++ [⟨0,et,e,some []⟩]⟩):HO X o k st:=(aaf mB gZ hT hd bd hX).g hk
end
end Dv
end Go.Proofs.YtgjagnmeonoehaaGreat
set_option maxRecDepth 100000
namespace Go.Proofs.YtgjagnmeonoehaaGreat
open Go Go.RowKit Dv Go.Proofs.Tryz
theorem S1 (ks:List Val) (hl:ks.length<=17179869184):EvP prog 130 [.sl 4 (dVals ks) none] (.sl 4 (dVals ks) none):=by
 have cw:=aU ks;refine LI ?_;refine eG 8 [.tmp 2] func130 rfl ntmps130 rfl fun _ _ _ _=>?_;refine qJ ⟨_,rfl⟩ rfl rfl rfl rfl (fun b hb=>?_)
 cases b with
 | true=>
  have h0:dVals ks=[]:=by grind
  exact Or.inr ⟨h0,rfl⟩
 | false=>
  refine l7 rfl rfl rfl rfl (hk:=?_);refine ⟨rfl,⟨by simp [maxLen,cw];omega,by simp [cw];omega⟩,?_⟩;exact ⟨_,ax,Or.inl rfl⟩
theorem Ko (ks:List Val) (aY:ks ≠ []) (hl:ks.length<=17179869184):TB prog 130 [.sl 4 (dVals ks) none] [] []
  (fun r _ bU=>r = .sl 0 (List.replicate ks.length []) (some 0)/\bU=[⟨ks.length,34,4,some (dVals ks).flatten⟩]):=by
 have cw:=aU ks;have T6:dVals ks ≠ []:=fun h=>aY (List.eq_nil_of_length_eq_zero (by rw [<- cw,h];rfl));refine j7 (s:=false) (bt:=[]) (mu:=[]) (hbt:=fun p hp=>by cases hp) (fr:=true) (P:=prog) tt eT 5000 8 [.tmp 2] func130 rfl ntmps130 rfl (nL rfl) (fun _ _ _ _=>?_);refine qJ ⟨_,rfl⟩ rfl rfl rfl rfl (fun b hb=>?_);rw [hb T6];refine Ot rfl rfl rfl rfl (hk:=?_);refine ⟨⟨⟨rfl,T6⟩,by rw [cw];simp [maxLen];omega,by rw [cw];omega⟩,?_⟩;have yf:List.replicate (0 + (dVals ks).length) ([]:List DV)=List.replicate ks.length []:=by rw [Nat.zero_add,cw]
 refine ⟨.sl 0 (List.replicate ks.length []) (some 0),[],(by repeat' (first | exact rfl | exact trivial | exact Or.inr (Or.inl ⟨_,rfl⟩) | exact Or.inr ⟨_,rfl⟩ | exact Or.inl ⟨rfl,rfl⟩ | exact Or.inl rfl | refine Or.inr ⟨_,_,rfl,Nat.zero_le _,rfl,?_⟩ | refine ⟨_,_,rfl,?_,?_⟩ | refine ⟨_,rfl,?_⟩ | exact ⟨nL rfl,congrArg (fun l=>DV.sl 0 l _) yf⟩ | refine Or.inr (Or.inr (Or.inr ⟨_,_,rfl,?_⟩)) | exact Or.inl rfl | refine Or.inr ?_)),rfl,rfl,?_⟩;show [(⟨0 + (dVals ks).length,_,4,some ([] ++ (dVals ks).flatten)⟩:TkE)]=_;rw [cw,Nat.zero_add,List.nil_append]
end Go.Proofs.YtgjagnmeonoehaaGreat
