/- Part 6 of the proof: The document's Bottom, Right of paths; the program's Right of paths; The least depths of the values of a plan's nodes: plain; The program's nodes, least depths; A region that draws its order, in which a new object may come at any time among calls: its run with the object made at each of these times serves every order; Where steps lead: the document's Edge, Walk; the program's; The program's way along steps: fits, step, Walk; The document's least depths; fine; the chapter's example; The program's Depths; The law of least depths: fine, the example, the call returns true; With which schemas nothing is wrong: the document's Wrong of chapters 20, 21; the law's fine; Which levels see a place: the program's Who; A region that draws its order, run by a schedule: at each point all that may come and has an effect is tried; The document's rows of an audit: With, Under, How, Rows; The library's copyCheck of strings.Builder, laid at this program; The library's Builder at this program: what WriteString and String do to memory, exactly; Rules for the evaluator: the library's Builder, written and read; Rules for the evaluator: String of a Builder that holds nothing; The text of a path, of a row: plain, the program's, the document's; The document's rows of an audit; All rows of an audit, by the document; the law's bounds; Paths of a value: plain; tree.steps; Where steps lead in a value, and that value with another one there: plain; Rules for the evaluator: calls that hand back fresh rows; Rules for the evaluator: elements of rows whose cells nobody else knows, read and written whole; tree: slices.Index of steps, kid, clone, Get; tree.write, Raw; The document's Fits; Written values: well formed; the document's Same on the same value; its Raw; ref25.Paths; tree: walk, Paths; The program's rows of an audit: step, sees, row; The program's rows of an audit: walk, Rows; How kinds of types, and ways of seeing, are called; The program's rows of an audit: Rows; The lines of an audit: what is known of rows; the document's Line; The greatest multiple of a unit that is at most a number. No condition. -/
import Derived.Shelf.Strings.OnBuilder
import Derived.Shelf.RegionOpenPlain
import Derived.Lib.Strings
import Derived.Lib.Slices
import Derived.Lib.Walk
import Derived.Lib.Builder
import Derived.Lib.AppendStr
import Derived.Lib.UnsafeStr
import Derived.WalkKit
import Derived.Laws.Externs
import Derived.Lib.Hide
import Derived.Test.YtgjagnmeonoehaaGreatMw2
import Derived.Test.YtgjagnmeonoehaaGreatMw3
import Derived.Test.YtgjagnmeonoehaaGreatMw4
import Derived.Test.YtgjagnmeonoehaaGreatMw5
set_option linter.all false
set_option maxRecDepth 100000
namespace Go.Proofs.YtgjagnmeonoehaaGreat
open Go Go.RowKit Dv Go.Proofs.Tryz
theorem Re {α:Type} {l:List α} {e:Nat} {x:α} {p:α->Bool} (h:l[e]? = some x):(l.drop e).all p=(p x && (l.drop (e + 1)).all p):=by
 obtain ⟨h1,h2⟩:=List.getElem?_eq_some_iff.1 h;rw [List.drop_eq_getElem_cons h1,h2,List.all_cons]
theorem Dp (s:Stp) (hs:s.s.size<=4611686018427387904):EvP prog 231 [.agg (eU s)] (.v (.bool (cF s))):=by
 have hr:=jr s.s hs;obtain ⟨k,n,t⟩:=s;have hF:cF ⟨k,n,t⟩=if k=1∨k=5 then decide (n=0) && bE t else if k=2 then decide (0<=n) && decide (t=⟨#[]⟩) else if k=3∨k=4 then decide (n=0) && decide (t=⟨#[]⟩) else false:=rfl
 generalize cF ⟨k,n,t⟩=F at hF ⊢;refine eG 39 [.tmp 2] func231 rfl ntmps231 rfl fun _ _ _ _=>?_;refine br ?_ ?_<;>intro c
 ·have c:k=1:=sU c;rw [ap (.inl c)] at hF;refine br (fun _=>?_) (fun g=>absurd g (by simp [c]));refine br ?_ ?_<;>intro g
  ·have g:n=0:=sU g;refine cP xH hr ?_;refine (bP ?_:);rw [hF];simp [g,pickB]
  ·have g:¬ n=0:=sU g;refine (bP ?_:);rw [hF];simp [g,pickB]
 have c1:¬ k=1:=sU c;refine br ?_ ?_<;>intro c
 ·have c:k=5:=sU c;rw [ap (.inr c)] at hF;refine br ?_ ?_<;>intro g
  ·have g:n=0:=sU g;refine cP xH hr ?_;refine (bP ?_:);rw [hF];simp [g,pickB]
  ·have g:¬ n=0:=sU g;refine (bP ?_:);rw [hF];simp [g,pickB]
 have c5:¬ k=5:=sU c;rw [aj (by omega)] at hF;refine br ?_ ?_<;>intro c
 ·have c:k=2:=sU c;rw [ap c] at hF;refine (bP ?_:);rw [hF];cases decide (0<=n)<;>rfl
 have c2:¬ k=2:=sU c;rw [aj c2] at hF;refine br ?_ ?_<;>intro c
 ·have c:k=3:=sU c;rw [ap (.inl c)] at hF;refine br (fun _=>?_) (fun g=>absurd g (by simp [c]));refine (bP ?_:);rw [hF];cases decide (n=0)<;>rfl
 have c3:¬ k=3:=sU c;refine br ?_ ?_<;>intro c
 ·have c:k=4:=sU c;rw [ap (.inr c)] at hF;refine (bP ?_:);rw [hF];cases decide (n=0)<;>rfl
 have c4:¬ k=4:=sU c;rw [aj (by omega)] at hF;subst hF;exact (rfl:_=_)
abbrev prSt (l:List Stp) (e:Nat):St:=⟨[aM 8 3 (aF l),au 9 ((aF l).length),au 10 e],[],[]⟩
theorem vf (l:List Stp) (hs:∀ s∈l,s.s.size<=4611686018427387904):EvP prog 166 [.sl 3 (aF l) none] (.v (.bool (lf l))):=by
 have cu:=ef l;have hF:lf l=(decide (l.length<=64) && l.all cF):=rfl;generalize lf l=F at hF ⊢;refine eG 18 [.tmp 2] func166 rfl ntmps166 rfl fun _ _ _ _=>?_;refine br ?_ ?_<;>intro g
 ·have:¬ l.length<=64:=by simp [cu] at g;omega
  rw [decide_eq_false this,Bool.false_and] at hF;subst hF;exact (rfl:_=_)
 have fb:l.length<=64:=by simp [cu] at g;omega
 rw [decide_eq_true fb,Bool.true_and] at hF;refine lI (fun j st=>∃ e:Nat,st=prSt l e/\e<=l.length/\F=(l.drop e).all cF/\j=l.length - e) ⟨0,rfl,by omega,hF,rfl⟩ (bz wB) ?_;rintro j st ⟨e,rfl,he,aP,rfl⟩;refine br ?_ ?_<;>intro hL
 ·have aq:e < l.length:=sV cu hL;obtain ⟨x,hx⟩:=gX aq;have h1:=Dp x (hs x (mG hx));rw [Re hx] at aP;obtain ⟨xk,xn,xs⟩:=x;refine iX (eu hx) ?_;refine cP abG h1 ?_;refine br ?_ ?_<;>intro g
  ·have g:cF ⟨xk,xn,xs⟩=false:=sU g;rw [g,Bool.false_and] at aP;subst aP;exact (rfl:_=_)
  ·have g:cF ⟨xk,xn,xs⟩=true:=sU g;rw [g,Bool.true_and] at aP;exact rE ⟨_,by omega,e + 1,rfl,by omega,aP,rfl⟩ (bz (cJ (aG aq (by omega))))
 ·have hge:l.length<=e:=sV cu hL;rw [List.drop_eq_nil_of_le hge] at aP;subst aP;exact (rfl:_=_)
def cz (K:List Nat) (e:Ed):Nat:=K.getD e.to.toNat 0
def leastR (K:List Nat):List Ed->Nat->Nat
 | [],m=>m + 1
 | e :: r,m=>if cz K e=0 then 0 else leastR K r (max m (cz K e))
def cw (K:List Nat):List Ed->Nat->Nat
 | [],b=>if b=0 then 0 else b + 1
 | e :: r,b=>if e.bare=true then 1 else if 0 < cz K e/\(b=0∨cz K e < b) then cw K r (cz K e) else cw K r b
def bF (n:Nd) (K:List Nat):Nat:=if n.ag=7 then leastR K n.ai 0 else if n.ag=8 then cw K n.ai 0 else 1
def depN (ND:List Nd):Nat->List Nat
 | 0=>List.replicate ND.length 0
 | d + 1=>ND.map fun n=>bF n (depN ND d)
theorem depN_len (ND:List Nd):∀ d,(depN ND d).length=ND.length
 | 0=>by simp [depN]
 | d + 1=>by simp [depN]
theorem depN_get (ND:List Nd) (d j:Nat):(depN ND (d + 1)).getD j 0=match ND[j]? with | none=>0 | some n=>bF n (depN ND d):=by grind [depN]
def Nt (d:Nat) (A B:List Nat):Prop:=∀ j:Nat,(0 < A.getD j 0->B.getD j 0=A.getD j 0/\A.getD j 0<=d)/\(A.getD j 0=0->B.getD j 0=0∨B.getD j 0=d + 1)
theorem Dq {d:Nat} {A B:List Nat} (h:Nt d A B) (j:Nat):B.getD j 0<=d + 1:=by
 obtain ⟨h1,h2⟩:=h j;omega
theorem jS {K:List Nat}:∀ {es:List Ed} {m:Nat},leastR K es m=0↔∃ e∈es,cz K e=0
 | [],m=>by simp [leastR]
 | e :: r,m=>by
  rw [leastR];by_cases h:cz K e=0
  ·grind
  ·rw [aj h,jS]
   grind
theorem vg {d:Nat} {A B:List Nat} (hR:Nt d A B):∀ {es:List Ed} {m:Nat},0 < leastR A es m->leastR B es m=leastR A es m
 | [],m,_=>rfl
 | e :: r,m,h=>by
  rw [leastR] at h ⊢;rw [leastR];by_cases h0:cz A e=0
  ·rw [ap h0] at h;omega
  rw [aj h0] at h ⊢;have h1:cz B e=cz A e:=((hR e.to.toNat).1 (by unfold cz at h0;omega)).1;rw [h1,aj h0];exact vg hR h
theorem y4 {d:Nat} {A B:List Nat} (hR:Nt d A B):∀ {es:List Ed} {m:Nat},m<=d + 1->(m=d + 1∨∃ e∈es,cz A e=0)->leastR B es m=0∨leastR B es m=d + 2
 | [],m,_,h=>by grind [leastR]
 | e :: r,m,hm,h=>by
  rw [leastR];by_cases h0:cz B e=0
  ·rw [ap h0];exact .inl rfl
  rw [aj h0];have fb:cz B e<=d + 1:=Dq hR _;refine y4 hR (by omega) ?_;rcases h with h | ⟨x,hx,h⟩
  ·left;omega
  ·rcases dN hx with rfl | hx
   ·left;have:=(hR x.to.toNat).2 h;unfold cz at h0 fb ⊢;omega
   ·exact .inr ⟨x,hx,h⟩
theorem nM {d:Nat} {A B:List Nat} (hR:Nt d A B):∀ {es:List Ed} {a b:Nat},(0 < a->b=a/\a<=d)->(a=0->b=0∨b=d + 1) ->
  (0 < cw A es a->cw B es b=cw A es a)/\(cw A es a=0->cw B es b=0∨cw B es b=d + 2)
 | [],a,b,h1,h2=>by grind [cw]
 | e :: r,a,b,h1,h2=>by
  rw [cw,cw];by_cases hb:e.bare=true
  ·grind
  rw [aj hb,aj hb];obtain ⟨g1,g2⟩:=hR e.to.toNat;change (0 < cz A e->cz B e=cz A e/\cz A e<=d) at g1;change (cz A e=0->cz B e=0∨cz B e=d + 1) at g2;by_cases c1:0 < cz A e/\(a=0∨cz A e < a)<;>by_cases c2:0 < cz B e/\(b=0∨cz B e < b)
  ·rw [ap c1,ap c2];exact nM hR (by omega) (by omega)
  ·omega
  ·rw [aj c1,ap c2];exact nM hR (by omega) (by omega)
  ·rw [aj c1,aj c2];exact nM hR (by omega) (by omega)
theorem JC {d:Nat} {A B:List Nat} (hR:Nt d A B) (n:Nd):(0 < bF n A->bF n B=bF n A)/\(bF n A=0->bF n B=0∨bF n B=d + 2):=by
 unfold bF;by_cases h7:n.ag=7
 ·rw [ap h7,ap h7];exact ⟨vg hR,fun h=>y4 hR (by omega) (.inr (jS.1 h))⟩
 grind [nM]
theorem Gl (N:Nat) (e:Ed):cz (List.replicate N 0) e=0:=by grind [cz]
theorem vi (N:Nat):∀ es:List Ed,cw (List.replicate N 0) es 0=0∨cw (List.replicate N 0) es 0=1
 | []=>.inl rfl
 | e :: r=>by
  rw [cw,Gl];by_cases hb:e.bare=true
  ·rw [ap hb];exact .inr rfl
  ·rw [aj hb,aj (by omega)];exact vi N r
theorem Gm (N:Nat) (n:Nd):bF n (List.replicate N 0)=0∨bF n (List.replicate N 0)=1:=by
 unfold bF;by_cases h7:n.ag=7
 ·rw [ap h7]
  cases h:n.ai with
  | nil=>right;rfl
  | cons e r=>left;rw [leastR,Gl,ap rfl]
 grind [vi]
theorem Bz (ND:List Nd) (j:Nat):(depN ND 0).getD j 0=0:=by grind [depN]
theorem o6 (ND:List Nd):∀ d,Nt d (depN ND d) (depN ND (d + 1))
 | 0=>fun j=>by
  refine ⟨fun h=>by rw [Bz] at h;omega,fun _=>?_⟩;rw [depN_get]
  cases ND[j]? with
  | none=>exact .inl rfl
  | some n=>exact Gm _ n
 | d + 1=>fun j=>by
  have ih:=o6 ND d
  grind [depN_get,JC,Dq]
theorem LB (ND:List Nd):∀ d j,(depN ND d).getD j 0<=d
 | 0,j=>by rw [Bz];omega
 | d + 1,j=>Dq (o6 ND d) j
def posL (K:List Nat):List Bool:=K.map fun k=>decide (0 < k)
theorem jT (K:List Nat) (j:Nat):(posL K).getD j false=decide (0 < K.getD j 0):=by grind [posL]
theorem posL_len (K:List Nat):(posL K).length=K.length:=by simp [posL]
theorem o7 {A B:List Nat} (hl:A.length=B.length) (h:∀ j,A.getD j 0=B.getD j 0):A=B:=by
 refine List.ext_getElem hl fun j h1 h2=>?_;have:=h j
 grind
theorem depN_posle (ND:List Nd) (d:Nat):A0 (posL (depN ND d)) (posL (depN ND (d + 1))):=fun j h=>by
 rw [jT] at h ⊢;have h:=of_decide_eq_true h;have:=((o6 ND d) j).1 h;exact decide_eq_true (by omega)
theorem depN_same {ND:List Nd} {d:Nat} (h:posL (depN ND d)=posL (depN ND (d + 1))):depN ND (d + 1)=depN ND d:=by
 refine o7 (by rw [depN_len,depN_len]) fun j=>?_;obtain ⟨h1,h2⟩:=(o6 ND d) j;rcases Nat.eq_zero_or_pos ((depN ND d).getD j 0) with h3 | h3
 ·have h4:=jT (depN ND d) j
  grind [jT,depN]
 ·exact (h1 h3).1
theorem depN_step (ND:List Nd):∀ d,depN ND (d + 1)=depN ND d∨d<=kV (posL (depN ND d))
 | 0=>.inr (Nat.zero_le _)
 | d + 1=>by
  rcases depN_step ND d with h | h
  ·grind [bF,depN]
  ·rcases (leB_eq (by rw [posL_len,posL_len,depN_len,depN_len]) (depN_posle ND d)).1 with h2 | h2
   ·grind [depN_same,bF,depN]
   ·exact .inr (by omega)
theorem depN_fix {ND:List Nd} {d:Nat} (h:depN ND (d + 1)=depN ND d):∀ k,depN ND (d + k)=depN ND d
 | 0=>rfl
 | k + 1=>by
  show (ND.map fun n=>bF n (depN ND (d + k)))=_;rw [depN_fix h k];exact h
theorem depN_end (ND:List Nd):depN ND (ND.length + 1)=depN ND ND.length:=by grind [depN_step,leB_eq,posL_len,depN_len,depN_posle,depN_same,cntB_le,posL]
theorem Uw {ND:List Nd} {d:Nat} (h:depN ND (d + 1)≠depN ND d):d < ND.length:=by
 rcases Nat.lt_or_ge d ND.length with h1 | h1
 ·exact h1
 ·obtain ⟨k,rfl⟩:∃ k,d=ND.length + k:=⟨d - ND.length,by omega⟩;exfalso;have h2:=depN_fix (depN_end ND) k;have h3:=depN_fix (depN_end ND) (k + 1)
  grind
theorem Rf {ND:List Nd} {d:Nat} (h:depN ND (d + 1)=depN ND d):depN ND (d + 1)=depN ND ND.length:=by
 rcases Nat.lt_or_ge d ND.length with h1 | h1
 ·obtain ⟨k,hk⟩:∃ k,ND.length=d + k:=⟨ND.length - d,by omega⟩;rw [hk,depN_fix h k,h]
 ·obtain ⟨k,hk⟩:∃ k,d + 1=ND.length + k:=⟨d + 1 - ND.length,by omega⟩;rw [hk,depN_fix (depN_end ND) k]
def tg (K:List Bool) (e:Ed):Bool:=e.bare || K.getD e.to.toNat false
def LD (n:Nd) (K:List Bool):Bool:=if n.ag < 7 then true else if n.ag=7 then n.ai.all (tg K) else n.ai.any (tg K)
theorem lg {K:List Nat}:∀ {es:List Ed} {b:Nat},0 < cw K es b↔(0 < b∨es.any (tg (posL K))=true)
 | [],b=>by grind [cw]
 | e :: r,b=>by
  have hg:(posL K).getD e.to.toNat false=decide (0 < cz K e):=jT K _;rw [cw,List.any_cons];by_cases hb:e.bare=true
  ·rw [ap hb];simp [tg,hb]
  ·rw [aj hb]
   have zZ:tg (posL K) e=decide (0 < cz K e):=by
    unfold tg;rw [hg];simp [hb]
   rw [zZ,Bool.or_eq_true,decide_eq_true_eq];split
   ·rename_i h1;rw [lg];omega
   ·rename_i h1;rw [lg]
    grind
theorem JD {n:Nd} {K:List Nat} (h8:n.ag<=8) (hb:∀ e∈n.ai,e.bare=true->n.ag=8):(0 < bF n K)↔LD n (posL K)=true:=by
 unfold bF LD
 grind [leastR,jS,cz,posL,jT,tg,lg]
theorem Rg {ND:List Nd} (hN:∀ n∈ND,n.ag<=8/\∀ e∈n.ai,e.bare=true->n.ag=8) (d:Nat) {i:Nat} {n:Nd} (h:ND[i]? = some n) :
  (depN ND (d + 1)).getD i 0=(if LD n (posL (depN ND d))=true/\(depN ND d).getD i 0=0 then d + 1 else (depN ND d).getD i 0) /\
  (posL (depN ND (d + 1))).getD i false=LD n (posL (depN ND d)):=by
 obtain ⟨h8,hb⟩:=hN n (mG h);have hp:=JD (K:=depN ND d) h8 hb;have hg:(depN ND (d + 1)).getD i 0=bF n (depN ND d):=by rw [depN_get,h]
 obtain ⟨h1,h2⟩:=(o6 ND d) i;refine ⟨?_,?_⟩
 ·grind
 ·grind [jT]
def cN (l:List Nat):List DV:=l.map fun (z:Nat)=>DV.v (.int .i64 (z:Int))
theorem y5 (l:List Nat):(cN l).length=l.length:=by simp [cN]
theorem Ds {l:List Nat} {i z:Nat} (h:l[i]? = some z):(cN l)[i]? = some (DV.v (.int .i64 (z:Int))):=by simp [cN,h]
theorem Dt (l:List Nat) (i z:Nat):(cN l).set i (DV.v (.int .i64 (z:Int)))=cN (l.set i z):=by simp [cN,List.map_set]
theorem y6 (l:List Nat):(dInts l).flatten=cN l:=by
 induction l with
 | nil=>rfl
 | cons b r ih=>simp only [dInts,cN,List.map_cons,List.flatten_cons] at ih ⊢;rw [ih];all_goals rfl
theorem Nu (n:Nat):(List.replicate n (vL [Value.int .i64 0])).flatten=cN (List.replicate n 0):=by
 induction n with
 | zero=>rfl
 | succ n ih=>simp only [List.replicate_succ,List.flatten_cons,ih];rfl
theorem cp {n m:Nat} {tk:List TkE} {l:List DV} {r:List Nat} (h:l=cN r):WeL n m tk l (cN r):=by
 subst h;refine ya _ fun x hx=>?_;obtain ⟨z,_,rfl⟩:=List.mem_map.1 hx;exact ⟨_,rfl⟩
theorem Rh {bx:List (List DV)} {N n0 m0 n i:Nat} {r:List Nat} (hr:r.length=n) (hN:N<=i) (hb:bx[i]? = some (cN r)):Cc bx N n0 m0 (.sl 1 (dInts r) none) (.ms i 1 0 n n):=by
 simp only [Cc];refine Or.inr (Or.inr (Or.inl ⟨i,0,n,_,by rw [aU,hr],hN,hb,?_,?_,?_⟩))
 ·grind [y6,y5,aU]
 ·grind [dInts]
 ·intro x hx;rw [y6] at hx;obtain ⟨_,_,rfl⟩:=List.mem_map.1 hx;exact .inl ⟨_,rfl⟩
abbrev adP (PC:List DV) (ND:List Nd) (q e:Nat):St:=
 ⟨[eX 0 PC,(3,⟨[],.sl 7 (bG (ND.take e)) (some 0)⟩),au 8 ND.length,au 9 e],[],[⟨q,91,7,none⟩]⟩
theorem uy {l:List Nd} {e:Nat} {n:Nd} (h:l[e]? = some n):bG (l.take e) ++ [j5 n]=bG (l.take (e + 1)):=by
 rw [List.take_add_one,h];simp [bG]
theorem sG {S:Sch} {ND:List Nd} {PC:List DV} (hP:dX S ND PC) :
  EvP prog 233 [.pt PC 0] (.sl 7 (bG ND) none):=by
 have h1:=hP.len;have h2:=hP.ah;have fI:=hP.nl;refine eG 24 [.tmp 2] func233 rfl ntmps233 rfl fun _ _ _ _=>?_;refine cP Pe h1 ?_;refine lJ (fun e=>adP PC ND e e) ND.length (eP ⟨0,91,7,none⟩ rfl ⟨_,rfl⟩ rfl wA rfl rfl lj) ?_;intro e he;refine br ?_ ?_<;>intro hL
 ·have aq:e < ND.length:=by have:=hL;simp at this;exact this
  obtain ⟨n,hn⟩:=gX aq;have dM:(bG (ND.take e)).length=e:=by rw [eT,zLenT];omega
  refine cP oE (h2 e n hn) ?_;refine ⟨dM,⟨by rw [dM];simp [maxLen];omega,by rw [dM];simp;omega⟩,?_⟩;exact rE ⟨_,by omega,e + 1,rfl,by omega,rfl⟩ (bz (wB2 (aG aq (by omega)) (uy hn)))
 ·have hge:e=ND.length:=by have:=hL;simp at this;omega
  subst hge;rw [List.take_length];exact ⟨_,ax,rfl⟩
abbrev W3 (K:List Nat) (es:List Ed) (m e:Nat):St:=
 ⟨[aM 1 1 (dInts K),au 5 m,aM 16 10 (dT es),au 17 ((dT es).length),au 18 e],[],[]⟩
abbrev Gn (K:List Nat) (es:List Ed) (m e:Nat):St:=
 ⟨[aM 1 1 (dInts K),au 8 m,aM 41 10 (dT es),au 42 ((dT es).length),au 43 e],[],[]⟩
theorem Du {L:Nat} {n:Nd} (K:List Nat) (hK:K.length<=1099511627776) (hn:cf L K.length n) (hz:∀ z∈K,z<=1099511627776) (kM:n.ai.length<=1099511627776) :
  EvP prog 234 [.agg (j5 n),.sl 1 (dInts K) none] (.v (.int .i64 (bF n K:Nat))):=by
 have bR:=hn.fB;have iZ:=hn.bare;obtain ⟨ag,aO,lo,hi,most,af,es⟩:=n;simp only at bR iZ kM;refine eG 80 [.tmp 4] func234 rfl ntmps234 rfl fun _ _ _ _=>?_;refine br ?_ ?_<;>intro h7
 ·have h7:ag=7:=sU h7;have hF:bF ⟨ag,aO,lo,hi,most,af,es⟩ K=leastR K es 0:=by simp [bF,h7]
  rw [hF];refine lI (fun j st=>∃ e m:Nat,st=W3 K es m e/\e<=es.length/\m<=1099511627776/\leastR K es 0=leastR K (es.drop e) m/\j=es.length - e) ⟨0,0,rfl,by omega,by omega,rfl,rfl⟩ (bz wB) ?_;rintro j st ⟨e,m,rfl,he,hm,aP,rfl⟩;refine br ?_ ?_<;>intro hL
  ·have aq:e < es.length:=by have:=hL;simp [bw] at this;exact this
   obtain ⟨x,hx⟩:=gX aq;rw [drop_cons hx,leastR] at aP;have OV:=bR x (mG hx);have ra:x.bare=false:=by grind
   obtain ⟨k,hk,gl⟩:=OV.to1 ra;obtain ⟨z,hz1⟩:∃ z,K[k]? = some z:=⟨_,gE gl⟩;have hzl:=hz z (mG hz1);have W4:cz K x=z:=by simp [cz,hk,bN,hz1]
   have hg:(dInts K)[x.to.toNat]? = some [DV.v (.int .i64 (z:Int))]:=by rw [hk];exact aR hz1
   rw [W4] at aP;refine iX (aS hx) ?_;refine ⟨_,⟨by omega,hg⟩,?_⟩;refine br ?_ ?_<;>intro g
   ·have g:z=0:=sU g;rw [aP,ap g];exact (rfl:_=_)
   ·have g:¬ z=0:=sU g;rw [aj g] at aP;refine ⟨_,⟨by omega,hg⟩,?_⟩;exact ⟨W3 K es (max m z) (e + 1),(bz (wB2 (show max (m:Int) z=((max m z:Nat):Int) by omega) (aG aq (by omega)))),es.length - (e + 1),by omega,e + 1,_,rfl,by omega,by omega,aP,rfl⟩
  ·have hge:e=es.length:=by have:=hL;simp [bw] at this;omega
   subst hge;rw [List.drop_length,leastR] at aP;have hw:IntKind.i64.wrap ((m:Int) + 1)=((m + 1:Nat):Int):=by rw [wrap64 (by omega) (by omega)];omega
   rw [aP];refine (qM ?_:);exact hw
 have h7:¬ ag=7:=sU h7;refine br ?_ ?_<;>intro h8
 ·have h8:ag=8:=sU h8;have hF:bF ⟨ag,aO,lo,hi,most,af,es⟩ K=cw K es 0:=by simp [bF,h8]
  rw [hF];refine lI (fun j st=>∃ e m:Nat,st=Gn K es m e/\e<=es.length/\m<=1099511627776/\cw K es 0=cw K (es.drop e) m/\j=es.length - e) ⟨0,0,rfl,by omega,by omega,rfl,rfl⟩ (bz wB) ?_;rintro j st ⟨e,m,rfl,he,hm,aP,rfl⟩;refine br ?_ ?_<;>intro hL
  ·have aq:e < es.length:=by have:=hL;simp [bw] at this;exact this
   obtain ⟨x,hx⟩:=gX aq;rw [drop_cons hx,cw] at aP;have OV:=bR x (mG hx);refine iX (aS hx) ?_;refine br ?_ ?_<;>intro hb
   ·have hb:x.bare=true:=hb;rw [aP,ap hb];exact (rfl:_=_)
   have hb:x.bare=false:=hb;rw [aj (by rw [hb];decide)] at aP;obtain ⟨k,hk,gl⟩:=OV.to1 hb;obtain ⟨z,hz1⟩:∃ z,K[k]? = some z:=⟨_,gE gl⟩;have hzl:=hz z (mG hz1);have W4:cz K x=z:=by simp [cz,hk,bN,hz1]
   have hg:(dInts K)[x.to.toNat]? = some [DV.v (.int .i64 (z:Int))]:=by rw [hk];exact aR hz1
   rw [W4] at aP;refine ⟨_,⟨by omega,hg⟩,?_⟩;have kb:¬ (0 < z/\(m=0∨z < m))->cw K es 0=cw K (es.drop (e + 1)) m:=fun h=>by rw [aP,aj h]
   have take:(0 < z/\(m=0∨z < m))->cw K es 0=cw K (es.drop (e + 1)) z:=fun h=>by rw [aP,ap h]
   refine br ?_ ?_<;>intro g1
   ·have g1:0 < z:=by simpa [lastG] using g1
    refine br ?_ ?_<;>intro g2
    ·have g2:¬ m=0:=sU g2;refine ⟨_,⟨by omega,hg⟩,?_⟩;refine br ?_ ?_<;>intro g3
     ·have g3:z < m:=by simpa [pickB,pickD,lastG] using g3
      refine ⟨_,⟨by omega,hg⟩,?_⟩;exact ⟨Gn K es z (e + 1),(bz (cJ (aG aq (by omega)))),es.length - (e + 1),by omega,e + 1,_,rfl,by omega,by omega,take ⟨g1,.inr g3⟩,rfl⟩
     ·have g3:¬ z < m:=by simpa [pickB,pickD,lastG] using g3
      exact ⟨Gn K es m (e + 1),(bz (cJ (aG aq (by omega)))),es.length - (e + 1),by omega,e + 1,_,rfl,by omega,by omega,kb (by omega),rfl⟩
    ·have g2:m=0:=sU g2;refine ⟨_,⟨by omega,hg⟩,?_⟩;exact ⟨Gn K es z (e + 1),(bz (cJ (aG aq (by omega)))),es.length - (e + 1),by omega,e + 1,_,rfl,by omega,by omega,take ⟨g1,.inl g2⟩,rfl⟩
   ·have g1:¬ 0 < z:=by simpa [lastG] using g1
    exact ⟨Gn K es m (e + 1),(bz (cJ (aG aq (by omega)))),es.length - (e + 1),by omega,e + 1,_,rfl,by omega,by omega,kb (by omega),rfl⟩
  ·have hge:e=es.length:=by have:=hL;simp [bw] at this;omega
   subst hge;rw [List.drop_length,cw] at aP;refine br ?_ ?_<;>intro g
   ·have g:m=0:=sU g;rw [aP,ap g];exact (rfl:_=_)
   ·have g:¬ m=0:=sU g;rw [aj g] at aP;have hw:IntKind.i64.wrap ((m:Int) + 1)=((m + 1:Nat):Int):=by rw [wrap64 (by omega) (by omega)];omega
    rw [aP];refine (qM ?_:);exact hw
 ·have h8:¬ ag=8:=sU h8;have hF:bF ⟨ag,aO,lo,hi,most,af,es⟩ K=1:=by simp [bF,h7,h8]
  rw [hF];exact (rfl:_=_)
end Go.Proofs.YtgjagnmeonoehaaGreat
namespace Go.Proofs.YtgjagnmeonoehaaGreat
namespace Dv
open Go Go.RowKit
section
variable {P:Program} {ops:Array Oper} {C:World->Prop} {Q:Act->World->Prop} {W:Nat->Bool} {x:Nat}
end
section
variable {X:Ctx} {D:Dw} {x:Nat} {tail:List Nat} {π:Nat->Nat}
theorem Ri {s S:St} (h:ei s S:=by refine ⟨rfl,rfl,?_⟩;repeat' (first | exact trivial | refine ⟨rfl,?_⟩)):s=S∨ei s S:=.inr h
end
end Dv
end Go.Proofs.YtgjagnmeonoehaaGreat
set_option maxRecDepth 100000
namespace Go.Proofs.YtgjagnmeonoehaaGreat
open Go Go.RowKit Dv Go.Proofs.Tryz
abbrev wL (lv:List Wd) (f:Nat->Nat->Bool) (ND:List Nd) (z:Int):List DV:=[.sl 2 (bT lv) none,.sl 1 (dV (eI lv.length f)) none,.sl 7 (bG ND) none,.v (.int .i64 z)]
theorem JE (d:Nd) (e:Ed) (s:Stp):EvP prog 232 [.agg (j5 d),.agg (C4 e),.agg (eU s)] (.v (.bool (Jz d s e))):=by
 obtain ⟨ag,aO,lo,hi,most,af,es⟩:=d;obtain ⟨en,eb,ea,et,rb,ew,ln,ti,ru,pS⟩:=e;obtain ⟨k,n,t⟩:=s
 have hF:Jz ⟨ag,aO,lo,hi,most,af,es⟩ ⟨k,n,t⟩ ⟨en,eb,ea,et,rb,ew,ln,ti,ru,pS⟩=if k=1 then decide (ag=7) && decide (en=t)
  else if k=5 then decide (ag=8) && decide (en=t) && !eb
  else if k=2 then decide (ag=5) && decide (n < most)
  else if k=3 then decide (ag=5) && decide (0 < most)
  else decide (ag=6):=rfl
 generalize Jz ⟨ag,aO,lo,hi,most,af,es⟩ ⟨k,n,t⟩ ⟨en,eb,ea,et,rb,ew,ln,ti,ru,pS⟩=F at hF ⊢;refine eG 63 [.tmp 6] func232 rfl ntmps232 rfl fun _ _ _ _=>?_;refine br ?_ ?_<;>intro c
 ·have c:k=1:=sU c;rw [ap c] at hF;refine (bP ?_:);rw [hF];simp only [av]
 have c1:¬ k=1:=sU c;rw [aj c1] at hF;refine br ?_ ?_<;>intro c
 ·have c:k=5:=sU c;rw [ap c] at hF;refine (bP ?_:);rw [hF];simp only [av]
 have c5:¬ k=5:=sU c;rw [aj c5] at hF;refine br ?_ ?_<;>intro c
 ·have c:k=2:=sU c;rw [ap c] at hF;refine (bP ?_:);rw [hF];simp only [av]
 have c2:¬ k=2:=sU c;rw [aj c2] at hF;refine br ?_ ?_<;>intro c
 ·have c:k=3:=sU c;rw [ap c] at hF;refine (bP ?_:);rw [hF];simp only [av]
 have c3:¬ k=3:=sU c;rw [aj c3] at hF;refine (bP ?_:);rw [hF]
def estW (ND:List Nd) (f:Nat->Nat->Bool) (n:Nat) (s:Stp) (i a:Nat):Option (Nat × Nat):=match ND[i]? with
 | none=>none
 | some d=>match ik d s with
  | none=>none
  | some k=>match d.ai[k]? with
   | none=>none
   | some e=>some (e.to.toNat,lG f n a e.label.toNat)
theorem walkV_drop (ND:List Nd) (f:Nat->Nat->Bool) (n:Nat) (p:List Stp) (e i a:Nat):walkV ND f n (p.drop e) i a=match p[e]? with
  | none=>some (i,a)
  | some s=>match estW ND f n s i a with
   | none=>none
   | some (j,b)=>walkV ND f n (p.drop (e + 1)) j b:=by
 cases hs:p[e]? with
 | none=>rw [List.drop_eq_nil_of_le (List.getElem?_eq_none_iff.1 hs)];all_goals rfl
 | some s=>
  obtain ⟨h1,h2⟩:=List.getElem?_eq_some_iff.1 hs;rw [List.drop_eq_getElem_cons h1,h2,walkV]
  unfold estW;cases ND[i]? with
  | none=>rfl
  | some d=>
   simp only
   cases ik d s with
   | none=>rfl
   | some k=>
    simp only
    cases d.ai[k]? with
    | none=>rfl
    | some e=>rfl
theorem Ux {f:Nat->Nat->Bool} {L:Nat} (hL:dA f L) {ND:List Nd} (aZ:∀ n∈ND,cf L ND.length n) {s:Stp} {i a j b:Nat} (hi:i < ND.length) (ha:a < L) (h:estW ND f L s i a=some (j,b)):j < ND.length/\b < L:=by
 have hw:=walkV_drop ND f L [s] 0 i a;simp only [List.getElem?_cons_zero,h] at hw;exact yY hL aZ [s] i a hi ha hw
def adQ (o:Option (Nat × Nat)):DV:=match o with
 | some (j,b)=>.tup [.agg [.v (.int .i64 (j:Nat)),.v (.int .i64 (b:Nat))],.v (.bool true)]
 | none=>.tup [.agg [.v (.int .i64 0),.v (.int .i64 0)],.v (.bool false)]
abbrev adR (PC:List DV) (i a:Nat) (s:Stp) (d:Nd) (e:Nat):St:=
 ⟨[eX 0 PC,aE 4 0,aE 5 1,aE 6 2,aE 8 3,aM 20 10 (dT d.ai),au 21 ((dT d.ai).length),au 22 e],
  [[.v (.int .i64 i),.v (.int .i64 a)],eU s,[.v (.int .i64 0),.v (.int .i64 0)],j5 d],[]⟩
theorem JF {S:Sch} {ND:List Nd} {PC:List DV} (hP:dX S ND PC) (s:Stp) (hr:cF s=true) (i a:Nat) (hi:i < ND.length) (ha:a < S.ae.length) :
  EvP prog 167 [.pt PC 0,.agg [.v (.int .i64 i),.v (.int .i64 a)],.agg (eU s)] (adQ (estW ND (aH S) S.ae.length s i a)):=by
 obtain ⟨LC,ir,BA⟩:=hP.Np;obtain ⟨d,hd⟩:∃ d,ND[i]? = some d:=⟨_,gE hi⟩;have hN:=hP.ok d (mG hd);have cS:=hP.ah i d hd
 have kM:d.ai.length<=1099511627776:=by
  have:=kC (S:=S) (n:=d) (by rw [<- hP.zR];exact mG hd) hP.wt;exact this.2
 have hjn:=fun b hb=>BA.join a b ha hb
 have hW:estW ND (aH S) S.ae.length s i a=match bM (edgeP d s) d.ai.length with
  | none=>none
  | some k=>match d.ai[k]? with
   | none=>none
   | some e=>some (e.to.toNat,lG (aH S) S.ae.length a e.label.toNat):=by
  unfold estW;simp only [hd,ik,ap hr]
 have hPe:∀ (e:Nat) x,d.ai[e]? = some x->edgeP d s e=Jz d s x:=fun e x h=>by
  rw [LA hN hr (mG h)];unfold edgeP;rw [h]
 have Cn:=fun x=>JE d x s;have sb:=fun (e:Ed) (he:e∈d.ai) (h:iK d s e=true)=>And.intro ((eV hN he).1 (jC hN he h)) (eV hN he).2.1;have OS:=fun x hx=>LA hN hr (e:=x) hx;generalize estW ND (aH S) S.ae.length s i a=R at hW ⊢;generalize edgeP d s=pE at hW hPe;generalize lG (aH S) S.ae.length a=jn at hW hjn;obtain ⟨ag,aO,lo,iw,most,af,es⟩:=d;obtain ⟨k,n,t⟩:=s;have cu:=bw es;simp only at hW hPe kM;refine eG 42 [.cell 6 272,.tmp 7] func167 rfl ntmps167 rfl fun _ _ _ _=>?_;refine cP oE cS ?_;refine lI (fun j st=>∃ e:Nat,st=adR PC i a ⟨k,n,t⟩ ⟨ag,aO,lo,iw,most,af,es⟩ e/\e<=es.length/\(∀ c,c < e->pE c=false)/\j=es.length - e) ⟨0,rfl,by omega,fun _ h=>by omega,rfl⟩ (bz wB) ?_;rintro j st ⟨e,rfl,he,gm,rfl⟩;refine br ?_ ?_<;>intro hL
 ·have aq:e < es.length:=sV cu hL;obtain ⟨x,hx⟩:=gX aq;have hPx:=hPe e x hx;have Ze:=Cn x;have sH:=mG hx;have iP:=sb x sH;have Zf:=OS x sH
  cases hv:Jz ⟨ag,aO,lo,iw,most,af,es⟩ ⟨k,n,t⟩ x with
  | true=>
   rw [hv] at hPx Ze Zf;obtain ⟨⟨h1,_⟩,h2,h3⟩:=iP Zf.symm;rw [bU aq hPx gm] at hW;simp only [hx] at hW;clear sb OS iP Zf Cn;obtain ⟨en,eb,ea,et,rb,ew,ln,ti,ru,pS⟩:=x;simp only at h1 h2 h3;obtain ⟨lb,rfl⟩:∃ n:Nat,rb=n:=⟨_,h2⟩;obtain ⟨tn,rfl⟩:∃ n:Nat,et=n:=⟨_,h1⟩;simp only [eH] at h3 hW;have hj:=hjn lb h3;subst hW;refine iX (aS hx) ?_;refine cP V5 Ze ?_;refine dS ?_;refine cD tJ ir ?_;refine cD qu hj ?_;exact ⟨_,ax,rfl⟩
  | false=>
   rw [hv] at hPx Ze;obtain ⟨en,eb,ea,et,rb,ew,ln,ti,ru,pS⟩:=x;refine iX (aS hx) ?_;refine cP V5 Ze ?_
   exact rE ⟨_,by omega,e + 1,rfl,by omega,fun c hc=>by
    rcases jJ hc with h | h
    ·exact gm c h
    ·rw [h];exact hPx,rfl⟩ (bZ 4 (jM (aG aq (by omega))) (cJ (aG aq (by omega))))
 ·have hge:e=es.length:=sW cu hL;subst hge;rw [cK gm] at hW;simp only at hW;subst hW;exact ⟨_,ax,rfl⟩
def adS (o:Option (Nat × Nat)):DV:=match o with
 | some (j,b)=>.tup [.v (.int .i64 (j:Nat)),.v (.int .i64 (b:Nat)),.v (.bool true)]
 | none=>.tup [.v (.int .i64 (-1)),.v (.int .i64 (-1)),.v (.bool false)]
abbrev adT (PC:List DV) (p:List Stp) (i a e:Nat):St:=
 ⟨[eX 0 PC,aE 7 0,aM 18 3 (aF p),au 19 ((aF p).length),au 20 e],[[.v (.int .i64 i),.v (.int .i64 a)]],[]⟩
theorem nN {S:Sch} {ND:List Nd} {PC:List DV} (hP:dX S ND PC) (p:List Stp) (hp:p.length<=1099511627776) (hs:∀ s∈p,s.s.size<=4611686018427387904) (rt:Nat) (mQ:dw S=rt) (dK:rt < ND.length) :
  EvP prog 87 [.pt PC 0,.sl 3 (aF p) none] (adS (walkV ND (aH S) S.ae.length p rt (dC (aH S) S.ae.length))):=by
 obtain ⟨LC,ir,BA⟩:=hP.Np;have eo:=hP.root;rw [mQ] at eo;have iq:=BA.bot;have hbl:=lH BA.ok;have aW:=fun s hr i a hi ha=>JF hP s hr i a hi ha;have hwd:=walkV_drop ND (aH S) S.ae.length p;have aZ:=fun {s i a j b}=>@Ux _ _ BA.ok _ hP.ok s i a j b;have cu:=ef p;have SO:∀ s i a,cF s=false->estW ND (aH S) S.ae.length s i a=none:=fun s i a h=>by grind [estW,ik]
 generalize hR:walkV ND (aH S) S.ae.length p rt (dC (aH S) S.ae.length)=R;have hR0:walkV ND (aH S) S.ae.length (p.drop 0) rt (dC (aH S) S.ae.length)=R:=by rw [List.drop_zero];exact hR
 clear hR;generalize dC (aH S) S.ae.length=bt at iq hbl hR0;refine eG 42 [.tmp 4,.tmp 5,.tmp 6] func87 rfl ntmps87 rfl fun _ _ _ _=>?_;refine cP Mt eo ?_;refine cP tJ ir ?_;refine cP TC iq ?_;refine lI (fun j st=>∃ e i a:Nat,st=adT PC p i a e/\e<=p.length/\i < ND.length/\a < S.ae.length/\walkV ND (aH S) S.ae.length (p.drop e) i a=R/\j=p.length - e) ⟨0,rt,bt,rfl,by omega,dK,hbl,hR0,rfl⟩ (bz wB) ?_;rintro j st ⟨e,i,a,rfl,he,hi,ha,hw,rfl⟩;rw [hwd] at hw;refine br ?_ ?_<;>intro hL
 ·have aq:e < p.length:=sV cu hL;obtain ⟨x,hx⟩:=gX aq;have HA:=hs x (mG hx);have hr:=vf [x] (sU HA);rw [Jy] at hr;rw [hx] at hw;simp only at hw
  cases qh:cF x with
  | false=>
   rw [SO x i a qh] at hw;simp only at hw;subst hw;rw [qh] at hr;obtain ⟨xk,xn,xt⟩:=x;refine iX (eu hx) ?_;refine cP KM hr ?_;exact ⟨_,ax,rfl⟩
  | true=>
   have s8:=aW x qh i a hi ha;have hkx:=@aZ x i a;rw [qh] at hr;generalize estW ND (aH S) S.ae.length x i a=o at hw s8 hkx;obtain ⟨xk,xn,xt⟩:=x;refine iX (eu hx) ?_;refine cP KM hr ?_;refine cP abm s8 ?_
   cases o with
   | none=>
    simp only at hw;subst hw;exact ⟨_,ax,rfl⟩
   | some r=>
    obtain ⟨j,b⟩:=r;simp only at hw;obtain ⟨h1,h2⟩:=hkx hi ha rfl;exact rE ⟨_,by omega,e + 1,j,b,rfl,by omega,h1,h2,hw,rfl⟩ (bZ 1 (jM (aG aq (by omega))) (cJ (aG aq (by omega))))
 ·have hge:p.length<=e:=sV cu hL;rw [kE hge] at hw;simp only at hw;subst hw;refine dI ?_;exact ⟨_,ax,rfl⟩
abbrev W5 (n:Nd) (K:List Bool) (s v:Bool) (e:Nat):St:=
 ⟨[aM 1 1 (rr K),aE 2 0,qN 5 s,qN 6 v,au 7 e],[j5 n],[]⟩
theorem JG {L:Nat} {n:Nd} (K:List Bool) (hK:K.length<=1099511627776) (hn:cf L K.length n) (kM:n.ai.length<=1099511627776) :
  EvP prog 244 [.agg (j5 n),.sl 1 (rr K) none] (.v (.bool (LD n K))):=by
 have bR:=hn.fB;have iZ:=hn.bare;have Gi:=hn.k8;obtain ⟨ag,aO,lo,hi,most,af,es⟩:=n;simp only at bR iZ kM Gi;refine eG 50 [.tmp 4] func244 rfl ntmps244 rfl fun _ _ _ _=>?_;refine br ?_ ?_<;>intro h7
 ·have h7:ag < 7:=sU h7;refine (bP ?_:);simp [LD,h7]
 have h7:¬ ag < 7:=sU h7;refine aY (fun j st=>∃ e:Nat,st=W5 ⟨ag,aO,lo,hi,most,af,es⟩ K ((es.take e).any (tg K)) ((es.take e).all (tg K)) e/\e<=es.length/\j=es.length - e) es.length (W5 ⟨ag,aO,lo,hi,most,af,es⟩ K false true 0) (bz wB) ⟨0,by simp,by omega,by omega⟩ ?_;rintro j st ⟨e,rfl,he,rfl⟩;refine br ?_ ?_<;>intro hL
 ·have aq:e < es.length:=by have:=hL;simp [bw] at this;exact this
  obtain ⟨x,hx⟩:=gX aq;refine iX (aS hx) ?_;have hs:(es.take (e + 1)).any (tg K)=((es.take e).any (tg K) || tg K x):=by rw [List.take_add_one,hx];simp
  have hv:(es.take (e + 1)).all (tg K)=((es.take e).all (tg K) && tg K x):=by rw [List.take_add_one,hx];simp
  generalize (es.take e).any (tg K)=s at hs ⊢;generalize (es.take e).all (tg K)=v at hv ⊢;refine br ?_ ?_<;>intro hb
  ·have hb:x.bare=false:=sU hb;obtain ⟨k,hk,gl⟩:=(bR x (mG hx)).to1 hb;obtain ⟨b,lP⟩:∃ b,K[k]? = some b:=⟨_,gE gl⟩;have hg:(rr K)[(max x.to 0).toNat]? = some [DV.v (.bool b)]:=by rw [show (max x.to 0).toNat=k by omega];exact sq lP
   have hik:tg K x=b:=by unfold tg;rw [hb,hk];simp [bN,lP]
   rw [hik] at hs hv;refine iX (aS hx) ?_;refine ⟨_,⟨by omega,hg⟩,?_⟩;have e5:pickB s true b=(es.take (e + 1)).any (tg K):=by rw [hs,aw]
   have e6:pickB v b false=(es.take (e + 1)).all (tg K):=by rw [hv,av]
   exact rE ⟨_,by omega,e + 1,rfl,by omega,rfl⟩ (bz (H2 e5 e6 (aG aq (by omega))))
  ·have hb:x.bare=true:=sU hb;have hik:tg K x=true:=by unfold tg;rw [hb];all_goals rfl
   rw [hik] at hs hv;have e5:pickB s true true=(es.take (e + 1)).any (tg K):=by rw [hs,aw]
   have e6:pickB v true false=(es.take (e + 1)).all (tg K):=by rw [hv,av]
   exact rE ⟨_,by omega,e + 1,rfl,by omega,rfl⟩ (bz (H2 e5 e6 (aG aq (by omega))))
 ·have hge:e=es.length:=by have:=hL;simp [bw] at this;omega
  subst hge;rw [List.take_length];refine br ?_ ?_<;>intro g
  ·have g:ag=7:=sU g;refine (bP ?_:);simp [LD,g]
  ·have g:¬ ag=7:=sU g;refine (bP ?_:);simp [LD,g,h7]
theorem Uy {bx:List (List DV)} {N n0 m0 n i:Nat} {r:List Bool} (hr:r.length=n) (hN:N<=i) (hb:bx[i]? = some (cB r)):Cc bx N n0 m0 (.sl 1 (rr r) none) (.ms i 1 0 n n):=by
 simp only [Cc];refine Or.inr (Or.inr (Or.inl ⟨i,0,n,_,by rw [wu,hr],hN,hb,?_,?_,?_⟩))
 ·grind [sr,q6,wu]
 ·grind [rr]
 ·intro x hx;rw [sr] at hx;obtain ⟨_,_,rfl⟩:=List.mem_map.1 hx;exact .inl ⟨_,rfl⟩
theorem Rj (l:List Nat) (bx:List (List DV)) (N n m:Nat):CcL bx N n m (cN l) (cN l):=by
 induction l with
 | nil=>rfl
 | cons a r ih=>exact ⟨_,_,rfl,rfl,ih⟩
abbrev wG (a b:Nat) (A B:List (List DV)) (ND:List Nd) (z:Int):List DV:=[.sl a A none,.sl b B none,.sl 7 (bG ND) none,.v (.int .i64 z)]
abbrev Rk (W:List DV) (O:List Nat) (K:List Bool) (n d:Nat):St:=
 ⟨[aE 1 0,(3,⟨[],.ms 1 1 0 n n⟩),aM 4 1 (rr K),au 5 d],[W,cN O],[]⟩
abbrev Gp (W:List DV) (O:List Nat) (K:List Bool) (M:List Bool) (n d e:Nat):St:=
 ⟨[aE 1 0,(3,⟨[],.ms 1 1 0 n n⟩),aM 4 1 (rr K),au 5 d,(6,⟨[],.ms 2 1 0 n n⟩),au 7 e],[W,cN O,cB M],[]⟩
theorem Ag (a b:Nat) (A B:List (List DV)) {ND:List Nd} {L:Nat} (z:Int) (aZ:∀ n∈ND,cf L ND.length n) (fI:ND.length<=1099511627776) (bW:∀ n∈ND,n.ai.length<=1099511627776) :
  EvP prog 186 [.agg (wG a b A B ND z)] (.sl 1 (dInts (depN ND ND.length)) none):=by
 have cu:=eT ND;refine eG 61 [.tmp 2] func186 rfl ntmps186 rfl fun _ _ _ _=>?_;refine ⟨⟨rfl,by omega,by rw [cu];omega,by rw [cu];omega⟩,?_⟩;refine ⟨⟨rfl,by omega,by rw [cu];omega,by rw [cu];omega⟩,?_⟩;refine IG (fun j st=>∃ d:Nat,st=Rk (wG a b A B ND z) (depN ND d) (posL (depN ND d)) (bG ND).length (d + 1)/\d<=ND.length/\j=ND.length - d) ND.length (Rk (wG a b A B ND z) (depN ND 0) (posL (depN ND 0)) (bG ND).length 1) (.HC 2 rfl rfl ?_ rfl ?_) ⟨0,rfl,by omega,by omega⟩ ?_
 ·refine ⟨_,_,rfl,ax,_,_,rfl,?_,rfl⟩;rw [Nu,cu];exact Rj _ _ _ _ _
 ·refine ⟨⟨_,rfl,gQ⟩,⟨_,rfl,gQ⟩,⟨_,rfl,Uy (by rw [posL_len,depN_len,cu];omega) (aV _) ?_⟩,⟨_,rfl,ax⟩,trivial⟩;refine congrArg some ?_;rw [FY,cu];simp [posL,depN]
 rintro j st ⟨d,rfl,hd,rfl⟩;have gP:(posL (depN ND d)).length=ND.length:=by rw [posL_len,depN_len]
 refine br ?_ ?_<;>intro hc
 ·have aq:d < ND.length:=sW cu hc;refine ⟨⟨rfl,by omega,by rw [cu];omega,by rw [cu];omega⟩,?_⟩;refine aY (fun j st=>∃ (e:Nat) (O:List Nat) (M:List Bool),st=Gp (wG a b A B ND z) O (posL (depN ND d)) M (bG ND).length (d + 1) e/\e<=ND.length/\O.length=ND.length/\M.length=ND.length/\(∀ i:Nat,i < e->O.getD i 0=(depN ND (d + 1)).getD i 0/\M.getD i false=(posL (depN ND (d + 1))).getD i false)/\(∀ i:Nat,e<=i->O.getD i 0=(depN ND d).getD i 0)/\j=ND.length - e) ND.length (Gp (wG a b A B ND z) (depN ND d) (posL (depN ND d)) (List.replicate ((bG ND).length:Int).toNat false) (bG ND).length (d + 1) 0) (bZ 3 (by repeat' (first | exact rfl | exact aA rfl | exact cp rfl | exact cE (FY _) | refine ⟨_,_,rfl,?_,?_⟩)) (by repeat' (first | exact trivial | exact aA rfl | exact cp rfl | exact cE (FY _) | refine ⟨⟨_,rfl,?_⟩,?_⟩))) ⟨0,_,_,rfl,by omega,by rw [depN_len],by rw [List.length_replicate,cu];omega,fun i hi=>by omega,fun i _=>rfl,by omega⟩ ?_;rintro j st ⟨e,O,M,rfl,he,hO,hM,vX,OO,rfl⟩;refine br ?_ ?_<;>intro hL
  ·have fb:e < ND.length:=by have:=hL;simp [cu] at this;exact this
   obtain ⟨n,hn⟩:∃ n,ND[e]? = some n:=⟨_,gE fb⟩;have sI:=mG hn;have h1:=JG (posL (depN ND d)) (by rw [gP];exact fI) (n:=n) (by rw [gP];exact aZ n sI) (bW n sI);obtain ⟨r1,r2⟩:=Rg (fun m hm=>⟨(aZ m hm).k8,(aZ m hm).bare⟩) d hn;refine iX (eB hn) ?_;refine cP abM h1 ?_
   have aW:(cB M).set (0 + (e:Int).toNat * 1) (DV.v (.bool (LD n (posL (depN ND d)))))=cB (M.set e (LD n (posL (depN ND d)))):=by
    rw [show 0 + (e:Int).toNat * 1=e by omega,yF]
   have HG:(cB (M.set e (LD n (posL (depN ND d)))))[0 + (e:Int).toNat * 1]? = some (DV.v (.bool (LD n (posL (depN ND d))))):=by
    rw [show 0 + (e:Int).toNat * 1=e by omega];exact I9 (gz (by omega))
   obtain ⟨q,hq⟩:∃ q,O[e]? = some q:=⟨_,gE (by omega)⟩;have hqd:(depN ND d).getD e 0=q:=by rw [<- OO e (aV _),bN,hq];all_goals rfl
   rw [hqd] at r1
   have hMs:∀ i:Nat,i < e + 1->(M.set e (LD n (posL (depN ND d)))).getD i false=(posL (depN ND (d + 1))).getD i false:=fun i hi=>by
    by_cases EZ:i=e
    ·subst EZ;rw [r2,bN,gz (by omega)];all_goals rfl
    ·rw [bN,List.getElem?_set_ne (Ne.symm EZ),<- bN];exact (vX i (by omega)).2
   generalize LD n (posL (depN ND d))=h at aW HG r1 hMs ⊢;refine ⟨⟨by omega,by rw [cu];omega⟩,?_⟩;refine ⟨by rw [q6];omega,?_⟩;refine ⟨⟨by omega,by rw [cu];omega⟩,?_⟩;refine ⟨DV.v (.bool h),(by rw [aW];exact HG),?_⟩
   have hOs:∀ v,v=(depN ND (d + 1)).getD e 0->∀ i:Nat,i < e + 1->(O.set e v).getD i 0=(depN ND (d + 1)).getD i 0:=fun v hv i hi=>by
    by_cases EZ:i=e
    ·subst EZ;rw [<- hv,bN,gz (by omega)];all_goals rfl
    ·rw [bN,List.getElem?_set_ne (Ne.symm EZ),<- bN];exact (vX i (by omega)).1
   have hOr:∀ v:Nat,∀ i:Nat,e + 1<=i->(O.set e v).getD i 0=(depN ND d).getD i 0:=fun v i hi=>by
    rw [bN,List.getElem?_set_ne (by omega),<- bN];exact OO i (by omega)
   have hOq:O.set e q=O:=List.ext_getElem? fun i=>by
    by_cases EZ:e=i
    ·subst EZ;rw [gz (by omega),hq]
    ·rw [List.getElem?_set_ne EZ]
   refine br ?_ ?_<;>intro g
   ·have g:h=true:=sU g;refine ⟨⟨by omega,by rw [cu];omega⟩,?_⟩;refine ⟨DV.v (.int .i64 (q:Int)),(by rw [show 0 + (e:Int).toNat * 1=e by omega];exact Ds hq),?_⟩;refine br ?_ ?_<;>intro g2
    ·have g2:q=0:=by simpa [pickB,pickD] using g2
     rw [ap ⟨g,g2⟩] at r1;refine ⟨⟨by omega,by rw [cu];omega⟩,?_⟩;refine ⟨by rw [y5];omega,?_⟩
     have O3:(cN O).set (0 + (e:Int).toNat * 1) (DV.v (.int .i64 ((d + 1:Nat):Int)))=cN (O.set e (d + 1)):=by
      rw [show 0 + (e:Int).toNat * 1=e by omega,Dt]
     exact ⟨Gp (wG a b A B ND z) (O.set e (d + 1)) (posL (depN ND d)) (M.set e h) (bG ND).length (d + 1) (e + 1),(bZ 3 (ZX O3 aW (aG fb (by omega))) (H2 O3 aW (aG fb (by omega)))),ND.length - (e + 1),by omega,e + 1,_,_,rfl,by omega,by simp [hO],by rw [List.length_set];exact hM,fun i hi=>⟨hOs _ r1.symm i hi,hMs i hi⟩,hOr (d + 1),rfl⟩
    ·have g2:¬ q=0:=by simpa [pickB,pickD] using g2
     rw [aj (fun h=>g2 h.2)] at r1;exact ⟨Gp (wG a b A B ND z) (O.set e q) (posL (depN ND d)) (M.set e h) (bG ND).length (d + 1) (e + 1),(bZ 3 (by repeat' (first | exact rfl | exact aA rfl | exact cp (by rw [hOq]) | exact cE aW | exact aC (aG fb (by omega)) | refine ⟨_,_,rfl,?_,?_⟩)) (by repeat' (first | exact trivial | exact aA rfl | exact cp (by rw [hOq]) | exact cE aW | exact aC (aG fb (by omega)) | refine ⟨⟨_,rfl,?_⟩,?_⟩))),ND.length - (e + 1),by omega,e + 1,_,_,rfl,by omega,by simp [hO],by rw [List.length_set];exact hM,fun i hi=>⟨hOs _ r1.symm i hi,hMs i hi⟩,hOr q,rfl⟩
   ·have g:h=false:=sU g;rw [aj (by rw [g];simp)] at r1;exact ⟨Gp (wG a b A B ND z) (O.set e q) (posL (depN ND d)) (M.set e h) (bG ND).length (d + 1) (e + 1),(bZ 3 (by repeat' (first | exact rfl | exact aA rfl | exact cp (by rw [hOq]) | exact cE aW | exact aC (aG fb (by omega)) | refine ⟨_,_,rfl,?_,?_⟩)) (by repeat' (first | exact trivial | exact aA rfl | exact cp (by rw [hOq]) | exact cE aW | exact aC (aG fb (by omega)) | refine ⟨⟨_,rfl,?_⟩,?_⟩))),ND.length - (e + 1),by omega,e + 1,_,_,rfl,by omega,by simp [hO],by rw [List.length_set];exact hM,fun i hi=>⟨hOs _ r1.symm i hi,hMs i hi⟩,hOr q,rfl⟩
  ·have hge:e=ND.length:=sW cu hL;subst hge
   have hO2:O=depN ND (d + 1):=o7 (by rw [hO,depN_len]) fun j=>by
    rcases Nat.lt_or_ge j ND.length with hj | hj
    ·exact (vX j hj).1
    ·simp only [bN];rw [kE (by omega),kE (by rw [depN_len];omega)]
   have hM2:M=posL (depN ND (d + 1)):=yg (by rw [hM,posL_len,depN_len]) (fun j hj=>by
     rcases Nat.lt_or_ge j ND.length with h | h
     ·rw [<- (vX j h).2];exact hj
     ·rw [bN,kE (by omega)] at hj;cases hj) (fun j hj=>by
     rcases Nat.lt_or_ge j ND.length with h | h
     ·rw [(vX j h).2];exact hj
     ·rw [bN,kE (by rw [posL_len,depN_len];omega)] at hj;cases hj)
   subst hO2 hM2;refine ⟨Rk (wG a b A B ND z) (depN ND (d + 1)) (posL (depN ND (d + 1))) (bG ND).length (d + 1 + 1),.HC 2 rfl rfl ⟨_,_,rfl,ax,_,_,rfl,Rj _ _ _ _ _,rfl⟩ rfl ⟨⟨_,rfl,gQ⟩,⟨_,rfl,gQ⟩,⟨_,rfl,Uy (by rw [posL_len,depN_len,cu]) (aV _) rfl⟩,⟨_,rfl,?_⟩,trivial⟩,ND.length - (d + 1),by omega,d + 1,rfl,by omega,rfl⟩;exact congrArg (fun z=>DV.v (Value.int .i64 z)) (aG (n:=1099511627777) (by omega) (by omega))
 ·have hge:d=ND.length:=sW cu hc;subst hge;exact ⟨_,Rh (by rw [depN_len,cu]) (Nat.zero_le _) rfl,rfl⟩
def vN (ND:List Nd) (d e:Nat):Bool:=(List.range e).any fun i=>decide (¬ (depN ND (d + 1)).getD i 0=(depN ND d).getD i 0)
theorem Nv (ND:List Nd) (d e:Nat):vN ND d (e + 1)=(vN ND d e || decide (¬ (depN ND (d + 1)).getD e 0=(depN ND d).getD e 0)):=by
 simp [vN,List.range_succ]
theorem Gq {ND:List Nd} {d:Nat}:vN ND d ND.length=false↔depN ND (d + 1)=depN ND d:=by grind [o7,depN_len,vN]
theorem JH {ND:List Nd} {d:Nat} (hd:d<=1099511627776):∀ z∈depN ND d,z<=1099511627776:=fun z hz=>by
 obtain ⟨i,hi⟩:=List.mem_iff_getElem?.1 hz;have:=LB ND d i
 grind
abbrev Rm (ND:List Nd) (d:Nat) (c:Bool):St:=
 ⟨[aM 3 7 (bG ND),aM 4 1 (dInts (depN ND d)),qN 5 c],[],[]⟩
abbrev LF (ND:List Nd) (d:Nat) (c:Bool) (L:List Nat) (e:Nat):St:=
 ⟨[aM 3 7 (bG ND),aM 4 1 (dInts (depN ND d)),qN 5 c,(6,⟨[],.ms 0 1 0 (bG ND).length (bG ND).length⟩),aM 18 7 (bG ND),au 19 ((bG ND).length),au 20 e],[cN L],[]⟩
theorem JI {L:Nat} {ND:List Nd} {p:DV} (h0:EvP prog 233 [p] (.sl 7 (bG ND) none)) (aZ:∀ n∈ND,cf L ND.length n) (fI:ND.length<=1099511627776) (bW:∀ n∈ND,n.ai.length<=1099511627776) (qJ:∀ bx N n m,Cc bx N n m p p) :
  EvP prog 170 [p] (.sl 1 (dInts (depN ND ND.length)) none):=by
 have cu:=eT ND;refine eG 46 [.tmp 2] func170 rfl ntmps170 rfl fun _ _ _ _=>?_;refine cP V6 h0 ?_ (mc qJ);refine ⟨⟨rfl,by omega,by rw [cu];omega,by rw [cu];omega⟩,?_⟩;refine IG (fun j st=>∃ (d:Nat) (c:Bool),st=Rm ND d c/\(c=true->d<=ND.length)/\(c=false->depN ND d=depN ND ND.length)/\j=ND.length + 2 - d) (ND.length + 2) (Rm ND 0 true) (.HC 0 rfl rfl rfl rfl ?_) ⟨0,true,rfl,by omega,by simp,by omega⟩ ?_
 ·refine ⟨⟨_,rfl,ax⟩,⟨_,rfl,Rh (by rw [depN_len,cu];omega) (by omega) ?_⟩,⟨_,rfl,ax⟩,trivial⟩;refine congrArg some ?_;rw [Nu,cu];rfl
 rintro j st ⟨d,c,rfl,Mp,oe,rfl⟩;refine br ?_ ?_<;>intro hc
 ·have hc:c=true:=hc;have hd:=Mp hc;refine ⟨⟨rfl,by omega,by rw [cu];omega,by rw [cu];omega⟩,?_⟩;refine aY (fun j st=>∃ (e:Nat) (L:List Nat),st=LF ND d (vN ND d e) L e/\e<=ND.length/\L.length=ND.length/\(∀ i:Nat,i < e->L.getD i 0=(depN ND (d + 1)).getD i 0)/\j=ND.length - e) ND.length (LF ND d false (List.replicate ((bG ND).length:Int).toNat 0) 0) (bZ 1 (by repeat' (first | exact rfl | exact aA rfl | exact cp (Nu _) | refine ⟨_,_,rfl,?_,?_⟩)) (by repeat' (first | exact trivial | exact aA rfl | exact cp (Nu _) | refine ⟨⟨_,rfl,?_⟩,?_⟩))) ⟨0,_,rfl,by omega,by rw [List.length_replicate,cu];omega,fun i hi=>by omega,by omega⟩ ?_;rintro j st ⟨e,L,rfl,he,hL,hLv,rfl⟩;refine br ?_ ?_<;>intro aq
  ·have aq:e < ND.length:=by have:=aq;simp [cu] at this;exact this
   obtain ⟨n,hn⟩:=gX aq;have sI:=mG hn;have fb:=Du (depN ND d) (by rw [depN_len];exact fI) (n:=n) (by rw [depN_len];exact aZ n sI) (JH (by omega)) (bW n sI);refine iX (eB hn) ?_;refine cP abH fb ?_;refine ⟨⟨by omega,by rw [cu];omega⟩,?_⟩;refine ⟨by rw [y5];omega,?_⟩;refine dI ?_;have hv:=depN_get ND d e;rw [hn] at hv;have hv:(depN ND (d + 1)).getD e 0=bF n (depN ND d):=hv;obtain ⟨z,hz⟩:∃ z,(depN ND d)[e]? = some z:=⟨_,gE (by rw [depN_len];exact aq)⟩;have W6:(depN ND d).getD e 0=z:=by rw [bN,hz];all_goals rfl
   have hcs:=Nv ND d e;rw [hv,W6] at hcs;have aW:(cN L).set (0 + (e:Int).toNat * 1) (DV.v (.int .i64 ((bF n (depN ND d):Nat):Int)))=cN (L.set e (bF n (depN ND d))):=by grind [Dt]
   have hLs:∀ i:Nat,i < e + 1->(L.set e (bF n (depN ND d))).getD i 0=(depN ND (d + 1)).getD i 0:=fun i hi=>by grind
   refine br ?_ ?_<;>intro g
   ·have g:vN ND d e=false:=sU g;rw [g,Bool.false_or] at hcs;have HG:(cN (L.set e (bF n (depN ND d))))[0 + (e:Int).toNat * 1]? = some (DV.v (.int .i64 ((bF n (depN ND d):Nat):Int))):=by grind [Ds]
    refine ⟨⟨by omega,by rw [cu];omega⟩,?_⟩;rw [aW];refine ⟨_,HG,?_⟩;refine iX (aR hz) ?_
    have hbo:(!decide (((bF n (depN ND d):Nat):Int)=(z:Int)))=vN ND d (e + 1):=by
     rw [hcs,Bool.eq_iff_iff];simp;omega
    exact ⟨LF ND d (vN ND d (e + 1)) (L.set e (bF n (depN ND d))) (e + 1),(bZ 1 (lY hbo (aG aq (by omega))) (wB2 hbo (aG aq (by omega)))),ND.length - (e + 1),by omega,e + 1,_,rfl,by omega,by rw [List.length_set];exact hL,hLs,rfl⟩
   ·have g:vN ND d e=true:=sU g;rw [g,Bool.true_or] at hcs;exact ⟨LF ND d (vN ND d (e + 1)) (L.set e (bF n (depN ND d))) (e + 1),(bZ 1 (ZX aW hcs.symm (aG aq (by omega))) (H2 aW hcs.symm (aG aq (by omega)))),ND.length - (e + 1),by omega,e + 1,_,rfl,by omega,by rw [List.length_set];exact hL,hLs,rfl⟩
  ·have hge:e=ND.length:=sW cu aq;subst hge;have hLL:L=depN ND (d + 1):=o7 (by rw [hL,depN_len]) fun j=>by grind [depN_len]
   subst hLL;refine ⟨Rm ND (d + 1) (vN ND d ND.length),.HC 0 rfl rfl rfl rfl ⟨⟨_,rfl,ax⟩,⟨_,rfl,Rh (by rw [depN_len,cu]) (by omega) rfl⟩,⟨_,rfl,ax⟩,trivial⟩,ND.length + 2 - (d + 1),by omega,d + 1,_,rfl,fun qJ=>?_,fun qJ=>Rf (Gq.1 qJ),rfl⟩;have:depN ND (d + 1)≠depN ND d:=fun h=>by rw [Gq.2 h] at qJ;cases qJ
   have:=Uw this;omega
 ·have hc:c=false:=hc;rw [oe hc];exact ⟨_,ax,rfl⟩
theorem dX.S1 {S:Sch} {ND:List Nd} {PC:List DV} (hP:dX S ND PC):∀ n∈ND,n.ai.length<=1099511627776:=fun n hn=>by
 have h1:=hP.wt;rw [hP.zR] at hn;exact (kC hn h1).2
theorem vj {S:Sch} {ND:List Nd} {PC:List DV} (hP:dX S ND PC):EvP prog 170 [.pt PC 0] (.sl 1 (dInts (depN ND ND.length)) none):=
 JI (sG hP) hP.ok hP.nl hP.S1 fun _ _ _ _=>ax
def exH (k:Int):Hd:=⟨k,0,0,0,0,[],⟨ay,0⟩⟩
theorem Gr {S:Sch} (hF:sA S) {i:Nat} {n:Nd} (h:(bp S)[i]? = some n) {e:Ed} (he:e∈n.ai) (hb:e.bare=true):e.ck=0:=by
 have Gi:=(pN hF h).bare e he hb;rw [jA] at h;obtain ⟨t,ht,u,hu,rfl,jk⟩:=sD h;have M8:=sC t ⟨_,_,hF.wr t ht⟩ u hu;have hT:=Dj M8;obtain ⟨uh,us⟩:=u;simp only [Ty.h,Ty.ps] at hT;obtain ⟨p,v,k',h1,rfl,_⟩:=oY he;obtain ⟨j,hj⟩:=List.mem_iff_getElem?.1 h1;obtain ⟨_,hP⟩:=(hT.many (.inr Gi)).2.2 j p v hj;rcases hP with ⟨_,_,_,gP⟩ | ⟨fD,_⟩
 ·exact (pM gP).2.2.1
 ·have:p.bare=true:=hb;rw [fD] at this;cases this
def LG (ck:Int):Int:=if ck=3 then 5 else if ck=2 then 3 else 2
def JJ (f:Nat->Nat->Bool) (ND:List Nd) (e:Ed):Prop:=e.ck≠0->(∃ m,ND[e.to.toNat]? = some m/\m.ag=LG e.ck)/\f e.seen.toNat e.label.toNat=true/\f e.label.toNat e.seen.toNat=false
def Rn (f:Nat->Nat->Bool) (ND:List Nd):Prop:=∀ n∈ND,∀ e∈n.ai,JJ f ND e
abbrev adU (W:List DV) (e:Nat):St:=⟨[aE 1 0,aE 2 1,au 3 e],[W,[.v (.int .i64 0),.v (.int .i64 0)]],[]⟩
abbrev Zg (W:List DV) (es:List Ed) (e k:Nat):St:=⟨[aE 1 0,aE 2 1,au 3 e,aM 4 10 (dT es),au 5 k],[W,[.v (.int .i64 0),.v (.int .i64 0)]],[]⟩
def W20Φ (f:Nat->Nat->Bool) (ND:List Nd) (r:DV):Prop:=∃ ft:Ft,r=ft.d/\(ft.1=0->Rn f ND)
theorem Dx (lv:List Wd) (f:Nat->Nat->Bool) (ND:List Nd) (z:Int) (hn:lv.length<=32) (aZ:∀ n∈ND,cf lv.length ND.length n) (fI:ND.length<=1099511627776) (bW:∀ n∈ND,n.ai.length<=1099511627776) (hbr:∀ n∈ND,∀ e∈n.ai,e.bare=true->e.ck=0) :
  Ev prog 187 [.agg (wL lv f ND z)] [] [] (fun r _ _=>W20Φ f ND r):=by
 have hNl:=eT ND;refine eG 79 [.cell 2 44] func187 rfl ntmps187 rfl fun _ _ _ _=>?_;refine lI (fun j st=>∃ e:Nat,st=adU (wL lv f ND z) e/\e<=ND.length/\(∀ c n,c < e->ND[c]? = some n->∀ x∈n.ai,JJ f ND x)/\j=ND.length - e) ⟨0,rfl,by omega,fun _ _ h=>by omega,rfl⟩ (bz wB) ?_;rintro j st ⟨e,rfl,he,gm,rfl⟩;refine br ?_ ?_<;>intro hL
 ·have aq:e < ND.length:=sV hNl hL;obtain ⟨d,hd⟩:=gX aq;have hm:=mG hd;have hN:=aZ d hm;have kM:=bW d hm;have cu:=bw d.ai;have hbd:=hbr d hm;refine iX (eB hd) ?_;refine lI (fun j st=>∃ k:Nat,st=Zg (wL lv f ND z) d.ai e k/\k<=d.ai.length/\(∀ c x,c < k->d.ai[c]? = some x->JJ f ND x)/\j=d.ai.length - k) ⟨0,rfl,by omega,fun _ _ h=>by omega,rfl⟩ (bz wB) ?_;rintro j st ⟨k,rfl,hk,QY,rfl⟩;refine br ?_ ?_<;>intro mq
  ·have jF:k < d.ai.length:=sV cu mq;obtain ⟨x,hx⟩:∃ x,d.ai[k]? = some x:=⟨_,gE jF⟩;have sH:=mG hx;obtain ⟨mw,⟨h2,Jj⟩,h3,Ow⟩:=eV hN sH;have mO:=hbd x sH;have Ro:=(hN.fB x sH).ck
   have y7:JJ f ND x->∀ c y,c < k + 1->d.ai[c]? = some y->JJ f ND y:=fun h c y hc hy=>by
    rcases jJ hc with h1 | h1
    ·exact QY c y h1 hy
    ·rw [h1,hx] at hy;simp only [oI] at hy;rw [<- hy];exact h
   have hE:JJ f ND x=(x.ck≠0->(∃ m,ND[x.to.toNat]? = some m/\m.ag=LG x.ck)/\f x.seen.toNat x.label.toNat=true/\f x.label.toNat x.seen.toNat=false):=rfl;generalize JJ f ND x=EX at hE y7;obtain ⟨en,eb,ea,et,rb,ew,ln,ti,ru,pS⟩:=x;simp only at h2 Jj h3 Ow mw mO Ro hE;obtain ⟨lb,rfl⟩:∃ n:Nat,rb=n:=⟨_,h2⟩;obtain ⟨sn,rfl⟩:∃ n:Nat,ru=n:=⟨_,h3⟩;simp only [eH] at Jj Ow hE;refine iX (aS hx) ?_;refine br ?_ ?_<;>intro g
   ·have g:ln=0:=sU g;exact rE ⟨_,by omega,k + 1,rfl,by omega,y7 (by rw [hE];intro h;exact absurd g h),rfl⟩ (bZ 2 (jM (aG jF (by omega))) (cJ (aG jF (by omega))))
   have g:¬ ln=0:=sU g
   obtain ⟨h1,tA⟩:=mw (by
    cases hb:eb
    ·rfl
    ·exact absurd (mO hb) g)
   obtain ⟨tn,rfl⟩:∃ n:Nat,et=n:=⟨_,h1⟩;simp only [eH] at tA hE;obtain ⟨m,hmt⟩:∃ m,ND[tn]? = some m:=⟨_,gE tA⟩
   have hW:∀ w:Int,w=LG ln->(m.ag=w/\f sn lb=true/\f lb sn=false)->EX:=fun w h1 h2=>by
    rw [hE];exact fun _=>⟨⟨m,hmt,by rw [<- h1];exact h2.1⟩,h2.2⟩
   have h3c:ln=1∨ln=2∨ln=3:=by omega
   rcases h3c with rfl | rfl | rfl
   all_goals
    refine ⟨_,⟨eY _,eB hmt⟩,?_⟩;refine br ?_ ?_<;>intro c1
    ·exact ⟨Ft.d (14,pS),ax,(14,pS),rfl,fun h=>by simp at h⟩
    refine dI ?_;refine ⟨_,⟨eY _,fC Ow⟩,?_⟩;refine ⟨_,⟨eY _,er Jj⟩,?_⟩;refine br ?_ ?_<;>intro c2
    ·refine ⟨_,⟨eY _,fC Jj⟩,?_⟩;refine ⟨_,⟨eY _,er Ow⟩,?_⟩;refine br ?_ ?_<;>intro c3
     ·exact ⟨Ft.d (18,pS),ax,(18,pS),rfl,fun h=>by simp at h⟩
     ·have hx:=y7 (hW _ rfl ⟨by simpa [LG] using c1,by simpa using c2,by simpa [pickB] using c3⟩);exact rE ⟨_,by omega,k + 1,rfl,by omega,hx,rfl⟩ (bZ 2 (jM (aG jF (by omega))) (cJ (aG jF (by omega))))
    ·exact ⟨Ft.d (18,pS),ax,(18,pS),rfl,fun h=>by simp at h⟩
  ·have hge:k=d.ai.length:=sW cu mq;subst hge
   exact rE ⟨_,by omega,e + 1,rfl,by omega,fun c n hc hn x SV=>by
    rcases jJ hc with h1 | h1
    ·exact gm c n h1 hn x SV
    ·rw [h1,hd] at hn;simp only [oI] at hn;rw [<- hn] at SV;obtain ⟨q,hq⟩:=List.mem_iff_getElem?.1 SV
     exact QY q x (gS hq).1 hq,rfl⟩ (bz (cJ (aG aq (by omega))))
 ·have hge:e=ND.length:=sW hNl hL;subst hge
  exact ⟨Ft.d (0,0),ax,(0,0),rfl,fun _ n hn x hx=>by
   obtain ⟨q,hq⟩:=List.mem_iff_getElem?.1 hn
   exact gm q n (gS hq).1 hq x hx⟩
structure y8 (S:Sch):Prop where
 pq:(lU S).1=0
 live:∀ i:Nat,i < (bp S).length->(depN (bp S) (bp S).length).getD i 0≠0
 eff:Rn (aH S) (bp S)
abbrev adW (S:Sch) (a b:Int) (W:List DV) (D:List Nat) (e:Nat):St:=
 ⟨[aE 1 0,aE 3 1,aE 5 3,aM 6 1 (dInts D),au 7 e],[fo S,[.v (.int .i64 0),.v (.int .i64 0)],[.v (.int .i64 a),.v (.int .i64 b)],W],[]⟩
theorem Dy (S:Sch) (hS:S.wt<=1099511627776):Ev prog 102 [.agg (fo S)] [] [] (fun r _ _=>∃ (z:Int) (ft:Ft),r = .tup [.v (.int .i64 z),ft.d]/\(z=0->y8 S)):=by
 have M8:=Df S hS;have hw:=fun h=>Di S hS h;generalize hR:lU S=R at M8;obtain ⟨ae,order,types,⟨rh,rp⟩⟩:=S;refine eG 44 [.tmp 2,.cell 3 44] func102 rfl ntmps102 rfl fun _ _ _ _=>?_;refine cP abu M8 ?_;refine br ?_ ?_<;>intro g
 ·refine dS ?_;exact ⟨.tup [.v (.int .i64 2),Ft.d R],ax,2,R,rfl,fun h=>by simp at h⟩
 have g:R.1=0:=sU g;have h0:(lU ⟨ae,order,types,.mk rh rp⟩).1=0:=by rw [hR];exact g
 have hF:=sB h0;have hw:=hw h0;obtain ⟨Ut,QQ⟩:=kY hF.lat;have aZ:=fun n (hn:n∈bp ⟨ae,order,types,.mk rh rp⟩)=>(List.mem_iff_getElem?.1 hn).elim fun i hi=>pN hF hi;have fI:(bp ⟨ae,order,types,.mk rh rp⟩).length<=1099511627776:=by rw [nI];exact Nat.le_trans (Jo _) hS
 have bW:=fun n (hn:n∈bp ⟨ae,order,types,.mk rh rp⟩)=>(kC hn hS).2;have hbr:=fun n (hn:n∈bp ⟨ae,order,types,.mk rh rp⟩)=>(List.mem_iff_getElem?.1 hn).elim fun i hi e he hb=>Gr hF hi (e:=e) he hb;have h19:=fun A B=>Ag 2 1 A B (dw ⟨ae,order,types,.mk rh rp⟩) aZ fI bW;have h20:=Dx ae (aH ⟨ae,order,types,.mk rh rp⟩) (bp ⟨ae,order,types,.mk rh rp⟩) (dw ⟨ae,order,types,.mk rh rp⟩) QQ aZ fI bW hbr;have Z7:(∀ i:Nat,i < (bp ⟨ae,order,types,.mk rh rp⟩).length->(depN (bp ⟨ae,order,types,.mk rh rp⟩) (bp ⟨ae,order,types,.mk rh rp⟩).length).getD i 0≠0)->Rn (aH ⟨ae,order,types,.mk rh rp⟩) (bp ⟨ae,order,types,.mk rh rp⟩)->y8 ⟨ae,order,types,.mk rh rp⟩:=fun h1 h2=>⟨h0,h1,h2⟩;have Mz:=depN_len (bp ⟨ae,order,types,.mk rh rp⟩) (bp ⟨ae,order,types,.mk rh rp⟩).length;generalize depN (bp ⟨ae,order,types,.mk rh rp⟩) (bp ⟨ae,order,types,.mk rh rp⟩).length=D at h19 Z7 Mz;unfold aH at h20 Z7;generalize fA (Sch.mk ae order types (.mk rh rp)).ae.length (dW (az (Sch.mk ae order types (.mk rh rp)).ae) (Sch.mk ae order types (.mk rh rp)).order)=f at hw h20 Z7;generalize bp ⟨ae,order,types,.mk rh rp⟩=ND at hw h19 h20 Z7 Mz fI bW hbr aZ;generalize dw ⟨ae,order,types,.mk rh rp⟩=rt at hw h19 h20;have Kp:=aU D;obtain ⟨R1,R2⟩:=R;simp only at g;subst g;refine cP en12 hw ?_;refine cP abv (h19 _ _) ?_;refine lI (fun j st=>∃ e:Nat,st=adW ⟨ae,order,types,.mk rh rp⟩ 0 R2 (wL ae f ND rt) D e/\e<=D.length/\(∀ i < e,D.getD i 0≠0)/\j=D.length - e) ⟨0,rfl,by omega,fun _ h=>by omega,rfl⟩ (bz wB) ?_;rintro j st ⟨e,rfl,he,gm,rfl⟩;refine br ?_ ?_<;>intro hL
 ·have aq:e < D.length:=sV Kp hL;obtain ⟨x,hx⟩:=gX aq;obtain ⟨d,hd⟩:∃ d,ND[e]? = some d:=⟨_,gE (by omega)⟩;refine iX (aR hx) ?_;refine br ?_ ?_<;>intro c
  ·refine dS ?_;refine iX (eB hd) ?_;exact ⟨.tup [.v (.int .i64 3),Ft.d (11,d.aO)],ax,3,(11,d.aO),rfl,fun h=>by simp at h⟩
  ·have c:x≠0:=by simp at c;omega
   exact rE ⟨_,by omega,e + 1,rfl,by omega,fun i hi=>by
    rcases jJ hi with h1 | h1
    ·exact gm i h1
    ·rw [h1,bN,hx];exact c,rfl⟩ (bZ 4 (jM (aG aq (by omega))) (cJ (aG aq (by omega))))
 ·have hge:e=D.length:=sW Kp hL;subst hge;refine dj abw rfl h20 ax (fun r hr=>?_);obtain ⟨ft,rfl,hft⟩:=hr;refine br ?_ ?_<;>intro c
  ·refine dS ?_;exact ⟨.tup [.v (.int .i64 4),Ft.d ft],ax,4,ft,rfl,fun h=>by simp at h⟩
  ·have c:ft.1=0:=sU c;exact ⟨.tup [.v (.int .i64 0),Ft.d (0,0)],ax,0,(0,0),rfl,fun _=>Z7 (fun i hi=>gm i (by omega)) (hft c)⟩
theorem Gs (S:Sch) (hS:S.wt<=1099511627776):Ev prog 44 [.agg (fo S)] [] [] (fun r _ _=>∃ b:Bool,r = .v (.bool b)/\(b=true->y8 S)):=by
 have hw:=Dy S hS;obtain ⟨ae,order,types,⟨rh,rp⟩⟩:=S;refine eG 12 [.tmp 2] func44 rfl ntmps44 rfl fun _ _ _ _=>?_;refine dj aba rfl hw ax (fun r hr=>?_);obtain ⟨z,ft,rfl,hz⟩:=hr;exact ⟨_,rfl,fun h=>hz (sU h)⟩
theorem Gt (S:Sch) (hS:S.wt<=1099511627776):Ev prog 30 [.agg (fo S)] [] [] (fun r _ _=>∃ b:Bool,r = .v (.bool b)/\(b=true->y8 S)):=by
 have ga:=C7 S hS;have hf:=Gs S hS;obtain ⟨ae,order,types,⟨rh,rp⟩⟩:=S;refine eG 10 [.tmp 2] func30 rfl ntmps30 rfl fun _ _ _ _=>?_;refine dj en43 rfl ga ax (fun r hr=>?_);obtain ⟨g,rfl⟩:=hr
 cases g with
 | true=>exact ⟨false,rfl,fun h=>by cases h⟩
 | false=>
  refine dj en44 rfl hf ax (fun r hr=>?_);obtain ⟨b,rfl,hb⟩:=hr;exact ⟨b,rfl,hb⟩
def uz (f:Nat->Nat->Bool) (b e:Nat):List Nat:=(List.range e).filter (f b)
theorem Nx (f:Nat->Nat->Bool) (b e:Nat):uz f b (e + 1)=if f b e=true then uz f b e ++ [e] else uz f b e:=by
 unfold uz;rw [List.range_succ,List.filter_append]
 grind
theorem Gu (f:Nat->Nat->Bool) (b e:Nat):(uz f b e).length<=e:=by
 have:=List.length_filter_le (f b) (List.range e)
 rwa [List.length_range] at this
theorem rc (L:List Nat) (e:Nat):dInts L ++ [[DV.v (.int .i64 (e:Nat))]]=dInts (L ++ [e]):=by simp [dInts]
def whoL (f:Nat->Nat->Bool) (n:Nat) (o:Option (Nat × Nat)):List Nat:=match o with
 | some (_,b)=>uz f b n
 | none=>[]
abbrev adY (PC:List DV) (b n:Nat) (L:List Nat) (q e:Nat):St:=
 ⟨[eX 0 PC,au 6 b,(8,⟨[],.sl 1 (dInts L) (some 0)⟩),au 21 n,au 22 e],[],[⟨q,3,1,none⟩]⟩
theorem Rp {S:Sch} {ND:List Nd} {PC:List DV} (hP:dX S ND PC) (p:List Stp) (hp:p.length<=1099511627776) (hs:∀ s∈p,s.s.size<=4611686018427387904) (rt:Nat) (mQ:dw S=rt) (dK:rt < ND.length) :
  EvP prog 33 [.pt PC 0,.sl 3 (aF p) none] (.sl 1 (dInts (whoL (aH S) S.ae.length (walkV ND (aH S) S.ae.length p rt (dC (aH S) S.ae.length)))) none):=by
 have hw:=nN hP p hp hs rt mQ dK;obtain ⟨LC,ir,BA⟩:=hP.Np;have hwo:=fun j b=>yY BA.ok hP.ok p rt (dC (aH S) S.ae.length) (j:=j) (b:=b) dK (lH BA.ok);have hlen:=BA.len;have Gd:=BA.leq;have QQ:=BA.n32;refine Da ?_;generalize walkV ND (aH S) S.ae.length p rt (dC (aH S) S.ae.length)=o at hw hwo ⊢;generalize aH S=f at Gd ⊢;generalize S.ae.length=n at hlen Gd QQ hwo ⊢
 cases o with
 | none=>
  refine eG 36 [.tmp 4] func33 rfl ntmps33 rfl fun _ _ _ _=>?_;refine cP xG hw ?_;exact Or.inr ⟨rfl,rfl⟩
 | some r=>
  obtain ⟨j,b⟩:=r;obtain ⟨_,hb⟩:=hwo j b rfl;refine eG 36 [.tmp 4] func33 rfl ntmps33 rfl fun _ _ _ _=>?_;refine cP xG hw ?_;refine cP tJ ir ?_;refine cP H9 hlen ?_;refine lI (fun j st=>∃ e q:Nat,st=adY PC b n (uz f b e) q e/\q=(uz f b e).length/\e<=n/\j=n - e) ⟨0,0,rfl,rfl,by omega,rfl⟩ (eP ⟨0,3,1,none⟩ rfl ⟨_,rfl⟩ rfl wA rfl rfl lj) ?_;rintro _ st ⟨e,q,rfl,s5,he,rfl⟩;have hwl:=Gu f b e;refine br ?_ ?_<;>intro hL
  ·have aq:e < n:=sU hL;have hq:=Gd b e;rw [yT hb aq] at hq;have Ji:=Nx f b e;refine cP tJ ir ?_;refine cP X8 hq ?_;refine br ?_ ?_<;>intro g
   ·have g:f b e=true:=g;rw [ap g] at Ji;have dx:=(rc (uz f b e) e).trans (congrArg dInts Ji.symm);refine ⟨by rw [aU,s5],⟨by rw [aU];simp [maxLen];omega,by rw [aU];simp;omega⟩,?_⟩;exact rE ⟨_,by omega,e + 1,q + 1,rfl,by rw [Ji,List.length_append,s5];rfl,by omega,rfl⟩ (bz (wB2 (aG aq (by omega)) dx))
   ·have g:f b e=false:=g;rw [aj (by rw [g];simp)] at Ji;rw [<- Ji];exact rE ⟨_,by omega,e + 1,q,rfl,by rw [Ji];exact s5,by omega,rfl⟩ (bz (cJ (aG aq (by omega))))
  ·have hge:e=n:=by have:=hL;simp at this;omega
   subst hge;exact ⟨.sl 1 (dInts (uz f b e)) none,ax,Or.inl rfl⟩
end Go.Proofs.YtgjagnmeonoehaaGreat
namespace Go.Proofs.YtgjagnmeonoehaaGreat
namespace Dv
open Go Go.RowKit
inductive lL
 | fin
 | op (i:Nat) (t:lL)
 | ev (i:Nat) (t alt:lL)
 | stop
section
variable {P:Program} {ops:Array Oper} {C:World->Prop} {Q:Act->World->Prop} {W:Nat->Bool}
def rdy (ops:Array Oper) (rem:List Nat) (i:Nat):Bool:=
 match ops[i]? with
 | some o=>o.after.toList.all fun e=>!Region.binds .any e || !rem.contains e.on
 | none=>false
def Uz (ops:Array Oper) (i:Nat):Bool:=match ops[i]? with | some o=>isE o.op | none=>false
def chkA (ops:Array Oper):lL->List Nat->Option (List Nat)->Bool
 | .fin,rem,m=>m.isNone && rem.isEmpty
 | .op i t,rem,m=>m.isNone && (rem.contains i && (!Uz ops i && (rdy ops rem i && chkA ops t (rem.erase i) none)))
 | .ev i t alt,rem,m=>rem.contains i && (Uz ops i && (rdy ops rem i && (chkA ops t (rem.erase i) none && chkA ops alt rem (some (i :: m.getD [])))))
 | .stop,rem,m=>match m with
  | some seen=>rem.all fun j=>!rdy ops rem j || seen.contains j
  | none=>false
def Gv (ops:Array Oper) (W:Nat->Bool):Bool:=
 (List.range ops.size).all fun i=>(List.range ops.size).all fun j=>
  Nat.beq i j || ordB ops ops.size i j || ordB ops ops.size j i || (Uz ops i && Uz ops j) || (nU ops W j i && nU ops W i j)
def runS (P:Program) (ops:Array Oper) (W:Nat->Bool) (C:World->Prop) (Q:Act->World->Prop):lL->Act->World->Prop
 | .fin,a,w=>Q a w
 | .op i t,a,w=>∃ o,ops[i]? = some o/\∃ v,Yl P ops C o v a/\(isL o.op=true->C w)/\runS P ops W C Q t (a.put o.dst v) w
 | .ev i t alt,a,w=>(∃ o,ops[i]? = some o/\ez P ops o a w fun a' w'=>(W i=false->C w->C w')/\runS P ops W C Q t a' w')/\runS P ops W C Q alt a w
 | .stop,_,_=>True
def UA (P:Program) (ops:Array Oper) (W:Nat->Bool) (C:World->Prop) (Q:Act->World->Prop) (rem:List Nat) (a:Act) (w:World):Prop:=∃ T,chkA ops T rem none=true/\runS P ops W C Q T a w
def Cl (ops:Array Oper) (rem:List Nat):Prop:=∀ (k:Nat) o,ops[k]? = some o->k ∉ rem->∀ e∈o.after,Region.binds .any e=true->e.on ∉ rem
theorem mD {rem:List Nat} {i:Nat} (h:rdy ops rem i=true):∃ o,ops[i]? = some o/\∀ e∈o.after,Region.binds .any e=true->e.on ∉ rem:=by grind [rdy]
theorem pT {rem:List Nat} {i j:Nat} (h:rdy ops rem i=true):rdy ops (rem.erase j) i=true:=by grind [mD,rdy]
theorem y9 {rem:List Nat} (hn:rem.Nodup) (hc:Cl ops rem) {i:Nat} (h:rdy ops rem i=true):Cl ops (rem.erase i):=by
 intro k o ho hk e he hb hm;have qm:=List.mem_of_mem_erase hm;by_cases uT:k=i
 ·grind [mD]
 ·exact hc k o ho (fun hkm=>hk ((List.mem_erase_of_ne uT).2 hkm)) e he hb qm
theorem Rq {rem:List Nat} (hc:Cl ops rem):∀ (n:Nat) (j k:Nat) o,ops[k]? = some o->(∀ e∈o.after,Region.binds .any e=true->e.on ∉ rem)->ordB ops n j k=true->j ∉ rem
 | 0,j,k,o,_,_,h=>by simp [ordB] at h
 | n + 1,j,k,o,ho,fG,h=>by
  simp only [ordB,ho,List.any_eq_true,bc,Bool.or_eq_true] at h;obtain ⟨e,he,hb,hj⟩:=h;have wa:e∈o.after:=sU he;have h1:=fG e wa hb;rcases hj with hj | hj
  ·have:e.on=j:=sU hj;rw [<- this];exact h1
  ·cases XP:ops[e.on]? with
   | none=>
    cases n with
    | zero=>simp [ordB] at hj
    | succ n=>simp [ordB,XP] at hj
   | some o'=>exact Rq hc n j e.on o' XP (hc e.on o' XP h1) hj
theorem Gw {rem:List Nat} (hP:Gv ops W=true) (hc:Cl ops rem) {i j:Nat} (hi:rdy ops rem i=true) (hj:rdy ops rem j=true) (vC:i∈rem) (CZ:j∈rem) (l9:i≠j) (hev:Uz ops i=false∨Uz ops j=false):nU ops W j i=true:=by
 obtain ⟨o,ho,ha⟩:=mD hi;obtain ⟨o',Ko,Z6⟩:=mD hj;simp only [Gv,List.all_eq_true,List.mem_range] at hP;have h1:=hP i (Array.getElem?_eq_some_iff.1 ho).1 j (Array.getElem?_eq_some_iff.1 Ko).1;simp only [Bool.or_eq_true,bc,Nat.beq_eq] at h1
 grind [Rq]
theorem Dz {i:Nat} {o:Oper} (h:ops[i]? = some o):Uz ops i=isE o.op:=by unfold Uz;rw [h]
theorem BB (kg:∀ (j:Nat) (o:Oper) cs b,ops[j]? = some o->o.op ≠ .select cs b) (hP:Gv ops W=true) {i:Nat} {o:Oper} (hi:ops[i]? = some o) (hE:isE o.op=false) :
  ∀ (T:lL) (rem:List Nat) (a:Act) (w:World),rem.Nodup->Cl ops rem->chkA ops T rem none=true->runS P ops W C Q T a w->i∈rem->rdy ops rem i=true ->
   ∃ v,Yl P ops C o v a/\(isL o.op=true->C w)/\UA P ops W C Q (rem.erase i) (a.put o.dst v) w
 | .fin,rem,a,w,_,_,hc,_,vC,_=>by grind [chkA]
 | .stop,rem,a,w,_,_,hc,_,_,_=>by simp [chkA] at hc
 | .ev j t alt,rem,a,w,hn,fU,hc,hr,vC,Ox=>by
  exfalso
  have key:∀ (T:lL) (seen:List Nat),(∀ k∈seen,Uz ops k=true)->chkA ops T rem (some seen)=true->False:=by
   intro T
   induction T with
   | fin=>intro seen _ h;simp [chkA] at h
   | op=>intro seen _ h;simp [chkA] at h
   | ev k t alt _ ih=>grind [chkA]
   | stop=>grind [chkA,Dz]
  grind [chkA]
 | .op j t,rem,a,w,hn,fU,hc,hr,vC,Ox=>by
  simp only [chkA,bc,Bool.not_eq_true'] at hc;obtain ⟨_,CZ,hje,hjr,Oq⟩:=hc;have CZ:j∈rem:=sU CZ;simp only [runS] at hr;obtain ⟨y,hy,v,XX,hyc,mQ⟩:=hr;by_cases l9:i=j
  ·subst l9;rw [hi] at hy;simp only [oI] at hy;subst hy;exact ⟨v,XX,hyc,t,Oq,mQ⟩
  ·have Mm:=Gw hP fU Ox hjr vC CZ l9 (.inr hje);obtain ⟨VB,ap2,_,_⟩:=gW Mm hy hi;obtain ⟨u,hu,huc,T',hT',hrT⟩:=BB kg hP hi hE t (rem.erase j) (a.put y.dst v) w (hn.erase j) (y9 hn fU hjr) Oq mQ ((List.mem_erase_of_ne l9).2 vC) (pT Ox);have O3:=fun cs b=>kg i o cs b hi;have hsy:=fun cs b=>kg j y cs b hy;obtain ⟨_,hdd,_⟩:=Oper.apart_spec VB;refine ⟨u,(Yl.same VB O3).1 hu,huc,.op j T',?_,?_⟩
   ·grind [chkA,pT]
   ·simp only [runS];refine ⟨y,hy,v,(Yl.same ap2 hsy).2 XX,hyc,?_⟩;rw [<- Act.put_comm a v u hdd];exact hrT
theorem Gx {e:Nat}:∀ (T:lL) (rem:List Nat) (seen:List Nat) (a:Act) (w:World),chkA ops T rem (some seen)=true->runS P ops W C Q T a w->e∈rem->rdy ops rem e=true->e ∉ seen ->
  ∃ o t,ops[e]? = some o/\chkA ops t (rem.erase e) none=true/\ez P ops o a w fun a' w'=>(W e=false->C w->C w')/\runS P ops W C Q t a' w'
 | .fin,rem,seen,a,w,hc,_,_,_,_=>by simp [chkA] at hc
 | .op _ _,rem,seen,a,w,hc,_,_,_,_=>by simp [chkA] at hc
 | .stop,rem,seen,a,w,hc,_,hm,hr,hs=>by
  simp only [chkA,List.all_eq_true,Bool.or_eq_true,Bool.not_eq_true'] at hc;rcases hc e hm with h | h
  ·rw [hr] at h;cases h
  ·exact (hs (sU h)).elim
 | .ev i t alt,rem,seen,a,w,hc,hr,hm,Ox,hs=>by
  simp only [chkA,bc,Option.getD_some] at hc;simp only [runS] at hr;obtain ⟨⟨o,ho,aW⟩,hra⟩:=hr;by_cases EZ:i=e
  ·subst EZ;exact ⟨o,t,ho,hc.2.2.2.1,aW⟩
  ·exact Gx alt rem (i :: seen) a w hc.2.2.2.2 hra hm Ox (fun h=>by
    rcases dN h with h | h
    ·exact EZ h.symm
    ·exact hs h)
theorem LH (kg:∀ (j:Nat) (o:Oper) cs b,ops[j]? = some o->o.op ≠ .select cs b) (hP:Gv ops W=true) {i:Nat} {o:Oper} (hi:ops[i]? = some o) (hE:isE o.op=true) :
  ∀ (T:lL) (rem:List Nat) (a:Act) (w:World),rem.Nodup->Cl ops rem->chkA ops T rem none=true->runS P ops W C Q T a w->i∈rem->rdy ops rem i=true ->
   ez P ops o a w (fun a' w'=>(W i=false->C w->C w')/\UA P ops W C Q (rem.erase i) a' w')
 | .fin,rem,a,w,_,_,hc,_,vC,_=>by grind [chkA]
 | .stop,rem,a,w,_,_,hc,_,_,_=>by simp [chkA] at hc
 | .ev j t alt,rem,a,w,hn,fU,hc,hr,vC,Ox=>by
  simp only [chkA,bc,Option.getD_none] at hc;simp only [runS] at hr;obtain ⟨⟨y,hy,aW⟩,hra⟩:=hr;by_cases l9:i=j
  ·subst l9;rw [hi] at hy;simp only [oI] at hy;subst hy;exact fj (fun a' w' h=>⟨h.1,t,hc.2.2.2.1,h.2⟩) aW
  ·obtain ⟨o',t',Ko,Oq,hs⟩:=Gx alt rem [j] a w hc.2.2.2.2 hra vC Ox (sU l9);rw [hi] at Ko;simp only [oI] at Ko;subst Ko;exact fj (fun a' w' h=>⟨h.1,t',Oq,h.2⟩) hs
 | .op j t,rem,a,w,hn,fU,hc,hr,vC,Ox=>by
  simp only [chkA,bc,Bool.not_eq_true'] at hc;obtain ⟨_,CZ,hje,hjr,Oq⟩:=hc;have CZ:j∈rem:=sU CZ;simp only [runS] at hr;obtain ⟨y,hy,v,XX,hyc,mQ⟩:=hr;have l9:i≠j:=by grind [Dz]
  have Mm:=Gw hP fU Ox hjr vC CZ l9 (.inr hje);obtain ⟨VB,ap2,_,hLW⟩:=gW Mm hy hi;have O3:=fun cs b=>kg i o cs b hi;have hsy:=fun cs b=>kg j y cs b hy;have ih:=LH kg hP hi hE t (rem.erase j) (a.put y.dst v) w (hn.erase j) (y9 hn fU hjr) Oq mQ ((List.mem_erase_of_ne l9).2 vC) (pT Ox);refine fj ?_ (qO ((tF VB O3).1 ih));rintro a' w' ⟨⟨Mn,T',hT',hrT⟩,u,rfl⟩;refine ⟨Mn,.op j T',?_,?_⟩
  ·grind [chkA,pT]
  ·grind [runS,Yl.same]
theorem Gy {Q':Exit->Act->World->Prop} (kg:∀ (j:Nat) (o:Oper) cs b,ops[j]? = some o->o.op ≠ .select cs b) (hP:Gv ops W=true) (hb:∀ (i:Nat) (o:Oper),ops[i]? = some o->∀ e∈o.after,Region.binds .any e=true->e.on < ops.size)
  (hQ:∀ a w,Q a w->Q' .normal a w):∀ (mf:Nat) (bm:Array Bool) (rem:List Nat) (a:Act) (w:World),
  bm.size=ops.size->(∀ i,i∈rem↔i < ops.size/\bm.getD i true=false)->rem.Nodup->Cl ops rem->rem.length<=mf->UA P ops W C Q rem a w->wpAny P .any ops Q' mf bm a w:=by
 have UB:∀ (bm:Array Bool) (rem:List Nat),bm.size=ops.size->(∀ i,i∈rem↔i < ops.size/\bm.getD i true=false)->∀ i,i∈Region.ready .any ops bm↔i∈rem/\rdy ops rem i=true:=by
  intro bm rem bW vB i;have hl:∀ k,k < ops.size->(bm.getD k false=true↔k ∉ rem):=fun k hk=>by grind
  rw [mem_ready]
  grind [rdy,mD]
 intro mf
 induction mf with
 | zero=>
  intro bm rem a w bW vB hn fU hlen hr;have:rem=[]:=List.length_eq_zero_iff.1 (by omega);subst this;obtain ⟨T,hT,hrT⟩:=hr;refine ⟨?_,hQ _ _ ?_⟩
  ·rw [List.eq_nil_iff_forall_not_mem];intro i hi;cases ((UB bm [] bW vB i).1 hi).1
  ·cases T with
   | fin=>exact hrT
   | op i t=>simp [chkA] at hT
   | ev i t alt=>simp [chkA] at hT
   | stop=>simp [chkA] at hT
 | succ mf ih=>
  intro bm rem a w bW vB hn fU hlen hr;obtain ⟨T,hT,hrT⟩:=hr;refine ⟨fun h0=>?_,fun i hi=>?_⟩
  ·cases T with
   | fin=>exact hQ _ _ hrT
   | op i t=>
    exfalso;simp only [chkA,bc] at hT;have:=(UB bm rem bW vB i).2 ⟨by simpa using hT.2.1,hT.2.2.2.1⟩;rw [h0] at this;cases this
   | ev i t alt=>
    exfalso;simp only [chkA,bc] at hT;have:=(UB bm rem bW vB i).2 ⟨by simpa using hT.1,hT.2.2.1⟩;rw [h0] at this;cases this
   | stop=>simp [chkA] at hT
  ·obtain ⟨vC,hir⟩:=(UB bm rem bW vB i).1 hi;obtain ⟨o,ho,_⟩:=mD hir;have iw:=(Array.getElem?_eq_some_iff.1 ho).1
   have EQ:∀ k,k∈rem.erase i↔k < ops.size/\(bm.setIfInBounds i true).getD k true=false:=by
    intro k;rw [List.Nodup.mem_erase_iff hn];by_cases uT:k=i
    ·subst uT;simp [bW,iw]
    ·rw [getD_set_ne true (Ne.symm uT)]
     grind
   grind [UA,y9,AE,isE,fj,LH,BB,ly]
end
def goA (X:Ctx) (D:Dr):lL->Bool->List (Nat × Sl)->St->Prop
 | .fin,_,_,st=>go X 4000 D.k st
 | .op i t,c,s0,st=>
  match D.ops.toList[i]? with
  | some o=>goD X ⟨D.ops,D.W,D.k,D.jG,some (goA X D t)⟩ 3000 c [(i,o)] s0 st
  | none=>False
 | .ev i t alt,c,s0,st=>
  (match D.ops.toList[i]? with
  | some o=>goD X ⟨D.ops,D.W,D.k,D.jG,some (goA X D t)⟩ 3000 c [(i,o)] s0 st
  | none=>False)/\goA X D alt c s0 st
 | .stop,_,_,_=>True
def Rr (ops:Array Oper):Bool:=Region.noSelect ops && (List.range ops.size).all fun i=>match ops[i]? with | some o=>o.after.toList.all fun e=>!Region.binds .any e || Nat.blt e.on ops.size | none=>true
section
variable {X:Ctx} {D:Dw}
theorem BC (hD:vD D.E0 D.d.jG.bx D.wr) (hf:D.d.fin=none):∀ (T:lL) (rem:List Nat) m,chkA D.d.ops T rem m=true->∀ c s0 st,goA X D.d T c s0 st->∀ E a w,gv X D c E s0 st a w->runS X.P D.d.ops D.d.W D.C (D.Q X) T a w:=by
 intro T
 have ee:∀ (t:lL) (i:Nat) (o:Oper),D.d.ops[i]? = some o->(∀ c s0 st,goA X D.d t c s0 st->∀ E a w,gv X D c E s0 st a w->runS X.P D.d.ops D.d.W D.C (D.Q X) t a w)->∀ c s0 st,goD X ⟨D.d.ops,D.d.W,D.d.k,D.d.jG,some (goA X D.d t)⟩ 3000 c [(i,o)] s0 st->∀ E a w,gv X D c E s0 st a w ->
   runT X.P D.d.ops D.d.W D.C (fun a w=>runS X.P D.d.ops D.d.W D.C (D.Q X) t a w) [i] a w:=fun t i o ho ih c s0 st hg E a w h=>by
  have h1:=gw (D:=⟨⟨D.d.ops,D.d.W,D.d.k,D.d.jG,some (goA X D.d t)⟩,D.E0,D.wr⟩) hD 3000 c [(i,o)] s0 st hg (fun p hp=>by
   rw [List.mem_singleton] at hp;rw [hp]
   exact ho) E a w ⟨h.rel,h.x,h.β,h.t0,h.cc⟩
  refine pu ?_ h1;rintro a w ⟨c,E,s0,st,h2,h3⟩;exact ih c s0 st h3 E a w ⟨h2.rel,h2.x,h2.β,h2.t0,h2.cc⟩
 induction T with
 | fin=>
  intro rem m _ c s0 st hg E a w h;show D.Q X a w;unfold Dw.Q;rw [hf];exact go_sound 4000 _ _ hg E a w h.rel
 | stop=>intro rem m _ c s0 st hg E a w h;exact trivial
 | op i t ih=>
  intro rem m hc c s0 st hg E a w h;simp only [chkA,bc,Bool.not_eq_true'] at hc;simp only [goA] at hg;split at hg
  ·rename_i o ho;have ho:D.d.ops[i]? = some o:=sU ho;have h4:=ee t i o ho (ih _ _ hc.2.2.2.2) c s0 st hg E a w h;have hE:isE o.op=false:=by rw [<- Dz ho];exact hc.2.2.1
   simp only [runT,ho,hE,Bool.false_eq_true,if_false] at h4;exact ⟨o,ho,h4⟩
  ·exact hg.elim
 | ev i t alt ih1 ih2=>
  intro rem m hc c s0 st hg E a w h;simp only [chkA,bc] at hc;obtain ⟨hg,SQ⟩:=hg;refine ⟨?_,ih2 _ _ hc.2.2.2.2 c s0 st SQ E a w h⟩;split at hg
  ·rename_i o ho;have ho:D.d.ops[i]? = some o:=sU ho;have h4:=ee t i o ho (ih1 _ _ hc.2.2.2.1) c s0 st hg E a w h;have hE:isE o.op=true:=by rw [<- Dz ho];exact hc.2.1
   simp only [runT,ho,hE,if_true] at h4;exact ⟨o,ho,h4⟩
  ·exact hg.elim
theorem wy {id:Nat} {ops:Array Oper} {k:List It} {st:St} (W:Nat->Bool) (T:lL) (hm:X.P.follows .mixedOrders=true) (hc:(Rr ops && Gv ops W && chkA ops T (List.range ops.size) none)=true) (S:St)
  (h:goA X ⟨ops,W,[.wV fun s=>s=S∨ei s S],st,none⟩ T true st.sl st) (hk:go X 4000 k S):l6 X id ops k st:=by
 intro E a w hr;have lZ:=jK hr;simp only [bc] at hc;obtain ⟨⟨hN,hP⟩,hT⟩:=hc;simp only [Rr,bc,List.all_eq_true,List.mem_range] at hN;have hs:=nh lZ (ops:=ops) (W:=W) (k:=[.wV fun s=>s=S∨ei s S]);have ct:=BC (D:=⟨⟨ops,W,[.wV fun s=>s=S∨ei s S],st,none⟩,E,w.drew⟩) lZ.env.em rfl T _ _ hT true st.sl st h E a w.drew hs;refine wp_region_any hm ?_;refine Gy (C:=CC E st.bx w.drew) (Q:=kq X [.wV fun s=>s=S∨ei s S] .normal) (Region.noSelect_spec hN.1) hP (fun i o ho e he hb=>?_) (fun a w hq=>?_) ops.size (Array.replicate ops.size false) (List.range ops.size) a _ (by simp) ?_ List.nodup_range ?_ (by simp) ⟨T,hT,ct⟩
 ·have h1:=hN.2 i (Array.getElem?_eq_some_iff.1 ho).1;rw [ho] at h1;have h2:=List.all_eq_true.1 h1 e (sU he);rw [hb] at h2;simpa using h2
 ·obtain ⟨rn,E1,bS,hJ⟩:=hq;rcases hJ with rfl | hJ
  ·exact go_sound 4000 _ _ hk E1 a w bS
  ·exact go_sound 4000 _ _ hk E1 a w (rQ bS hJ)
 ·simp_all
 ·intro k o ho hk
  grind
end
end Dv
end Go.Proofs.YtgjagnmeonoehaaGreat
set_option maxRecDepth 100000
namespace Go.Proofs
open Go.Shelf
def Tryz.laysB_ren:Go.Shelf.Ren:=⟨fun | 240=>149 | 276=>217 | n=>n,fun | 9=>9 | 4=>4 | 0=>0 | 20=>20 | 72=>160 | 70=>157 | 37=>158 | 164=>316 | 5=>5 | n=>n,fun | n=>n⟩
theorem Tryz.laysB:Go.Proofs.Lays.n240 Tryz.prog Tryz.laysB_ren:={
 mixed:=by kernel_rfl
 f240:=Tryz.func149.trans (congrArg some (by kernel_rfl))
 f276:=Tryz.func217.trans (congrArg some (by kernel_rfl))
 t0:=Tryz.underlying0
 a0:=Tryz.isAgg0
 z0:=Tryz.sizeOf0
 v0:=Tryz.zeroValue0
 t4:=Tryz.underlying4
 a4:=Tryz.isAgg4
 z4:=Tryz.sizeOf4
 v4:=Tryz.zeroValue4
 t9:=Tryz.underlying9
 a9:=Tryz.isAgg9
 z9:=Tryz.sizeOf9
 v9:=Tryz.zeroValue9
 t20:=Tryz.underlying20
 a20:=Tryz.isAgg20
 z20:=Tryz.sizeOf20
 v20:=Tryz.zeroValue20
 t70:=Tryz.underlying157
 a70:=Tryz.isAgg157
 z70:=Tryz.sizeOf157
 v70:=Tryz.zeroValue157
 t72:=Tryz.underlying160
 a72:=Tryz.isAgg160
 z72:=Tryz.sizeOf160
 v72:=Tryz.zeroValue160
 t164:=Tryz.underlying316
 a164:=Tryz.isAgg316
 z164:=Tryz.sizeOf316
 v164:=Tryz.zeroValue316 }
theorem Tryz.laysBX:Builder.Extra Tryz.prog Tryz.laysB_ren:={
 sizeBuilder:=by kernel_rfl
 liesBuilder:=by kernel_rfl
 t5:=Tryz.underlying5
 a5:=Tryz.isAgg5
 z5:=Tryz.sizeOf5
 v5:=Tryz.zeroValue5
 infoByte:=by kernel_rfl
 cellsByte:=by kernel_rfl
 sizeByte:=by kernel_rfl
 neB5:=by decide }
end Go.Proofs
set_option maxRecDepth 100000
namespace Go.Proofs.YtgjagnmeonoehaaGreat
open Go Go.RowKit Go.Lib Dv Go.Proofs.Tryz
theorem nO {P:Program} (w:World) (t u ty e:TypeId) (i:TypeInfo) (ht:P.underlying t=some (.slice e)) (hu:P.underlying u=some .string) (hi:P.info? e=some i) (hz:i.zero=some (.int .u8 0))
  (l5:i.size=1) (vR:i.bytes=1) (v:Value) (n:Nat) (xs:List Value) (dJ:w.ownsRow 0 e 1 v n xs) (s:ByteArray) (SJ:n + s.size<=maxLen) (mS:n + s.size<=140737488355328) (hs:0 < s.size) :
  ∃ g cap w',(Builtin.append_ #[t,u] ty #[v,.string s]).run P w = .ok (.slice (some ⟨g,0,none⟩) (n + s.size) cap) w' /\ w'.ownsRow 0 e 1 (.slice (some ⟨g,0,none⟩) (n + s.size) cap) (n + s.size) (xs ++ strCells s)/\w.grownBy w' v.ownBlock /\
   ((v.ownBlock=some g)∨(w.heap.size<=g/\∀ k,k < w.heap.size->w'.heap[k]? = w.heap[k]?)):=by
 obtain ⟨v',w',hr,h2,h3,h4⟩:=Lib.run_append_own_string (P:=P) w 0 t u ty e i ht hu hi hz l5 vR v n xs dJ s SJ mS (Nat.zero_le _);have OG:n + s.size<=9223372036854775807:=by simp only [maxLen] at SJ;omega
 have zO:xs.length=n:=by simpa using dJ.1
 rcases dJ.2 with ⟨rfl,rfl⟩ | ⟨g,cap,cur,rfl,hbg,hg,zS,hcm,hcs,htake⟩
 ·have oi:=run_append_nil_string (P:=P) w t u ty e i (.int .u8 0) ht hu hi hz s hs (by omega) (by rw [vR];omega);rw [oi] at hr;injection hr with e1 e2
  subst e1;simp only [Nat.zero_add] at *;exact ⟨_,_,w',by rw [oi,e2],h2,h3,.inr ⟨aV _,fun k hk=>by rw [<- e2];exact Below.heap_alloc w.drew _ k hk⟩⟩
 ·by_cases Kh:n + s.size<=cap
  ·have hcs':cur.size=cap:=sU hcs;have oi:=Lib.run_append_room_string (P:=P) w t u ty e i ht hu hi l5 g n cap cur hg s Kh (by omega);rw [oi] at hr;injection hr with e1 e2
   subst e1;exact ⟨_,_,w',by rw [oi,e2],h2,h3,.inl rfl⟩
  ·have holds:∀ j u,xs[j]? = some u->w.cell? ((⟨g,0,none⟩:Addr).add j)=some u:=dJ.cells (g:=g) rfl;have oi:=Lib.run_append_grow_string (P:=P) w t u ty e i (.int .u8 0) ht hu hi hz ⟨g,0,none⟩ n cap xs (by rw [l5];simpa using zO) holds s (by omega) (by omega) (by rw [vR];exact growslice_fits (by omega) (by omega));rw [oi] at hr;injection hr with e1 e2
   subst e1;exact ⟨_,_,w',by rw [oi,e2],h2,h3,.inr ⟨aV _,fun k hk=>by rw [<- e2];exact Below.heap_alloc w.drew _ k hk⟩⟩
theorem Gz {w:World} {b:Nat} {o:Obj} (h:w.heap[b]? = some o):World.dh w b o=w:=by
 obtain ⟨hb,hg⟩:=Array.getElem?_eq_some_iff.1 h;have e:w.heap.setIfInBounds b o=w.heap:=by grind
 show { w with heap:=w.heap.setIfInBounds b o }=w;rw [e]
abbrev uA (w:World) (b:Nat) (v:Value):World:=World.dh w b (.cells #[.pointer (some ⟨b,0,none⟩),v] 160 (0,0))
theorem Rs (b:Nat) (p v:Value) (w:World) (hp:p = .pointer none∨p = .pointer (some ⟨b,0,none⟩)) (rq:w.heap[b]? = some (.cells #[p,v] 160 (0,0))) :
  Calls prog 149 #[.pointer (some ⟨b,0,none⟩)] w fun e w'=>e = .returned (.tuple #[])/\w'=uA w b v:=by
 rcases hp with rfl | rfl
 ·refine (Any.Builder_copyCheck_fresh Tryz.laysB Tryz.laysBX.toX72 b w (by rw [Lib.cell_of_heap rq];rfl) (by simp [World.shape?,rq,Tryz.laysB_ren]) (by simp [World.frozen?,rq])).mono ?_;rintro e w' ⟨rfl,rfl⟩;exact ⟨rfl,by rw [kG rq];rfl⟩
 ·refine (Any.Builder_copyCheck_used Tryz.laysB Tryz.laysBX.toX72 b w (by rw [Lib.cell_of_heap rq];rfl)).mono ?_;rintro e w' ⟨rfl,rfl⟩;exact ⟨rfl,(Gz rq).symm⟩
theorem re {P:Program} {w:World} {ops:Array Oper} {rest:List Oper} {o:Oper} {a:Act} {Q:Exit->Act->World->Prop} (Mk:o.guard=none) (sl x:Operand) (t u:TypeId)
  (ho:o.op = .call { callee:=.builtin .append,args:=#[sl,x],argTypes:=#[t,u] })
  (e:TypeId) (i:TypeInfo) (ht:P.underlying t=some (.slice e)) (hu:P.underlying u=some .string) (hi:P.info? e=some i) (hz:i.zero=some (.int .u8 0))
  (l5:i.size=1) (vR:i.bytes=1)
  (v:Value) (n:Nat) (xs:List Value) (hs:a.eval sl=v) (dJ:w.ownsRow 0 e 1 v n xs) (s:ByteArray) (hx:a.eval x = .string s)
  (SJ:n + s.size<=maxLen) (mS:n + s.size<=140737488355328) (jk:0 < s.size)
  (h:∀ g cap w',w'.ownsRow 0 e 1 (.slice (some ⟨g,0,none⟩) (n + s.size) cap) (n + s.size) (xs ++ strCells s)->w.grownBy w' v.ownBlock->((v.ownBlock=some g)∨(w.heap.size<=g/\∀ k,k < w.heap.size->w'.heap[k]? = w.heap[k]?)) ->
   wpList P ops Q rest (a.put o.dst (.slice (some ⟨g,0,none⟩) (n + s.size) cap)) w'):wpList P ops Q (o :: rest) a w:=by
 refine wpList_plain Mk fun K hK=>?_;obtain ⟨g,cap,w',hr,h2,h3,h4⟩:=nO (P:=P) w t u o.type e i ht hu hi hz l5 vR v n xs dJ s SJ mS jk;unfold Oper.wp execOp;simp only [ho,resolve,invoke,builtin,Sem.run_bind,Sem.run_pure,Result.andThen_ok,List.map_toArray,List.map_cons,List.map_nil,hs,hx,hr];exact hK _ _ (h g cap w' h2 h3 h4)
def Rt (ret:Value) (w:World) (b:Nat) (v:Value) (n:Nat) (xs:List Value) (s:ByteArray) (e:Ending) (w':World):Prop:=
 e = .returned ret/\∃ g cap w2,w2.ownsRow 0 5 1 (.slice (some ⟨g,0,none⟩) (n + s.size) cap) (n + s.size) (xs ++ strCells s)/\(uA w b v).grownBy w2 v.ownBlock /\
  ((v.ownBlock=some g)∨((uA w b v).heap.size<=g/\∀ k,k < (uA w b v).heap.size->w2.heap[k]? = (uA w b v).heap[k]?)) /\
  w'=World.dh w2 b (.cells #[.pointer (some ⟨b,0,none⟩),.slice (some ⟨g,0,none⟩) (n + s.size) cap] 160 (0,0))
theorem LI {w:World} {b e n:Nat} {v:Value} {xs:List Value} {o:Obj} (h:w.ownsRow 0 e 1 v n xs) (bA:v.ownBlock≠some b):(World.dh w b o).ownsRow 0 e 1 v n xs:=by
 refine ⟨h.1,?_⟩;rcases h.2 with h | ⟨g,cap,cur,rfl,h1,h2,h3⟩
 ·exact .inl h
 ·refine .inr ⟨g,cap,cur,rfl,h1,?_,h3⟩;rw [cT]
  ·exact h2
  ·rintro rfl;exact bA rfl
set_option maxHeartbeats 2000000 in
theorem Zh (b:Nat) (p v:Value) (n:Nat) (xs:List Value) (s:ByteArray) (w:World) (hp:p = .pointer none∨p = .pointer (some ⟨b,0,none⟩)) (rq:w.heap[b]? = some (.cells #[p,v] 160 (0,0)))
  (dJ:w.ownsRow 0 5 1 v n xs) (bA:v.ownBlock≠some b) (hs:0 < s.size) (hlen:n + s.size<=140737488355328) :
  Calls prog 74 #[.pointer (some ⟨b,0,none⟩),.string s] w (Rt (.tuple #[.int .i64 s.size,.nilIface]) w b v n xs s):=by
 obtain ⟨i0,hi,hz0,hz1,QF⟩:=info_parts Tryz.laysBX.infoByte
 go_enter func74,ntmps74
 go_wp2_with (go_at_call 149;refine (Rs b p v _ hp rq).mono ?_)
 rintro e w1 ⟨rfl,rfl⟩;have lP:(uA w b v).heap[b]? = some (.cells #[.pointer (some ⟨b,0,none⟩),v] 160 (0,0)):=eZ rq;have W7:(uA w b v).ownsRow 0 5 1 v n xs:=LI dJ bA;have c0:(uA w b v).cell? ⟨b,0,none⟩=some (.pointer (some ⟨b,0,none⟩)):=by rw [Lib.cell_of_heap lP];all_goals rfl
 have c1:(uA w b v).cell? ⟨b,1,none⟩=some v:=by rw [Lib.cell_of_heap lP];all_goals rfl
 have aq:b < (uA w b v).heap.size:=dD lP;obtain ⟨W1,hW1⟩:∃ W1,W1=uA w b v:=⟨_,rfl⟩;rw [<- hW1] at lP W7 c0 c1 aq ⊢;have HW:=Lib.hid hW1;clear hW1
 go_wp2_with (at_builtin;refine re rfl _ _ 158 9 rfl 5 i0 Tryz.underlying158 Tryz.underlying9 hi hz0 hz1 QF _ _ _ rfl W7 s rfl ?c3 ?c4 hs ?_)
 case c3=>unfold maxLen;omega
 case c4=>omega
 intro g cap w2 ad0 GA Kp
 have iQ:w2.heap[b]? = some (.cells #[.pointer (some ⟨b,0,none⟩),v] 160 (0,0)):=by
  rw [GA.block b aq (fun e=>bA e.symm)];exact lP
 have d0:w2.cell? ⟨b,0,none⟩=some (.pointer (some ⟨b,0,none⟩)):=by rw [Lib.cell_of_heap iQ];all_goals rfl
 have d1:w2.cell? ⟨b,1,none⟩=some v:=by rw [Lib.cell_of_heap iQ];all_goals rfl
 have f1:w2.frozen? ⟨b,1,none⟩=false:=Lib.frozen_of_heap iQ 1
 go_wp2
 go_ret2
 refine ⟨rfl,g,cap,w2,ad0,by rw [<- HW.out];exact GA,by rw [<- HW.out];exact Kp,?_⟩;rw [kG iQ];rfl
set_option maxHeartbeats 1000000 in
theorem Zi (b g cap:Nat) (p:Value) (l:List UInt8) (cur:Array Value) (w:World) (h0:l ≠ []) (rq:w.heap[b]? = some (.cells #[p,.slice (some ⟨g,0,none⟩) l.length cap] 160 (0,0)))
  (hg:w.heap[g]? = some (.cells cur 5 (0,0))) (zS:l.length<=cap) (hcm:cap<=maxLen) (hcs:cur.size=cap * 1) (htake:cur.toList.take (l.length * 1)=Lib.byteCells l) :
  Calls prog 76 #[.pointer (some ⟨b,0,none⟩)] w fun e w'=>e = .returned (.string ⟨l.toArray⟩)/\w'=w.drew.freeze ⟨g,0,none⟩ l.length:=by
 have KC:l.length≠0:=sU h0;have dJ:w.ownsRow 0 5 1 (.slice (some ⟨g,0,none⟩) l.length cap) l.length (Lib.byteCells l):=⟨by rw [Lib.byteCells_length,Nat.mul_one],.inr ⟨g,cap,cur,rfl,Nat.zero_le _,hg,zS,hcm,hcs,htake⟩⟩
 have c1:w.drew.cell? ⟨b,1,none⟩=some (.slice (some ⟨g,0,none⟩) l.length cap):=by
  have:w.drew.heap[b]? = some (.cells #[p,.slice (some ⟨g,0,none⟩) l.length cap] 160 (0,0)):=rq;rw [Lib.cell_of_heap this];all_goals rfl
 have hSD:(Builtin.unsafeSliceData_ #[158] 258 #[.slice (some ⟨g,0,none⟩) l.length cap]).run prog w.drew = .ok (.pointer (some ⟨g,0,none⟩)) w.drew:=
  Lib.run_unsafeSliceData_row _ _ _ _ _ _ (by omega)
 have hUS:(Builtin.unsafeString_ #[258,3] 9 #[.pointer (some ⟨g,0,none⟩),.int .i64 l.length]).run prog w.drew = .ok (.string ⟨l.toArray⟩) (w.drew.freeze ⟨g,0,none⟩ l.length):=by
  refine Lib.run_unsafeString_row w.drew 258 3 9 5 Tryz.underlying258 (by kernel_rfl) g cur.size (by have rm:w.drew.heap[g]? = some (.cells cur 5 (0,0)):=hg;simp [World.shape?,rm]) l h0 (by omega) (by unfold maxLen at hcm;omega) ?_;intro j x hx;have:=dJ.cells (g:=g) rfl j (.int .u8 x.toNat) (by simp [Lib.byteCells,hx]);exact this
 clear dJ htake hcs hg;have mixed:=mo
 go_enter func76,ntmps76
 go_wp2
 go_region_o
 all_goals (go_wp2;go_ret;exact ⟨rfl,rfl⟩)
end Go.Proofs.YtgjagnmeonoehaaGreat
set_option maxRecDepth 100000
namespace Go.Proofs.YtgjagnmeonoehaaGreat
open Go Go.RowKit Dv Go.Proofs.Tryz
def bD (l:List UInt8):List (List DV):=l.map fun c=>[DV.v (.int .u8 c.toNat)]
theorem uB (l:List UInt8):(bD l).length=l.length:=by simp [bD]
theorem Ru {E:En}:∀ l:List UInt8,RvC E (bD l).flatten (Lib.byteCells l)
 | []=>⟨cV _,by simp [Lib.byteCells]⟩
 | c :: r=>by
  obtain ⟨h1,h2⟩:=Ru (E:=E) r;refine ⟨?_,fun v hv=>?_⟩
  ·simp only [bD,List.map_cons,List.flatten_cons,List.cons_append,List.nil_append,Lib.byteCells];exact rvL_cons (by unfold Rv;exact ⟨rfl,rfl⟩) h1
  ·simp only [Lib.byteCells,List.map_cons,List.mem_cons] at hv;rcases hv with rfl | hv
   ·rfl
   ·exact h2 v hv
theorem LJ {E:En}:∀ {l:List UInt8} {arr:List Value},RvL E (bD l).flatten arr->arr=Lib.byteCells l
 | [],arr,h=>by simpa [bD,RvL,Lib.byteCells] using h
 | c :: r,arr,h=>by
  simp only [bD,List.map_cons,List.flatten_cons,List.cons_append,List.nil_append,RvL] at h;obtain ⟨v,s,rfl,h1,h2⟩:=h;unfold Rv at h1;rw [h1.1,LJ (l:=r) h2];rfl
theorem strCells_eq (s:ByteArray):Lib.strCells s=Lib.byteCells s.data.toList:=rfl
theorem Rw {X:Ctx} {E:En} {st:St} {a:Act} {w:World} (h:Rel X E st a w) {kt:Nat} {l:List UInt8} {cv:Value} (hl:l ≠ []) (jl:st.tk[kt]? = some ⟨l.length,5,1,none⟩) (hv:Rv E (.sl 1 (bD l) (some kt)) cv) :
  ∃ g cap cur,cv = .slice (some ⟨g,0,none⟩) l.length cap/\w.heap[g]? = some (.cells cur 5 (0,0))/\l.length<=cap/\cap<=maxLen/\cur.size=cap * 1/\cur.toList.take (l.length * 1)=Lib.byteCells l/\g ∉ E.β/\E.τ[kt]? = some cv:=by
 have bA:bD l ≠ []:=by grind [uB]
 have jk:0 < l.length:=List.length_pos_iff.2 hl;unfold Rv at hv;obtain ⟨bs,ns,mb,rfl,⟨rfl,EA⟩,SO,xm⟩:=hv;rw [uB] at EA;obtain ⟨q,hq,_,hτ⟩:=xm kt rfl;rw [h.tk,jl] at hq;simp only [oI] at hq;subst hq;have hy:=hτ (uB l);rcases h.env.bO kt _ _ (by rw [h.tk];exact jl) hy with ⟨po,p9⟩ | ⟨g,cap,cur,po,hw0,s7,zS,hcm,iv,HV⟩
 ·simp only at p9;omega
 ·injection po with i1 i2 i3
  subst i1 i3;refine ⟨g,mb,cur,by rw [uB],hw0,zS,hcm,s7.1,?_,iv,by rw [hy]⟩;obtain ⟨_,Tf⟩:=SO bA;obtain ⟨Mi,lP,iQ,Kt⟩:=Tf.wY;have ha:=LJ lP.1;subst ha;apply List.ext_getElem?;intro j;rw [uB] at iQ;rcases Nat.lt_or_ge j (Lib.byteCells l).length with hj | hj
  ·have h5:=h.env.sub _ _ (Kt j _ (gE hj));simp only [ab,ao,Nat.zero_add] at h5;rw [cC hw0] at h5;rw [cR,ap (by omega),gE hj];simpa using h5
  ·grind
theorem UC {X:Ctx} {E:En} {st:St} {a:Act} {w:World} (h:Rel X E st a w) {kt:Nat} {l:List UInt8} {cv:Value} (jl:st.tk[kt]? = some ⟨l.length,5,1,none⟩) (hv:Rv E (.sl 1 (bD l) (some kt)) cv) :
  w.ownsRow 0 5 1 cv l.length (Lib.byteCells l)/\E.τ[kt]? = some cv/\∀ b∈E.β,cv.ownBlock≠some b:=by
 cases l with
 | cons c r=>
  obtain ⟨g,cap,cur,rfl,hg,zS,hcm,hcs,htake,hgb,hτ⟩:=Rw h (List.cons_ne_nil c r) jl hv;refine ⟨⟨by rw [Lib.byteCells_length,Nat.mul_one],.inr ⟨g,cap,cur,rfl,Nat.zero_le _,hg,zS,hcm,hcs,htake⟩⟩,hτ,fun b hb he=>?_⟩;simp only [Value.ownBlock,oI] at he;exact hgb (he ▸ hb)
 | nil=>
  unfold Rv at hv;obtain ⟨bs,ns,mb,rfl,⟨rfl,EA⟩,SO,xm⟩:=hv;obtain ⟨q,hq,_,hτ⟩:=xm kt rfl;rw [h.tk,jl] at hq;simp only [oI] at hq;subst hq;have hy:=hτ rfl;rcases h.env.bO kt _ _ (by rw [h.tk];exact jl) hy with ⟨po,p9⟩ | ⟨g,cap,cur,po,hw0,s7,zS,hcm,iv,HV⟩
  ·rw [po] at hy ⊢;exact ⟨⟨rfl,.inl ⟨rfl,rfl⟩⟩,hy,fun b _ he=>by simp [Value.ownBlock] at he⟩
  ·rw [po] at hy ⊢;refine ⟨⟨rfl,.inr ⟨g,cap,cur,rfl,Nat.zero_le _,hw0,zS,hcm,s7.1,by simp [Lib.byteCells]⟩⟩,hy,fun b hb he=>?_⟩;simp only [Value.ownBlock,oI] at he;exact iv (he ▸ hb)
theorem Rx {f:FuncId} {xd rd:DV} {ret:Value} {X:Ctx} {st:St} {k:List It} (hP:X.P=prog) {i kt d:Nat} {p c:DV} {l:List UInt8} {s:ByteArray} {cM:List TkE} (hbt:(i,160)∈X.bt) (mO:st.bx[i]? = some [p,c])
  (hp:p = .v (.pointer none)∨p = .loc i 0)
  (hc:(c = .v (.slice none 0 0)/\l=[]/\kt=st.tk.length/\cM=st.tk ++ [⟨s.size,5,1,none⟩])∨(c = .sl 1 (bD l) (some kt)/\st.tk[kt]? = some ⟨l.length,5,1,none⟩/\cM=st.tk.set kt ⟨l.length + s.size,5,1,none⟩))
  (lm:Enters prog f) (Ox:∀ E,Rv E rd ret)
  (xe:∀ (E:En) (b n:Nat) (p v x:Value) (xs:List Value) (w:World),Rv E xd x->p = .pointer none∨p = .pointer (some ⟨b,0,none⟩)->w.heap[b]? = some (.cells #[p,v] 160 (0,0))->w.ownsRow 0 5 1 v n xs->v.ownBlock≠some b->n + s.size<=140737488355328->Calls prog f #[.pointer (some ⟨b,0,none⟩),x] w (Rt ret w b v n xs s))
  (hs:0 < s.size) (hlen:l.length + s.size<=140737488355328) (hd:eJ X.nt st.sl (some d)=true)
  (hk:go X 4000 k ⟨(d,⟨[],rd⟩) :: st.sl,st.bx.set i [.loc i 0,.sl 1 (bD (l ++ s.data.toList)) (some kt)],cM⟩)
  (aW:X.still=false:=by exact rfl):CallG X f [.loc i 0,xd] (some d) k st:=by
 refine ⟨?_,aW,fun E a w vs h hv=>?_⟩
 ·rw [hP];exact lm
 rw [hP];simp only [RvL] at hv;obtain ⟨v1,vr,rfl,h1,v2,vr2,rfl,h2,rfl⟩:=hv;unfold Rv at h1;obtain ⟨b,hb,rfl⟩:=h1;obtain ⟨b',ty,arr,fD,hw,qJ⟩:=h.env.eM i _ mO;rw [hb] at fD;simp only [oI] at fD;subst fD;obtain ⟨VE,za⟩:=h.bt _ hbt b hb;rw [hw] at za;simp only [oI,Obj.cells.injEq] at za;have SM:ty=160:=za.2.1;subst SM;obtain ⟨hr,ho⟩:=qJ;simp only [RvL] at hr;obtain ⟨pv,r1,rfl,hpv,cv,r2,rfl,W8,rfl⟩:=hr
 have hpv':pv = .pointer none∨pv = .pointer (some ⟨b,0,none⟩):=by
  rcases hp with rfl | rfl
  ·exact .inl (cj hpv)
  ·unfold Rv at hpv;obtain ⟨b2,iQ,rfl⟩:=hpv;rw [hb] at iQ;simp only [oI] at iQ;subst iQ;exact .inr rfl
 have AG:b∈E.β:=mG hb;have LK:st.tk.length=E.tk.length:=by rw [h.tk]
 have key:∃ xs:List Value,xs=Lib.byteCells l/\w.ownsRow 0 5 1 cv l.length xs/\cv.ownBlock≠some b /\
   ((∃ q,E.tk[kt]? = some q/\E.τ[kt]? = some cv/\q.n=l.length/\q.ty=5/\q.e=1/\q.own=none)∨(E.tk[kt]? = none/\E.τ[kt]? = none/\cv = .slice none 0 0/\l.length=0)) /\
   cM[kt]? = some ⟨l.length + s.size,5,1,none⟩/\(∀ j,j≠kt->cM[j]? = E.tk[j]?)/\(∀ y:Value,∃ τ':List Value,τ'[kt]? = some y/\τ'.length=cM.length/\∀ j,j≠kt->τ'[j]? = E.τ[j]?):=by
  rcases hc with ⟨rfl,rfl,rfl,rfl⟩ | ⟨rfl,jl,rfl⟩
  ·have:=cj W8;subst this;refine ⟨_,rfl,⟨rfl,.inl ⟨rfl,rfl⟩⟩,by simp [Value.ownBlock],.inr ⟨?_,?_,rfl,rfl⟩,?_,?_,?_⟩
   ·rw [LK];simp
   ·rw [LK,<- h.env.tl];simp
   ·simp
   ·intro j hj;rw [h.tk];rcases Nat.lt_or_ge j st.tk.length with h1 | h1
    ·rw [dc h1]
    ·grind
   ·intro y;refine ⟨E.τ ++ [y],?_,by simp [h.env.tl,h.tk],fun j hj=>?_⟩
    ·rw [LK,<- h.env.tl];simp
    ·rcases Nat.lt_or_ge j E.τ.length with h1 | h1
     ·rw [dc h1]
     ·rw [kE (l:=E.τ) h1];have:=h.env.tl;exact kE (by simp;omega)
  ·obtain ⟨dJ,hτ,Zj⟩:=UC h jl W8;have gl:=(gS jl).1;refine ⟨_,rfl,dJ,Zj b AG,.inl ⟨_,by rw [h.tk];exact jl,hτ,rfl,rfl,rfl,rfl⟩,?_,?_,?_⟩
   ·rw [gz gl]
   ·intro j hj;rw [List.getElem?_set_ne (Ne.symm hj),h.tk]
   ·intro y;refine ⟨E.τ.set kt y,?_,by simp [h.env.tl,h.tk],fun j hj=>List.getElem?_set_ne (Ne.symm hj)⟩;rw [gz];rw [h.env.tl,<- LK];exact gl
 obtain ⟨xs,rfl,dJ,bA,Eb,ad2,qg,hτ⟩:=key;refine (xe E b l.length pv cv v2 (Lib.byteCells l) w h2 hpv' hw dJ bA hlen).mono ?_;rintro e w' ⟨rfl,g,cap,w2,LL,GA,Kp,rfl⟩;obtain ⟨τ',hτ1,ZU,Ol⟩:=hτ (.slice (some ⟨g,0,none⟩) (l.length + s.size) cap);have Ws:Rv E (.loc i 0) (.pointer (some ⟨b,0,none⟩)):=by unfold Rv;exact ⟨b,hb,rfl⟩
 have r1:Rel X E ⟨st.sl,st.bx.set i [.loc i 0,c],st.tk⟩ a (uA w b cv):=
  ma h aW hb (cs':=[.loc i 0,c]) (arr':=[.pointer (some ⟨b,0,none⟩),cv]) ⟨rvL_cons Ws (rvL_one W8),by
   intro v hv;simp only [List.mem_cons,List.not_mem_nil,or_false] at hv;rcases hv with rfl | rfl
   ·rfl
   ·exact ho v (by simp)⟩ ⟨_,hw⟩
 obtain ⟨r2,hext,ow⟩:=Eu r1 aW Eb hs (by omega) ad2 hτ1 ZU qg Ol (LI dJ bA) LL GA Kp;have iQ:(uA w b cv).heap[b]? = some (.cells #[.pointer (some ⟨b,0,none⟩),cv] 160 (0,0)):=eZ hw
 have Kt:w2.heap[b]? = some (.cells #[.pointer (some ⟨b,0,none⟩),cv] 160 (0,0)):=by
  rw [GA.block b (dD iQ) (fun e=>bA e.symm)];exact iQ
 have Zk:Rv (⟨iy E.c w2 g ((l.length + s.size) * 1),E.β,cM,τ'⟩:En) (.sl 1 (bD (l ++ s.data.toList)) (some kt)) (.slice (some ⟨g,0,none⟩) (l.length + s.size) cap):=by
  have ov:s.data.toList.length=s.size:=by rw [Array.length_toList];all_goals rfl
  unfold Rv;refine ⟨_,_,_,rfl,⟨by rw [uB,List.length_append,ov],?_⟩,fun _=>⟨rfl,?_⟩,?_⟩
  ·rcases LL.2 with ⟨hv,_⟩ | ⟨_,_,_,hv,_,_,zS,_⟩
   ·cases hv
   ·injection hv with _ _ i3
    omega
  ·refine rvEs_flat (arr:=Lib.byteCells (l ++ s.data.toList)) (Ru _) (fun cs hcm=>?_) fun j u hj=>?_
   ·grind [bD]
   ·simp only [ab,ao,Nat.zero_add];refine ow j u ?_;rw [strCells_eq];simpa [Lib.byteCells] using hj
  ·intro k' fH;cases fH;exact ⟨_,ad2,aV _,fun _=>hτ1⟩
 have r3:=ma r2 aW (i:=i) (b:=b) hb (cs':=[.loc i 0,.sl 1 (bD (l ++ s.data.toList)) (some kt)]) (arr':=[.pointer (some ⟨b,0,none⟩),.slice (some ⟨g,0,none⟩) (l.length + s.size) cap])
  ⟨rvL_cons (by unfold Rv;exact ⟨b,hb,rfl⟩) (rvL_one Zk),by
   intro v hv;simp only [List.mem_cons,List.not_mem_nil,or_false] at hv
   rcases hv with rfl | rfl<;>rfl⟩ ⟨_,Kt⟩
 simp only [List.set_set] at r3;exact go_sound 4000 _ _ hk _ _ _ (bi r3 hd rd _ (Ox _))
theorem UD {X:Ctx} {st:St} {k:List It} (hP:X.P=prog) {i kt d:Nat} {p c:DV} {l:List UInt8} {s:ByteArray} {cM:List TkE} (hbt:(i,160)∈X.bt) (mO:st.bx[i]? = some [p,c])
  (hp:p = .v (.pointer none)∨p = .loc i 0)
  (hc:(c = .v (.slice none 0 0)/\l=[]/\kt=st.tk.length/\cM=st.tk ++ [⟨s.size,5,1,none⟩])∨(c = .sl 1 (bD l) (some kt)/\l ≠ []/\st.tk[kt]? = some ⟨l.length,5,1,none⟩/\cM=st.tk.set kt ⟨l.length + s.size,5,1,none⟩))
  (hs:0 < s.size) (hlen:l.length + s.size<=140737488355328) (hd:eJ X.nt st.sl (some d)=true)
  (hk:go X 4000 k ⟨(d,⟨[],.tup [.v (.int .i64 s.size),.v .nilIface]⟩) :: st.sl,st.bx.set i [.loc i 0,.sl 1 (bD (l ++ s.data.toList)) (some kt)],cM⟩)
  (aW:X.still=false:=by exact rfl):CallG X 74 [.loc i 0,.v (.string s)] (some d) k st:=
 Rx hP hbt mO hp (hc.imp_right fun h=>⟨h.1,h.2.2⟩) en74 (fun E=>by unfold Rv;exact ⟨_,rfl,rvL_cons (by unfold Rv;exact ⟨rfl,rfl⟩) (rvL_one (by unfold Rv;exact ⟨rfl,rfl⟩))⟩)
  (fun E b n p v x xs w hx h1 h2 h3 h4 h5=>by
   have:=cj hx;subst this
   exact Zh b p v n xs s w h1 h2 h3 h4 hs h5) hs hlen hd hk aW
theorem mE {X:Ctx} {st:St} {k:List It} (hP:X.P=prog) {i kt d:Nat} {p c:DV} {l:List UInt8} {s:ByteArray} {cM:List TkE} (l':List UInt8) (zW:l'=l ++ s.data.toList) (hbt:(i,160)∈X.bt) (mO:st.bx[i]? = some [p,c])
  (hp:p = .v (.pointer none)∨p = .loc i 0)
  (hc:(c = .v (.slice none 0 0)/\l=[]/\kt=st.tk.length/\cM=st.tk ++ [⟨l'.length,5,1,none⟩])∨(c = .sl 1 (bD l) (some kt)/\l ≠ []/\st.tk[kt]? = some ⟨l.length,5,1,none⟩/\cM=st.tk.set kt ⟨l'.length,5,1,none⟩))
  (hs:0 < s.size) (hlen:l'.length<=140737488355328) (hd:eJ X.nt st.sl (some d)=true)
  (hk:go X 4000 k ⟨(d,⟨[],.tup [.v (.int .i64 s.size),.v .nilIface]⟩) :: st.sl,st.bx.set i [.loc i 0,.sl 1 (bD l') (some kt)],cM⟩)
  (aW:X.still=false:=by exact rfl):CallG X 74 [.loc i 0,.v (.string s)] (some d) k st:=by
 have hn:l'.length=l.length + s.size:=by rw [zW,List.length_append,Array.length_toList];all_goals rfl
 subst zW;refine UD hP hbt mO hp ?_ hs (by omega) hd hk aW;rcases hc with ⟨h1,h2,h3,h4⟩ | ⟨h1,h2,h3,h4⟩
 ·grind
 ·exact .inr ⟨h1,h2,h3,by rw [h4,hn]⟩
theorem GB {w:World} {g n:Nat} (x:Addr):(w.freeze ⟨g,0,none⟩ n).cell? x=w.cell? x:=by
 unfold World.freeze;split
 ·rfl
 ·simp only [World.cell?,Array.getElem?_modify]
  grind
theorem DA {w:World} {g n k:Nat} (h:k≠g):(w.freeze ⟨g,0,none⟩ n).heap[k]? = w.heap[k]?:=by
 unfold World.freeze
 grind
theorem DB {w:World} {g n:Nat}:(w.freeze ⟨g,0,none⟩ n).os=w.os/\(w.freeze ⟨g,0,none⟩ n).tape=w.tape/\(w.freeze ⟨g,0,none⟩ n).output=w.output/\(w.freeze ⟨g,0,none⟩ n).heap.size=w.heap.size:=by
 unfold World.freeze
 grind
theorem LM {X:Ctx} {st:St} {k:List It} (hP:X.P=prog) {i kt d:Nat} {p:DV} {l:List UInt8} (hbt:(i,160)∈X.bt) (mO:st.bx[i]? = some [p,.sl 1 (bD l) (some kt)])
  (hl:l ≠ []) (jl:st.tk[kt]? = some ⟨l.length,5,1,none⟩) (p9:X.n0=0) (om:X.m0=0) (hd:eJ X.nt st.sl (some d)=true)
  (hk:go X 4000 k ⟨[(d,⟨[],.v (.string ⟨l.toArray⟩)⟩)],[],[]⟩) (aW:X.still=false:=by exact rfl):CallG X 76 [.loc i 0] (some d) k st:=by
 refine ⟨?_,aW,fun E a w vs h hv=>?_⟩
 ·rw [hP];exact aa6
 rw [hP];simp only [RvL] at hv;obtain ⟨v1,vr,rfl,h1,rfl⟩:=hv;unfold Rv at h1;obtain ⟨b,hb,rfl⟩:=h1;obtain ⟨b',ty,arr,fD,hw,qJ⟩:=h.env.eM i _ mO;rw [hb] at fD;simp only [oI] at fD;subst fD;obtain ⟨VE,za⟩:=h.bt _ hbt b hb;rw [hw] at za;simp only [oI,Obj.cells.injEq] at za;have SM:ty=160:=za.2.1;subst SM;obtain ⟨hr,ho⟩:=qJ;simp only [RvL] at hr;obtain ⟨pv,r1,rfl,hpv,cv,r2,rfl,W8,rfl⟩:=hr;obtain ⟨g,cap,cur,rfl,hg,zS,hcm,hcs,htake,hgb,hτ⟩:=Rw h hl jl W8;refine (Zi b g cap pv l cur w hl hw hg zS hcm hcs htake).mono ?_;rintro e w' ⟨rfl,rfl⟩;obtain ⟨k1,k2,k3,k4⟩:=DB (w:=w.drew) (g:=g) (n:=l.length);have hE0:X.E0.β=[]:=List.eq_nil_of_length_eq_zero (by rw [X.p9,p9]);have Ry:X.E0.tk=[]:=List.eq_nil_of_length_eq_zero (by rw [X.om,om]);have Cj:X.w0.heap.size<=g:=h.nw.tn kt _ g (by rw [Ry];exact Nat.zero_le _) hτ rfl
 let E':En:=⟨E.c,[],[],[]⟩
 have bS:Rel X E' ⟨[],[],[]⟩ a (w.drew.freeze ⟨g,0,none⟩ l.length):={
  env:={
   len:=rfl
   tl:=rfl
   eM:=by simp
   inj:=List.nodup_nil
   sub:=fun x v hx=>by rw [GB];exact h.env.sub x v hx
   pc:=by simp [E']
   bO:=by simp [E']
   je:=by simp [E'] }
  tk:=rfl
  sz:=h.sz
  tm:=fun i x hx=>by cases hx
  df:=h.df
  nw:={
   c:=fun x v hx=>h.nw.c x v hx
   cn:=fun x v hx=>h.nw.cn x v hx
   β:=⟨[],by rw [hE0];rfl,by simp⟩
   tk:=fun k q y hq _=>by rw [Ry] at hq;simp at hq
   tn:=fun k y g' _ hy _=>by simp [E'] at hy
   l0:=h.nw.l0 }
  fr:=h.fr.cI k1 k2 k3 (by rw [k4];exact aV _) fun j hj=>by
   by_cases hjg:j=g
   ·left;exact .inr (hjg ▸ Cj)
   ·right;exact DA hjg
  sh:=mV aW
  bt:=fun p hp b hb=>by simp [E'] at hb }
 have Mo:eJ X.nt ([]:List (Nat × Sl)) (some d)=true:=by
  simp only [eJ,bc] at hd ⊢;exact ⟨hd.1,rfl⟩
 exact go_sound 4000 _ _ hk _ _ _ (bi (st:=⟨[],[],[]⟩) bS Mo (.v (.string ⟨l.toArray⟩)) _ (by unfold Rv;exact ⟨rfl,rfl⟩))
theorem UE (b:Nat) (p:Value) (w:World) (rq:w.heap[b]? = some (.cells #[p,.slice none 0 0] 160 (0,0))) :
  Calls prog 76 #[.pointer (some ⟨b,0,none⟩)] w fun e w'=>e = .returned (.string ⟨#[]⟩)/\w'=w.drew:=by
 have c1:w.drew.cell? ⟨b,1,none⟩=some (.slice none 0 0):=by
  have:w.drew.heap[b]? = some (.cells #[p,.slice none 0 0] 160 (0,0)):=rq;rw [Lib.cell_of_heap this];all_goals rfl
 have hSD:(Builtin.unsafeSliceData_ #[158] 258 #[.slice none 0 0]).run prog w.drew = .ok (.pointer none) w.drew:=
  Lib.run_unsafeSliceData_nil _ _ _ _ _
 have hUS:(Builtin.unsafeString_ #[258,3] 9 #[.pointer none,.int .i64 0]).run prog w.drew = .ok (.string ⟨#[]⟩) w.drew:=
  Lib.run_unsafeString_none w.drew 258 3 9 none
 have mixed:=mo
 go_enter func76,ntmps76
 go_wp2
 go_region_o
 all_goals (go_wp2;go_ret;exact ⟨rfl,rfl⟩)
theorem GC {X:Ctx} {st:St} {k:List It} (hP:X.P=prog) {i d:Nat} {p:DV} (hbt:(i,160)∈X.bt) (mO:st.bx[i]? = some [p,.v (.slice none 0 0)])
  (p9:X.n0=0) (om:X.m0=0) (hd:eJ X.nt st.sl (some d)=true)
  (hk:go X 4000 k ⟨[(d,⟨[],.v (.string ⟨#[]⟩)⟩)],[],[]⟩) (aW:X.still=false:=by exact rfl):CallG X 76 [.loc i 0] (some d) k st:=by
 refine ⟨?_,aW,fun E a w vs h hv=>?_⟩
 ·rw [hP];exact aa6
 rw [hP];simp only [RvL] at hv;obtain ⟨v1,vr,rfl,h1,rfl⟩:=hv;unfold Rv at h1;obtain ⟨b,hb,rfl⟩:=h1;obtain ⟨b',ty,arr,fD,hw,qJ⟩:=h.env.eM i _ mO;rw [hb] at fD;simp only [oI] at fD;subst fD;obtain ⟨VE,za⟩:=h.bt _ hbt b hb;rw [hw] at za;simp only [oI,Obj.cells.injEq] at za;have SM:ty=160:=za.2.1;subst SM;obtain ⟨hr,ho⟩:=qJ;simp only [RvL] at hr;obtain ⟨pv,r1,rfl,hpv,cv,r2,rfl,W8,rfl⟩:=hr;unfold Rv at W8;obtain ⟨rfl,_⟩:=W8;refine (UE b pv w hw).mono ?_;rintro e w' ⟨rfl,rfl⟩;have hE0:X.E0.β=[]:=List.eq_nil_of_length_eq_zero (by rw [X.p9,p9]);have Ry:X.E0.tk=[]:=List.eq_nil_of_length_eq_zero (by rw [X.om,om])
 let E':En:=⟨E.c,[],[],[]⟩
 have bS:Rel X E' ⟨[],[],[]⟩ a w.drew:={
  env:={
   len:=rfl
   tl:=rfl
   eM:=by simp
   inj:=List.nodup_nil
   sub:=fun x v hx=>h.env.sub x v hx
   pc:=by simp [E']
   bO:=by simp [E']
   je:=by simp [E'] }
  tk:=rfl
  sz:=h.sz
  tm:=fun i x hx=>by cases hx
  df:=h.df
  nw:={
   c:=fun x v hx=>h.nw.c x v hx
   cn:=fun x v hx=>h.nw.cn x v hx
   β:=⟨[],by rw [hE0];rfl,by simp⟩
   tk:=fun k q y hq _=>by rw [Ry] at hq;simp at hq
   tn:=fun k y g' _ hy _=>by simp [E'] at hy
   l0:=h.nw.l0 }
  fr:=h.fr.cI rfl rfl rfl (aV _) fun j hj=>Or.inr rfl
  sh:=mV aW
  bt:=fun p hp b hb=>by simp [E'] at hb }
 have Mo:eJ X.nt ([]:List (Nat × Sl)) (some d)=true:=by
  simp only [eJ,bc] at hd ⊢;exact ⟨hd.1,rfl⟩
 exact go_sound 4000 _ _ hk _ _ _ (bi (st:=⟨[],[],[]⟩) bS Mo (.v (.string ⟨#[]⟩)) _ (by unfold Rv;exact ⟨rfl,rfl⟩))
def stepT (s:Stp):List UInt8:=if s.k=1 then 46 :: tx s.s else if s.k=2 then 91 :: (z7 s.n ++ [93]) else if s.k=3 then [91,93] else if s.k=4 then [63] else 33 :: tx s.s
def lh (l:List Stp):List UInt8:=if lf l=true then (l.map stepT).flatten else []
def uC (s:Stp):Prop:=(-9223372036854775808<=s.n/\s.n<=9223372036854775807)/\s.s.size<=1099511627776
theorem GD (s:Stp):stepT s ≠ []:=by
 unfold stepT
 repeat' split
 all_goals simp
theorem uD {s:ByteArray} (h:bE s=true):s.size<=32:=by grind [bE]
theorem Ny {s:Stp} (hi:uC s) (h:cF s=true):(stepT s).length<=33:=by
 have hp:=Fk hi.1.1 hi.1.2
 grind [cF,stepT,uD,nu]
theorem BD:∀ {l:List Stp},(∀ s∈l,uC s)->l.all cF=true->((l.map stepT).flatten).length<=33 * l.length
 | [],_,_=>by simp
 | s :: r,hi,h=>by
  simp only [List.all_cons,bc] at h;have h1:=Ny (hi s (by simp)) h.1;have h2:=BD (l:=r) (fun x hx=>hi x (by simp [hx])) h.2
  grind
theorem dg (l:List UInt8):(ba l).size=l.length:=rfl
theorem ad3 (l:List UInt8):tx (ba l)=l:=by simp [tx]
theorem zb (s:Stp) (hi:uC s):EvP prog 220 [.agg (eU s)] (.v (.string (ba (stepT s)))):=by
 have hp:=PZ s.n hi.1.1 hi.1.2;have gP:=MH hi.1.1 hi.1.2;obtain ⟨k,n,t⟩:=s;have hs:=hi.2;simp only at hs hp gP;have hF:stepT ⟨k,n,t⟩=if k=1 then 46 :: tx t else if k=2 then 91 :: (z7 n ++ [93]) else if k=3 then [91,93] else if k=4 then [63] else 33 :: tx t:=rfl
 generalize stepT ⟨k,n,t⟩=F at hF ⊢;refine eG 24 [.tmp 2] func220 rfl ntmps220 rfl fun _ _ _ _=>?_;refine br ?_ ?_<;>intro c
 ·have c:k=1:=sU c;rw [ap c] at hF;subst hF;refine ⟨by (simp only [bQ,dg,List.length_cons,List.length_nil];omega),?_⟩;refine (congrArg (fun s=>DV.v (.string s)) (CN ?_):_=_);simp [Ip,P4]
 have c1:¬ k=1:=sU c;rw [aj c1] at hF;refine br ?_ ?_<;>intro c
 ·have c:k=2:=sU c;rw [ap c] at hF;subst hF;refine cP abl hp ?_;refine ⟨by (simp only [bQ,dg,List.length_cons,List.length_nil];omega),?_⟩;refine ⟨by (simp only [bQ,dg,List.length_cons,List.length_nil];omega),?_⟩;refine (congrArg (fun s=>DV.v (.string s)) (CN ?_):_=_);simp [Ip,P4,TM]
 have c2:¬ k=2:=sU c;rw [aj c2] at hF;refine br ?_ ?_<;>intro c
 ·have c:k=3:=sU c;rw [ap c] at hF;subst hF;exact (rfl:_=_)
 have c3:¬ k=3:=sU c;rw [aj c3] at hF;refine br ?_ ?_<;>intro c
 ·have c:k=4:=sU c;rw [ap c] at hF;subst hF;exact (rfl:_=_)
 have c4:¬ k=4:=sU c;rw [aj c4] at hF;subst hF;refine ⟨by (simp only [bQ,dg,List.length_cons,List.length_nil];omega),?_⟩;refine (congrArg (fun s=>DV.v (.string s)) (CN ?_):_=_);simp [Ip,P4]
def lM (l:List Stp) (e:Nat):List UInt8:=((l.take e).map stepT).flatten
theorem zc {l:List Stp} {e:Nat} {x:Stp} (h:l[e]? = some x):lM l (e + 1)=lM l e ++ stepT x:=by
 unfold lM;rw [List.take_add_one,h];simp
theorem BE {l:List Stp} (hi:∀ s∈l,uC s) (hr:l.all cF=true) (hl:l.length<=64) (e:Nat):(lM l e).length<=2112:=by grind [BD,lM]
theorem vk {l:List Stp} (h:lf l=true):lh l=lM l l.length:=by unfold lh lM;rw [ap h,List.take_length]
theorem sJ {l:List Stp} (h:lf l=true):l.length<=64/\l.all cF=true:=by grind [lf]
abbrev W9 (l:List Stp):St:=⟨[aE 3 0,aM 9 3 (aF l),au 10 ((aF l).length),au 11 (0:Nat)],[[.v (.pointer none),.v (.slice none 0 0)]],[]⟩
abbrev Zl (l:List Stp) (T:List UInt8) (e:Nat):St:=⟨[aE 3 0,aM 9 3 (aF l),au 10 ((aF l).length),au 11 e],[[.loc 0 0,.sl 1 (bD T) (some 0)]],[⟨T.length,5,1,none⟩]⟩
theorem BF (l:List Stp) (hi:∀ s∈l,uC s):EvP prog 151 [.sl 3 (aF l) none] (.v (.string (ba (lh l)))):=by
 have DC:=vf l (fun s hs=>by have:=(hi s hs).2;omega);have cu:=ef l
 cases hR:lf l with
 | false=>
  rw [hR] at DC;have hF:lh l=[]:=by unfold lh;rw [hR];all_goals rfl
  rw [hF];refine v7 (s:=false) (bt:=[(0,160)]) (hbt:=fun p hp=>Nat.zero_le _) (P:=prog) tt nV 5000 20 [.tmp 2] func151 rfl ntmps151 rfl (nL rfl) (fun _ _ _ _=>?_);refine cP KM DC ?_;exact (rfl:_=_)
 | true=>
 rw [hR] at DC;obtain ⟨Uq,fG⟩:=sJ hR;have hF:=vk hR;have gP:=BE hi fG Uq;rw [hF];refine v7 (s:=false) (bt:=[(0,160)]) (hbt:=fun p hp=>Nat.zero_le _) (P:=prog) tt nV 5000 20 [.tmp 2] func151 rfl ntmps151 rfl (nL rfl) (fun _ _ _ _=>?_);refine cP KM DC ?_;refine aY (fun j st=>∃ e:Nat,((e=0/\st=W9 l)∨(lM l e ≠ []/\st=Zl l (lM l e) e))/\e<=l.length/\j=l.length - e) l.length (W9 l) (bz wB) ⟨0,.inl ⟨rfl,rfl⟩,by omega,by omega⟩ ?_;rintro j st ⟨e,(⟨rfl,rfl⟩ | ⟨Ry,rfl⟩),he,rfl⟩
 ·refine br ?_ ?_<;>intro hL
  ·have aq:0 < l.length:=sV cu hL;obtain ⟨x,hx⟩:=gX aq;have hxi:=hi x (mG hx);have ht:=zb x hxi;have dx:=zc hx;have bA:=GD x;have hp0:lM l 0=[]:=rfl;rw [hp0,List.nil_append] at dx;have zP:=gP (0 + 1);rw [dx] at zP;have zO:0 < (stepT x).length:=List.length_pos_iff.2 bA;obtain ⟨xk,xn,xs⟩:=x;refine iX (eu hx) ?_;refine cP V4 ht ?_;refine mE rfl (stepT ⟨xk,xn,xs⟩) (l:=[]) (kt:=0) (by simp [ad3]) (.head _) rfl (.inl rfl) (.inl ⟨rfl,rfl,rfl,rfl⟩) (by (simp only [bQ,dg,List.length_cons,List.length_nil];omega)) (by omega) rfl ?_;refine ⟨Zl l (stepT ⟨xk,xn,xs⟩) 1,(bz (cJ (aG aq (by omega)))),l.length - 1,by omega,1,.inr ⟨by rw [dx];exact bA,by rw [dx]⟩,by omega,rfl⟩
  ·have hge:l.length=0:=by have:=hL;simp [cu] at this;first | omega | simp [this]
   rw [hge];refine GC rfl (.head _) rfl rfl rfl rfl ?_;exact (rfl:_=_)
 ·refine br ?_ ?_<;>intro hL
  ·have aq:e < l.length:=sV cu hL;obtain ⟨x,hx⟩:=gX aq;have hxi:=hi x (mG hx);have ht:=zb x hxi;have dx:=zc hx;have bA:=GD x;have zP:=gP (e + 1);have zO:0 < (stepT x).length:=List.length_pos_iff.2 bA;obtain ⟨xk,xn,xs⟩:=x;refine iX (eu hx) ?_;refine cP V4 ht ?_;refine mE rfl (lM l (e + 1)) (l:=lM l e) (kt:=0) (by rw [dx];all_goals simp [ad3]) (.head _) rfl (.inr rfl) (.inr ⟨rfl,Ry,rfl,rfl⟩) (by (simp only [bQ,dg,List.length_cons,List.length_nil];omega)) (by omega) rfl ?_;refine ⟨Zl l (lM l (e + 1)) (e + 1),(bz (cJ (aG aq (by omega)))),l.length - (e + 1),by omega,e + 1,.inr ⟨by rw [dx];simp [bA],rfl⟩,by omega,rfl⟩
  ·have hge:e=l.length:=sW cu hL;subst hge;refine LM rfl (l:=lM l l.length) (kt:=0) (.head _) rfl Ry rfl rfl rfl rfl ?_;exact (rfl:_=_)
theorem UF (f:Nat->Nat->Bool) (n obs:Nat) (d:Nd) (e:Ed) (a:Nat):iL f n obs d e a<=2:=by
 unfold iL
 repeat' split
 all_goals omega
section
variable (lv:List Wd) (f:Nat->Nat->Bool) (ND:List Nd) (z:Int) (hL:dA f lv.length) (hn:lv.length<=32) (aZ:∀ n∈ND,cf lv.length ND.length n) (bW:∀ n∈ND,n.ai.length<=1099511627776) (obs:Nat) (ho:obs < lv.length) (dep:Nat) (Zm:dep<=64)
include hL hn aZ bW ho Zm
end
def Nz (ND:List Nd) (f:Nat->Nat->Bool) (n obs dep root:Nat):List bK:=rowsV ND f n obs dep dep ⟨[],root,dC f n,2⟩ 1000
section
variable (lv:List Wd) (f:Nat->Nat->Bool) (ND:List Nd) (root:Nat) (eo:root < ND.length) (hL:dA f lv.length) (hn:lv.length<=32) (aZ:∀ n∈ND,cf lv.length ND.length n) (bW:∀ n∈ND,n.ai.length<=1099511627776) (obs:Nat) (ho:obs < lv.length)
include eo hL hn aZ bW ho
def mF (ND:List Nd) (f:Nat->Nat->Bool) (n root:Nat) (o dp:Int):List bK:=if 0<=o/\o < n/\0<=dp then Nz ND f n o.toNat (min dp 64).toNat root else []
omit ho in
end
def Zn (d:Nd) (v:Val):List Stp:=(List.range v.ks.length).map (stpR d v)
theorem NA (d:Nd) (v:Val) (e:Nat):aF ((List.range e).map (stpR d v)) ++ [eU (stpR d v e)]=aF ((List.range (e + 1)).map (stpR d v)):=by
 rw [List.range_succ];simp [aF]
abbrev Rz (d:Nd) (v:Val) (q e:Nat):St:=
 ⟨[aE 2 0,aE 3 1,(5,⟨[],.sl 3 (aF ((List.range e).map (stpR d v))) (some 0)⟩),au 9 ((dVals v.ks).length),au 10 e],[j5 d,bg v],[⟨q,141,3,none⟩]⟩
theorem JK (d:Nd) (v:Val) (hv:v.wt<=1099511627776) (hk:v.k=d.ag) (h5:5<=d.ag) (Gi:d.ag<=8) (h7:d.ag=7->v.ks.length=d.ai.length) (h8:d.ag=8->0<=v.n/\v.n < d.ai.length) :
  EvP prog 272 [.agg (j5 d),.agg (bg v)] (.sl 3 (aF (Zn d v)) none):=by
 obtain ⟨ag,aO,lo,hi,most,af,es⟩:=d;obtain ⟨q,z,s,ks⟩:=v;have kM:=bw es;have cu:=cA ks;have gl:=iJ ks;rw [Val.wt] at hv;simp only [Val.k,Val.n,Val.ks] at hk h5 Gi h7 h8;subst hk;refine eG 55 [.tmp 4] func272 rfl ntmps272 rfl fun _ _ _ _=>?_;refine lJ (fun e=>Rz ⟨q,aO,lo,hi,most,af,es⟩ (.mk q z s ks) e e) ks.length (cX 2 ⟨0,141,3,none⟩ rfl rfl rfl qL rfl rfl lj) ?_;intro e he;refine br ?_ ?_<;>intro hL
 ·have aq:e < ks.length:=by simpa [cu,Val.ks] using hL
  have dM:(aF ((List.range e).map (stpR ⟨q,aO,lo,hi,most,af,es⟩ (.mk q z s ks)))).length=e:=by simp [aF]
  have dx:=NA ⟨q,aO,lo,hi,most,af,es⟩ (.mk q z s ks) e
  have hS:stpR ⟨q,aO,lo,hi,most,af,es⟩ (.mk q z s ks) e=if q=5 then ⟨2,e,ay⟩
   else if q=6 then ⟨4,0,ay⟩
   else if q=7 then ⟨1,0,match es[e]? with | some e=>e.name | none=>ay⟩
   else ⟨5,0,match es[z.toNat]? with | some e=>e.name | none=>ay⟩:=rfl
  refine br ?_ ?_<;>intro c
  ·have c:q=7:=sU c;obtain ⟨x,hx⟩:∃ x,es[e]? = some x:=⟨_,gE (by have:=h7 c;omega)⟩;rw [aj (by omega),aj (by omega),ap c] at hS;simp only [hx] at hS;rw [hS] at dx;refine iX (aS hx) ?_;refine ⟨dM,⟨by rw [dM];simp [maxLen];omega,by rw [dM];simp;omega⟩,?_⟩;exact rE ⟨_,by omega,e + 1,rfl,by omega,rfl⟩ (bZ 2 (lY (aG aq (by omega)) dx) (wB2 (aG aq (by omega)) dx))
  have c7:¬ q=7:=sU c;refine br ?_ ?_<;>intro c
  ·have c:q=5:=sU c;rw [ap c] at hS;rw [hS] at dx;refine ⟨dM,⟨by rw [dM];simp [maxLen];omega,by rw [dM];simp;omega⟩,?_⟩;exact rE ⟨_,by omega,e + 1,rfl,by omega,rfl⟩ (bZ 2 (lY (aG aq (by omega)) dx) (wB2 (aG aq (by omega)) dx))
  have c5:¬ q=5:=sU c;refine br ?_ ?_<;>intro c
  ·have c:q=6:=sU c;rw [aj c5,ap c] at hS;rw [hS] at dx;refine ⟨dM,⟨by rw [dM];simp [maxLen];omega,by rw [dM];simp;omega⟩,?_⟩;exact rE ⟨_,by omega,e + 1,rfl,by omega,rfl⟩ (bZ 2 (lY (aG aq (by omega)) dx) (wB2 (aG aq (by omega)) dx))
  have c6:¬ q=6:=sU c;refine br ?_ ?_<;>intro c
  ·have c:q=8:=sU c;obtain ⟨z0,z1⟩:=h8 c;obtain ⟨x,hx⟩:∃ x,es[z.toNat]? = some x:=⟨_,gE (by omega)⟩;rw [aj c5,aj c6,aj c7] at hS;simp only [hx] at hS;rw [hS] at dx;refine iX (aS hx) ?_;refine ⟨dM,⟨by rw [dM];simp [maxLen];omega,by rw [dM];simp;omega⟩,?_⟩;exact rE ⟨_,by omega,e + 1,rfl,by omega,rfl⟩ (bZ 2 (lY (aG aq (by omega)) dx) (wB2 (aG aq (by omega)) dx))
  ·have c:¬ q=8:=sU c;omega
 ·have hge:e=ks.length:=by grind [Val.ks]
  rw [hge];exact ⟨_,ax,rfl⟩
def uE (d:Nd) (v:Val) (s:Stp):Option Nat:=(List.range v.ks.length).find? fun e=>lW (stpR d v e) s
def stepV (ND:List Nd) (v:Val) (i:Int) (s:Stp):Option (Nat × Val × Int):=
 match fQ ND i with
 | none=>none
 | some d=>match uE d v s with
  | none=>none
  | some e=>match v.ks[e]?,(kidsL d v)[e]? with
   | some x,some j=>some (e,x,j)
   | _,_=>none
def getV (ND:List Nd):List Stp->Val->Int->Option (Val × Int)
 | [],v,i=>some (v,i)
 | s :: p,v,i=>match stepV ND v i s with
  | none=>none
  | some (_,x,j)=>getV ND p x j
def JL (v:Val) (e:Nat) (y:Val):Val:=.mk v.k v.n v.s (v.ks.set e y)
def setV (ND:List Nd):List Stp->Val->Int->Val->Val
 | [],_,_,x=>x
 | s :: p,v,i,x=>match stepV ND v i s with
  | none=>v
  | some (e,y,j)=>JL v e (setV ND p y j x)
theorem NB {f:Nat->Bool} {n e:Nat} (h:(List.range n).find? f=some e):e < n/\f e=true:=by grind
theorem zd {ND:List Nd} {v:Val} {i:Int} {s:Stp} {e:Nat} {x:Val} {j:Int} (h:stepV ND v i s=some (e,x,j)) :
  ∃ d,fQ ND i=some d/\uE d v s=some e/\v.ks[e]? = some x/\(kidsL d v)[e]? = some j:=by
 unfold stepV at h;split at h
 ·cases h
 ·grind
theorem sK {ND:List Nd} {v:Val} {i:Int} {s:Stp} {e:Nat} {x:Val} {j:Int} {d:Nd} (h1:fQ ND i=some d) (h2:uE d v s=some e) (h3:v.ks[e]? = some x) (h4:(kidsL d v)[e]? = some j):stepV ND v i s=some (e,x,j):=by grind [stepV]
theorem uF {ND:List Nd} {y:Val} {j:Int} (hy:fitV ND y j=true):∀ {ks:List Val} {l:List Int} {e:Nat},fitVs ND ks l=true->l[e]? = some j->fitVs ND (ks.set e y) l=true
 | [],l,e,_,_=>by simp [fitVs]
 | v :: r,[],e,_,h=>by simp at h
 | v :: r,i :: l,0,h,hj=>by grind [fitVs]
 | v :: r,i :: l,e + 1,h,hj=>by
  simp only [List.getElem?_cons_succ] at hj;rw [fitVs,bc] at h;rw [List.set_cons_succ,fitVs,h.1,uF hy h.2 hj];all_goals rfl
section
variable {L:Nat} {ND:List Nd} (aZ:∀ n∈ND,cf L ND.length n)
include aZ
theorem GF {v:Val} {i:Int} {d:Nd} (hF:Ra ND v i d) {e:Nat} {x:Val} (hx:v.ks[e]? = some x):5<=d.ag/\d.ag<=8:=by
 have hN:=aZ d (mG (fw hF.ah).2);refine ⟨?_,hN.k8⟩;have h1:=hN.k1;rcases Int.lt_or_le d.ag 5 with h | h
 ·rw [hF.leaf h] at hx;simp at hx
 ·exact h
theorem RA {v:Val} {i:Int} (hf:fitV ND v i=true) {s:Stp} {e:Nat} {x:Val} {j:Int} (h:stepV ND v i s=some (e,x,j)):fitV ND x j=true:=by
 obtain ⟨d,hF⟩:=ij aZ hf;obtain ⟨d',h1,h2,h3,h4⟩:=zd h;rw [hF.ah] at h1;cases h1;exact oZ (hF.kids (GF aZ hF h3).1).2 h3 h4
end
section
variable {L:Nat} {ND:List Nd} (aZ:∀ n∈ND,cf L ND.length n)
include aZ
end
end Go.Proofs.YtgjagnmeonoehaaGreat
namespace Go.Proofs.YtgjagnmeonoehaaGreat
namespace Dv
open Go Go.RowKit
mutual
def shD (m:Nat):DV->DV
 | .agg l=>.agg (shL m l)
 | .tup l=>.tup (shL m l)
 | .sl e es tk=>.sl e es (match tk with | some k=>some (m + k) | none=>none)
 | .fn f a b=>.fn f (shL m a) (shL m b)
 | .rB t x=>.rB t (shD m x)
 | .v x=>.v x
 | .ud=>.ud
 | .pt cs o=>.pt cs o
 | .loc i o=>.loc i o
 | .el i o=>.el i o
 | .ms i e o l c=>.ms i e o l c
def shL (m:Nat):List DV->List DV
 | []=>[]
 | d :: r=>shD m d :: shL m r
end
mutual
theorem uG {m:Nat} {E2 E:En} (hβ:E2.β=[]) (hc:E.c=E2.c) (ht:∀ (k:Nat) q,E2.tk[k]? = some q->E.tk[m + k]? = some q/\E.τ[m + k]? = E2.τ[k]?):∀ {d:DV} {v:Value},Rv E2 d v->Rv E (shD m d) v
 | .v x,v,h=>by simpa only [Rv,shD] using h
 | .ud,v,h=>by simpa only [Rv,shD] using h
 | .agg l,v,h=>by
  simp only [Rv,shD] at h ⊢;obtain ⟨vs,h1,h2,h3⟩:=h;exact ⟨vs,h1,mH hβ hc ht h2,h3⟩
 | .tup l,v,h=>by
  simp only [Rv,shD] at h ⊢;obtain ⟨vs,h1,h2⟩:=h;exact ⟨vs,h1,mH hβ hc ht h2⟩
 | .sl e es tk,v,h=>by
  have he:E.cl=E2.cl:=by simp [En.cl,hc]
  simp only [Rv,shD] at h ⊢;obtain ⟨b,n,cap,h1,h2,h3,h4⟩:=h;refine ⟨b,n,cap,h1,h2,fun hn=>⟨(h3 hn).1,by rw [he];exact (h3 hn).2⟩,?_⟩;intro k' fH
  cases tk with
  | none=>cases fH
  | some k=>
   simp only [oI] at fH;subst fH;obtain ⟨q,g1,g2,g3⟩:=h4 k rfl
   grind
 | .pt cs off,v,h=>by grind [En.cl,Rv,shD]
 | .loc i off,v,h=>by grind [Rv]
 | .el i off,v,h=>by grind [Rv]
 | .ms i e off len cap,v,h=>by grind [Rv]
 | .fn f a b,v,h=>by
  simp only [Rv,shD] at h ⊢;obtain ⟨l,r,h1,h2,h3⟩:=h;exact ⟨l,r,h1,mH hβ hc ht h2,mH hβ hc ht h3⟩
 | .rB t x,v,h=>by
  simp only [Rv,shD] at h ⊢;obtain ⟨z,h1,h2⟩:=h;exact ⟨z,h1,uG hβ hc ht h2⟩
theorem mH {m:Nat} {E2 E:En} (hβ:E2.β=[]) (hc:E.c=E2.c) (ht:∀ (k:Nat) q,E2.tk[k]? = some q->E.tk[m + k]? = some q/\E.τ[m + k]? = E2.τ[k]?):∀ {l:List DV} {vs:List Value},RvL E2 l vs->RvL E (shL m l) vs
 | [],vs,h=>by simpa only [RvL,shL] using h
 | d :: r,vs,h=>by
  simp only [RvL,shL] at h ⊢;obtain ⟨v,s,h1,h2,h3⟩:=h;exact ⟨v,s,h1,uG hβ hc ht h2,mH hβ hc ht h3⟩
end
section
variable {X:Ctx} {st:St} {k:List It} {E:En} {a:Act} {w:World}
theorem JN (h:Rel X E st a w) (aW:X.still=false) {E2:En} {w':World} (hm:rC (E.cl).S w w') (he:Env E2 [] w') (hn:Nw E.cl E2 w):Rel X ⟨E2.c,E.β,E.tk ++ E2.tk,E.τ ++ E2.τ⟩ ⟨st.sl,st.bx,st.tk ++ E2.tk⟩ a w':=by
 have hq:=Ax h aW hm he hn;have ZW:∀ (j:Nat) y g,E2.τ[j]? = some y->y.ownBlock=some g->w.heap.size<=g:=fun j y g hy hg=>hn.tn j y g (Nat.zero_le _) hy hg;have hold:∀ (k:Nat) y g,E.τ[k]? = some y->y.ownBlock=some g->g < w.heap.size:=fun k y g hy hg=>(h.env.own (mG hy) hg).1;have hZ:E.τ.length=E.tk.length:=h.env.tl
 have hτ:∀ (k:Nat) y,(E.τ ++ E2.τ)[k]? = some y->(k < E.τ.length/\E.τ[k]? = some y)∨(E.τ.length<=k/\E2.τ[k - E.τ.length]? = some y):=fun k y hy=>by
  rw [List.getElem?_append] at hy;split at hy
  ·rename_i hk;exact .inl ⟨hk,hy⟩
  ·rename_i hk;exact .inr ⟨by omega,hy⟩
 have hx:Ext ⟨E2.c,E.β,E.tk,E.τ⟩ ⟨E2.c,E.β,E.tk ++ E2.tk,E.τ ++ E2.τ⟩:=⟨fun _ _ h=>h,fun _ _ h=>h,fun j q hj=>by
  have hj:E.tk[j]? = some q:=hj;have aq:=(gS hj).1;refine ⟨q,by show (E.tk ++ _)[j]? = _;rw [dc aq];exact hj,.inl ⟨rfl,?_⟩⟩;show (E.τ ++ _)[j]? = _
  rw [dc (by rw [hZ];exact aq)]⟩
 refine dE hq hx ?_ (by show E.tk ++ _=_;rw [h.tk]) ?_ hq.fr (mV aW) hq.bt
 ·exact {
   len:=h.env.len
   tl:=by show (E.τ ++ _).length=(E.tk ++ _).length;simp [hZ,he.tl]
   eM:=fun i cs hi=>by
    obtain ⟨b,t,arr,hb,hw,hc⟩:=hq.env.eM i cs hi;exact ⟨b,t,arr,hb,hw,hc.mono hx⟩
   inj:=h.env.inj
   sub:=he.sub
   pc:=hq.env.pc
   bO:=fun j q y Qx hy=>by
    have Qx:(E.tk ++ E2.tk)[j]? = some q:=Qx;rcases hτ j y hy with ⟨aq,gp⟩ | ⟨fb,gp⟩
    ·rw [dc (by rw [<- hZ];exact aq)] at Qx;exact hq.env.bO j q y Qx gp
    ·rw [List.getElem?_append_right (by rw [<- hZ];exact fb),<- hZ] at Qx;rcases he.bO _ q y Qx gp with h1 | ⟨g,cap,cur,rfl,h1,h2,h3,h4,_,h6⟩
     ·exact .inl h1
     ·refine .inr ⟨g,cap,cur,rfl,h1,h2,h3,h4,fun qm=>?_,h6⟩;have:=ZW _ _ g gp rfl;have:=h.env.bh qm;omega
   je:=fun i j y y' g l9 hy gp hg rm=>by
    rcases hτ i y hy with ⟨_,h1⟩ | ⟨h0,h1⟩
    ·rcases hτ j y' gp with ⟨_,h2⟩ | ⟨_,h2⟩
     ·exact h.env.je i j y y' g l9 h1 h2 hg rm
     ·have:=hold i y g h1 hg;have:=ZW _ y' g h2 rm;omega
    ·rcases hτ j y' gp with ⟨_,h2⟩ | ⟨h00,h2⟩
     ·have:=hold j y' g h2 rm;have:=ZW _ y g h1 hg;omega
     ·exact he.je _ _ y y' g (by omega) h1 h2 hg rm }
 ·exact {
   c:=hq.nw.c
   cn:=hq.nw.cn
   β:=h.nw.β
   tk:=fun j q0 y0 s5 zT=>by
    obtain ⟨q',y',h1,h2,h3⟩:=h.nw.tk j q0 y0 s5 zT;exact ⟨q',y',by show (E.tk ++ _)[j]? = _;rw [dc (gS h1).1];exact h1,by show (E.τ ++ _)[j]? = _;rw [dc (gS h2).1];exact h2,h3⟩
   tn:=fun j y g hj hy hg=>by
    rcases hτ j y hy with ⟨_,h1⟩ | ⟨_,h1⟩
    ·exact h.nw.tn j y g hj h1 hg
    ·exact Nat.le_trans h.fr.size (ZW _ y g h1 hg)
   l0:=h.nw.l0 }
theorem LN {P:Program} (h:Rel X E st a w) (aW:X.still=false) {f:FuncId} {args bB:List DV} {vs:List Value} {Φ:DV->List (List DV)->List TkE->Prop} (hc:Tj P f bB [] [] Φ) (ha:CcL [] 0 0 0 bB args) (hv:RvL E args vs) :
  Calls P f vs.toArray w fun e w'=>∃ v E' d bO,e = .returned v/\Rel X E' ⟨st.sl,st.bx,st.tk ++ bO⟩ a w' /\ Rv E' (shD st.tk.length d) v/\Φ d [] bO/\rC E.cl.S w w' /\ Ext E E' /\ E'.β=E.β:=by
 have Oe:RvL E.cl bB vs:=CcL.sound (E:=E) (E':=E.cl) ⟨fun _ _ h=>h,fun i cs _ hi=>by simp at hi⟩ (Ku.zero _ _) ha hv;refine (hc E.cl w vs (OZ h.env) rfl Oe).mono ?_;rintro e w' ⟨v,rfl,hm,_,d,os,E2,he,hβ,_,hn,Cr,hΦ⟩;have hβ:E2.β=[]:=hβ
 have zN:os=[]:=by
  have:=he.len;rw [hβ] at this;exact List.eq_nil_of_length_eq_zero this.symm
 subst zN;have hZ:E.τ.length=E.tk.length:=h.env.tl
 have hx:Ext E ⟨E2.c,E.β,E.tk ++ E2.tk,E.τ ++ E2.τ⟩:=⟨hn.c,fun _ _ h=>h,fun j q hj=>by
  have aq:=(gS hj).1;refine ⟨q,by show (E.tk ++ _)[j]? = _;rw [dc aq];exact hj,.inl ⟨rfl,?_⟩⟩;show (E.τ ++ _)[j]? = _
  rw [dc (by rw [hZ];exact aq)]⟩
 refine ⟨v,_,d,E2.tk,rfl,JN h aW hm he hn,uG (E2:=E2) (E:=⟨E2.c,E.β,E.tk ++ E2.tk,E.τ ++ E2.τ⟩) (m:=st.tk.length) hβ rfl (fun k q hq=>?_) Cr,hΦ,hm,hx,rfl⟩;rw [<- h.tk];constructor
 ·show (E.tk ++ E2.tk)[_]? = _;rw [List.getElem?_append_right (by omega)];simpa using hq
 ·show (E.τ ++ E2.τ)[_]? = _;rw [List.getElem?_append_right (by omega),hZ];simp
theorem RB {f:FuncId} {args bB:List DV} {d:Nat} (lm:Enters X.P f) (hd:eJ X.nt st.sl (some d)=true) {Φ:DV->List (List DV)->List TkE->Prop} (hc:Tj X.P f bB [] [] Φ) (ha:CcL [] 0 0 0 bB args)
  (hk:∀ r bO,Φ r [] bO->go X 4000 k ⟨(d,⟨[],shD st.tk.length r⟩) :: st.sl,st.bx,st.tk ++ bO⟩) (aW:X.still=false:=by exact rfl):CallG X f args (some d) k st:=by
 refine ⟨lm,aW,fun E a w vs h hv=>(LN h aW hc ha hv).mono ?_⟩;rintro e w' ⟨v,E',r,bO,rfl,bS,hr,hΦ,_⟩;exact go_sound 4000 _ _ (hk r bO hΦ) E' _ w' (bi bS hd _ v hr)
theorem DD {D:Dr} {c:Bool} {i:Nat} {s0:List (Nat × Sl)} {f:FuncId} {args bB:List DV} {d:Nat} {r:List (Nat × Oper)} (lm:Enters X.P f) (hd:(eJ X.nt st.sl (some d) && eJ X.nt s0 (some d))=true) {Φ:DV->List (List DV)->List TkE->Prop} (hc:Tj X.P f bB [] [] Φ) (ha:CcL [] 0 0 0 bB args)
  (hk:∀ pq bO,Φ pq [] bO->put2 s0 ⟨st.sl,st.bx,st.tk ++ bO⟩ (some d) false [] (shD st.tk.length pq) (goD X D 3000 c r)) (aW:X.still=false:=by exact rfl):uV X D c i r f args (some d) s0 st:=by
 refine ⟨lm,fun hl E0 wr hD E a w vs h hv=>(LN h.rel aW hc ha hv).mono ?_⟩;rintro e w' ⟨v,E',pq,bO,rfl,bS,hr,hΦ,hm,hx,hβ⟩
 have hh:∀ b,b < w.heap.size->w'.heap[b]? = w.heap[b]?:=fun b hb=>hm.block b hb (by
  rintro (h1 | ⟨y,h1,_⟩)
  ·simp [En.cl] at h1
  ·simp [En.cl] at h1)
 have hs:Stp none E w E' w':=⟨hx,⟨[],by rw [hβ];simp⟩,fun j b hb _=>hh b (h.rel.env.bh (mG hb))⟩;have hC:=AD h hs bS (fun j hj=>by cases hj);refine ⟨v,rfl,fun _=>hC,?_⟩;have EO:gv X ⟨D,E0,wr⟩ c E' s0 ⟨st.sl,st.bx,st.tk ++ bO⟩ (a.put none v) w':=rO h hs bS (fun h1=>hC (h.cc h1)) (fun i x hx=>.inr ⟨hx,fun d hd=>by cases hd⟩) rfl;obtain ⟨s1,rn,kh,fc⟩:=jN EO hd false [] _ v (fun _ _ p hp=>by cases hp) (fun _=>hr) (fun hb=>by cases hb) (fun hn=>(hn (bq _)).elim) (hk pq bO hΦ);exact gw (D:=⟨D,E0,wr⟩) hD 3000 c r _ _ kh hl E' _ w' fc
theorem UG {o:Oper} {t d et e' iT n:Nat} {x:Operand} {bb:Bool} {z:List Value} (qq:∃ t',o.op = .binOp .eql t x (.const (.slice none 0 0)) t') (jm:o.dst=some d) (hx:rv st [] x=some (.v (.slice none 0 0))) (hT:X.T.find t=some ⟨n,bb,.sl et e' iT,z⟩) (hd:eJ X.nt st.sl (some d)=true)
  (hk:go X 4000 k ⟨(d,⟨[],.v (.bool true)⟩) :: st.sl,st.bx,st.tk⟩):Md X o k st:=by
 intro E a w h;obtain ⟨t',qq⟩:=qq;have e1:=aX h.rl hx;unfold Rv at e1;obtain ⟨hu,_⟩:=fh X.hT hT;have aP:=FT hu none 0 0 w
 have ct:(execOp a.eval o).run X.P w = .ok (.value (.bool true)) w:=by
  have hc:a.eval (.const (.slice none 0 0)) = .slice none 0 0:=rfl;simp [execOp,qq,e1.1,hc,eqGuard,binOp,aP]
 refine kL ct ?_;rw [jm];exact go_sound 4000 _ _ hk E _ w (bi h hd (.v (.bool true)) _ (by unfold Rv;exact ⟨rfl,rfl⟩))
end
end Dv
end Go.Proofs.YtgjagnmeonoehaaGreat
namespace Go.Proofs.YtgjagnmeonoehaaGreat
namespace Dv
open Go Go.RowKit
section
variable {X:Ctx} {st:St} {k:List It} {E:En} {a:Act} {w:World}
theorem wz (h:Rel X E st a w) {es:List (List DV)} {cs:List DV} {kt m td e:Nat} {v:Value} (hv:Rv E (.sl 0 es (some kt)) v) (hq:st.tk[kt]? = some ⟨m,td,e,some cs⟩) (iO:es.length=m) (hm:0 < m) :
  ∃ g cap,∃ cur:Array Value,v = .slice (some ⟨g,0,none⟩) m cap/\E.tk[kt]? = some ⟨m,td,e,some cs⟩/\E.τ[kt]? = some v/\w.heap[g]? = some (.cells cur td (0,0))/\cur.size=cap * e/\cs.length=m * e/\RvC E.cl cs (cur.toList.take (m * e))/\m<=cap/\cap<=maxLen/\g ∉ E.β/\∀ x u,E.c x=some u->x.block=g->x.off < 0:=by
 unfold Rv at hv;obtain ⟨bs,ns,mb,e1,⟨wb,EA⟩,SO,xm⟩:=hv;subst wb;obtain ⟨q',jX,_,XC⟩:=xm kt rfl;have ke:E.tk[kt]? = some ⟨m,td,e,some cs⟩:=by rw [h.tk];exact hq
 rw [ke] at jX;simp only [oI] at jX;subst jX;have hy:=XC iO;rcases h.env.bO kt _ _ ke hy with ⟨_,p9,_⟩ | ⟨g,cap,cur,po,hw0,⟨s7,EB⟩,xq,zV,iv,HV⟩
 ·simp only at p9;omega
 obtain ⟨h5,h6⟩:=EB cs rfl;exact ⟨g,cap,cur,po,ke,hy,hw0,s7,h5,h6,xq,zV,iv,HV⟩
theorem DE {o1:Oper} {t et e iT nn m g cap:Nat} {bb:Bool} {zz:List Value} {z:Int} {kd:IntKind} {s ix:Operand} (h1:o1.op = .indexAddr t s ix) (e1:a.eval s = .slice (some ⟨g,0,none⟩) m cap) (e2:a.eval ix = .int kd z)
  (hT:X.T.find t=some ⟨nn,bb,.sl et e iT,zz⟩) (hz:0<=z/\z < m) (w:World):(execOp a.eval o1).run X.P w = .ok (.value (.pointer (some ⟨g,z.toNat * e,none⟩))) w:=by
 obtain ⟨hu,ii,zv,xg,_,YA,_,_⟩:=fh X.hT hT;have n5:jc X.P et=some e:=by rw [gq xg,YA]
 have ct:(Instr.indexAt t (.slice (some ⟨g,0,none⟩) m cap) (.int kd z)).run X.P w = .ok (.pointer (some ⟨g,z.toNat * e,none⟩)) w:=by
  simp [Instr.indexAt,asIntOf,run_underlying hu,hz.1,hz.2,aT n5,Addr.add_lit]
 simp only [execOp,h1,e1,e2,Sem.run_bind,ct,Result.andThen_ok,Sem.run_pure]
theorem LO {o2:Oper} {d1 kt ty e m td:Nat} {z:Int} {es:List (List DV)} {cs cs':List DV} {v:Value} {x:Operand} {dv:DV} {g cap:Nat}
  (hr1:Rel X E st a w) (h2:o2.op = .store ty (.tmp d1) x) (Lb:a.eval (.tmp d1) = .pointer (some ⟨g,z.toNat * e,none⟩)) (hv:Rv E (.sl 0 es (some kt)) v) (hvg:v = .slice (some ⟨g,0,none⟩) m cap)
  (hx:rv st [] x=some dv) (Yz:eraL dv.cells (fun l=>some l)=some cs') (TY:dv.cells.length=e) (he0:0 < e)
  (bW:X.T.sz ty=some e) (hq:st.tk[kt]? = some ⟨m,td,e,some cs⟩) (iO:es.length=m) (hz:0<=z/\z < m) (aW:X.still=false) :
  ∃ w' E',(execOp a.eval o2).run X.P w = .ok .skip w' /\ Rel X E' ⟨st.sl,st.bx,st.tk.set kt ⟨m,td,e,some (cs.take (z.toNat * e) ++ cs' ++ cs.drop (z.toNat * e + e))⟩⟩ a w':=by
 obtain ⟨g',mb,cur,e1,ke,hy,hw0,s7,h5,h6,xq,zV,iv,HV⟩:=wz hr1 hv hq iO (by omega);rw [hvg] at e1;injection e1 with i1 i2 i3
 injection i1 with i1
 injection i1 with i1
 subst i1 i3;rw [hvg] at hy;have e3:=aX hr1.rl hx;have fU:RvC E dv.cells (a.eval x).cells.toList:=e3.cells (jf (n:=e) TY (by omega));have zU:(a.eval x).cells.toList.length=e:=by rw [fU.1.length];exact TY
 obtain ⟨l',zP,hx1,_⟩:=qI Yz fU;simp only [oI] at zP;rw [zP] at hx1;have hme:m * e<=cap * e:=Nat.mul_le_mul_right _ xq
 have jk:z.toNat * e + e<=m * e:=by
  have:(z.toNat + 1) * e<=m * e:=Nat.mul_le_mul_right _ (by omega);rw [Nat.add_mul] at this;omega
 have Ww:cur.toList.length=cap * e:=sU s7;have qc:=ka (P:=X.P) (t:=ty) (off:=z.toNat * e) (n:=e) hw0 (Er X.hT bW) zU (by rw [s7];omega) (List.all_eq_true.2 fU.2);generalize hN:cur.toList.take (z.toNat * e) ++ (a.eval x).cells.toList ++ cur.toList.drop (z.toNat * e + e)=N at qc;have hNl:N.length=cap * e:=by grind
 have hNt:N.take (m * e)=(cur.toList.take (m * e)).take (z.toNat * e) ++ (a.eval x).cells.toList ++ (cur.toList.take (m * e)).drop (z.toNat * e + e):=by
  subst hN;rw [List.take_append,List.take_append,List.take_take,List.take_take];have h1:(cur.toList.take (z.toNat * e)).length=z.toNat * e:=by rw [zLenT];omega
  rw [List.length_append,h1,zU,Nat.min_eq_right (by omega),Nat.min_eq_left (by omega),List.take_of_length_le (l:=(a.eval x).cells.toList) (by rw [zU];omega),List.drop_take]
 have ou:Eo (World.dh w g (.cells N.toArray td (0,0))) E.c E.β ⟨m,td,e,some (cs.take (z.toNat * e) ++ cs' ++ cs.drop (z.toNat * e + e))⟩ (.slice (some ⟨g,0,none⟩) m cap):=by
  refine .inr ⟨g,cap,_,rfl,eZ hw0,⟨by simpa using hNl,fun s9 HO=>?_⟩,xq,zV,iv,HV⟩;simp only [oI] at HO;subst HO;simp only;have h8:=((RvC.take (z.toNat * e) h6).append hx1).append (RvC.drop (z.toNat * e + e) h6);rw [<- hNt] at h8;have hl8:=h8.1.length;refine ⟨?_,by show RvC E.cl _ (N.toArray.toList.take (m * e));simpa using h8⟩;rw [<- hl8,zLenT,hNl];omega
 obtain ⟨bS,_⟩:=Ck (q':=⟨m,td,e,some (cs.take (z.toNat * e) ++ cs' ++ cs.drop (z.toNat * e + e))⟩) (w':=World.dh w g (.cells N.toArray td (0,0))) hr1 aW ke hy rfl rfl rfl (.inl ⟨rfl,rfl⟩) ou (.inl rfl) rfl rfl rfl (by rw [fV];exact aV _) (fun j _ bA=>cT (by
  rintro rfl
  exact bA rfl))
 refine ⟨_,_,?_,bS⟩;simp only [execOp,h2,Lb,Instr.storeAt,Instr.sureAddr,Sem.run_bind,Sem.run_pure,Result.andThen_ok,qc]
theorem BG {D:Dr} {c:Bool} {i i1 i2:Nat} {s0:List (Nat × Sl)} {o1 o2:Oper} {f:FuncId} {args bB:List DV} {d d1 kt t ty et e iT m td nn:Nat} {bb:Bool} {zz:List Value} {z:Int} {kd:IntKind} {es:List (List DV)} {cs cs':List DV} {s ix x:Operand} {pq dv:DV}
  (lm:Enters X.P f) (hd:eJ X.nt st.sl (some d)=true) (hc:EvP X.P f bB pq) (ha:CcL [] 0 0 0 bB args)
  (h1:o1.op = .indexAddr t s ix/\o1.dst=some d1/\o1.guard=none) (h2:o2.op = .store ty (.tmp d1) x/\o2.dst=none/\o2.guard=none) (ta:eJ X.nt ((d,⟨[],pq⟩) :: st.sl) (some d1)=true)
  (hs:rv ⟨(d,⟨[],pq⟩) :: st.sl,st.bx,st.tk⟩ [] s=some (.sl 0 es (some kt))) (hi:rv ⟨(d,⟨[],pq⟩) :: st.sl,st.bx,st.tk⟩ [] ix=some (.v (.int kd z)))
  (hx:rv ⟨(d1,⟨[],.pt [] 0⟩) :: (d,⟨[],pq⟩) :: st.sl,st.bx,st.tk⟩ [] x=some dv) (Yz:eraL dv.cells (fun l=>some l)=some cs') (TY:dv.cells.length=e) (he0:0 < e)
  (hT:X.T.find t=some ⟨nn,bb,.sl et e iT,zz⟩) (bW:X.T.sz ty=some e) (hq:st.tk[kt]? = some ⟨m,td,e,some cs⟩) (iO:es.length=m) (hz:0<=z/\z < m) (hW2:D.W i2=true)
  (hk:∃ EM,Wk X ⟨(d1,⟨[],.pt [] 0⟩) :: (d,⟨[],pq⟩) :: st.sl,st.bx,st.tk.set kt ⟨m,td,e,some (cs.take (z.toNat * e) ++ cs' ++ cs.drop (z.toNat * e + e))⟩⟩ EM/\go X 4000 D.k EM)
  (aW:X.still=false:=by exact rfl) (hf:D.fin=none:=by exact rfl):uV X D c i [(i1,o1),(i2,o2)] f args (some d) s0 st:=by
 refine ⟨lm,fun hl E0 wr hD E a w vs h hv=>(oy h.rel aW hc ha hv).mono ?_⟩;rintro e9 w' ⟨v,E',r,rfl,bS,hr,rfl,hm9,hx9,hβ9⟩
 have hh9:∀ b,b < w.heap.size->w'.heap[b]? = w.heap[b]?:=fun b hb=>hm9.block b hb (by
  rintro (h1 | ⟨y,h1,_⟩)
  ·simp [En.cl] at h1
  ·simp [En.cl] at h1)
 have hs9:Stp none E w E' w':=⟨hx9,⟨[],by rw [hβ9];simp⟩,fun j b hb _=>hh9 b (h.rel.env.bh (mG hb))⟩;refine ⟨v,rfl,(fun _=>AD h hs9 bS (fun j hj=>by cases hj)),?_⟩;have hr0:=bi bS hd r v hr;generalize ha0:a.put (some d) v=a0 at hr0;have dK:=hr0.rl;have e2:=ch (aX dK hi);have hv:=aX dK hs;obtain ⟨g,cap,cur,e1,_⟩:=wz hr0 hv hq iO (by omega);have Tx:isE o1.op=false:=by rw [h1.1];all_goals rfl
 have hL1:isL o1.op=false:=by rw [h1.1];all_goals rfl
 have hE2:isE o2.op=true:=by rw [h2.1];all_goals rfl
 have g1:D.ops[i1]? = some o1:=hl (i1,o1) (by simp);have g2:D.ops[i2]? = some o2:=hl (i2,o2) (by simp);show runT X.P D.ops D.W _ (Dw.Q ⟨D,E0,wr⟩ X) [i1,i2] a0 w';have hr1:Rel X E' ⟨(d1,⟨[],.pt [] 0⟩) :: (d,⟨[],r⟩) :: st.sl,st.bx,st.tk⟩ (a0.put (some d1) (.pointer (some ⟨g,z.toNat * e,none⟩))) w':=bi hr0 ta (.pt [] 0) _ (by unfold Rv;exact ⟨g,z.toNat * e,rfl,by simp only [RvAt]⟩)
 have Lb:(a0.put (some d1) (.pointer (some ⟨g,z.toNat * e,none⟩))).eval (.tmp d1) = .pointer (some ⟨g,z.toNat * e,none⟩):=by
  simp only [eJ,bc,Nat.blt_eq] at ta;simp [Act.eval,Act.put,hr0.sz,ta.1]
 simp only [runT,g1,Tx,Bool.false_eq_true,if_false];refine ⟨.pointer (some ⟨g,z.toNat * e,none⟩),.inl ⟨dB h1.2.2,fun w9 _=>DE h1.1 e1 e2 hT hz w9⟩,fun h9=>(by rw [hL1] at h9;cases h9),?_⟩;rw [h1.2.1];generalize a0.put (some d1) (.pointer (some ⟨g,z.toNat * e,none⟩))=a1 at hr1 Lb;have WI:=dB (ops:=D.ops) (a:=a1) h2.2.2;simp only [g2,hE2,if_true,ez,WI];obtain ⟨w2,E2,ct,oB⟩:=LO hr1 h2.1 Lb hv e1 hx Yz TY he0 bW hq iO hz aW;refine vZ ct ?_;rw [h2.2.1];refine ⟨(fun hw=>by rw [hW2] at hw;cases hw),?_⟩;obtain ⟨EM,XL,j7⟩:=hk;obtain ⟨E3,hr3⟩:=XL _ _ _ oB;show Dw.Q ⟨D,E0,wr⟩ X _ _;unfold Dw.Q;simp only [hf];exact go_sound 4000 _ _ j7 _ _ _ hr3
end
end Dv
end Go.Proofs.YtgjagnmeonoehaaGreat
set_option maxRecDepth 100000
namespace Go.Proofs.YtgjagnmeonoehaaGreat
open Go Go.RowKit Dv Go.Proofs.Tryz
theorem sL {p:Nat->Bool}:∀ {n e:Nat},e < n->p e=true->(∀ e' < e,p e'=false)->(List.range n).find? p=some e
 | 0,e,h,_,_=>by omega
 | n + 1,e,h,h1,h2=>by simp_all
theorem UH {p:Nat->Bool} {n:Nat} (h:∀ e < n,p e=false):(List.range n).find? p=none:=List.find?_eq_none.2 fun x hx=>by rw [h x (sU hx)];simp
theorem BH (a b:Stp):lW a b=lW b a:=by grind [mC]
abbrev ixSt (l:List Stp) (s:Stp) (e:Nat):St:=⟨[aM 0 3 (aF l),aE 3 0,aM 6 3 (aF l),au 7 ((aF l).length),au 8 e],[eU s],[]⟩
theorem JO (f:Nat->Stp) (n:Nat) (s:Stp) (hn:n<=1099511627776) :
  EvP prog 271 [.sl 3 (aF ((List.range n).map f)) none,.agg (eU s)] (.v (.int .i64 (oz ((List.range n).find? fun e=>lW (f e) s)))):=by
 have cu:(aF ((List.range n).map f)).length=n:=by rw [ef];simp
 refine eG 19 [.tmp 4] func271 rfl ntmps271 rfl fun _ _ _ _=>?_;refine lI (fun j st=>∃ e:Nat,st=ixSt ((List.range n).map f) s e/\e<=n/\(∀ e' < e,lW (f e') s=false)/\j=n - e) ⟨0,rfl,by omega,(fun _ h=>by omega),rfl⟩ (bz wB) ?_;rintro _ st ⟨e,rfl,he,gm,rfl⟩;refine br ?_ ?_<;>intro hL
 ·have aq:e < n:=sV cu hL;have hx:((List.range n).map f)[e]? = some (f e):=by rw [List.getElem?_map,List.getElem?_range aq];all_goals rfl
  refine dI ?_;refine ⟨_,⟨by omega,eu hx⟩,_,Uu _ _ s (f e),?_⟩;refine br ?_ ?_<;>intro c
  ·have c:lW s (f e)=true:=c;have:=sL (p:=fun e=>lW (f e) s) aq (by show lW (f e) s=true;rw [BH];exact c) gm;rw [this];exact (rfl:_=_)
  ·have c:lW s (f e)=false:=c
   exact rE ⟨_,by omega,e + 1,rfl,by omega,(fun e' h=>by
    rcases Nat.lt_or_ge e' e with h1 | h1
    ·exact gm e' h1
    ·have:e'=e:=by omega
     subst this
     rw [BH];exact c),rfl⟩ (bz (cJ (aG aq (by omega))))
 ·have hge:n<=e:=sV cu hL;have:=UH (p:=fun e=>lW (f e) s) (n:=n) fun e' h=>gm e' (by omega);rw [this];exact (rfl:_=_)
theorem GG (d:Nd) (q z:Int) (s:ByteArray):EvP prog 272 [.agg (j5 d),.agg (bg (.mk q z s []))] (.sl 3 [] none):=by
 obtain ⟨ag,aO,lo,hi,most,af,es⟩:=d;refine eG 55 [.tmp 4] func272 rfl ntmps272 rfl fun _ _ _ _=>?_;refine aY (fun j st=>st=Rz ⟨ag,aO,lo,hi,most,af,es⟩ (.mk q z s []) 0 0) 0 (Rz ⟨ag,aO,lo,hi,most,af,es⟩ (.mk q z s []) 0 0) (cX 2 ⟨0,141,3,none⟩ rfl rfl rfl qL rfl rfl lj) rfl ?_;rintro _ st rfl;exact ⟨_,ax,rfl⟩
def kidR (o:Option (Nat × Val × Int)):DV:=match o with
 | some (e,_,j)=>.tup [.v (.int .i64 (e:Nat)),.v (.int .i64 j)]
 | none=>.tup [.v (.int .i64 (-1)),.v (.int .i64 (-1))]
theorem GH {L:Nat} {ND:List Nd} (aZ:∀ n∈ND,cf L ND.length n) {v:Val} (hv:v.wt<=1099511627776) {i:Int} {d:Nd} (hF:Ra ND v i d):EvP prog 272 [.agg (j5 d),.agg (bg v)] (.sl 3 (aF (Zn d v)) none):=by
 have hN:=aZ d (mG (fw hF.ah).2);rcases Int.lt_or_le d.ag 5 with h5 | h5
 ·have h:=hF.leaf h5;obtain ⟨q,z,s,ks⟩:=v;simp only [Val.ks] at h;subst h;exact GG d q z s
 ·refine JK d v hv hF.k h5 hN.k8 (fun c=>?_) (fun c=>?_)
  ·have:=(hF.kids h5).1;rw [<- this];unfold kidsL;rw [aj (by omega),ap c,List.length_map]
  ·obtain ⟨_,_,_,h3,h4,_⟩:=hF.tag c;exact ⟨h3,h4⟩
theorem RC {S:Sch} {ND:List Nd} {PC:List DV} (hP:dX S ND PC) {v:Val} (hv:v.wt<=1099511627776) {i:Int} (hf:fitV ND v i=true) (s:Stp) :
  EvP prog 237 [.pt PC 0,.v (.int .i64 i),.agg (bg v),.agg (eU s)] (kidR (stepV ND v i s)):=by
 obtain ⟨d,hF⟩:=ij hP.ok hf
 have qc:stepV ND v i s=match uE d v s with | none=>none | some e=>match v.ks[e]?,(kidsL d v)[e]? with | some x,some j=>some (e,x,j) | _,_=>none:=by
  unfold stepV;rw [hF.ah];all_goals rfl
 have Oy:∀ e,uE d v s=some e->∃ x j,v.ks[e]? = some x/\(kidsL d v)[e]? = some j/\5<=d.ag:=fun e he=>by
  have aq:=(NB he).1;have hx:v.ks[e]? = some v.ks[e]:=gE aq;have h5:=GF hP.ok hF hx;exact ⟨_,_,hx,gE (by rw [(hF.kids h5.1).1];exact aq),h5.1⟩
 have Oo:uE d v s=(List.range v.ks.length).find? fun e=>lW (stpR d v e) s:=rfl;have h1:=GH hP.ok hv hF;have gl:=iJ v.ks;have hvw:v.wt=64 + v.s.size + dL v.ks:=by cases v;rw [Val.wt];all_goals rfl
 have h2:=JO (stpR d v) v.ks.length s (by omega);obtain ⟨h0,hg⟩:=fw hF.ah;have hN:=hP.ok d (mG hg);have h3:=fun h5=>kids_spec hN h5 v hv;obtain ⟨j0,rfl⟩:∃ j:Nat,i=j:=⟨i.toNat,by omega⟩;have hg:ND[j0]? = some d:=sU hg;have cS:=hP.ah j0 d hg;rw [<- Oo] at h2;rw [qc];have hstl:Zn d v=(List.range v.ks.length).map (stpR d v):=rfl;rw [hstl] at h1;generalize (List.range v.ks.length).map (stpR d v)=SL at h1 h2;generalize uE d v s=o at h2 Oy ⊢;clear qc;obtain ⟨q,z,t,ks⟩:=v;obtain ⟨ag,aO,lo,hi,most,af,es⟩:=d;obtain ⟨sk,sn,ss⟩:=s;refine eG 38 [.tmp 8,.tmp 9] func237 rfl ntmps237 rfl fun _ _ _ _=>?_;refine cP oE cS ?_;refine dI ?_;refine cD abU h1 ?_;refine cD abT h2 ?_
 cases o with
 | none=>
  exact ⟨_,ax,rfl⟩
 | some e=>
  obtain ⟨x,j,hx,hj,h5⟩:=Oy e rfl;refine cP VN (h3 h5) ?_;refine dI ?_;refine ⟨_,⟨by simp [oz],by simp [oz];exact Ly hj⟩,?_⟩;simp only [hx,hj];exact ⟨_,ax,rfl⟩
abbrev JP:List DV:=[.v (.int .i64 0),.v (.int .i64 0),.v (.string ay),.v (.slice none 0 0)]
abbrev zeroV:Val:=.mk 0 0 ay []
abbrev tcSt (v:Val) (n e:Nat):St:=
 ⟨[aE 1 0,aE 2 1,(3,⟨[],.sl 4 (dVals (v.ks.take e)) (some 0)⟩),aM 7 4 (dVals v.ks),au 8 ((dVals v.ks).length),au 9 e],[bg v,JP],[⟨n,34,4,none⟩]⟩
theorem ze:∀ (k:Nat) (v:Val),v.wt<=k->v.wt<=1099511627776->EvP prog 238 [.agg (bg v)] (.agg (bg v))
 | 0,v,h,_=>by have:=v.fk;omega
 | k + 1,.mk q z s ks,h,hb=>by
  have gl:=iJ ks;have cu:=cA ks;rw [Val.wt] at h hb;refine eG 22 [.cell 2 34] func238 rfl ntmps238 rfl fun _ _ _ _=>?_;refine lI (fun j st=>∃ e n:Nat,st=tcSt (.mk q z s ks) n e/\n=e/\e<=ks.length/\j=ks.length - e) ⟨0,0,rfl,rfl,by omega,rfl⟩ (cX 2 ⟨0,34,4,none⟩ rfl rfl rfl qL rfl rfl lj) ?_;rintro _ st ⟨e,n,rfl,rfl,he,rfl⟩;refine br ?_ ?_<;>intro hL
  ·have aq:n < ks.length:=by simpa [cu,Val.ks] using hL
   obtain ⟨x,hx⟩:=gX aq;have hxw:=la (mG hx);have hw:=ze k x (by omega) (by omega);have dx:=Jt hx;have dM:(dVals (ks.take n)).length=n:=by rw [cA,zLenT];omega
   obtain ⟨xk,xn,xs,xl⟩:=x;refine iX (jB hx) ?_;refine cP V7 hw ?_;refine ⟨dM,⟨by simp only [Val.ks];rw [dM];simp [maxLen];omega,by simp only [Val.ks];rw [dM];simp;omega⟩,?_⟩;exact rE ⟨_,by omega,n + 1,n + 1,rfl,rfl,by omega,rfl⟩ (bZ 2 (lY (aG aq (by omega)) dx) (wB2 (aG aq (by omega)) dx))
  ·have hge:n=ks.length:=by grind [Val.ks]
   subst hge;have h1:dVals (Val.mk q z s ks).ks=dVals ks:=rfl;have h2:ks.take ks.length=ks:=List.take_length;have h3:(Val.mk q z s ks).ks.take ks.length=ks:=h2;rw [h3];exact ⟨_,ax,rfl⟩
def resG (o:Option (Val × Int)):DV:=match o with
 | some (x,j)=>.tup [.agg (bg x),.v (.int .i64 j),.v (.bool true)]
 | none=>.tup [.agg (bg zeroV),.v (.int .i64 (-1)),.v (.bool false)]
abbrev Zo (PC:List DV) (p:List Stp) (v:Val) (i:Int) (e:Nat):St:=
 ⟨[eX 0 PC,au 1 i,aE 6 0,aE 8 1,aM 21 3 (aF p),au 22 ((aF p).length),au 23 e],[bg v,JP],[]⟩
theorem tget_spec {S:Sch} {ND:List Nd} {PC:List DV} (hP:dX S ND PC) {v:Val} (hv:v.wt<=1099511627776) (i:Int) (p:List Stp) (hp:p.length<=1099511627776) :
  EvP prog 179 [.pt PC 0,.v (.int .i64 i),.agg (bg v),.sl 3 (aF p) none] (resG (if fitV ND v i=true then getV ND p v i else none)):=by
 have lO:=ld hP _ v (aV _) hv i;have u1:=ef p
 have j7:∀ e vc ic,e<=p.length->getV ND (p.drop e) vc ic=match p[e]? with | none=>some (vc,ic) | some s=>match stepV ND vc ic s with | none=>none | some (_,x,j)=>getV ND (p.drop (e + 1)) x j:=fun e vc ic he=>by
  cases hs:p[e]? with
  | none=>rw [List.drop_eq_nil_of_le (List.getElem?_eq_none_iff.1 hs)];all_goals rfl
  | some s=>
   obtain ⟨h1,h2⟩:=List.getElem?_eq_some_iff.1 hs;rw [List.drop_eq_getElem_cons h1,h2,getV];all_goals rfl
 generalize hR:(if fitV ND v i=true then getV ND p v i else none)=R;have hvq:bg v=bg v:=rfl;generalize hvV:v=V at *;obtain ⟨q,z,s,ks⟩:=V;refine eG 48 [.cell 8 34,.tmp 9,.tmp 10] func179 rfl ntmps179 rfl fun _ _ _ _=>?_;refine cP H8 lO ?_;refine br ?_ ?_<;>intro c
 ·have c:fitV ND (.mk q z s ks) i=false:=sU c;rw [c] at hR;subst hR;exact ⟨_,ax,rfl⟩
 have c:fitV ND (.mk q z s ks) i=true:=sU c;rw [ap c] at hR;refine aY (fun j st=>∃ (e:Nat) (vc:Val) (ic:Int),st=Zo PC p vc ic e/\e<=p.length/\getV ND (p.drop e) vc ic=R/\fitV ND vc ic=true/\vc.wt<=1099511627776/\j=p.length - e) p.length (Zo PC p (.mk q z s ks) i 0) (bZ 2 qL lj) ⟨0,_,_,rfl,by omega,hR,c,hv,by omega⟩ ?_;rintro _ st ⟨e,vc,ic,rfl,he,hg,hfc,hvc,rfl⟩;have j7:=j7 e vc ic he;rw [hg] at j7;refine br ?_ ?_<;>intro hL
 ·have aq:e < p.length:=sV u1 hL;obtain ⟨y,hy⟩:=gX aq;rw [hy] at j7;simp only at j7;have hk:=RC hP hvc hfc y;have hsf:=@RA _ _ hP.ok vc ic hfc y;have Nb:=@zd ND vc ic y;generalize stepV ND vc ic y=o at hk j7 hsf Nb;obtain ⟨yk,yn,ys⟩:=y;obtain ⟨ck,cn,cs,cks⟩:=vc;refine iX (eu hy) ?_;refine cP abJ hk ?_
  cases o with
  | none=>
   simp only at j7;subst j7;exact ⟨_,ax,rfl⟩
  | some o=>
   obtain ⟨e2,x,j⟩:=o;obtain ⟨d,_,_,hx,_⟩:=Nb rfl;have NC:=hsf rfl;simp only [Val.ks] at hx;have hxw:=la (mG hx);rw [Val.wt] at hvc;simp only at j7;refine iX (by simpa using jB hx) ?_;obtain ⟨xk,xn,xs,xl⟩:=x;exact ⟨Zo PC p (.mk xk xn xs xl) j (e + 1),(bZ 2 (jM (aG aq (by omega))) (cJ (aG aq (by omega)))),p.length - (e + 1),by omega,e + 1,_,_,rfl,by omega,j7.symm,NC,by omega,rfl⟩
 ·have hge:e=p.length:=sW u1 hL;have:p[e]? = none:=kE (by omega);rw [this] at j7;simp only at j7;subst j7;have hw:=ze _ vc (aV _) hvc;obtain ⟨ck,cn,cs,cks⟩:=vc;refine cP V7 hw ?_;exact ⟨_,ax,rfl⟩
theorem JQ (l:List Stp) (x:Stp):aF l ++ [eU x]=aF (l ++ [x]):=by simp [aF]
def dP:List Stp->DV
 | []=>.v (.slice none 0 0)
 | s :: p=>.sl 3 (aF (s :: p)) none
theorem RD:EvP prog 216 [.v (.slice none 0 0)] (.v (.slice none 0 0)):=by
 refine eG 8 [.tmp 2] func216 rfl ntmps216 rfl fun _ _ _ _=>?_;refine UG ⟨_,rfl⟩ rfl rfl rfl rfl ?_;exact (rfl:_=_)
theorem RE (s:Stp) (p:List Stp) (hl:(s :: p).length<=1099511627776):Tj prog 216 [.sl 3 (aF (s :: p)) none] [] [] (fun r _ bO=>r = .sl 3 (aF (s :: p)) (some 0)/\bO=[⟨(s :: p).length,141,3,none⟩]):=by
 have cu:=ef (s :: p);have bA:aF (s :: p) ≠ []:=by simp [aF]
 refine nf (s:=false) (bt:=[]) (mu:=[]) (hbt:=fun p hp=>by cases hp) (fr:=true) (P:=prog) tt nV 5000 8 [.tmp 2] func216 rfl ntmps216 rfl (nL rfl) (fun _ _ _ _=>?_);refine I2 ⟨_,rfl⟩ rfl rfl rfl rfl (fun b hb=>?_);rw [hb bA];refine yA rfl rfl rfl rfl (hk:=?_);refine ⟨rfl,⟨by simp [maxLen,cu];simp at hl;omega,by simp [cu];simp at hl;omega⟩,?_⟩;refine ⟨_,[],gQ,rfl,rfl,?_⟩;show [(⟨0 + (aF (s :: p)).length,_,3,none⟩:TkE)]=_;rw [cu,Nat.zero_add]
theorem zf {S:Sch} (hF:sA S) {i:Nat} {n:Nd} (h:(bp S)[i]? = some n) {e:Ed} (he:e∈n.ai) (hk:n.ag < 7):e.label=(dC (aH S) S.ae.length:Nat):=by
 have Xa:=(pN hF h).leaf;have h5:5<=n.ag:=by grind
 rw [jA] at h;obtain ⟨t,ht,u,hu,rfl,jk⟩:=sD h;have M8:=sC t ⟨_,_,hF.wr t ht⟩ u hu;have hT:=Dj M8;obtain ⟨uh,us⟩:=u;simp only [Ty.h,Ty.ps] at hT;have fH:uh.ag < 7:=hk;have h5':5<=uh.ag:=h5;obtain ⟨p,v,k',h1,rfl,_⟩:=oY he;obtain ⟨q,t',rfl,_,gP,_⟩:=hT.one (by omega);have h1:(p,v) ∈ [(q,t')]:=h1;simp only [List.mem_singleton,Prod.mk.injEq] at h1;obtain ⟨rfl,rfl⟩:=h1;unfold cO at gP;simp only [bc] at gP;have hl:p.label=[]:=by grind [fJ,sameWds]
 obtain ⟨Ut,_⟩:=kY hF.lat;have fI:=dz S.ae;show iI S p.label=_;rw [hl];unfold iI Ad;have h0:(labW (az S.ae) []).1=0:=rfl;rw [ap h0,fI];have hb:=pO Ut;show oz (gh _ _ [])=_;rw [hb];rfl
theorem zg (d:Nd) (e:Ed) (h5:5<=d.ag) (h8:d.ag<=8):EvP prog 164 [.agg (j5 d),.agg (C4 e)] (.tup [.agg (eU (eD d e)),.v (.bool (Eg d e))]):=by
 obtain ⟨ag,aO,lo,hi,most,af,es⟩:=d;obtain ⟨en,eb,ea,et,rb,ew,ln,ti,ru,pS⟩:=e;simp only at h5 h8;have hS:eD ⟨ag,aO,lo,hi,most,af,es⟩ ⟨en,eb,ea,et,rb,ew,ln,ti,ru,pS⟩=if ag=5 then ⟨3,0,ay⟩ else if ag=6 then ⟨4,0,ay⟩ else if ag=7 then ⟨1,0,en⟩ else ⟨5,0,en⟩:=rfl
 have hO:Eg ⟨ag,aO,lo,hi,most,af,es⟩ ⟨en,eb,ea,et,rb,ew,ln,ti,ru,pS⟩=if ag=8 then !eb else if ag=5 then decide (0 < most) else true:=rfl
 generalize eD _ _=sx at hS ⊢;generalize Eg _ _=O at hO ⊢;refine eG 28 [.cell 4 141,.tmp 5] func164 rfl ntmps164 rfl fun _ _ _ _=>?_;have c5:ag=5∨ag=6∨ag=7∨ag=8:=by omega
 rcases c5 with rfl | rfl | rfl | rfl
 all_goals
  simp at hS hO;subst hS hO
 ·refine ni [2] (fun _=>false) mo (by decide +kernel) ?_;exact ⟨_,ax,rfl⟩
 ·exact ⟨_,ax,rfl⟩
 ·exact ⟨_,ax,rfl⟩
 ·refine ni [2] (fun _=>false) mo (by decide +kernel) ?_;exact ⟨_,ax,rfl⟩
theorem NE {n:Nat} {f:Nat->Nat->Bool} {af:List ByteArray} {LC:List DV} (hL:Js n f af LC) (x0 x3 x4:DV) (obs a:Nat) (ho:obs < n) (ha:a < n) :
  EvP prog 230 [.pt [x0,.pt LC 0,.v (.int .i64 obs),x3,x4] 0,.v (.int .i64 a)] (.v (.bool (f a obs))):=by
 have hq:=hL.leq a obs;rw [yT ha ho] at hq;refine eG 15 [.tmp 4] func230 rfl ntmps230 rfl fun _ _ _ _=>?_;refine dI ?_;refine cD X8 hq ?_;exact (rfl:_=_)
def UI (r:bK):List DV:=[dP r.p,.v (.int .i64 (r.ah:Nat)),.v (.int .i64 (r.lv:Nat)),.v (.int .i64 (r.how:Nat))]
def mI (l:List bK):List (List DV):=l.map UI
theorem RF (l:List bK):(mI l).length=l.length:=by simp [mI]
theorem NF (l:List bK) (r:bK):mI l ++ [UI r]=mI (l ++ [r]):=by simp [mI]
abbrev Eh (PC LC:List DV) (obs dp:Nat) (L:List bK):List DV:=[.pt PC 0,.pt LC 0,.v (.int .i64 obs),.v (.int .i64 dp),.sl 4 (mI L) (some 0)]
set_option maxHeartbeats 4000000 in
theorem NG {S:Sch} {ND:List Nd} {PC LC:List DV} {af:List ByteArray} (hP:dX S ND PC) (hL:Js S.ae.length (aH S) af LC) (obs dp:Nat) (ho:obs < S.ae.length) (L:List bK) (q:TkE)
  (r:bK) (hp:r.p.length<=1000) (hl:r.lv < S.ae.length) (i:Nat) (d:Nd) (hd:ND[i]? = some d) (e:Ed) (he:e∈d.ai) (aZ:Eg d e=true) :
  Ev prog 165 [.loc 0 0,.agg (UI r),.agg (j5 d),.agg (C4 e)] [Eh PC LC obs dp L] [q] (fun pq os tk=>pq = .agg (UI (sF (aH S) S.ae.length obs d e r))/\os=[Eh PC LC obs dp L]/\tk=[q]):=by
 have hN:=hP.ok d (mG hd)
 have h5:5<=d.ag:=by
  rcases Int.lt_or_le d.ag 5 with c | c
  ·rw [hN.leaf c] at he;cases he
  ·exact c
 have aW:=zg d e h5 hN.k8;obtain ⟨mw,⟨h2,Jj⟩,h3,Ow⟩:=eV hN he
 have hb:e.bare=false:=by
  cases hb:e.bare
  ·rfl
  ·have h8:=hN.bare e he hb;unfold Eg at aZ;rw [ap h8,hb] at aZ;cases aZ
 obtain ⟨h1,tA⟩:=mw hb
 have iq:d.ag < 7->lG (aH S) S.ae.length r.lv e.label.toNat=r.lv:=fun c=>by
  have hx:=hP.zR ▸ hd;rw [zf hP.fine hx he c,eH,Dm hL.ok hl]
 have hse:=fun x a ha=>NE hL (.pt PC 0) (.v (.int .i64 dp)) x obs a ho ha;have hH:iL (aH S) S.ae.length obs d e r.lv=if aH S (lG (aH S) S.ae.length r.lv e.label.toNat) obs=true then 2 else if e.ck≠0/\aH S (lG (aH S) S.ae.length r.lv e.seen.toNat) obs=true then 1 else 0:=by grind [iL]
 have Zp:aH S (lG (aH S) S.ae.length r.lv e.label.toNat) obs=true->iL (aH S) S.ae.length obs d e r.lv=2:=fun h=>by rw [hH,ap h]
 have UJ:aH S (lG (aH S) S.ae.length r.lv e.label.toNat) obs=false->e.ck≠0->aH S (lG (aH S) S.ae.length r.lv e.seen.toNat) obs=true->iL (aH S) S.ae.length obs d e r.lv=1:=fun h c h2=>by grind
 have RG:aH S (lG (aH S) S.ae.length r.lv e.label.toNat) obs=false->(e.ck=0∨aH S (lG (aH S) S.ae.length r.lv e.seen.toNat) obs=false)->iL (aH S) S.ae.length obs d e r.lv=0:=fun h c=>by grind
 clear hH;have iP:sF (aH S) S.ae.length obs d e r=⟨r.p ++ [eD d e],e.to.toNat,lG (aH S) S.ae.length r.lv e.label.toNat,iL (aH S) S.ae.length obs d e r.lv⟩:=rfl;rw [iP];have hj:=hL.join r.lv e.label.toNat hl Jj;have YJ:=hL.join r.lv e.seen.toNat hl Ow;have ll:=nJ hL.ok hl Jj;have UK:=nJ hL.ok hl Ow;generalize iL (aH S) S.ae.length obs d e r.lv=H at Zp UJ RG ⊢;generalize eD d e=sx at aW ⊢;generalize Eg d e=O at aW aZ;subst aZ;obtain ⟨ag,aO,lo,hi,most,aij,es⟩:=d;obtain ⟨en,eb,ea,et,rb,ew,ln,ti,ru,pS⟩:=e;obtain ⟨p,nd,l,h⟩:=r;simp only at h1 tA h2 Jj h3 Ow hj YJ ll UK Zp UJ RG hl hp ⊢;obtain ⟨lb,rfl⟩:∃ n:Nat,rb=n:=⟨_,h2⟩;obtain ⟨tn,rfl⟩:∃ n:Nat,et=n:=⟨_,h1⟩;obtain ⟨sn,rfl⟩:∃ n:Nat,ru=n:=⟨_,h3⟩;simp only [eH] at tA Jj Ow hj YJ ll UK Zp UJ RG ⊢;have Hu:=fun x=>hse x _ ll;have xc:=fun x=>hse x _ UK;generalize lG (aH S) S.ae.length l lb=j1 at hj ll Zp UJ RG Hu ⊢;generalize lG (aH S) S.ae.length l sn=j2 at YJ UK UJ RG xc ⊢;generalize aH S j1 obs=b1 at Hu Zp UJ RG;generalize aH S j2 obs=b2 at xc UJ RG;obtain ⟨sk,sn',ss⟩:=sx;rcases p with _ | ⟨s0,p⟩
 ·simp only [UI,dP,List.nil_append];refine eG 61 [.cell 8 85] func165 rfl ntmps165 rfl fun _ _ _ _=>?_;refine cP KL aW ?_;apply wy (fun _=>false) (.op 0 (.op 1 (.op 3 (.op 6 (.op 7 (.op 8 (.op 9 (.op 10 (.op 11 (.op 12 (.op 13 (.op 14 (.op 15 (.ev 2 (.ev 4 (.ev 5 (.ev 16 (.op 17 (.ev 18 (.ev 19 .fin .stop) .stop)) (.ev 18 (.ev 16 (.op 17 (.ev 19 .fin .stop)) .stop) .stop)) (.ev 18 (.ev 5 (.ev 16 (.op 17 (.ev 19 .fin .stop)) .stop) .stop) .stop)) (.ev 18 (.ev 4 (.ev 5 (.ev 16 (.op 17 (.ev 19 .fin .stop)) .stop) .stop) .stop) .stop)) (.ev 4 (.ev 2 (.ev 5 (.ev 16 (.op 17 (.ev 18 (.ev 19 .fin .stop) .stop)) (.ev 18 (.ev 16 (.op 17 (.ev 19 .fin .stop)) .stop) .stop)) (.ev 18 (.ev 5 (.ev 16 (.op 17 (.ev 19 .fin .stop)) .stop) .stop) .stop)) (.ev 18 (.ev 2 (.ev 5 (.ev 16 (.op 17 (.ev 19 .fin .stop)) .stop) .stop) .stop) .stop)) (.ev 18 (.ev 2 (.ev 4 (.ev 5 (.ev 16 (.op 17 (.ev 19 .fin .stop)) .stop) .stop) .stop) (.ev 4 (.ev 2 (.ev 5 (.ev 16 (.op 17 (.ev 19 .fin .stop)) .stop) .stop) .stop) .stop)) .stop)))))))))))))))) mo (by decide +kernel);·repeat' (first | refine cD V3 RD ?_ | refine cD qu hj ?_ | exact nL rfl | exact trivial | exact Or.inl rfl | exact Ri | refine ⟨?_,?_⟩)
  refine pH KQ (Hu (.sl 4 (mI L) none)) ax rfl rfl ?_;refine br ?_ ?_<;>intro c
  ·have c:b1=true:=c;rw [Zp c];exact ⟨_,[Eh PC LC obs dp L],ax,gQ,rfl,rfl,rfl⟩
  have c1:b1=false:=sU c;refine dI ?_;refine br ?_ ?_<;>intro g
  ·have g:ln≠0:=sU g;refine cD qu YJ ?_;refine km KQ (xc (.sl 4 (mI L) none)) ax rfl rfl ?_;refine br ?_ ?_<;>intro c
   ·have c2:b2=true:=by simpa [pickB] using c
    rw [UJ c1 g c2];exact ⟨_,[Eh PC LC obs dp L],ax,gQ,rfl,rfl,rfl⟩
   ·have c2:b2=false:=by simpa [pickB] using c
    rw [RG c1 (.inr c2)];exact ⟨_,[Eh PC LC obs dp L],ax,gQ,rfl,rfl,rfl⟩
  ·have g:ln=0:=sU g;rw [RG c1 (.inl g)];exact ⟨_,[Eh PC LC obs dp L],ax,gQ,rfl,rfl,rfl⟩
 ·have hcf:=RE s0 p (by omega);have lP:=ef (s0 :: p);have iQ:(aF (s0 :: p)).length + 1<=maxLen:=by rw [lP];simp only [maxLen];omega
  have Kt:((aF (s0 :: p)).length + 1) * 32<=140737488355328:=by rw [lP];omega
  have Nb:=JQ (s0 :: p) ⟨sk,sn',ss⟩;simp only [UI,dP,List.cons_append];refine eG 61 [.cell 8 85] func165 rfl ntmps165 rfl fun _ _ _ _=>?_;refine cP KL aW ?_;apply wy (fun _=>false) (.op 0 (.op 1 (.op 3 (.op 6 (.op 7 (.op 8 (.op 9 (.op 10 (.op 11 (.op 12 (.op 13 (.op 14 (.op 15 (.ev 2 (.ev 4 (.ev 5 (.ev 16 (.op 17 (.ev 18 (.ev 19 .fin .stop) .stop)) (.ev 18 (.ev 16 (.op 17 (.ev 19 .fin .stop)) .stop) .stop)) (.ev 18 (.ev 5 (.ev 16 (.op 17 (.ev 19 .fin .stop)) .stop) .stop) .stop)) (.ev 18 (.ev 4 (.ev 5 (.ev 16 (.op 17 (.ev 19 .fin .stop)) .stop) .stop) .stop) .stop)) (.ev 4 (.ev 2 (.ev 5 (.ev 16 (.op 17 (.ev 18 (.ev 19 .fin .stop) .stop)) (.ev 18 (.ev 16 (.op 17 (.ev 19 .fin .stop)) .stop) .stop)) (.ev 18 (.ev 5 (.ev 16 (.op 17 (.ev 19 .fin .stop)) .stop) .stop) .stop)) (.ev 18 (.ev 2 (.ev 5 (.ev 16 (.op 17 (.ev 19 .fin .stop)) .stop) .stop) .stop) .stop)) (.ev 18 (.ev 2 (.ev 4 (.ev 5 (.ev 16 (.op 17 (.ev 19 .fin .stop)) .stop) .stop) .stop) (.ev 4 (.ev 2 (.ev 5 (.ev 16 (.op 17 (.ev 19 .fin .stop)) .stop) .stop) .stop) .stop)) .stop)))))))))))))))) mo (by decide +kernel);·repeat' (first | (refine DD V3 rfl hcf ax (fun pq bO hr=>?_);obtain ⟨rfl,rfl⟩:=hr) | refine cD qu hj ?_ | refine ⟨lP,⟨iQ,Kt⟩,?_⟩ | exact trivial | exact Or.inl rfl | exact Ri | refine ⟨?_,?_⟩)
  refine pH KQ (Hu (.sl 4 (mI L) none)) ax rfl rfl ?_;refine br ?_ ?_<;>intro c
  ·have c:b1=true:=c;rw [Zp c];exact ⟨_,[Eh PC LC obs dp L],(by repeat' (first | exact rfl | exact trivial | exact Or.inr (Or.inl ⟨_,rfl⟩) | exact Or.inr ⟨_,rfl⟩ | exact Or.inl ⟨rfl,rfl⟩ | exact Or.inl rfl | refine Or.inr ⟨_,_,rfl,Nat.zero_le _,rfl,?_⟩ | refine ⟨_,_,rfl,?_,?_⟩ | refine ⟨_,rfl,?_⟩ | exact Or.inr (Or.inl ⟨_,congrArg (fun l=>DV.sl 3 l _) Nb⟩) | refine Or.inr (Or.inr (Or.inr ⟨_,_,rfl,?_⟩)) | exact Or.inl rfl | refine Or.inr ?_)),gQ,rfl,rfl,rfl⟩
  have c1:b1=false:=sU c;refine dI ?_;refine br ?_ ?_<;>intro g
  ·have g:ln≠0:=sU g;refine cD qu YJ ?_;refine km KQ (xc (.sl 4 (mI L) none)) ax rfl rfl ?_;refine br ?_ ?_<;>intro c
   ·have c2:b2=true:=by simpa [pickB] using c
    rw [UJ c1 g c2];exact ⟨_,[Eh PC LC obs dp L],(by repeat' (first | exact rfl | exact trivial | exact Or.inr (Or.inl ⟨_,rfl⟩) | exact Or.inr ⟨_,rfl⟩ | exact Or.inl ⟨rfl,rfl⟩ | exact Or.inl rfl | refine Or.inr ⟨_,_,rfl,Nat.zero_le _,rfl,?_⟩ | refine ⟨_,_,rfl,?_,?_⟩ | refine ⟨_,rfl,?_⟩ | exact Or.inr (Or.inl ⟨_,congrArg (fun l=>DV.sl 3 l _) Nb⟩) | refine Or.inr (Or.inr (Or.inr ⟨_,_,rfl,?_⟩)) | exact Or.inl rfl | refine Or.inr ?_)),gQ,rfl,rfl,rfl⟩
   ·have c2:b2=false:=by simpa [pickB] using c
    rw [RG c1 (.inr c2)];exact ⟨_,[Eh PC LC obs dp L],(by repeat' (first | exact rfl | exact trivial | exact Or.inr (Or.inl ⟨_,rfl⟩) | exact Or.inr ⟨_,rfl⟩ | exact Or.inl ⟨rfl,rfl⟩ | exact Or.inl rfl | refine Or.inr ⟨_,_,rfl,Nat.zero_le _,rfl,?_⟩ | refine ⟨_,_,rfl,?_,?_⟩ | refine ⟨_,rfl,?_⟩ | exact Or.inr (Or.inl ⟨_,congrArg (fun l=>DV.sl 3 l _) Nb⟩) | refine Or.inr (Or.inr (Or.inr ⟨_,_,rfl,?_⟩)) | exact Or.inl rfl | refine Or.inr ?_)),gQ,rfl,rfl,rfl⟩
  ·have g:ln=0:=sU g;rw [RG c1 (.inl g)];exact ⟨_,[Eh PC LC obs dp L],(by repeat' (first | exact rfl | exact trivial | exact Or.inr (Or.inl ⟨_,rfl⟩) | exact Or.inr ⟨_,rfl⟩ | exact Or.inl ⟨rfl,rfl⟩ | exact Or.inl rfl | refine Or.inr ⟨_,_,rfl,Nat.zero_le _,rfl,?_⟩ | refine ⟨_,_,rfl,?_,?_⟩ | refine ⟨_,rfl,?_⟩ | exact Or.inr (Or.inl ⟨_,congrArg (fun l=>DV.sl 3 l _) Nb⟩) | refine Or.inr (Or.inr (Or.inr ⟨_,_,rfl,?_⟩)) | exact Or.inl rfl | refine Or.inr ?_)),gQ,rfl,rfl,rfl⟩
abbrev NH (n:Nat):TkE:=⟨n,85,4,none⟩
abbrev GI (PC LC:List DV) (obs dp:Nat) (O:List bK) (q:Nat) (r:bK) (d:Nd) (e:Nat):St:=
 ⟨[aE 0 0,aE 3 1,aE 4 2,aM 50 10 (dT d.ai),au 51 ((dT d.ai).length),au 52 e],
  [Eh PC LC obs dp O,UI r,j5 d],[NH q]⟩
def WkΦ (PC LC:List DV) (obs dp:Nat) (O:List bK) (pq:DV) (os:List (List DV)) (tk:List TkE):Prop:=pq = .tup []/\os=[Eh PC LC obs dp O]/\tk=[NH O.length]
set_option maxHeartbeats 4000000 in
theorem zh {S:Sch} {ND:List Nd} {PC LC:List DV} {af:List ByteArray} (hP:dX S ND PC) (ir:EvP prog 72 [.pt PC 0] (.pt LC 0)) (hL:Js S.ae.length (aH S) af LC) (obs dp:Nat) (ho:obs < S.ae.length) (u1:dp<=64) :
  ∀ (k:Nat) (r:bK) (O:List bK),r.ah < ND.length->r.lv < S.ae.length->dp<=r.p.length + k->r.p.length<=64->O.length<=1000 ->
  Ev prog 86 [.loc 0 0,.agg (UI r)] [Eh PC LC obs dp O] [NH O.length] (WkΦ PC LC obs dp (O ++ rowsV ND (aH S) S.ae.length obs dp k r (1000 - O.length)))
 | k,r,O,hnd,WD,hk,hp,hO=>by
  have LP:=RF O;by_cases Xb:O.length=1000
  ·have hV:rowsV ND (aH S) S.ae.length obs dp k r (1000 - O.length)=[]:=by rw [Xb];cases k<;>rfl
   rw [hV,List.append_nil];obtain ⟨p,nd,l,h⟩:=r;rcases p with _ | ⟨s0,p⟩
   all_goals
    refine eG 71 [] func86 rfl ntmps86 rfl fun _ _ _ _=>?_;refine br (fun _=>?_) (fun c=>absurd c (by simp [LP,Xb]));exact ⟨_,[Eh PC LC obs dp O],ax,gQ,rfl,rfl,rfl⟩
  obtain ⟨m,hm⟩:∃ m,1000 - O.length=m + 1:=⟨1000 - O.length - 1,by omega⟩;rw [hm];have dx:=NF O r;have cu:=ef r.p;by_cases GJ:r.how≠2∨dp<=r.p.length
  ·have hV:rowsV ND (aH S) S.ae.length obs dp k r (m + 1)=[r]:=by
    cases k with
    | zero=>rfl
    | succ k=>rw [rowsV,aj (by omega),ap GJ]
   rw [hV];obtain ⟨p,nd,l,h⟩:=r;rcases p with _ | ⟨s0,p⟩
   all_goals
    simp only at GJ cu;refine eG 71 [] func86 rfl ntmps86 rfl fun _ _ _ _=>?_;refine br (fun c=>absurd c (by simp [LP];omega)) (fun _=>?_);refine dS ?_;refine ⟨LP,⟨by rw [LP];simp [maxLen];omega,by rw [LP];simp;omega⟩,?_⟩;refine dI ?_
    refine br (fun _=>?_) (fun c=>absurd c (by
     simp [aw,cu];simp at GJ
     omega))
    exact ⟨_,[Eh PC LC obs dp (O ++ [_])],ax,(by repeat' (first | exact rfl | exact trivial | exact Or.inr (Or.inl ⟨_,rfl⟩) | exact Or.inr ⟨_,rfl⟩ | exact Or.inl ⟨rfl,rfl⟩ | exact Or.inl rfl | refine Or.inr ⟨_,_,rfl,Nat.zero_le _,rfl,?_⟩ | refine ⟨_,_,rfl,?_,?_⟩ | refine ⟨_,rfl,?_⟩ | exact ⟨nL rfl,rfl⟩ | exact ⟨nL rfl,(congrArg (fun l=>DV.sl 4 l _) dx).symm⟩ | exact ⟨nL rfl,congrArg (fun l=>DV.sl 4 l _) dx⟩ | refine Or.inr (Or.inr (Or.inr ⟨_,_,rfl,?_⟩)) | exact Or.inl rfl | refine Or.inr ?_)),rfl,rfl,by simp [NH,LP]⟩
  ·obtain ⟨k,rfl⟩:∃ k',k=k' + 1:=⟨k - 1,by omega⟩;obtain ⟨d,hd⟩:∃ d,ND[r.ah]? = some d:=⟨_,gE hnd⟩;have qm:=mG hd;have hN:=hP.ok d qm
   have kM:d.ai.length<=1099511627776:=by
    have:=kC (S:=S) (n:=d) (by rw [<- hP.zR];exact qm) hP.wt;exact this.2
   have UL:=bw d.ai
   have hV:rowsV ND (aH S) S.ae.length obs dp (k + 1) r (m + 1)=nX (aH S) S.ae.length obs (rowsV ND (aH S) S.ae.length obs dp k) d r (m + 1) d.ai.length:=by
    rw [rowsV,aj (by omega),aj GJ,hd];unfold nX;rw [List.take_length]
   rw [hV];have dK:=ux (f:=aH S) (n:=S.ae.length) (obs:=obs) (F:=rowsV ND (aH S) S.ae.length obs dp k) (fun r m=>pQ k r m) (d:=d) (r:=r) (may:=m + 1) (by omega);have yb:=fun e x h=>@yZ (aH S) S.ae.length obs (rowsV ND (aH S) S.ae.length obs dp k) d r (m + 1) e x h;have hzero:=@JA (aH S) S.ae.length obs (rowsV ND (aH S) S.ae.length obs dp k) d r (m + 1);have ih:=zh hP ir hL obs dp ho u1 k;have cS:=hP.ah r.ah d hd;have aW:=fun x h5=>zg d x h5 hN.k8;have n7:=fun O' x he aZ=>NG hP hL obs dp ho O' (NH O'.length) r (by omega) WD r.ah d hd x he aZ;have iP:∀ x,sF (aH S) S.ae.length obs d x r=⟨r.p ++ [eD d x],x.to.toNat,lG (aH S) S.ae.length r.lv x.label.toNat,iL (aH S) S.ae.length obs d x r.lv⟩:=fun _=>rfl;have sb:=fun (e:Ed) (he:e∈d.ai)=>eV hN he;have ll:=fun (x:Ed) (he:x∈d.ai)=>nJ hL.ok WD (sb x he).2.1.2
   have ad7:∀ x∈d.ai,Eg d x=true->x.bare=false:=fun x hx h=>by
    cases hb:x.bare
    ·rfl
    ·have h8:=hN.bare x hx hb;unfold Eg at h;rw [ap h8,hb] at h;cases h
   have h5:∀ x,x∈d.ai->5<=d.ag:=fun x hx=>by
    rcases Int.lt_or_le d.ag 5 with c | c
    ·rw [hN.leaf c] at hx;cases hx
    ·exact c
   generalize nX (aH S) S.ae.length obs (rowsV ND (aH S) S.ae.length obs dp k) d r (m + 1)=G at dK yb hzero ⊢;have E8:∀ r' m',(rowsV ND (aH S) S.ae.length obs dp k r' m').length<=m':=fun r' m'=>pQ (ND:=ND) (f:=aH S) (n:=S.ae.length) (obs:=obs) (dep:=dp) k r' m';generalize rowsV ND (aH S) S.ae.length obs dp k=RV at ih yb E8
   have hccP:∀ bx N n0 m0,Cc bx N n0 m0 (dP r.p) (dP r.p):=fun bx N n0 m0=>by
    cases r.p with
    | nil=>simp only [dP,Cc]
    | cons s p=>simp only [dP,Cc];exact .inr (.inl ⟨_,rfl⟩)
   obtain ⟨p,nd,l,h⟩:=r;simp only at GJ cu hd WD hk hp ll iP cS hccP;have PS:p.length < dp:=by omega
   have hh2:h=2:=by omega
   subst hh2;have UM:mI O ++ [UI ⟨p,nd,l,2⟩]=mI (O ++ G 0):=by rw [hzero];exact dx
   have ad8:(O ++ G 0).length=O.length + 1:=by rw [hzero];simp
   rcases p with _ | ⟨s0,p⟩
   ·refine eG 71 [] func86 rfl ntmps86 rfl fun _ _ _ _=>?_;refine br (fun c=>absurd c (by simp [LP];omega)) (fun _=>?_);refine dS ?_;refine ⟨LP,⟨by rw [LP];simp [maxLen];omega,by rw [LP];simp;omega⟩,?_⟩;refine dI ?_
    refine br (fun c=>absurd c (by
     simp [aw,cu];simp at PS
     omega)) (fun _=>?_)
    apply wy (fun _=>false) (.op 0 (.op 1 (.op 2 (.op 3 (.op 4 (.op 5 (.ev 6 (.op 7 (.op 8 (.op 9 (.ev 10 (.ev 11 (.op 12 .fin) .stop) .stop)))) (.ev 10 (.ev 6 (.op 7 (.op 8 (.op 9 (.ev 11 (.op 12 .fin) .stop)))) .stop) .stop)))))))) mo (by decide +kernel);·repeat' (first | refine cD oE cS ?_ | exact trivial | exact Or.inl rfl | exact Ri | refine ⟨?_,?_⟩)
    refine aY (fun j st=>∃ e q:Nat,st=GI PC LC obs dp (O ++ G e) q ⟨[],nd,l,2⟩ d e/\q=(O ++ G e).length/\e<=d.ai.length/\j=d.ai.length - e) d.ai.length
     (GI PC LC obs dp (O ++ G 0) (O.length + 1) ⟨[],nd,l,2⟩ d 0) (bZ 3 (jM UM) (cJ UM)) ⟨0,O.length + 1,rfl,ad8.symm,by omega,by omega⟩ ?_
    rintro j st ⟨e,q,rfl,rfl,he,rfl⟩;have hGe:=dK e;refine br ?_ ?_<;>intro hLo
    ·have aq:e < d.ai.length:=sV UL hLo;obtain ⟨x,hx⟩:=gX aq;have sH:=mG hx;have JR:=aW x (h5 x sH);have s8:=yb e x hx;have qh:=n7 (O ++ G e) x sH;have Zj:=ad7 x sH;have mw:=(sb x sH).1;have Z5:=ll x sH;rw [iP x] at s8 qh;have iS:=fun (h1:x.to.toNat < ND.length)=>ih ⟨([]:List Stp) ++ [eD d x],x.to.toNat,lG (aH S) S.ae.length l x.label.toNat,iL (aH S) S.ae.length obs d x l⟩ (O ++ G e) h1 Z5 (by simp at hk PS ⊢<;>omega) (by simp at PS ⊢<;>omega) (by rw [List.length_append];omega);have hmm:1000 - (O ++ G e).length=m + 1 - (G e).length:=by rw [List.length_append];omega
     rw [hmm] at iS;generalize iL (aH S) S.ae.length obs d x l=hw at s8 qh iS;generalize lG (aH S) S.ae.length l x.label.toNat=jn at s8 qh iS;generalize eD d x=sx at JR s8 qh iS;generalize Eg d x=OK at JR s8 qh Zj;refine iX (aS hx) ?_;refine cP KL JR ?_
     cases OK with
     | false=>
      rw [aj (by simp)] at s8;rw [<- s8];exact ⟨GI PC LC obs dp (O ++ G (e + 1)) (O ++ G (e + 1)).length ⟨[],nd,l,2⟩ d (e + 1),(bZ 3 (jM (aG aq (by omega))) (cJ (aG aq (by omega)))),d.ai.length - (e + 1),by omega,e + 1,_,rfl,rfl,by omega,rfl⟩
     | true=>
      rw [ap rfl] at s8;have iS:=iS (mw (Zj rfl)).2;have qh:=qh rfl;have hRl:=E8 ⟨([]:List Stp) ++ [sx],x.to.toNat,jn,hw⟩ (m + 1 - (G e).length);generalize RV ⟨([]:List Stp) ++ [sx],x.to.toNat,jn,hw⟩ (m + 1 - (G e).length)=RR at s8 iS hRl;have FP:mI (O ++ G e ++ RR)=mI (O ++ G (e + 1)):=by rw [s8,List.append_assoc]
      have Zq:(O ++ G e ++ RR).length=(O ++ G (e + 1)).length:=by rw [s8,List.append_assoc]
      refine fN 1 1 VQ rfl rfl rfl gQ gQ qh (fun r j4 cM hΦ h1 h2=>?_);obtain ⟨rfl,rfl,rfl⟩:=hΦ;refine fN 1 1 X7 rfl rfl rfl gQ gQ iS (fun r j4 cM hΦ h1 h2=>?_);obtain ⟨rfl,rfl,rfl⟩:=hΦ;exact ⟨GI PC LC obs dp (O ++ G (e + 1)) (O ++ G e ++ RR).length ⟨[],nd,l,2⟩ d (e + 1),(bZ 3 (lY (aG aq (by omega)) FP) (wB2 (aG aq (by omega)) FP)),d.ai.length - (e + 1),by omega,e + 1,_,rfl,Zq,by omega,rfl⟩
    ·have hge:e=d.ai.length:=sW UL hLo;subst hge;exact ⟨_,[Eh PC LC obs dp (O ++ G d.ai.length)],ax,gQ,rfl,rfl,rfl⟩
   ·refine eG 71 [] func86 rfl ntmps86 rfl fun _ _ _ _=>?_;refine br (fun c=>absurd c (by simp [LP];omega)) (fun _=>?_);refine dS ?_;refine ⟨LP,⟨by rw [LP];simp [maxLen];omega,by rw [LP];simp;omega⟩,?_⟩;refine dI ?_
    refine br (fun c=>absurd c (by
     simp [aw,cu];simp at PS
     omega)) (fun _=>?_)
    apply wy (fun _=>false) (.op 0 (.op 1 (.op 2 (.op 3 (.op 4 (.op 5 (.ev 6 (.op 7 (.op 8 (.op 9 (.ev 10 (.ev 11 (.op 12 .fin) .stop) .stop)))) (.ev 10 (.ev 6 (.op 7 (.op 8 (.op 9 (.ev 11 (.op 12 .fin) .stop)))) .stop) .stop)))))))) mo (by decide +kernel);·repeat' (first | refine cD oE cS ?_ | exact trivial | exact Or.inl rfl | exact Ri | refine ⟨?_,?_⟩)
    refine aY (fun j st=>∃ e q:Nat,st=GI PC LC obs dp (O ++ G e) q ⟨s0 :: p,nd,l,2⟩ d e/\q=(O ++ G e).length/\e<=d.ai.length/\j=d.ai.length - e) d.ai.length
     (GI PC LC obs dp (O ++ G 0) (O.length + 1) ⟨s0 :: p,nd,l,2⟩ d 0) (bZ 3 (jM UM) (cJ UM)) ⟨0,O.length + 1,rfl,ad8.symm,by omega,by omega⟩ ?_
    rintro j st ⟨e,q,rfl,rfl,he,rfl⟩;have hGe:=dK e;refine br ?_ ?_<;>intro hLo
    ·have aq:e < d.ai.length:=sV UL hLo;obtain ⟨x,hx⟩:=gX aq;have sH:=mG hx;have JR:=aW x (h5 x sH);have s8:=yb e x hx;have qh:=n7 (O ++ G e) x sH;have Zj:=ad7 x sH;have mw:=(sb x sH).1;have Z5:=ll x sH;rw [iP x] at s8 qh;have iS:=fun (h1:x.to.toNat < ND.length)=>ih ⟨(s0 :: p) ++ [eD d x],x.to.toNat,lG (aH S) S.ae.length l x.label.toNat,iL (aH S) S.ae.length obs d x l⟩ (O ++ G e) h1 Z5 (by simp at hk PS ⊢<;>omega) (by simp at PS ⊢<;>omega) (by rw [List.length_append];omega);have hmm:1000 - (O ++ G e).length=m + 1 - (G e).length:=by rw [List.length_append];omega
     rw [hmm] at iS;generalize iL (aH S) S.ae.length obs d x l=hw at s8 qh iS;generalize lG (aH S) S.ae.length l x.label.toNat=jn at s8 qh iS;generalize eD d x=sx at JR s8 qh iS;generalize Eg d x=OK at JR s8 qh Zj;refine iX (aS hx) ?_;refine cP KL JR ?_
     cases OK with
     | false=>
      rw [aj (by simp)] at s8;rw [<- s8];exact ⟨GI PC LC obs dp (O ++ G (e + 1)) (O ++ G (e + 1)).length ⟨s0 :: p,nd,l,2⟩ d (e + 1),(bZ 3 (jM (aG aq (by omega))) (cJ (aG aq (by omega)))),d.ai.length - (e + 1),by omega,e + 1,_,rfl,rfl,by omega,rfl⟩
     | true=>
      rw [ap rfl] at s8;have iS:=iS (mw (Zj rfl)).2;have qh:=qh rfl;have hRl:=E8 ⟨(s0 :: p) ++ [sx],x.to.toNat,jn,hw⟩ (m + 1 - (G e).length);generalize RV ⟨(s0 :: p) ++ [sx],x.to.toNat,jn,hw⟩ (m + 1 - (G e).length)=RR at s8 iS hRl;have FP:mI (O ++ G e ++ RR)=mI (O ++ G (e + 1)):=by rw [s8,List.append_assoc]
      have Zq:(O ++ G e ++ RR).length=(O ++ G (e + 1)).length:=by rw [s8,List.append_assoc]
      refine fN 1 1 VQ rfl rfl rfl gQ gQ qh (fun r j4 cM hΦ h1 h2=>?_);obtain ⟨rfl,rfl,rfl⟩:=hΦ;refine fN 1 1 X7 rfl rfl rfl gQ gQ iS (fun r j4 cM hΦ h1 h2=>?_);obtain ⟨rfl,rfl,rfl⟩:=hΦ;exact ⟨GI PC LC obs dp (O ++ G (e + 1)) (O ++ G e ++ RR).length ⟨s0 :: p,nd,l,2⟩ d (e + 1),(bZ 3 (lY (aG aq (by omega)) FP) (wB2 (aG aq (by omega)) FP)),d.ai.length - (e + 1),by omega,e + 1,_,rfl,Zq,by omega,rfl⟩
    ·have hge:e=d.ai.length:=sW UL hLo;subst hge;exact ⟨_,[Eh PC LC obs dp (O ++ G d.ai.length)],ax,gQ,rfl,rfl,rfl⟩
def qC (z:Int):ByteArray:=
 if z=1 then ⟨#[98,111,111,108]⟩ else if z=2 then ⟨#[105,110,116]⟩ else if z=3 then ⟨#[116,101,120,116]⟩ else if z=4 then ⟨#[101,110,117,109]⟩
 else if z=5 then ⟨#[108,105,115,116]⟩ else if z=6 then ⟨#[111,112,116]⟩ else if z=7 then ⟨#[114,101,99,111,114,100]⟩ else if z=8 then ⟨#[117,110,105,111,110]⟩ else ⟨#[]⟩
def Ah (n:Nat):ByteArray:=if n=2 then ⟨#[115,101,101,110]⟩ else if n=1 then ⟨#[99,111,97,114,115,101]⟩ else ⟨#[104,105,100,100,101,110]⟩
theorem uH (z:Int):(qC z).size<=6:=by
 unfold qC
 repeat' split
 all_goals decide
theorem zi (n:Nat):(Ah n).size<=6:=by
 unfold Ah
 repeat' split
 all_goals decide
theorem vl (z:Int):EvP prog 162 [.v (.int .i64 z)] (.v (.string (qC z))):=by
 refine eG 15 [.tmp 2] func162 rfl ntmps162 rfl fun _ _ _ _=>?_;refine br ?_ ?_<;>intro c
 ·have hF:qC z=⟨#[]⟩:=by grind [aw,qC]
  rw [hF];exact (rfl:_=_)
 ·have hz:z=1∨z=2∨z=3∨z=4∨z=5∨z=6∨z=7∨z=8:=by
   simp [aw] at c;omega
  rcases hz with rfl | rfl | rfl | rfl | rfl | rfl | rfl | rfl
  all_goals
   refine ⟨_,⟨by omega,rfl⟩,?_⟩;exact (rfl:_=_)
theorem GK (n:Nat):EvP prog 163 [.v (.int .i64 n)] (.v (.string (Ah n))):=by
 have hF:Ah n=if n=2 then ⟨#[115,101,101,110]⟩ else if n=1 then ⟨#[99,111,97,114,115,101]⟩ else ⟨#[104,105,100,100,101,110]⟩:=rfl
 generalize Ah n=F at hF ⊢;refine eG 8 [.tmp 2] func163 rfl ntmps163 rfl fun _ _ _ _=>?_;refine br ?_ ?_<;>intro c
 ·have c:n=2:=by simp at c;omega
  rw [ap c] at hF;subst hF;exact (rfl:_=_)
 have c:¬ n=2:=by simp at c;omega
 rw [aj c] at hF;refine br ?_ ?_<;>intro c
 ·have c:n=1:=by simp at c;omega
  rw [ap c] at hF;subst hF;exact (rfl:_=_)
 have c:¬ n=1:=by simp at c;omega
 rw [aj c] at hF;subst hF;exact (rfl:_=_)
namespace Dv
theorem RH {X:Ctx} {id:Nat} {ops:Array Oper} {k:List It} {st:St} (st':St) (hw:qf X.n0 X.m0 st st') (h:l6 X id ops k st'):l6 X id ops k st:=fun E a w hr=>by
 obtain ⟨E',h'⟩:=Wk.MU hw E a w hr;exact h E' a w h'
end Dv
theorem zj (bx:List (List DV)) (N:Nat):∀ L:List bK,CcE bx N (iY L) (mI L)
 | []=>by simp [iY,mI,CcE]
 | ⟨[],nd,l,h⟩ :: L=>by
  have:=zj bx N L;simp only [iY,mI,List.map_cons,CcE] at this ⊢;refine ⟨_,_,rfl,.inr ?_,this⟩;exact ax
 | ⟨s :: p,nd,l,h⟩ :: L=>by
  have:=zj bx N L;simp only [iY,mI,List.map_cons,CcE] at this ⊢;exact ⟨_,_,rfl,.inl rfl,this⟩
theorem zk {S:Sch} {ND:List Nd} {PC:List DV} (hP:dX S ND PC) (root:Nat) (mQ:dw S=root) (dK:root < ND.length) (o dp:Int):EvP prog 32 [.pt PC 0,.v (.int .i64 o),.v (.int .i64 dp)]
  (.sl 4 (iY (mF ND (aH S) S.ae.length root o dp)) none):=by
 obtain ⟨LC,ir,BA⟩:=hP.Np;have hlen:=BA.len;have eo:=hP.root;rw [mQ] at eo;have iq:=BA.bot;have hA:mF ND (aH S) S.ae.length root o dp=if 0<=o/\o < S.ae.length/\0<=dp then Nz ND (aH S) S.ae.length o.toNat (min dp 64).toNat root else []:=rfl
 by_cases hc:0<=o/\o < S.ae.length/\0<=dp
 ·rw [ap hc] at hA;rw [hA];obtain ⟨h1,h2,h3⟩:=hc;obtain ⟨ob,rfl⟩:∃ n:Nat,o=n:=⟨_,(Int.toNat_of_nonneg h1).symm⟩;obtain ⟨de,rfl⟩:∃ n:Nat,dp=n:=⟨_,(Int.toNat_of_nonneg h3).symm⟩;obtain ⟨dm,hdm⟩:∃ n:Nat,min (de:Int) 64=n:=⟨min de 64,by omega⟩;have hw:=zh hP ir BA ob dm (by omega) (by omega) dm ⟨[],root,dC (aH S) S.ae.length,2⟩ [] dK (lH BA.ok) (by simp) (by simp) (by simp);rw [eH,hdm,eH];have fG:Nz ND (aH S) S.ae.length ob dm root=[] ++ rowsV ND (aH S) S.ae.length ob dm dm ⟨[],root,dC (aH S) S.ae.length,2⟩ (1000 - ([]:List bK).length):=rfl;rw [<- fG] at hw;generalize Nz ND (aH S) S.ae.length ob dm root=V at hw ⊢;generalize dC (aH S) S.ae.length=bt at hw iq;refine eG 43 [.tmp 6] func32 rfl ntmps32 rfl fun _ _ _ _=>?_;refine cP tJ ir ?_;refine cP H9 hlen ?_
  refine br (fun c=>absurd c (by
   simp [aw]
   omega)) (fun _=>?_)
  refine cP tJ ir ?_;refine Dv.RH ⟨[aE 7 0,eX 0 PC],[Eh PC LC ob dm []],[NH 0]⟩ (cX 1 ⟨0,85,4,none⟩ rfl rfl rfl (jM hdm) rfl rfl (cJ hdm)) ?_;refine ki (fun i=>Nat.beq i 9) mo (by decide +kernel) ?_;refine cD Mt eo ?_;refine cD TC iq ?_;refine kO rfl ?_;refine fN 1 1 X7 rfl rfl rfl gQ gQ hw (fun r j4 cM hΦ h1 h2=>?_);obtain ⟨rfl,rfl,rfl⟩:=hΦ;exact ⟨_,(by repeat' (first | exact rfl | exact trivial | exact Or.inr (Or.inl ⟨_,rfl⟩) | exact Or.inr ⟨_,rfl⟩ | exact Or.inl ⟨rfl,rfl⟩ | exact Or.inl rfl | refine Or.inr ⟨_,_,rfl,Nat.zero_le _,rfl,?_⟩ | refine ⟨_,_,rfl,?_,?_⟩ | refine ⟨_,rfl,?_⟩ | exact Or.inr (Or.inr (Or.inr ⟨_,_,rfl,zj _ _ _⟩)) | refine Or.inr (Or.inr (Or.inr ⟨_,_,rfl,?_⟩)) | exact Or.inl rfl | refine Or.inr ?_)),rfl⟩
 ·rw [aj hc] at hA;rw [hA];refine Da ?_;refine eG 43 [.tmp 6] func32 rfl ntmps32 rfl fun _ _ _ _=>?_;refine br ?_ ?_<;>intro c
  ·have c:0<=o:=sU c;refine cP tJ ir ?_;refine cP H9 hlen ?_
   refine br (fun _=>?_) (fun c2=>absurd c2 (by
    simp [aw]
    omega))
   exact Or.inr ⟨rfl,rfl⟩
  ·have c:o < 0:=by
    simp at c;exact c
   exact Or.inr ⟨rfl,rfl⟩
structure S2 (n N:Nat) (r:bK):Prop where
 len:r.p.length<=64
 Zr:∀ s∈r.p,uC s
 ah:r.ah < N
 lv:r.lv < n
 how:r.how<=2
theorem UN {L N:Nat} {d:Nd} (hN:cf L N d) {e:Ed} (he:e∈d.ai):uC (eD d e):=by
 have Gi:=hN.k8;have h0:ay.size=0:=rfl
 have h5:5<=d.ag:=by
  rcases Int.lt_or_le d.ag 5 with c | c
  ·rw [hN.leaf c] at he;cases he
  ·exact c
 unfold eD uC;by_cases c5:d.ag=5
 ·grind
 rw [aj c5];by_cases c6:d.ag=6
 ·grind
 rw [aj c6];have hs:=uD ((hN.many (by omega)).2.2.2 e he)
 grind
theorem UO {f:Nat->Nat->Bool} {n obs N:Nat} (hL:dA f n) {d:Nd} (hN:cf n N d) {e:Ed} (he:e∈d.ai) (aZ:Eg d e=true) {r:bK} (hr:S2 n N r) (hp:r.p.length < 64):S2 n N (sF f n obs d e r):=by
 obtain ⟨mw,⟨h2,Jj⟩,h3,Ow⟩:=eV (ND:=List.replicate N d) (sU hN) he;rw [List.length_replicate] at mw
 have hb:e.bare=false:=by
  cases hb:e.bare
  ·rfl
  ·have h8:=hN.bare e he hb
   grind [Eg]
 refine ⟨?_,fun s hs=>?_,(mw hb).2,nJ hL hr.lv Jj,UF _ _ _ _ _ _⟩
 ·grind [sF]
 ·rcases List.mem_append.1 hs with h | h
  ·exact hr.Zr s h
  ·grind [UN]
theorem LQ {f:Nat->Nat->Bool} {n obs N:Nat} (hL:dA f n) {F:bK->Nat->List bK} {d:Nd} (hN:cf n N d) {r:bK} (hr:S2 n N r) (hp:r.p.length < 64) {may:Nat}
  (hF:∀ r' m,S2 n N r' -> r'.p.length=r.p.length + 1->∀ x∈F r' m,S2 n N x):∀ (es:List Ed) (acc:List bK),(∀ e∈es,e∈d.ai)->(∀ x∈acc,S2 n N x)->∀ x∈es.foldl (o0 f n obs F d r may) acc,S2 n N x
 | [],acc,_,ha,x,hx=>ha x hx
 | e :: es,acc,iO,ha,x,hx=>by
  refine LQ hL hN hr hp hF es (o0 f n obs F d r may acc e) (fun e he=>iO e (by simp [he])) (fun y hy=>?_) x hx
  grind [o0,UO,sF]
theorem LR {f:Nat->Nat->Bool} {n obs dep:Nat} (hL:dA f n) {ND:List Nd} (aZ:∀ d∈ND,cf n ND.length d) (Zm:dep<=64):∀ (k:Nat) (r:bK) (may:Nat),S2 n ND.length r->∀ x∈rowsV ND f n obs dep k r may,S2 n ND.length x
 | 0,r,may,hr,x,hx=>by grind [rowsV]
 | k + 1,r,may,hr,x,hx=>by
  rw [rowsV] at hx;split at hx
  ·cases hx
  split at hx
  ·rw [List.mem_singleton.1 hx];exact hr
  rename_i hs;split at hx
  ·rw [List.mem_singleton.1 hx];exact hr
  rename_i d hd;have hm:=mG hd;exact LQ hL (aZ d hm) hr (by omega) (fun r' m h _=>LR hL aZ Zm k r' m h) d.ai [r] (fun _ h=>h) (fun y hy=>by rw [List.mem_singleton.1 hy];exact hr) x hx
theorem LS {f:Nat->Nat->Bool} {n:Nat} (hL:dA f n) {ND:List Nd} (aZ:∀ d∈ND,cf n ND.length d) {root:Nat} (eo:root < ND.length) (o dp:Int):∀ x∈mF ND f n root o dp,S2 n ND.length x:=by
 unfold mF;split
 ·exact LR hL aZ (by omega) _ _ _ ⟨by simp,fun s hs=>(by cases hs),eo,lH hL,aV 2⟩
 ·intro x hx;cases hx
theorem BI {f:Nat->Nat->Bool} {n:Nat} {ND:List Nd} {root:Nat} {o dp:Int}:(mF ND f n root o dp).length<=1000:=by
 unfold mF;split
 ·exact pQ _ _ _
 ·simp
def Zs (p:List Stp):List UInt8:=if lh p=[] then [46] else lh p
def kdN (ND:List Nd) (i:Nat):Int:=match ND[i]? with | some d=>d.ag | none=>0
def nmN (af:List ByteArray) (i:Nat):ByteArray:=match af[i]? with | some s=>s | none=>⟨#[]⟩
def nY (ND:List Nd) (af:List ByteArray) (r:bK):List UInt8:=
 Zs r.p ++ (32 :: tx (qC (kdN ND r.ah))) ++ (32 :: tx (nmN af r.lv)) ++ (32 :: tx (Ah r.how)) ++ [10]
theorem uI {p:List Stp} (hi:∀ s∈p,uC s):(lh p).length<=2112:=by grind [lf,lh,sJ,vk,BE]
theorem RI {p:List Stp} (hi:∀ s∈p,uC s):(Zs p).length<=2112:=by grind [Zs,uI]
theorem UP {af:List ByteArray} (h:∀ s∈af,s.size<=32) (i:Nat):(nmN af i).size<=32:=by
 unfold nmN;split
 ·grind
 ·decide
theorem NI {ND:List Nd} {af:List ByteArray} (h:∀ s∈af,s.size<=32) {r:bK} (hi:∀ s∈r.p,uC s):(nY ND af r).length<=2200:=by grind [RI,UP,uH,kdN,zi,nY,nu]
theorem GL {ND:List Nd} {af:List ByteArray} {r:bK}:nY ND af r ≠ []:=by
 unfold nY;simp
def jD (n u:Int):Int × Bool:=if u < 1 then (0,false) else if n - n % u < -9223372036854775808 then (0,false) else (n - n % u,true)
def RJ (r:Int × Bool):DV:=.tup [.v (.int .i64 r.1),.v (.bool r.2)]
theorem RK {n u:Int} (hu:1<=u):(n.tmod u < 0->n.tmod u + u=n % u)/\(¬ n.tmod u < 0->n.tmod u=n % u):=by
 have h1:=Int.emod_nonneg n (show u≠0 by omega);have h2:=Int.emod_lt_of_pos n (show 0 < u by omega);have h3:=Int.tmod_eq_emod (a:=n) (b:=u);have h4:(u.natAbs:Int)=u:=Int.natAbs_of_nonneg (by omega);rw [h3];split<;>omega
theorem zl (n u:Int) (hn : -9223372036854775808<=n/\n<=9223372036854775807) (hu : -9223372036854775808<=u/\u<=9223372036854775807):EvP prog 214 [.v (.int .i64 n),.v (.int .i64 u)] (RJ (jD n u)):=by
 have hF:jD n u=if u < 1 then (0,false) else if n - n % u < -9223372036854775808 then (0,false) else (n - n % u,true):=rfl
 generalize jD n u=F at hF ⊢;refine eG 24 [.tmp 4,.tmp 5] func214 rfl ntmps214 rfl fun _ _ _ _=>?_;refine br ?_ ?_<;>intro c
 ·have c:u < 1:=sU c;rw [ap c] at hF;subst hF;exact ⟨_,ax,rfl⟩
 have c:¬ u < 1:=sU c;rw [aj c] at hF;have hm:=RK (n:=n) (u:=u) (by omega);have h1:=Int.emod_nonneg n (show u≠0 by omega);have h2:=Int.emod_lt_of_pos n (show 0 < u by omega);have h5 : -u<=n.tmod u/\n.tmod u < u:=by omega
 have Kr:IntKind.i64.wrap (-9223372036854775808 + n % u) = -9223372036854775808 + n % u:=wrap64 (by omega) (by omega);refine ⟨⟨rfl,by omega⟩,?_⟩;refine br ?_ ?_<;>intro g
 ·have g:n.tmod u < 0:=sU g;have pk:IntKind.i64.wrap (n.tmod u + u)=n % u:=by rw [hm.1 g];exact wrap64 (by omega) (by omega)
  refine br ?_ ?_<;>intro h
  ·have h:n < IntKind.i64.wrap (-9223372036854775808 + IntKind.i64.wrap (n.tmod u + u)):=sU h;rw [pk,Kr] at h;rw [ap (by omega)] at hF;subst hF;exact ⟨_,ax,rfl⟩
  ·have h:¬ n < IntKind.i64.wrap (-9223372036854775808 + IntKind.i64.wrap (n.tmod u + u)):=sU h;rw [pk,Kr] at h;rw [aj (by omega)] at hF;have zQ:IntKind.i64.wrap (n - IntKind.i64.wrap (n.tmod u + u))=n - n % u:=by rw [pk];exact wrap64 (by omega) (by omega)
   refine ⟨.tup [.v (.int .i64 (IntKind.i64.wrap (n - IntKind.i64.wrap (n.tmod u + u)))),.v (.bool true)],ax,?_⟩;rw [hF];exact congrArg (fun z=>DV.tup [.v (.int .i64 z),.v (.bool true)]) zQ
 ·have g:¬ n.tmod u < 0:=sU g;have pk:n.tmod u=n % u:=hm.2 g;refine br ?_ ?_<;>intro h
  ·have h:n < IntKind.i64.wrap (-9223372036854775808 + n.tmod u):=sU h;rw [pk,Kr] at h;rw [ap (by omega)] at hF;subst hF;exact ⟨_,ax,rfl⟩
  ·have h:¬ n < IntKind.i64.wrap (-9223372036854775808 + n.tmod u):=sU h;rw [pk,Kr] at h;rw [aj (by omega)] at hF;have zQ:IntKind.i64.wrap (n - n.tmod u)=n - n % u:=by rw [pk];exact wrap64 (by omega) (by omega)
   refine ⟨.tup [.v (.int .i64 (IntKind.i64.wrap (n - n.tmod u))),.v (.bool true)],ax,?_⟩;rw [hF];exact congrArg (fun z=>DV.tup [.v (.int .i64 z),.v (.bool true)]) zQ
end Go.Proofs.YtgjagnmeonoehaaGreat
