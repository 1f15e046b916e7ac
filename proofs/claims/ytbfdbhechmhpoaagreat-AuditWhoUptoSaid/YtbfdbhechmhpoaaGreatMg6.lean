/- Part 6 of the proof: The least depths of the values of a plan's nodes: plain; The program's nodes, least depths; A region that draws its order, in which a new object may come at any time among calls: its run with the object made at each of these times serves every order; Where steps lead: the document's Edge, Walk; the program's; The program's way along steps: fits, step, Walk; The document's least depths; fine; the chapter's example; The program's Depths; The law of least depths: fine, the example, the call returns true; With which schemas nothing is wrong: the document's Wrong of chapters 20, 21; the law's fine; Which levels see a place: the program's Who; A region that draws its order, run by a schedule: at each point all that may come and has an effect is tried; The document's rows of an audit: With, Under, How, Rows; The library's copyCheck of strings.Builder, laid at this program; The library's Builder at this program: what WriteString and String do to memory, exactly; Rules for the evaluator: the library's Builder, written and read; Rules for the evaluator: String of a Builder that holds nothing; The text of a path, of a row: plain, the program's, the document's; The document's rows of an audit; All rows of an audit, by the document; the law's bounds; Paths of a value: plain; tree.steps; Where steps lead in a value, and that value with another one there: plain; Rules for the evaluator: calls that hand back fresh rows; Rules for the evaluator: elements of rows whose cells nobody else knows, read and written whole; tree: slices.Index of steps, kid, clone, Get; tree.write, Raw; The document's Fits; Written values: well formed; the document's Same on the same value; its Raw; ref25.Paths; tree: walk, Paths; The program's rows of an audit: step, sees, row; The program's rows of an audit: walk, Rows; How kinds of types, and ways of seeing, are called; The program's rows of an audit: Rows; The lines of an audit: what is known of rows; the document's Line; The document's Line; the program's Text of an audit; The laws of audits' rows and texts; What is read of a value, as the plain data; What the frames of laws over values share; What is read of steps, and of steps with a value; The law of who sees a place; how a list of steps is read. No condition. -/
import Derived.Shelf.Strings.OnBuilder
import Derived.Shelf.RegionOpenPlain
import Derived.Lib.Strings
import Derived.Lib.Slices
import Derived.Lib.Walk
import Derived.Lib.Builder
import Derived.Lib.AppendStr
import Derived.Lib.UnsafeStr
import Derived.WalkKit
import Derived.Laws.Externs
import Derived.Lib.Hide
import Derived.Test.YtbfdbhechmhpoaaGreatMg2
import Derived.Test.YtbfdbhechmhpoaaGreatMg3
import Derived.Test.YtbfdbhechmhpoaaGreatMg4
import Derived.Test.YtbfdbhechmhpoaaGreatMg5
set_option linter.all false
set_option maxRecDepth 100000
namespace Go.Proofs.YtbfdbhechmhpoaaGreat
open Go Go.RowKit Dv Tryz
def edN (K:List Nat) (e:Ed):Nat:=K.getD e.to.toNat 0
def leastR (K:List Nat):List Ed→Nat→Nat
 | [],m=>m + 1
 | e :: r,m=>if edN K e=0 then 0 else leastR K r (max m (edN K e))
def leastU (K:List Nat):List Ed→Nat→Nat
 | [],b=>if b=0 then 0 else b + 1
 | e :: r,b=>if e.bare=true then 1 else if 0 < edN K e∧(b=0∨edN K e < b) then leastU K r (edN K e) else leastU K r b
def leastF (n:Nd) (K:List Nat):Nat:=if n.kind=7 then leastR K n.edges 0 else if n.kind=8 then leastU K n.edges 0 else 1
def depN (ND:List Nd):Nat→List Nat
 | 0=>List.replicate ND.length 0
 | d + 1=>ND.map fun n=>leastF n (depN ND d)
theorem depN_len (ND:List Nd):∀ d,(depN ND d).length=ND.length
 | 0=>by simp [depN]
 | d + 1=>by simp [depN]
theorem depN_get (ND:List Nd) (d j:Nat):(depN ND (d + 1)).getD j 0=match ND[j]? with | none=>0 | some n=>leastF n (depN ND d):=by
 simp only [depN,List.getD_eq_getElem?_getD,List.getElem?_map]
 cases ND[j]?<;>rfl
def RndR (d:Nat) (A B:List Nat):Prop:=∀ j:Nat,(0 < A.getD j 0→B.getD j 0=A.getD j 0∧A.getD j 0≤d)∧(A.getD j 0=0→B.getD j 0=0∨B.getD j 0=d + 1)
theorem rndR_le {d:Nat} {A B:List Nat} (h:RndR d A B) (j:Nat):B.getD j 0≤d + 1:=by
 obtain ⟨h1,h2⟩:=h j
 rcases Nat.eq_zero_or_pos (A.getD j 0) with h3 | h3
 ·rcases h2 h3 with h4 | h4<;>omega
 ·have:=h1 h3;omega
theorem leastR_zero {K:List Nat}:∀ {es:List Ed} {m:Nat},leastR K es m=0↔∃ e∈es,edN K e=0
 | [],m=>by simp [leastR]
 | e :: r,m=>by
  rw [leastR]
  by_cases h:edN K e=0
  ·rw [if_pos h]
   exact ⟨fun _=>⟨e,by simp,h⟩,fun _=>rfl⟩
  ·rw [if_neg h,leastR_zero]
   constructor
   ·rintro ⟨x,hx,h2⟩;exact ⟨x,by simp [hx],h2⟩
   ·rintro ⟨x,hx,h2⟩
    rcases List.mem_cons.1 hx with rfl | hx
    ·exact (h h2).elim
    ·exact ⟨x,hx,h2⟩
theorem leastR_same {d:Nat} {A B:List Nat} (hR:RndR d A B):∀ {es:List Ed} {m:Nat},0 < leastR A es m→leastR B es m=leastR A es m
 | [],m,_=>rfl
 | e :: r,m,h=>by
  rw [leastR] at h ⊢
  rw [leastR]
  by_cases h0:edN A e=0
  ·rw [if_pos h0] at h;omega
  rw [if_neg h0] at h ⊢
  have h1:edN B e=edN A e:=((hR e.to.toNat).1 (by unfold edN at h0;omega)).1
  rw [h1,if_neg h0]
  exact leastR_same hR h
theorem leastR_new {d:Nat} {A B:List Nat} (hR:RndR d A B):∀ {es:List Ed} {m:Nat},m≤d + 1→(m=d + 1∨∃ e∈es,edN A e=0)→leastR B es m=0∨leastR B es m=d + 2
 | [],m,_,h=>by
  rcases h with h | ⟨e,he,_⟩
  ·right;rw [leastR,h]
  ·cases he
 | e :: r,m,hm,h=>by
  rw [leastR]
  by_cases h0:edN B e=0
  ·rw [if_pos h0];exact .inl rfl
  rw [if_neg h0]
  have hle:edN B e≤d + 1:=rndR_le hR _
  refine leastR_new hR (by omega) ?_
  rcases h with h | ⟨x,hx,h⟩
  ·left;omega
  ·rcases List.mem_cons.1 hx with rfl | hx
   ·left
    have:=(hR x.to.toNat).2 h
    unfold edN at h0 hle ⊢
    omega
   ·exact .inr ⟨x,hx,h⟩
theorem leastU_rnd {d:Nat} {A B:List Nat} (hR:RndR d A B):∀ {es:List Ed} {a b:Nat},(0 < a→b=a∧a≤d)→(a=0→b=0∨b=d + 1) →
  (0 < leastU A es a→leastU B es b=leastU A es a)∧(leastU A es a=0→leastU B es b=0∨leastU B es b=d + 2)
 | [],a,b,h1,h2=>by
  rw [leastU,leastU]
  rcases Nat.eq_zero_or_pos a with h | h
  ·rw [if_pos h]
   refine ⟨fun h=>by omega,fun _=>?_⟩
   rcases h2 h with h3 | h3
   ·left;rw [if_pos h3]
   ·right;rw [if_neg (by omega)];omega
  ·obtain ⟨h3,h4⟩:=h1 h
   rw [if_neg (by omega),if_neg (by omega),h3]
   exact ⟨fun _=>rfl,fun h=>by omega⟩
 | e :: r,a,b,h1,h2=>by
  rw [leastU,leastU]
  by_cases hb:e.bare=true
  ·rw [if_pos hb,if_pos hb]
   exact ⟨fun _=>rfl,fun h=>by omega⟩
  rw [if_neg hb,if_neg hb]
  obtain ⟨g1,g2⟩:=hR e.to.toNat
  change (0 < edN A e→edN B e=edN A e∧edN A e≤d) at g1
  change (edN A e=0→edN B e=0∨edN B e=d + 1) at g2
  by_cases c1:0 < edN A e∧(a=0∨edN A e < a)<;>by_cases c2:0 < edN B e∧(b=0∨edN B e < b)
  ·rw [if_pos c1,if_pos c2];exact leastU_rnd hR (by omega) (by omega)
  ·rw [if_pos c1,if_neg c2];exact leastU_rnd hR (by omega) (by omega)
  ·rw [if_neg c1,if_pos c2];exact leastU_rnd hR (by omega) (by omega)
  ·rw [if_neg c1,if_neg c2];exact leastU_rnd hR (by omega) (by omega)
theorem leastF_rnd {d:Nat} {A B:List Nat} (hR:RndR d A B) (n:Nd):(0 < leastF n A→leastF n B=leastF n A)∧(leastF n A=0→leastF n B=0∨leastF n B=d + 2):=by
 unfold leastF
 by_cases h7:n.kind=7
 ·rw [if_pos h7,if_pos h7]
  exact ⟨leastR_same hR,fun h=>leastR_new hR (by omega) (.inr (leastR_zero.1 h))⟩
 rw [if_neg h7,if_neg h7]
 by_cases h8:n.kind=8
 ·rw [if_pos h8,if_pos h8]
  exact leastU_rnd hR (by omega) (by omega)
 rw [if_neg h8,if_neg h8]
 exact ⟨fun _=>rfl,fun h=>by omega⟩
theorem edN_zero (N:Nat) (e:Ed):edN (List.replicate N 0) e=0:=by
 unfold edN
 rw [List.getD_eq_getElem?_getD,List.getElem?_replicate]
 split<;>rfl
theorem leastU_none (N:Nat):∀ es:List Ed,leastU (List.replicate N 0) es 0=0∨leastU (List.replicate N 0) es 0=1
 | []=>.inl rfl
 | e :: r=>by
  rw [leastU,edN_zero]
  by_cases hb:e.bare=true
  ·rw [if_pos hb];exact .inr rfl
  ·rw [if_neg hb,if_neg (by omega)];exact leastU_none N r
theorem leastF_none (N:Nat) (n:Nd):leastF n (List.replicate N 0)=0∨leastF n (List.replicate N 0)=1:=by
 unfold leastF
 by_cases h7:n.kind=7
 ·rw [if_pos h7]
  cases h:n.edges with
  | nil=>right;rfl
  | cons e r=>left;rw [leastR,edN_zero,if_pos rfl]
 rw [if_neg h7]
 by_cases h8:n.kind=8
 ·rw [if_pos h8];exact leastU_none N n.edges
 ·rw [if_neg h8];exact .inr rfl
theorem depN_zero (ND:List Nd) (j:Nat):(depN ND 0).getD j 0=0:=by
 rw [depN,List.getD_eq_getElem?_getD,List.getElem?_replicate]
 split<;>rfl
theorem depN_rnd (ND:List Nd):∀ d,RndR d (depN ND d) (depN ND (d + 1))
 | 0=>fun j=>by
  refine ⟨fun h=>by rw [depN_zero] at h;omega,fun _=>?_⟩
  rw [depN_get]
  cases ND[j]? with
  | none=>exact .inl rfl
  | some n=>exact leastF_none _ n
 | d + 1=>fun j=>by
  have ih:=depN_rnd ND d
  rw [depN_get ND (d + 1),depN_get ND d]
  cases hn:ND[j]? with
  | none=>exact ⟨fun h=>by simp at h,fun _=>.inl rfl⟩
  | some n=>
   obtain ⟨h1,h2⟩:=leastF_rnd ih n
   refine ⟨fun h=>⟨h1 h,?_⟩,h2⟩
   have:=rndR_le ih j
   rw [depN_get ND d,hn] at this
   exact this
def posL (K:List Nat):List Bool:=K.map fun k=>decide (0 < k)
theorem posL_get (K:List Nat) (j:Nat):(posL K).getD j false=decide (0 < K.getD j 0):=by
 unfold posL
 simp only [List.getD_eq_getElem?_getD,List.getElem?_map]
 cases K[j]?<;>simp
theorem posL_len (K:List Nat):(posL K).length=K.length:=by simp [posL]
theorem getD_ext {A B:List Nat} (hl:A.length=B.length) (h:∀ j,A.getD j 0=B.getD j 0):A=B:=by
 refine List.ext_getElem hl fun j h1 h2=>?_
 have:=h j
 simp only [List.getD_eq_getElem?_getD,List.getElem?_eq_getElem h1,List.getElem?_eq_getElem h2,Option.getD_some] at this
 exact this
def inK (K:List Bool) (e:Ed):Bool:=e.bare || K.getD e.to.toNat false
def hvB (n:Nd) (K:List Bool):Bool:=if n.kind < 7 then true else if n.kind=7 then n.edges.all (inK K) else n.edges.any (inK K)
theorem leastU_pos {K:List Nat}:∀ {es:List Ed} {b:Nat},0 < leastU K es b↔(0 < b∨es.any (inK (posL K))=true)
 | [],b=>by
  rw [leastU]
  by_cases h:b=0
  ·rw [if_pos h];simp [h]
  ·rw [if_neg h];simp;omega
 | e :: r,b=>by
  have hg:(posL K).getD e.to.toNat false=decide (0 < edN K e):=posL_get K _
  rw [leastU,List.any_cons]
  by_cases hb:e.bare=true
  ·rw [if_pos hb]
   simp [inK,hb]
  ·rw [if_neg hb]
   have hin:inK (posL K) e=decide (0 < edN K e):=by
    unfold inK
    rw [hg]
    simp [hb]
   rw [hin,Bool.or_eq_true,decide_eq_true_eq]
   split
   ·rename_i h1
    rw [leastU_pos]
    constructor
    ·exact fun _=>.inr (.inl h1.1)
    ·exact fun _=>.inl h1.1
   ·rename_i h1
    rw [leastU_pos]
    constructor
    ·rintro (h | h)
     ·exact .inl h
     ·exact .inr (.inr h)
    ·rintro (h | h | h)
     ·exact .inl h
     ·by_cases hb0:b=0
      ·exact (h1 ⟨h,.inl hb0⟩).elim
      ·left;omega
     ·exact .inr h
theorem leastF_pos {n:Nd} {K:List Nat} (h8:n.kind≤8) (hb:∀ e∈n.edges,e.bare=true→n.kind=8):(0 < leastF n K)↔hvB n (posL K)=true:=by
 unfold leastF hvB
 by_cases h7:n.kind=7
 ·rw [if_pos h7,if_neg (by omega),if_pos h7,List.all_eq_true]
  have:0 < leastR K n.edges 0↔¬ leastR K n.edges 0=0:=by omega
  rw [this,leastR_zero]
  constructor
  ·intro h e he
   have h1:e.bare=false:=by
    cases hbe:e.bare
    ·rfl
    ·have:=hb e he hbe;omega
   have h2:¬ edN K e=0:=fun h3=>h ⟨e,he,h3⟩
   have hg:(posL K).getD e.to.toNat false=decide (0 < edN K e):=posL_get K _
   simp only [inK,h1,hg,Bool.false_or,decide_eq_true_eq]
   omega
  ·rintro h ⟨e,he,h3⟩
   have h1:e.bare=false:=by
    cases hbe:e.bare
    ·rfl
    ·have:=hb e he hbe;omega
   have hg:(posL K).getD e.to.toNat false=decide (0 < edN K e):=posL_get K _
   have:=h e he
   simp only [inK,h1,hg,Bool.false_or,decide_eq_true_eq] at this
   omega
 rw [if_neg h7]
 by_cases h8':n.kind=8
 ·rw [if_pos h8',if_neg (by omega),if_neg h7,leastU_pos]
  simp
 ·rw [if_neg h8',if_pos (by omega)]
  simp
theorem depN_ref {ND:List Nd} (hN:∀ n∈ND,n.kind≤8∧∀ e∈n.edges,e.bare=true→n.kind=8) (d:Nat) {i:Nat} {n:Nd} (h:ND[i]? = some n) :
  (depN ND (d + 1)).getD i 0=(if hvB n (posL (depN ND d))=true∧(depN ND d).getD i 0=0 then d + 1 else (depN ND d).getD i 0) ∧
  (posL (depN ND (d + 1))).getD i false=hvB n (posL (depN ND d)):=by
 obtain ⟨h8,hb⟩:=hN n (List.mem_of_getElem? h)
 have hp:=leastF_pos (K:=depN ND d) h8 hb
 have hg:(depN ND (d + 1)).getD i 0=leastF n (depN ND d):=by rw [depN_get,h]
 obtain ⟨h1,h2⟩:=(depN_rnd ND d) i
 refine ⟨?_,?_⟩
 ·rcases Nat.eq_zero_or_pos ((depN ND d).getD i 0) with h3 | h3
  ·by_cases h4:hvB n (posL (depN ND d))=true
   ·rw [if_pos ⟨h4,h3⟩]
    have:=h2 h3
    rw [← hp,← hg] at h4
    omega
   ·rw [if_neg (fun h=>h4 h.1),h3]
    rw [← hp,← hg] at h4
    omega
  ·rw [if_neg (by omega)]
   exact (h1 h3).1
 ·rw [posL_get,hg,Bool.eq_iff_iff,decide_eq_true_eq]
  exact hp
end Go.Proofs.YtbfdbhechmhpoaaGreat
set_option maxRecDepth 100000
namespace Go.Proofs.YtbfdbhechmhpoaaGreat
open Go Go.RowKit Dv Tryz
def cN (l:List Nat):List DV:=l.map fun (z:Nat)=>DV.v (.int .i64 (z:Int))
theorem cN_len (l:List Nat):(cN l).length=l.length:=by simp [cN]
theorem cN_get {l:List Nat} {i z:Nat} (h:l[i]? = some z):(cN l)[i]? = some (DV.v (.int .i64 (z:Int))):=by simp [cN,h]
theorem cN_set (l:List Nat) (i z:Nat):(cN l).set i (DV.v (.int .i64 (z:Int)))=cN (l.set i z):=by simp [cN,List.map_set]
theorem dInts_flat (l:List Nat):(dInts l).flatten=cN l:=by
 induction l with
 | nil=>rfl
 | cons b r ih=>simp only [dInts,cN,List.map_cons,List.flatten_cons] at ih ⊢;rw [ih];all_goals rfl
theorem repN (n:Nat):(List.replicate n (vL [Value.int .i64 0])).flatten=cN (List.replicate n 0):=by
 induction n with
 | zero=>rfl
 | succ n ih=>simp only [List.replicate_succ,List.flatten_cons,ih];rfl
theorem weL_cN {n m:Nat} {tk:List TkE} {l:List DV} {r:List Nat} (h:l=cN r):WeL n m tk l (cN r):=by
 subst h
 refine weL_sc _ fun x hx=>?_
 obtain ⟨z,_,rfl⟩:=List.mem_map.1 hx
 exact ⟨_,rfl⟩
theorem ms_n {bx:List (List DV)} {N n0 m0 n i:Nat} {r:List Nat} (hr:r.length=n) (hN:N≤i) (hb:bx[i]? = some (cN r)):Cc bx N n0 m0 (.sl 1 (dInts r) none) (.ms i 1 0 n n):=by
 simp only [Cc]
 refine Or.inr (Or.inr (Or.inl ⟨i,0,n,_,by rw [dInts_len,hr],hN,hb,?_,?_,?_⟩))
 ·rw [dInts_flat,List.drop_zero,List.take_of_length_le (by rw [cN_len,dInts_len];omega)]
 ·intro x hx
  simp only [dInts,List.mem_map] at hx
  obtain ⟨_,_,rfl⟩:=hx
  rfl
 ·intro x hx
  rw [dInts_flat] at hx
  obtain ⟨_,_,rfl⟩:=List.mem_map.1 hx
  exact ⟨_,rfl⟩
end Go.Proofs.YtbfdbhechmhpoaaGreat
namespace Go.Proofs.YtbfdbhechmhpoaaGreat
namespace Dv
open Go Go.RowKit
section
variable {P:Program} {ops:Array Oper} {C:World→Prop} {Q:Act→World→Prop} {W:Nat→Bool} {x:Nat}
end
section
variable {X:Ctx} {D:Dw} {x:Nat} {tail:List Nat} {π:Nat→Nat}
theorem endS {s S:St} (h:SameSt s S:=by refine ⟨rfl,rfl,?_⟩;repeat' (first | exact trivial | refine ⟨rfl,?_⟩)):s=S∨SameSt s S:=.inr h
end
end Dv
end Go.Proofs.YtbfdbhechmhpoaaGreat
set_option maxRecDepth 100000
namespace Go.Proofs.YtbfdbhechmhpoaaGreat
open Go Go.RowKit Dv Tryz
abbrev ed20St (d:Nd) (s:Stp) (e:Nat):St:=⟨[(2,⟨[],.loc 0 0⟩),(3,⟨[],.loc 1 0⟩),(5,⟨[],.v (.int .i64 e)⟩)],[dNd d,dStp s],[]⟩
theorem edge20_spec (d:Nd) (s:Stp) (hel:d.edges.length≤1099511627776) (hs:s.s.size≤4611686018427387904):EvP Tryz.prog 95 [.agg (dNd d),.agg (dStp s)] (.v (.int .i64 (oz (edgeI d s)))):=by
 have hr:=right09_spec [s] (by simpa using hs)
 rw [rightP_one] at hr
 have hE:edgeI d s=if rightS s=true then firstN (edgeP d s) d.edges.length else none:=rfl
 have hP:∀ (e:Nat) x,d.edges[e]? = some x→edgeP d s e=edgeB d s x:=fun e x h=>by unfold edgeP;rw [h]
 have hB:∀ x:Ed,edgeB d s x=((decide (s.k=1) && decide (d.kind=7) && (decide (x.name=s.s) && !x.bare)) || (decide (s.k=5) && decide (d.kind=8) && (decide (x.name=s.s) && !x.bare)) ||
  ((decide (s.k=2) || decide (s.k=3)) && decide (d.kind=5) && decide (s.n < d.most)) || (decide (s.k=4) && decide (d.kind=6))):=fun _=>rfl
 generalize edgeI d s=I at hE ⊢
 generalize rightS s=R at hr hE
 generalize edgeP d s=pE at hE hP
 generalize edgeB d s=bE at hP hB
 obtain ⟨kind,at',lo,hi,most,names,es⟩:=d
 obtain ⟨k,n,t⟩:=s
 have hdl:=dEds_len es
 simp only at hE hP hB hel
 refine ev_go (P:=Tryz.prog) tt tt_ok 5000 93 [.tmp 4] Tryz.func95 rfl Tryz.ntmps95 rfl (Nat.le_of_ble_eq_true rfl) (fun E9 w9 hn9 hm9=>?_)
 refine call_p en172 (hr) ax rfl ?_
 cases R with
 | false=>
  rw [if_neg (by simp)] at hE
  subst hE
  exact (rfl:_=_)
 | true=>
 rw [if_pos rfl] at hE
 refine loop_i (fun j st=>∃ e:Nat,st=ed20St ⟨kind,at',lo,hi,most,names,es⟩ ⟨k,n,t⟩ e∧e≤es.length∧(∀ c,c < e→pE c=false)∧j=es.length - e) es.length (ed20St ⟨kind,at',lo,hi,most,names,es⟩ ⟨k,n,t⟩ 0) (weak_mk ⟨_,rfl⟩ wA rfl rfl rfl wB) ⟨0,rfl,by omega,fun _ h=>by omega,by omega⟩ ?_
 rintro j st ⟨e,rfl,he,hno,rfl⟩
 refine br (fun hL=>?_) (fun hL=>?_)
 ·have hlt:e < es.length:=by simpa [hdl] using hL
  obtain ⟨x,hx⟩:∃ x,es[e]? = some x:=⟨_,List.getElem?_eq_getElem hlt⟩
  have hPe:=hP e x hx
  rw [hB] at hPe
  refine drawG_i (fun _=>false) mo (by decide +kernel) ?_
  refine ⟨_,⟨by omega,dEds_get hx⟩,?_⟩
  refine br (fun g=>?_) (fun g=>?_)
  ·have g:decide (x.name=t)=true:=by cases h:decide (x.name=t)<;>simp_all
   refine ⟨_,⟨by omega,dEds_get hx⟩,?_⟩
   refine br (fun c=>?_) (fun c=>?_)
   ·have hc:pE e=true:=by
     rw [hPe,g]
     simpa only [pickB_and,pickB_or,Bool.false_and,Bool.and_false,Bool.true_and,Bool.false_or,Bool.or_false] using c
    rw [firstN_some hlt hc hno] at hE
    subst hE
    exact (rfl:_=_)
   ·have hc:pE e=false:=by
     rw [hPe,g]
     simpa only [pickB_and,pickB_or,Bool.false_and,Bool.and_false,Bool.true_and,Bool.false_or,Bool.or_false] using c
    exact ⟨ed20St ⟨kind,at',lo,hi,most,names,es⟩ ⟨k,n,t⟩ (e + 1),(weak_mk ⟨_,rfl⟩ wA rfl rfl rfl (by repeat' (first | exact trivial | exact we_rfl rfl | exact we_int (nxt hlt (by omega)) | refine ⟨⟨_,rfl,?_⟩,?_⟩))),es.length - (e + 1),by omega,e + 1,rfl,by omega,fun c hc2=>by
     rcases Nat.lt_succ_iff_lt_or_eq.1 hc2 with h | h
     ·exact hno c h
     ·rw [h];exact hc,rfl⟩
  ·have g:decide (x.name=t)=false:=by cases h:decide (x.name=t)<;>simp_all
   refine br (fun c=>?_) (fun c=>?_)
   ·have hc:pE e=true:=by
     rw [hPe,g]
     simpa only [pickB_and,pickB_or,Bool.false_and,Bool.and_false,Bool.true_and,Bool.false_or,Bool.or_false] using c
    rw [firstN_some hlt hc hno] at hE
    subst hE
    exact (rfl:_=_)
   ·have hc:pE e=false:=by
     rw [hPe,g]
     simpa only [pickB_and,pickB_or,Bool.false_and,Bool.and_false,Bool.true_and,Bool.false_or,Bool.or_false] using c
    exact ⟨ed20St ⟨kind,at',lo,hi,most,names,es⟩ ⟨k,n,t⟩ (e + 1),(weak_mk ⟨_,rfl⟩ wA rfl rfl rfl (by repeat' (first | exact trivial | exact we_rfl rfl | exact we_int (nxt hlt (by omega)) | refine ⟨⟨_,rfl,?_⟩,?_⟩))),es.length - (e + 1),by omega,e + 1,rfl,by omega,fun c hc2=>by
     rcases Nat.lt_succ_iff_lt_or_eq.1 hc2 with h | h
     ·exact hno c h
     ·rw [h];exact hc,rfl⟩
 ·have hge:e=es.length:=by have:=hL;simp [hdl] at this;omega
  subst hge
  rw [firstN_none hno] at hE
  subst hE
  exact (rfl:_=_)
theorem sl_tl (s:Stp) (p:List Stp):DV.sl 3 (((dStps (s :: p)).take (((dStps (s :: p)).length:Nat):Int).toNat).drop (1:Int).toNat) none = .sl 3 (dStps p) none:=by
 rw [Int.toNat_natCast,List.take_length];all_goals rfl
abbrev wL (lv:List Wd) (f:Nat→Nat→Bool) (ND:List Nd) (z:Int):List DV:=[.sl 2 (dWds lv) none,.sl 1 (dMat (matB lv.length f)) none,.sl 7 (dNds ND) none,.v (.int .i64 z)]
def walkD (o:Option (Nat × Nat)):DV:=match o with
 | some (j,b)=>.tup [.v (.int .i64 (j:Nat)),.v (.int .i64 (b:Nat))]
 | none=>.tup [.v (.int .i64 (-1)),.v (.int .i64 (-1))]
theorem walk20_spec (lv:List Wd) (f:Nat→Nat→Bool) (ND:List Nd) (z:Int) (hL:LatOK f lv.length) (hn:lv.length≤32) (hok:∀ n∈ND,NdOK lv.length ND.length n) (hsz:∀ n∈ND,n.edges.length≤1099511627776) :
  ∀ (p:List Stp),p.length≤1099511627776→(∀ s∈p,s.s.size≤4611686018427387904)→∀ (i a:Nat),i < ND.length→a < lv.length →
   EvP Tryz.prog 33 [.agg (wL lv f ND z),.v (.int .i64 i),.v (.int .i64 a),.sl 3 (dStps p) none] (walkD (walkV ND f lv.length p i a))
 | [],_,_,i,a,hi,ha=>by
  have hW:wL lv f ND z=wL lv f ND z:=rfl
  rw [walkV]
  refine ev_go (P:=Tryz.prog) tt tt_ok 5000 51 [.tmp 8,.tmp 9] Tryz.func33 rfl Tryz.ntmps33 rfl (Nat.le_of_ble_eq_true rfl) (fun E9 w9 hn9 hm9=>?_)
  exact ⟨_,ax,rfl⟩
 | s :: p,hp,hs,i,a,hi,ha=>by
  obtain ⟨d,hd⟩:∃ d,ND[i]? = some d:=⟨_,List.getElem?_eq_getElem hi⟩
  have hm:=List.mem_of_getElem? hd
  have hN:=hok d hm
  have hed:=edge20_spec d s (hsz d hm) (hs s (by simp))
  have hes:=fun k=>@edgeI_some d s k
  have hnum:=fun e (he:e∈d.edges)=>edge_nums hN he
  have hbr:=fun e (he:e∈d.edges) h=>@edgeB_bare _ _ d hN s e he h
  have htail:=sl_tl s p
  have hds:=dStps_get (l:=s :: p) (e:=0) rfl
  have hdsl:=dStps_len (s :: p)
  rw [List.length_cons] at hdsl hp
  have hNl:=dNds_len ND
  have ih:=fun i a hi ha=>walk20_spec lv f ND z hL hn hok hsz p (by omega) (fun s hs'=>hs s (by simp [hs'])) i a hi ha
  have hWV:walkV ND f lv.length (s :: p) i a=match edgeI d s with
   | none=>none
   | some k=>match d.edges[k]? with
    | none=>none
    | some e=>walkV ND f lv.length p e.to.toNat (jnF f lv.length a e.label.toNat):=by rw [walkV,hd];all_goals rfl
  rw [hWV]
  clear hWV
  generalize edgeI d s=o at hed hes ⊢
  cases o with
  | none=>
   obtain ⟨kind,at',lo,hi',most,names,es⟩:=d
   obtain ⟨sk,sn,ss⟩:=s
   refine ev_go (P:=Tryz.prog) tt tt_ok 5000 51 [.tmp 8,.tmp 9] Tryz.func33 rfl Tryz.ntmps33 rfl (Nat.le_of_ble_eq_true rfl) (fun E9 w9 hn9 hm9=>?_)
   refine drawG_i (fun _=>false) mo (by decide +kernel) ?_
   refine ⟨_,⟨by omega,dNds_get hd⟩,_,⟨by omega,hds⟩,?_⟩
   refine callD_p en95 (hed) ax rfl ?_
   exact ⟨_,ax,rfl⟩
  | some k=>
   obtain ⟨e,he,hB,_⟩:=hes k rfl
   have hme:=List.mem_of_getElem? he
   obtain ⟨h0,⟨h2,h2'⟩,_⟩:=hnum e hme
   obtain ⟨h1,h1'⟩:=h0 (hbr e hme hB)
   clear hnum hbr hes h0
   obtain ⟨en,eb,ea,et,elb,ew,eck,ecn,ese,eca⟩:=e
   simp only at h1 h2 h1' h2'
   obtain ⟨lb,rfl⟩:∃ n:Nat,elb=n:=⟨_,h2⟩
   obtain ⟨tn,rfl⟩:∃ n:Nat,et=n:=⟨_,h1⟩
   simp only [Int.toNat_natCast] at h1' h2'
   have hj:=join11_spec lv.length f (by omega) a lb ha h2'
   rw [joinR_some hL ha h2'] at hj
   have hw:=ih tn (jnF f lv.length a lb) h1' (jnF_lt hL ha h2')
   simp only [he,Int.toNat_natCast]
   generalize walkV ND f lv.length p tn (jnF f lv.length a lb)=R at hw ⊢
   obtain ⟨kind,at',lo,hi',most,names,es⟩:=d
   obtain ⟨sk,sn,ss⟩:=s
   have hel:=dEds_len es
   simp only at he
   refine ev_go (P:=Tryz.prog) tt tt_ok 5000 51 [.tmp 8,.tmp 9] Tryz.func33 rfl Tryz.ntmps33 rfl (Nat.le_of_ble_eq_true rfl) (fun E9 w9 hn9 hm9=>?_)
   refine drawG_i (fun _=>false) mo (by decide +kernel) ?_
   refine ⟨_,⟨by omega,dNds_get hd⟩,_,⟨by omega,hds⟩,?_⟩
   refine callD_p en95 (hed) ax rfl ?_
   refine ⟨_,⟨by omega,dNds_get hd⟩,?_⟩
   refine ⟨_,⟨by simp [oz],by simpa [oz] using dEds_get he⟩,?_⟩
   refine drawG_i (fun _=>false) mo (by decide +kernel) ?_
   refine callD_p en96 (hj) ax rfl ?_
   refine ⟨⟨by omega,by omega,by omega⟩,?_⟩
   refine callD_p en33 (hw) (by repeat' (first | exact rfl | exact trivial | exact Or.inr (Or.inl ⟨_,rfl⟩) | exact Or.inr ⟨_,rfl⟩ | exact Or.inl ⟨rfl,rfl⟩ | exact Or.inl rfl | refine Or.inr ⟨_,_,rfl,Nat.zero_le _,rfl,?_⟩ | refine ⟨_,_,rfl,?_,?_⟩ | refine ⟨_,rfl,?_⟩ | exact Or.inr (Or.inl ⟨_,htail⟩)| refine Or.inr (Or.inr (Or.inr ⟨_,_,rfl,?_⟩)) | exact Or.inl rfl | refine Or.inr ?_)) rfl ?_
   cases R with
   | none=>exact ⟨_,ax,rfl⟩
   | some r=>exact ⟨_,ax,rfl⟩
end Go.Proofs.YtbfdbhechmhpoaaGreat
set_option maxRecDepth 100000
namespace Go.Proofs.YtbfdbhechmhpoaaGreat
open Go Go.RowKit Dv Tryz
theorem efits_spec (d:Nd) (e:Ed) (s:Stp):EvP Tryz.prog 239 [.agg (dNd d),.agg (dEd e),.agg (dStp s)] (.v (.bool (fitE d s e))):=by
 obtain ⟨kind,at',lo,hi,most,names,es⟩:=d
 obtain ⟨en,eb,ea,et,elb,ew,eck,ecn,ese,eca⟩:=e
 obtain ⟨k,n,t⟩:=s
 have hF:fitE ⟨kind,at',lo,hi,most,names,es⟩ ⟨k,n,t⟩ ⟨en,eb,ea,et,elb,ew,eck,ecn,ese,eca⟩=if k=1 then decide (kind=7) && decide (en=t)
  else if k=5 then decide (kind=8) && decide (en=t) && !eb
  else if k=2 then decide (kind=5) && decide (n < most)
  else if k=3 then decide (kind=5) && decide (0 < most)
  else decide (kind=6):=rfl
 generalize fitE ⟨kind,at',lo,hi,most,names,es⟩ ⟨k,n,t⟩ ⟨en,eb,ea,et,elb,ew,eck,ecn,ese,eca⟩=F at hF ⊢
 refine ev_go (P:=Tryz.prog) tt tt_ok 5000 63 [.tmp 6] Tryz.func239 rfl Tryz.ntmps239 rfl (Nat.le_of_ble_eq_true rfl) (fun E9 w9 hn9 hm9=>?_)
 refine br (fun c=>?_) (fun c=>?_)
 ·have c:k=1:=by simpa using c
  rw [if_pos c] at hF
  refine (congrArg (fun b=>DV.v (.bool b)) ?_:_=_)
  rw [hF]
  simp only [pickB_and]
 have c1:¬ k=1:=by simpa using c
 rw [if_neg c1] at hF
 refine br (fun c=>?_) (fun c=>?_)
 ·have c:k=5:=by simpa using c
  rw [if_pos c] at hF
  refine (congrArg (fun b=>DV.v (.bool b)) ?_:_=_)
  rw [hF]
  simp only [pickB_and]
 have c5:¬ k=5:=by simpa using c
 rw [if_neg c5] at hF
 refine br (fun c=>?_) (fun c=>?_)
 ·have c:k=2:=by simpa using c
  rw [if_pos c] at hF
  refine (congrArg (fun b=>DV.v (.bool b)) ?_:_=_)
  rw [hF]
  simp only [pickB_and]
 have c2:¬ k=2:=by simpa using c
 rw [if_neg c2] at hF
 refine br (fun c=>?_) (fun c=>?_)
 ·have c:k=3:=by simpa using c
  rw [if_pos c] at hF
  refine (congrArg (fun b=>DV.v (.bool b)) ?_:_=_)
  rw [hF]
  simp only [pickB_and]
 have c3:¬ k=3:=by simpa using c
 rw [if_neg c3] at hF
 refine (congrArg (fun b=>DV.v (.bool b)) ?_:_=_)
 rw [hF]
def estW (ND:List Nd) (f:Nat→Nat→Bool) (n:Nat) (s:Stp) (i a:Nat):Option (Nat × Nat):=match ND[i]? with
 | none=>none
 | some d=>match edgeI d s with
  | none=>none
  | some k=>match d.edges[k]? with
   | none=>none
   | some e=>some (e.to.toNat,jnF f n a e.label.toNat)
theorem walkV_drop (ND:List Nd) (f:Nat→Nat→Bool) (n:Nat) (p:List Stp) (e i a:Nat):walkV ND f n (p.drop e) i a=match p[e]? with
  | none=>some (i,a)
  | some s=>match estW ND f n s i a with
   | none=>none
   | some (j,b)=>walkV ND f n (p.drop (e + 1)) j b:=by
 cases hs:p[e]? with
 | none=>rw [List.drop_eq_nil_of_le (List.getElem?_eq_none_iff.1 hs)];all_goals rfl
 | some s=>
  obtain ⟨h1,h2⟩:=List.getElem?_eq_some_iff.1 hs
  rw [List.drop_eq_getElem_cons h1,h2,walkV]
  simp only [estW]
  cases hd:ND[i]? with
  | none=>rfl
  | some d=>
   simp only
   cases hk:edgeI d s with
   | none=>rfl
   | some k=>
    simp only
    cases he:d.edges[k]? with
    | none=>rfl
    | some x=>rfl
theorem estW_ok {f:Nat→Nat→Bool} {L:Nat} (hL:LatOK f L) {ND:List Nd} (hok:∀ n∈ND,NdOK L ND.length n) {s:Stp} {i a j b:Nat} (hi:i < ND.length) (ha:a < L) (h:estW ND f L s i a=some (j,b)):j < ND.length∧b < L:=by
 have hw:=walkV_drop ND f L [s] 0 i a
 simp only [List.getElem?_cons_zero,h] at hw
 exact walkV_ok hL hok [s] i a hi ha hw
def stepD (o:Option (Nat × Nat)):DV:=match o with
 | some (j,b)=>.tup [.agg [.v (.int .i64 (j:Nat)),.v (.int .i64 (b:Nat))],.v (.bool true)]
 | none=>.tup [.agg [.v (.int .i64 0),.v (.int .i64 0)],.v (.bool false)]
abbrev estSt (PC:List DV) (i a:Nat) (s:Stp) (d:Nd) (e:Nat):St:=
 ⟨[(0,⟨[],.pt PC 0⟩),(4,⟨[],.loc 0 0⟩),(5,⟨[],.loc 1 0⟩),(6,⟨[],.loc 2 0⟩),(8,⟨[],.loc 3 0⟩),(20,⟨[],.sl 10 (dEds d.edges) none⟩),(21,⟨[],.v (.int .i64 (dEds d.edges).length)⟩),(22,⟨[],.v (.int .i64 e)⟩)],
  [[.v (.int .i64 i),.v (.int .i64 a)],dStp s,[.v (.int .i64 0),.v (.int .i64 0)],dNd d],[]⟩
theorem estep_spec {S:Sch} {ND:List Nd} {PC:List DV} (hP:PlanR S ND PC) (s:Stp) (hr:rightS s=true) (i a:Nat) (hi:i < ND.length) (ha:a < S.levels.length) :
  EvP Tryz.prog 174 [.pt PC 0,.agg [.v (.int .i64 i),.v (.int .i64 a)],.agg (dStp s)] (stepD (estW ND (leqS S) S.levels.length s i a)):=by
 obtain ⟨LC,hlat,hLR⟩:=hP.latR
 obtain ⟨d,hd⟩:∃ d,ND[i]? = some d:=⟨_,List.getElem?_eq_getElem hi⟩
 have hN:=hP.ok d (List.mem_of_getElem? hd)
 have hnode:=hP.node i d hd
 have hel:d.edges.length≤1099511627776:=by
  have:=resNds_sz (S:=S) (n:=d) (by rw [← hP.nds];exact List.mem_of_getElem? hd) hP.wt
  exact this.2
 have hjn:=fun b hb=>hLR.join a b ha hb
 have hW:estW ND (leqS S) S.levels.length s i a=match firstN (edgeP d s) d.edges.length with
  | none=>none
  | some k=>match d.edges[k]? with
   | none=>none
   | some e=>some (e.to.toNat,jnF (leqS S) S.levels.length a e.label.toNat):=by
  unfold estW
  simp only [hd,edgeI,if_pos hr]
 have hPe:∀ (e:Nat) x,d.edges[e]? = some x→edgeP d s e=fitE d s x:=fun e x h=>by
  rw [fitE_eq hN hr (List.mem_of_getElem? h)]
  unfold edgeP;rw [h]
 have hfs:=fun x=>efits_spec d x s
 have hnum:=fun (e:Ed) (he:e∈d.edges) (h:edgeB d s e=true)=>And.intro ((edge_nums hN he).1 (edgeB_bare hN he h)) (edge_nums hN he).2.1
 have hfe:=fun x hx=>fitE_eq hN hr (e:=x) hx
 generalize estW ND (leqS S) S.levels.length s i a=R at hW ⊢
 generalize edgeP d s=pE at hW hPe
 generalize jnF (leqS S) S.levels.length a=jn at hW hjn
 obtain ⟨kind,at',lo,hi',most,names,es⟩:=d
 obtain ⟨k,n,t⟩:=s
 have hdl:=dEds_len es
 simp only at hW hPe hel
 refine ev_go (P:=Tryz.prog) tt tt_ok 5000 42 [.cell 6 252,.tmp 7] Tryz.func174 rfl Tryz.ntmps174 rfl (Nat.le_of_ble_eq_true rfl) (fun E9 w9 hn9 hm9=>?_)
 refine call_p en18 (hnode) ax rfl ?_
 refine loop_i (fun j st=>∃ e:Nat,st=estSt PC i a ⟨k,n,t⟩ ⟨kind,at',lo,hi',most,names,es⟩ e∧e≤es.length∧(∀ c,c < e→pE c=false)∧j=es.length - e) es.length (estSt PC i a ⟨k,n,t⟩ ⟨kind,at',lo,hi',most,names,es⟩ 0) (weak_mk ⟨_,rfl⟩ wA rfl rfl rfl wB) ⟨0,rfl,by omega,fun _ h=>by omega,by omega⟩ ?_
 rintro j st ⟨e,rfl,he,hno,rfl⟩
 refine br (fun hL=>?_) (fun hL=>?_)
 ·have hlt:e < es.length:=by simpa [hdl] using hL
  obtain ⟨x,hx⟩:∃ x,es[e]? = some x:=⟨_,List.getElem?_eq_getElem hlt⟩
  have hPx:=hPe e x hx
  have hfx:=hfs x
  have hmx:=List.mem_of_getElem? hx
  have hnx:=hnum x hmx
  have hfex:=hfe x hmx
  cases hv:fitE ⟨kind,at',lo,hi',most,names,es⟩ ⟨k,n,t⟩ x with
  | true=>
   rw [hv] at hPx hfx hfex
   obtain ⟨⟨h1,_⟩,h2,h3⟩:=hnx hfex.symm
   rw [firstN_some hlt hPx hno] at hW
   simp only [hx] at hW
   clear hnum hfe hnx hfex hfs
   obtain ⟨en,eb,ea,et,elb,ew,eck,ecn,ese,eca⟩:=x
   simp only at h1 h2 h3
   obtain ⟨lb,rfl⟩:∃ n:Nat,elb=n:=⟨_,h2⟩
   obtain ⟨tn,rfl⟩:∃ n:Nat,et=n:=⟨_,h1⟩
   simp only [Int.toNat_natCast] at h3 hW
   have hj:=hjn lb h3
   subst hW
   refine ⟨_,⟨by omega,dEds_get hx⟩,?_⟩
   refine call_p en239 (hfx) ax rfl ?_
   refine drawG_s mo (by decide +kernel) ?_
   refine callD_p en21 (hlat) ax rfl ?_
   refine callD_p en132 (hj) ax rfl ?_
   exact ⟨_,ax,rfl⟩
  | false=>
   rw [hv] at hPx hfx
   obtain ⟨en,eb,ea,et,elb,ew,eck,ecn,ese,eca⟩:=x
   refine ⟨_,⟨by omega,dEds_get hx⟩,?_⟩
   refine call_p en239 (hfx) ax rfl ?_
   exact ⟨estSt PC i a ⟨k,n,t⟩ ⟨kind,at',lo,hi',most,names,es⟩ (e + 1),(weak_b 4 rfl (by repeat' (first | exact rfl | exact we_rfl rfl | exact we_int (nxt hlt (by omega)) | refine ⟨_,_,rfl,?_,?_⟩)) rfl rfl rfl (by repeat' (first | exact trivial | exact we_rfl rfl | exact we_int (nxt hlt (by omega)) | refine ⟨⟨_,rfl,?_⟩,?_⟩))),es.length - (e + 1),by omega,e + 1,rfl,by omega,fun c hc=>by
    rcases Nat.lt_succ_iff_lt_or_eq.1 hc with h | h
    ·exact hno c h
    ·rw [h];exact hPx,rfl⟩
 ·have hge:e=es.length:=by have:=hL;simp [hdl] at this;omega
  subst hge
  rw [firstN_none hno] at hW
  simp only at hW
  subst hW
  exact ⟨_,ax,rfl⟩
def walkT (o:Option (Nat × Nat)):DV:=match o with
 | some (j,b)=>.tup [.v (.int .i64 (j:Nat)),.v (.int .i64 (b:Nat)),.v (.bool true)]
 | none=>.tup [.v (.int .i64 (-1)),.v (.int .i64 (-1)),.v (.bool false)]
abbrev ewkSt (PC:List DV) (p:List Stp) (i a e:Nat):St:=
 ⟨[(0,⟨[],.pt PC 0⟩),(7,⟨[],.loc 0 0⟩),(18,⟨[],.sl 3 (dStps p) none⟩),(19,⟨[],.v (.int .i64 (dStps p).length)⟩),(20,⟨[],.v (.int .i64 e)⟩)],[[.v (.int .i64 i),.v (.int .i64 a)]],[]⟩
theorem ewalk_spec {S:Sch} {ND:List Nd} {PC:List DV} (hP:PlanR S ND PC) (p:List Stp) (hp:p.length≤1099511627776) (hs:∀ s∈p,s.s.size≤4611686018427387904) (rt:Nat) (hrt:resRoot S=rt) (hrl:rt < ND.length) :
  EvP Tryz.prog 97 [.pt PC 0,.sl 3 (dStps p) none] (walkT (walkV ND (leqS S) S.levels.length p rt (botF (leqS S) S.levels.length))):=by
 obtain ⟨LC,hlat,hLR⟩:=hP.latR
 have hroot:=hP.root
 rw [hrt] at hroot
 have hbot:=hLR.bot
 have hbl:=botF_lt hLR.ok
 have hst:=fun s hr i a hi ha=>estep_spec hP s hr i a hi ha
 have hwd:=walkV_drop ND (leqS S) S.levels.length p
 have hok:=fun {s i a j b}=>@estW_ok _ _ hLR.ok _ hP.ok s i a j b
 have hdl:=dStps_len p
 have hsr:∀ s i a,rightS s=false→estW ND (leqS S) S.levels.length s i a=none:=fun s i a h=>by
  unfold estW
  cases ND[i]? with
  | none=>rfl
  | some d=>simp [edgeI,h]
 generalize hR:walkV ND (leqS S) S.levels.length p rt (botF (leqS S) S.levels.length)=R
 have hR0:walkV ND (leqS S) S.levels.length (p.drop 0) rt (botF (leqS S) S.levels.length)=R:=by rw [List.drop_zero];exact hR
 clear hR
 generalize botF (leqS S) S.levels.length=bt at hbot hbl hR0
 refine ev_go (P:=Tryz.prog) tt tt_ok 5000 42 [.tmp 4,.tmp 5,.tmp 6] Tryz.func97 rfl Tryz.ntmps97 rfl (Nat.le_of_ble_eq_true rfl) (fun E9 w9 hn9 hm9=>?_)
 refine call_p en19 (hroot) ax rfl ?_
 refine call_p en21 (hlat) ax rfl ?_
 refine call_p en115 (hbot) ax rfl ?_
 refine loop_i (fun j st=>∃ e i a:Nat,st=ewkSt PC p i a e∧e≤p.length∧i < ND.length∧a < S.levels.length∧walkV ND (leqS S) S.levels.length (p.drop e) i a=R∧j=p.length - e) p.length (ewkSt PC p rt bt 0) (weak_mk ⟨_,rfl⟩ wA rfl rfl rfl wB) ⟨0,rt,bt,rfl,by omega,hrl,hbl,hR0,by omega⟩ ?_
 rintro j st ⟨e,i,a,rfl,he,hi,ha,hw,rfl⟩
 rw [hwd] at hw
 refine br (fun hL=>?_) (fun hL=>?_)
 ·have hlt:e < p.length:=by simpa [hdl] using hL
  obtain ⟨x,hx⟩:∃ x,p[e]? = some x:=⟨_,List.getElem?_eq_getElem hlt⟩
  have hxs:=hs x (List.mem_of_getElem? hx)
  have hr:=pright_spec [x] (by simpa using hxs)
  rw [rightP_one] at hr
  rw [hx] at hw
  simp only at hw
  cases hrx:rightS x with
  | false=>
   rw [hsr x i a hrx] at hw
   simp only at hw
   subst hw
   rw [hrx] at hr
   obtain ⟨xk,xn,xt⟩:=x
   refine ⟨_,⟨by omega,dStps_get hx⟩,?_⟩
   refine call_p en173 (hr) ax rfl ?_
   exact ⟨_,ax,rfl⟩
  | true=>
   have hsx:=hst x hrx i a hi ha
   have hkx:=@hok x i a
   rw [hrx] at hr
   generalize estW ND (leqS S) S.levels.length x i a=o at hw hsx hkx
   obtain ⟨xk,xn,xt⟩:=x
   refine ⟨_,⟨by omega,dStps_get hx⟩,?_⟩
   refine call_p en173 (hr) ax rfl ?_
   refine call_p en174 (hsx) ax rfl ?_
   cases o with
   | none=>
    simp only at hw
    subst hw
    exact ⟨_,ax,rfl⟩
   | some r=>
    obtain ⟨j,b⟩:=r
    simp only at hw
    obtain ⟨h1,h2⟩:=hkx hi ha rfl
    exact ⟨ewkSt PC p j b (e + 1),(weak_b 1 rfl (by repeat' (first | exact rfl | exact we_rfl rfl | exact we_int (nxt hlt (by omega)) | refine ⟨_,_,rfl,?_,?_⟩)) rfl rfl rfl (by repeat' (first | exact trivial | exact we_rfl rfl | exact we_int (nxt hlt (by omega)) | refine ⟨⟨_,rfl,?_⟩,?_⟩))),p.length - (e + 1),by omega,e + 1,j,b,rfl,by omega,h1,h2,hw,rfl⟩
 ·have hge:p.length≤e:=by simpa [hdl] using hL
  rw [List.getElem?_eq_none hge] at hw
  simp only at hw
  subst hw
  refine drawG_i (fun _=>false) mo (by decide +kernel) ?_
  exact ⟨_,ax,rfl⟩
theorem ewalk_nil (p:DV):EvP Tryz.prog 97 [.v (.pointer none),p] (walkT none):=by
 refine ev_go (P:=Tryz.prog) tt tt_ok 5000 42 [.tmp 4,.tmp 5,.tmp 6] Tryz.func97 rfl Tryz.ntmps97 rfl (Nat.le_of_ble_eq_true rfl) (fun E9 w9 hn9 hm9=>?_)
 exact ⟨_,ax,rfl⟩
end Go.Proofs.YtbfdbhechmhpoaaGreat
set_option maxRecDepth 100000
namespace Go.Proofs.YtbfdbhechmhpoaaGreat
open Go Go.RowKit Dv Tryz
abbrev on1St (n:Nd) (K:List Bool) (s v:Bool) (e:Nat):St:=
 ⟨[(1,⟨[],.sl 1 (dBo K) none⟩),(2,⟨[],.loc 0 0⟩),(5,⟨[],.v (.bool s)⟩),(6,⟨[],.v (.bool v)⟩),(7,⟨[],.v (.int .i64 e)⟩)],[dNd n],[]⟩
theorem one19_spec {L:Nat} {n:Nd} (K:List Bool) (hK:K.length≤1099511627776) (hn:NdOK L K.length n) (hel:n.edges.length≤1099511627776) :
  EvP Tryz.prog 179 [.agg (dNd n),.sl 1 (dBo K) none] (.v (.bool (hvB n K))):=by
 have hedge:=hn.edge
 have hbare:=hn.bare
 have hk8:=hn.k8
 obtain ⟨kind,at',lo,hi,most,names,es⟩:=n
 simp only at hedge hbare hel hk8
 refine ev_go (P:=Tryz.prog) tt tt_ok 5000 50 [.tmp 4] Tryz.func179 rfl Tryz.ntmps179 rfl (Nat.le_of_ble_eq_true rfl) (fun E9 w9 hn9 hm9=>?_)
 refine br (fun h7=>?_) (fun h7=>?_)
 ·have h7:kind < 7:=by simpa using h7
  refine (congrArg (fun b=>DV.v (.bool b)) ?_:_=_)
  simp [hvB,h7]
 have h7:¬ kind < 7:=by simpa using h7
 refine loop_i (fun j st=>∃ e:Nat,st=on1St ⟨kind,at',lo,hi,most,names,es⟩ K ((es.take e).any (inK K)) ((es.take e).all (inK K)) e∧e≤es.length∧j=es.length - e) es.length (on1St ⟨kind,at',lo,hi,most,names,es⟩ K false true 0) (weak_mk ⟨_,rfl⟩ wA rfl rfl rfl wB) ⟨0,by simp,by omega,by omega⟩ ?_
 rintro j st ⟨e,rfl,he,rfl⟩
 refine br (fun hL=>?_) (fun hL=>?_)
 ·have hlt:e < es.length:=by have:=hL;simp [dEds_len] at this;exact this
  obtain ⟨x,hx⟩:∃ x,es[e]? = some x:=⟨_,List.getElem?_eq_getElem hlt⟩
  refine ⟨_,⟨by omega,dEds_get hx⟩,?_⟩
  have hs:(es.take (e + 1)).any (inK K)=((es.take e).any (inK K) || inK K x):=by rw [List.take_add_one,hx];simp
  have hv:(es.take (e + 1)).all (inK K)=((es.take e).all (inK K) && inK K x):=by rw [List.take_add_one,hx];simp
  generalize (es.take e).any (inK K)=s at hs ⊢
  generalize (es.take e).all (inK K)=v at hv ⊢
  refine br (fun hb=>?_) (fun hb=>?_)
  ·have hb:x.bare=false:=by simpa using hb
   obtain ⟨k,hk,hkl⟩:=(hedge x (List.mem_of_getElem? hx)).to1 hb
   obtain ⟨b,hb1⟩:∃ b,K[k]? = some b:=⟨_,List.getElem?_eq_getElem hkl⟩
   have hg:(dBo K)[(max x.to 0).toNat]? = some [DV.v (.bool b)]:=by rw [show (max x.to 0).toNat=k by omega];exact dBo_get hb1
   have hik:inK K x=b:=by unfold inK;rw [hb,hk];simp [List.getD_eq_getElem?_getD,hb1]
   rw [hik] at hs hv
   refine ⟨_,⟨by omega,dEds_get hx⟩,?_⟩
   refine ⟨_,⟨by omega,hg⟩,?_⟩
   have e5:pickB s true b=(es.take (e + 1)).any (inK K):=by rw [hs,pickB_or]
   have e6:pickB v b false=(es.take (e + 1)).all (inK K):=by rw [hv,pickB_and]
   exact ⟨on1St ⟨kind,at',lo,hi,most,names,es⟩ K ((es.take (e + 1)).any (inK K)) ((es.take (e + 1)).all (inK K)) (e + 1),(weak_mk ⟨_,rfl⟩ wA rfl rfl rfl (by repeat' (first | exact trivial | exact we_rfl rfl | exact we_bool e5 | exact we_bool e6 | exact we_int (nxt hlt (by omega)) | refine ⟨⟨_,rfl,?_⟩,?_⟩))),es.length - (e + 1),by omega,e + 1,rfl,by omega,rfl⟩
  ·have hb:x.bare=true:=by simpa using hb
   have hik:inK K x=true:=by unfold inK;rw [hb];all_goals rfl
   rw [hik] at hs hv
   have e5:pickB s true true=(es.take (e + 1)).any (inK K):=by rw [hs,pickB_or]
   have e6:pickB v true false=(es.take (e + 1)).all (inK K):=by rw [hv,pickB_and]
   exact ⟨on1St ⟨kind,at',lo,hi,most,names,es⟩ K ((es.take (e + 1)).any (inK K)) ((es.take (e + 1)).all (inK K)) (e + 1),(weak_mk ⟨_,rfl⟩ wA rfl rfl rfl (by repeat' (first | exact trivial | exact we_rfl rfl | exact we_bool e5 | exact we_bool e6 | exact we_int (nxt hlt (by omega)) | refine ⟨⟨_,rfl,?_⟩,?_⟩))),es.length - (e + 1),by omega,e + 1,rfl,by omega,rfl⟩
 ·have hge:e=es.length:=by have:=hL;simp [dEds_len] at this;omega
  subst hge
  rw [List.take_length]
  refine br (fun g=>?_) (fun g=>?_)
  ·have g:kind=7:=by simpa using g
   refine (congrArg (fun b=>DV.v (.bool b)) ?_:_=_)
   simp [hvB,g]
  ·have g:¬ kind=7:=by simpa using g
   refine (congrArg (fun b=>DV.v (.bool b)) ?_:_=_)
   simp [hvB,g,h7]
theorem ms_b {bx:List (List DV)} {N n0 m0 n i:Nat} {r:List Bool} (hr:r.length=n) (hN:N≤i) (hb:bx[i]? = some (cB r)):Cc bx N n0 m0 (.sl 1 (dBo r) none) (.ms i 1 0 n n):=by
 simp only [Cc]
 refine Or.inr (Or.inr (Or.inl ⟨i,0,n,_,by rw [dBo_len,hr],hN,hb,?_,?_,?_⟩))
 ·rw [dBo_flat,List.drop_zero,List.take_of_length_le (by rw [cB_len,dBo_len];omega)]
 ·intro x hx
  simp only [dBo,List.mem_map] at hx
  obtain ⟨_,_,rfl⟩:=hx
  rfl
 ·intro x hx
  rw [dBo_flat] at hx
  obtain ⟨_,_,rfl⟩:=List.mem_map.1 hx
  exact ⟨_,rfl⟩
theorem ccL_cN (l:List Nat) (bx:List (List DV)) (N n m:Nat):CcL bx N n m (cN l) (cN l):=by
 induction l with
 | nil=>rfl
 | cons a r ih=>exact ⟨_,_,rfl,rfl,ih⟩
abbrev wG (a b:Nat) (A B:List (List DV)) (ND:List Nd) (z:Int):List DV:=[.sl a A none,.sl b B none,.sl 7 (dNds ND) none,.v (.int .i64 z)]
abbrev rd1St (W:List DV) (O:List Nat) (K:List Bool) (n d:Nat):St:=
 ⟨[(1,⟨[],.loc 0 0⟩),(3,⟨[],.ms 1 1 0 n n⟩),(4,⟨[],.sl 1 (dBo K) none⟩),(5,⟨[],.v (.int .i64 d)⟩)],[W,cN O],[]⟩
abbrev rd2St (W:List DV) (O:List Nat) (K:List Bool) (M:List Bool) (n d e:Nat):St:=
 ⟨[(1,⟨[],.loc 0 0⟩),(3,⟨[],.ms 1 1 0 n n⟩),(4,⟨[],.sl 1 (dBo K) none⟩),(5,⟨[],.v (.int .i64 d)⟩),(6,⟨[],.ms 2 1 0 n n⟩),(7,⟨[],.v (.int .i64 e)⟩)],[W,cN O,cB M],[]⟩
theorem depths19_spec (a b:Nat) (A B:List (List DV)) {ND:List Nd} {L:Nat} (z:Int) (hok:∀ n∈ND,NdOK L ND.length n) (hnl:ND.length≤1099511627776) (hsz:∀ n∈ND,n.edges.length≤1099511627776) :
  EvP Tryz.prog 99 [.agg (wG a b A B ND z)] (.sl 1 (dInts (depN ND ND.length)) none):=by
 have hdl:=dNds_len ND
 refine ev_go (P:=Tryz.prog) tt tt_ok 5000 61 [.tmp 2] Tryz.func99 rfl Tryz.ntmps99 rfl (Nat.le_of_ble_eq_true rfl) (fun E9 w9 hn9 hm9=>?_)
 refine ⟨⟨rfl,by omega,by rw [hdl];omega,by rw [hdl];omega⟩,?_⟩
 refine ⟨⟨rfl,by omega,by rw [hdl];omega,by rw [hdl];omega⟩,?_⟩
 refine loop_w (fun j st=>∃ d:Nat,st=rd1St (wG a b A B ND z) (depN ND d) (posL (depN ND d)) (dNds ND).length (d + 1)∧d≤ND.length∧j=ND.length - d) ND.length (rd1St (wG a b A B ND z) (depN ND 0) (posL (depN ND 0)) (dNds ND).length 1) (.frz 2 rfl rfl ?_ rfl ?_) ⟨0,rfl,by omega,by omega⟩ ?_
 ·refine ⟨_,_,rfl,ax,_,_,rfl,?_,rfl⟩
  rw [repN,hdl]
  exact ccL_cN _ _ _ _ _
 ·refine ⟨⟨_,rfl,(by repeat' (first | exact rfl | exact trivial | exact Or.inr (Or.inl ⟨_,rfl⟩) | exact Or.inr ⟨_,rfl⟩ | exact Or.inl ⟨rfl,rfl⟩ | exact Or.inl rfl | refine Or.inr ⟨_,_,rfl,Nat.zero_le _,rfl,?_⟩ | refine ⟨_,_,rfl,?_,?_⟩ | refine ⟨_,rfl,?_⟩ | exact ⟨Nat.le_of_ble_eq_true rfl,rfl⟩ | refine Or.inr (Or.inr (Or.inr ⟨_,_,rfl,?_⟩)) | exact Or.inl rfl | refine Or.inr ?_))⟩,⟨_,rfl,(by repeat' (first | exact rfl | exact trivial | exact Or.inr (Or.inl ⟨_,rfl⟩) | exact Or.inr ⟨_,rfl⟩ | exact Or.inl ⟨rfl,rfl⟩ | exact Or.inl rfl | refine Or.inr ⟨_,_,rfl,Nat.zero_le _,rfl,?_⟩ | refine ⟨_,_,rfl,?_,?_⟩ | refine ⟨_,rfl,?_⟩ | exact ⟨Nat.le_of_ble_eq_true rfl,rfl⟩ | refine Or.inr (Or.inr (Or.inr ⟨_,_,rfl,?_⟩)) | exact Or.inl rfl | refine Or.inr ?_))⟩,⟨_,rfl,ms_b (by rw [posL_len,depN_len,hdl];omega) (Nat.le_refl _) ?_⟩,⟨_,rfl,ax⟩,trivial⟩
  refine congrArg some ?_
  rw [repB,hdl]
  simp [posL,depN]
 rintro j st ⟨d,rfl,hd,rfl⟩
 have hpl:(posL (depN ND d)).length=ND.length:=by rw [posL_len,depN_len]
 refine br (fun hc=>?_) (fun hc=>?_)
 ·have hlt:d < ND.length:=by have:=hc;simp [hdl] at this;omega
  refine ⟨⟨rfl,by omega,by rw [hdl];omega,by rw [hdl];omega⟩,?_⟩
  refine loop_i (fun j st=>∃ (e:Nat) (O:List Nat) (M:List Bool),st=rd2St (wG a b A B ND z) O (posL (depN ND d)) M (dNds ND).length (d + 1) e∧e≤ND.length∧O.length=ND.length∧M.length=ND.length∧(∀ i:Nat,i < e→O.getD i 0=(depN ND (d + 1)).getD i 0∧M.getD i false=(posL (depN ND (d + 1))).getD i false)∧(∀ i:Nat,e≤i→O.getD i 0=(depN ND d).getD i 0)∧j=ND.length - e) ND.length (rd2St (wG a b A B ND z) (depN ND d) (posL (depN ND d)) (List.replicate ((dNds ND).length:Int).toNat false) (dNds ND).length (d + 1) 0) (weak_b 3 rfl (by repeat' (first | exact rfl | exact we_rfl rfl | exact weL_cN rfl | exact weL_cB (repB _) | refine ⟨_,_,rfl,?_,?_⟩)) rfl rfl rfl (by repeat' (first | exact trivial | exact we_rfl rfl | exact weL_cN rfl | exact weL_cB (repB _) | refine ⟨⟨_,rfl,?_⟩,?_⟩))) ⟨0,_,_,rfl,by omega,by rw [depN_len],by rw [List.length_replicate,hdl];omega,fun i hi=>by omega,fun i _=>rfl,by omega⟩ ?_
  rintro j st ⟨e,O,M,rfl,he,hO,hM,hv1,hv2,rfl⟩
  refine br (fun hL=>?_) (fun hL=>?_)
  ·have hle:e < ND.length:=by have:=hL;simp [hdl] at this;exact this
   obtain ⟨n,hn⟩:∃ n,ND[e]? = some n:=⟨_,List.getElem?_eq_getElem hle⟩
   have hnm:=List.mem_of_getElem? hn
   have h1:=one19_spec (posL (depN ND d)) (by rw [hpl];exact hnl) (n:=n) (by rw [hpl];exact hok n hnm) (hsz n hnm)
   obtain ⟨r1,r2⟩:=depN_ref (fun m hm=>⟨(hok m hm).k8,(hok m hm).bare⟩) d hn
   refine ⟨_,⟨by omega,dNds_get hn⟩,?_⟩
   refine call_p en179 (h1) ax rfl ?_
   have hst:(cB M).set (0 + (e:Int).toNat * 1) (DV.v (.bool (hvB n (posL (depN ND d)))))=cB (M.set e (hvB n (posL (depN ND d)))):=by
    rw [show 0 + (e:Int).toNat * 1=e by omega,cB_set]
   have hld:(cB (M.set e (hvB n (posL (depN ND d)))))[0 + (e:Int).toNat * 1]? = some (DV.v (.bool (hvB n (posL (depN ND d))))):=by
    rw [show 0 + (e:Int).toNat * 1=e by omega]
    exact cB_get (List.getElem?_set_self (by omega))
   obtain ⟨q,hq⟩:∃ q,O[e]? = some q:=⟨_,List.getElem?_eq_getElem (by omega)⟩
   have hqd:(depN ND d).getD e 0=q:=by rw [← hv2 e (Nat.le_refl _),List.getD_eq_getElem?_getD,hq];all_goals rfl
   rw [hqd] at r1
   have hMs:∀ i:Nat,i < e + 1→(M.set e (hvB n (posL (depN ND d)))).getD i false=(posL (depN ND (d + 1))).getD i false:=fun i hi=>by
    by_cases hie:i=e
    ·subst hie
     rw [r2,List.getD_eq_getElem?_getD,List.getElem?_set_self (by omega)];all_goals rfl
    ·rw [List.getD_eq_getElem?_getD,List.getElem?_set_ne (Ne.symm hie),← List.getD_eq_getElem?_getD]
     exact (hv1 i (by omega)).2
   generalize hvB n (posL (depN ND d))=h at hst hld r1 hMs ⊢
   refine ⟨⟨by omega,by rw [hdl];omega⟩,?_⟩
   refine ⟨by rw [cB_len];omega,?_⟩
   refine ⟨⟨by omega,by rw [hdl];omega⟩,?_⟩
   refine ⟨DV.v (.bool h),(by rw [hst];exact hld),?_⟩
   have hOs:∀ v,v=(depN ND (d + 1)).getD e 0→∀ i:Nat,i < e + 1→(O.set e v).getD i 0=(depN ND (d + 1)).getD i 0:=fun v hv i hi=>by
    by_cases hie:i=e
    ·subst hie
     rw [← hv,List.getD_eq_getElem?_getD,List.getElem?_set_self (by omega)];all_goals rfl
    ·rw [List.getD_eq_getElem?_getD,List.getElem?_set_ne (Ne.symm hie),← List.getD_eq_getElem?_getD]
     exact (hv1 i (by omega)).1
   have hOr:∀ v:Nat,∀ i:Nat,e + 1≤i→(O.set e v).getD i 0=(depN ND d).getD i 0:=fun v i hi=>by
    rw [List.getD_eq_getElem?_getD,List.getElem?_set_ne (by omega),← List.getD_eq_getElem?_getD]
    exact hv2 i (by omega)
   have hOq:O.set e q=O:=List.ext_getElem? fun i=>by
    by_cases hie:e=i
    ·subst hie
     rw [List.getElem?_set_self (by omega),hq]
    ·rw [List.getElem?_set_ne hie]
   refine br (fun g=>?_) (fun g=>?_)
   ·have g:h=true:=by simpa using g
    refine ⟨⟨by omega,by rw [hdl];omega⟩,?_⟩
    refine ⟨DV.v (.int .i64 (q:Int)),(by rw [show 0 + (e:Int).toNat * 1=e by omega];exact cN_get hq),?_⟩
    refine br (fun g2=>?_) (fun g2=>?_)
    ·have g2:q=0:=by simpa [pickB,pickD] using g2
     rw [if_pos ⟨g,g2⟩] at r1
     refine ⟨⟨by omega,by rw [hdl];omega⟩,?_⟩
     refine ⟨by rw [cN_len];omega,?_⟩
     have hso:(cN O).set (0 + (e:Int).toNat * 1) (DV.v (.int .i64 ((d + 1:Nat):Int)))=cN (O.set e (d + 1)):=by
      rw [show 0 + (e:Int).toNat * 1=e by omega,cN_set]
     exact ⟨rd2St (wG a b A B ND z) (O.set e (d + 1)) (posL (depN ND d)) (M.set e h) (dNds ND).length (d + 1) (e + 1),(weak_b 3 rfl (by repeat' (first | exact rfl | exact we_rfl rfl | exact weL_cN hso | exact weL_cB hst | exact we_int (nxt hle (by omega)) | refine ⟨_,_,rfl,?_,?_⟩)) rfl rfl rfl (by repeat' (first | exact trivial | exact we_rfl rfl | exact weL_cN hso | exact weL_cB hst | exact we_int (nxt hle (by omega)) | refine ⟨⟨_,rfl,?_⟩,?_⟩))),ND.length - (e + 1),by omega,e + 1,_,_,rfl,by omega,by simp [hO],by rw [List.length_set];exact hM,fun i hi=>⟨hOs _ r1.symm i hi,hMs i hi⟩,hOr (d + 1),rfl⟩
    ·have g2:¬ q=0:=by simpa [pickB,pickD] using g2
     rw [if_neg (fun h=>g2 h.2)] at r1
     exact ⟨rd2St (wG a b A B ND z) (O.set e q) (posL (depN ND d)) (M.set e h) (dNds ND).length (d + 1) (e + 1),(weak_b 3 rfl (by repeat' (first | exact rfl | exact we_rfl rfl | exact weL_cN (by rw [hOq]) | exact weL_cB hst | exact we_int (nxt hle (by omega)) | refine ⟨_,_,rfl,?_,?_⟩)) rfl rfl rfl (by repeat' (first | exact trivial | exact we_rfl rfl | exact weL_cN (by rw [hOq]) | exact weL_cB hst | exact we_int (nxt hle (by omega)) | refine ⟨⟨_,rfl,?_⟩,?_⟩))),ND.length - (e + 1),by omega,e + 1,_,_,rfl,by omega,by simp [hO],by rw [List.length_set];exact hM,fun i hi=>⟨hOs _ r1.symm i hi,hMs i hi⟩,hOr q,rfl⟩
   ·have g:h=false:=by simpa using g
    rw [if_neg (by rw [g];simp)] at r1
    exact ⟨rd2St (wG a b A B ND z) (O.set e q) (posL (depN ND d)) (M.set e h) (dNds ND).length (d + 1) (e + 1),(weak_b 3 rfl (by repeat' (first | exact rfl | exact we_rfl rfl | exact weL_cN (by rw [hOq]) | exact weL_cB hst | exact we_int (nxt hle (by omega)) | refine ⟨_,_,rfl,?_,?_⟩)) rfl rfl rfl (by repeat' (first | exact trivial | exact we_rfl rfl | exact weL_cN (by rw [hOq]) | exact weL_cB hst | exact we_int (nxt hle (by omega)) | refine ⟨⟨_,rfl,?_⟩,?_⟩))),ND.length - (e + 1),by omega,e + 1,_,_,rfl,by omega,by simp [hO],by rw [List.length_set];exact hM,fun i hi=>⟨hOs _ r1.symm i hi,hMs i hi⟩,hOr q,rfl⟩
  ·have hge:e=ND.length:=by have:=hL;simp [hdl] at this;omega
   subst hge
   have hO2:O=depN ND (d + 1):=getD_ext (by rw [hO,depN_len]) fun j=>by
    rcases Nat.lt_or_ge j ND.length with hj | hj
    ·exact (hv1 j hj).1
    ·simp only [List.getD_eq_getElem?_getD]
     rw [List.getElem?_eq_none (by omega),List.getElem?_eq_none (by rw [depN_len];omega)]
   have hM2:M=posL (depN ND (d + 1)):=leB_anti (by rw [hM,posL_len,depN_len]) (fun j hj=>by
     rcases Nat.lt_or_ge j ND.length with h | h
     ·rw [← (hv1 j h).2];exact hj
     ·rw [List.getD_eq_getElem?_getD,List.getElem?_eq_none (by omega)] at hj;cases hj) (fun j hj=>by
     rcases Nat.lt_or_ge j ND.length with h | h
     ·rw [(hv1 j h).2];exact hj
     ·rw [List.getD_eq_getElem?_getD,List.getElem?_eq_none (by rw [posL_len,depN_len];omega)] at hj;cases hj)
   subst hO2 hM2
   refine ⟨rd1St (wG a b A B ND z) (depN ND (d + 1)) (posL (depN ND (d + 1))) (dNds ND).length (d + 1 + 1),.frz 2 rfl rfl ⟨_,_,rfl,ax,_,_,rfl,ccL_cN _ _ _ _ _,rfl⟩ rfl ⟨⟨_,rfl,(by repeat' (first | exact rfl | exact trivial | exact Or.inr (Or.inl ⟨_,rfl⟩) | exact Or.inr ⟨_,rfl⟩ | exact Or.inl ⟨rfl,rfl⟩ | exact Or.inl rfl | refine Or.inr ⟨_,_,rfl,Nat.zero_le _,rfl,?_⟩ | refine ⟨_,_,rfl,?_,?_⟩ | refine ⟨_,rfl,?_⟩ | exact ⟨Nat.le_of_ble_eq_true rfl,rfl⟩ | refine Or.inr (Or.inr (Or.inr ⟨_,_,rfl,?_⟩)) | exact Or.inl rfl | refine Or.inr ?_))⟩,⟨_,rfl,(by repeat' (first | exact rfl | exact trivial | exact Or.inr (Or.inl ⟨_,rfl⟩) | exact Or.inr ⟨_,rfl⟩ | exact Or.inl ⟨rfl,rfl⟩ | exact Or.inl rfl | refine Or.inr ⟨_,_,rfl,Nat.zero_le _,rfl,?_⟩ | refine ⟨_,_,rfl,?_,?_⟩ | refine ⟨_,rfl,?_⟩ | exact ⟨Nat.le_of_ble_eq_true rfl,rfl⟩ | refine Or.inr (Or.inr (Or.inr ⟨_,_,rfl,?_⟩)) | exact Or.inl rfl | refine Or.inr ?_))⟩,⟨_,rfl,ms_b (by rw [posL_len,depN_len,hdl]) (Nat.le_refl _) rfl⟩,⟨_,rfl,?_⟩,trivial⟩,ND.length - (d + 1),by omega,d + 1,rfl,by omega,rfl⟩
   exact congrArg (fun z=>DV.v (Value.int .i64 z)) (nxt (n:=1099511627777) (by omega) (by omega))
 ·have hge:d=ND.length:=by have:=hc;simp [hdl] at this;omega
  subst hge
  exact ⟨_,ms_n (by rw [depN_len,hdl]) (Nat.zero_le _) rfl,rfl⟩
end Go.Proofs.YtbfdbhechmhpoaaGreat
set_option maxRecDepth 100000
namespace Go.Proofs.YtbfdbhechmhpoaaGreat
open Go Go.RowKit Dv Tryz
end Go.Proofs.YtbfdbhechmhpoaaGreat
set_option maxRecDepth 100000
namespace Go.Proofs.YtbfdbhechmhpoaaGreat
open Go Go.RowKit Dv Tryz
def exH (k:Int):Hd:=⟨k,0,0,0,0,[],⟨emptyB,0⟩⟩
abbrev sm12St (l:List Nat) (e:Nat):St:=⟨[(0,⟨[],.sl 1 (dInts l) none⟩),(1,⟨[],.sl 1 (dInts l) none⟩),(5,⟨[],.v (.int .i64 e)⟩)],[],[]⟩
theorem same12_spec (l:List Nat) (hl:l.length≤1099511627776):EvP Tryz.prog 35 [.sl 1 (dInts l) none,.sl 1 (dInts l) none] (.v (.bool true)):=by
 have hdl:=dInts_len l
 refine ev_go (P:=Tryz.prog) tt tt_ok 5000 26 [.tmp 4] Tryz.func35 rfl Tryz.ntmps35 rfl (Nat.le_of_ble_eq_true rfl) (fun E9 w9 hn9 hm9=>?_)
 refine br (fun g=>absurd g (by simp)) (fun _=>?_)
 refine loop_i (fun j st=>∃ e:Nat,st=sm12St l e∧e≤l.length∧j=l.length - e) l.length (sm12St l 0) (weak_mk ⟨_,rfl⟩ wA rfl rfl rfl wB) ⟨0,rfl,by omega,by omega⟩ ?_
 rintro j st ⟨e,rfl,he,rfl⟩
 refine br (fun hL=>?_) (fun hL=>?_)
 ·have hlt:e < l.length:=by have:=hL;simp [hdl] at this;exact this
  obtain ⟨x,hx⟩:∃ x,l[e]? = some x:=⟨_,List.getElem?_eq_getElem hlt⟩
  refine drawG_i (fun _=>false) mo (by decide +kernel) ?_
  refine ⟨_,⟨by omega,dInts_get hx⟩,_,⟨by omega,dInts_get hx⟩,?_⟩
  refine br (fun g=>absurd g (by simp)) (fun _=>?_)
  exact ⟨sm12St l (e + 1),(weak_mk ⟨_,rfl⟩ wA rfl rfl rfl (by repeat' (first | exact trivial | exact we_rfl rfl | exact we_int (nxt hlt (by omega)) | refine ⟨⟨_,rfl,?_⟩,?_⟩))),l.length - (e + 1),by omega,e + 1,rfl,by omega,rfl⟩
 exact (rfl:_=_)
end Go.Proofs.YtbfdbhechmhpoaaGreat
set_option maxRecDepth 100000
namespace Go.Proofs.YtbfdbhechmhpoaaGreat
open Go Go.RowKit Dv Tryz
theorem resNds_bare {S:Sch} (hF:FineS S) {i:Nat} {n:Nd} (h:(resNds S)[i]? = some n) {e:Ed} (he:e∈n.edges) (hb:e.bare=true):e.ck=0:=by
 have hk8:=(resNds_ok hF h).bare e he hb
 rw [resNds_eq] at h
 obtain ⟨t,ht,u,hu,rfl,hpos⟩:=ndsA_get h
 have hwr:=flatT_wr t ⟨_,_,hF.wr t ht⟩ u hu
 have hT:=tyF_of hwr
 obtain ⟨uh,us⟩:=u
 simp only [Ty.h,Ty.ps] at hT
 obtain ⟨p,v,k',h1,rfl,_⟩:=edsP_mem he
 obtain ⟨j,hj⟩:=List.mem_iff_getElem?.1 h1
 obtain ⟨_,hP⟩:=(hT.many (.inr hk8)).2.2 j p v hj
 rcases hP with ⟨_,_,_,hpl⟩ | ⟨hb',_⟩
 ·exact (wide_zero hpl).2.2.1
 ·have:p.bare=true:=hb
  rw [hb'] at this;cases this
def wantK (ck:Int):Int:=if ck=3 then 5 else if ck=2 then 3 else 2
def EffE (f:Nat→Nat→Bool) (ND:List Nd) (e:Ed):Prop:=e.ck≠0→(∃ m,ND[e.to.toNat]? = some m∧m.kind=wantK e.ck)∧f e.seen.toNat e.label.toNat=true∧f e.label.toNat e.seen.toNat=false
def EffOK (f:Nat→Nat→Bool) (ND:List Nd):Prop:=∀ n∈ND,∀ e∈n.edges,EffE f ND e
abbrev w20St (W:List DV) (e:Nat):St:=⟨[(1,⟨[],.loc 0 0⟩),(2,⟨[],.loc 1 0⟩),(3,⟨[],.v (.int .i64 e)⟩)],[W,[.v (.int .i64 0),.v (.int .i64 0)]],[]⟩
abbrev w20bSt (W:List DV) (es:List Ed) (e k:Nat):St:=⟨[(1,⟨[],.loc 0 0⟩),(2,⟨[],.loc 1 0⟩),(3,⟨[],.v (.int .i64 e)⟩),(4,⟨[],.sl 10 (dEds es) none⟩),(5,⟨[],.v (.int .i64 k)⟩)],[W,[.v (.int .i64 0),.v (.int .i64 0)]],[]⟩
def W20Φ (f:Nat→Nat→Bool) (ND:List Nd) (r:DV):Prop:=∃ ft:Ft,r=ft.d∧(ft.1=0→EffOK f ND)
theorem wrong20_spec (lv:List Wd) (f:Nat→Nat→Bool) (ND:List Nd) (z:Int) (hn:lv.length≤32) (hok:∀ n∈ND,NdOK lv.length ND.length n) (hnl:ND.length≤1099511627776) (hsz:∀ n∈ND,n.edges.length≤1099511627776) (hbr:∀ n∈ND,∀ e∈n.edges,e.bare=true→e.ck=0) :
  Ev Tryz.prog 231 [.agg (wL lv f ND z)] [] [] (fun r _ _=>W20Φ f ND r):=by
 have hNl:=dNds_len ND
 refine ev_go (P:=Tryz.prog) tt tt_ok 5000 79 [.cell 2 37] Tryz.func231 rfl Tryz.ntmps231 rfl (Nat.le_of_ble_eq_true rfl) (fun E9 w9 hn9 hm9=>?_)
 refine loop_i (fun j st=>∃ e:Nat,st=w20St (wL lv f ND z) e∧e≤ND.length∧(∀ c n,c < e→ND[c]? = some n→∀ x∈n.edges,EffE f ND x)∧j=ND.length - e) ND.length (w20St (wL lv f ND z) 0) (weak_mk ⟨_,rfl⟩ wA rfl rfl rfl wB) ⟨0,rfl,by omega,fun _ _ h=>by omega,by omega⟩ ?_
 rintro j st ⟨e,rfl,he,hno,rfl⟩
 refine br (fun hL=>?_) (fun hL=>?_)
 ·have hlt:e < ND.length:=by simpa [hNl] using hL
  obtain ⟨d,hd⟩:∃ d,ND[e]? = some d:=⟨_,List.getElem?_eq_getElem hlt⟩
  have hm:=List.mem_of_getElem? hd
  have hN:=hok d hm
  have hel:=hsz d hm
  have hdl:=dEds_len d.edges
  have hbd:=hbr d hm
  refine ⟨_,⟨by omega,dNds_get hd⟩,?_⟩
  refine loop_i (fun j st=>∃ k:Nat,st=w20bSt (wL lv f ND z) d.edges e k∧k≤d.edges.length∧(∀ c x,c < k→d.edges[c]? = some x→EffE f ND x)∧j=d.edges.length - k) d.edges.length (w20bSt (wL lv f ND z) d.edges e 0) (weak_mk ⟨_,rfl⟩ wA rfl rfl rfl wB) ⟨0,rfl,by omega,fun _ _ h=>by omega,by omega⟩ ?_
  rintro j st ⟨k,rfl,hk,hno2,rfl⟩
  refine br (fun hL2=>?_) (fun hL2=>?_)
  ·have hkt:k < d.edges.length:=by simpa [hdl] using hL2
   obtain ⟨x,hx⟩:∃ x,d.edges[k]? = some x:=⟨_,List.getElem?_eq_getElem hkt⟩
   have hmx:=List.mem_of_getElem? hx
   obtain ⟨hto,⟨h2,h2'⟩,h3,h3'⟩:=edge_nums hN hmx
   have hbx:=hbd x hmx
   have hck:=(hN.edge x hmx).ck
   have hnext:EffE f ND x→∀ c y,c < k + 1→d.edges[c]? = some y→EffE f ND y:=fun h c y hc hy=>by
    rcases Nat.lt_succ_iff_lt_or_eq.1 hc with h1 | h1
    ·exact hno2 c y h1 hy
    ·rw [h1,hx] at hy
     simp only [Option.some.injEq] at hy
     rw [← hy];exact h
   have hE:EffE f ND x=(x.ck≠0→(∃ m,ND[x.to.toNat]? = some m∧m.kind=wantK x.ck)∧f x.seen.toNat x.label.toNat=true∧f x.label.toNat x.seen.toNat=false):=rfl
   generalize EffE f ND x=EX at hE hnext
   obtain ⟨en,eb,ea,et,elb,ew,eck,ecn,ese,eca⟩:=x
   simp only at h2 h2' h3 h3' hto hbx hck hE
   obtain ⟨lb,rfl⟩:∃ n:Nat,elb=n:=⟨_,h2⟩
   obtain ⟨sn,rfl⟩:∃ n:Nat,ese=n:=⟨_,h3⟩
   simp only [Int.toNat_natCast] at h2' h3' hE
   refine ⟨_,⟨by omega,dEds_get hx⟩,?_⟩
   refine br (fun g=>?_) (fun g=>?_)
   ·have g:eck=0:=by simpa using g
    exact ⟨w20bSt (wL lv f ND z) d.edges e (k + 1),(weak_b 2 rfl (by repeat' (first | exact rfl | exact we_rfl rfl | exact we_int (nxt hkt (by omega)) | refine ⟨_,_,rfl,?_,?_⟩)) rfl rfl rfl (by repeat' (first | exact trivial | exact we_rfl rfl | exact we_int (nxt hkt (by omega)) | refine ⟨⟨_,rfl,?_⟩,?_⟩))),d.edges.length - (k + 1),by omega,k + 1,rfl,by omega,hnext (by rw [hE];intro h;exact absurd g h),rfl⟩
   have g:¬ eck=0:=by simpa using g
   obtain ⟨h1,h1'⟩:=hto (by
    cases hb:eb
    ·rfl
    ·exact absurd (hbx hb) g)
   obtain ⟨tn,rfl⟩:∃ n:Nat,et=n:=⟨_,h1⟩
   simp only [Int.toNat_natCast] at h1' hE
   obtain ⟨m,hmt⟩:∃ m,ND[tn]? = some m:=⟨_,List.getElem?_eq_getElem h1'⟩
   have hW:∀ w:Int,w=wantK eck→(m.kind=w∧f sn lb=true∧f lb sn=false)→EX:=fun w h1 h2=>by
    rw [hE]
    exact fun _=>⟨⟨m,hmt,by rw [← h1];exact h2.1⟩,h2.2⟩
   have h3c:eck=1∨eck=2∨eck=3:=by omega
   rcases h3c with rfl | rfl | rfl
   all_goals
    refine ⟨_,⟨Int.natCast_nonneg _,dNds_get hmt⟩,?_⟩
    refine br (fun c1=>?_) (fun c1=>?_)
    ·exact ⟨Ft.d (14,eca),ax,(14,eca),rfl,fun h=>by simp at h⟩
    refine drawG_i (fun _=>false) mo (by decide +kernel) ?_
    refine ⟨_,⟨Int.natCast_nonneg _,mrow_get h3'⟩,?_⟩
    refine ⟨_,⟨Int.natCast_nonneg _,mcell_get h2'⟩,?_⟩
    refine br (fun c2=>?_) (fun c2=>?_)
    ·refine ⟨_,⟨Int.natCast_nonneg _,mrow_get h2'⟩,?_⟩
     refine ⟨_,⟨Int.natCast_nonneg _,mcell_get h3'⟩,?_⟩
     refine br (fun c3=>?_) (fun c3=>?_)
     ·exact ⟨Ft.d (18,eca),ax,(18,eca),rfl,fun h=>by simp at h⟩
     ·have hx:=hnext (hW _ rfl ⟨by simpa [wantK] using c1,by simpa using c2,by simpa [pickB] using c3⟩)
      exact ⟨w20bSt (wL lv f ND z) d.edges e (k + 1),(weak_b 2 rfl (by repeat' (first | exact rfl | exact we_rfl rfl | exact we_int (nxt hkt (by omega)) | refine ⟨_,_,rfl,?_,?_⟩)) rfl rfl rfl (by repeat' (first | exact trivial | exact we_rfl rfl | exact we_int (nxt hkt (by omega)) | refine ⟨⟨_,rfl,?_⟩,?_⟩))),d.edges.length - (k + 1),by omega,k + 1,rfl,by omega,hx,rfl⟩
    ·exact ⟨Ft.d (18,eca),ax,(18,eca),rfl,fun h=>by simp at h⟩
  ·have hge:k=d.edges.length:=by have:=hL2;simp [hdl] at this;omega
   subst hge
   exact ⟨w20St (wL lv f ND z) (e + 1),(weak_mk ⟨_,rfl⟩ wA rfl rfl rfl (by repeat' (first | exact trivial | exact we_rfl rfl | exact we_int (nxt hlt (by omega)) | refine ⟨⟨_,rfl,?_⟩,?_⟩))),ND.length - (e + 1),by omega,e + 1,rfl,by omega,fun c n hc hn x hxm=>by
    rcases Nat.lt_succ_iff_lt_or_eq.1 hc with h1 | h1
    ·exact hno c n h1 hn x hxm
    ·rw [h1,hd] at hn
     simp only [Option.some.injEq] at hn
     rw [← hn] at hxm
     obtain ⟨q,hq⟩:=List.mem_iff_getElem?.1 hxm
     exact hno2 q x (List.getElem?_eq_some_iff.1 hq).1 hq,rfl⟩
 ·have hge:e=ND.length:=by have:=hL;simp [hNl] at this;omega
  subst hge
  exact ⟨Ft.d (0,0),ax,(0,0),rfl,fun _ n hn x hx=>by
   obtain ⟨q,hq⟩:=List.mem_iff_getElem?.1 hn
   exact hno q n (List.getElem?_eq_some_iff.1 hq).1 hq x hx⟩
structure Fine21 (S:Sch):Prop where
 res:(resF S).1=0
 live:∀ i:Nat,i < (resNds S).length→(depN (resNds S) (resNds S).length).getD i 0≠0
 eff:EffOK (leqS S) (resNds S)
abbrev w21St (S:Sch) (a b:Int) (W:List DV) (D:List Nat) (e:Nat):St:=
 ⟨[(1,⟨[],.loc 0 0⟩),(3,⟨[],.loc 1 0⟩),(5,⟨[],.loc 3 0⟩),(6,⟨[],.sl 1 (dInts D) none⟩),(7,⟨[],.v (.int .i64 e)⟩)],[dSch S,[.v (.int .i64 0),.v (.int .i64 0)],[.v (.int .i64 a),.v (.int .i64 b)],W],[]⟩
theorem wrong21_spec (S:Sch) (hS:S.wt≤1099511627776):Ev Tryz.prog 161 [.agg (dSch S)] [] [] (fun r _ _=>∃ (z:Int) (ft:Ft),r = .tup [.v (.int .i64 z),ft.d]∧(z=0→Fine21 S)):=by
 have hwr:=wrong18_spec S hS
 have hw:=fun h=>build18_spec S hS h
 generalize hR:resF S=R at hwr
 obtain ⟨levels,order,types,⟨rh,rp⟩⟩:=S
 refine ev_go (P:=Tryz.prog) tt tt_ok 5000 44 [.tmp 2,.cell 3 37] Tryz.func161 rfl Tryz.ntmps161 rfl (Nat.le_of_ble_eq_true rfl) (fun E9 w9 hn9 hm9=>?_)
 refine call_p en98 (hwr) ax rfl ?_
 refine br (fun g=>?_) (fun g=>?_)
 ·refine drawG_s mo (by decide +kernel) ?_
  exact ⟨.tup [.v (.int .i64 2),Ft.d R],ax,2,R,rfl,fun h=>by simp at h⟩
 have g:R.1=0:=by simpa using g
 have h0:(resF ⟨levels,order,types,.mk rh rp⟩).1=0:=by rw [hR];exact g
 have hF:=fineS_of h0
 have hw:=hw h0
 obtain ⟨hLat,h32⟩:=latOK_of hF.lat
 have hok:=fun n (hn:n∈resNds ⟨levels,order,types,.mk rh rp⟩)=>(List.mem_iff_getElem?.1 hn).elim fun i hi=>resNds_ok hF hi
 have hnl:(resNds ⟨levels,order,types,.mk rh rp⟩).length≤1099511627776:=by rw [resNds_len];exact Nat.le_trans (nnS_wt _) hS
 have hsz:=fun n (hn:n∈resNds ⟨levels,order,types,.mk rh rp⟩)=>(resNds_sz hn hS).2
 have hbr:=fun n (hn:n∈resNds ⟨levels,order,types,.mk rh rp⟩)=>(List.mem_iff_getElem?.1 hn).elim fun i hi e he hb=>resNds_bare hF hi (e:=e) he hb
 have h19:=fun A B=>depths19_spec 2 1 A B (resRoot ⟨levels,order,types,.mk rh rp⟩) hok hnl hsz
 have h20:=wrong20_spec levels (leqS ⟨levels,order,types,.mk rh rp⟩) (resNds ⟨levels,order,types,.mk rh rp⟩) (resRoot ⟨levels,order,types,.mk rh rp⟩) h32 hok hnl hsz hbr
 have hmk:(∀ i:Nat,i < (resNds ⟨levels,order,types,.mk rh rp⟩).length→(depN (resNds ⟨levels,order,types,.mk rh rp⟩) (resNds ⟨levels,order,types,.mk rh rp⟩).length).getD i 0≠0)→EffOK (leqS ⟨levels,order,types,.mk rh rp⟩) (resNds ⟨levels,order,types,.mk rh rp⟩)→Fine21 ⟨levels,order,types,.mk rh rp⟩:=fun h1 h2=>⟨h0,h1,h2⟩
 have hDl:=depN_len (resNds ⟨levels,order,types,.mk rh rp⟩) (resNds ⟨levels,order,types,.mk rh rp⟩).length
 generalize depN (resNds ⟨levels,order,types,.mk rh rp⟩) (resNds ⟨levels,order,types,.mk rh rp⟩).length=D at h19 hmk hDl
 unfold leqS at h20 hmk
 generalize leqN (Sch.mk levels order types (.mk rh rp)).levels.length (numL (nmTx (Sch.mk levels order types (.mk rh rp)).levels) (Sch.mk levels order types (.mk rh rp)).order)=f at hw h20 hmk
 generalize resNds ⟨levels,order,types,.mk rh rp⟩=ND at hw h19 h20 hmk hDl hnl hsz hbr hok
 generalize resRoot ⟨levels,order,types,.mk rh rp⟩=rt at hw h19 h20
 have hdi:=dInts_len D
 obtain ⟨R1,R2⟩:=R
 simp only at g
 subst g
 refine call_p en32 (hw) ax rfl ?_
 refine call_p en99 (h19 _ _) ax rfl ?_
 refine loop_i (fun j st=>∃ e:Nat,st=w21St ⟨levels,order,types,.mk rh rp⟩ 0 R2 (wL levels f ND rt) D e∧e≤D.length∧(∀ i < e,D.getD i 0≠0)∧j=D.length - e) D.length (w21St ⟨levels,order,types,.mk rh rp⟩ 0 R2 (wL levels f ND rt) D 0) (weak_mk ⟨_,rfl⟩ wA rfl rfl rfl wB) ⟨0,rfl,by omega,fun _ h=>by omega,by omega⟩ ?_
 rintro j st ⟨e,rfl,he,hno,rfl⟩
 refine br (fun hL=>?_) (fun hL=>?_)
 ·have hlt:e < D.length:=by simpa [hdi] using hL
  obtain ⟨x,hx⟩:∃ x,D[e]? = some x:=⟨_,List.getElem?_eq_getElem hlt⟩
  obtain ⟨d,hd⟩:∃ d,ND[e]? = some d:=⟨_,List.getElem?_eq_getElem (by omega)⟩
  refine ⟨_,⟨by omega,dInts_get hx⟩,?_⟩
  refine br (fun c=>?_) (fun c=>?_)
  ·refine drawG_s mo (by decide +kernel) ?_
   refine ⟨_,⟨by omega,dNds_get hd⟩,?_⟩
   exact ⟨.tup [.v (.int .i64 3),Ft.d (11,d.at')],ax,3,(11,d.at'),rfl,fun h=>by simp at h⟩
  ·have c:x≠0:=by simp at c;omega
   exact ⟨w21St ⟨levels,order,types,.mk rh rp⟩ 0 R2 (wL levels f ND rt) D (e + 1),(weak_b 4 rfl (by repeat' (first | exact rfl | exact we_rfl rfl | exact we_int (nxt hlt (by omega)) | refine ⟨_,_,rfl,?_,?_⟩)) rfl rfl rfl (by repeat' (first | exact trivial | exact we_rfl rfl | exact we_int (nxt hlt (by omega)) | refine ⟨⟨_,rfl,?_⟩,?_⟩))),D.length - (e + 1),by omega,e + 1,rfl,by omega,fun i hi=>by
    rcases Nat.lt_succ_iff_lt_or_eq.1 hi with h1 | h1
    ·exact hno i h1
    ·rw [h1,List.getD_eq_getElem?_getD,hx];exact c,rfl⟩
 ·have hge:e=D.length:=by have:=hL;simp [hdi] at this;omega
  subst hge
  refine call_e en231 rfl h20 ax (fun r hr=>?_)
  obtain ⟨ft,rfl,hft⟩:=hr
  refine br (fun c=>?_) (fun c=>?_)
  ·refine drawG_s mo (by decide +kernel) ?_
   exact ⟨.tup [.v (.int .i64 4),Ft.d ft],ax,4,ft,rfl,fun h=>by simp at h⟩
  ·have c:ft.1=0:=by simpa using c
   exact ⟨.tup [.v (.int .i64 0),Ft.d (0,0)],ax,0,(0,0),rfl,fun _=>hmk (fun i hi=>hno i (by omega)) (hft c)⟩
theorem fine21_spec (S:Sch) (hS:S.wt≤1099511627776):Ev Tryz.prog 88 [.agg (dSch S)] [] [] (fun r _ _=>∃ b:Bool,r = .v (.bool b)∧(b=true→Fine21 S)):=by
 have hw:=wrong21_spec S hS
 obtain ⟨levels,order,types,⟨rh,rp⟩⟩:=S
 refine ev_go (P:=Tryz.prog) tt tt_ok 5000 12 [.tmp 2] Tryz.func88 rfl Tryz.ntmps88 rfl (Nat.le_of_ble_eq_true rfl) (fun E9 w9 hn9 hm9=>?_)
 refine call_e en161 rfl hw ax (fun r hr=>?_)
 obtain ⟨z,ft,rfl,hz⟩:=hr
 exact ⟨_,rfl,fun h=>hz (by simpa using h)⟩
theorem fine42_spec (S:Sch) (hS:S.wt≤1099511627776):Ev Tryz.prog 30 [.agg (dSch S)] [] [] (fun r _ _=>∃ b:Bool,r = .v (.bool b)∧(b=true→Fine21 S)):=by
 have ga:=great17_spec S hS
 have hf:=fine21_spec S hS
 obtain ⟨levels,order,types,⟨rh,rp⟩⟩:=S
 refine ev_go (P:=Tryz.prog) tt tt_ok 5000 10 [.tmp 2] Tryz.func30 rfl Tryz.ntmps30 rfl (Nat.le_of_ble_eq_true rfl) (fun E9 w9 hn9 hm9=>?_)
 refine call_e en14 rfl ga ax (fun r hr=>?_)
 obtain ⟨g,rfl⟩:=hr
 cases g with
 | true=>exact ⟨false,rfl,fun h=>by cases h⟩
 | false=>
  refine call_e en88 rfl hf ax (fun r hr=>?_)
  obtain ⟨b,rfl,hb⟩:=hr
  exact ⟨b,rfl,hb⟩
end Go.Proofs.YtbfdbhechmhpoaaGreat
set_option maxRecDepth 100000
namespace Go.Proofs.YtbfdbhechmhpoaaGreat
open Go Go.RowKit Dv Tryz
def whoP (f:Nat→Nat→Bool) (b e:Nat):List Nat:=(List.range e).filter (f b)
theorem whoP_succ (f:Nat→Nat→Bool) (b e:Nat):whoP f b (e + 1)=if f b e=true then whoP f b e ++ [e] else whoP f b e:=by
 unfold whoP
 rw [List.range_succ,List.filter_append]
 by_cases h:f b e=true
 ·rw [if_pos h];simp [h]
 ·rw [if_neg h];simp [h]
theorem whoP_len (f:Nat→Nat→Bool) (b e:Nat):(whoP f b e).length≤e:=by
 have:=List.length_filter_le (f b) (List.range e)
 rwa [List.length_range] at this
theorem dInts_snoc (L:List Nat) (e:Nat):dInts L ++ [[DV.v (.int .i64 (e:Nat))]]=dInts (L ++ [e]):=by simp [dInts]
def whoL (f:Nat→Nat→Bool) (n:Nat) (o:Option (Nat × Nat)):List Nat:=match o with
 | some (_,b)=>whoP f b n
 | none=>[]
abbrev whoSt (PC:List DV) (b n:Nat) (L:List Nat) (q e:Nat):St:=
 ⟨[(0,⟨[],.pt PC 0⟩),(6,⟨[],.v (.int .i64 b)⟩),(8,⟨[],.sl 1 (dInts L) (some 0)⟩),(21,⟨[],.v (.int .i64 n)⟩),(22,⟨[],.v (.int .i64 e)⟩)],[],[⟨q,3,1,none⟩]⟩
theorem who_spec {S:Sch} {ND:List Nd} {PC:List DV} (hP:PlanR S ND PC) (p:List Stp) (hp:p.length≤1099511627776) (hs:∀ s∈p,s.s.size≤4611686018427387904) (rt:Nat) (hrt:resRoot S=rt) (hrl:rt < ND.length) :
  EvP Tryz.prog 36 [.pt PC 0,.sl 3 (dStps p) none] (.sl 1 (dInts (whoL (leqS S) S.levels.length (walkV ND (leqS S) S.levels.length p rt (botF (leqS S) S.levels.length)))) none):=by
 have hw:=ewalk_spec hP p hp hs rt hrt hrl
 obtain ⟨LC,hlat,hLR⟩:=hP.latR
 have hwo:=fun j b=>walkV_ok hLR.ok hP.ok p rt (botF (leqS S) S.levels.length) (j:=j) (b:=b) hrl (botF_lt hLR.ok)
 have hlen:=hLR.len
 have hleq:=hLR.leq
 have h32:=hLR.n32
 refine evp_nil ?_
 generalize walkV ND (leqS S) S.levels.length p rt (botF (leqS S) S.levels.length)=o at hw hwo ⊢
 generalize leqS S=f at hleq ⊢
 generalize S.levels.length=n at hlen hleq h32 hwo ⊢
 cases o with
 | none=>
  refine ev_go (P:=Tryz.prog) tt tt_ok 5000 36 [.tmp 4] Tryz.func36 rfl Tryz.ntmps36 rfl (Nat.le_of_ble_eq_true rfl) (fun E9 w9 hn9 hm9=>?_)
  refine call_p en97 (hw) ax rfl ?_
  exact Or.inr ⟨rfl,rfl⟩
 | some r=>
  obtain ⟨j,b⟩:=r
  obtain ⟨_,hb⟩:=hwo j b rfl
  refine ev_go (P:=Tryz.prog) tt tt_ok 5000 36 [.tmp 4] Tryz.func36 rfl Tryz.ntmps36 rfl (Nat.le_of_ble_eq_true rfl) (fun E9 w9 hn9 hm9=>?_)
  refine call_p en97 (hw) ax rfl ?_
  refine call_p en21 (hlat) ax rfl ?_
  refine call_p en55 (hlen) ax rfl ?_
  refine loop_i (fun j st=>∃ e q:Nat,st=whoSt PC b n (whoP f b e) q e∧q=(whoP f b e).length∧e≤n∧j=n - e) n (whoSt PC b n [] 0 0) (weak_tok ⟨0,3,1,none⟩ rfl ⟨_,rfl⟩ rfl wA rfl rfl (by repeat' (first | exact trivial | exact we_rfl rfl | exact we_rfl rfl | exact we_tok (Nat.le_refl _) rfl | refine ⟨⟨_,rfl,?_⟩,?_⟩))) ⟨0,0,rfl,rfl,by omega,by omega⟩ ?_
  rintro _ st ⟨e,q,rfl,hq0,he,rfl⟩
  have hwl:=whoP_len f b e
  refine br (fun hL=>?_) (fun hL=>?_)
  ·have hlt:e < n:=by simpa using hL
   have hq:=hleq b e
   rw [leqI_nat hb hlt] at hq
   have hsu:=whoP_succ f b e
   refine call_p en21 (hlat) ax rfl ?_
   refine call_p en57 (hq) ax rfl ?_
   refine br (fun g=>?_) (fun g=>?_)
   ·have g:f b e=true:=g
    rw [if_pos g] at hsu
    have hsn:=(dInts_snoc (whoP f b e) e).trans (congrArg dInts hsu.symm)
    refine ⟨by rw [dInts_len,hq0],⟨by rw [dInts_len];simp [maxLen];omega,by rw [dInts_len];simp;omega⟩,?_⟩
    exact ⟨whoSt PC b n (whoP f b (e + 1)) (q + 1) (e + 1),(weak_mk ⟨_,rfl⟩ wA rfl rfl rfl (by repeat' (first | exact trivial | exact we_rfl rfl | exact we_int (nxt hlt (by omega)) | exact we_sl hsn rfl | refine ⟨⟨_,rfl,?_⟩,?_⟩))),n - (e + 1),by omega,e + 1,q + 1,rfl,by rw [hsu,List.length_append,hq0];rfl,by omega,rfl⟩
   ·have g:f b e=false:=g
    rw [if_neg (by rw [g];simp)] at hsu
    rw [← hsu]
    exact ⟨whoSt PC b n (whoP f b (e + 1)) q (e + 1),(weak_mk ⟨_,rfl⟩ wA rfl rfl rfl (by repeat' (first | exact trivial | exact we_rfl rfl | exact we_int (nxt hlt (by omega)) | refine ⟨⟨_,rfl,?_⟩,?_⟩))),n - (e + 1),by omega,e + 1,q,rfl,by rw [hsu];exact hq0,by omega,rfl⟩
  ·have hge:e=n:=by have:=hL;simp at this;omega
   subst hge
   exact ⟨.sl 1 (dInts (whoP f b e)) none,ax,Or.inl rfl⟩
theorem who_nil (p:List Stp):EvP Tryz.prog 36 [.v (.pointer none),.sl 3 (dStps p) none] (.v (.slice none 0 0)):=by
 have hw:=ewalk_nil (.sl 3 (dStps p) none)
 refine ev_go (P:=Tryz.prog) tt tt_ok 5000 36 [.tmp 4] Tryz.func36 rfl Tryz.ntmps36 rfl (Nat.le_of_ble_eq_true rfl) (fun E9 w9 hn9 hm9=>?_)
 refine call_p en97 (hw) ax rfl ?_
 exact (rfl:_=_)
end Go.Proofs.YtbfdbhechmhpoaaGreat
namespace Go.Proofs.YtbfdbhechmhpoaaGreat
namespace Dv
open Go Go.RowKit
inductive Sched
 | fin
 | op (i:Nat) (t:Sched)
 | ev (i:Nat) (t alt:Sched)
 | stop
section
variable {P:Program} {ops:Array Oper} {C:World→Prop} {Q:Act→World→Prop} {W:Nat→Bool}
def rdy (ops:Array Oper) (rem:List Nat) (i:Nat):Bool:=
 match ops[i]? with
 | some o=>o.after.toList.all fun e=>!Region.binds .any e || !rem.contains e.on
 | none=>false
def evB (ops:Array Oper) (i:Nat):Bool:=match ops[i]? with | some o=>isE o.op | none=>false
def chkA (ops:Array Oper):Sched→List Nat→Option (List Nat)→Bool
 | .fin,rem,m=>m.isNone && rem.isEmpty
 | .op i t,rem,m=>m.isNone && (rem.contains i && (!evB ops i && (rdy ops rem i && chkA ops t (rem.erase i) none)))
 | .ev i t alt,rem,m=>rem.contains i && (evB ops i && (rdy ops rem i && (chkA ops t (rem.erase i) none && chkA ops alt rem (some (i :: m.getD [])))))
 | .stop,rem,m=>match m with
  | some seen=>rem.all fun j=>!rdy ops rem j || seen.contains j
  | none=>false
def chkP (ops:Array Oper) (W:Nat→Bool):Bool:=
 (List.range ops.size).all fun i=>(List.range ops.size).all fun j=>
  Nat.beq i j || ordB ops ops.size i j || ordB ops ops.size j i || (evB ops i && evB ops j) || (swapB ops W j i && swapB ops W i j)
def runS (P:Program) (ops:Array Oper) (W:Nat→Bool) (C:World→Prop) (Q:Act→World→Prop):Sched→Act→World→Prop
 | .fin,a,w=>Q a w
 | .op i t,a,w=>∃ o,ops[i]? = some o∧∃ v,Yl P ops C o v a∧(isL o.op=true→C w)∧runS P ops W C Q t (a.put o.dst v) w
 | .ev i t alt,a,w=>(∃ o,ops[i]? = some o∧stepX P ops o a w fun a' w'=>(W i=false→C w→C w')∧runS P ops W C Q t a' w')∧runS P ops W C Q alt a w
 | .stop,_,_=>True
def RunA (P:Program) (ops:Array Oper) (W:Nat→Bool) (C:World→Prop) (Q:Act→World→Prop) (rem:List Nat) (a:Act) (w:World):Prop:=∃ T,chkA ops T rem none=true∧runS P ops W C Q T a w
def Cl (ops:Array Oper) (rem:List Nat):Prop:=∀ (k:Nat) o,ops[k]? = some o→k ∉ rem→∀ e∈o.after,Region.binds .any e=true→e.on ∉ rem
theorem rdy_spec {rem:List Nat} {i:Nat} (h:rdy ops rem i=true):∃ o,ops[i]? = some o∧∀ e∈o.after,Region.binds .any e=true→e.on ∉ rem:=by
 unfold rdy at h
 split at h
 ·rename_i o ho
  refine ⟨o,ho,fun e he hb=>?_⟩
  have:=List.all_eq_true.1 h e (by simpa using he)
  rw [hb] at this
  simpa using this
 ·cases h
theorem rdy_erase {rem:List Nat} {i j:Nat} (h:rdy ops rem i=true):rdy ops (rem.erase j) i=true:=by
 obtain ⟨o,ho,ha⟩:=rdy_spec h
 unfold rdy
 rw [ho]
 simp only [List.all_eq_true,Bool.or_eq_true,Bool.not_eq_true']
 intro e he
 cases hb:Region.binds .any e
 ·exact .inl rfl
 ·right
  have:=ha e (by simpa using he) hb
  simp only [List.contains_eq_mem,decide_eq_false_iff_not]
  exact fun hm=>this (List.mem_of_mem_erase hm)
theorem cl_erase {rem:List Nat} (hn:rem.Nodup) (hc:Cl ops rem) {i:Nat} (h:rdy ops rem i=true):Cl ops (rem.erase i):=by
 intro k o ho hk e he hb hm
 have hm':=List.mem_of_mem_erase hm
 by_cases hki:k=i
 ·subst hki
  obtain ⟨o',ho',ha⟩:=rdy_spec h
  rw [ho] at ho'
  simp only [Option.some.injEq] at ho'
  subst ho'
  exact ha e he hb hm'
 ·exact hc k o ho (fun hkm=>hk ((List.mem_erase_of_ne hki).2 hkm)) e he hb hm'
theorem cl_ord {rem:List Nat} (hc:Cl ops rem):∀ (n:Nat) (j k:Nat) o,ops[k]? = some o→(∀ e∈o.after,Region.binds .any e=true→e.on ∉ rem)→ordB ops n j k=true→j ∉ rem
 | 0,j,k,o,_,_,h=>by simp [ordB] at h
 | n + 1,j,k,o,ho,hall,h=>by
  simp only [ordB,ho,List.any_eq_true,Bool.and_eq_true,Bool.or_eq_true] at h
  obtain ⟨e,he,hb,hj⟩:=h
  have he':e∈o.after:=by simpa using he
  have h1:=hall e he' hb
  rcases hj with hj | hj
  ·have:e.on=j:=by simpa using hj
   rw [← this];exact h1
  ·cases hoe:ops[e.on]? with
   | none=>
    cases n with
    | zero=>simp [ordB] at hj
    | succ n=>simp [ordB,hoe] at hj
   | some o'=>exact cl_ord hc n j e.on o' hoe (hc e.on o' hoe h1) hj
theorem rdy_swap {rem:List Nat} (hP:chkP ops W=true) (hc:Cl ops rem) {i j:Nat} (hi:rdy ops rem i=true) (hj:rdy ops rem j=true) (him:i∈rem) (hjm:j∈rem) (hij:i≠j) (hev:evB ops i=false∨evB ops j=false):swapB ops W j i=true:=by
 obtain ⟨o,ho,ha⟩:=rdy_spec hi
 obtain ⟨o',ho',ha'⟩:=rdy_spec hj
 simp only [chkP,List.all_eq_true,List.mem_range] at hP
 have h1:=hP i (Array.getElem?_eq_some_iff.1 ho).1 j (Array.getElem?_eq_some_iff.1 ho').1
 simp only [Bool.or_eq_true,Bool.and_eq_true,Nat.beq_eq] at h1
 rcases h1 with (((h1 | h1) | h1) | h1) | h1
 ·exact (hij h1).elim
 ·exact (cl_ord hc _ _ _ o' ho' ha' h1 him).elim
 ·exact (cl_ord hc _ _ _ o ho ha h1 hjm).elim
 ·rcases hev with h | h
  ·rw [h] at h1;simp at h1
  ·rw [h] at h1;simp at h1
 ·exact h1.1
theorem evB_eq {i:Nat} {o:Oper} (h:ops[i]? = some o):evB ops i=isE o.op:=by unfold evB;rw [h]
theorem pull_pure (hsel:∀ (j:Nat) (o:Oper) cs b,ops[j]? = some o→o.op ≠ .select cs b) (hP:chkP ops W=true) {i:Nat} {o:Oper} (hi:ops[i]? = some o) (hE:isE o.op=false) :
  ∀ (T:Sched) (rem:List Nat) (a:Act) (w:World),rem.Nodup→Cl ops rem→chkA ops T rem none=true→runS P ops W C Q T a w→i∈rem→rdy ops rem i=true →
   ∃ v,Yl P ops C o v a∧(isL o.op=true→C w)∧RunA P ops W C Q (rem.erase i) (a.put o.dst v) w
 | .fin,rem,a,w,_,_,hc,_,him,_=>by
  simp only [chkA,Bool.and_eq_true,List.isEmpty_iff] at hc
  rw [hc.2] at him;cases him
 | .stop,rem,a,w,_,_,hc,_,_,_=>by simp [chkA] at hc
 | .ev j t alt,rem,a,w,hn,hcl,hc,hr,him,hrd=>by
  exfalso
  have key:∀ (T:Sched) (seen:List Nat),(∀ k∈seen,evB ops k=true)→chkA ops T rem (some seen)=true→False:=by
   intro T
   induction T with
   | fin=>intro seen _ h;simp [chkA] at h
   | op=>intro seen _ h;simp [chkA] at h
   | ev k t alt _ ih=>
    intro seen hs h
    simp only [chkA,Bool.and_eq_true,Option.getD_some] at h
    exact ih (k :: seen) (fun q hq=>by
     rcases List.mem_cons.1 hq with rfl | hq
     ·exact h.2.1
     ·exact hs q hq) h.2.2.2.2
   | stop=>
    intro seen hs h
    simp only [chkA,List.all_eq_true,Bool.or_eq_true,Bool.not_eq_true'] at h
    rcases h i him with h1 | h1
    ·rw [hrd] at h1;cases h1
    ·have:=hs i (by simpa using h1)
     rw [evB_eq hi,hE] at this;cases this
  simp only [chkA,Bool.and_eq_true,Option.getD_none] at hc
  exact key alt [j] (fun k hk=>by rw [List.mem_singleton] at hk;rw [hk];exact hc.2.1) hc.2.2.2.2
 | .op j t,rem,a,w,hn,hcl,hc,hr,him,hrd=>by
  simp only [chkA,Bool.and_eq_true,Bool.not_eq_true'] at hc
  obtain ⟨_,hjm,hje,hjr,hct⟩:=hc
  have hjm:j∈rem:=by simpa using hjm
  simp only [runS] at hr
  obtain ⟨y,hy,v,hyv,hyc,hrt⟩:=hr
  by_cases hij:i=j
  ·subst hij
   rw [hi] at hy
   simp only [Option.some.injEq] at hy
   subst hy
   exact ⟨v,hyv,hyc,t,hct,hrt⟩
  ·have hsw:=rdy_swap hP hcl hrd hjr him hjm hij (.inr hje)
   obtain ⟨ap1,ap2,_,_⟩:=swapB_spec hsw hy hi
   obtain ⟨u,hu,huc,T',hT',hrT⟩:=pull_pure hsel hP hi hE t (rem.erase j) (a.put y.dst v) w (hn.erase j) (cl_erase hn hcl hjr) hct hrt ((List.mem_erase_of_ne hij).2 him) (rdy_erase hrd)
   have hso:=fun cs b=>hsel i o cs b hi
   have hsy:=fun cs b=>hsel j y cs b hy
   obtain ⟨_,hdd,_⟩:=Oper.apart_spec ap1
   refine ⟨u,(Yl.same ap1 hso).1 hu,huc,.op j T',?_,?_⟩
   ·simp only [chkA,Bool.and_eq_true,Bool.not_eq_true']
    refine ⟨rfl,?_,hje,rdy_erase hjr,?_⟩
    ·simpa using (List.mem_erase_of_ne (Ne.symm hij)).2 hjm
    ·rw [List.erase_comm];exact hT'
   ·simp only [runS]
    refine ⟨y,hy,v,(Yl.same ap2 hsy).2 hyv,hyc,?_⟩
    rw [← Act.put_comm a v u hdd]
    exact hrT
theorem pull_alt {e:Nat}:∀ (T:Sched) (rem:List Nat) (seen:List Nat) (a:Act) (w:World),chkA ops T rem (some seen)=true→runS P ops W C Q T a w→e∈rem→rdy ops rem e=true→e ∉ seen →
  ∃ o t,ops[e]? = some o∧chkA ops t (rem.erase e) none=true∧stepX P ops o a w fun a' w'=>(W e=false→C w→C w')∧runS P ops W C Q t a' w'
 | .fin,rem,seen,a,w,hc,_,_,_,_=>by simp [chkA] at hc
 | .op _ _,rem,seen,a,w,hc,_,_,_,_=>by simp [chkA] at hc
 | .stop,rem,seen,a,w,hc,_,hm,hr,hs=>by
  simp only [chkA,List.all_eq_true,Bool.or_eq_true,Bool.not_eq_true'] at hc
  rcases hc e hm with h | h
  ·rw [hr] at h;cases h
  ·exact (hs (by simpa using h)).elim
 | .ev i t alt,rem,seen,a,w,hc,hr,hm,hrd,hs=>by
  simp only [chkA,Bool.and_eq_true,Option.getD_some] at hc
  simp only [runS] at hr
  obtain ⟨⟨o,ho,hst⟩,hra⟩:=hr
  by_cases hie:i=e
  ·subst hie
   exact ⟨o,t,ho,hc.2.2.2.1,hst⟩
  ·exact pull_alt alt rem (i :: seen) a w hc.2.2.2.2 hra hm hrd (fun h=>by
    rcases List.mem_cons.1 h with h | h
    ·exact hie h.symm
    ·exact hs h)
theorem pull_ev (hsel:∀ (j:Nat) (o:Oper) cs b,ops[j]? = some o→o.op ≠ .select cs b) (hP:chkP ops W=true) {i:Nat} {o:Oper} (hi:ops[i]? = some o) (hE:isE o.op=true) :
  ∀ (T:Sched) (rem:List Nat) (a:Act) (w:World),rem.Nodup→Cl ops rem→chkA ops T rem none=true→runS P ops W C Q T a w→i∈rem→rdy ops rem i=true →
   stepX P ops o a w (fun a' w'=>(W i=false→C w→C w')∧RunA P ops W C Q (rem.erase i) a' w')
 | .fin,rem,a,w,_,_,hc,_,him,_=>by
  simp only [chkA,Bool.and_eq_true,List.isEmpty_iff] at hc
  rw [hc.2] at him;cases him
 | .stop,rem,a,w,_,_,hc,_,_,_=>by simp [chkA] at hc
 | .ev j t alt,rem,a,w,hn,hcl,hc,hr,him,hrd=>by
  simp only [chkA,Bool.and_eq_true,Option.getD_none] at hc
  simp only [runS] at hr
  obtain ⟨⟨y,hy,hst⟩,hra⟩:=hr
  by_cases hij:i=j
  ·subst hij
   rw [hi] at hy
   simp only [Option.some.injEq] at hy
   subst hy
   exact stepX_mono (fun a' w' h=>⟨h.1,t,hc.2.2.2.1,h.2⟩) hst
  ·obtain ⟨o',t',ho',hct,hs⟩:=pull_alt alt rem [j] a w hc.2.2.2.2 hra him hrd (by simpa using hij)
   rw [hi] at ho'
   simp only [Option.some.injEq] at ho'
   subst ho'
   exact stepX_mono (fun a' w' h=>⟨h.1,t',hct,h.2⟩) hs
 | .op j t,rem,a,w,hn,hcl,hc,hr,him,hrd=>by
  simp only [chkA,Bool.and_eq_true,Bool.not_eq_true'] at hc
  obtain ⟨_,hjm,hje,hjr,hct⟩:=hc
  have hjm:j∈rem:=by simpa using hjm
  simp only [runS] at hr
  obtain ⟨y,hy,v,hyv,hyc,hrt⟩:=hr
  have hij:i≠j:=by
   rintro rfl
   rw [evB_eq hi,hE] at hje;cases hje
  have hsw:=rdy_swap hP hcl hrd hjr him hjm hij (.inr hje)
  obtain ⟨ap1,ap2,_,hLW⟩:=swapB_spec hsw hy hi
  have hso:=fun cs b=>hsel i o cs b hi
  have hsy:=fun cs b=>hsel j y cs b hy
  have ih:=pull_ev hsel hP hi hE t (rem.erase j) (a.put y.dst v) w (hn.erase j) (cl_erase hn hcl hjr) hct hrt ((List.mem_erase_of_ne hij).2 him) (rdy_erase hrd)
  refine stepX_mono ?_ (stepX_form ((stepX_put ap1 hso).1 ih))
  rintro a' w' ⟨⟨hcw,T',hT',hrT⟩,u,rfl⟩
  refine ⟨hcw,.op j T',?_,?_⟩
  ·simp only [chkA,Bool.and_eq_true,Bool.not_eq_true']
   refine ⟨rfl,?_,hje,rdy_erase hjr,?_⟩
   ·simpa using (List.mem_erase_of_ne (Ne.symm hij)).2 hjm
   ·rw [List.erase_comm];exact hT'
  ·simp only [runS]
   refine ⟨y,hy,v,(Yl.same (u:=u) ap2 hsy).2 hyv,fun hL=>?_,hrT⟩
   have hWi:W i=false:=by
    cases hw:W i
    ·rfl
    ·exact (hLW ⟨hL,hw⟩).elim
   exact hcw hWi (hyc hL)
theorem any_of_A {Q':Exit→Act→World→Prop} (hsel:∀ (j:Nat) (o:Oper) cs b,ops[j]? = some o→o.op ≠ .select cs b) (hP:chkP ops W=true) (hb:∀ (i:Nat) (o:Oper),ops[i]? = some o→∀ e∈o.after,Region.binds .any e=true→e.on < ops.size)
  (hQ:∀ a w,Q a w→Q' .normal a w):∀ (fuel:Nat) (listed:Array Bool) (rem:List Nat) (a:Act) (w:World),
  listed.size=ops.size→(∀ i,i∈rem↔i < ops.size∧listed.getD i true=false)→rem.Nodup→Cl ops rem→rem.length≤fuel→RunA P ops W C Q rem a w→wpAny P .any ops Q' fuel listed a w:=by
 have hrdy:∀ (listed:Array Bool) (rem:List Nat),listed.size=ops.size→(∀ i,i∈rem↔i < ops.size∧listed.getD i true=false)→∀ i,i∈Region.ready .any ops listed↔i∈rem∧rdy ops rem i=true:=by
  intro listed rem hsz hrem i
  have hl:∀ k,k < ops.size→(listed.getD k false=true↔k ∉ rem):=fun k hk=>by
   have hk':k < listed.size:=by rw [hsz];exact hk
   rw [hrem k]
   simp [hk,hk']
  rw [mem_ready]
  constructor
  ·rintro ⟨h1,o,ho,h2⟩
   have hi:=(Array.getElem?_eq_some_iff.1 ho).1
   refine ⟨(hrem i).2 ⟨hi,h1⟩,?_⟩
   unfold rdy
   rw [ho]
   simp only [List.all_eq_true,Bool.or_eq_true,Bool.not_eq_true']
   intro e he
   cases hbe:Region.binds .any e
   ·exact .inl rfl
   ·right
    have he':e∈o.after:=by simpa using he
    simp only [List.contains_eq_mem,decide_eq_false_iff_not]
    exact (hl _ (hb i o ho e he' hbe)).1 (h2 e he' hbe)
  ·rintro ⟨h1,h2⟩
   obtain ⟨o,ho,h3⟩:=rdy_spec h2
   exact ⟨((hrem i).1 h1).2,o,ho,fun e he hbe=>(hl _ (hb i o ho e he hbe)).2 (h3 e he hbe)⟩
 intro fuel
 induction fuel with
 | zero=>
  intro listed rem a w hsz hrem hn hcl hlen hr
  have:rem=[]:=List.length_eq_zero_iff.1 (by omega)
  subst this
  obtain ⟨T,hT,hrT⟩:=hr
  refine ⟨?_,hQ _ _ ?_⟩
  ·rw [List.eq_nil_iff_forall_not_mem]
   intro i hi
   cases ((hrdy listed [] hsz hrem i).1 hi).1
  ·cases T with
   | fin=>exact hrT
   | op i t=>simp [chkA] at hT
   | ev i t alt=>simp [chkA] at hT
   | stop=>simp [chkA] at hT
 | succ fuel ih=>
  intro listed rem a w hsz hrem hn hcl hlen hr
  obtain ⟨T,hT,hrT⟩:=hr
  refine ⟨fun h0=>?_,fun i hi=>?_⟩
  ·cases T with
   | fin=>exact hQ _ _ hrT
   | op i t=>
    exfalso
    simp only [chkA,Bool.and_eq_true] at hT
    have:=(hrdy listed rem hsz hrem i).2 ⟨by simpa using hT.2.1,hT.2.2.2.1⟩
    rw [h0] at this;cases this
   | ev i t alt=>
    exfalso
    simp only [chkA,Bool.and_eq_true] at hT
    have:=(hrdy listed rem hsz hrem i).2 ⟨by simpa using hT.1,hT.2.2.1⟩
    rw [h0] at this;cases this
   | stop=>simp [chkA] at hT
  ·obtain ⟨him,hir⟩:=(hrdy listed rem hsz hrem i).1 hi
   obtain ⟨o,ho,_⟩:=rdy_spec hir
   have hi':=(Array.getElem?_eq_some_iff.1 ho).1
   have hmem':∀ k,k∈rem.erase i↔k < ops.size∧(listed.setIfInBounds i true).getD k true=false:=by
    intro k
    rw [List.Nodup.mem_erase_iff hn]
    by_cases hki:k=i
    ·subst hki
     simp [hsz,hi']
    ·rw [getD_set_ne true (Ne.symm hki)]
     simp only [ne_eq,hki,not_false_eq_true,true_and]
     exact hrem k
   have hnext:∀ a' w',RunA P ops W C Q (rem.erase i) a' w' → wpAny P .any ops Q' fuel (listed.setIfInBounds i true) a' w':=fun a' w' h=>
    ih _ (rem.erase i) a' w' (by simp [hsz]) hmem' (hn.erase i) (cl_erase hn hcl hir) (by rw [List.length_erase_of_mem him];have:=List.length_pos_of_mem him;omega) h
   refine step_wpOp ho ?_
   cases hE:isE o.op with
   | true=>exact stepX_mono (fun a' w' h=>hnext a' w' h.2) (pull_ev hsel hP ho hE T rem a w hn hcl hT hrT him hir)
   | false=>
    obtain ⟨v,hy,hc,h⟩:=pull_pure hsel hP ho hE T rem a w hn hcl hT hrT him hir
    exact stepX_of_Yl hy hc (hnext _ _ h)
end
def goA (X:Ctx) (D:Dr):Sched→Bool→List (Nat × Sl)→St→Prop
 | .fin,_,_,st=>go X 4000 D.k st
 | .op i t,c,s0,st=>
  match D.ops.toList[i]? with
  | some o=>goD X ⟨D.ops,D.W,D.k,D.st0,some (goA X D t)⟩ 3000 c [(i,o)] s0 st
  | none=>False
 | .ev i t alt,c,s0,st=>
  (match D.ops.toList[i]? with
  | some o=>goD X ⟨D.ops,D.W,D.k,D.st0,some (goA X D t)⟩ 3000 c [(i,o)] s0 st
  | none=>False)∧goA X D alt c s0 st
 | .stop,_,_,_=>True
def chkN (ops:Array Oper):Bool:=Region.noSelect ops && (List.range ops.size).all fun i=>match ops[i]? with | some o=>o.after.toList.all fun e=>!Region.binds .any e || Nat.blt e.on ops.size | none=>true
section
variable {X:Ctx} {D:Dw}
theorem goA_sound (hD:EnvM D.E0 D.d.st0.bx D.wr) (hf:D.d.fin=none):∀ (T:Sched) (rem:List Nat) m,chkA D.d.ops T rem m=true→∀ c s0 st,goA X D.d T c s0 st→∀ E a w,RelD X D c E s0 st a w→runS X.P D.d.ops D.d.W D.C (D.Q X) T a w:=by
 intro T
 have hone:∀ (t:Sched) (i:Nat) (o:Oper),D.d.ops[i]? = some o→(∀ c s0 st,goA X D.d t c s0 st→∀ E a w,RelD X D c E s0 st a w→runS X.P D.d.ops D.d.W D.C (D.Q X) t a w)→∀ c s0 st,goD X ⟨D.d.ops,D.d.W,D.d.k,D.d.st0,some (goA X D.d t)⟩ 3000 c [(i,o)] s0 st→∀ E a w,RelD X D c E s0 st a w →
   runT X.P D.d.ops D.d.W D.C (fun a w=>runS X.P D.d.ops D.d.W D.C (D.Q X) t a w) [i] a w:=fun t i o ho ih c s0 st hg E a w h=>by
  have h1:=goD_sound (D:=⟨⟨D.d.ops,D.d.W,D.d.k,D.d.st0,some (goA X D.d t)⟩,D.E0,D.wr⟩) hD 3000 c [(i,o)] s0 st hg (fun p hp=>by
   rw [List.mem_singleton] at hp
   rw [hp]
   exact ho) E a w ⟨h.rel,h.x,h.β,h.t0,h.cc⟩
  refine runT_mono ?_ h1
  rintro a w ⟨c,E,s0,st,h2,h3⟩
  exact ih c s0 st h3 E a w ⟨h2.rel,h2.x,h2.β,h2.t0,h2.cc⟩
 induction T with
 | fin=>
  intro rem m _ c s0 st hg E a w h
  show D.Q X a w
  unfold Dw.Q
  rw [hf]
  exact go_sound 4000 _ _ hg E a w h.rel
 | stop=>intro rem m _ c s0 st hg E a w h;exact trivial
 | op i t ih=>
  intro rem m hc c s0 st hg E a w h
  simp only [chkA,Bool.and_eq_true,Bool.not_eq_true'] at hc
  simp only [goA] at hg
  split at hg
  ·rename_i o ho
   have ho:D.d.ops[i]? = some o:=by simpa using ho
   have h4:=hone t i o ho (ih _ _ hc.2.2.2.2) c s0 st hg E a w h
   have hE:isE o.op=false:=by rw [← evB_eq ho];exact hc.2.2.1
   simp only [runT,ho,hE,Bool.false_eq_true,if_false] at h4
   exact ⟨o,ho,h4⟩
  ·exact hg.elim
 | ev i t alt ih1 ih2=>
  intro rem m hc c s0 st hg E a w h
  simp only [chkA,Bool.and_eq_true] at hc
  obtain ⟨hg,hg2⟩:=hg
  refine ⟨?_,ih2 _ _ hc.2.2.2.2 c s0 st hg2 E a w h⟩
  split at hg
  ·rename_i o ho
   have ho:D.d.ops[i]? = some o:=by simpa using ho
   have h4:=hone t i o ho (ih1 _ _ hc.2.2.2.1) c s0 st hg E a w h
   have hE:isE o.op=true:=by rw [← evB_eq ho];exact hc.2.1
   simp only [runT,ho,hE,if_true] at h4
   exact ⟨o,ho,h4⟩
  ·exact hg.elim
theorem drawG_a {id:Nat} {ops:Array Oper} {k:List It} {st:St} (W:Nat→Bool) (T:Sched) (hm:X.P.follows .mixedOrders=true) (hc:(chkN ops && chkP ops W && chkA ops T (List.range ops.size) none)=true) (S:St)
  (h:goA X ⟨ops,W,[.rnd fun s=>s=S∨SameSt s S],st,none⟩ T true st.sl st) (hk:go X 4000 k S):DrawG X id ops k st:=by
 intro E a w hr
 have hr':=drew_rel hr
 simp only [Bool.and_eq_true] at hc
 obtain ⟨⟨hN,hP⟩,hT⟩:=hc
 simp only [chkN,Bool.and_eq_true,List.all_eq_true,List.mem_range] at hN
 have hs:=relD_start hr' (ops:=ops) (W:=W) (k:=[.rnd fun s=>s=S∨SameSt s S])
 have hrun:=goA_sound (D:=⟨⟨ops,W,[.rnd fun s=>s=S∨SameSt s S],st,none⟩,E,w.drew⟩) hr'.env.em rfl T _ _ hT true st.sl st h E a w.drew hs
 refine wp_region_any hm ?_
 refine any_of_A (C:=CC E st.bx w.drew) (Q:=kq X [.rnd fun s=>s=S∨SameSt s S] .normal) (Region.noSelect_spec hN.1) hP (fun i o ho e he hb=>?_) (fun a w hq=>?_) ops.size (Array.replicate ops.size false) (List.range ops.size) a _ (by simp) ?_ List.nodup_range ?_ (by simp) ⟨T,hT,hrun⟩
 ·have h1:=hN.2 i (Array.getElem?_eq_some_iff.1 ho).1
  rw [ho] at h1
  have h2:=List.all_eq_true.1 h1 e (by simpa using he)
  rw [hb] at h2
  simpa using h2
 ·obtain ⟨st1,E1,hrel,hJ⟩:=hq
  rcases hJ with rfl | hJ
  ·exact go_sound 4000 _ _ hk E1 a w hrel
  ·exact go_sound 4000 _ _ hk E1 a w (same_rel hrel hJ)
 ·intro i
  simp only [List.mem_range]
  constructor
  ·intro hi;exact ⟨hi,by simp [hi]⟩
  ·intro hi;exact hi.1
 ·intro k o ho hk
  exact (hk (List.mem_range.2 (Array.getElem?_eq_some_iff.1 ho).1)).elim
end
end Dv
end Go.Proofs.YtbfdbhechmhpoaaGreat
set_option maxRecDepth 100000
namespace Go.Proofs.YtbfdbhechmhpoaaGreat
open Go Go.RowKit Dv Tryz
end Go.Proofs.YtbfdbhechmhpoaaGreat
set_option maxRecDepth 100000
namespace Go.Proofs
open Go.Shelf
def Tryz.laysB_ren:Go.Shelf.Ren:=⟨fun | 240=>234 | 276=>281 | n=>n,fun | 9=>9 | 4=>4 | 0=>0 | 20=>20 | 72=>235 | 70=>232 | 37=>233 | 164=>334 | 5=>5 | n=>n,fun | n=>n⟩
theorem Tryz.laysB:Go.Proofs.Lays.n240 Tryz.prog Tryz.laysB_ren:={
 mixed:=by kernel_rfl
 f240:=Tryz.func234.trans (congrArg some (by kernel_rfl))
 f276:=Tryz.func281.trans (congrArg some (by kernel_rfl))
 t0:=Tryz.underlying0
 a0:=Tryz.isAgg0
 z0:=Tryz.sizeOf0
 v0:=Tryz.zeroValue0
 t4:=Tryz.underlying4
 a4:=Tryz.isAgg4
 z4:=Tryz.sizeOf4
 v4:=Tryz.zeroValue4
 t9:=Tryz.underlying9
 a9:=Tryz.isAgg9
 z9:=Tryz.sizeOf9
 v9:=Tryz.zeroValue9
 t20:=Tryz.underlying20
 a20:=Tryz.isAgg20
 z20:=Tryz.sizeOf20
 v20:=Tryz.zeroValue20
 t70:=Tryz.underlying232
 a70:=Tryz.isAgg232
 z70:=Tryz.sizeOf232
 v70:=Tryz.zeroValue232
 t72:=Tryz.underlying235
 a72:=Tryz.isAgg235
 z72:=Tryz.sizeOf235
 v72:=Tryz.zeroValue235
 t164:=Tryz.underlying334
 a164:=Tryz.isAgg334
 z164:=Tryz.sizeOf334
 v164:=Tryz.zeroValue334 }
theorem Tryz.laysBX:Builder.Extra Tryz.prog Tryz.laysB_ren:={
 sizeBuilder:=by kernel_rfl
 liesBuilder:=by kernel_rfl
 t5:=Tryz.underlying5
 a5:=Tryz.isAgg5
 z5:=Tryz.sizeOf5
 v5:=Tryz.zeroValue5
 infoByte:=by kernel_rfl
 cellsByte:=by kernel_rfl
 sizeByte:=by kernel_rfl
 neB5:=by decide }
end Go.Proofs
set_option maxRecDepth 100000
namespace Go.Proofs.YtbfdbhechmhpoaaGreat
open Go Go.RowKit Go.Lib Dv Tryz
theorem run_append_own_string' {P:Program} (w:World) (t u ty e:TypeId) (i:TypeInfo) (ht:P.underlying t=some (.slice e)) (hu:P.underlying u=some .string) (hi:P.info? e=some i) (hz:i.zero=some (.int .u8 0))
  (hsize:i.size=1) (hby:i.bytes=1) (v:Value) (n:Nat) (xs:List Value) (hown:w.ownsRow 0 e 1 v n xs) (s:ByteArray) (h63:n + s.size≤maxLen) (hbytes:n + s.size≤140737488355328) (hs:0 < s.size) :
  ∃ g cap w',(Builtin.append_ #[t,u] ty #[v,.string s]).run P w = .ok (.slice (some ⟨g,0,none⟩) (n + s.size) cap) w' ∧ w'.ownsRow 0 e 1 (.slice (some ⟨g,0,none⟩) (n + s.size) cap) (n + s.size) (xs ++ strCells s)∧w.grownBy w' v.ownBlock ∧
   ((v.ownBlock=some g)∨(w.heap.size≤g∧∀ k,k < w.heap.size→w'.heap[k]? = w.heap[k]?)):=by
 obtain ⟨v',w',hr,h2,h3,h4⟩:=Lib.run_append_own_string (P:=P) w 0 t u ty e i ht hu hi hz hsize hby v n xs hown s h63 hbytes (Nat.zero_le _)
 have hsmall:n + s.size≤9223372036854775807:=by simp only [maxLen] at h63;omega
 have hxl:xs.length=n:=by simpa using hown.1
 rcases hown.2 with ⟨rfl,rfl⟩ | ⟨g,cap,cur,rfl,hbg,hg,hnc,hcm,hcs,htake⟩
 ·have hr2:=run_append_nil_string (P:=P) w t u ty e i (.int .u8 0) ht hu hi hz s hs (by omega) (by rw [hby];omega)
  rw [hr2] at hr
  injection hr with e1 e2
  subst e1
  simp only [Nat.zero_add] at *
  exact ⟨_,_,w',by rw [hr2,e2],h2,h3,.inr ⟨Nat.le_refl _,fun k hk=>by rw [← e2];exact Below.heap_alloc w.drew _ k hk⟩⟩
 ·by_cases hroom:n + s.size≤cap
  ·have hcs':cur.size=cap:=by simpa using hcs
   have hr2:=Lib.run_append_room_string (P:=P) w t u ty e i ht hu hi hsize g n cap cur hg s hroom (by omega)
   rw [hr2] at hr
   injection hr with e1 e2
   subst e1
   exact ⟨_,_,w',by rw [hr2,e2],h2,h3,.inl rfl⟩
  ·have holds:∀ j u,xs[j]? = some u→w.cell? ((⟨g,0,none⟩:Addr).add j)=some u:=hown.cells (g:=g) rfl
   have hr2:=Lib.run_append_grow_string (P:=P) w t u ty e i (.int .u8 0) ht hu hi hz ⟨g,0,none⟩ n cap xs (by rw [hsize];simpa using hxl) holds s (by omega) (by omega) (by rw [hby];exact growslice_fits (by omega) (by omega))
   rw [hr2] at hr
   injection hr with e1 e2
   subst e1
   exact ⟨_,_,w',by rw [hr2,e2],h2,h3,.inr ⟨Nat.le_refl _,fun k hk=>by rw [← e2];exact Below.heap_alloc w.drew _ k hk⟩⟩
theorem setBlk_self {w:World} {b:Nat} {o:Obj} (h:w.heap[b]? = some o):World.setBlk w b o=w:=by
 obtain ⟨hb,hg⟩:=Array.getElem?_eq_some_iff.1 h
 have e:w.heap.setIfInBounds b o=w.heap:=by
  apply Array.ext
  ·simp
  ·intro i h1 h2
   by_cases hi:b=i
   ·subst hi;simp [hg]
   ·rw [Array.getElem_setIfInBounds_ne (by simpa using h1) hi]
 show { w with heap:=w.heap.setIfInBounds b o }=w
 rw [e]
abbrev bldW (w:World) (b:Nat) (v:Value):World:=World.setBlk w b (.cells #[.pointer (some ⟨b,0,none⟩),v] 235 (0,0))
theorem copy_mem (b:Nat) (p v:Value) (w:World) (hp:p = .pointer none∨p = .pointer (some ⟨b,0,none⟩)) (hbk:w.heap[b]? = some (.cells #[p,v] 235 (0,0))) :
  Calls Tryz.prog 234 #[.pointer (some ⟨b,0,none⟩)] w fun e w'=>e = .returned (.tuple #[])∧w'=bldW w b v:=by
 rcases hp with rfl | rfl
 ·refine (Any.Builder_copyCheck_fresh Tryz.laysB Tryz.laysBX.toX72 b w (by rw [Lib.cell_of_heap hbk];rfl) (by simp [World.shape?,hbk,Tryz.laysB_ren]) (by simp [World.frozen?,hbk])).mono ?_
  rintro e w' ⟨rfl,rfl⟩
  exact ⟨rfl,by rw [setCell_setBlk hbk];rfl⟩
 ·refine (Any.Builder_copyCheck_used Tryz.laysB Tryz.laysBX.toX72 b w (by rw [Lib.cell_of_heap hbk];rfl)).mono ?_
  rintro e w' ⟨rfl,rfl⟩
  exact ⟨rfl,(setBlk_self hbk).symm⟩
theorem wpList_append_str' {P:Program} {w:World} {ops:Array Oper} {rest:List Oper} {o:Oper} {a:Act} {Q:Exit→Act→World→Prop} (hgd:o.guard=none) (sl x:Operand) (t u:TypeId)
  (ho:o.op = .call { callee:=.builtin .append,args:=#[sl,x],argTypes:=#[t,u] })
  (e:TypeId) (i:TypeInfo) (ht:P.underlying t=some (.slice e)) (hu:P.underlying u=some .string) (hi:P.info? e=some i) (hz:i.zero=some (.int .u8 0))
  (hsize:i.size=1) (hby:i.bytes=1)
  (v:Value) (n:Nat) (xs:List Value) (hs:a.eval sl=v) (hown:w.ownsRow 0 e 1 v n xs) (s:ByteArray) (hx:a.eval x = .string s)
  (h63:n + s.size≤maxLen) (hbytes:n + s.size≤140737488355328) (hpos:0 < s.size)
  (h:∀ g cap w',w'.ownsRow 0 e 1 (.slice (some ⟨g,0,none⟩) (n + s.size) cap) (n + s.size) (xs ++ strCells s)→w.grownBy w' v.ownBlock→((v.ownBlock=some g)∨(w.heap.size≤g∧∀ k,k < w.heap.size→w'.heap[k]? = w.heap[k]?)) →
   wpList P ops Q rest (a.put o.dst (.slice (some ⟨g,0,none⟩) (n + s.size) cap)) w'):wpList P ops Q (o :: rest) a w:=by
 refine wpList_plain hgd fun K hK=>?_
 obtain ⟨g,cap,w',hr,h2,h3,h4⟩:=run_append_own_string' (P:=P) w t u o.type e i ht hu hi hz hsize hby v n xs hown s h63 hbytes hpos
 unfold Oper.wp execOp
 simp only [ho,resolve,invoke,builtin,Sem.run_bind,Sem.run_pure,Result.andThen_ok,List.map_toArray,List.map_cons,List.map_nil,hs,hx,hr]
 exact hK _ _ (h g cap w' h2 h3 h4)
def BwPost (w:World) (b:Nat) (v:Value) (n:Nat) (xs:List Value) (s:ByteArray) (e:Ending) (w':World):Prop:=
 e = .returned (.tuple #[.int .i64 s.size,.nilIface])∧∃ g cap w2,w2.ownsRow 0 5 1 (.slice (some ⟨g,0,none⟩) (n + s.size) cap) (n + s.size) (xs ++ strCells s)∧(bldW w b v).grownBy w2 v.ownBlock ∧
  ((v.ownBlock=some g)∨((bldW w b v).heap.size≤g∧∀ k,k < (bldW w b v).heap.size→w2.heap[k]? = (bldW w b v).heap[k]?)) ∧
  w'=World.setBlk w2 b (.cells #[.pointer (some ⟨b,0,none⟩),.slice (some ⟨g,0,none⟩) (n + s.size) cap] 235 (0,0))
theorem own_set {w:World} {b e n:Nat} {v:Value} {xs:List Value} {o:Obj} (h:w.ownsRow 0 e 1 v n xs) (hne:v.ownBlock≠some b):(World.setBlk w b o).ownsRow 0 e 1 v n xs:=by
 refine ⟨h.1,?_⟩
 rcases h.2 with h | ⟨g,cap,cur,rfl,h1,h2,h3⟩
 ·exact .inl h
 ·refine .inr ⟨g,cap,cur,rfl,h1,?_,h3⟩
  rw [setBlk_other]
  ·exact h2
  ·rintro rfl
   exact hne rfl
set_option maxHeartbeats 2000000 in
theorem bw_mem (b:Nat) (p v:Value) (n:Nat) (xs:List Value) (s:ByteArray) (w:World) (hp:p = .pointer none∨p = .pointer (some ⟨b,0,none⟩)) (hbk:w.heap[b]? = some (.cells #[p,v] 235 (0,0)))
  (hown:w.ownsRow 0 5 1 v n xs) (hne:v.ownBlock≠some b) (hs:0 < s.size) (hlen:n + s.size≤140737488355328) :
  Calls Tryz.prog 164 #[.pointer (some ⟨b,0,none⟩),.string s] w (BwPost w b v n xs s):=by
 obtain ⟨i0,hi,hz0,hz1,hz2⟩:=info_parts Tryz.laysBX.infoByte
 go_enter Tryz.func164,Tryz.ntmps164
 go_wp2_with (go_at_call 234;refine (copy_mem b p v _ hp hbk).mono ?_)
 rintro e w1 ⟨rfl,rfl⟩
 have hb1:(bldW w b v).heap[b]? = some (.cells #[.pointer (some ⟨b,0,none⟩),v] 235 (0,0)):=setBlk_same hbk
 have hown1:(bldW w b v).ownsRow 0 5 1 v n xs:=own_set hown hne
 have c0:(bldW w b v).cell? ⟨b,0,none⟩=some (.pointer (some ⟨b,0,none⟩)):=by rw [Lib.cell_of_heap hb1];all_goals rfl
 have c1:(bldW w b v).cell? ⟨b,1,none⟩=some v:=by rw [Lib.cell_of_heap hb1];all_goals rfl
 have hlt:b < (bldW w b v).heap.size:=lt_of_blk hb1
 obtain ⟨W1,hW1⟩:∃ W1,W1=bldW w b v:=⟨_,rfl⟩
 rw [← hW1] at hb1 hown1 c0 c1 hlt ⊢
 have HW:=Lib.hid hW1
 clear hW1
 go_wp2_with (at_builtin;refine wpList_append_str' rfl _ _ 233 9 rfl 5 i0 Tryz.underlying233 Tryz.underlying9 hi hz0 hz1 hz2 _ _ _ rfl hown1 s rfl ?c3 ?c4 hs ?_)
 case c3=>unfold maxLen;omega
 case c4=>omega
 intro g cap w2 hown' hgrow hdi
 have hb2:w2.heap[b]? = some (.cells #[.pointer (some ⟨b,0,none⟩),v] 235 (0,0)):=by
  rw [hgrow.block b hlt (fun e=>hne e.symm)]
  exact hb1
 have d0:w2.cell? ⟨b,0,none⟩=some (.pointer (some ⟨b,0,none⟩)):=by rw [Lib.cell_of_heap hb2];all_goals rfl
 have d1:w2.cell? ⟨b,1,none⟩=some v:=by rw [Lib.cell_of_heap hb2];all_goals rfl
 have f1:w2.frozen? ⟨b,1,none⟩=false:=Lib.frozen_of_heap hb2 1
 go_wp2
 go_ret2
 refine ⟨rfl,g,cap,w2,hown',by rw [← HW.out];exact hgrow,by rw [← HW.out];exact hdi,?_⟩
 rw [setCell_setBlk hb2]
 rfl
set_option maxHeartbeats 1000000 in
theorem bs_mem (b g cap:Nat) (p:Value) (l:List UInt8) (cur:Array Value) (w:World) (h0:l ≠ []) (hbk:w.heap[b]? = some (.cells #[p,.slice (some ⟨g,0,none⟩) l.length cap] 235 (0,0)))
  (hg:w.heap[g]? = some (.cells cur 5 (0,0))) (hnc:l.length≤cap) (hcm:cap≤maxLen) (hcs:cur.size=cap * 1) (htake:cur.toList.take (l.length * 1)=Lib.byteCells l) :
  Calls Tryz.prog 166 #[.pointer (some ⟨b,0,none⟩)] w fun e w'=>e = .returned (.string ⟨l.toArray⟩)∧w'=w.drew.freeze ⟨g,0,none⟩ l.length:=by
 have hl0:l.length≠0:=by simpa using h0
 have hown:w.ownsRow 0 5 1 (.slice (some ⟨g,0,none⟩) l.length cap) l.length (Lib.byteCells l):=⟨by rw [Lib.byteCells_length,Nat.mul_one],.inr ⟨g,cap,cur,rfl,Nat.zero_le _,hg,hnc,hcm,hcs,htake⟩⟩
 have c1:w.drew.cell? ⟨b,1,none⟩=some (.slice (some ⟨g,0,none⟩) l.length cap):=by
  have:w.drew.heap[b]? = some (.cells #[p,.slice (some ⟨g,0,none⟩) l.length cap] 235 (0,0)):=hbk
  rw [Lib.cell_of_heap this];all_goals rfl
 have hSD:(Builtin.unsafeSliceData_ #[233] 311 #[.slice (some ⟨g,0,none⟩) l.length cap]).run Tryz.prog w.drew = .ok (.pointer (some ⟨g,0,none⟩)) w.drew:=
  Lib.run_unsafeSliceData_row _ _ _ _ _ _ (by omega)
 have hUS:(Builtin.unsafeString_ #[311,3] 9 #[.pointer (some ⟨g,0,none⟩),.int .i64 l.length]).run Tryz.prog w.drew = .ok (.string ⟨l.toArray⟩) (w.drew.freeze ⟨g,0,none⟩ l.length):=by
  refine Lib.run_unsafeString_row w.drew 311 3 9 5 Tryz.underlying311 (by kernel_rfl) g cur.size (by have hg':w.drew.heap[g]? = some (.cells cur 5 (0,0)):=hg;simp [World.shape?,hg']) l h0 (by omega) (by unfold maxLen at hcm;omega) ?_
  intro j x hx
  have:=hown.cells (g:=g) rfl j (.int .u8 x.toNat) (by simp [Lib.byteCells,hx])
  exact this
 clear hown htake hcs hg
 have mixed:=mo
 go_enter Tryz.func166,Tryz.ntmps166
 go_wp2
 go_region_o
 all_goals (go_wp2;go_ret;exact ⟨rfl,rfl⟩)
end Go.Proofs.YtbfdbhechmhpoaaGreat
set_option maxRecDepth 100000
namespace Go.Proofs.YtbfdbhechmhpoaaGreat
open Go Go.RowKit Dv Tryz
def bD (l:List UInt8):List (List DV):=l.map fun c=>[DV.v (.int .u8 c.toNat)]
theorem bD_len (l:List UInt8):(bD l).length=l.length:=by simp [bD]
theorem bD_rvc {E:En}:∀ l:List UInt8,RvC E (bD l).flatten (Lib.byteCells l)
 | []=>⟨rvL_nil _,by simp [Lib.byteCells]⟩
 | c :: r=>by
  obtain ⟨h1,h2⟩:=bD_rvc (E:=E) r
  refine ⟨?_,fun v hv=>?_⟩
  ·simp only [bD,List.map_cons,List.flatten_cons,List.cons_append,List.nil_append,Lib.byteCells]
   exact rvL_cons (by unfold Rv;exact ⟨rfl,rfl⟩) h1
  ·simp only [Lib.byteCells,List.map_cons,List.mem_cons] at hv
   rcases hv with rfl | hv
   ·rfl
   ·exact h2 v hv
theorem bD_vals {E:En}:∀ {l:List UInt8} {arr:List Value},RvL E (bD l).flatten arr→arr=Lib.byteCells l
 | [],arr,h=>by simpa [bD,RvL,Lib.byteCells] using h
 | c :: r,arr,h=>by
  simp only [bD,List.map_cons,List.flatten_cons,List.cons_append,List.nil_append,RvL] at h
  obtain ⟨v,s,rfl,h1,h2⟩:=h
  unfold Rv at h1
  rw [h1.1,bD_vals (l:=r) h2]
  rfl
theorem strCells_eq (s:ByteArray):Lib.strCells s=Lib.byteCells s.data.toList:=rfl
theorem row_of {X:Ctx} {E:En} {st:St} {a:Act} {w:World} (h:Rel X E st a w) {kt:Nat} {l:List UInt8} {cv:Value} (hl:l ≠ []) (htk:st.tk[kt]? = some ⟨l.length,5,1,none⟩) (hv:Rv E (.sl 1 (bD l) (some kt)) cv) :
  ∃ g cap cur,cv = .slice (some ⟨g,0,none⟩) l.length cap∧w.heap[g]? = some (.cells cur 5 (0,0))∧l.length≤cap∧cap≤maxLen∧cur.size=cap * 1∧cur.toList.take (l.length * 1)=Lib.byteCells l∧g ∉ E.β∧E.τ[kt]? = some cv:=by
 have hne:bD l ≠ []:=by
  intro hc
  have:=bD_len l
  rw [hc] at this
  exact hl (List.eq_nil_of_length_eq_zero this.symm)
 have hpos:0 < l.length:=List.length_pos_iff.2 hl
 unfold Rv at hv
 obtain ⟨bs,ns,caps,rfl,⟨rfl,hsc⟩,hsr,hstk⟩:=hv
 rw [bD_len] at hsc
 obtain ⟨q,hq,_,hτ⟩:=hstk kt rfl
 rw [h.tk,htk] at hq
 simp only [Option.some.injEq] at hq
 subst hq
 have hy:=hτ (bD_len l)
 rcases h.env.tks kt _ _ (by rw [h.tk];exact htk) hy with ⟨hv0,hn0⟩ | ⟨g,cap,cur,hv0,hw0,hs0,hnc,hcm,hb0,hc0⟩
 ·simp only at hn0;omega
 ·injection hv0 with i1 i2 i3
  subst i1 i3
  refine ⟨g,caps,cur,by rw [bD_len],hw0,hnc,hcm,hs0.1,?_,hb0,by rw [hy]⟩
  obtain ⟨_,hess⟩:=hsr hne
  obtain ⟨arr0,hb1,hb2,hb3⟩:=hess.vals
  have ha:=bD_vals hb1.1
  subst ha
  apply List.ext_getElem?
  intro j
  rw [bD_len] at hb2
  rcases Nat.lt_or_ge j (Lib.byteCells l).length with hj | hj
  ·have h5:=h.env.sub _ _ (hb3 j _ (List.getElem?_eq_getElem hj))
   simp only [ab,ao,Nat.zero_add] at h5
   rw [cell_blk hw0] at h5
   rw [List.getElem?_take,if_pos (by omega),List.getElem?_eq_getElem hj]
   simpa using h5
  ·rw [List.getElem?_eq_none (l:=Lib.byteCells l) hj,List.getElem?_take,if_neg (by omega)]
theorem call_bw {X:Ctx} {st:St} {k:List It} (hP:X.P=Tryz.prog) {i kt d:Nat} {p c:DV} {l:List UInt8} {s:ByteArray} {tk':List TkE} (hbt:(i,235)∈X.bt) (hbx:st.bx[i]? = some [p,c])
  (hp:p = .v (.pointer none)∨p = .loc i 0)
  (hc:(c = .v (.slice none 0 0)∧l=[]∧kt=st.tk.length∧tk'=st.tk ++ [⟨s.size,5,1,none⟩])∨(c = .sl 1 (bD l) (some kt)∧l ≠ []∧st.tk[kt]? = some ⟨l.length,5,1,none⟩∧tk'=st.tk.set kt ⟨l.length + s.size,5,1,none⟩))
  (hs:0 < s.size) (hlen:l.length + s.size≤140737488355328) (hd:okD X.nt st.sl (some d)=true)
  (hk:go X 4000 k ⟨(d,⟨[],.tup [.v (.int .i64 s.size),.v .nilIface]⟩) :: st.sl,st.bx.set i [.loc i 0,.sl 1 (bD (l ++ s.data.toList)) (some kt)],tk'⟩)
  (hst:X.still=false:=by exact rfl):CallG X 164 [.loc i 0,.v (.string s)] (some d) k st:=by
 refine ⟨?_,hst,fun E a w vs h hv=>?_⟩
 ·rw [hP];exact en164
 rw [hP]
 simp only [RvL] at hv
 obtain ⟨v1,vr,rfl,h1,v2,vr2,rfl,h2,rfl⟩:=hv
 have h2:=rv_v_eq h2
 subst h2
 unfold Rv at h1
 obtain ⟨b,hb,rfl⟩:=h1
 obtain ⟨b',ty,arr,hb',hw,hcc⟩:=h.env.bxs i _ hbx
 rw [hb] at hb'
 simp only [Option.some.injEq] at hb'
 subst hb'
 obtain ⟨cs0,hcs0⟩:=h.bt _ hbt b hb
 rw [hw] at hcs0
 simp only [Option.some.injEq,Obj.cells.injEq] at hcs0
 have hty:ty=235:=hcs0.2.1
 subst hty
 obtain ⟨hr,ho⟩:=hcc
 simp only [RvL] at hr
 obtain ⟨pv,r1,rfl,hpv,cv,r2,rfl,hcv,rfl⟩:=hr
 have hpv':pv = .pointer none∨pv = .pointer (some ⟨b,0,none⟩):=by
  rcases hp with rfl | rfl
  ·exact .inl (rv_v_eq hpv)
  ·unfold Rv at hpv
   obtain ⟨b2,hb2,rfl⟩:=hpv
   rw [hb] at hb2
   simp only [Option.some.injEq] at hb2
   subst hb2
   exact .inr rfl
 have hbm:b∈E.β:=List.mem_of_getElem? hb
 have hlen':st.tk.length=E.tk.length:=by rw [h.tk]
 have key:∃ xs:List Value,xs=Lib.byteCells l∧w.ownsRow 0 5 1 cv l.length xs∧cv.ownBlock≠some b ∧
   ((∃ q,E.tk[kt]? = some q∧E.τ[kt]? = some cv∧q.n=l.length∧q.ty=5∧q.e=1∧q.own=none)∨(E.tk[kt]? = none∧E.τ[kt]? = none∧cv = .slice none 0 0∧l.length=0)) ∧
   tk'[kt]? = some ⟨l.length + s.size,5,1,none⟩∧(∀ j,j≠kt→tk'[j]? = E.tk[j]?)∧(∀ y:Value,∃ τ':List Value,τ'[kt]? = some y∧τ'.length=tk'.length∧∀ j,j≠kt→τ'[j]? = E.τ[j]?):=by
  rcases hc with ⟨rfl,rfl,rfl,rfl⟩ | ⟨rfl,hl,htk,rfl⟩
  ·have:=rv_v_eq hcv
   subst this
   refine ⟨_,rfl,⟨rfl,.inl ⟨rfl,rfl⟩⟩,by simp [Value.ownBlock],.inr ⟨?_,?_,rfl,rfl⟩,?_,?_,?_⟩
   ·rw [hlen'];simp
   ·rw [hlen',← h.env.tl];simp
   ·simp
   ·intro j hj
    rw [h.tk]
    rcases Nat.lt_or_ge j st.tk.length with h1 | h1
    ·rw [List.getElem?_append_left h1]
    ·rw [List.getElem?_eq_none (l:=st.tk) h1]
     exact List.getElem?_eq_none (by simp;omega)
   ·intro y
    refine ⟨E.τ ++ [y],?_,by simp [h.env.tl,h.tk],fun j hj=>?_⟩
    ·rw [hlen',← h.env.tl];simp
    ·rcases Nat.lt_or_ge j E.τ.length with h1 | h1
     ·rw [List.getElem?_append_left h1]
     ·rw [List.getElem?_eq_none (l:=E.τ) h1]
      have:=h.env.tl
      exact List.getElem?_eq_none (by simp;omega)
  ·obtain ⟨g,cap,cur,rfl,hg,hnc,hcm,hcs,htake,hgb,hτ⟩:=row_of h hl htk hcv
   have hkl:=(List.getElem?_eq_some_iff.1 htk).1
   refine ⟨_,rfl,⟨by rw [Lib.byteCells_length,Nat.mul_one],.inr ⟨g,cap,cur,rfl,Nat.zero_le _,hg,hnc,hcm,hcs,htake⟩⟩,?_,.inl ⟨_,by rw [h.tk];exact htk,hτ,rfl,rfl,rfl,rfl⟩,?_,?_,?_⟩
   ·intro he
    simp only [Value.ownBlock,Option.some.injEq] at he
    exact hgb (he ▸ hbm)
   ·rw [List.getElem?_set_self hkl]
   ·intro j hj
    rw [List.getElem?_set_ne (Ne.symm hj),h.tk]
   ·intro y
    refine ⟨E.τ.set kt y,?_,by simp [h.env.tl,h.tk],fun j hj=>List.getElem?_set_ne (Ne.symm hj)⟩
    rw [List.getElem?_set_self]
    rw [h.env.tl,← hlen'];exact hkl
 obtain ⟨xs,rfl,hown,hne,hkk,htk1,htk2,hτ⟩:=key
 refine (bw_mem b pv cv l.length (Lib.byteCells l) s w hpv' hw hown hne hs hlen).mono ?_
 rintro e w' ⟨rfl,g,cap,w2,hown2,hgrow,hdi,rfl⟩
 obtain ⟨τ',hτ1,hτ2,hτ3⟩:=hτ (.slice (some ⟨g,0,none⟩) (l.length + s.size) cap)
 have hself:Rv E (.loc i 0) (.pointer (some ⟨b,0,none⟩)):=by unfold Rv;exact ⟨b,hb,rfl⟩
 have r1:Rel X E ⟨st.sl,st.bx.set i [.loc i 0,c],st.tk⟩ a (bldW w b cv):=
  store_rel h hst hb (cs':=[.loc i 0,c]) (arr':=[.pointer (some ⟨b,0,none⟩),cv]) ⟨rvL_cons hself (rvL_one hcv),by
   intro v hv
   simp only [List.mem_cons,List.not_mem_nil,or_false] at hv
   rcases hv with rfl | rfl
   ·rfl
   ·exact ho v (by simp)⟩ ⟨_,hw⟩
 obtain ⟨r2,hext,hcell⟩:=grow_rel r1 hst hkk hs (by omega) htk1 hτ1 hτ2 htk2 hτ3 (own_set hown hne) hown2 hgrow hdi
 have hb2:(bldW w b cv).heap[b]? = some (.cells #[.pointer (some ⟨b,0,none⟩),cv] 235 (0,0)):=setBlk_same hw
 have hb3:w2.heap[b]? = some (.cells #[.pointer (some ⟨b,0,none⟩),cv] 235 (0,0)):=by
  rw [hgrow.block b (lt_of_blk hb2) (fun e=>hne e.symm)]
  exact hb2
 have hslice:Rv (⟨addC E.c w2 g ((l.length + s.size) * 1),E.β,tk',τ'⟩:En) (.sl 1 (bD (l ++ s.data.toList)) (some kt)) (.slice (some ⟨g,0,none⟩) (l.length + s.size) cap):=by
  have hsl:s.data.toList.length=s.size:=by rw [Array.length_toList];all_goals rfl
  unfold Rv
  refine ⟨_,_,_,rfl,⟨by rw [bD_len,List.length_append,hsl],?_⟩,fun _=>⟨rfl,?_⟩,?_⟩
  ·rcases hown2.2 with ⟨hv,_⟩ | ⟨_,_,_,hv,_,_,hnc,_⟩
   ·cases hv
   ·injection hv with _ _ i3
    omega
  ·refine rvEs_flat (arr:=Lib.byteCells (l ++ s.data.toList)) (bD_rvc _) (fun cs hcm=>?_) fun j u hj=>?_
   ·simp only [bD,List.mem_map] at hcm
    obtain ⟨x,_,rfl⟩:=hcm
    rfl
   ·simp only [ab,ao,Nat.zero_add]
    refine hcell j u ?_
    rw [strCells_eq]
    simpa [Lib.byteCells] using hj
  ·intro k' hk'
   cases hk'
   exact ⟨_,htk1,Nat.le_refl _,fun _=>hτ1⟩
 have r3:=store_rel r2 hst (i:=i) (b:=b) hb (cs':=[.loc i 0,.sl 1 (bD (l ++ s.data.toList)) (some kt)]) (arr':=[.pointer (some ⟨b,0,none⟩),.slice (some ⟨g,0,none⟩) (l.length + s.size) cap])
  ⟨rvL_cons (by unfold Rv;exact ⟨b,hb,rfl⟩) (rvL_one hslice),by
   intro v hv
   simp only [List.mem_cons,List.not_mem_nil,or_false] at hv
   rcases hv with rfl | rfl<;>rfl⟩ ⟨_,hb3⟩
 simp only [List.set_set] at r3
 exact go_sound 4000 _ _ hk _ _ _ (put_rel r3 hd (.tup [.v (.int .i64 s.size),.v .nilIface]) _ (by unfold Rv;exact ⟨_,rfl,rvL_cons (by unfold Rv;exact ⟨rfl,rfl⟩) (rvL_one (by unfold Rv;exact ⟨rfl,rfl⟩))⟩))
theorem call_bwl {X:Ctx} {st:St} {k:List It} (hP:X.P=Tryz.prog) {i kt d:Nat} {p c:DV} {l:List UInt8} {s:ByteArray} {tk':List TkE} (l':List UInt8) (hl':l'=l ++ s.data.toList) (hbt:(i,235)∈X.bt) (hbx:st.bx[i]? = some [p,c])
  (hp:p = .v (.pointer none)∨p = .loc i 0)
  (hc:(c = .v (.slice none 0 0)∧l=[]∧kt=st.tk.length∧tk'=st.tk ++ [⟨l'.length,5,1,none⟩])∨(c = .sl 1 (bD l) (some kt)∧l ≠ []∧st.tk[kt]? = some ⟨l.length,5,1,none⟩∧tk'=st.tk.set kt ⟨l'.length,5,1,none⟩))
  (hs:0 < s.size) (hlen:l'.length≤140737488355328) (hd:okD X.nt st.sl (some d)=true)
  (hk:go X 4000 k ⟨(d,⟨[],.tup [.v (.int .i64 s.size),.v .nilIface]⟩) :: st.sl,st.bx.set i [.loc i 0,.sl 1 (bD l') (some kt)],tk'⟩)
  (hst:X.still=false:=by exact rfl):CallG X 164 [.loc i 0,.v (.string s)] (some d) k st:=by
 have hn:l'.length=l.length + s.size:=by rw [hl',List.length_append,Array.length_toList];all_goals rfl
 subst hl'
 refine call_bw hP hbt hbx hp ?_ hs (by omega) hd hk hst
 rcases hc with ⟨h1,h2,h3,h4⟩ | ⟨h1,h2,h3,h4⟩
 ·refine .inl ⟨h1,h2,h3,?_⟩
  rw [h4,hn,h2]
  simp
 ·exact .inr ⟨h1,h2,h3,by rw [h4,hn]⟩
theorem freeze_cell {w:World} {g n:Nat} (x:Addr):(w.freeze ⟨g,0,none⟩ n).cell? x=w.cell? x:=by
 unfold World.freeze
 split
 ·rfl
 ·simp only [World.cell?,Array.getElem?_modify]
  by_cases hg:g=x.block
  ·subst hg
   simp only [if_true]
   cases w.heap[x.block]? with
   | none=>rfl
   | some o=>
    cases o with
    | cells c e z=>simp only [Option.map_some]
    | _=>simp
  ·simp [hg]
theorem freeze_other {w:World} {g n k:Nat} (h:k≠g):(w.freeze ⟨g,0,none⟩ n).heap[k]? = w.heap[k]?:=by
 unfold World.freeze
 split
 ·rfl
 ·simp only [Array.getElem?_modify]
  rw [if_neg (Ne.symm h)]
theorem freeze_keeps {w:World} {g n:Nat}:(w.freeze ⟨g,0,none⟩ n).os=w.os∧(w.freeze ⟨g,0,none⟩ n).tape=w.tape∧(w.freeze ⟨g,0,none⟩ n).output=w.output∧(w.freeze ⟨g,0,none⟩ n).heap.size=w.heap.size:=by
 unfold World.freeze
 split
 ·exact ⟨rfl,rfl,rfl,rfl⟩
 ·exact ⟨rfl,rfl,rfl,by simp⟩
theorem call_bs {X:Ctx} {st:St} {k:List It} (hP:X.P=Tryz.prog) {i kt d:Nat} {p:DV} {l:List UInt8} (hbt:(i,235)∈X.bt) (hbx:st.bx[i]? = some [p,.sl 1 (bD l) (some kt)])
  (hl:l ≠ []) (htk:st.tk[kt]? = some ⟨l.length,5,1,none⟩) (hn0:X.n0=0) (hm0:X.m0=0) (hd:okD X.nt st.sl (some d)=true)
  (hk:go X 4000 k ⟨[(d,⟨[],.v (.string ⟨l.toArray⟩)⟩)],[],[]⟩) (hst:X.still=false:=by exact rfl):CallG X 166 [.loc i 0] (some d) k st:=by
 refine ⟨?_,hst,fun E a w vs h hv=>?_⟩
 ·rw [hP];exact en166
 rw [hP]
 simp only [RvL] at hv
 obtain ⟨v1,vr,rfl,h1,rfl⟩:=hv
 unfold Rv at h1
 obtain ⟨b,hb,rfl⟩:=h1
 obtain ⟨b',ty,arr,hb',hw,hcc⟩:=h.env.bxs i _ hbx
 rw [hb] at hb'
 simp only [Option.some.injEq] at hb'
 subst hb'
 obtain ⟨cs0,hcs0⟩:=h.bt _ hbt b hb
 rw [hw] at hcs0
 simp only [Option.some.injEq,Obj.cells.injEq] at hcs0
 have hty:ty=235:=hcs0.2.1
 subst hty
 obtain ⟨hr,ho⟩:=hcc
 simp only [RvL] at hr
 obtain ⟨pv,r1,rfl,hpv,cv,r2,rfl,hcv,rfl⟩:=hr
 obtain ⟨g,cap,cur,rfl,hg,hnc,hcm,hcs,htake,hgb,hτ⟩:=row_of h hl htk hcv
 refine (bs_mem b g cap pv l cur w hl hw hg hnc hcm hcs htake).mono ?_
 rintro e w' ⟨rfl,rfl⟩
 obtain ⟨k1,k2,k3,k4⟩:=freeze_keeps (w:=w.drew) (g:=g) (n:=l.length)
 have hE0:X.E0.β=[]:=List.eq_nil_of_length_eq_zero (by rw [X.hn0,hn0])
 have hT0:X.E0.tk=[]:=List.eq_nil_of_length_eq_zero (by rw [X.hm0,hm0])
 have hg0:X.w0.heap.size≤g:=h.nw.tn kt _ g (by rw [hT0];exact Nat.zero_le _) hτ rfl
 let E':En:=⟨E.c,[],[],[]⟩
 have hrel:Rel X E' ⟨[],[],[]⟩ a (w.drew.freeze ⟨g,0,none⟩ l.length):={
  env:={
   len:=rfl
   tl:=rfl
   bxs:=by simp
   inj:=List.nodup_nil
   sub:=fun x v hx=>by rw [freeze_cell];exact h.env.sub x v hx
   pc:=by simp [E']
   tks:=by simp [E']
   tkd:=by simp [E'] }
  tk:=rfl
  sz:=h.sz
  tm:=fun i x hx=>by cases hx
  df:=h.df
  nw:={
   c:=fun x v hx=>h.nw.c x v hx
   cn:=fun x v hx=>h.nw.cn x v hx
   β:=⟨[],by rw [hE0];rfl,by simp⟩
   tk:=fun k q y hq _=>by rw [hT0] at hq;simp at hq
   tn:=fun k y g' _ hy _=>by simp [E'] at hy
   l0:=h.nw.l0 }
  fr:=h.fr.trans_keep k1 k2 k3 (by rw [k4];exact Nat.le_refl _) fun j hj=>by
   by_cases hjg:j=g
   ·left;exact .inr (hjg ▸ hg0)
   ·right;exact freeze_other hjg
  sh:=noSt hst
  bt:=fun p hp b hb=>by simp [E'] at hb }
 have hd':okD X.nt ([]:List (Nat × Sl)) (some d)=true:=by
  simp only [okD,Bool.and_eq_true] at hd ⊢
  exact ⟨hd.1,rfl⟩
 exact go_sound 4000 _ _ hk _ _ _ (put_rel (st:=⟨[],[],[]⟩) hrel hd' (.v (.string ⟨l.toArray⟩)) _ (by unfold Rv;exact ⟨rfl,rfl⟩))
end Go.Proofs.YtbfdbhechmhpoaaGreat
set_option maxRecDepth 100000
namespace Go.Proofs.YtbfdbhechmhpoaaGreat
open Go Go.RowKit Dv Tryz
theorem bs_mem0 (b:Nat) (p:Value) (w:World) (hbk:w.heap[b]? = some (.cells #[p,.slice none 0 0] 235 (0,0))) :
  Calls Tryz.prog 166 #[.pointer (some ⟨b,0,none⟩)] w fun e w'=>e = .returned (.string ⟨#[]⟩)∧w'=w.drew:=by
 have c1:w.drew.cell? ⟨b,1,none⟩=some (.slice none 0 0):=by
  have:w.drew.heap[b]? = some (.cells #[p,.slice none 0 0] 235 (0,0)):=hbk
  rw [Lib.cell_of_heap this];all_goals rfl
 have hSD:(Builtin.unsafeSliceData_ #[233] 311 #[.slice none 0 0]).run Tryz.prog w.drew = .ok (.pointer none) w.drew:=
  Lib.run_unsafeSliceData_nil _ _ _ _ _
 have hUS:(Builtin.unsafeString_ #[311,3] 9 #[.pointer none,.int .i64 0]).run Tryz.prog w.drew = .ok (.string ⟨#[]⟩) w.drew:=
  Lib.run_unsafeString_none w.drew 311 3 9 none
 have mixed:=mo
 go_enter Tryz.func166,Tryz.ntmps166
 go_wp2
 go_region_o
 all_goals (go_wp2;go_ret;exact ⟨rfl,rfl⟩)
theorem call_bs0 {X:Ctx} {st:St} {k:List It} (hP:X.P=Tryz.prog) {i d:Nat} {p:DV} (hbt:(i,235)∈X.bt) (hbx:st.bx[i]? = some [p,.v (.slice none 0 0)])
  (hn0:X.n0=0) (hm0:X.m0=0) (hd:okD X.nt st.sl (some d)=true)
  (hk:go X 4000 k ⟨[(d,⟨[],.v (.string ⟨#[]⟩)⟩)],[],[]⟩) (hst:X.still=false:=by exact rfl):CallG X 166 [.loc i 0] (some d) k st:=by
 refine ⟨?_,hst,fun E a w vs h hv=>?_⟩
 ·rw [hP];exact en166
 rw [hP]
 simp only [RvL] at hv
 obtain ⟨v1,vr,rfl,h1,rfl⟩:=hv
 unfold Rv at h1
 obtain ⟨b,hb,rfl⟩:=h1
 obtain ⟨b',ty,arr,hb',hw,hcc⟩:=h.env.bxs i _ hbx
 rw [hb] at hb'
 simp only [Option.some.injEq] at hb'
 subst hb'
 obtain ⟨cs0,hcs0⟩:=h.bt _ hbt b hb
 rw [hw] at hcs0
 simp only [Option.some.injEq,Obj.cells.injEq] at hcs0
 have hty:ty=235:=hcs0.2.1
 subst hty
 obtain ⟨hr,ho⟩:=hcc
 simp only [RvL] at hr
 obtain ⟨pv,r1,rfl,hpv,cv,r2,rfl,hcv,rfl⟩:=hr
 unfold Rv at hcv
 obtain ⟨rfl,_⟩:=hcv
 refine (bs_mem0 b pv w hw).mono ?_
 rintro e w' ⟨rfl,rfl⟩
 have hE0:X.E0.β=[]:=List.eq_nil_of_length_eq_zero (by rw [X.hn0,hn0])
 have hT0:X.E0.tk=[]:=List.eq_nil_of_length_eq_zero (by rw [X.hm0,hm0])
 let E':En:=⟨E.c,[],[],[]⟩
 have hrel:Rel X E' ⟨[],[],[]⟩ a w.drew:={
  env:={
   len:=rfl
   tl:=rfl
   bxs:=by simp
   inj:=List.nodup_nil
   sub:=fun x v hx=>h.env.sub x v hx
   pc:=by simp [E']
   tks:=by simp [E']
   tkd:=by simp [E'] }
  tk:=rfl
  sz:=h.sz
  tm:=fun i x hx=>by cases hx
  df:=h.df
  nw:={
   c:=fun x v hx=>h.nw.c x v hx
   cn:=fun x v hx=>h.nw.cn x v hx
   β:=⟨[],by rw [hE0];rfl,by simp⟩
   tk:=fun k q y hq _=>by rw [hT0] at hq;simp at hq
   tn:=fun k y g' _ hy _=>by simp [E'] at hy
   l0:=h.nw.l0 }
  fr:=h.fr.trans_keep rfl rfl rfl (Nat.le_refl _) fun j hj=>Or.inr rfl
  sh:=noSt hst
  bt:=fun p hp b hb=>by simp [E'] at hb }
 have hd':okD X.nt ([]:List (Nat × Sl)) (some d)=true:=by
  simp only [okD,Bool.and_eq_true] at hd ⊢
  exact ⟨hd.1,rfl⟩
 exact go_sound 4000 _ _ hk _ _ _ (put_rel (st:=⟨[],[],[]⟩) hrel hd' (.v (.string ⟨#[]⟩)) _ (by unfold Rv;exact ⟨rfl,rfl⟩))
end Go.Proofs.YtbfdbhechmhpoaaGreat
set_option maxRecDepth 100000
namespace Go.Proofs.YtbfdbhechmhpoaaGreat
open Go Go.RowKit Dv Tryz
def stepT (s:Stp):List UInt8:=if s.k=1 then 46 :: tx s.s else if s.k=2 then 91 :: (putL s.n ++ [93]) else if s.k=3 then [91,93] else if s.k=4 then [63] else 33 :: tx s.s
def pathT (l:List Stp):List UInt8:=if rightP l=true then (l.map stepT).flatten else []
def StpI (s:Stp):Prop:=(-9223372036854775808≤s.n∧s.n≤9223372036854775807)∧s.s.size≤1099511627776
theorem stepT_ne (s:Stp):stepT s ≠ []:=by
 unfold stepT
 repeat' split
 all_goals simp
theorem nameOK_sz {s:ByteArray} (h:nameOK s=true):s.size≤32:=by
 unfold nameOK at h
 simp only [Bool.and_eq_true,decide_eq_true_eq] at h
 exact h.2.1
theorem stepT_len {s:Stp} (hi:StpI s) (h:rightS s=true):(stepT s).length≤33:=by
 have hp:=putL_len hi.1.1 hi.1.2
 unfold rightS at h
 unfold stepT
 by_cases h1:s.k=1
 ·rw [if_pos h1]
  rw [if_pos (.inl h1)] at h
  simp only [Bool.and_eq_true] at h
  have:=nameOK_sz h.2
  simp only [List.length_cons,tx_len];omega
 ·rw [if_neg h1]
  by_cases h2:s.k=2
  ·rw [if_pos h2]
   simp only [List.length_cons,List.length_append,List.length_nil];omega
  ·rw [if_neg h2]
   by_cases h3:s.k=3
   ·rw [if_pos h3];simp
   ·rw [if_neg h3]
    by_cases h4:s.k=4
    ·rw [if_pos h4];simp
    ·rw [if_neg h4]
     by_cases h5:s.k=5
     ·rw [if_pos (.inr h5)] at h
      simp only [Bool.and_eq_true] at h
      have:=nameOK_sz h.2
      simp only [List.length_cons,tx_len];omega
     ·rw [if_neg (by omega),if_neg h2,if_neg (by omega)] at h
      cases h
theorem stpsT_len:∀ {l:List Stp},(∀ s∈l,StpI s)→l.all rightS=true→((l.map stepT).flatten).length≤33 * l.length
 | [],_,_=>by simp
 | s :: r,hi,h=>by
  simp only [List.all_cons,Bool.and_eq_true] at h
  have h1:=stepT_len (hi s (by simp)) h.1
  have h2:=stpsT_len (l:=r) (fun x hx=>hi x (by simp [hx])) h.2
  simp only [List.map_cons,List.flatten_cons,List.length_append,List.length_cons]
  omega
theorem ptext_spec (s:Stp) (hi:StpI s):EvP Tryz.prog 233 [.agg (dStp s)] (.v (.string (ba (stepT s)))):=by
 have hp:=put_spec s.n hi.1.1 hi.1.2
 have hpl:=putD_size hi.1.1 hi.1.2
 obtain ⟨k,n,t⟩:=s
 have hs:=hi.2
 simp only at hs hp hpl
 have hF:stepT ⟨k,n,t⟩=if k=1 then 46 :: tx t else if k=2 then 91 :: (putL n ++ [93]) else if k=3 then [91,93] else if k=4 then [63] else 33 :: tx t:=rfl
 generalize stepT ⟨k,n,t⟩=F at hF ⊢
 refine ev_go (P:=Tryz.prog) tt tt_ok 5000 24 [.tmp 2] Tryz.func233 rfl Tryz.ntmps233 rfl (Nat.le_of_ble_eq_true rfl) (fun E9 w9 hn9 hm9=>?_)
 refine br (fun c=>?_) (fun c=>?_)
 ·have c:k=1:=by simpa using c
  rw [if_pos c] at hF
  subst hF
  refine ⟨by (simp only [sz_app,sz_ba,List.length_cons,List.length_nil];omega),?_⟩
  refine (congrArg (fun s=>DV.v (.string s)) (ba_ext ?_):_=_)
  simp [tx_app,tx_mk]
 have c1:¬ k=1:=by simpa using c
 rw [if_neg c1] at hF
 refine br (fun c=>?_) (fun c=>?_)
 ·have c:k=2:=by simpa using c
  rw [if_pos c] at hF
  subst hF
  refine call_p en280 (hp) ax rfl ?_
  refine ⟨by (simp only [sz_app,sz_ba,List.length_cons,List.length_nil];omega),?_⟩
  refine ⟨by (simp only [sz_app,sz_ba,List.length_cons,List.length_nil];omega),?_⟩
  refine (congrArg (fun s=>DV.v (.string s)) (ba_ext ?_):_=_)
  simp [tx_app,tx_mk,tx_putD]
 have c2:¬ k=2:=by simpa using c
 rw [if_neg c2] at hF
 refine br (fun c=>?_) (fun c=>?_)
 ·have c:k=3:=by simpa using c
  rw [if_pos c] at hF
  subst hF
  exact (rfl:_=_)
 have c3:¬ k=3:=by simpa using c
 rw [if_neg c3] at hF
 refine br (fun c=>?_) (fun c=>?_)
 ·have c:k=4:=by simpa using c
  rw [if_pos c] at hF
  subst hF
  exact (rfl:_=_)
 have c4:¬ k=4:=by simpa using c
 rw [if_neg c4] at hF
 subst hF
 refine ⟨by (simp only [sz_app,sz_ba,List.length_cons,List.length_nil];omega),?_⟩
 refine (congrArg (fun s=>DV.v (.string s)) (ba_ext ?_):_=_)
 simp [tx_app,tx_mk]
def pathP (l:List Stp) (e:Nat):List UInt8:=((l.take e).map stepT).flatten
theorem pathP_succ {l:List Stp} {e:Nat} {x:Stp} (h:l[e]? = some x):pathP l (e + 1)=pathP l e ++ stepT x:=by
 unfold pathP
 rw [List.take_add_one,h]
 simp
theorem pathP_len {l:List Stp} (hi:∀ s∈l,StpI s) (hr:l.all rightS=true) (hl:l.length≤64) (e:Nat):(pathP l e).length≤2112:=by
 have h1:=stpsT_len (l:=l.take e) (fun s hs=>hi s (List.mem_of_mem_take hs)) (List.all_eq_true.2 fun s hs=>List.all_eq_true.1 hr s (List.mem_of_mem_take hs))
 have h2:(l.take e).length≤l.length:=by rw [List.length_take];omega
 unfold pathP
 omega
theorem pathT_right {l:List Stp} (h:rightP l=true):pathT l=pathP l l.length:=by unfold pathT pathP;rw [if_pos h,List.take_length]
theorem rightP_parts {l:List Stp} (h:rightP l=true):l.length≤64∧l.all rightS=true:=by
 unfold rightP at h
 simp only [Bool.and_eq_true,decide_eq_true_eq] at h
 exact h
abbrev fm0St (l:List Stp):St:=⟨[(3,⟨[],.loc 0 0⟩),(9,⟨[],.sl 3 (dStps l) none⟩),(10,⟨[],.v (.int .i64 (dStps l).length)⟩),(11,⟨[],.v (.int .i64 (0:Nat))⟩)],[[.v (.pointer none),.v (.slice none 0 0)]],[]⟩
abbrev fmSt (l:List Stp) (T:List UInt8) (e:Nat):St:=⟨[(3,⟨[],.loc 0 0⟩),(9,⟨[],.sl 3 (dStps l) none⟩),(10,⟨[],.v (.int .i64 (dStps l).length)⟩),(11,⟨[],.v (.int .i64 e)⟩)],[[.loc 0 0,.sl 1 (bD T) (some 0)]],[⟨T.length,5,1,none⟩]⟩
theorem pfmt_spec (l:List Stp) (hi:∀ s∈l,StpI s):EvP Tryz.prog 163 [.sl 3 (dStps l) none] (.v (.string (ba (pathT l)))):=by
 have hright:=pright_spec l (fun s hs=>by have:=(hi s hs).2;omega)
 have hdl:=dStps_len l
 cases hR:rightP l with
 | false=>
  rw [hR] at hright
  have hF:pathT l=[]:=by unfold pathT;rw [hR];all_goals rfl
  rw [hF]
  refine evB_gob (s:=false) (bt:=[(0,235)]) (hbt:=fun p hp=>Nat.zero_le _) (P:=Tryz.prog) tt tt_ok 5000 20 [.tmp 2] Tryz.func163 rfl Tryz.ntmps163 rfl (Nat.le_of_ble_eq_true rfl) (fun E9 w9 hn9 hm9=>?_)
  refine call_p en173 (hright) ax rfl ?_
  exact (rfl:_=_)
 | true=>
 rw [hR] at hright
 obtain ⟨h64,hall⟩:=rightP_parts hR
 have hF:=pathT_right hR
 have hpl:=pathP_len hi hall h64
 rw [hF]
 refine evB_gob (s:=false) (bt:=[(0,235)]) (hbt:=fun p hp=>Nat.zero_le _) (P:=Tryz.prog) tt tt_ok 5000 20 [.tmp 2] Tryz.func163 rfl Tryz.ntmps163 rfl (Nat.le_of_ble_eq_true rfl) (fun E9 w9 hn9 hm9=>?_)
 refine call_p en173 (hright) ax rfl ?_
 refine loop_i (fun j st=>∃ e:Nat,((e=0∧st=fm0St l)∨(pathP l e ≠ []∧st=fmSt l (pathP l e) e))∧e≤l.length∧j=l.length - e) l.length (fm0St l) (weak_mk ⟨_,rfl⟩ wA rfl rfl rfl wB) ⟨0,.inl ⟨rfl,rfl⟩,by omega,by omega⟩ ?_
 rintro j st ⟨e,(⟨rfl,rfl⟩ | ⟨hT0,rfl⟩),he,rfl⟩
 ·refine br (fun hL=>?_) (fun hL=>?_)
  ·have hlt:0 < l.length:=by simpa [hdl] using hL
   obtain ⟨x,hx⟩:∃ x,l[0]? = some x:=⟨_,List.getElem?_eq_getElem hlt⟩
   have hxi:=hi x (List.mem_of_getElem? hx)
   have ht:=ptext_spec x hxi
   have hsn:=pathP_succ hx
   have hne:=stepT_ne x
   have hp0:pathP l 0=[]:=rfl
   rw [hp0,List.nil_append] at hsn
   have hl1:=hpl (0 + 1)
   rw [hsn] at hl1
   have hxl:0 < (stepT x).length:=List.length_pos_iff.2 hne
   obtain ⟨xk,xn,xs⟩:=x
   refine ⟨_,⟨by omega,dStps_get hx⟩,?_⟩
   refine call_p en233 (ht) ax rfl ?_
   refine call_bwl rfl (stepT ⟨xk,xn,xs⟩) (l:=[]) (kt:=0) (by simp [tx_ba]) (.head _) rfl (.inl rfl) (.inl ⟨rfl,rfl,rfl,rfl⟩) (by (simp only [sz_app,sz_ba,List.length_cons,List.length_nil];omega)) (by omega) rfl ?_
   refine ⟨fmSt l (stepT ⟨xk,xn,xs⟩) 1,(weak_mk ⟨_,rfl⟩ wA rfl rfl rfl (by repeat' (first | exact trivial | exact we_rfl rfl | exact we_int (nxt hlt (by omega)) | refine ⟨⟨_,rfl,?_⟩,?_⟩))),l.length - 1,by omega,1,.inr ⟨by rw [hsn];exact hne,by rw [hsn]⟩,by omega,rfl⟩
  ·have hge:l.length=0:=by have:=hL;simp [hdl] at this;first | omega | simp [this]
   rw [hge]
   refine call_bs0 rfl (.head _) rfl rfl rfl rfl ?_
   exact (rfl:_=_)
 ·refine br (fun hL=>?_) (fun hL=>?_)
  ·have hlt:e < l.length:=by simpa [hdl] using hL
   obtain ⟨x,hx⟩:∃ x,l[e]? = some x:=⟨_,List.getElem?_eq_getElem hlt⟩
   have hxi:=hi x (List.mem_of_getElem? hx)
   have ht:=ptext_spec x hxi
   have hsn:=pathP_succ hx
   have hne:=stepT_ne x
   have hl1:=hpl (e + 1)
   have hxl:0 < (stepT x).length:=List.length_pos_iff.2 hne
   obtain ⟨xk,xn,xs⟩:=x
   refine ⟨_,⟨by omega,dStps_get hx⟩,?_⟩
   refine call_p en233 (ht) ax rfl ?_
   refine call_bwl rfl (pathP l (e + 1)) (l:=pathP l e) (kt:=0) (by rw [hsn];all_goals simp [tx_ba]) (.head _) rfl (.inr rfl) (.inr ⟨rfl,hT0,rfl,rfl⟩) (by (simp only [sz_app,sz_ba,List.length_cons,List.length_nil];omega)) (by omega) rfl ?_
   refine ⟨fmSt l (pathP l (e + 1)) (e + 1),(weak_mk ⟨_,rfl⟩ wA rfl rfl rfl (by repeat' (first | exact trivial | exact we_rfl rfl | exact we_int (nxt hlt (by omega)) | refine ⟨⟨_,rfl,?_⟩,?_⟩))),l.length - (e + 1),by omega,e + 1,.inr ⟨by rw [hsn];simp [hne],rfl⟩,by omega,rfl⟩
  ·have hge:e=l.length:=by have:=hL;simp [hdl] at this;omega
   subst hge
   refine call_bs rfl (l:=pathP l l.length) (kt:=0) (.head _) rfl hT0 rfl rfl rfl rfl ?_
   exact (rfl:_=_)
end Go.Proofs.YtbfdbhechmhpoaaGreat
set_option maxRecDepth 100000
set_option maxHeartbeats 4000000
namespace Go.Proofs.YtbfdbhechmhpoaaGreat
open Go Go.RowKit Dv Tryz
theorem howF_le (f:Nat→Nat→Bool) (n obs:Nat) (d:Nd) (e:Ed) (a:Nat):howF f n obs d e a≤2:=by
 unfold howF
 repeat' split
 all_goals omega
section
variable (lv:List Wd) (f:Nat→Nat→Bool) (ND:List Nd) (z:Int) (hL:LatOK f lv.length) (hn:lv.length≤32) (hok:∀ n∈ND,NdOK lv.length ND.length n) (hsz:∀ n∈ND,n.edges.length≤1099511627776) (obs:Nat) (ho:obs < lv.length) (dep:Nat) (hdep:dep≤64)
include hL hn hok hsz ho hdep
end
end Go.Proofs.YtbfdbhechmhpoaaGreat
set_option maxRecDepth 100000
namespace Go.Proofs.YtbfdbhechmhpoaaGreat
open Go Go.RowKit Dv Tryz
def allV (ND:List Nd) (f:Nat→Nat→Bool) (n obs dep root:Nat):List Rw42:=rowsV ND f n obs dep dep ⟨[],root,botF f n,2⟩ 1000
section
variable (lv:List Wd) (f:Nat→Nat→Bool) (ND:List Nd) (root:Nat) (hroot:root < ND.length) (hL:LatOK f lv.length) (hn:lv.length≤32) (hok:∀ n∈ND,NdOK lv.length ND.length n) (hsz:∀ n∈ND,n.edges.length≤1099511627776) (obs:Nat) (ho:obs < lv.length)
include hroot hL hn hok hsz ho
def rowsA (ND:List Nd) (f:Nat→Nat→Bool) (n root:Nat) (o dp:Int):List Rw42:=if 0≤o∧o < n∧0≤dp then allV ND f n o.toNat (min dp 64).toNat root else []
omit ho in
end
end Go.Proofs.YtbfdbhechmhpoaaGreat
set_option maxRecDepth 100000
namespace Go.Proofs.YtbfdbhechmhpoaaGreat
open Go Go.RowKit Dv Tryz
end Go.Proofs.YtbfdbhechmhpoaaGreat
set_option maxRecDepth 100000
namespace Go.Proofs.YtbfdbhechmhpoaaGreat
open Go Go.RowKit Dv Tryz
section
variable {L:Nat} {ND:List Nd} (hok:∀ n∈ND,NdOK L ND.length n)
include hok
end
section
variable {L:Nat} {ND:List Nd} (hok:∀ n∈ND,NdOK L ND.length n)
include hok
end
end Go.Proofs.YtbfdbhechmhpoaaGreat
namespace Go.Proofs.YtbfdbhechmhpoaaGreat
namespace Dv
open Go Go.RowKit
mutual
def shD (m:Nat):DV→DV
 | .agg l=>.agg (shL m l)
 | .tup l=>.tup (shL m l)
 | .sl e es tk=>.sl e es (match tk with | some k=>some (m + k) | none=>none)
 | .fn f a b=>.fn f (shL m a) (shL m b)
 | .ifc t x=>.ifc t (shD m x)
 | .v x=>.v x
 | .ud=>.ud
 | .pt cs o=>.pt cs o
 | .loc i o=>.loc i o
 | .el i o=>.el i o
 | .ms i e o l c=>.ms i e o l c
def shL (m:Nat):List DV→List DV
 | []=>[]
 | d :: r=>shD m d :: shL m r
end
mutual
theorem shD_sound {m:Nat} {E2 E:En} (hβ:E2.β=[]) (hc:E.c=E2.c) (ht:∀ (k:Nat) q,E2.tk[k]? = some q→E.tk[m + k]? = some q∧E.τ[m + k]? = E2.τ[k]?):∀ {d:DV} {v:Value},Rv E2 d v→Rv E (shD m d) v
 | .v x,v,h=>by simpa only [Rv,shD] using h
 | .ud,v,h=>by simpa only [Rv,shD] using h
 | .agg l,v,h=>by
  simp only [Rv,shD] at h ⊢
  obtain ⟨vs,h1,h2,h3⟩:=h
  exact ⟨vs,h1,shL_sound hβ hc ht h2,h3⟩
 | .tup l,v,h=>by
  simp only [Rv,shD] at h ⊢
  obtain ⟨vs,h1,h2⟩:=h
  exact ⟨vs,h1,shL_sound hβ hc ht h2⟩
 | .sl e es tk,v,h=>by
  have he:E.cl=E2.cl:=by simp [En.cl,hc]
  simp only [Rv,shD] at h ⊢
  obtain ⟨b,n,cap,h1,h2,h3,h4⟩:=h
  refine ⟨b,n,cap,h1,h2,fun hn=>⟨(h3 hn).1,by rw [he];exact (h3 hn).2⟩,?_⟩
  intro k' hk'
  cases tk with
  | none=>cases hk'
  | some k=>
   simp only [Option.some.injEq] at hk'
   subst hk'
   obtain ⟨q,g1,g2,g3⟩:=h4 k rfl
   obtain ⟨g4,g5⟩:=ht k q g1
   exact ⟨q,g4,g2,fun hn=>by rw [g5];exact g3 hn⟩
 | .pt cs off,v,h=>by
  have he:E.cl=E2.cl:=by simp [En.cl,hc]
  simp only [Rv,shD] at h ⊢
  rw [he]
  exact h
 | .loc i off,v,h=>by
  simp only [Rv] at h
  obtain ⟨b,h1,_⟩:=h
  rw [hβ] at h1;simp at h1
 | .el i off,v,h=>by
  simp only [Rv] at h
  obtain ⟨b,h1,_⟩:=h
  rw [hβ] at h1;simp at h1
 | .ms i e off len cap,v,h=>by
  simp only [Rv] at h
  obtain ⟨b,_,h1,_⟩:=h
  rw [hβ] at h1;simp at h1
 | .fn f a b,v,h=>by
  simp only [Rv,shD] at h ⊢
  obtain ⟨l,r,h1,h2,h3⟩:=h
  exact ⟨l,r,h1,shL_sound hβ hc ht h2,shL_sound hβ hc ht h3⟩
 | .ifc t x,v,h=>by
  simp only [Rv,shD] at h ⊢
  obtain ⟨z,h1,h2⟩:=h
  exact ⟨z,h1,shD_sound hβ hc ht h2⟩
theorem shL_sound {m:Nat} {E2 E:En} (hβ:E2.β=[]) (hc:E.c=E2.c) (ht:∀ (k:Nat) q,E2.tk[k]? = some q→E.tk[m + k]? = some q∧E.τ[m + k]? = E2.τ[k]?):∀ {l:List DV} {vs:List Value},RvL E2 l vs→RvL E (shL m l) vs
 | [],vs,h=>by simpa only [RvL,shL] using h
 | d :: r,vs,h=>by
  simp only [RvL,shL] at h ⊢
  obtain ⟨v,s,h1,h2,h3⟩:=h
  exact ⟨v,s,h1,shD_sound hβ hc ht h2,shL_sound hβ hc ht h3⟩
end
section
variable {X:Ctx} {st:St} {k:List It} {E:En} {a:Act} {w:World}
theorem quiet_relF (h:Rel X E st a w) (hst:X.still=false) {E2:En} {w':World} (hm:Modd (E.cl).S w w') (he:Env E2 [] w') (hn:Nw E.cl E2 w):Rel X ⟨E2.c,E.β,E.tk ++ E2.tk,E.τ ++ E2.τ⟩ ⟨st.sl,st.bx,st.tk ++ E2.tk⟩ a w':=by
 have hq:=quiet_rel h hst hm he hn
 have hfr:∀ (j:Nat) y g,E2.τ[j]? = some y→y.ownBlock=some g→w.heap.size≤g:=fun j y g hy hg=>hn.tn j y g (Nat.zero_le _) hy hg
 have hold:∀ (k:Nat) y g,E.τ[k]? = some y→y.ownBlock=some g→g < w.heap.size:=fun k y g hy hg=>(h.env.own (List.mem_of_getElem? hy) hg).1
 have htl:E.τ.length=E.tk.length:=h.env.tl
 have hτ:∀ (k:Nat) y,(E.τ ++ E2.τ)[k]? = some y→(k < E.τ.length∧E.τ[k]? = some y)∨(E.τ.length≤k∧E2.τ[k - E.τ.length]? = some y):=fun k y hy=>by
  rw [List.getElem?_append] at hy
  split at hy
  ·rename_i hk;exact .inl ⟨hk,hy⟩
  ·rename_i hk;exact .inr ⟨by omega,hy⟩
 have hx:Ext ⟨E2.c,E.β,E.tk,E.τ⟩ ⟨E2.c,E.β,E.tk ++ E2.tk,E.τ ++ E2.τ⟩:=⟨fun _ _ h=>h,fun _ _ h=>h,fun j q hj=>by
  have hj:E.tk[j]? = some q:=hj
  have hlt:=(List.getElem?_eq_some_iff.1 hj).1
  refine ⟨q,by show (E.tk ++ _)[j]? = _;rw [List.getElem?_append_left hlt];exact hj,.inl ⟨rfl,?_⟩⟩
  show (E.τ ++ _)[j]? = _
  rw [List.getElem?_append_left (by rw [htl];exact hlt)]⟩
 refine rel_env hq hx ?_ (by show E.tk ++ _=_;rw [h.tk]) ?_ hq.fr (noSt hst) hq.bt
 ·exact {
   len:=h.env.len
   tl:=by show (E.τ ++ _).length=(E.tk ++ _).length;simp [htl,he.tl]
   bxs:=fun i cs hi=>by
    obtain ⟨b,t,arr,hb,hw,hc⟩:=hq.env.bxs i cs hi
    exact ⟨b,t,arr,hb,hw,hc.mono hx⟩
   inj:=h.env.inj
   sub:=he.sub
   pc:=hq.env.pc
   tks:=fun j q y hqj hy=>by
    have hqj:(E.tk ++ E2.tk)[j]? = some q:=hqj
    rcases hτ j y hy with ⟨hlt,hy'⟩ | ⟨hle,hy'⟩
    ·rw [List.getElem?_append_left (by rw [← htl];exact hlt)] at hqj
     exact hq.env.tks j q y hqj hy'
    ·rw [List.getElem?_append_right (by rw [← htl];exact hle),← htl] at hqj
     rcases he.tks _ q y hqj hy' with h1 | ⟨g,cap,cur,rfl,h1,h2,h3,h4,_,h6⟩
     ·exact .inl h1
     ·refine .inr ⟨g,cap,cur,rfl,h1,h2,h3,h4,fun hm'=>?_,h6⟩
      have:=hfr _ _ g hy' rfl
      have:=h.env.block_lt hm'
      omega
   tkd:=fun i j y y' g hij hy hy' hg hg'=>by
    rcases hτ i y hy with ⟨_,h1⟩ | ⟨h0,h1⟩
    ·rcases hτ j y' hy' with ⟨_,h2⟩ | ⟨_,h2⟩
     ·exact h.env.tkd i j y y' g hij h1 h2 hg hg'
     ·have:=hold i y g h1 hg
      have:=hfr _ y' g h2 hg'
      omega
    ·rcases hτ j y' hy' with ⟨_,h2⟩ | ⟨h00,h2⟩
     ·have:=hold j y' g h2 hg'
      have:=hfr _ y g h1 hg
      omega
     ·exact he.tkd _ _ y y' g (by omega) h1 h2 hg hg' }
 ·exact {
   c:=hq.nw.c
   cn:=hq.nw.cn
   β:=h.nw.β
   tk:=fun j q0 y0 hq0 hy0=>by
    obtain ⟨q',y',h1,h2,h3⟩:=h.nw.tk j q0 y0 hq0 hy0
    exact ⟨q',y',by show (E.tk ++ _)[j]? = _;rw [List.getElem?_append_left (List.getElem?_eq_some_iff.1 h1).1];exact h1,by show (E.τ ++ _)[j]? = _;rw [List.getElem?_append_left (List.getElem?_eq_some_iff.1 h2).1];exact h2,h3⟩
   tn:=fun j y g hj hy hg=>by
    rcases hτ j y hy with ⟨_,h1⟩ | ⟨_,h1⟩
    ·exact h.nw.tn j y g hj h1 hg
    ·exact Nat.le_trans h.fr.size (hfr _ y g h1 hg)
   l0:=h.nw.l0 }
theorem calls_f {P:Program} (h:Rel X E st a w) (hst:X.still=false) {f:FuncId} {args args':List DV} {vs:List Value} {Φ:DV→List (List DV)→List TkE→Prop} (hc:EvF P f args' [] [] Φ) (ha:CcL [] 0 0 0 args' args) (hv:RvL E args vs) :
  Calls P f vs.toArray w fun e w'=>∃ v E' d tks,e = .returned v∧Rel X E' ⟨st.sl,st.bx,st.tk ++ tks⟩ a w' ∧ Rv E' (shD st.tk.length d) v∧Φ d [] tks∧Modd E.cl.S w w' ∧ Ext E E' ∧ E'.β=E.β:=by
 have hv':RvL E.cl args' vs:=CcL.sound (E:=E) (E':=E.cl) ⟨fun _ _ h=>h,fun i cs _ hi=>by simp at hi⟩ (Low.zero _ _) ha hv
 refine (hc E.cl w vs (env_cl h.env) rfl hv').mono ?_
 rintro e w' ⟨v,rfl,hm,_,d,os,E2,he,hβ,_,hn,hvd,hΦ⟩
 have hβ:E2.β=[]:=hβ
 have hos:os=[]:=by
  have:=he.len
  rw [hβ] at this
  exact List.eq_nil_of_length_eq_zero this.symm
 subst hos
 have htl:E.τ.length=E.tk.length:=h.env.tl
 have hx:Ext E ⟨E2.c,E.β,E.tk ++ E2.tk,E.τ ++ E2.τ⟩:=⟨hn.c,fun _ _ h=>h,fun j q hj=>by
  have hlt:=(List.getElem?_eq_some_iff.1 hj).1
  refine ⟨q,by show (E.tk ++ _)[j]? = _;rw [List.getElem?_append_left hlt];exact hj,.inl ⟨rfl,?_⟩⟩
  show (E.τ ++ _)[j]? = _
  rw [List.getElem?_append_left (by rw [htl];exact hlt)]⟩
 refine ⟨v,_,d,E2.tk,rfl,quiet_relF h hst hm he hn,shD_sound (E2:=E2) (E:=⟨E2.c,E.β,E.tk ++ E2.tk,E.τ ++ E2.τ⟩) (m:=st.tk.length) hβ rfl (fun k q hq=>?_) hvd,hΦ,hm,hx,rfl⟩
 rw [← h.tk]
 constructor
 ·show (E.tk ++ E2.tk)[_]? = _
  rw [List.getElem?_append_right (by omega)]
  simpa using hq
 ·show (E.τ ++ E2.τ)[_]? = _
  rw [List.getElem?_append_right (by omega),htl]
  simp
theorem callD_f {D:Dr} {c:Bool} {i:Nat} {s0:List (Nat × Sl)} {f:FuncId} {args args':List DV} {d:Nat} {r:List (Nat × Oper)} (hen:Enters X.P f) (hd:(okD X.nt st.sl (some d) && okD X.nt s0 (some d))=true) {Φ:DV→List (List DV)→List TkE→Prop} (hc:EvF X.P f args' [] [] Φ) (ha:CcL [] 0 0 0 args' args)
  (hk:∀ res tks,Φ res [] tks→put2 s0 ⟨st.sl,st.bx,st.tk ++ tks⟩ (some d) false [] (shD st.tk.length res) (goD X D 3000 c r)) (hst:X.still=false:=by exact rfl):CallD X D c i r f args (some d) s0 st:=by
 refine ⟨hen,fun hl E0 wr hD E a w vs h hv=>(calls_f h.rel hst hc ha hv).mono ?_⟩
 rintro e w' ⟨v,E',res,tks,rfl,hrel,hr,hΦ,hm,hx,hβ⟩
 have hh:∀ b,b < w.heap.size→w'.heap[b]? = w.heap[b]?:=fun b hb=>hm.block b hb (by
  rintro (h1 | ⟨y,h1,_⟩)
  ·simp [En.cl] at h1
  ·simp [En.cl] at h1)
 have hs:Stp none E w E' w':=⟨hx,⟨[],by rw [hβ];simp⟩,fun j b hb _=>hh b (h.rel.env.block_lt (List.mem_of_getElem? hb))⟩
 have hC:=stp_C h hs hrel (fun j hj=>by cases hj)
 refine ⟨v,rfl,fun _=>hC,?_⟩
 have hrelD:RelD X ⟨D,E0,wr⟩ c E' s0 ⟨st.sl,st.bx,st.tk ++ tks⟩ (a.put none v) w':=stp_relD h hs hrel (fun h1=>hC (h.cc h1)) (fun i x hx=>.inr ⟨hx,fun d hd=>by cases hd⟩) rfl
 obtain ⟨s1,st1,hk1,hrel1⟩:=put2_rel hrelD hd false [] _ v (fun _ _ p hp=>by cases hp) (fun _=>hr) (fun hb=>by cases hb) (fun hn=>(hn (holds_nil _)).elim) (hk res tks hΦ)
 exact goD_sound (D:=⟨D,E0,wr⟩) hD 3000 c r _ _ hk1 hl E' _ w' hrel1
theorem op_nilv {o:Oper} {t d et e' by' n:Nat} {x:Operand} {bb:Bool} {z:List Value} (hop:∃ t',o.op = .binOp .eql t x (.const (.slice none 0 0)) t') (hdst:o.dst=some d) (hx:rv st [] x=some (.v (.slice none 0 0))) (hT:X.T.find t=some ⟨n,bb,.sl et e' by',z⟩) (hd:okD X.nt st.sl (some d)=true)
  (hk:go X 4000 k ⟨(d,⟨[],.v (.bool true)⟩) :: st.sl,st.bx,st.tk⟩):OpG X o k st:=by
 intro E a w h
 obtain ⟨t',hop⟩:=hop
 have e1:=sl_val h.rl hx
 unfold Rv at e1
 obtain ⟨hu,_⟩:=und_sl X.hT hT
 have heq:=equal_sl hu none 0 0 w
 have hrun:(execOp a.eval o).run X.P w = .ok (.value (.bool true)) w:=by
  have hc:a.eval (.const (.slice none 0 0)) = .slice none 0 0:=rfl
  simp [execOp,hop,e1.1,hc,eqGuard,binOp,heq]
 refine wp_value hrun ?_
 rw [hdst]
 exact go_sound 4000 _ _ hk E _ w (put_rel h hd (.v (.bool true)) _ (by unfold Rv;exact ⟨rfl,rfl⟩))
end
end Dv
end Go.Proofs.YtbfdbhechmhpoaaGreat
namespace Go.Proofs.YtbfdbhechmhpoaaGreat
namespace Dv
open Go Go.RowKit
section
variable {X:Ctx} {st:St} {k:List It} {E:En} {a:Act} {w:World}
end
end Dv
end Go.Proofs.YtbfdbhechmhpoaaGreat
set_option maxRecDepth 100000
namespace Go.Proofs.YtbfdbhechmhpoaaGreat
open Go Go.RowKit Dv Tryz
end Go.Proofs.YtbfdbhechmhpoaaGreat
set_option maxRecDepth 100000
namespace Go.Proofs.YtbfdbhechmhpoaaGreat
open Go Go.RowKit Dv Tryz
end Go.Proofs.YtbfdbhechmhpoaaGreat
set_option maxRecDepth 100000
namespace Go.Proofs.YtbfdbhechmhpoaaGreat
open Go Go.RowKit Dv Tryz
end Go.Proofs.YtbfdbhechmhpoaaGreat
set_option maxRecDepth 100000
namespace Go.Proofs.YtbfdbhechmhpoaaGreat
open Go Go.RowKit Dv Tryz
end Go.Proofs.YtbfdbhechmhpoaaGreat
set_option maxRecDepth 100000
namespace Go.Proofs.YtbfdbhechmhpoaaGreat
open Go Go.RowKit Dv Tryz
theorem dStps_snoc (l:List Stp) (x:Stp):dStps l ++ [dStp x]=dStps (l ++ [x]):=by simp [dStps]
end Go.Proofs.YtbfdbhechmhpoaaGreat
set_option maxRecDepth 100000
namespace Go.Proofs.YtbfdbhechmhpoaaGreat
open Go Go.RowKit Dv Tryz
def dP:List Stp→DV
 | []=>.v (.slice none 0 0)
 | s :: p=>.sl 3 (dStps (s :: p)) none
theorem clonep_n:EvP Tryz.prog 228 [.v (.slice none 0 0)] (.v (.slice none 0 0)):=by
 refine ev_go (P:=Tryz.prog) tt tt_ok 5000 8 [.tmp 2] Tryz.func228 rfl Tryz.ntmps228 rfl (Nat.le_of_ble_eq_true rfl) (fun E9 w9 hn9 hm9=>?_)
 refine op_nilv ⟨_,rfl⟩ rfl rfl rfl rfl ?_
 exact (rfl:_=_)
theorem clonep_f (s:Stp) (p:List Stp) (hl:(s :: p).length≤1099511627776):EvF Tryz.prog 228 [.sl 3 (dStps (s :: p)) none] [] [] (fun r _ tks=>r = .sl 3 (dStps (s :: p)) (some 0)∧tks=[⟨(s :: p).length,167,3,none⟩]):=by
 have hdl:=dStps_len (s :: p)
 have hne:dStps (s :: p) ≠ []:=by simp [dStps]
 refine evB_gom (s:=false) (bt:=[]) (mu:=[]) (hbt:=fun p hp=>by cases hp) (fr:=true) (P:=Tryz.prog) tt tt_ok 5000 8 [.tmp 2] Tryz.func228 rfl Tryz.ntmps228 rfl (Nat.le_of_ble_eq_true rfl) (fun E9 w9 hn9 hm9=>?_)
 refine op_nil ⟨_,rfl⟩ rfl rfl rfl rfl (fun b hb=>?_)
 rw [hb hne]
 refine op_empty rfl rfl rfl rfl (hk:=?_)
 refine ⟨rfl,⟨by simp [maxLen,hdl];simp at hl;omega,by simp [hdl];simp at hl;omega⟩,?_⟩
 refine ⟨_,[],(by repeat' (first | exact rfl | exact trivial | exact Or.inr (Or.inl ⟨_,rfl⟩) | exact Or.inr ⟨_,rfl⟩ | exact Or.inl ⟨rfl,rfl⟩ | exact Or.inl rfl | refine Or.inr ⟨_,_,rfl,Nat.zero_le _,rfl,?_⟩ | refine ⟨_,_,rfl,?_,?_⟩ | refine ⟨_,rfl,?_⟩ | exact ⟨Nat.le_of_ble_eq_true rfl,rfl⟩ | refine Or.inr (Or.inr (Or.inr ⟨_,_,rfl,?_⟩)) | exact Or.inl rfl | refine Or.inr ?_)),rfl,rfl,?_⟩
 show [(⟨0 + (dStps (s :: p)).length,_,3,none⟩:TkE)]=_
 rw [hdl,Nat.zero_add]
end Go.Proofs.YtbfdbhechmhpoaaGreat
set_option maxRecDepth 100000
namespace Go.Proofs.YtbfdbhechmhpoaaGreat
open Go Go.RowKit Dv Tryz
theorem resNds_bot {S:Sch} (hF:FineS S) {i:Nat} {n:Nd} (h:(resNds S)[i]? = some n) {e:Ed} (he:e∈n.edges) (hk:n.kind < 7):e.label=(botF (leqS S) S.levels.length:Nat):=by
 have hleaf:=(resNds_ok hF h).leaf
 have h5:5≤n.kind:=by
  rcases Int.lt_or_le n.kind 5 with c | c
  ·rw [hleaf c] at he;cases he
  ·exact c
 rw [resNds_eq] at h
 obtain ⟨t,ht,u,hu,rfl,hpos⟩:=ndsA_get h
 have hwr:=flatT_wr t ⟨_,_,hF.wr t ht⟩ u hu
 have hT:=tyF_of hwr
 obtain ⟨uh,us⟩:=u
 simp only [Ty.h,Ty.ps] at hT
 have hk':uh.kind < 7:=hk
 have h5':5≤uh.kind:=h5
 obtain ⟨p,v,k',h1,rfl,_⟩:=edsP_mem he
 obtain ⟨q,t',rfl,_,hpl,_⟩:=hT.one (by omega)
 have h1:(p,v) ∈ [(q,t')]:=h1
 simp only [List.mem_singleton,Prod.mk.injEq] at h1
 obtain ⟨rfl,rfl⟩:=h1
 unfold plainP at hpl
 simp only [Bool.and_eq_true] at hpl
 have hl:p.label=[]:=by
  have:=hpl.1.1.1.2
  cases hpp:p.label with
  | nil=>rfl
  | cons a b=>rw [hpp] at this;simp [zeroPh,sameWds] at this
 obtain ⟨hLat,_⟩:=latOK_of hF.lat
 have hnl:=nmTx_len S.levels
 show levS S p.label=_
 rw [hl]
 unfold levS labN
 have h0:(labW (nmTx S.levels) []).1=0:=rfl
 rw [if_pos h0,hnl]
 have hb:=botF_some hLat
 show oz (leastN _ _ [])=_
 rw [hb]
 rfl
theorem astep_spec (d:Nd) (e:Ed) (h5:5≤d.kind) (h8:d.kind≤8):EvP Tryz.prog 278 [.agg (dNd d),.agg (dEd e)] (.tup [.agg (dStp (stepE d e)),.v (.bool (okE d e))]):=by
 obtain ⟨kind,at',lo,hi,most,names,es⟩:=d
 obtain ⟨en,eb,ea,et,elb,ew,eck,ecn,ese,eca⟩:=e
 simp only at h5 h8
 have hS:stepE ⟨kind,at',lo,hi,most,names,es⟩ ⟨en,eb,ea,et,elb,ew,eck,ecn,ese,eca⟩=if kind=5 then ⟨3,0,emptyB⟩ else if kind=6 then ⟨4,0,emptyB⟩ else if kind=7 then ⟨1,0,en⟩ else ⟨5,0,en⟩:=rfl
 have hO:okE ⟨kind,at',lo,hi,most,names,es⟩ ⟨en,eb,ea,et,elb,ew,eck,ecn,ese,eca⟩=if kind=8 then !eb else if kind=5 then decide (0 < most) else true:=rfl
 generalize stepE _ _=sx at hS ⊢
 generalize okE _ _=O at hO ⊢
 refine ev_go (P:=Tryz.prog) tt tt_ok 5000 28 [.cell 4 167,.tmp 5] Tryz.func278 rfl Tryz.ntmps278 rfl (Nat.le_of_ble_eq_true rfl) (fun E9 w9 hn9 hm9=>?_)
 have c5:kind=5∨kind=6∨kind=7∨kind=8:=by omega
 rcases c5 with rfl | rfl | rfl | rfl
 all_goals
  simp at hS hO
  subst hS hO
 ·refine drawG_m [2] (fun _=>false) mo (by decide +kernel) ?_
  exact ⟨_,ax,rfl⟩
 ·exact ⟨_,ax,rfl⟩
 ·exact ⟨_,ax,rfl⟩
 ·refine drawG_m [2] (fun _=>false) mo (by decide +kernel) ?_
  exact ⟨_,ax,rfl⟩
theorem sees_spec {n:Nat} {f:Nat→Nat→Bool} {names:List ByteArray} {LC:List DV} (hL:LatR n f names LC) (x0 x3 x4:DV) (obs a:Nat) (ho:obs < n) (ha:a < n) :
  EvP Tryz.prog 315 [.pt [x0,.pt LC 0,.v (.int .i64 obs),x3,x4] 0,.v (.int .i64 a)] (.v (.bool (f a obs))):=by
 have hq:=hL.leq a obs
 rw [leqI_nat ha ho] at hq
 refine ev_go (P:=Tryz.prog) tt tt_ok 5000 15 [.tmp 4] Tryz.func315 rfl Tryz.ntmps315 rfl (Nat.le_of_ble_eq_true rfl) (fun E9 w9 hn9 hm9=>?_)
 refine drawG_i (fun _=>false) mo (by decide +kernel) ?_
 refine callD_p en57 (hq) ax rfl ?_
 exact (rfl:_=_)
def dRP (r:Rw42):List DV:=[dP r.p,.v (.int .i64 (r.node:Nat)),.v (.int .i64 (r.lv:Nat)),.v (.int .i64 (r.how:Nat))]
def dRPs (l:List Rw42):List (List DV):=l.map dRP
theorem dRPs_len (l:List Rw42):(dRPs l).length=l.length:=by simp [dRPs]
theorem dRPs_snoc (l:List Rw42) (r:Rw42):dRPs l ++ [dRP r]=dRPs (l ++ [r]):=by simp [dRPs]
abbrev wkC (PC LC:List DV) (obs dp:Nat) (L:List Rw42):List DV:=[.pt PC 0,.pt LC 0,.v (.int .i64 obs),.v (.int .i64 dp),.sl 4 (dRPs L) (some 0)]
set_option maxHeartbeats 4000000 in
theorem arow_spec {S:Sch} {ND:List Nd} {PC LC:List DV} {names:List ByteArray} (hP:PlanR S ND PC) (hL:LatR S.levels.length (leqS S) names LC) (obs dp:Nat) (ho:obs < S.levels.length) (L:List Rw42) (q:TkE)
  (r:Rw42) (hp:r.p.length≤1000) (hl:r.lv < S.levels.length) (i:Nat) (d:Nd) (hd:ND[i]? = some d) (e:Ed) (he:e∈d.edges) (hok:okE d e=true) :
  Ev Tryz.prog 279 [.loc 0 0,.agg (dRP r),.agg (dNd d),.agg (dEd e)] [wkC PC LC obs dp L] [q] (fun res os tk=>res = .agg (dRP (nextR (leqS S) S.levels.length obs d e r))∧os=[wkC PC LC obs dp L]∧tk=[q]):=by
 have hN:=hP.ok d (List.mem_of_getElem? hd)
 have h5:5≤d.kind:=by
  rcases Int.lt_or_le d.kind 5 with c | c
  ·rw [hN.leaf c] at he;cases he
  ·exact c
 have hst:=astep_spec d e h5 hN.k8
 obtain ⟨hto,⟨h2,h2'⟩,h3,h3'⟩:=edge_nums hN he
 have hb:e.bare=false:=by
  cases hb:e.bare
  ·rfl
  ·have h8:=hN.bare e he hb
   unfold okE at hok
   rw [if_pos h8,hb] at hok
   cases hok
 obtain ⟨h1,h1'⟩:=hto hb
 have hbot:d.kind < 7→jnF (leqS S) S.levels.length r.lv e.label.toNat=r.lv:=fun c=>by
  have hx:=hP.nds ▸ hd
  rw [resNds_bot hP.fine hx he c,Int.toNat_natCast,jnF_bot hL.ok hl]
 have hse:=fun x a ha=>sees_spec hL (.pt PC 0) (.v (.int .i64 dp)) x obs a ho ha
 have hH:howF (leqS S) S.levels.length obs d e r.lv=if leqS S (jnF (leqS S) S.levels.length r.lv e.label.toNat) obs=true then 2 else if e.ck≠0∧leqS S (jnF (leqS S) S.levels.length r.lv e.seen.toNat) obs=true then 1 else 0:=by
  unfold howF
  by_cases c:d.kind < 7
  ·rw [if_pos c,hbot c]
  ·rw [if_neg c]
 have hH1:leqS S (jnF (leqS S) S.levels.length r.lv e.label.toNat) obs=true→howF (leqS S) S.levels.length obs d e r.lv=2:=fun h=>by rw [hH,if_pos h]
 have hH2:leqS S (jnF (leqS S) S.levels.length r.lv e.label.toNat) obs=false→e.ck≠0→leqS S (jnF (leqS S) S.levels.length r.lv e.seen.toNat) obs=true→howF (leqS S) S.levels.length obs d e r.lv=1:=fun h c h2=>by
  rw [hH,if_neg (by rw [h];simp),if_pos ⟨c,h2⟩]
 have hH3:leqS S (jnF (leqS S) S.levels.length r.lv e.label.toNat) obs=false→(e.ck=0∨leqS S (jnF (leqS S) S.levels.length r.lv e.seen.toNat) obs=false)→howF (leqS S) S.levels.length obs d e r.lv=0:=fun h c=>by
  rw [hH,if_neg (by rw [h];simp),if_neg (by
   rintro ⟨c1,c2⟩
   rcases c with c | c
   ·exact c1 c
   ·rw [c] at c2;cases c2)]
 clear hH
 have hnx:nextR (leqS S) S.levels.length obs d e r=⟨r.p ++ [stepE d e],e.to.toNat,jnF (leqS S) S.levels.length r.lv e.label.toNat,howF (leqS S) S.levels.length obs d e r.lv⟩:=rfl
 rw [hnx]
 have hj:=hL.join r.lv e.label.toNat hl h2'
 have hj2:=hL.join r.lv e.seen.toNat hl h3'
 have hjl:=jnF_lt hL.ok hl h2'
 have hjl2:=jnF_lt hL.ok hl h3'
 generalize howF (leqS S) S.levels.length obs d e r.lv=H at hH1 hH2 hH3 ⊢
 generalize stepE d e=sx at hst ⊢
 generalize okE d e=O at hst hok
 subst hok
 obtain ⟨kind,at',lo,hi,most,names',es⟩:=d
 obtain ⟨en,eb,ea,et,elb,ew,eck,ecn,ese,eca⟩:=e
 obtain ⟨p,nd,l,h⟩:=r
 simp only at h1 h1' h2 h2' h3 h3' hj hj2 hjl hjl2 hH1 hH2 hH3 hl hp ⊢
 obtain ⟨lb,rfl⟩:∃ n:Nat,elb=n:=⟨_,h2⟩
 obtain ⟨tn,rfl⟩:∃ n:Nat,et=n:=⟨_,h1⟩
 obtain ⟨sn,rfl⟩:∃ n:Nat,ese=n:=⟨_,h3⟩
 simp only [Int.toNat_natCast] at h1' h2' h3' hj hj2 hjl hjl2 hH1 hH2 hH3 ⊢
 have hs1:=fun x=>hse x _ hjl
 have hs2:=fun x=>hse x _ hjl2
 generalize jnF (leqS S) S.levels.length l lb=j1 at hj hjl hH1 hH2 hH3 hs1 ⊢
 generalize jnF (leqS S) S.levels.length l sn=j2 at hj2 hjl2 hH2 hH3 hs2 ⊢
 generalize leqS S j1 obs=b1 at hs1 hH1 hH2 hH3
 generalize leqS S j2 obs=b2 at hs2 hH2 hH3
 obtain ⟨sk,sn',ss⟩:=sx
 rcases p with _ | ⟨s0,p⟩
 ·simp only [dRP,dP,List.nil_append]
  refine ev_go (P:=Tryz.prog) tt tt_ok 5000 61 [.cell 8 239] Tryz.func279 rfl Tryz.ntmps279 rfl (Nat.le_of_ble_eq_true rfl) (fun E9 w9 hn9 hm9=>?_)
  refine call_p en278 (hst) ax rfl ?_
  apply drawG_a (fun _=>false) (.op 0 (.op 1 (.op 3 (.op 6 (.op 7 (.op 8 (.op 9 (.op 10 (.op 11 (.op 12 (.op 13 (.op 14 (.op 15 (.ev 2 (.ev 4 (.ev 5 (.ev 16 (.op 17 (.ev 18 (.ev 19 .fin .stop) .stop)) (.ev 18 (.ev 16 (.op 17 (.ev 19 .fin .stop)) .stop) .stop)) (.ev 18 (.ev 5 (.ev 16 (.op 17 (.ev 19 .fin .stop)) .stop) .stop) .stop)) (.ev 18 (.ev 4 (.ev 5 (.ev 16 (.op 17 (.ev 19 .fin .stop)) .stop) .stop) .stop) .stop)) (.ev 4 (.ev 2 (.ev 5 (.ev 16 (.op 17 (.ev 18 (.ev 19 .fin .stop) .stop)) (.ev 18 (.ev 16 (.op 17 (.ev 19 .fin .stop)) .stop) .stop)) (.ev 18 (.ev 5 (.ev 16 (.op 17 (.ev 19 .fin .stop)) .stop) .stop) .stop)) (.ev 18 (.ev 2 (.ev 5 (.ev 16 (.op 17 (.ev 19 .fin .stop)) .stop) .stop) .stop) .stop)) (.ev 18 (.ev 2 (.ev 4 (.ev 5 (.ev 16 (.op 17 (.ev 19 .fin .stop)) .stop) .stop) .stop) (.ev 4 (.ev 2 (.ev 5 (.ev 16 (.op 17 (.ev 19 .fin .stop)) .stop) .stop) .stop) .stop)) .stop)))))))))))))))) mo (by decide +kernel);·repeat' (first | refine callD_p en228 (clonep_n) ax rfl ?_ | refine callD_p en132 (hj) ax rfl ?_ | exact Nat.le_of_ble_eq_true rfl | exact trivial | exact Or.inl rfl | exact endS | refine ⟨?_,?_⟩)
  refine call_bf en315 (hs1 (.sl 4 (dRPs L) none)) ax rfl rfl ?_
  refine br (fun c=>?_) (fun c=>?_)
  ·have c:b1=true:=c
   rw [hH1 c]
   exact ⟨_,[wkC PC LC obs dp L],ax,(by repeat' (first | exact rfl | exact trivial | exact Or.inr (Or.inl ⟨_,rfl⟩) | exact Or.inr ⟨_,rfl⟩ | exact Or.inl ⟨rfl,rfl⟩ | exact Or.inl rfl | refine Or.inr ⟨_,_,rfl,Nat.zero_le _,rfl,?_⟩ | refine ⟨_,_,rfl,?_,?_⟩ | refine ⟨_,rfl,?_⟩ | exact ⟨Nat.le_of_ble_eq_true rfl,rfl⟩ | refine Or.inr (Or.inr (Or.inr ⟨_,_,rfl,?_⟩)) | exact Or.inl rfl | refine Or.inr ?_)),rfl,rfl,rfl⟩
  have c1:b1=false:=by simpa using c
  refine drawG_i (fun _=>false) mo (by decide +kernel) ?_
  refine br (fun g=>?_) (fun g=>?_)
  ·have g:eck≠0:=by simpa using g
   refine callD_p en132 (hj2) ax rfl ?_
   refine callD_b en315 (hs2 (.sl 4 (dRPs L) none)) ax rfl rfl ?_
   refine br (fun c=>?_) (fun c=>?_)
   ·have c2:b2=true:=by simpa [pickB] using c
    rw [hH2 c1 g c2]
    exact ⟨_,[wkC PC LC obs dp L],ax,(by repeat' (first | exact rfl | exact trivial | exact Or.inr (Or.inl ⟨_,rfl⟩) | exact Or.inr ⟨_,rfl⟩ | exact Or.inl ⟨rfl,rfl⟩ | exact Or.inl rfl | refine Or.inr ⟨_,_,rfl,Nat.zero_le _,rfl,?_⟩ | refine ⟨_,_,rfl,?_,?_⟩ | refine ⟨_,rfl,?_⟩ | exact ⟨Nat.le_of_ble_eq_true rfl,rfl⟩ | refine Or.inr (Or.inr (Or.inr ⟨_,_,rfl,?_⟩)) | exact Or.inl rfl | refine Or.inr ?_)),rfl,rfl,rfl⟩
   ·have c2:b2=false:=by simpa [pickB] using c
    rw [hH3 c1 (.inr c2)]
    exact ⟨_,[wkC PC LC obs dp L],ax,(by repeat' (first | exact rfl | exact trivial | exact Or.inr (Or.inl ⟨_,rfl⟩) | exact Or.inr ⟨_,rfl⟩ | exact Or.inl ⟨rfl,rfl⟩ | exact Or.inl rfl | refine Or.inr ⟨_,_,rfl,Nat.zero_le _,rfl,?_⟩ | refine ⟨_,_,rfl,?_,?_⟩ | refine ⟨_,rfl,?_⟩ | exact ⟨Nat.le_of_ble_eq_true rfl,rfl⟩ | refine Or.inr (Or.inr (Or.inr ⟨_,_,rfl,?_⟩)) | exact Or.inl rfl | refine Or.inr ?_)),rfl,rfl,rfl⟩
  ·have g:eck=0:=by simpa using g
   rw [hH3 c1 (.inl g)]
   exact ⟨_,[wkC PC LC obs dp L],ax,(by repeat' (first | exact rfl | exact trivial | exact Or.inr (Or.inl ⟨_,rfl⟩) | exact Or.inr ⟨_,rfl⟩ | exact Or.inl ⟨rfl,rfl⟩ | exact Or.inl rfl | refine Or.inr ⟨_,_,rfl,Nat.zero_le _,rfl,?_⟩ | refine ⟨_,_,rfl,?_,?_⟩ | refine ⟨_,rfl,?_⟩ | exact ⟨Nat.le_of_ble_eq_true rfl,rfl⟩ | refine Or.inr (Or.inr (Or.inr ⟨_,_,rfl,?_⟩)) | exact Or.inl rfl | refine Or.inr ?_)),rfl,rfl,rfl⟩
 ·have hcf:=clonep_f s0 p (by omega)
  have hb1:=dStps_len (s0 :: p)
  have hb2:(dStps (s0 :: p)).length + 1≤maxLen:=by rw [hb1];simp only [maxLen];omega
  have hb3:((dStps (s0 :: p)).length + 1) * 32≤140737488355328:=by rw [hb1];omega
  have hss:=dStps_snoc (s0 :: p) ⟨sk,sn',ss⟩
  simp only [dRP,dP,List.cons_append]
  refine ev_go (P:=Tryz.prog) tt tt_ok 5000 61 [.cell 8 239] Tryz.func279 rfl Tryz.ntmps279 rfl (Nat.le_of_ble_eq_true rfl) (fun E9 w9 hn9 hm9=>?_)
  refine call_p en278 (hst) ax rfl ?_
  apply drawG_a (fun _=>false) (.op 0 (.op 1 (.op 3 (.op 6 (.op 7 (.op 8 (.op 9 (.op 10 (.op 11 (.op 12 (.op 13 (.op 14 (.op 15 (.ev 2 (.ev 4 (.ev 5 (.ev 16 (.op 17 (.ev 18 (.ev 19 .fin .stop) .stop)) (.ev 18 (.ev 16 (.op 17 (.ev 19 .fin .stop)) .stop) .stop)) (.ev 18 (.ev 5 (.ev 16 (.op 17 (.ev 19 .fin .stop)) .stop) .stop) .stop)) (.ev 18 (.ev 4 (.ev 5 (.ev 16 (.op 17 (.ev 19 .fin .stop)) .stop) .stop) .stop) .stop)) (.ev 4 (.ev 2 (.ev 5 (.ev 16 (.op 17 (.ev 18 (.ev 19 .fin .stop) .stop)) (.ev 18 (.ev 16 (.op 17 (.ev 19 .fin .stop)) .stop) .stop)) (.ev 18 (.ev 5 (.ev 16 (.op 17 (.ev 19 .fin .stop)) .stop) .stop) .stop)) (.ev 18 (.ev 2 (.ev 5 (.ev 16 (.op 17 (.ev 19 .fin .stop)) .stop) .stop) .stop) .stop)) (.ev 18 (.ev 2 (.ev 4 (.ev 5 (.ev 16 (.op 17 (.ev 19 .fin .stop)) .stop) .stop) .stop) (.ev 4 (.ev 2 (.ev 5 (.ev 16 (.op 17 (.ev 19 .fin .stop)) .stop) .stop) .stop) .stop)) .stop)))))))))))))))) mo (by decide +kernel);·repeat' (first | (refine callD_f en228 rfl hcf ax (fun res tks hr=>?_);obtain ⟨rfl,rfl⟩:=hr) | refine callD_p en132 (hj) ax rfl ?_ | refine ⟨hb1,⟨hb2,hb3⟩,?_⟩ | exact trivial | exact Or.inl rfl | exact endS | refine ⟨?_,?_⟩)
  refine call_bf en315 (hs1 (.sl 4 (dRPs L) none)) ax rfl rfl ?_
  refine br (fun c=>?_) (fun c=>?_)
  ·have c:b1=true:=c
   rw [hH1 c]
   exact ⟨_,[wkC PC LC obs dp L],(by repeat' (first | exact rfl | exact trivial | exact Or.inr (Or.inl ⟨_,rfl⟩) | exact Or.inr ⟨_,rfl⟩ | exact Or.inl ⟨rfl,rfl⟩ | exact Or.inl rfl | refine Or.inr ⟨_,_,rfl,Nat.zero_le _,rfl,?_⟩ | refine ⟨_,_,rfl,?_,?_⟩ | refine ⟨_,rfl,?_⟩ | exact Or.inr (Or.inl ⟨_,congrArg (fun l=>DV.sl 3 l _) hss⟩) | refine Or.inr (Or.inr (Or.inr ⟨_,_,rfl,?_⟩)) | exact Or.inl rfl | refine Or.inr ?_)),(by repeat' (first | exact rfl | exact trivial | exact Or.inr (Or.inl ⟨_,rfl⟩) | exact Or.inr ⟨_,rfl⟩ | exact Or.inl ⟨rfl,rfl⟩ | exact Or.inl rfl | refine Or.inr ⟨_,_,rfl,Nat.zero_le _,rfl,?_⟩ | refine ⟨_,_,rfl,?_,?_⟩ | refine ⟨_,rfl,?_⟩ | exact ⟨Nat.le_of_ble_eq_true rfl,rfl⟩ | refine Or.inr (Or.inr (Or.inr ⟨_,_,rfl,?_⟩)) | exact Or.inl rfl | refine Or.inr ?_)),rfl,rfl,rfl⟩
  have c1:b1=false:=by simpa using c
  refine drawG_i (fun _=>false) mo (by decide +kernel) ?_
  refine br (fun g=>?_) (fun g=>?_)
  ·have g:eck≠0:=by simpa using g
   refine callD_p en132 (hj2) ax rfl ?_
   refine callD_b en315 (hs2 (.sl 4 (dRPs L) none)) ax rfl rfl ?_
   refine br (fun c=>?_) (fun c=>?_)
   ·have c2:b2=true:=by simpa [pickB] using c
    rw [hH2 c1 g c2]
    exact ⟨_,[wkC PC LC obs dp L],(by repeat' (first | exact rfl | exact trivial | exact Or.inr (Or.inl ⟨_,rfl⟩) | exact Or.inr ⟨_,rfl⟩ | exact Or.inl ⟨rfl,rfl⟩ | exact Or.inl rfl | refine Or.inr ⟨_,_,rfl,Nat.zero_le _,rfl,?_⟩ | refine ⟨_,_,rfl,?_,?_⟩ | refine ⟨_,rfl,?_⟩ | exact Or.inr (Or.inl ⟨_,congrArg (fun l=>DV.sl 3 l _) hss⟩) | refine Or.inr (Or.inr (Or.inr ⟨_,_,rfl,?_⟩)) | exact Or.inl rfl | refine Or.inr ?_)),(by repeat' (first | exact rfl | exact trivial | exact Or.inr (Or.inl ⟨_,rfl⟩) | exact Or.inr ⟨_,rfl⟩ | exact Or.inl ⟨rfl,rfl⟩ | exact Or.inl rfl | refine Or.inr ⟨_,_,rfl,Nat.zero_le _,rfl,?_⟩ | refine ⟨_,_,rfl,?_,?_⟩ | refine ⟨_,rfl,?_⟩ | exact ⟨Nat.le_of_ble_eq_true rfl,rfl⟩ | refine Or.inr (Or.inr (Or.inr ⟨_,_,rfl,?_⟩)) | exact Or.inl rfl | refine Or.inr ?_)),rfl,rfl,rfl⟩
   ·have c2:b2=false:=by simpa [pickB] using c
    rw [hH3 c1 (.inr c2)]
    exact ⟨_,[wkC PC LC obs dp L],(by repeat' (first | exact rfl | exact trivial | exact Or.inr (Or.inl ⟨_,rfl⟩) | exact Or.inr ⟨_,rfl⟩ | exact Or.inl ⟨rfl,rfl⟩ | exact Or.inl rfl | refine Or.inr ⟨_,_,rfl,Nat.zero_le _,rfl,?_⟩ | refine ⟨_,_,rfl,?_,?_⟩ | refine ⟨_,rfl,?_⟩ | exact Or.inr (Or.inl ⟨_,congrArg (fun l=>DV.sl 3 l _) hss⟩) | refine Or.inr (Or.inr (Or.inr ⟨_,_,rfl,?_⟩)) | exact Or.inl rfl | refine Or.inr ?_)),(by repeat' (first | exact rfl | exact trivial | exact Or.inr (Or.inl ⟨_,rfl⟩) | exact Or.inr ⟨_,rfl⟩ | exact Or.inl ⟨rfl,rfl⟩ | exact Or.inl rfl | refine Or.inr ⟨_,_,rfl,Nat.zero_le _,rfl,?_⟩ | refine ⟨_,_,rfl,?_,?_⟩ | refine ⟨_,rfl,?_⟩ | exact ⟨Nat.le_of_ble_eq_true rfl,rfl⟩ | refine Or.inr (Or.inr (Or.inr ⟨_,_,rfl,?_⟩)) | exact Or.inl rfl | refine Or.inr ?_)),rfl,rfl,rfl⟩
  ·have g:eck=0:=by simpa using g
   rw [hH3 c1 (.inl g)]
   exact ⟨_,[wkC PC LC obs dp L],(by repeat' (first | exact rfl | exact trivial | exact Or.inr (Or.inl ⟨_,rfl⟩) | exact Or.inr ⟨_,rfl⟩ | exact Or.inl ⟨rfl,rfl⟩ | exact Or.inl rfl | refine Or.inr ⟨_,_,rfl,Nat.zero_le _,rfl,?_⟩ | refine ⟨_,_,rfl,?_,?_⟩ | refine ⟨_,rfl,?_⟩ | exact Or.inr (Or.inl ⟨_,congrArg (fun l=>DV.sl 3 l _) hss⟩) | refine Or.inr (Or.inr (Or.inr ⟨_,_,rfl,?_⟩)) | exact Or.inl rfl | refine Or.inr ?_)),(by repeat' (first | exact rfl | exact trivial | exact Or.inr (Or.inl ⟨_,rfl⟩) | exact Or.inr ⟨_,rfl⟩ | exact Or.inl ⟨rfl,rfl⟩ | exact Or.inl rfl | refine Or.inr ⟨_,_,rfl,Nat.zero_le _,rfl,?_⟩ | refine ⟨_,_,rfl,?_,?_⟩ | refine ⟨_,rfl,?_⟩ | exact ⟨Nat.le_of_ble_eq_true rfl,rfl⟩ | refine Or.inr (Or.inr (Or.inr ⟨_,_,rfl,?_⟩)) | exact Or.inl rfl | refine Or.inr ?_)),rfl,rfl,rfl⟩
end Go.Proofs.YtbfdbhechmhpoaaGreat
set_option maxRecDepth 100000
namespace Go.Proofs.YtbfdbhechmhpoaaGreat
open Go Go.RowKit Dv Tryz
abbrev rowT (n:Nat):TkE:=⟨n,239,4,none⟩
abbrev awSt (PC LC:List DV) (obs dp:Nat) (O:List Rw42) (q:Nat) (r:Rw42) (d:Nd) (e:Nat):St:=
 ⟨[(0,⟨[],.loc 0 0⟩),(3,⟨[],.loc 1 0⟩),(4,⟨[],.loc 2 0⟩),(50,⟨[],.sl 10 (dEds d.edges) none⟩),(51,⟨[],.v (.int .i64 (dEds d.edges).length)⟩),(52,⟨[],.v (.int .i64 e)⟩)],
  [wkC PC LC obs dp O,dRP r,dNd d],[rowT q]⟩
def WkΦ (PC LC:List DV) (obs dp:Nat) (O:List Rw42) (res:DV) (os:List (List DV)) (tk:List TkE):Prop:=res = .tup []∧os=[wkC PC LC obs dp O]∧tk=[rowT O.length]
set_option maxHeartbeats 4000000 in
theorem awalk_spec {S:Sch} {ND:List Nd} {PC LC:List DV} {names:List ByteArray} (hP:PlanR S ND PC) (hlat:EvP Tryz.prog 21 [.pt PC 0] (.pt LC 0)) (hL:LatR S.levels.length (leqS S) names LC) (obs dp:Nat) (ho:obs < S.levels.length) (hdp:dp≤64) :
  ∀ (k:Nat) (r:Rw42) (O:List Rw42),r.node < ND.length→r.lv < S.levels.length→dp≤r.p.length + k→r.p.length≤64→O.length≤1000 →
  Ev Tryz.prog 232 [.loc 0 0,.agg (dRP r)] [wkC PC LC obs dp O] [rowT O.length] (WkΦ PC LC obs dp (O ++ rowsV ND (leqS S) S.levels.length obs dp k r (1000 - O.length)))
 | k,r,O,hnd,hlv,hk,hp,hO=>by
  have hOl:=dRPs_len O
  by_cases hfull:O.length=1000
  ·have hV:rowsV ND (leqS S) S.levels.length obs dp k r (1000 - O.length)=[]:=by rw [hfull];cases k<;>rfl
   rw [hV,List.append_nil]
   obtain ⟨p,nd,l,h⟩:=r
   rcases p with _ | ⟨s0,p⟩
   all_goals
    refine ev_go (P:=Tryz.prog) tt tt_ok 5000 71 [] Tryz.func232 rfl Tryz.ntmps232 rfl (Nat.le_of_ble_eq_true rfl) (fun E9 w9 hn9 hm9=>?_)
    refine br (fun _=>?_) (fun c=>absurd c (by simp [hOl,hfull]))
    exact ⟨_,[wkC PC LC obs dp O],ax,(by repeat' (first | exact rfl | exact trivial | exact Or.inr (Or.inl ⟨_,rfl⟩) | exact Or.inr ⟨_,rfl⟩ | exact Or.inl ⟨rfl,rfl⟩ | exact Or.inl rfl | refine Or.inr ⟨_,_,rfl,Nat.zero_le _,rfl,?_⟩ | refine ⟨_,_,rfl,?_,?_⟩ | refine ⟨_,rfl,?_⟩ | exact ⟨Nat.le_of_ble_eq_true rfl,rfl⟩ | refine Or.inr (Or.inr (Or.inr ⟨_,_,rfl,?_⟩)) | exact Or.inl rfl | refine Or.inr ?_)),rfl,rfl,rfl⟩
  obtain ⟨m,hm⟩:∃ m,1000 - O.length=m + 1:=⟨1000 - O.length - 1,by omega⟩
  rw [hm]
  have hsn:=dRPs_snoc O r
  have hdl:=dStps_len r.p
  by_cases hstop:r.how≠2∨dp≤r.p.length
  ·have hV:rowsV ND (leqS S) S.levels.length obs dp k r (m + 1)=[r]:=by
    cases k with
    | zero=>rfl
    | succ k=>rw [rowsV,if_neg (by omega),if_pos hstop]
   rw [hV]
   obtain ⟨p,nd,l,h⟩:=r
   rcases p with _ | ⟨s0,p⟩
   all_goals
    simp only at hstop hdl
    refine ev_go (P:=Tryz.prog) tt tt_ok 5000 71 [] Tryz.func232 rfl Tryz.ntmps232 rfl (Nat.le_of_ble_eq_true rfl) (fun E9 w9 hn9 hm9=>?_)
    refine br (fun c=>absurd c (by simp [hOl];omega)) (fun _=>?_)
    refine drawG_s mo (by decide +kernel) ?_
    refine ⟨hOl,⟨by rw [hOl];simp [maxLen];omega,by rw [hOl];simp;omega⟩,?_⟩
    refine drawG_i (fun _=>false) mo (by decide +kernel) ?_
    refine br (fun _=>?_) (fun c=>absurd c (by
     simp [pickB_or,hdl]
     simp at hstop
     omega))
    exact ⟨_,[wkC PC LC obs dp (O ++ [_])],ax,(by repeat' (first | exact rfl | exact trivial | exact Or.inr (Or.inl ⟨_,rfl⟩) | exact Or.inr ⟨_,rfl⟩ | exact Or.inl ⟨rfl,rfl⟩ | exact Or.inl rfl | refine Or.inr ⟨_,_,rfl,Nat.zero_le _,rfl,?_⟩ | refine ⟨_,_,rfl,?_,?_⟩ | refine ⟨_,rfl,?_⟩ | exact ⟨Nat.le_of_ble_eq_true rfl,rfl⟩ | exact ⟨Nat.le_of_ble_eq_true rfl,(congrArg (fun l=>DV.sl 4 l _) hsn).symm⟩ | exact ⟨Nat.le_of_ble_eq_true rfl,congrArg (fun l=>DV.sl 4 l _) hsn⟩ | refine Or.inr (Or.inr (Or.inr ⟨_,_,rfl,?_⟩)) | exact Or.inl rfl | refine Or.inr ?_)),rfl,rfl,by simp [rowT,hOl]⟩
  ·obtain ⟨k,rfl⟩:∃ k',k=k' + 1:=⟨k - 1,by omega⟩
   obtain ⟨d,hd⟩:∃ d,ND[r.node]? = some d:=⟨_,List.getElem?_eq_getElem hnd⟩
   have hm':=List.mem_of_getElem? hd
   have hN:=hP.ok d hm'
   have hel:d.edges.length≤1099511627776:=by
    have:=resNds_sz (S:=S) (n:=d) (by rw [← hP.nds];exact hm') hP.wt
    exact this.2
   have hdle:=dEds_len d.edges
   have hV:rowsV ND (leqS S) S.levels.length obs dp (k + 1) r (m + 1)=rowsP (leqS S) S.levels.length obs (rowsV ND (leqS S) S.levels.length obs dp k) d r (m + 1) d.edges.length:=by
    rw [rowsV,if_neg (by omega),if_neg hstop,hd]
    unfold rowsP
    rw [List.take_length]
   rw [hV]
   have hrl:=rowsP_len (f:=leqS S) (n:=S.levels.length) (obs:=obs) (F:=rowsV ND (leqS S) S.levels.length obs dp k) (fun r m=>rowsV_len k r m) (d:=d) (r:=r) (may:=m + 1) (by omega)
   have hsucc:=fun e x h=>@rowsP_succ (leqS S) S.levels.length obs (rowsV ND (leqS S) S.levels.length obs dp k) d r (m + 1) e x h
   have hzero:=@rowsP_zero (leqS S) S.levels.length obs (rowsV ND (leqS S) S.levels.length obs dp k) d r (m + 1)
   have ih:=awalk_spec hP hlat hL obs dp ho hdp k
   have hnode:=hP.node r.node d hd
   have hst:=fun x h5=>astep_spec d x h5 hN.k8
   have hrow:=fun O' x he hok=>arow_spec hP hL obs dp ho O' (rowT O'.length) r (by omega) hlv r.node d hd x he hok
   have hnx:∀ x,nextR (leqS S) S.levels.length obs d x r=⟨r.p ++ [stepE d x],x.to.toNat,jnF (leqS S) S.levels.length r.lv x.label.toNat,howF (leqS S) S.levels.length obs d x r.lv⟩:=fun _=>rfl
   have hnum:=fun (e:Ed) (he:e∈d.edges)=>edge_nums hN he
   have hjl:=fun (x:Ed) (he:x∈d.edges)=>jnF_lt hL.ok hlv (hnum x he).2.1.2
   have hok8:∀ x∈d.edges,okE d x=true→x.bare=false:=fun x hx h=>by
    cases hb:x.bare
    ·rfl
    ·have h8:=hN.bare x hx hb
     unfold okE at h
     rw [if_pos h8,hb] at h
     cases h
   have h5:∀ x,x∈d.edges→5≤d.kind:=fun x hx=>by
    rcases Int.lt_or_le d.kind 5 with c | c
    ·rw [hN.leaf c] at hx;cases hx
    ·exact c
   generalize rowsP (leqS S) S.levels.length obs (rowsV ND (leqS S) S.levels.length obs dp k) d r (m + 1)=G at hrl hsucc hzero ⊢
   have hrv:∀ r' m',(rowsV ND (leqS S) S.levels.length obs dp k r' m').length≤m':=fun r' m'=>rowsV_len (ND:=ND) (f:=leqS S) (n:=S.levels.length) (obs:=obs) (dep:=dp) k r' m'
   generalize rowsV ND (leqS S) S.levels.length obs dp k=RV at ih hsucc hrv
   have hccP:∀ bx N n0 m0,Cc bx N n0 m0 (dP r.p) (dP r.p):=fun bx N n0 m0=>by
    cases r.p with
    | nil=>simp only [dP,Cc]
    | cons s p=>simp only [dP,Cc];exact .inr (.inl ⟨_,rfl⟩)
   obtain ⟨p,nd,l,h⟩:=r
   simp only at hstop hdl hd hlv hk hp hjl hnx hnode hccP
   have hps:p.length < dp:=by omega
   have hh2:h=2:=by omega
   subst hh2
   have hsn0:dRPs O ++ [dRP ⟨p,nd,l,2⟩]=dRPs (O ++ G 0):=by rw [hzero];exact hsn
   have hGl0:(O ++ G 0).length=O.length + 1:=by rw [hzero];simp
   rcases p with _ | ⟨s0,p⟩
   ·refine ev_go (P:=Tryz.prog) tt tt_ok 5000 71 [] Tryz.func232 rfl Tryz.ntmps232 rfl (Nat.le_of_ble_eq_true rfl) (fun E9 w9 hn9 hm9=>?_)
    refine br (fun c=>absurd c (by simp [hOl];omega)) (fun _=>?_)
    refine drawG_s mo (by decide +kernel) ?_
    refine ⟨hOl,⟨by rw [hOl];simp [maxLen];omega,by rw [hOl];simp;omega⟩,?_⟩
    refine drawG_i (fun _=>false) mo (by decide +kernel) ?_
    refine br (fun c=>absurd c (by
     simp [pickB_or,hdl]
     simp at hps
     omega)) (fun _=>?_)
    apply drawG_a (fun _=>false) (.op 0 (.op 1 (.op 2 (.op 3 (.op 4 (.op 5 (.ev 6 (.op 7 (.op 8 (.op 9 (.ev 10 (.ev 11 (.op 12 .fin) .stop) .stop)))) (.ev 10 (.ev 6 (.op 7 (.op 8 (.op 9 (.ev 11 (.op 12 .fin) .stop)))) .stop) .stop)))))))) mo (by decide +kernel);·repeat' (first | refine callD_p en18 (hnode) ax rfl ?_ | exact trivial | exact Or.inl rfl | exact endS | refine ⟨?_,?_⟩)
    refine loop_i (fun j st=>∃ e q:Nat,st=awSt PC LC obs dp (O ++ G e) q ⟨[],nd,l,2⟩ d e∧q=(O ++ G e).length∧e≤d.edges.length∧j=d.edges.length - e) d.edges.length
     (awSt PC LC obs dp (O ++ G 0) (O.length + 1) ⟨[],nd,l,2⟩ d 0) (weak_b 3 rfl (by repeat' (first | exact rfl | exact we_rfl rfl | exact we_sl hsn0 rfl | refine ⟨_,_,rfl,?_,?_⟩)) rfl rfl rfl (by repeat' (first | exact trivial | exact we_rfl rfl | exact we_sl hsn0 rfl | refine ⟨⟨_,rfl,?_⟩,?_⟩))) ⟨0,O.length + 1,rfl,hGl0.symm,by omega,by omega⟩ ?_
    rintro j st ⟨e,q,rfl,rfl,he,rfl⟩
    have hGe:=hrl e
    refine br (fun hLo=>?_) (fun hLo=>?_)
    ·have hlt:e < d.edges.length:=by simpa [hdle] using hLo
     obtain ⟨x,hx⟩:∃ x,d.edges[e]? = some x:=⟨_,List.getElem?_eq_getElem hlt⟩
     have hmx:=List.mem_of_getElem? hx
     have hstx:=hst x (h5 x hmx)
     have hsx:=hsucc e x hx
     have hrx:=hrow (O ++ G e) x hmx
     have hob:=hok8 x hmx
     have hto:=(hnum x hmx).1
     have hjx:=hjl x hmx
     rw [hnx x] at hsx hrx
     have hrec:=fun (h1:x.to.toNat < ND.length)=>ih ⟨([]:List Stp) ++ [stepE d x],x.to.toNat,jnF (leqS S) S.levels.length l x.label.toNat,howF (leqS S) S.levels.length obs d x l⟩ (O ++ G e) h1 hjx (by simp at hk hps ⊢<;>omega) (by simp at hps ⊢<;>omega) (by rw [List.length_append];omega)
     have hmm:1000 - (O ++ G e).length=m + 1 - (G e).length:=by rw [List.length_append];omega
     rw [hmm] at hrec
     generalize howF (leqS S) S.levels.length obs d x l=hw at hsx hrx hrec
     generalize jnF (leqS S) S.levels.length l x.label.toNat=jn at hsx hrx hrec
     generalize stepE d x=sx at hstx hsx hrx hrec
     generalize okE d x=OK at hstx hsx hrx hob
     refine ⟨_,⟨by omega,dEds_get hx⟩,?_⟩
     refine call_p en278 (hstx) ax rfl ?_
     cases OK with
     | false=>
      rw [if_neg (by simp)] at hsx
      rw [← hsx]
      exact ⟨awSt PC LC obs dp (O ++ G (e + 1)) (O ++ G (e + 1)).length ⟨[],nd,l,2⟩ d (e + 1),(weak_b 3 rfl (by repeat' (first | exact rfl | exact we_rfl rfl | exact we_int (nxt hlt (by omega)) | refine ⟨_,_,rfl,?_,?_⟩)) rfl rfl rfl (by repeat' (first | exact trivial | exact we_rfl rfl | exact we_int (nxt hlt (by omega)) | refine ⟨⟨_,rfl,?_⟩,?_⟩))),d.edges.length - (e + 1),by omega,e + 1,_,rfl,rfl,by omega,rfl⟩
     | true=>
      rw [if_pos rfl] at hsx
      have hrec:=hrec (hto (hob rfl)).2
      have hrx:=hrx rfl
      have hRl:=hrv ⟨([]:List Stp) ++ [sx],x.to.toNat,jn,hw⟩ (m + 1 - (G e).length)
      generalize RV ⟨([]:List Stp) ++ [sx],x.to.toNat,jn,hw⟩ (m + 1 - (G e).length)=RR at hsx hrec hRl
      have hsn2:dRPs (O ++ G e ++ RR)=dRPs (O ++ G (e + 1)):=by rw [hsx,List.append_assoc]
      have hql:(O ++ G e ++ RR).length=(O ++ G (e + 1)).length:=by rw [hsx,List.append_assoc]
      refine call_os 1 1 en279 rfl rfl rfl (by repeat' (first | exact rfl | exact trivial | exact Or.inr (Or.inl ⟨_,rfl⟩) | exact Or.inr ⟨_,rfl⟩ | exact Or.inl ⟨rfl,rfl⟩ | exact Or.inl rfl | refine Or.inr ⟨_,_,rfl,Nat.zero_le _,rfl,?_⟩ | refine ⟨_,_,rfl,?_,?_⟩ | refine ⟨_,rfl,?_⟩ | exact ⟨Nat.le_of_ble_eq_true rfl,rfl⟩ | refine Or.inr (Or.inr (Or.inr ⟨_,_,rfl,?_⟩)) | exact Or.inl rfl | refine Or.inr ?_)) (by repeat' (first | exact rfl | exact trivial | exact Or.inr (Or.inl ⟨_,rfl⟩) | exact Or.inr ⟨_,rfl⟩ | exact Or.inl ⟨rfl,rfl⟩ | exact Or.inl rfl | refine Or.inr ⟨_,_,rfl,Nat.zero_le _,rfl,?_⟩ | refine ⟨_,_,rfl,?_,?_⟩ | refine ⟨_,rfl,?_⟩ | exact ⟨Nat.le_of_ble_eq_true rfl,rfl⟩ | refine Or.inr (Or.inr (Or.inr ⟨_,_,rfl,?_⟩)) | exact Or.inl rfl | refine Or.inr ?_)) hrx (fun r os' tk' hΦ h1 h2=>?_)
      obtain ⟨rfl,rfl,rfl⟩:=hΦ
      refine call_os 1 1 en232 rfl rfl rfl (by repeat' (first | exact rfl | exact trivial | exact Or.inr (Or.inl ⟨_,rfl⟩) | exact Or.inr ⟨_,rfl⟩ | exact Or.inl ⟨rfl,rfl⟩ | exact Or.inl rfl | refine Or.inr ⟨_,_,rfl,Nat.zero_le _,rfl,?_⟩ | refine ⟨_,_,rfl,?_,?_⟩ | refine ⟨_,rfl,?_⟩ | exact ⟨Nat.le_of_ble_eq_true rfl,rfl⟩ | refine Or.inr (Or.inr (Or.inr ⟨_,_,rfl,?_⟩)) | exact Or.inl rfl | refine Or.inr ?_)) (by repeat' (first | exact rfl | exact trivial | exact Or.inr (Or.inl ⟨_,rfl⟩) | exact Or.inr ⟨_,rfl⟩ | exact Or.inl ⟨rfl,rfl⟩ | exact Or.inl rfl | refine Or.inr ⟨_,_,rfl,Nat.zero_le _,rfl,?_⟩ | refine ⟨_,_,rfl,?_,?_⟩ | refine ⟨_,rfl,?_⟩ | exact ⟨Nat.le_of_ble_eq_true rfl,rfl⟩ | refine Or.inr (Or.inr (Or.inr ⟨_,_,rfl,?_⟩)) | exact Or.inl rfl | refine Or.inr ?_)) hrec (fun r os' tk' hΦ h1 h2=>?_)
      obtain ⟨rfl,rfl,rfl⟩:=hΦ
      exact ⟨awSt PC LC obs dp (O ++ G (e + 1)) (O ++ G e ++ RR).length ⟨[],nd,l,2⟩ d (e + 1),(weak_b 3 rfl (by repeat' (first | exact rfl | exact we_rfl rfl | exact we_int (nxt hlt (by omega)) | exact we_sl hsn2 rfl | refine ⟨_,_,rfl,?_,?_⟩)) rfl rfl rfl (by repeat' (first | exact trivial | exact we_rfl rfl | exact we_int (nxt hlt (by omega)) | exact we_sl hsn2 rfl | refine ⟨⟨_,rfl,?_⟩,?_⟩))),d.edges.length - (e + 1),by omega,e + 1,_,rfl,hql,by omega,rfl⟩
    ·have hge:e=d.edges.length:=by have:=hLo;simp [hdle] at this;omega
     subst hge
     exact ⟨_,[wkC PC LC obs dp (O ++ G d.edges.length)],ax,(by repeat' (first | exact rfl | exact trivial | exact Or.inr (Or.inl ⟨_,rfl⟩) | exact Or.inr ⟨_,rfl⟩ | exact Or.inl ⟨rfl,rfl⟩ | exact Or.inl rfl | refine Or.inr ⟨_,_,rfl,Nat.zero_le _,rfl,?_⟩ | refine ⟨_,_,rfl,?_,?_⟩ | refine ⟨_,rfl,?_⟩ | exact ⟨Nat.le_of_ble_eq_true rfl,rfl⟩ | refine Or.inr (Or.inr (Or.inr ⟨_,_,rfl,?_⟩)) | exact Or.inl rfl | refine Or.inr ?_)),rfl,rfl,rfl⟩
   ·refine ev_go (P:=Tryz.prog) tt tt_ok 5000 71 [] Tryz.func232 rfl Tryz.ntmps232 rfl (Nat.le_of_ble_eq_true rfl) (fun E9 w9 hn9 hm9=>?_)
    refine br (fun c=>absurd c (by simp [hOl];omega)) (fun _=>?_)
    refine drawG_s mo (by decide +kernel) ?_
    refine ⟨hOl,⟨by rw [hOl];simp [maxLen];omega,by rw [hOl];simp;omega⟩,?_⟩
    refine drawG_i (fun _=>false) mo (by decide +kernel) ?_
    refine br (fun c=>absurd c (by
     simp [pickB_or,hdl]
     simp at hps
     omega)) (fun _=>?_)
    apply drawG_a (fun _=>false) (.op 0 (.op 1 (.op 2 (.op 3 (.op 4 (.op 5 (.ev 6 (.op 7 (.op 8 (.op 9 (.ev 10 (.ev 11 (.op 12 .fin) .stop) .stop)))) (.ev 10 (.ev 6 (.op 7 (.op 8 (.op 9 (.ev 11 (.op 12 .fin) .stop)))) .stop) .stop)))))))) mo (by decide +kernel);·repeat' (first | refine callD_p en18 (hnode) ax rfl ?_ | exact trivial | exact Or.inl rfl | exact endS | refine ⟨?_,?_⟩)
    refine loop_i (fun j st=>∃ e q:Nat,st=awSt PC LC obs dp (O ++ G e) q ⟨s0 :: p,nd,l,2⟩ d e∧q=(O ++ G e).length∧e≤d.edges.length∧j=d.edges.length - e) d.edges.length
     (awSt PC LC obs dp (O ++ G 0) (O.length + 1) ⟨s0 :: p,nd,l,2⟩ d 0) (weak_b 3 rfl (by repeat' (first | exact rfl | exact we_rfl rfl | exact we_sl hsn0 rfl | refine ⟨_,_,rfl,?_,?_⟩)) rfl rfl rfl (by repeat' (first | exact trivial | exact we_rfl rfl | exact we_sl hsn0 rfl | refine ⟨⟨_,rfl,?_⟩,?_⟩))) ⟨0,O.length + 1,rfl,hGl0.symm,by omega,by omega⟩ ?_
    rintro j st ⟨e,q,rfl,rfl,he,rfl⟩
    have hGe:=hrl e
    refine br (fun hLo=>?_) (fun hLo=>?_)
    ·have hlt:e < d.edges.length:=by simpa [hdle] using hLo
     obtain ⟨x,hx⟩:∃ x,d.edges[e]? = some x:=⟨_,List.getElem?_eq_getElem hlt⟩
     have hmx:=List.mem_of_getElem? hx
     have hstx:=hst x (h5 x hmx)
     have hsx:=hsucc e x hx
     have hrx:=hrow (O ++ G e) x hmx
     have hob:=hok8 x hmx
     have hto:=(hnum x hmx).1
     have hjx:=hjl x hmx
     rw [hnx x] at hsx hrx
     have hrec:=fun (h1:x.to.toNat < ND.length)=>ih ⟨(s0 :: p) ++ [stepE d x],x.to.toNat,jnF (leqS S) S.levels.length l x.label.toNat,howF (leqS S) S.levels.length obs d x l⟩ (O ++ G e) h1 hjx (by simp at hk hps ⊢<;>omega) (by simp at hps ⊢<;>omega) (by rw [List.length_append];omega)
     have hmm:1000 - (O ++ G e).length=m + 1 - (G e).length:=by rw [List.length_append];omega
     rw [hmm] at hrec
     generalize howF (leqS S) S.levels.length obs d x l=hw at hsx hrx hrec
     generalize jnF (leqS S) S.levels.length l x.label.toNat=jn at hsx hrx hrec
     generalize stepE d x=sx at hstx hsx hrx hrec
     generalize okE d x=OK at hstx hsx hrx hob
     refine ⟨_,⟨by omega,dEds_get hx⟩,?_⟩
     refine call_p en278 (hstx) ax rfl ?_
     cases OK with
     | false=>
      rw [if_neg (by simp)] at hsx
      rw [← hsx]
      exact ⟨awSt PC LC obs dp (O ++ G (e + 1)) (O ++ G (e + 1)).length ⟨s0 :: p,nd,l,2⟩ d (e + 1),(weak_b 3 rfl (by repeat' (first | exact rfl | exact we_rfl rfl | exact we_int (nxt hlt (by omega)) | refine ⟨_,_,rfl,?_,?_⟩)) rfl rfl rfl (by repeat' (first | exact trivial | exact we_rfl rfl | exact we_int (nxt hlt (by omega)) | refine ⟨⟨_,rfl,?_⟩,?_⟩))),d.edges.length - (e + 1),by omega,e + 1,_,rfl,rfl,by omega,rfl⟩
     | true=>
      rw [if_pos rfl] at hsx
      have hrec:=hrec (hto (hob rfl)).2
      have hrx:=hrx rfl
      have hRl:=hrv ⟨(s0 :: p) ++ [sx],x.to.toNat,jn,hw⟩ (m + 1 - (G e).length)
      generalize RV ⟨(s0 :: p) ++ [sx],x.to.toNat,jn,hw⟩ (m + 1 - (G e).length)=RR at hsx hrec hRl
      have hsn2:dRPs (O ++ G e ++ RR)=dRPs (O ++ G (e + 1)):=by rw [hsx,List.append_assoc]
      have hql:(O ++ G e ++ RR).length=(O ++ G (e + 1)).length:=by rw [hsx,List.append_assoc]
      refine call_os 1 1 en279 rfl rfl rfl (by repeat' (first | exact rfl | exact trivial | exact Or.inr (Or.inl ⟨_,rfl⟩) | exact Or.inr ⟨_,rfl⟩ | exact Or.inl ⟨rfl,rfl⟩ | exact Or.inl rfl | refine Or.inr ⟨_,_,rfl,Nat.zero_le _,rfl,?_⟩ | refine ⟨_,_,rfl,?_,?_⟩ | refine ⟨_,rfl,?_⟩ | exact ⟨Nat.le_of_ble_eq_true rfl,rfl⟩ | refine Or.inr (Or.inr (Or.inr ⟨_,_,rfl,?_⟩)) | exact Or.inl rfl | refine Or.inr ?_)) (by repeat' (first | exact rfl | exact trivial | exact Or.inr (Or.inl ⟨_,rfl⟩) | exact Or.inr ⟨_,rfl⟩ | exact Or.inl ⟨rfl,rfl⟩ | exact Or.inl rfl | refine Or.inr ⟨_,_,rfl,Nat.zero_le _,rfl,?_⟩ | refine ⟨_,_,rfl,?_,?_⟩ | refine ⟨_,rfl,?_⟩ | exact ⟨Nat.le_of_ble_eq_true rfl,rfl⟩ | refine Or.inr (Or.inr (Or.inr ⟨_,_,rfl,?_⟩)) | exact Or.inl rfl | refine Or.inr ?_)) hrx (fun r os' tk' hΦ h1 h2=>?_)
      obtain ⟨rfl,rfl,rfl⟩:=hΦ
      refine call_os 1 1 en232 rfl rfl rfl (by repeat' (first | exact rfl | exact trivial | exact Or.inr (Or.inl ⟨_,rfl⟩) | exact Or.inr ⟨_,rfl⟩ | exact Or.inl ⟨rfl,rfl⟩ | exact Or.inl rfl | refine Or.inr ⟨_,_,rfl,Nat.zero_le _,rfl,?_⟩ | refine ⟨_,_,rfl,?_,?_⟩ | refine ⟨_,rfl,?_⟩ | exact ⟨Nat.le_of_ble_eq_true rfl,rfl⟩ | refine Or.inr (Or.inr (Or.inr ⟨_,_,rfl,?_⟩)) | exact Or.inl rfl | refine Or.inr ?_)) (by repeat' (first | exact rfl | exact trivial | exact Or.inr (Or.inl ⟨_,rfl⟩) | exact Or.inr ⟨_,rfl⟩ | exact Or.inl ⟨rfl,rfl⟩ | exact Or.inl rfl | refine Or.inr ⟨_,_,rfl,Nat.zero_le _,rfl,?_⟩ | refine ⟨_,_,rfl,?_,?_⟩ | refine ⟨_,rfl,?_⟩ | exact ⟨Nat.le_of_ble_eq_true rfl,rfl⟩ | refine Or.inr (Or.inr (Or.inr ⟨_,_,rfl,?_⟩)) | exact Or.inl rfl | refine Or.inr ?_)) hrec (fun r os' tk' hΦ h1 h2=>?_)
      obtain ⟨rfl,rfl,rfl⟩:=hΦ
      exact ⟨awSt PC LC obs dp (O ++ G (e + 1)) (O ++ G e ++ RR).length ⟨s0 :: p,nd,l,2⟩ d (e + 1),(weak_b 3 rfl (by repeat' (first | exact rfl | exact we_rfl rfl | exact we_int (nxt hlt (by omega)) | exact we_sl hsn2 rfl | refine ⟨_,_,rfl,?_,?_⟩)) rfl rfl rfl (by repeat' (first | exact trivial | exact we_rfl rfl | exact we_int (nxt hlt (by omega)) | exact we_sl hsn2 rfl | refine ⟨⟨_,rfl,?_⟩,?_⟩))),d.edges.length - (e + 1),by omega,e + 1,_,rfl,hql,by omega,rfl⟩
    ·have hge:e=d.edges.length:=by have:=hLo;simp [hdle] at this;omega
     subst hge
     exact ⟨_,[wkC PC LC obs dp (O ++ G d.edges.length)],ax,(by repeat' (first | exact rfl | exact trivial | exact Or.inr (Or.inl ⟨_,rfl⟩) | exact Or.inr ⟨_,rfl⟩ | exact Or.inl ⟨rfl,rfl⟩ | exact Or.inl rfl | refine Or.inr ⟨_,_,rfl,Nat.zero_le _,rfl,?_⟩ | refine ⟨_,_,rfl,?_,?_⟩ | refine ⟨_,rfl,?_⟩ | exact ⟨Nat.le_of_ble_eq_true rfl,rfl⟩ | refine Or.inr (Or.inr (Or.inr ⟨_,_,rfl,?_⟩)) | exact Or.inl rfl | refine Or.inr ?_)),rfl,rfl,rfl⟩
end Go.Proofs.YtbfdbhechmhpoaaGreat
set_option maxRecDepth 100000
namespace Go.Proofs.YtbfdbhechmhpoaaGreat
open Go Go.RowKit Dv Tryz
def kindT (z:Int):ByteArray:=
 if z=1 then ⟨#[98,111,111,108]⟩ else if z=2 then ⟨#[105,110,116]⟩ else if z=3 then ⟨#[116,101,120,116]⟩ else if z=4 then ⟨#[101,110,117,109]⟩
 else if z=5 then ⟨#[108,105,115,116]⟩ else if z=6 then ⟨#[111,112,116]⟩ else if z=7 then ⟨#[114,101,99,111,114,100]⟩ else if z=8 then ⟨#[117,110,105,111,110]⟩ else ⟨#[]⟩
def howT (n:Nat):ByteArray:=if n=2 then ⟨#[115,101,101,110]⟩ else if n=1 then ⟨#[99,111,97,114,115,101]⟩ else ⟨#[104,105,100,100,101,110]⟩
theorem kindT_len (z:Int):(kindT z).size≤6:=by
 unfold kindT
 repeat' split
 all_goals decide
theorem howT_len (n:Nat):(howT n).size≤6:=by
 unfold howT
 repeat' split
 all_goals decide
theorem kind42_spec (z:Int):EvP Tryz.prog 38 [.v (.int .i64 z)] (.v (.string (kindT z))):=by
 have hF:kindT z=if z=1 then ⟨#[98,111,111,108]⟩ else if z=2 then ⟨#[105,110,116]⟩ else if z=3 then ⟨#[116,101,120,116]⟩ else if z=4 then ⟨#[101,110,117,109]⟩
  else if z=5 then ⟨#[108,105,115,116]⟩ else if z=6 then ⟨#[111,112,116]⟩ else if z=7 then ⟨#[114,101,99,111,114,100]⟩ else if z=8 then ⟨#[117,110,105,111,110]⟩ else ⟨#[]⟩:=rfl
 generalize kindT z=F at hF ⊢
 refine ev_go (P:=Tryz.prog) tt tt_ok 5000 19 [.tmp 2] Tryz.func38 rfl Tryz.ntmps38 rfl (Nat.le_of_ble_eq_true rfl) (fun E9 w9 hn9 hm9=>?_)
 refine br (fun c=>?_) (fun c=>?_)
 ·have c:z=1:=by simpa using c
  rw [if_pos c] at hF
  subst hF
  exact (rfl:_=_)
 have c1:¬ z=1:=by simpa using c
 rw [if_neg c1] at hF
 refine br (fun c=>?_) (fun c=>?_)
 ·have c:z=2:=by simpa using c
  rw [if_pos c] at hF
  subst hF
  exact (rfl:_=_)
 have c2:¬ z=2:=by simpa using c
 rw [if_neg c2] at hF
 refine br (fun c=>?_) (fun c=>?_)
 ·have c:z=3:=by simpa using c
  rw [if_pos c] at hF
  subst hF
  exact (rfl:_=_)
 have c3:¬ z=3:=by simpa using c
 rw [if_neg c3] at hF
 refine br (fun c=>?_) (fun c=>?_)
 ·have c:z=4:=by simpa using c
  rw [if_pos c] at hF
  subst hF
  exact (rfl:_=_)
 have c4:¬ z=4:=by simpa using c
 rw [if_neg c4] at hF
 refine br (fun c=>?_) (fun c=>?_)
 ·have c:z=5:=by simpa using c
  rw [if_pos c] at hF
  subst hF
  exact (rfl:_=_)
 have c5:¬ z=5:=by simpa using c
 rw [if_neg c5] at hF
 refine br (fun c=>?_) (fun c=>?_)
 ·have c:z=6:=by simpa using c
  rw [if_pos c] at hF
  subst hF
  exact (rfl:_=_)
 have c6:¬ z=6:=by simpa using c
 rw [if_neg c6] at hF
 refine br (fun c=>?_) (fun c=>?_)
 ·have c:z=7:=by simpa using c
  rw [if_pos c] at hF
  subst hF
  exact (rfl:_=_)
 have c7:¬ z=7:=by simpa using c
 rw [if_neg c7] at hF
 refine br (fun c=>?_) (fun c=>?_)
 ·have c:z=8:=by simpa using c
  rw [if_pos c] at hF
  subst hF
  exact (rfl:_=_)
 have c8:¬ z=8:=by simpa using c
 rw [if_neg c8] at hF
 subst hF
 exact (rfl:_=_)
theorem kind_spec42 (z:Int):EvP Tryz.prog 37 [.v (.int .i64 z)] (.v (.string (kindT z))):=by
 refine ev_go (P:=Tryz.prog) tt tt_ok 5000 15 [.tmp 2] Tryz.func37 rfl Tryz.ntmps37 rfl (Nat.le_of_ble_eq_true rfl) (fun E9 w9 hn9 hm9=>?_)
 refine br (fun c=>?_) (fun c=>?_)
 ·have hF:kindT z=⟨#[]⟩:=by
   simp [pickB_or] at c
   unfold kindT
   rw [if_neg (by omega),if_neg (by omega),if_neg (by omega),if_neg (by omega),if_neg (by omega),if_neg (by omega),if_neg (by omega),if_neg (by omega)]
  rw [hF]
  exact (rfl:_=_)
 ·have hz:z=1∨z=2∨z=3∨z=4∨z=5∨z=6∨z=7∨z=8:=by
   simp [pickB_or] at c
   omega
  rcases hz with rfl | rfl | rfl | rfl | rfl | rfl | rfl | rfl
  all_goals
   refine ⟨_,⟨by omega,rfl⟩,?_⟩
   exact (rfl:_=_)
theorem how_spec (n:Nat):EvP Tryz.prog 165 [.v (.int .i64 n)] (.v (.string (howT n))):=by
 have hF:howT n=if n=2 then ⟨#[115,101,101,110]⟩ else if n=1 then ⟨#[99,111,97,114,115,101]⟩ else ⟨#[104,105,100,100,101,110]⟩:=rfl
 generalize howT n=F at hF ⊢
 refine ev_go (P:=Tryz.prog) tt tt_ok 5000 8 [.tmp 2] Tryz.func165 rfl Tryz.ntmps165 rfl (Nat.le_of_ble_eq_true rfl) (fun E9 w9 hn9 hm9=>?_)
 refine br (fun c=>?_) (fun c=>?_)
 ·have c:n=2:=by simp at c;omega
  rw [if_pos c] at hF
  subst hF
  exact (rfl:_=_)
 have c:¬ n=2:=by simp at c;omega
 rw [if_neg c] at hF
 refine br (fun c=>?_) (fun c=>?_)
 ·have c:n=1:=by simp at c;omega
  rw [if_pos c] at hF
  subst hF
  exact (rfl:_=_)
 have c:¬ n=1:=by simp at c;omega
 rw [if_neg c] at hF
 subst hF
 exact (rfl:_=_)
end Go.Proofs.YtbfdbhechmhpoaaGreat
set_option maxRecDepth 100000
namespace Go.Proofs.YtbfdbhechmhpoaaGreat
open Go Go.RowKit Dv Tryz
namespace Dv
theorem drawG_wk {X:Ctx} {id:Nat} {ops:Array Oper} {k:List It} {st:St} (st':St) (hw:Weak X.n0 X.m0 st st') (h:DrawG X id ops k st'):DrawG X id ops k st:=fun E a w hr=>by
 obtain ⟨E',h'⟩:=Wk.weak hw E a w hr
 exact h E' a w h'
end Dv
theorem ccE_rows (bx:List (List DV)) (N:Nat):∀ L:List Rw42,CcE bx N (dR42s L) (dRPs L)
 | []=>by simp [dR42s,dRPs,CcE]
 | ⟨[],nd,l,h⟩ :: L=>by
  have:=ccE_rows bx N L
  simp only [dR42s,dRPs,List.map_cons,CcE] at this ⊢
  refine ⟨_,_,rfl,.inr ?_,this⟩
  exact ax
 | ⟨s :: p,nd,l,h⟩ :: L=>by
  have:=ccE_rows bx N L
  simp only [dR42s,dRPs,List.map_cons,CcE] at this ⊢
  exact ⟨_,_,rfl,.inl rfl,this⟩
theorem arows_spec {S:Sch} {ND:List Nd} {PC:List DV} (hP:PlanR S ND PC) (root:Nat) (hrt:resRoot S=root) (hrl:root < ND.length) (o dp:Int):EvP Tryz.prog 162 [.pt PC 0,.v (.int .i64 o),.v (.int .i64 dp)]
  (.sl 4 (dR42s (rowsA ND (leqS S) S.levels.length root o dp)) none):=by
 obtain ⟨LC,hlat,hLR⟩:=hP.latR
 have hlen:=hLR.len
 have hroot:=hP.root
 rw [hrt] at hroot
 have hbot:=hLR.bot
 have hA:rowsA ND (leqS S) S.levels.length root o dp=if 0≤o∧o < S.levels.length∧0≤dp then allV ND (leqS S) S.levels.length o.toNat (min dp 64).toNat root else []:=rfl
 by_cases hc:0≤o∧o < S.levels.length∧0≤dp
 ·rw [if_pos hc] at hA
  rw [hA]
  obtain ⟨h1,h2,h3⟩:=hc
  obtain ⟨ob,rfl⟩:∃ n:Nat,o=n:=⟨_,(Int.toNat_of_nonneg h1).symm⟩
  obtain ⟨de,rfl⟩:∃ n:Nat,dp=n:=⟨_,(Int.toNat_of_nonneg h3).symm⟩
  obtain ⟨dm,hdm⟩:∃ n:Nat,min (de:Int) 64=n:=⟨min de 64,by omega⟩
  have hw:=awalk_spec hP hlat hLR ob dm (by omega) (by omega) dm ⟨[],root,botF (leqS S) S.levels.length,2⟩ [] hrl (botF_lt hLR.ok) (by simp) (by simp) (by simp)
  rw [Int.toNat_natCast,hdm,Int.toNat_natCast]
  have hall:allV ND (leqS S) S.levels.length ob dm root=[] ++ rowsV ND (leqS S) S.levels.length ob dm dm ⟨[],root,botF (leqS S) S.levels.length,2⟩ (1000 - ([]:List Rw42).length):=rfl
  rw [← hall] at hw
  generalize allV ND (leqS S) S.levels.length ob dm root=V at hw ⊢
  generalize botF (leqS S) S.levels.length=bt at hw hbot
  refine ev_go (P:=Tryz.prog) tt tt_ok 5000 43 [.tmp 6] Tryz.func162 rfl Tryz.ntmps162 rfl (Nat.le_of_ble_eq_true rfl) (fun E9 w9 hn9 hm9=>?_)
  refine call_p en21 (hlat) ax rfl ?_
  refine call_p en55 (hlen) ax rfl ?_
  refine br (fun c=>absurd c (by
   simp [pickB_or]
   omega)) (fun _=>?_)
  refine call_p en21 (hlat) ax rfl ?_
  refine Dv.drawG_wk ⟨[(7,⟨[],.loc 0 0⟩),(0,⟨[],.pt PC 0⟩)],[wkC PC LC ob dm []],[rowT 0]⟩ (weak_bt 1 ⟨0,239,4,none⟩ rfl rfl rfl (by repeat' (first | exact rfl | exact we_rfl rfl | exact we_int hdm | exact we_tok (Nat.le_refl _) rfl | exact we_tok (Nat.le_refl _) rfl | refine ⟨_,_,rfl,?_,?_⟩)) rfl rfl (by repeat' (first | exact trivial | exact we_rfl rfl | exact we_int hdm | exact we_tok (Nat.le_refl _) rfl | refine ⟨⟨_,rfl,?_⟩,?_⟩))) ?_
  refine drawG_i (fun i=>Nat.beq i 9) mo (by decide +kernel) ?_
  refine callD_p en19 (hroot) ax rfl ?_
  refine callD_p en115 (hbot) ax rfl ?_
  refine callD_last rfl ?_
  refine call_os 1 1 en232 rfl rfl rfl (by repeat' (first | exact rfl | exact trivial | exact Or.inr (Or.inl ⟨_,rfl⟩) | exact Or.inr ⟨_,rfl⟩ | exact Or.inl ⟨rfl,rfl⟩ | exact Or.inl rfl | refine Or.inr ⟨_,_,rfl,Nat.zero_le _,rfl,?_⟩ | refine ⟨_,_,rfl,?_,?_⟩ | refine ⟨_,rfl,?_⟩ | exact ⟨Nat.le_of_ble_eq_true rfl,rfl⟩ | refine Or.inr (Or.inr (Or.inr ⟨_,_,rfl,?_⟩)) | exact Or.inl rfl | refine Or.inr ?_)) (by repeat' (first | exact rfl | exact trivial | exact Or.inr (Or.inl ⟨_,rfl⟩) | exact Or.inr ⟨_,rfl⟩ | exact Or.inl ⟨rfl,rfl⟩ | exact Or.inl rfl | refine Or.inr ⟨_,_,rfl,Nat.zero_le _,rfl,?_⟩ | refine ⟨_,_,rfl,?_,?_⟩ | refine ⟨_,rfl,?_⟩ | exact ⟨Nat.le_of_ble_eq_true rfl,rfl⟩ | refine Or.inr (Or.inr (Or.inr ⟨_,_,rfl,?_⟩)) | exact Or.inl rfl | refine Or.inr ?_)) hw (fun r os' tk' hΦ h1 h2=>?_)
  obtain ⟨rfl,rfl,rfl⟩:=hΦ
  exact ⟨_,(by repeat' (first | exact rfl | exact trivial | exact Or.inr (Or.inl ⟨_,rfl⟩) | exact Or.inr ⟨_,rfl⟩ | exact Or.inl ⟨rfl,rfl⟩ | exact Or.inl rfl | refine Or.inr ⟨_,_,rfl,Nat.zero_le _,rfl,?_⟩ | refine ⟨_,_,rfl,?_,?_⟩ | refine ⟨_,rfl,?_⟩ | exact Or.inr (Or.inr (Or.inr ⟨_,_,rfl,ccE_rows _ _ _⟩)) | refine Or.inr (Or.inr (Or.inr ⟨_,_,rfl,?_⟩)) | exact Or.inl rfl | refine Or.inr ?_)),rfl⟩
 ·rw [if_neg hc] at hA
  rw [hA]
  refine evp_nil ?_
  refine ev_go (P:=Tryz.prog) tt tt_ok 5000 43 [.tmp 6] Tryz.func162 rfl Tryz.ntmps162 rfl (Nat.le_of_ble_eq_true rfl) (fun E9 w9 hn9 hm9=>?_)
  refine br (fun c=>?_) (fun c=>?_)
  ·have c:0≤o:=by simpa using c
   refine call_p en21 (hlat) ax rfl ?_
   refine call_p en55 (hlen) ax rfl ?_
   refine br (fun _=>?_) (fun c2=>absurd c2 (by
    simp [pickB_or]
    omega))
   exact Or.inr ⟨rfl,rfl⟩
  ·have c:o < 0:=by
    simp at c
    exact c
   exact Or.inr ⟨rfl,rfl⟩
end Go.Proofs.YtbfdbhechmhpoaaGreat
set_option maxRecDepth 100000
namespace Go.Proofs.YtbfdbhechmhpoaaGreat
open Go Go.RowKit Dv Tryz
structure RwF (n N:Nat) (r:Rw42):Prop where
 len:r.p.length≤64
 stp:∀ s∈r.p,StpI s
 node:r.node < N
 lv:r.lv < n
 how:r.how≤2
theorem stepE_i {L N:Nat} {d:Nd} (hN:NdOK L N d) {e:Ed} (he:e∈d.edges):StpI (stepE d e):=by
 have hk8:=hN.k8
 have h0:emptyB.size=0:=rfl
 have h5:5≤d.kind:=by
  rcases Int.lt_or_le d.kind 5 with c | c
  ·rw [hN.leaf c] at he;cases he
  ·exact c
 unfold stepE StpI
 by_cases c5:d.kind=5
 ·rw [if_pos c5];refine ⟨⟨by simp only;omega,by simp only;omega⟩,by simp only;omega⟩
 rw [if_neg c5]
 by_cases c6:d.kind=6
 ·rw [if_pos c6];refine ⟨⟨by simp only;omega,by simp only;omega⟩,by simp only;omega⟩
 rw [if_neg c6]
 have hs:=nameOK_sz ((hN.many (by omega)).2.2.2 e he)
 by_cases c7:d.kind=7
 ·rw [if_pos c7];refine ⟨⟨by simp only;omega,by simp only;omega⟩,by simp only;omega⟩
 ·rw [if_neg c7];refine ⟨⟨by simp only;omega,by simp only;omega⟩,by simp only;omega⟩
theorem nextR_f {f:Nat→Nat→Bool} {n obs N:Nat} (hL:LatOK f n) {d:Nd} (hN:NdOK n N d) {e:Ed} (he:e∈d.edges) (hok:okE d e=true) {r:Rw42} (hr:RwF n N r) (hp:r.p.length < 64):RwF n N (nextR f n obs d e r):=by
 obtain ⟨hto,⟨h2,h2'⟩,h3,h3'⟩:=edge_nums (ND:=List.replicate N d) (by simpa using hN) he
 rw [List.length_replicate] at hto
 have hb:e.bare=false:=by
  cases hb:e.bare
  ·rfl
  ·have h8:=hN.bare e he hb
   unfold okE at hok
   rw [if_pos h8,hb] at hok
   cases hok
 refine ⟨?_,fun s hs=>?_,(hto hb).2,jnF_lt hL hr.lv h2',howF_le _ _ _ _ _ _⟩
 ·simp only [nextR,List.length_append,List.length_cons,List.length_nil];omega
 ·rcases List.mem_append.1 hs with h | h
  ·exact hr.stp s h
  ·rw [List.mem_singleton.1 h];exact stepE_i hN he
theorem foldG_f {f:Nat→Nat→Bool} {n obs N:Nat} (hL:LatOK f n) {F:Rw42→Nat→List Rw42} {d:Nd} (hN:NdOK n N d) {r:Rw42} (hr:RwF n N r) (hp:r.p.length < 64) {may:Nat}
  (hF:∀ r' m,RwF n N r' → r'.p.length=r.p.length + 1→∀ x∈F r' m,RwF n N x):∀ (es:List Ed) (acc:List Rw42),(∀ e∈es,e∈d.edges)→(∀ x∈acc,RwF n N x)→∀ x∈es.foldl (rowsG f n obs F d r may) acc,RwF n N x
 | [],acc,_,ha,x,hx=>ha x hx
 | e :: es,acc,hes,ha,x,hx=>by
  refine foldG_f hL hN hr hp hF es (rowsG f n obs F d r may acc e) (fun e he=>hes e (by simp [he])) (fun y hy=>?_) x hx
  unfold rowsG at hy
  split at hy
  ·rename_i hok
   rcases List.mem_append.1 hy with h | h
   ·exact ha y h
   ·exact hF _ _ (nextR_f hL hN (hes e (by simp)) hok hr hp) (by simp [nextR]) y h
  ·exact ha y hy
theorem rowsV_f {f:Nat→Nat→Bool} {n obs dep:Nat} (hL:LatOK f n) {ND:List Nd} (hok:∀ d∈ND,NdOK n ND.length d) (hdep:dep≤64):∀ (k:Nat) (r:Rw42) (may:Nat),RwF n ND.length r→∀ x∈rowsV ND f n obs dep k r may,RwF n ND.length x
 | 0,r,may,hr,x,hx=>by
  rw [rowsV] at hx
  split at hx
  ·cases hx
  ·rw [List.mem_singleton.1 hx];exact hr
 | k + 1,r,may,hr,x,hx=>by
  rw [rowsV] at hx
  split at hx
  ·cases hx
  split at hx
  ·rw [List.mem_singleton.1 hx];exact hr
  rename_i hs
  split at hx
  ·rw [List.mem_singleton.1 hx];exact hr
  rename_i d hd
  have hm:=List.mem_of_getElem? hd
  exact foldG_f hL (hok d hm) hr (by omega) (fun r' m h _=>rowsV_f hL hok hdep k r' m h) d.edges [r] (fun _ h=>h) (fun y hy=>by rw [List.mem_singleton.1 hy];exact hr) x hx
theorem rowsA_f {f:Nat→Nat→Bool} {n:Nat} (hL:LatOK f n) {ND:List Nd} (hok:∀ d∈ND,NdOK n ND.length d) {root:Nat} (hroot:root < ND.length) (o dp:Int):∀ x∈rowsA ND f n root o dp,RwF n ND.length x:=by
 unfold rowsA
 split
 ·exact rowsV_f hL hok (by omega) _ _ _ ⟨by simp,fun s hs=>(by cases hs),hroot,botF_lt hL,Nat.le_refl 2⟩
 ·intro x hx;cases hx
theorem rowsA_len {f:Nat→Nat→Bool} {n:Nat} {ND:List Nd} {root:Nat} {o dp:Int}:(rowsA ND f n root o dp).length≤1000:=by
 unfold rowsA
 split
 ·exact rowsV_len _ _ _
 ·simp
def pthT (p:List Stp):List UInt8:=if pathT p=[] then [46] else pathT p
def kdN (ND:List Nd) (i:Nat):Int:=match ND[i]? with | some d=>d.kind | none=>0
def nmN (names:List ByteArray) (i:Nat):ByteArray:=match names[i]? with | some s=>s | none=>⟨#[]⟩
def lineT (ND:List Nd) (names:List ByteArray) (r:Rw42):List UInt8:=
 pthT r.p ++ (32 :: tx (kindT (kdN ND r.node))) ++ (32 :: tx (nmN names r.lv)) ++ (32 :: tx (howT r.how)) ++ [10]
theorem pathT_len {p:List Stp} (hi:∀ s∈p,StpI s):(pathT p).length≤2112:=by
 cases hR:rightP p with
 | false=>unfold pathT;rw [hR];simp
 | true=>
  obtain ⟨h64,hall⟩:=rightP_parts hR
  rw [pathT_right hR]
  exact pathP_len hi hall h64 _
theorem pthT_len {p:List Stp} (hi:∀ s∈p,StpI s):(pthT p).length≤2112:=by
 unfold pthT
 split
 ·simp
 ·exact pathT_len hi
theorem nmN_len {names:List ByteArray} (h:∀ s∈names,s.size≤32) (i:Nat):(nmN names i).size≤32:=by
 unfold nmN
 split
 ·rename_i s hs
  exact h s (List.mem_of_getElem? hs)
 ·decide
theorem lineT_len {ND:List Nd} {names:List ByteArray} (h:∀ s∈names,s.size≤32) {r:Rw42} (hi:∀ s∈r.p,StpI s):(lineT ND names r).length≤2200:=by
 have h1:=pthT_len hi
 have h2:=nmN_len h r.lv
 have h3:=kindT_len (kdN ND r.node)
 have h4:=howT_len r.how
 unfold lineT
 simp only [List.length_append,List.length_cons,List.length_nil,tx_len]
 omega
theorem lineT_ne {ND:List Nd} {names:List ByteArray} {r:Rw42}:lineT ND names r ≠ []:=by
 unfold lineT;simp
end Go.Proofs.YtbfdbhechmhpoaaGreat
set_option maxRecDepth 100000
namespace Go.Proofs.YtbfdbhechmhpoaaGreat
open Go Go.RowKit Dv Tryz
def linesT (ND:List Nd) (names:List ByteArray) (L:List Rw42) (e:Nat):List UInt8:=((L.take e).map (lineT ND names)).flatten
theorem linesT_succ {ND:List Nd} {names:List ByteArray} {L:List Rw42} {e:Nat} {x:Rw42} (h:L[e]? = some x):linesT ND names L (e + 1)=linesT ND names L e ++ lineT ND names x:=by
 unfold linesT
 rw [List.take_add_one,h]
 simp
theorem lines_len {ND:List Nd} {names:List ByteArray} (h:∀ s∈names,s.size≤32):∀ {L:List Rw42},(∀ r∈L,∀ s∈r.p,StpI s)→((L.map (lineT ND names)).flatten).length≤2200 * L.length
 | [],_=>by simp
 | r :: L,hi=>by
  have h1:=lineT_len (ND:=ND) h (hi r (by simp))
  have h2:=lines_len (ND:=ND) h (L:=L) (fun x hx=>hi x (by simp [hx]))
  simp only [List.map_cons,List.flatten_cons,List.length_append,List.length_cons]
  omega
theorem linesT_len {ND:List Nd} {names:List ByteArray} (h:∀ s∈names,s.size≤32) {L:List Rw42} (hl:L.length≤1000) (hi:∀ r∈L,∀ s∈r.p,StpI s) (e:Nat):(linesT ND names L e).length≤2200000:=by
 have h1:=lines_len (ND:=ND) h (L:=L.take e) (fun r hr=>hi r (List.mem_of_mem_take hr))
 have h2:(L.take e).length≤L.length:=by rw [List.length_take];omega
 unfold linesT
 omega
def auditT (ND:List Nd) (names:List ByteArray) (L:List Rw42):List UInt8:=(L.map (lineT ND names)).flatten
theorem linesT_all {ND:List Nd} {names:List ByteArray} {L:List Rw42}:linesT ND names L L.length=auditT ND names L:=by
 unfold linesT auditT
 rw [List.take_length]
abbrev at0St (PC:List DV) (L:List Rw42):St:=⟨[(0,⟨[],.pt PC 0⟩),(7,⟨[],.loc 0 0⟩),(16,⟨[],.sl 4 (dR42s L) none⟩),(17,⟨[],.v (.int .i64 (dR42s L).length)⟩),(18,⟨[],.v (.int .i64 (0:Nat))⟩)],[[.v (.pointer none),.v (.slice none 0 0)]],[]⟩
abbrev atSt (PC:List DV) (L:List Rw42) (T:List UInt8) (e:Nat):St:=⟨[(0,⟨[],.pt PC 0⟩),(7,⟨[],.loc 0 0⟩),(16,⟨[],.sl 4 (dR42s L) none⟩),(17,⟨[],.v (.int .i64 (dR42s L).length)⟩),(18,⟨[],.v (.int .i64 e)⟩)],[[.loc 0 0,.sl 1 (bD T) (some 0)]],[⟨T.length,5,1,none⟩]⟩
theorem lev_names {S:Sch} (hF:FineS S):∀ s∈nmTx S.levels,s.size≤32:=by
 have h:=(latF_parts hF.lat).2.1
 have h2:=(listed_all fun j x hx=>by
  have h3:(enumL S.levels 0 S.levels).1=0:=h
  have:=enumL_all (all:=S.levels) (i:=0) h3 j x hx
  rwa [Nat.zero_add] at this).2
 intro s hs
 obtain ⟨w,hw,rfl⟩:=List.mem_map.1 hs
 exact nameOK_sz (h2 w hw)
set_option maxHeartbeats 4000000 in
theorem atext_spec {S:Sch} {ND:List Nd} {PC:List DV} (hP:PlanR S ND PC) (root:Nat) (hrt:resRoot S=root) (hrl:root < ND.length) (o dp:Int):EvP Tryz.prog 89 [.pt PC 0,.v (.int .i64 o),.v (.int .i64 dp)]
  (.v (.string (ba (auditT ND (nmTx S.levels) (rowsA ND (leqS S) S.levels.length root o dp))))):=by
 obtain ⟨LC,hlat,hLR⟩:=hP.latR
 have hrows:=arows_spec hP root hrt hrl o dp
 have hfs:=rowsA_f hLR.ok hP.ok hrl o dp
 have hll:=rowsA_len (ND:=ND) (f:=leqS S) (n:=S.levels.length) (root:=root) (o:=o) (dp:=dp)
 have hnames:=lev_names hP.fine
 have hnl:=nmTx_len S.levels
 generalize rowsA ND (leqS S) S.levels.length root o dp=L at hrows hfs hll ⊢
 have hdl:=dR42s_len L
 have hsT:=fun e=>linesT_len (ND:=ND) hnames hll (fun r hr=>(hfs r hr).stp) e
 rw [← linesT_all]
 refine evB_gob (s:=false) (bt:=[(0,235)]) (hbt:=fun p hp=>Nat.zero_le _) (P:=Tryz.prog) tt tt_ok 5000 56 [.tmp 6] Tryz.func89 rfl Tryz.ntmps89 rfl (Nat.le_of_ble_eq_true rfl) (fun E9 w9 hn9 hm9=>?_)
 refine call_p en162 (hrows) ax rfl ?_
 refine loop_i (fun j st=>∃ e:Nat,((e=0∧st=at0St PC L)∨(linesT ND (nmTx S.levels) L e ≠ []∧st=atSt PC L (linesT ND (nmTx S.levels) L e) e))∧e≤L.length∧j=L.length - e) L.length (at0St PC L) (weak_mk ⟨_,rfl⟩ wA rfl rfl rfl wB) ⟨0,.inl ⟨rfl,rfl⟩,by omega,by omega⟩ ?_
 rintro j st ⟨e,(⟨rfl,rfl⟩ | ⟨hT0,rfl⟩),he,rfl⟩
 ·refine br (fun hL=>?_) (fun hL=>?_)
  ·have hlt:0 < L.length:=by simpa [hdl] using hL
   obtain ⟨x,hx⟩:∃ x,L[0]? = some x:=⟨_,List.getElem?_eq_getElem hlt⟩
   have hxf:=hfs x (List.mem_of_getElem? hx)
   have hf:=pfmt_spec x.p hxf.stp
   obtain ⟨d,hd⟩:∃ d,ND[x.node]? = some d:=⟨_,List.getElem?_eq_getElem hxf.node⟩
   have hnode:=hP.node x.node d hd
   obtain ⟨w,hw⟩:∃ w,(nmTx S.levels)[x.lv]? = some w:=⟨_,List.getElem?_eq_getElem (by rw [hnl];exact hxf.lv)⟩
   have hname:=hLR.name x.lv w hw
   have hws:=hnames w (List.mem_of_getElem? hw)
   have hk:=kind_spec42 d.kind
   have hkl:=kindT_len d.kind
   have hh:=how_spec x.how
   have hhl:=howT_len x.how
   have hpl:=pathT_len hxf.stp
   have hLT:lineT ND (nmTx S.levels) x=(if pathT x.p=[] then [46] else pathT x.p) ++ (32 :: tx (kindT d.kind)) ++ (32 :: tx w) ++ (32 :: tx (howT x.how)) ++ [10]:=by
    have h1:kdN ND x.node=d.kind:=by unfold kdN;rw [hd]
    have h2:nmN (nmTx S.levels) x.lv=w:=by unfold nmN;rw [hw]
    rw [lineT,h1,h2];all_goals rfl
   have hne:=lineT_ne (ND:=ND) (names:=nmTx S.levels) (r:=x)
   have hsn:=linesT_succ (ND:=ND) (names:=nmTx S.levels) hx
   have hl1:=hsT (0 + 1)
   have hp0:linesT ND (nmTx S.levels) L 0=[]:=rfl
   rw [hp0,List.nil_append] at hsn
   have hnn:linesT ND (nmTx S.levels) L (0 + 1) ≠ []:=by rw [hsn];simp [hne]
   clear hxf hrows
   obtain ⟨p,nd,l,h⟩:=x
   simp only at hf hd hnode hw hname hh hhl hpl hLT
   generalize pathT p=PT at hf hpl hLT
   generalize howT h=HT at hh hhl hLT
   obtain ⟨kind,at',lo,hi,most,names,es⟩:=d
   simp only at hLT hk hkl
   generalize kindT kind=KT at hk hkl hLT
   rw [hLT] at hsn
   refine ⟨_,⟨by omega,dR42s_get hx⟩,?_⟩
   refine call_p en163 (hf) ax rfl ?_
   refine br (fun c=>?_) (fun c=>?_)
   ·have c:PT=[]:=by
     have:=of_decide_eq_true c
     have:=congrArg tx this
     rwa [tx_ba] at this
    rw [if_pos c] at hsn
    refine call_p en18 (hnode) ax rfl ?_
    refine drawG_i (fun i=>Nat.beq i 19) mo (by decide +kernel) ?_
    refine ⟨by (simp only [sz_app,sz_ba,List.length_cons,List.length_nil];omega),?_⟩
    refine callD_p en37 (hk) ax rfl ?_
    refine ⟨by (simp only [sz_app,sz_ba,List.length_cons,List.length_nil];omega),?_⟩
    refine ⟨by (simp only [sz_app,sz_ba,List.length_cons,List.length_nil];omega),?_⟩
    refine callD_p en21 (hlat) ax rfl ?_
    refine callD_p en22 (hname) ax rfl ?_
    refine ⟨by (simp only [sz_app,sz_ba,List.length_cons,List.length_nil];omega),?_⟩
    refine ⟨by (simp only [sz_app,sz_ba,List.length_cons,List.length_nil];omega),?_⟩
    refine callD_p en165 (hh) ax rfl ?_
    refine ⟨by (simp only [sz_app,sz_ba,List.length_cons,List.length_nil];omega),?_⟩
    refine ⟨by (simp only [sz_app,sz_ba,List.length_cons,List.length_nil];omega),?_⟩
    refine callD_last rfl (call_bwl rfl (linesT ND (nmTx S.levels) L (0 + 1)) (l:=[]) (kt:=0) (by rw [hsn];simp [tx]) (.head _) rfl (.inl rfl) (.inl ⟨rfl,rfl,rfl,rfl⟩) (by (simp only [sz_app,sz_ba,List.length_cons,List.length_nil];omega)) (by omega) rfl ?_)
    exact ⟨atSt PC L (linesT ND (nmTx S.levels) L (0 + 1)) (0 + 1),(weak_mk ⟨_,rfl⟩ wA rfl rfl rfl (by repeat' (first | exact trivial | exact we_rfl rfl | exact we_int (nxt hlt (by omega)) | refine ⟨⟨_,rfl,?_⟩,?_⟩))),L.length - (0 + 1),by omega,0 + 1,.inr ⟨hnn,rfl⟩,by omega,rfl⟩
   ·have c:¬ PT=[]:=fun h=>by
     have:=of_decide_eq_false c
     rw [h] at this
     exact this rfl
    rw [if_neg c] at hsn
    refine call_p en18 (hnode) ax rfl ?_
    refine drawG_i (fun i=>Nat.beq i 19) mo (by decide +kernel) ?_
    refine ⟨by (simp only [sz_app,sz_ba,List.length_cons,List.length_nil];omega),?_⟩
    refine callD_p en37 (hk) ax rfl ?_
    refine ⟨by (simp only [sz_app,sz_ba,List.length_cons,List.length_nil];omega),?_⟩
    refine ⟨by (simp only [sz_app,sz_ba,List.length_cons,List.length_nil];omega),?_⟩
    refine callD_p en21 (hlat) ax rfl ?_
    refine callD_p en22 (hname) ax rfl ?_
    refine ⟨by (simp only [sz_app,sz_ba,List.length_cons,List.length_nil];omega),?_⟩
    refine ⟨by (simp only [sz_app,sz_ba,List.length_cons,List.length_nil];omega),?_⟩
    refine callD_p en165 (hh) ax rfl ?_
    refine ⟨by (simp only [sz_app,sz_ba,List.length_cons,List.length_nil];omega),?_⟩
    refine ⟨by (simp only [sz_app,sz_ba,List.length_cons,List.length_nil];omega),?_⟩
    refine callD_last rfl (call_bwl rfl (linesT ND (nmTx S.levels) L (0 + 1)) (l:=[]) (kt:=0) (by rw [hsn];simp [tx]) (.head _) rfl (.inl rfl) (.inl ⟨rfl,rfl,rfl,rfl⟩) (by (simp only [sz_app,sz_ba,List.length_cons,List.length_nil];omega)) (by omega) rfl ?_)
    exact ⟨atSt PC L (linesT ND (nmTx S.levels) L (0 + 1)) (0 + 1),(weak_mk ⟨_,rfl⟩ wA rfl rfl rfl (by repeat' (first | exact trivial | exact we_rfl rfl | exact we_int (nxt hlt (by omega)) | refine ⟨⟨_,rfl,?_⟩,?_⟩))),L.length - (0 + 1),by omega,0 + 1,.inr ⟨hnn,rfl⟩,by omega,rfl⟩
  ·have hge:L.length=0:=by have:=hL;simp [hdl] at this;first | omega | simp [this]
   rw [hge]
   refine call_bs0 rfl (.head _) rfl rfl rfl rfl ?_
   exact (rfl:_=_)
 ·refine br (fun hL=>?_) (fun hL=>?_)
  ·have hlt:e < L.length:=by simpa [hdl] using hL
   obtain ⟨x,hx⟩:∃ x,L[e]? = some x:=⟨_,List.getElem?_eq_getElem hlt⟩
   have hxf:=hfs x (List.mem_of_getElem? hx)
   have hf:=pfmt_spec x.p hxf.stp
   obtain ⟨d,hd⟩:∃ d,ND[x.node]? = some d:=⟨_,List.getElem?_eq_getElem hxf.node⟩
   have hnode:=hP.node x.node d hd
   obtain ⟨w,hw⟩:∃ w,(nmTx S.levels)[x.lv]? = some w:=⟨_,List.getElem?_eq_getElem (by rw [hnl];exact hxf.lv)⟩
   have hname:=hLR.name x.lv w hw
   have hws:=hnames w (List.mem_of_getElem? hw)
   have hk:=kind_spec42 d.kind
   have hkl:=kindT_len d.kind
   have hh:=how_spec x.how
   have hhl:=howT_len x.how
   have hpl:=pathT_len hxf.stp
   have hLT:lineT ND (nmTx S.levels) x=(if pathT x.p=[] then [46] else pathT x.p) ++ (32 :: tx (kindT d.kind)) ++ (32 :: tx w) ++ (32 :: tx (howT x.how)) ++ [10]:=by
    have h1:kdN ND x.node=d.kind:=by unfold kdN;rw [hd]
    have h2:nmN (nmTx S.levels) x.lv=w:=by unfold nmN;rw [hw]
    rw [lineT,h1,h2];all_goals rfl
   have hne:=lineT_ne (ND:=ND) (names:=nmTx S.levels) (r:=x)
   have hsn:=linesT_succ (ND:=ND) (names:=nmTx S.levels) hx
   have hl1:=hsT (e + 1)
   have hnn:linesT ND (nmTx S.levels) L (e + 1) ≠ []:=by rw [hsn];simp [hne]
   clear hxf hrows
   obtain ⟨p,nd,l,h⟩:=x
   simp only at hf hd hnode hw hname hh hhl hpl hLT
   generalize pathT p=PT at hf hpl hLT
   generalize howT h=HT at hh hhl hLT
   obtain ⟨kind,at',lo,hi,most,names,es⟩:=d
   simp only at hLT hk hkl
   generalize kindT kind=KT at hk hkl hLT
   rw [hLT] at hsn
   refine ⟨_,⟨by omega,dR42s_get hx⟩,?_⟩
   refine call_p en163 (hf) ax rfl ?_
   refine br (fun c=>?_) (fun c=>?_)
   ·have c:PT=[]:=by
     have:=of_decide_eq_true c
     have:=congrArg tx this
     rwa [tx_ba] at this
    rw [if_pos c] at hsn
    refine call_p en18 (hnode) ax rfl ?_
    refine drawG_i (fun i=>Nat.beq i 19) mo (by decide +kernel) ?_
    refine ⟨by (simp only [sz_app,sz_ba,List.length_cons,List.length_nil];omega),?_⟩
    refine callD_p en37 (hk) ax rfl ?_
    refine ⟨by (simp only [sz_app,sz_ba,List.length_cons,List.length_nil];omega),?_⟩
    refine ⟨by (simp only [sz_app,sz_ba,List.length_cons,List.length_nil];omega),?_⟩
    refine callD_p en21 (hlat) ax rfl ?_
    refine callD_p en22 (hname) ax rfl ?_
    refine ⟨by (simp only [sz_app,sz_ba,List.length_cons,List.length_nil];omega),?_⟩
    refine ⟨by (simp only [sz_app,sz_ba,List.length_cons,List.length_nil];omega),?_⟩
    refine callD_p en165 (hh) ax rfl ?_
    refine ⟨by (simp only [sz_app,sz_ba,List.length_cons,List.length_nil];omega),?_⟩
    refine ⟨by (simp only [sz_app,sz_ba,List.length_cons,List.length_nil];omega),?_⟩
    refine callD_last rfl (call_bwl rfl (linesT ND (nmTx S.levels) L (e + 1)) (l:=linesT ND (nmTx S.levels) L e) (kt:=0) (by rw [hsn];simp [tx]) (.head _) rfl (.inr rfl) (.inr ⟨rfl,hT0,rfl,rfl⟩) (by (simp only [sz_app,sz_ba,List.length_cons,List.length_nil];omega)) (by omega) rfl ?_)
    exact ⟨atSt PC L (linesT ND (nmTx S.levels) L (e + 1)) (e + 1),(weak_mk ⟨_,rfl⟩ wA rfl rfl rfl (by repeat' (first | exact trivial | exact we_rfl rfl | exact we_int (nxt hlt (by omega)) | refine ⟨⟨_,rfl,?_⟩,?_⟩))),L.length - (e + 1),by omega,e + 1,.inr ⟨hnn,rfl⟩,by omega,rfl⟩
   ·have c:¬ PT=[]:=fun h=>by
     have:=of_decide_eq_false c
     rw [h] at this
     exact this rfl
    rw [if_neg c] at hsn
    refine call_p en18 (hnode) ax rfl ?_
    refine drawG_i (fun i=>Nat.beq i 19) mo (by decide +kernel) ?_
    refine ⟨by (simp only [sz_app,sz_ba,List.length_cons,List.length_nil];omega),?_⟩
    refine callD_p en37 (hk) ax rfl ?_
    refine ⟨by (simp only [sz_app,sz_ba,List.length_cons,List.length_nil];omega),?_⟩
    refine ⟨by (simp only [sz_app,sz_ba,List.length_cons,List.length_nil];omega),?_⟩
    refine callD_p en21 (hlat) ax rfl ?_
    refine callD_p en22 (hname) ax rfl ?_
    refine ⟨by (simp only [sz_app,sz_ba,List.length_cons,List.length_nil];omega),?_⟩
    refine ⟨by (simp only [sz_app,sz_ba,List.length_cons,List.length_nil];omega),?_⟩
    refine callD_p en165 (hh) ax rfl ?_
    refine ⟨by (simp only [sz_app,sz_ba,List.length_cons,List.length_nil];omega),?_⟩
    refine ⟨by (simp only [sz_app,sz_ba,List.length_cons,List.length_nil];omega),?_⟩
    refine callD_last rfl (call_bwl rfl (linesT ND (nmTx S.levels) L (e + 1)) (l:=linesT ND (nmTx S.levels) L e) (kt:=0) (by rw [hsn];simp [tx]) (.head _) rfl (.inr rfl) (.inr ⟨rfl,hT0,rfl,rfl⟩) (by (simp only [sz_app,sz_ba,List.length_cons,List.length_nil];omega)) (by omega) rfl ?_)
    exact ⟨atSt PC L (linesT ND (nmTx S.levels) L (e + 1)) (e + 1),(weak_mk ⟨_,rfl⟩ wA rfl rfl rfl (by repeat' (first | exact trivial | exact we_rfl rfl | exact we_int (nxt hlt (by omega)) | refine ⟨⟨_,rfl,?_⟩,?_⟩))),L.length - (e + 1),by omega,e + 1,.inr ⟨hnn,rfl⟩,by omega,rfl⟩
  ·have hge:e=L.length:=by have:=hL;simp [hdl] at this;omega
   subst hge
   refine call_bs rfl (l:=linesT ND (nmTx S.levels) L L.length) (kt:=0) (.head _) rfl hT0 rfl rfl rfl rfl ?_
   exact (rfl:_=_)
end Go.Proofs.YtbfdbhechmhpoaaGreat
set_option maxRecDepth 100000
namespace Go.Proofs.YtbfdbhechmhpoaaGreat
open Go Go.RowKit Dv Tryz
def exS42:Sch:=⟨[⟨⟨#[97]⟩,0⟩,⟨⟨#[98]⟩,0⟩],[(⟨⟨#[97]⟩,0⟩,⟨⟨#[98]⟩,0⟩)],[],.mk (exH 1) .nil⟩
theorem ex42_fine:(resF exS42).1=0:=by decide +kernel
theorem ex42_root:resRoot exS42=(0:Nat)∧0 < (resNds exS42).length:=by decide +kernel
theorem ex42_text:auditT (resNds exS42) (nmTx exS42.levels) (rowsA (resNds exS42) (leqS exS42) exS42.levels.length 0 0 3)=[46,32,98,111,111,108,32,97,32,115,101,101,110,10]:=by decide +kernel
theorem lives42_spec:EvP Tryz.prog 31 [] (.v (.bool true)):=by
 have hwt:exS42.wt≤1099511627776:=by decide +kernel
 have hb:=(build_spec exS42 hwt).mono (Ψ:=fun r _ _=>BuiltΦ exS42 r) fun _ _ _ h=>builtΦ_of hwt h
 refine ev_go (P:=Tryz.prog) tt tt_ok 5000 23 [.tmp 0] Tryz.func31 rfl Tryz.ntmps31 rfl (Nat.le_of_ble_eq_true rfl) (fun E9 w9 hn9 hm9=>?_)
 refine call_e en16 rfl hb ax (fun r hr=>?_)
 rcases hr with ⟨hr,_⟩ | ⟨_,PC,hP,rfl⟩
 ·exact (hr ex42_fine).elim
 have ht:=atext_spec hP 0 ex42_root.1 ex42_root.2 0 3
 rw [ex42_text] at ht
 refine call_p en89 (ht) ax rfl ?_
 exact (rfl:_=_)
end Go.Proofs.YtbfdbhechmhpoaaGreat
set_option maxRecDepth 100000
namespace Go.Proofs.YtbfdbhechmhpoaaGreat
open Go Go.RowKit Dv Tryz
end Go.Proofs.YtbfdbhechmhpoaaGreat
namespace Go.Proofs.YtbfdbhechmhpoaaGreat
open Go Go.RowKit Dv
end Go.Proofs.YtbfdbhechmhpoaaGreat
set_option maxRecDepth 100000
namespace Go.Proofs.YtbfdbhechmhpoaaGreat
open Go Go.RowKit Dv Tryz
theorem cells_step:Tryz.prog.cellsOf 167=3:=by kernel_rfl
def rngStp (p:List Stp):Prop:=∀ s∈p,(-9223372036854775808≤s.k∧s.k≤9223372036854775807)∧(-9223372036854775808≤s.n∧s.n≤9223372036854775807)
def wtStp:List Stp→Nat
 | []=>0
 | s :: p=>64 + s.s.size + wtStp p
theorem wtStp_len:∀ p:List Stp,64 * p.length≤wtStp p
 | []=>Nat.le_refl _
 | s :: p=>by
  have:=wtStp_len p
  rw [wtStp,List.length_cons];omega
theorem wtStp_mem:∀ {p:List Stp} {s:Stp},s∈p→s.s.size≤wtStp p
 | s :: p,x,h=>by
  rcases List.mem_cons.1 h with rfl | h
  ·rw [wtStp];omega
  ·have:=wtStp_mem h;rw [wtStp];omega
theorem typ_stps {m:Nat}:∀ {es:List (List DV)},(∀ cs∈es,Typ Tryz.prog m 167 cs)→∃ p:List Stp,es=dStps p∧rngStp p∧wtStp p≤wgEs es
 | [],h=>⟨[],rfl,(fun _ h=>by cases h),by simp [wtStp]⟩
 | cs :: r,h=>by
  obtain ⟨p,rfl,hr,hl⟩:=typ_stps (es:=r) (fun c hc=>h c (List.mem_cons_of_mem _ hc))
  obtain ⟨m',rfl,hf⟩:=typ_st Tryz.underlying167 (h cs (by simp))
  obtain ⟨a1,b1,rfl,h1,a2,b2,rfl,h2,a3,b3,rfl,h3,rfl⟩:=hf
  obtain ⟨k,rfl,hk⟩:=typ_i h1
  obtain ⟨z,rfl,hz⟩:=typ_i h2
  obtain ⟨s,rfl⟩:=typ_str Tryz.underlying9 h3
  refine ⟨⟨k,z,s⟩ :: p,rfl,fun x hx=>?_,?_⟩
  ·rcases List.mem_cons.1 hx with rfl | hx
   ·exact ⟨hk,hz⟩
   ·exact hr x hx
  ·simp only [wtStp,wgEs,wgL_append,wgL,wgD] at *
   omega
theorem typ_path {n:Nat} {ds:List DV} (h:Typ Tryz.prog n 58 ds):∃ p:List Stp,ds=[.sl 3 (dStps p) none]∧rngStp p∧wtStp p≤wgL ds:=by
 obtain ⟨j,es,rfl,rfl,hes⟩:=typ_sl Tryz.underlying58 h
 obtain ⟨p,rfl,hr,hl⟩:=typ_stps hes
 rw [cells_step]
 exact ⟨p,rfl,hr,by simp only [wgL,wgD];omega⟩
def tyPS:List TypeId:=[58,167,9,3]
theorem tyPS_ok:∀ t∈tyPS,flatOK Tryz.prog tyPS t=true:=by
 have h:(tyPS.all fun t=>flatOK Tryz.prog tyPS t)=true:=by kernel_rfl
 exact fun t ht=>List.all_eq_true.1 h t ht
end Go.Proofs.YtbfdbhechmhpoaaGreat
set_option maxRecDepth 100000
namespace Go.Proofs.YtbfdbhechmhpoaaGreat
open Go Go.RowKit Dv Tryz
namespace Dv
open Go.ChangeShapes Go.WideShapes Go.ChangeAt
theorem arg_sl {H:Type} {enc:TypeId × Value→H} {P:Program} {W:World} {base:Nat} {S:List TypeId} {bk:DataW H→Nat} (hbk:Bk bk) (hS:∀ t∈S,flatOK P S t=true) {t e:TypeId} {v:Value} {d:DataW H} {ps:List MemPlace} (ht:t∈S) (hu:P.underlying t=some (.slice e))
  (hval:Value.okWide P W .any base t v) (h:DataW.Trod enc P W 0 (fun _=>true) true t v d ps):∃ n x,Rv (enW W) x v∧Typ P n t [x]∧wgL [x]≤64 * bk d:=by
 obtain ⟨a,len,cap,rfl⟩:=okWide_slice hu hval
 obtain ⟨n,hn⟩:=h
 obtain ⟨ds,h1,h2,h3,h4,h5⟩:=rd_trod hbk hS n t _ _ ht hn
 cases ds with
 | nil=>simp only [RvL,Value.cells] at h1;cases h1
 | cons x r=>
  simp only [RvL,Value.cells] at h1
  obtain ⟨u,s,h6,h7,h8⟩:=h1
  have h6:Value.slice a len cap=u∧s=[]:=by simpa [eq_comm] using h6
  obtain ⟨rfl,rfl⟩:=h6
  cases r with
  | nil=>exact ⟨n,x,h7,h3,h4⟩
  | cons y r=>
   simp only [RvL] at h8
   obtain ⟨_,_,h9,_⟩:=h8
   cases h9
end Dv
abbrev who42St (S:Sch) (PC W:List DV) (p:List Stp) (k:Int) (j b:Nat) (L:List Nat) (q e:Nat):St:=
 ⟨[(1,⟨[],.sl 3 (dStps p) none⟩),(2,⟨[],.v (.int .i64 k)⟩),(7,⟨[],.pt PC 0⟩),(9,⟨[],.loc 2 0⟩),(10,⟨[],.v (.int .i64 j)⟩),(11,⟨[],.v (.int .i64 b)⟩),(12,⟨[],.sl 1 (dInts L) (some 0)⟩),(13,⟨[],.v (.int .i64 e)⟩)],
  [dSch S,[.v (.int .i64 0),.v (.int .i64 0)],W],[⟨q,3,1,none⟩]⟩
abbrev whoNSt (S:Sch) (PC W:List DV) (p:List Stp) (k:Int):St:=
 ⟨[(1,⟨[],.sl 3 (dStps p) none⟩),(2,⟨[],.v (.int .i64 k)⟩),(7,⟨[],.pt PC 0⟩),(9,⟨[],.loc 2 0⟩),(10,⟨[],.v (.int .i64 (-1))⟩),(12,⟨[],.v (.slice none 0 0)⟩),(13,⟨[],.v (.int .i64 (0:Nat))⟩)],
  [dSch S,[.v (.int .i64 0),.v (.int .i64 0)],W],[]⟩
theorem who42_law (S:Sch) (hS:S.wt≤1099511627776) (_:rngS S) (p:List Stp) (hp:wtStp p≤1099511627776) (_:rngStp p) (k:Int):EvP Tryz.prog 5 [.agg (dSch S),.sl 3 (dStps p) none,.v (.int .i64 k)] (.v (.bool true)):=by
 have hf:=fine42_spec S hS
 have hb:=(build_spec S hS).mono (Ψ:=fun r _ _=>BuiltΦ S r) fun _ _ _ h=>builtΦ_of hS h
 have hw:=fun h=>build18_spec S hS h
 have hrf:=@resRoot_ok S
 have hpl:=wtStp_len p
 have hps:∀ s∈p,s.s.size≤4611686018427387904:=fun s hs=>by have:=wtStp_mem hs;omega
 have hpd:=dStps_len p
 generalize hSS:S=SS at *
 subst hSS
 obtain ⟨levels,order,types,⟨rh,rp⟩⟩:=S
 refine ev_go (P:=Tryz.prog) tt tt_ok 5000 85 [.tmp 6] Tryz.func5 rfl Tryz.ntmps5 rfl (Nat.le_of_ble_eq_true rfl) (fun E9 w9 hn9 hm9=>?_)
 refine call_e en30 rfl hf ax (fun r hr=>?_)
 obtain ⟨b,rfl,h0⟩:=hr
 cases b with
 | false=>
  refine call_p en31 (lives42_spec) ax rfl ?_
  exact (rfl:_=_)
 | true=>
  refine br (fun _=>?_) (fun _=>?_)
  ·refine call_p en31 (lives42_spec) ax rfl ?_
   exact (rfl:_=_)
  have h0:=(h0 rfl).res
  have hw:=hw h0
  refine call_e en16 rfl hb ax (fun r hr=>?_)
  rcases hr with ⟨hr,_⟩ | ⟨_,PC,hP,rfl⟩
  ·exact (hr h0).elim
  obtain ⟨root,hrt,hrl⟩:=hrf (fineS_of h0)
  have hL:=hP.latR.choose_spec.2
  rw [hrt] at hw
  have hesz:∀ n∈resNds ⟨levels,order,types,.mk rh rp⟩,n.edges.length≤1099511627776:=fun n hn=>(resNds_sz hn hS).2
  have hwho:=who_spec hP p (by omega) hps root hrt hrl
  have hbl:=botF_lt hL.ok
  have h20:=walk20_spec levels (leqS ⟨levels,order,types,.mk rh rp⟩) (resNds ⟨levels,order,types,.mk rh rp⟩) root hL.ok hL.n32 hP.ok hesz p (by omega) hps root (botF (leqS ⟨levels,order,types,.mk rh rp⟩) levels.length) hrl hbl
  have hbot:=bottom20_spec levels.length (leqS ⟨levels,order,types,.mk rh rp⟩) (by have:=hL.n32;simp only at this;omega)
  rw [botF_some hL.ok] at hbot
  have hwo:=fun j b=>walkV_ok hL.ok hP.ok p root (botF (leqS ⟨levels,order,types,.mk rh rp⟩) levels.length) (j:=j) (b:=b) hrl hbl
  have h32:=hL.n32
  simp only at hwho hbl h32 hwo hbot
  have hml:=dMatB_len levels.length (leqS ⟨levels,order,types,.mk rh rp⟩)
  have hw:EvP Tryz.prog 32 [.agg (dSch ⟨levels,order,types,.mk rh rp⟩)] (.agg (wL levels (leqS ⟨levels,order,types,.mk rh rp⟩) (resNds ⟨levels,order,types,.mk rh rp⟩) root)):=hw
  clear hL hP hrf hb hf hesz
  generalize resNds ⟨levels,order,types,.mk rh rp⟩=ND at hwho h20 hwo hw hrl
  generalize leqS ⟨levels,order,types,.mk rh rp⟩=f at hwho h20 hwo hbl hbot hml hw
  generalize botF f levels.length=bt at hwho h20 hwo hbl hbot
  generalize walkV ND f levels.length p root bt=o at hwho h20 hwo
  refine call_p en32 (hw) ax rfl ?_
  refine drawG_i (fun _=>false) mo (by decide +kernel) ?_
  refine callD_p en34 (hbot) ax rfl ?_
  refine callD_p en33 (h20) ax rfl ?_
  cases o with
  | none=>
   have hwho:EvP Tryz.prog 36 [.pt PC 0,.sl 3 (dStps p) none] (.sl 1 (dInts []) none):=hwho
   have hs:=same12_spec [] (by simp)
   refine loop_i (fun j st=>st=whoNSt ⟨levels,order,types,.mk rh rp⟩ PC (wL levels f ND root) p k∧j=0) 0 (whoNSt ⟨levels,order,types,.mk rh rp⟩ PC (wL levels f ND root) p k) (weak_b 3 rfl (by repeat' (first | exact rfl | exact we_rfl rfl | exact we_rfl rfl | refine ⟨_,_,rfl,?_,?_⟩)) rfl rfl rfl (by repeat' (first | exact trivial | exact we_rfl rfl | exact we_rfl rfl | refine ⟨⟨_,rfl,?_⟩,?_⟩))) ⟨rfl,rfl⟩ ?_
   rintro j st ⟨rfl,rfl⟩
   refine br (fun c=>absurd c (by simp [pickB_and])) (fun _=>?_)
   refine call_p en36 (hwho) ax rfl ?_
   refine call_p en35 (hs) ax rfl ?_
   refine call_p en36 (who_nil p) ax rfl ?_
   refine call_p en37 (kind_spec42 k) ax rfl ?_
   refine call_p en38 (kind42_spec k) ax rfl ?_
   refine br (fun _=>?_) (fun c=>absurd c (by simp [pickB]))
   refine call_p en31 (lives42_spec) ax rfl ?_
   exact (rfl:_=_)
  | some r=>
   obtain ⟨j,b⟩:=r
   obtain ⟨_,hbl2⟩:=hwo j b rfl
   have hwho:EvP Tryz.prog 36 [.pt PC 0,.sl 3 (dStps p) none] (.sl 1 (dInts (whoP f b levels.length)) none):=hwho
   have hs:=same12_spec (whoP f b levels.length) (by have:=whoP_len f b levels.length;omega)
   refine loop_i (fun jj st=>∃ e q:Nat,st=who42St ⟨levels,order,types,.mk rh rp⟩ PC (wL levels f ND root) p k j b (whoP f b e) q e∧q=(whoP f b e).length∧e≤levels.length∧jj=levels.length - e) levels.length
    (who42St ⟨levels,order,types,.mk rh rp⟩ PC (wL levels f ND root) p k j b [] 0 0) (weak_bt 3 ⟨0,3,1,none⟩ rfl rfl rfl (by repeat' (first | exact rfl | exact we_rfl rfl | exact we_tok (Nat.le_refl _) rfl | exact we_tok (Nat.le_refl _) rfl | refine ⟨_,_,rfl,?_,?_⟩)) rfl rfl (by repeat' (first | exact trivial | exact we_rfl rfl | exact we_tok (Nat.le_refl _) rfl | refine ⟨⟨_,rfl,?_⟩,?_⟩))) ⟨0,0,rfl,rfl,by omega,by omega⟩ ?_
   rintro _ st ⟨e,q,rfl,hq0,he,rfl⟩
   have hwl:=whoP_len f b e
   refine br (fun hL=>?_) (fun hL=>?_)
   ·have hlt:e < levels.length:=by
     have:=hL
     simp [pickB_and,hml] at this
     exact this
    have hsu:=whoP_succ f b e
    refine ⟨_,⟨by omega,mrow_get hbl2⟩,?_⟩
    refine ⟨_,⟨by omega,mcell_get hlt⟩,?_⟩
    refine br (fun g=>?_) (fun g=>?_)
    ·have g:f b e=true:=g
     rw [if_pos g] at hsu
     have hsn:=(dInts_snoc (whoP f b e) e).trans (congrArg dInts hsu.symm)
     refine ⟨by rw [dInts_len,hq0],⟨by rw [dInts_len];simp [maxLen];omega,by rw [dInts_len];simp;omega⟩,?_⟩
     exact ⟨who42St ⟨levels,order,types,.mk rh rp⟩ PC (wL levels f ND root) p k j b (whoP f b (e + 1)) (q + 1) (e + 1),(weak_b 3 rfl (by repeat' (first | exact rfl | exact we_rfl rfl | exact we_int (nxt hlt (by omega)) | exact we_sl hsn rfl | refine ⟨_,_,rfl,?_,?_⟩)) rfl rfl rfl (by repeat' (first | exact trivial | exact we_rfl rfl | exact we_int (nxt hlt (by omega)) | exact we_sl hsn rfl | refine ⟨⟨_,rfl,?_⟩,?_⟩))),levels.length - (e + 1),by omega,e + 1,q + 1,rfl,by rw [hsu,List.length_append,hq0];rfl,by omega,rfl⟩
    ·have g:f b e=false:=g
     rw [if_neg (by rw [g];simp)] at hsu
     rw [← hsu]
     exact ⟨who42St ⟨levels,order,types,.mk rh rp⟩ PC (wL levels f ND root) p k j b (whoP f b (e + 1)) q (e + 1),(weak_b 3 rfl (by repeat' (first | exact rfl | exact we_rfl rfl | exact we_int (nxt hlt (by omega)) | refine ⟨_,_,rfl,?_,?_⟩)) rfl rfl rfl (by repeat' (first | exact trivial | exact we_rfl rfl | exact we_int (nxt hlt (by omega)) | refine ⟨⟨_,rfl,?_⟩,?_⟩))),levels.length - (e + 1),by omega,e + 1,q,rfl,by rw [hsu];exact hq0,by omega,rfl⟩
   ·have hge:e=levels.length:=by
     have:=hL
     simp [pickB_and,hml] at this
     omega
    subst hge
    refine call_p en36 (hwho) ax rfl ?_
    refine call_p en35 (hs) ax rfl ?_
    refine call_p en36 (who_nil p) ax rfl ?_
    refine call_p en37 (kind_spec42 k) ax rfl ?_
    refine call_p en38 (kind42_spec k) ax rfl ?_
    refine br (fun _=>?_) (fun c=>absurd c (by simp [pickB]))
    refine call_p en31 (lives42_spec) ax rfl ?_
    exact (rfl:_=_)
end Go.Proofs.YtbfdbhechmhpoaaGreat
