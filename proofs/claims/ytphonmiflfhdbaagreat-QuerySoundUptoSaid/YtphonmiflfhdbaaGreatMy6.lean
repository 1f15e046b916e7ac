/- Part 6 of the proof: What is seen of values, and where that differs, plain; The document's Bottom, Right of paths; the program's Right of paths; The least depths of the values of a plan's nodes: plain; The program's nodes, least depths; A region that draws its order, in which a new object may come at any time among calls: its run with the object made at each of these times serves every order; Where steps lead: the document's Edge, Walk; the program's; The program's way along steps: fits, step, Walk; UTF-8: the document's begins, left, Decode; Tables of runes; the unit at a place: the program's and the document's; A text's first units: the document's Head, the program's heads, floors; Reading of values whose numbers are ints, and of arrays of two; The numbers of a plan's nodes are ints; The document's least depths; fine; the chapter's example; The program's Depths; The law of least depths: fine, the example, the call returns true; With which schemas nothing is wrong: the document's Wrong of chapters 20, 21; the law's fine; Which levels see a place: the program's Who; A region that draws its order, run by a schedule: at each point all that may come and has an effect is tried; The document's rows of an audit: With, Under, How, Rows; The document's Fits; What is seen of a value: the document's Edge, Coarse, Erase, Seen; What is seen of a value: the program's look, sees, coarsely, edge, coarse; Paths of a value: plain; tree.steps; Where steps lead in a value, and that value with another one there: plain; Rules for the evaluator: calls that hand back fresh rows; Rules for the evaluator: elements of rows whose cells nobody else knows, read and written whole; tree: slices.Index of steps, kid, clone, Get; tree.write, Raw; Written values: well formed; the document's Same on the same value; its Raw; The document's Kid, Get, Set of a value that fits; The document's Same of values, Set; ref25.Paths; The library's copyCheck of strings.Builder, laid at this program; The library's Builder at this program: what WriteString and String do to memory, exactly; Rules for the evaluator: the library's Builder, written and read; Rules for the evaluator: String of a Builder that holds nothing; The text of a path, of a row: plain, the program's, the document's; The document's rows of an audit; All rows of an audit, by the document; the law's bounds; Alike, differ: the document's; What is seen of a value: the program's erase, Erase, Hidden; Which values may be what is seen of one, plain; Which values may be what is seen of one: shell, May, outer, plain, the document's May; Which values may be what is seen of one: the program's fits, Fits, the document's Fits, Seeable; Conditions that are asked of values: plain; Conditions that are asked of values: the program's literal, right, word, numbers; Conditions that are asked of values: the program's plain, floor, units, first; Conditions that are asked of values: the program's step, end; Rules for the evaluator: the library's Builder: WriteByte, WriteString of any text; a call that is handed a Builder; Texts in quotes: plain; numbers in sixteens; Texts in quotes: numbers in sixteens, which runes may steer a terminal; Texts in quotes: short escapes, kinds of runes; Texts in quotes: the unit at a place, as it is written; Texts in quotes: the document's unit; the program's and the document's Quote; Texts in quotes: the program's and the document's Quote; How what is seen of values is written: plain; The library's strings.Repeat, laid at this program by the kit's tool (lay-plain; wip/tools/plain2tpl.py); How values without names are written: the program's and the document's Leaf; How what is seen of values is written: the program's plain, word, of; What is known of values that are written; how long their texts are: plain; tree: walk, Paths; What is different between two values: plain; How what is seen of values is written: the program's write; How what is seen of values is written: Compact; the document's open, end, Text; How what is seen of values is written: the document's Text; what is seen may be written; Documents: plain (as values); the program's Text, Line, Soft, Cat, Nest, Group; The law of what may be seen; What is seen may be written; the example of chapter 33; the laws of Leaf and Compact; The example of chapter 33; the laws of Leaf and Compact: the calls return true; The document of what is seen of a value: plain, and the program's; What is different between two values: the program's near, step, to, own; Regions that draw their order, in which two new objects may come in either order; What is different between two values: the program's walk; The program's rows of an audit: step, sees, row; The program's rows of an audit: walk, Rows; How kinds of types, and ways of seeing, are called; The program's rows of an audit: Rows; What is different between two values: the program's Diff; the document's Changes; What is different between two values: the example's texts; What is different between two values: the document's Changes; What is different between two values: the chapter's example; the law of Diff; What is different between two values: the law of Diff; A change is applied: the closure that puts a value in another's place; Rules for the evaluator: a slice literal without elements, its cells known; A clone of values; the closure that lengthens or shortens a list; A change is applied: plain; tree: put, Set; Rules for the evaluator: an element of a row whose cells nobody else knows is written, the state weakened behind it; A change is applied: the program's at; How what stands where a node is seen is written: the program's alike, Kid; Changes lead from one value to the other: plain; What is seen of a view: the program's narrow, the document's Narrow; The program's Narrow, the document's Narrow; the law; Changes lead from one value to the other: plain; A text in quotes, and a value's, is of one line: plain; A change's line; The first edge of a name; The law of what is narrowed; The level above all; what is known of views; the law of the steps of erasing; Steps of a drawn region: elements of rows whose cells nobody else knows, read and written whole; The reference of chapters 15 and 17 on schemas: Placeless, Same, Great; The law of a type's text: the call returns true; The law of schemas without places: the call returns true; What is wrong with a schema without places; the nodes of its plan; Nodes whose edges may be written: slices.Clone, Plan.Node; The law that a plan's edges lead to nodes: rows of edges, with and without places; slices.Reverse of a row of steps that nobody else knows; Alike: the program's sees, edge, step, coarsely, differ; Alike: the program's differ; Alike: the program's both, Differ, Alike; The laws of Alike and Differ; The law of being alike, without the document's answer; What steps lead to unseen, plain; the program's Unseen; Where a change is: its steps go by the edges; Conditions that are asked of values: the program's walk, Eval, All; What the document says of conditions, plain; What is seen, by an edge, at a node. No condition. -/
import Derived.OpenShut
import Derived.Shelf.Strings.OnBuilder
import Derived.Shelf.RegionOpenPlain
import Derived.Lib.Strings
import Derived.Lib.Slices
import Derived.Lib.Walk
import Derived.Lib.Builder
import Derived.Lib.AppendStr
import Derived.Lib.UnsafeStr
import Derived.WalkKit
import Derived.Laws.Externs
import Derived.Lib.Hide
import Derived.Shelf.Strings.Repeat
import Derived.Test.YtphonmiflfhdbaaGreatMy2
import Derived.Test.YtphonmiflfhdbaaGreatMy3
import Derived.Test.YtphonmiflfhdbaaGreatMy4
import Derived.Test.YtphonmiflfhdbaaGreatMy5
set_option linter.all false
set_option maxRecDepth 100000
namespace Go.Proofs.YtphonmiflfhdbaaGreat
open Go Go.RowKit Dv Go.Proofs.Tryz
def dy (d:Nd) (z:Int) (j:Nat):Option Ed:=if d.ag=7 then d.aC[j]? else if d.ag=8 then d.aC[z.toNat]? else d.aC[0]?
def iR (f:Nat->Nat->Bool) (n:Nat) (d:Nd) (e:Ed) (a:Nat):Nat:=if d.ag < 7 then a else wx f n a e.label.toNat
def ov (e:Ed):Val:=.mk 9 e.wide au []
def bE (e:Ed) (v:Val):Val:=
 if e.ck=1/\v.k=2/\(aQ v.n e.cn).2=true then .mk 10 (aQ v.n e.cn).1 au []
 else if e.ck=2/\v.k=3 then .mk 11 0 (ba (headL e.cn.toNat (tx v.s))) []
 else if e.ck=3/\v.k=5 then .mk 12 v.ks.length au []
 else ov e
section
variable (ND:List Nd) (f:Nat->Nat->Bool) (L obs:Nat)
mutual
def eraseV:Val->Int->Nat->Val
 | .mk k n s ks,i,a=>match cz ND i with
  | none=>.mk k n s []
  | some d=>.mk k n s (eraseVs ks d n a 0)
def eraseVs:List Val->Nd->Int->Nat->Nat->List Val
 | [],_,_,_,_=>[]
 | x :: r,d,z,a,j=>(match dy d z j with
  | none=>x
  | some e=>if iQ f L obs d e a=2 then eraseV x e.to (iR f L d e a) else if iQ f L obs d e a=1 then bE e x else ov e) :: eraseVs r d z a (j + 1)
end
end
section
variable {ND:List Nd} {f:Nat->Nat->Bool} {L obs:Nat}
theorem jT:∀ (ks:List Val) (d:Nd) (z:Int) (a j:Nat),(eraseVs ND f L obs ks d z a j).length=ks.length
 | [],_,_,_,_=>by rw [eraseVs]
 | x :: r,d,z,a,j=>by rw [eraseVs,List.length_cons,List.length_cons,jT r]
theorem lF (v:Val) (i:Int) (a:Nat):(eraseV ND f L obs v i a).k=v.k/\(eraseV ND f L obs v i a).n=v.n/\(eraseV ND f L obs v i a).s=v.s:=by
 obtain ⟨k,n,s,ks⟩:=v;rw [eraseV];cases cz ND i<;>exact ⟨rfl,rfl,rfl⟩
theorem yd (u:Nat) (l:List UInt8):(headL u l).length<=l.length:=(nh u l).length_le
theorem EJ (e:Ed) (v:Val):(bE e v).wt<=v.wt:=by
 have h1:=v.dE;unfold bE
 repeat' split
 ·rw [Val.wt,eJ];show 64 + 0 + 0<=_;omega
 ·obtain ⟨k,n,s,ks⟩:=v;have h2:=yd e.cn.toNat (tx s);rw [gP] at h2;rw [Val.wt,eJ,Val.wt];have:(ba (headL e.cn.toNat (tx s))).size=(headL e.cn.toNat (tx s)).length:=by rw [<- gP,xr]
  show 64 + (ba (headL e.cn.toNat (tx s))).size + 0<=_;omega
 ·rw [Val.wt,eJ];show 64 + 0 + 0<=_;omega
 ·rw [ov,Val.wt,eJ];show 64 + 0 + 0<=_;omega
mutual
theorem ye:∀ (v:Val) (i:Int) (a:Nat),(eraseV ND f L obs v i a).wt<=v.wt
 | .mk k n s ks,i,a=>by
  rw [eraseV]
  cases cz ND i with
  | none=>rw [Val.wt,Val.wt,eJ];omega
  | some d=>
   have:=vl ks d n a 0;simp only;rw [Val.wt,Val.wt];omega
theorem vl:∀ (ks:List Val) (d:Nd) (z:Int) (a j:Nat),eJ (eraseVs ND f L obs ks d z a j)<=eJ ks
 | [],_,_,_,_=>by rw [eraseVs];exact aU _
 | x :: r,d,z,a,j=>by
  have h1:=vl r d z a (j + 1);rw [eraseVs,eJ,eJ]
  have:(match dy d z j with
   | none=>x
   | some e=>if iQ f L obs d e a=2 then eraseV ND f L obs x e.to (iR f L d e a) else if iQ f L obs d e a=1 then bE e x else ov e).wt<=x.wt:=by
   cases dy d z j with
   | none=>exact aU _
   | some e=>
    simp only;split
    ·exact ye x _ _
    ·split
     ·exact EJ e x
     ·have:=x.dE;rw [ov,Val.wt,eJ];show 64 + 0 + 0<=_;omega
  omega
end
theorem lG:∀ {ks:List Val} {d:Nd} {z:Int} {a j m:Nat} {x:Val},ks[m]? = some x->(eraseVs ND f L obs ks d z a j)[m]? = some (match dy d z (j + m) with
  | none=>x
  | some e=>if iQ f L obs d e a=2 then eraseV ND f L obs x e.to (iR f L d e a) else if iQ f L obs d e a=1 then bE e x else ov e)
 | [],_,_,_,_,_,_,h=>by cases h
 | y :: r,d,z,a,j,0,x,h=>by
  rw [eraseVs];cases h;rfl
 | y :: r,d,z,a,j,m + 1,x,h=>by
  rw [eraseVs,List.getElem?_cons_succ,lG (ks:=r) (m:=m) (x:=x) h,show j + 1 + m=j + (m + 1) by omega]
theorem LM {N:Nat} (bL:∀ n∈ND,dt N ND.length n) {v:Val} {i:Int} {d:Nd} (eu:fitV ND v i=true) (hF:LD ND v i d) {m:Nat} {x:Val} (hx:v.ks[m]? = some x) :
  ∃ e,dy d v.n m=some e/\e∈d.aC/\e.bare=false/\fitV ND x e.to=true/\Ov d v m=e.to/\5<=d.ag:=by
 have hN:=bL d (mG (bJ hF.aj).2);have hm:m < v.ks.length:=(gS hx).1;have h8:=hN.k8;have h1:=hN.k1;by_cases h5:d.ag < 5
 ·rw [hF.leaf h5] at hx;cases hx
 obtain ⟨oD,hkf⟩:=hF.kids (by omega);rcases (show (d.ag=5∨d.ag=6)∨d.ag=7∨d.ag=8 by omega) with c | c | c
 ·obtain ⟨e,he,hb,_⟩:=hN.one c;have ht0:to0 d=e.to:=by unfold to0;rw [he];all_goals rfl
  have hl:(kidsL d v)[m]? = some e.to:=by grind [kidsL]
  refine ⟨e,?_,by rw [he];exact List.mem_singleton_self e,hb,pK hkf hx hl,?_,by omega⟩
  ·grind [dy]
  ·unfold Ov;rw [ht0];rcases c with c | c
   ·rw [ap c,ap];have h2:=eu;obtain ⟨q,z,s,ks⟩:=v;rw [fitV,hF.aj] at h2
    grind [eQ]
   ·have:=hF.opt c;omega
 ·have Dh:(kidsL d v)=d.aC.map Ed.to:=by grind [kidsL]
  have eN:m < d.aC.length:=by
   rw [Dh,List.length_map] at oD;omega
  obtain ⟨e,he⟩:∃ e,d.aC[m]? = some e:=⟨_,gE eN⟩;have hl:(kidsL d v)[m]? = some e.to:=by rw [Dh,List.getElem?_map,he];all_goals rfl
  have qk:=mG he;refine ⟨e,?_,qk,?_,pK hkf hx hl,?_,by omega⟩
  ·unfold dy;rw [ap c,he]
  ·cases hb:e.bare
   ·rfl
   ·have:=hN.bare e qk hb;omega
  ·grind [Ov]
 ·obtain ⟨e,ht,he,h0,ay,hb⟩:=hF.tag c
  grind [kidsL,pK,dy,Ov]
structure LN (ND:List Nd) (d:Nd) (z:Int) (j:Nat) (x:Val) (e:Ed):Prop where
 fW:dy d z j=some e
 mem:e∈d.aC
 bare:e.bare=false
 fit:fitV ND x e.to=true
 to':Ov d (.mk 0 z au []) j=e.to
theorem pM {N:Nat} (bL:∀ n∈ND,dt N ND.length n) {v:Val} {i:Int} {d:Nd} (eu:fitV ND v i=true) (hF:LD ND v i d) {m:Nat} {x:Val} (hx:v.ks[m]? = some x):∃ e,LN ND d v.n m x e:=by
 obtain ⟨e,h1,h2,h3,h4,h5,_⟩:=LM bL eu hF hx;exact ⟨e,⟨h1,h2,h3,h4,h5⟩⟩
theorem LO {N:Nat} {d:Nd} {e:Ed} (hN:dt N ND.length d) (he:e∈d.aC) (hb:e.bare=false):0<=e.to/\∃ d',cz ND e.to=some d':=by
 obtain ⟨k,hk,ay⟩:=(hN.fW e he).to1 hb;refine ⟨by omega,ND[k],?_⟩
 grind [cz]
end
section
variable (ND:List Nd) (f:Nat->Nat->Bool) (L obs:Nat)
end
section
variable {ND:List Nd} {f:Nat->Nat->Bool} {L obs:Nat}
theorem nj (d:Nd) (e:Ed) (a:Nat):iQ f L obs d e a=if f (iR f L d e a) obs=true then 2 else if e.ck≠0/\f (wx f L a e.seen.toNat) obs=true then 1 else 0:=rfl
theorem pN {N:Nat} {d:Nd} {e:Ed} {a:Nat} (hL:dH f L) (hN:dt L N d) (hm:e∈d.aC) (ha:a < L):iR f L d e a < L:=by
 obtain ⟨k,hk,hl⟩:=(hN.fW e hm).lab;unfold iR;split
 ·exact ha
 ·exact zJ hL ha (by rw [hk,jV];exact hl)
theorem Oz {N:Nat} {d:Nd} {e:Ed} {a:Nat} (hL:dH f L) (hN:dt L N d) (hm:e∈d.aC) (ha:a < L):wx f L a e.seen.toNat < L:=by
 obtain ⟨k,hk,hl⟩:=(hN.fW e hm).seen;exact zJ hL ha (by rw [hk,jV];exact hl)
theorem LP {N:Nat} {d:Nd} {e:Ed} {a o:Nat} (hL:dH f L) (hN:dt L N d) (hm:e∈d.aC) (ha:a < L) (ho:o < L) (hb:obs < L) (eM:f o obs=true):iQ f L o d e a<=iQ f L obs d e a:=by
 have h1:=pN hL hN hm ha;have h2:=Oz hL hN hm ha;rw [nj,nj];by_cases c:f (iR f L d e a) o=true
 ·rw [ap c,ap (hL.tr _ _ _ h1 ho hb c eM)];exact aU _
 ·rw [ai c];by_cases c2:e.ck≠0/\f (wx f L a e.seen.toNat) o=true
  ·rw [ap c2];split
   ·omega
   ·rw [ap ⟨c2.1,hL.tr _ _ _ h2 ho hb c2.2 eM⟩];exact aU _
  ·rw [ai c2];omega
theorem lH (v:Val) (i:Int) (a:Nat) {d:Nd} (hd:cz ND i=some d):(eraseV ND f L obs v i a).ks.length=v.ks.length:=by
 obtain ⟨k,n,s,ks⟩:=v;rw [eraseV,hd];exact jT ks d n a 0
end
theorem LQ {α:Type} {l:List α} {e:Nat} {x:α} {p:α->Bool} (h:l[e]? = some x):(l.drop e).all p=(p x && (l.drop (e + 1)).all p):=by
 obtain ⟨h1,h2⟩:=List.getElem?_eq_some_iff.1 h;rw [List.drop_eq_getElem_cons h1,h2,List.all_cons]
theorem zM (s:fc) (hs:s.s.size<=4611686018427387904):EvP prog 144 [.agg (ve s)] (.v (.bool (du s))):=by
 have hr:=eC s.s hs;obtain ⟨k,n,t⟩:=s;have hF:du ⟨k,n,t⟩=if k=1∨k=5 then decide (n=0) && aZ t else if k=2 then decide (0<=n) && decide (t=⟨#[]⟩) else if k=3∨k=4 then decide (n=0) && decide (t=⟨#[]⟩) else false:=rfl
 generalize du ⟨k,n,t⟩=F at hF ⊢;refine eG 39 [.tmp 2] func144 rfl ntmps144 rfl fun _ _ _ _=>?_;refine br ?_ ?_<;>intro c
 ·have c:k=1:=sU c;rw [ap (.inl c)] at hF;refine br (fun _=>?_) (fun g=>absurd g (by simp [c]));refine br ?_ ?_<;>intro g
  ·have g:n=0:=sU g;refine cP yS hr ?_;refine (bA ?_:);rw [hF];simp [g,pickB]
  ·have g:¬ n=0:=sU g;refine (bA ?_:);rw [hF];simp [g,pickB]
 have c1:¬ k=1:=sU c;refine br ?_ ?_<;>intro c
 ·have c:k=5:=sU c;rw [ap (.inr c)] at hF;refine br ?_ ?_<;>intro g
  ·have g:n=0:=sU g;refine cP yS hr ?_;refine (bA ?_:);rw [hF];simp [g,pickB]
  ·have g:¬ n=0:=sU g;refine (bA ?_:);rw [hF];simp [g,pickB]
 have c5:¬ k=5:=sU c;rw [ai (by omega)] at hF;refine br ?_ ?_<;>intro c
 ·have c:k=2:=sU c;rw [ap c] at hF;refine (bA ?_:);rw [hF];cases decide (0<=n)<;>rfl
 have c2:¬ k=2:=sU c;rw [ai c2] at hF;refine br ?_ ?_<;>intro c
 ·have c:k=3:=sU c;rw [ap (.inl c)] at hF;refine br (fun _=>?_) (fun g=>absurd g (by simp [c]));refine (bA ?_:);rw [hF];cases decide (n=0)<;>rfl
 have c3:¬ k=3:=sU c;refine br ?_ ?_<;>intro c
 ·have c:k=4:=sU c;rw [ap (.inr c)] at hF;refine (bA ?_:);rw [hF];cases decide (n=0)<;>rfl
 have c4:¬ k=4:=sU c;rw [ai (by omega)] at hF;subst hF;exact (rfl:_=_)
abbrev prSt (l:List fc) (e:Nat):St:=⟨[bc 8 3 (eK l),aw 9 ((eK l).length),aw 10 e],[],[]⟩
theorem rP (l:List fc) (hs:∀ s∈l,s.s.size<=4611686018427387904):EvP prog 90 [.sl 3 (eK l) none] (.v (.bool (lE l))):=by
 have dq:=q7 l;have hF:lE l=(decide (l.length<=64) && l.all du):=rfl;generalize lE l=F at hF ⊢;refine eG 18 [.tmp 2] func90 rfl ntmps90 rfl fun _ _ _ _=>?_;refine br ?_ ?_<;>intro g
 ·have:¬ l.length<=64:=by simp [dq] at g;omega
  rw [decide_eq_false this,Bool.false_and] at hF;subst hF;exact (rfl:_=_)
 have eM:l.length<=64:=by simp [dq] at g;omega
 rw [decide_eq_true eM,Bool.true_and] at hF;refine lI (fun j st=>∃ e:Nat,st=prSt l e/\e<=l.length/\F=(l.drop e).all du/\j=l.length - e) ⟨0,rfl,by omega,hF,rfl⟩ (bl wB) ?_;rintro j st ⟨e,rfl,he,aP,rfl⟩;refine br ?_ ?_<;>intro hL
 ·have ay:e < l.length:=sV dq hL;obtain ⟨x,hx⟩:=gX ay;have h1:=zM x (hs x (mG hx));rw [LQ hx] at aP;obtain ⟨xk,xn,xs⟩:=x;refine iX (ni hx) ?_;refine cP UY h1 ?_;refine br ?_ ?_<;>intro g
  ·have g:du ⟨xk,xn,xs⟩=false:=sU g;rw [g,Bool.false_and] at aP;subst aP;exact (rfl:_=_)
  ·have g:du ⟨xk,xn,xs⟩=true:=sU g;rw [g,Bool.true_and] at aP;exact rE ⟨_,by omega,e + 1,rfl,by omega,aP,rfl⟩ (bl (cQ (nxt ay (by omega))))
 ·have hge:l.length<=e:=sV dq hL;rw [List.drop_eq_nil_of_le hge] at aP;subst aP;exact (rfl:_=_)
def ow (K:List Nat) (e:Ed):Nat:=K.getD e.to.toNat 0
def leastR (K:List Nat):List Ed->Nat->Nat
 | [],m=>m + 1
 | e :: r,m=>if ow K e=0 then 0 else leastR K r (max m (ow K e))
def ej (K:List Nat):List Ed->Nat->Nat
 | [],b=>if b=0 then 0 else b + 1
 | e :: r,b=>if e.bare=true then 1 else if 0 < ow K e/\(b=0∨ow K e < b) then ej K r (ow K e) else ej K r b
def fJ (n:Nd) (K:List Nat):Nat:=if n.ag=7 then leastR K n.aC 0 else if n.ag=8 then ej K n.aC 0 else 1
def depN (ND:List Nd):Nat->List Nat
 | 0=>List.replicate ND.length 0
 | d + 1=>ND.map fun n=>fJ n (depN ND d)
theorem fo (ND:List Nd):∀ d,(depN ND d).length=ND.length
 | 0=>by simp [depN]
 | d + 1=>by simp [depN]
theorem depN_get (ND:List Nd) (d j:Nat):(depN ND (d + 1)).getD j 0=match ND[j]? with | none=>0 | some n=>fJ n (depN ND d):=by grind [depN]
def H7 (d:Nat) (A B:List Nat):Prop:=∀ j:Nat,(0 < A.getD j 0->B.getD j 0=A.getD j 0/\A.getD j 0<=d)/\(A.getD j 0=0->B.getD j 0=0∨B.getD j 0=d + 1)
theorem Gr {d:Nat} {A B:List Nat} (h:H7 d A B) (j:Nat):B.getD j 0<=d + 1:=by
 obtain ⟨h1,h2⟩:=h j;omega
theorem mJ {K:List Nat}:∀ {es:List Ed} {m:Nat},leastR K es m=0↔∃ e∈es,ow K e=0
 | [],m=>by simp [leastR]
 | e :: r,m=>by
  rw [leastR];by_cases h:ow K e=0
  ·grind
  ·rw [ai h,mJ]
   grind
theorem rQ {d:Nat} {A B:List Nat} (hR:H7 d A B):∀ {es:List Ed} {m:Nat},0 < leastR A es m->leastR B es m=leastR A es m
 | [],m,_=>rfl
 | e :: r,m,h=>by
  rw [leastR] at h ⊢;rw [leastR];by_cases h0:ow A e=0
  ·rw [ap h0] at h;omega
  rw [ai h0] at h ⊢;have h1:ow B e=ow A e:=((hR e.to.toNat).1 (by unfold ow at h0;omega)).1;rw [h1,ai h0];exact rQ hR h
theorem vm {d:Nat} {A B:List Nat} (hR:H7 d A B):∀ {es:List Ed} {m:Nat},m<=d + 1->(m=d + 1∨∃ e∈es,ow A e=0)->leastR B es m=0∨leastR B es m=d + 2
 | [],m,_,h=>by grind [leastR]
 | e :: r,m,hm,h=>by
  rw [leastR];by_cases h0:ow B e=0
  ·rw [ap h0];exact .inl rfl
  rw [ai h0];have eM:ow B e<=d + 1:=Gr hR _;refine vm hR (by omega) ?_;rcases h with h | ⟨x,hx,h⟩
  ·left;omega
  ·rcases cg hx with rfl | hx
   ·left;have:=(hR x.to.toNat).2 h;unfold ow at h0 eM ⊢;omega
   ·exact .inr ⟨x,hx,h⟩
theorem lK {d:Nat} {A B:List Nat} (hR:H7 d A B):∀ {es:List Ed} {a b:Nat},(0 < a->b=a/\a<=d)->(a=0->b=0∨b=d + 1) ->
  (0 < ej A es a->ej B es b=ej A es a)/\(ej A es a=0->ej B es b=0∨ej B es b=d + 2)
 | [],a,b,h1,h2=>by grind [ej]
 | e :: r,a,b,h1,h2=>by
  rw [ej,ej];by_cases hb:e.bare=true
  ·grind
  rw [ai hb,ai hb];obtain ⟨g1,g2⟩:=hR e.to.toNat;change (0 < ow A e->ow B e=ow A e/\ow A e<=d) at g1;change (ow A e=0->ow B e=0∨ow B e=d + 1) at g2;by_cases c1:0 < ow A e/\(a=0∨ow A e < a)<;>by_cases c2:0 < ow B e/\(b=0∨ow B e < b)
  ·rw [ap c1,ap c2];exact lK hR (by omega) (by omega)
  ·omega
  ·rw [ai c1,ap c2];exact lK hR (by omega) (by omega)
  ·rw [ai c1,ai c2];exact lK hR (by omega) (by omega)
theorem EK {d:Nat} {A B:List Nat} (hR:H7 d A B) (n:Nd):(0 < fJ n A->fJ n B=fJ n A)/\(fJ n A=0->fJ n B=0∨fJ n B=d + 2):=by
 unfold fJ;by_cases h7:n.ag=7
 ·rw [ap h7,ap h7];exact ⟨rQ hR,fun h=>vm hR (by omega) (.inr (mJ.1 h))⟩
 grind [lK]
theorem B9 (N:Nat) (e:Ed):ow (List.replicate N 0) e=0:=by grind [ow]
theorem rR (N:Nat):∀ es:List Ed,ej (List.replicate N 0) es 0=0∨ej (List.replicate N 0) es 0=1
 | []=>.inl rfl
 | e :: r=>by
  rw [ej,B9];by_cases hb:e.bare=true
  ·rw [ap hb];exact .inr rfl
  ·rw [ai hb,ai (by omega)];exact rR N r
theorem Ca (N:Nat) (n:Nd):fJ n (List.replicate N 0)=0∨fJ n (List.replicate N 0)=1:=by
 unfold fJ;by_cases h7:n.ag=7
 ·rw [ap h7]
  cases h:n.aC with
  | nil=>right;rfl
  | cons e r=>left;rw [leastR,B9,ap rfl]
 grind [rR]
theorem H8 (ND:List Nd) (j:Nat):(depN ND 0).getD j 0=0:=by grind [depN]
theorem Cb (ND:List Nd):∀ d,H7 d (depN ND d) (depN ND (d + 1))
 | 0=>fun j=>by
  refine ⟨fun h=>by rw [H8] at h;omega,fun _=>?_⟩;rw [depN_get]
  cases ND[j]? with
  | none=>exact .inl rfl
  | some n=>exact Ca _ n
 | d + 1=>fun j=>by
  have ih:=Cb ND d
  grind [depN_get,EK,Gr]
def fp (K:List Nat):List Bool:=K.map fun k=>decide (0 < k)
theorem vo (K:List Nat) (j:Nat):(fp K).getD j false=decide (0 < K.getD j 0):=by grind [fp]
theorem mK (K:List Nat):(fp K).length=K.length:=by simp [fp]
theorem LR {A B:List Nat} (hl:A.length=B.length) (h:∀ j,A.getD j 0=B.getD j 0):A=B:=by
 refine List.ext_getElem hl fun j h1 h2=>?_;have:=h j
 grind
def sq (K:List Bool) (e:Ed):Bool:=e.bare || K.getD e.to.toNat false
def Gs (n:Nd) (K:List Bool):Bool:=if n.ag < 7 then true else if n.ag=7 then n.aC.all (sq K) else n.aC.any (sq K)
theorem ox {K:List Nat}:∀ {es:List Ed} {b:Nat},0 < ej K es b↔(0 < b∨es.any (sq (fp K))=true)
 | [],b=>by grind [ej]
 | e :: r,b=>by
  have hg:(fp K).getD e.to.toNat false=decide (0 < ow K e):=vo K _;rw [ej,List.any_cons];by_cases hb:e.bare=true
  ·rw [ap hb];simp [sq,hb]
  ·rw [ai hb]
   have v8:sq (fp K) e=decide (0 < ow K e):=by
    unfold sq;rw [hg];simp [hb]
   rw [v8,Bool.or_eq_true,decide_eq_true_eq];split
   ·rename_i h1;rw [ox];omega
   ·rename_i h1;rw [ox]
    grind
theorem EL {n:Nd} {K:List Nat} (h8:n.ag<=8) (hb:∀ e∈n.aC,e.bare=true->n.ag=8):(0 < fJ n K)↔Gs n (fp K)=true:=by
 unfold fJ Gs
 grind [leastR,mJ,ow,fp,vo,sq,ox]
theorem LS {ND:List Nd} (hN:∀ n∈ND,n.ag<=8/\∀ e∈n.aC,e.bare=true->n.ag=8) (d:Nat) {i:Nat} {n:Nd} (h:ND[i]? = some n) :
  (depN ND (d + 1)).getD i 0=(if Gs n (fp (depN ND d))=true/\(depN ND d).getD i 0=0 then d + 1 else (depN ND d).getD i 0) /\
  (fp (depN ND (d + 1))).getD i false=Gs n (fp (depN ND d)):=by
 obtain ⟨h8,hb⟩:=hN n (mG h);have hp:=EL (K:=depN ND d) h8 hb;have hg:(depN ND (d + 1)).getD i 0=fJ n (depN ND d):=by rw [depN_get,h]
 obtain ⟨h1,h2⟩:=(Cb ND d) i;refine ⟨?_,?_⟩
 ·grind
 ·grind [vo]
def cN (l:List Nat):List DV:=l.map fun (z:Nat)=>DV.v (.int .i64 (z:Int))
theorem LU (l:List Nat):(cN l).length=l.length:=by simp [cN]
theorem SI {l:List Nat} {i z:Nat} (h:l[i]? = some z):(cN l)[i]? = some (DV.v (.int .i64 (z:Int))):=by simp [cN,h]
theorem SJ (l:List Nat) (i z:Nat):(cN l).set i (DV.v (.int .i64 (z:Int)))=cN (l.set i z):=by simp [cN,List.map_set]
theorem vq (l:List Nat):(dInts l).flatten=cN l:=by
 induction l with
 | nil=>rfl
 | cons b r ih=>simp only [dInts,cN,List.map_cons,List.flatten_cons] at ih ⊢;rw [ih];all_goals rfl
theorem repN (n:Nat):(List.replicate n (vL [Value.int .i64 0])).flatten=cN (List.replicate n 0):=by
 induction n with
 | zero=>rfl
 | succ n ih=>simp only [List.replicate_succ,List.flatten_cons,ih];rfl
theorem cv {n m:Nat} {tk:List TkE} {l:List DV} {r:List Nat} (h:l=cN r):WeL n m tk l (cN r):=by
 subst h;refine ui _ fun x hx=>?_;obtain ⟨z,_,rfl⟩:=List.mem_map.1 hx;exact ⟨_,rfl⟩
theorem ms_n {bx:List (List DV)} {N n0 m0 n i:Nat} {r:List Nat} (hr:r.length=n) (hN:N<=i) (hb:bx[i]? = some (cN r)):Cc bx N n0 m0 (.sl 1 (dInts r) none) (.ms i 1 0 n n):=by
 simp only [Cc];refine Or.inr (Or.inr (Or.inl ⟨i,0,n,_,by rw [bo,hr],hN,hb,?_,?_,?_⟩))
 ·grind [vq,LU,bo]
 ·grind [dInts]
 ·intro x hx;rw [vq] at hx;obtain ⟨_,_,rfl⟩:=List.mem_map.1 hx;exact .inl ⟨_,rfl⟩
abbrev wL (lv:List Wd) (f:Nat->Nat->Bool) (ND:List Nd) (z:Int):List DV:=[.sl 2 (bw lv) none,.sl 1 (cJ (dz lv.length f)) none,.sl 7 (cI ND) none,.v (.int .i64 z)]
theorem EM (d:Nd) (e:Ed) (s:fc):EvP prog 147 [.agg (nD d),.agg (nC e),.agg (ve s)] (.v (.bool (EG d s e))):=by
 obtain ⟨ag,aK,lo,hi,most,af,es⟩:=d;obtain ⟨en,eb,ea,et,wy,ew,fQ,iS,yf,jH⟩:=e;obtain ⟨k,n,t⟩:=s
 have hF:EG ⟨ag,aK,lo,hi,most,af,es⟩ ⟨k,n,t⟩ ⟨en,eb,ea,et,wy,ew,fQ,iS,yf,jH⟩=if k=1 then decide (ag=7) && decide (en=t)
  else if k=5 then decide (ag=8) && decide (en=t) && !eb
  else if k=2 then decide (ag=5) && decide (n < most)
  else if k=3 then decide (ag=5) && decide (0 < most)
  else decide (ag=6):=rfl
 generalize EG ⟨ag,aK,lo,hi,most,af,es⟩ ⟨k,n,t⟩ ⟨en,eb,ea,et,wy,ew,fQ,iS,yf,jH⟩=F at hF ⊢;refine eG 63 [.tmp 6] func147 rfl ntmps147 rfl fun _ _ _ _=>?_;refine br ?_ ?_<;>intro c
 ·have c:k=1:=sU c;rw [ap c] at hF;refine (bA ?_:);rw [hF];simp only [ah]
 have c1:¬ k=1:=sU c;rw [ai c1] at hF;refine br ?_ ?_<;>intro c
 ·have c:k=5:=sU c;rw [ap c] at hF;refine (bA ?_:);rw [hF];simp only [ah]
 have c5:¬ k=5:=sU c;rw [ai c5] at hF;refine br ?_ ?_<;>intro c
 ·have c:k=2:=sU c;rw [ap c] at hF;refine (bA ?_:);rw [hF];simp only [ah]
 have c2:¬ k=2:=sU c;rw [ai c2] at hF;refine br ?_ ?_<;>intro c
 ·have c:k=3:=sU c;rw [ap c] at hF;refine (bA ?_:);rw [hF];simp only [ah]
 have c3:¬ k=3:=sU c;rw [ai c3] at hF;refine (bA ?_:);rw [hF]
def estW (ND:List Nd) (f:Nat->Nat->Bool) (n:Nat) (s:fc) (i a:Nat):Option (Nat × Nat):=match ND[i]? with
 | none=>none
 | some d=>match vi d s with
  | none=>none
  | some k=>match d.aC[k]? with
   | none=>none
   | some e=>some (e.to.toNat,wx f n a e.label.toNat)
theorem walkV_drop (ND:List Nd) (f:Nat->Nat->Bool) (n:Nat) (p:List fc) (e i a:Nat):walkV ND f n (p.drop e) i a=match p[e]? with
  | none=>some (i,a)
  | some s=>match estW ND f n s i a with
   | none=>none
   | some (j,b)=>walkV ND f n (p.drop (e + 1)) j b:=by
 cases hs:p[e]? with
 | none=>rw [List.drop_eq_nil_of_le (List.getElem?_eq_none_iff.1 hs)];all_goals rfl
 | some s=>
  obtain ⟨h1,h2⟩:=List.getElem?_eq_some_iff.1 hs;rw [List.drop_eq_getElem_cons h1,h2,walkV];unfold estW
  cases ND[i]? with
  | none=>rfl
  | some d=>
   simp only
   cases vi d s with
   | none=>rfl
   | some k=>
    simp only
    cases d.aC[k]? with
    | none=>rfl
    | some e=>rfl
theorem OA {f:Nat->Nat->Bool} {L:Nat} (hL:dH f L) {ND:List Nd} (bL:∀ n∈ND,dt L ND.length n) {s:fc} {i a j b:Nat} (hi:i < ND.length) (ha:a < L) (h:estW ND f L s i a=some (j,b)):j < ND.length/\b < L:=by
 have hw:=walkV_drop ND f L [s] 0 i a;simp only [List.getElem?_cons_zero,h] at hw;exact B5 hL bL [s] i a hi ha hw
def Xr (o:Option (Nat × Nat)):DV:=match o with
 | some (j,b)=>.tup [.agg [.v (.int .i64 (j:Nat)),.v (.int .i64 (b:Nat))],.v (.bool true)]
 | none=>.tup [.agg [.v (.int .i64 0),.v (.int .i64 0)],.v (.bool false)]
abbrev Xt (PC:List DV) (i a:Nat) (s:fc) (d:Nd) (e:Nat):St:=
 ⟨[nA 0 PC,aF 4 0,aF 5 1,aF 6 2,aF 8 3,bc 20 10 (gW d.aC),aw 21 ((gW d.aC).length),aw 22 e],
  [[.v (.int .i64 i),.v (.int .i64 a)],ve s,[.v (.int .i64 0),.v (.int .i64 0)],nD d],[]⟩
theorem EN {S:Sch} {ND:List Nd} {PC:List DV} (hP:jF S ND PC) (s:fc) (hr:du s=true) (i a:Nat) (hi:i < ND.length) (ha:a < S.ae.length) :
  EvP prog 93 [.pt PC 0,.agg [.v (.int .i64 i),.v (.int .i64 a)],.agg (ve s)] (Xr (estW ND (aN S) S.ae.length s i a)):=by
 obtain ⟨LC,iu,Xu⟩:=hP.Ox;obtain ⟨d,hd⟩:∃ d,ND[i]? = some d:=⟨_,gE hi⟩;have hN:=hP.ok d (mG hd);have gA:=hP.aj i d hd
 have ql:d.aC.length<=1099511627776:=by
  have:=kz (S:=S) (n:=d) (by rw [<- hP.zq];exact mG hd) hP.wt;exact this.2
 have hjn:=fun b hb=>Xu.join a b ha hb
 have hW:estW ND (aN S) S.ae.length s i a=match bg (edgeP d s) d.aC.length with
  | none=>none
  | some k=>match d.aC[k]? with
   | none=>none
   | some e=>some (e.to.toNat,wx (aN S) S.ae.length a e.label.toNat):=by
  unfold estW;simp only [hd,vi,ap hr]
 have hPe:∀ (e:Nat) x,d.aC[e]? = some x->edgeP d s e=EG d s x:=fun e x h=>by
  rw [Gn hN hr (mG h)];unfold edgeP;rw [h]
 have MU:=fun x=>EM d x s;have wh:=fun (e:Ed) (he:e∈d.aC) (h:vg d s e=true)=>And.intro ((jg hN he).1 (vj hN he h)) (jg hN he).2.1;have lT:=fun x hx=>Gn hN hr (e:=x) hx;generalize estW ND (aN S) S.ae.length s i a=R at hW ⊢;generalize edgeP d s=pE at hW hPe;generalize wx (aN S) S.ae.length a=jn at hW hjn;obtain ⟨ag,aK,lo,fX,most,af,es⟩:=d;obtain ⟨k,n,t⟩:=s;have dq:=dj es;simp only at hW hPe ql;refine eG 42 [.cell 6 184,.tmp 7] func93 rfl ntmps93 rfl fun _ _ _ _=>?_;refine cP yT gA ?_;refine lI (fun j st=>∃ e:Nat,st=Xt PC i a ⟨k,n,t⟩ ⟨ag,aK,lo,fX,most,af,es⟩ e/\e<=es.length/\(∀ c,c < e->pE c=false)/\j=es.length - e) ⟨0,rfl,by omega,fun _ h=>by omega,rfl⟩ (bl wB) ?_;rintro j st ⟨e,rfl,he,fM,rfl⟩;refine br ?_ ?_<;>intro hL
 ·have ay:e < es.length:=sV dq hL;obtain ⟨x,hx⟩:=gX ay;have YM:=hPe e x hx;have YN:=MU x;have Tz:=mG hx;have DY:=wh x Tz;have SK:=lT x Tz
  cases hv:EG ⟨ag,aK,lo,fX,most,af,es⟩ ⟨k,n,t⟩ x with
  | true=>
   rw [hv] at YM YN SK;obtain ⟨⟨h1,_⟩,h2,h3⟩:=DY SK.symm;rw [bZ ay YM fM] at hW;simp only [hx] at hW;clear wh lT DY SK MU;obtain ⟨en,eb,ea,et,wy,ew,fQ,iS,yf,jH⟩:=x;simp only at h1 h2 h3;obtain ⟨lb,rfl⟩:∃ n:Nat,wy=n:=⟨_,h2⟩;obtain ⟨tn,rfl⟩:∃ n:Nat,et=n:=⟨_,h1⟩;simp only [jV] at h3 hW;have hj:=hjn lb h3;subst hW;refine iX (cK hx) ?_;refine cP Pn YN ?_;refine dS ?_;refine cD Di iu ?_;refine cD JF hj ?_;exact ⟨_,ax,rfl⟩
  | false=>
   rw [hv] at YM YN;obtain ⟨en,eb,ea,et,wy,ew,fQ,iS,yf,jH⟩:=x;refine iX (cK hx) ?_;refine cP Pn YN ?_
   exact rE ⟨_,by omega,e + 1,rfl,by omega,fun c hc=>by
    rcases jU hc with h | h
    ·exact fM c h
    ·rw [h];exact YM,rfl⟩ (wkB 4 (nz (nxt ay (by omega))) (cQ (nxt ay (by omega))))
 ·have hge:e=es.length:=sW dq hL;subst hge;rw [b9 fM] at hW;simp only at hW;subst hW;exact ⟨_,ax,rfl⟩
def Xv (o:Option (Nat × Nat)):DV:=match o with
 | some (j,b)=>.tup [.v (.int .i64 (j:Nat)),.v (.int .i64 (b:Nat)),.v (.bool true)]
 | none=>.tup [.v (.int .i64 (-1)),.v (.int .i64 (-1)),.v (.bool false)]
abbrev Xw (PC:List DV) (p:List fc) (i a e:Nat):St:=
 ⟨[nA 0 PC,aF 7 0,bc 18 3 (eK p),aw 19 ((eK p).length),aw 20 e],[[.v (.int .i64 i),.v (.int .i64 a)]],[]⟩
theorem EO {S:Sch} {ND:List Nd} {PC:List DV} (hP:jF S ND PC) (p:List fc) (hp:p.length<=1099511627776) (hs:∀ s∈p,s.s.size<=4611686018427387904) (rt:Nat) (H9:dW S=rt) (gn:rt < ND.length) :
  EvP prog 45 [.pt PC 0,.sl 3 (eK p) none] (Xv (walkV ND (aN S) S.ae.length p rt (e9 (aN S) S.ae.length))):=by
 obtain ⟨LC,iu,Xu⟩:=hP.Ox;have fi:=hP.root;rw [H9] at fi;have uD:=Xu.bot;have hbl:=pL Xu.ok;have bh:=fun s hr i a hi ha=>EN hP s hr i a hi ha;have Tn:=walkV_drop ND (aN S) S.ae.length p;have bL:=fun {s i a j b}=>@OA _ _ Xu.ok _ hP.ok s i a j b;have dq:=q7 p;have S7:∀ s i a,du s=false->estW ND (aN S) S.ae.length s i a=none:=fun s i a h=>by grind [estW,vi]
 generalize hR:walkV ND (aN S) S.ae.length p rt (e9 (aN S) S.ae.length)=R;have Yy:walkV ND (aN S) S.ae.length (p.drop 0) rt (e9 (aN S) S.ae.length)=R:=by rw [List.drop_zero];exact hR
 clear hR;generalize e9 (aN S) S.ae.length=bt at uD hbl Yy;refine eG 42 [.tmp 4,.tmp 5,.tmp 6] func45 rfl ntmps45 rfl fun _ _ _ _=>?_;refine cP JE fi ?_;refine cP Di iu ?_;refine cP Ns uD ?_;refine lI (fun j st=>∃ e i a:Nat,st=Xw PC p i a e/\e<=p.length/\i < ND.length/\a < S.ae.length/\walkV ND (aN S) S.ae.length (p.drop e) i a=R/\j=p.length - e) ⟨0,rt,bt,rfl,by omega,gn,hbl,Yy,rfl⟩ (bl wB) ?_;rintro j st ⟨e,i,a,rfl,he,hi,ha,hw,rfl⟩;rw [Tn] at hw;refine br ?_ ?_<;>intro hL
 ·have ay:e < p.length:=sV dq hL;obtain ⟨x,hx⟩:=gX ay;have CJ:=hs x (mG hx);have hr:=rP [x] (sU CJ);rw [EF] at hr;rw [hx] at hw;simp only at hw
  cases CP:du x with
  | false=>
   rw [S7 x i a CP] at hw;simp only at hw;subst hw;rw [CP] at hr;obtain ⟨xk,xn,xt⟩:=x;refine iX (ni hx) ?_;refine cP Nv hr ?_;exact ⟨_,ax,rfl⟩
  | true=>
   have X7:=bh x CP i a hi ha;have hkx:=@bL x i a;rw [CP] at hr;generalize estW ND (aN S) S.ae.length x i a=o at hw X7 hkx;obtain ⟨xk,xn,xt⟩:=x;refine iX (ni hx) ?_;refine cP Nv hr ?_;refine cP ZW X7 ?_
   cases o with
   | none=>
    simp only at hw;subst hw;exact ⟨_,ax,rfl⟩
   | some r=>
    obtain ⟨j,b⟩:=r;simp only at hw;obtain ⟨h1,h2⟩:=hkx hi ha rfl;exact rE ⟨_,by omega,e + 1,j,b,rfl,by omega,h1,h2,hw,rfl⟩ (wkB 1 (nz (nxt ay (by omega))) (cQ (nxt ay (by omega))))
 ·have hge:p.length<=e:=sV dq hL;rw [oE hge] at hw;simp only at hw;subst hw;refine dI ?_;exact ⟨_,ax,rfl⟩
theorem OB (s:ByteArray) (n:Nat):tx (s.extract 0 n)=(tx s).take n:=by simp [tx]
def spB:List DV->Bool
 | [.v (.int .i32 _),.v (.int .i32 _)]=>true
 | _=>false
theorem LV {cs:List DV} (h:spB cs=true):∃ a b:Int,cs=[.v (.int .i32 a),.v (.int .i32 b)]:=by
 unfold spB at h;split at h
 ·exact ⟨_,_,rfl⟩
 ·cases h
theorem Xx {es:List (List DV)} (h:es.all spB=true) {i:Nat} (hi:i < es.length):∃ a b:Int,es[i]? = some [.v (.int .i32 a),.v (.int .i32 b)]:=by
 rw [List.all_eq_true] at h;obtain ⟨a,b,IK⟩:=LV (h es[i] (List.getElem_mem hi))
 grind
def IW (z:Int):List DV->Bool
 | [.v (.int .i32 a),.v (.int .i32 b)]=>decide (a<=z) && decide (z<=b)
 | _=>false
def srtB:Int->List (List DV)->Bool
 | _,[]=>true
 | m,[.v (.int .i32 a),.v (.int .i32 b)] :: r=>decide (m < a) && decide (a<=b) && srtB b r
 | _,_=>false
theorem vt {m:Int} {x:List DV} {r:List (List DV)} (h:srtB m (x :: r)=true):∃ a b:Int,x=[.v (.int .i32 a),.v (.int .i32 b)]/\m < a/\a<=b/\srtB b r=true:=by
 unfold srtB at h
 grind
theorem sQ:∀ {es:List (List DV)} {m:Int} (_:srtB m es=true) {i:Nat} {a b:Int} (_:es[i]? = some [.v (.int .i32 a),.v (.int .i32 b)]),m < a/\a<=b/\srtB b (es.drop (i + 1))=true
 | [],_,_,i,_,_,hi=>by simp at hi
 | x :: r,m,h,i,a,b,hi=>by
  obtain ⟨a0,b0,rfl,h1,h2,h3⟩:=vt h
  cases i with
  | zero=>grind
  | succ i=>
   obtain ⟨g1,g2,g3⟩:=sQ h3 (i:=i) (sU hi);exact ⟨by omega,g2,g3⟩
theorem LW {z:Int}:∀ {es:List (List DV)} {m:Int} (_:srtB m es=true) (_:z<=m),es.any (IW z)=false
 | [],_,_,_=>rfl
 | x :: r,m,h,hz=>by
  obtain ⟨a0,b0,rfl,h1,h2,h3⟩:=vt h;rw [List.any_cons,LW h3 (by omega),Bool.or_false]
  grind [IW]
theorem SL {z m:Int} {es:List (List DV)} (h:srtB m es=true) {i:Nat} {a b:Int} (hi:es[i]? = some [.v (.int .i32 a),.v (.int .i32 b)]) (hz:z < a):(es.drop i).any (IW z)=false:=by
 obtain ⟨g1,g2,g3⟩:=sQ h hi;rw [drop_cons hi,List.any_cons,LW g3 (by omega),Bool.or_false]
 grind [IW]
theorem LX {z:Int}:∀ {es:List (List DV)} {m:Int} (_:srtB m es=true) {i:Nat} {a b:Int} (_:es[i]? = some [.v (.int .i32 a),.v (.int .i32 b)]) (_:b < z),(es.take (i + 1)).any (IW z)=false
 | [],_,_,i,_,_,hi,_=>by simp at hi
 | x :: r,m,h,i,a,b,hi,hz=>by
  obtain ⟨a0,b0,rfl,h1,h2,h3⟩:=vt h
  cases i with
  | zero=>grind [IW]
  | succ i=>
   have hi:r[i]? = some [.v (.int .i32 a),.v (.int .i32 b)]:=sU hi;have g1:=(sQ h3 hi).1;have g2:=(sQ h3 hi).2.1;rw [List.take_succ_cons,List.any_cons,LX h3 hi hz,Bool.or_false]
   grind [IW]
theorem OC {es:List (List DV)} {z a b:Int} {i:Nat} (hi:es[i]? = some [.v (.int .i32 a),.v (.int .i32 b)]) (h1:a<=z) (h2:z<=b):es.any (IW z)=true:=
 List.any_eq_true.2 ⟨_,mG hi,by simp only [IW,aS,decide_eq_true_iff];omega⟩
def Xy (d:DV) (_:List (List DV)) (_:List TkE):Prop:=∃ es:List (List DV),d = .sl 2 es none/\(Nat.ble es.length 1000 && es.all spB)=true
set_option maxHeartbeats 4000000 in
theorem LY:Ev prog 275 [] [] [] Xy:=by
 refine eG 118 [.tmp 0] func275 rfl ntmps275 rfl fun _ _ _ _=>?_;exact ⟨_,ax,_,rfl,rfl⟩
set_option maxHeartbeats 4000000 in
theorem LZ:Ev prog 276 [] [] [] Xy:=by
 refine eG 84 [.tmp 0] func276 rfl ntmps276 rfl fun _ _ _ _=>?_;exact ⟨_,ax,_,rfl,rfl⟩
abbrev SM (es:List (List DV)) (z:Int) (lo hi:Nat):St:=⟨[bc 0 2 es,(1,⟨[],.v (.int .i32 z)⟩),aw 5 lo,aw 6 hi],[],[]⟩
theorem Gt (es:List (List DV)) (z:Int) (hl:es.length<=1000) (hs:es.all spB=true):Ev prog 274 [.sl 2 es none,.v (.int .i32 z)] [] [] (fun d _ _=>∃ b:Bool,d = .v (.bool b)/\∀ m,srtB m es=true->b=es.any (IW z)):=by
 refine eG 38 [.tmp 4] func274 rfl ntmps274 rfl fun _ _ _ _=>?_;refine lI (fun j st=>∃ lo hi:Nat,st=SM es z lo hi/\lo<=hi/\hi<=es.length/\(∀ m,srtB m es=true->(es.take lo).any (IW z)=false/\(es.drop hi).any (IW z)=false)/\j=hi - lo) ⟨0,es.length,rfl,by omega,by omega,fun _ _=>⟨rfl,by rw [List.drop_length];rfl⟩,rfl⟩ (bl jX) ?_;rintro j st ⟨lo,hi,rfl,h1,h2,hiv,rfl⟩;refine br ?_ ?_<;>intro hL
 rotate_left
 ·have hge:lo=hi:=by have:=of_decide_eq_false hL;omega
  refine ⟨_,rfl,fun m hm=>?_⟩;obtain ⟨g1,g2⟩:=hiv m hm;rw [<- hge] at g2;rw [<- List.take_append_drop lo es,List.any_append,g1,g2];all_goals rfl
 have ay:lo < hi:=by have:=of_decide_eq_true hL;omega
 have hm:IntKind.i64.wrap ((lo:Int) + IntKind.i64.wrap ((IntKind.i64.wrap ((hi:Int) - lo)).tdiv 2))=((lo + (hi - lo) / 2:Nat):Int):=by grind [wrap64]
 obtain ⟨a,b,IK⟩:=Xx hs (i:=lo + (hi - lo) / 2) (by omega);refine ⟨⟨rfl,by decide⟩,?_⟩;refine ⟨_,⟨by rw [hm];omega,by rw [hm,jV];exact IK⟩,?_⟩;refine br ?_ ?_<;>intro c
 ·exact ⟨SM es z lo (lo + (hi - lo) / 2),(bl (cQ hm)),lo + (hi - lo) / 2 - lo,by omega,_,_,rfl,by omega,by omega,fun m hm=>⟨(hiv m hm).1,SL hm IK (sU c)⟩,rfl⟩
 ·refine ⟨_,⟨by rw [hm];omega,by rw [hm,jV];exact IK⟩,?_⟩;have c0:=c;refine br ?_ ?_<;>intro c
  ·have yG:IntKind.i64.wrap (IntKind.i64.wrap ((lo:Int) + IntKind.i64.wrap ((IntKind.i64.wrap ((hi:Int) - lo)).tdiv 2)) + 1)=((lo + (hi - lo) / 2 + 1:Nat):Int):=by
    rw [hm,wrap64 (by omega) (by omega)];omega
   exact ⟨SM es z (lo + (hi - lo) / 2 + 1) hi,(bl (cQ yG)),hi - (lo + (hi - lo) / 2 + 1),by omega,_,_,rfl,by omega,by omega,fun m hm=>⟨LX hm IK (sU c),(hiv m hm).2⟩,rfl⟩
  ·exact ⟨_,rfl,fun _ _=>(OC IK (sU c0) (sU c)).symm⟩
theorem Cd (z:Int):Ev prog 264 [.v (.int .i32 z)] [] [] (fun d _ _=>∃ b:Bool,d = .v (.bool b)):=by
 refine eG 6 [.tmp 2] func264 rfl ntmps264 rfl fun _ _ _ _=>?_;refine cp VA rfl LY ax (fun q hq=>?_);obtain ⟨es,rfl,he⟩:=hq;rw [aS,Nat.ble_eq] at he;refine cp PE rfl (Gt es z he.1 he.2) ax (fun q hq=>?_);obtain ⟨b,rfl,_⟩:=hq;exact ⟨_,rfl⟩
theorem Ce (z:Int):Ev prog 265 [.v (.int .i32 z)] [] [] (fun d _ _=>∃ b:Bool,d = .v (.bool b)):=by
 refine eG 6 [.tmp 2] func265 rfl ntmps265 rfl fun _ _ _ _=>?_;refine cp VB rfl LZ ax (fun q hq=>?_);obtain ⟨es,rfl,he⟩:=hq;rw [aS,Nat.ble_eq] at he;refine cp PE rfl (Gt es z he.1 he.2) ax (fun q hq=>?_);obtain ⟨b,rfl,_⟩:=hq;exact ⟨_,rfl⟩
theorem Ia (z:Int):Ev prog 234 [.v (.int .i32 z)] [] [] (fun d _ _=>∃ n:Int,d = .v (.int .i64 n)):=by
 refine eG 9 [.tmp 2] func234 rfl ntmps234 rfl fun _ _ _ _=>?_;refine cp Vx rfl (Cd z) ax (fun q hq=>?_);obtain ⟨b,rfl⟩:=hq
 cases b with
 | true=>exact ⟨_,rfl⟩
 | false=>
  refine cp Vy rfl (Ce z) ax (fun q hq=>?_);obtain ⟨b,rfl⟩:=hq
  cases b with
  | true=>exact ⟨_,rfl⟩
  | false=>exact ⟨_,rfl⟩
theorem L0 (s:ByteArray) (hs:s.size<=1099511627776):EvP prog 233 [.v (.string s),.v (.int .i64 (s.size:Nat))] (.tup [.v (.int .i32 0),.v (.int .i64 0),.v (.bool false)]):=by
 refine eG 60 [.tmp 4,.tmp 5,.tmp 6] func233 rfl ntmps233 rfl fun _ _ _ _=>?_;refine br (fun _=>?_) (fun c=>absurd c (by simp [aq]));exact ⟨_,ax,rfl⟩
theorem yg (s:ByteArray) (aK:Nat) (hs:s.size<=1099511627776) (h:aK <= s.size):Ev prog 191 [.v (.string s),.v (.int .i64 aK)] [] [] (fun d _ _=>∃ c:Int,d = .tup [.v (.int .i64 c),.v (.int .i64 (j7 ((tx s).drop aK):Nat))]):=by
 cases hd:(tx s).drop aK with
 | nil=>
  have he:aK=s.size:=by
   have:=congrArg List.length hd;rw [List.length_drop,gP,List.length_nil] at this;omega
  subst he;refine eG 24 [.tmp 4,.tmp 5] func191 rfl ntmps191 rfl fun _ _ _ _=>?_;refine cP PD (L0 s hs) ?_;exact ⟨.tup [.v (.int .i64 0),.v (.int .i64 ((0:Nat):Int))],ax,_,rfl⟩
 | cons c r=>
  have hu:=H0 s aK hs c r hd;have M7:j7 (c :: r)=if okU (c :: r)=true then aX c.toNat else 1:=rfl
  rw [M7];generalize okU (c :: r)=ok at hu ⊢;refine eG 24 [.tmp 4,.tmp 5] func191 rfl ntmps191 rfl fun _ _ _ _=>?_;refine cp PD rfl hu ax (fun q hq=>?_);obtain ⟨z,n,rfl,hn,hp⟩:=hq
  cases ok with
  | true=>
   have:=(hn rfl).1;subst this;refine cp Vp rfl (Ia z) ax (fun q hq=>?_);obtain ⟨m,rfl⟩:=hq;exact ⟨.tup [.v (.int .i64 m),.v (.int .i64 (aX c.toNat:Nat))],ax,_,rfl⟩
  | false=>
   refine br (fun _=>?_) (fun g=>absurd g (by simp;omega));exact ⟨.tup [.v (.int .i64 1),.v (.int .i64 ((1:Nat):Int))],ax,_,rfl⟩
theorem OD (s:ByteArray) (n:Nat) (h:s.size<=1099511627776):tx (s.extract n (s.size:Int).toNat)=(tx s).drop n:=by
 simp [tx,jV];exact List.take_of_length_le (by rw [List.length_drop];have:=gP s;unfold tx at this;omega)
mutual
def rngW:Val->Prop
 | .mk k n _ ks=>nB k/\nB n/\rngWs ks
def rngWs:List Val->Prop
 | []=>True
 | v :: r=>rngW v/\rngWs r
end
theorem nk:∀ {l:List Val} {x:Val},rngWs l->x∈l->rngW x
 | v :: r,x,h,hm=>by
  rw [rngWs] at h;rcases cg hm with rfl | hm
  ·exact h.1
  ·exact nk h.2 hm
theorem zN {v:Val} (h:rngW v) : -9223372036854775808<=v.n/\v.n<=9223372036854775807:=by
 obtain ⟨k,n,s,ks⟩:=v;rw [rngW] at h;exact h.2.1
theorem zO {v:Val} (h:rngW v):rngWs v.ks:=by
 obtain ⟨k,n,s,ks⟩:=v;rw [rngW] at h;exact h.2.2
theorem Gu {m:Nat} (ih:∀ k,k<=m->∀ ds,Typ prog k 34 ds->∃ v:Val,ds=cj v/\rngW v/\v.wt<=wgL ds) :
  ∀ {es:List (List DV)},(∀ cs∈es,Typ prog m 34 cs)->∃ l:List Val,es=dVals l/\rngWs l/\eJ l<=wgEs es
 | [],h=>⟨[],rfl,by simp [rngWs],by simp [eJ]⟩
 | cs :: r,h=>by
  obtain ⟨l,rfl,hr,hl⟩:=Gu ih (es:=r) (fun c hc=>h c (fK _ hc));obtain ⟨v,rfl,hr2,hv⟩:=ih m (aU _) cs (h cs (by simp));exact ⟨v :: l,rfl,by rw [rngWs];exact ⟨hr2,hr⟩,by simp only [eJ,wgEs];omega⟩
theorem typ_valr:∀ (n:Nat) (ds:List DV),Typ prog n 34 ds->∃ v:Val,ds=cj v/\rngW v/\v.wt<=wgL ds:=by
 intro n
 induction n using Nat.strongRecOn with
 | _ n ih=>
  intro ds h;obtain ⟨m,rfl,hf⟩:=iF Tryz.underlying34 h;obtain ⟨a1,b1,rfl,h1,a2,b2,rfl,h2,a3,b3,rfl,h3,a4,b4,rfl,h4,rfl⟩:=hf;obtain ⟨k,rfl,r1⟩:=gy h1;obtain ⟨z,rfl,r2⟩:=gy h2;obtain ⟨s,rfl⟩:=sE Tryz.underlying9 h3;obtain ⟨j,es,rfl,rfl,kg⟩:=mj Tryz.underlying32 h4;obtain ⟨l,rfl,r3,wl⟩:=Gu (fun i hi=>ih i (by omega)) kg;rw [B2];refine ⟨.mk k z s l,rfl,by rw [rngW];exact ⟨r1,r2,r3⟩,?_⟩;simp only [Val.wt,cG,wgL,wgD] at *;omega
namespace Dv
end Dv
mutual
theorem yh:∀ (t:Ty),rngT t->∀ u∈flatT t,rngT u
 | .mk h ps,hr,u,hu=>by
  rw [flatT] at hu;split at hu
  ·cases hu
  ·rcases cg hu with rfl | hu
   ·exact hr
   ·rw [rngT] at hr;exact yi ps hr.2.2.2 u hu
theorem yi:∀ (ps:Pts),rngP ps->∀ u∈flatP ps,rngT u
 | .nil,_,u,hu=>by cases hu
 | .cons p v r,hr,u,hu=>by
  rw [flatP] at hu;rw [rngP] at hr;rcases List.mem_append.1 hu with hu | hu
  ·split at hu
   ·cases hu
   ·exact yh v hr.2.2.1 u hu
  ·exact yi r hr.2.2.2 u hu
end
theorem Cf {lev:List Wd->Int} {s:Sch}:∀ (ps:Pts) (k:Nat),rngP ps->∀ e∈edsP lev s ps k,nB e.cn
 | .nil,_,_,e,he=>by cases he
 | .cons p v r,k,hr,e,he=>by
  rw [edsP] at he;rw [rngP] at hr;rcases cg he with rfl | he
  ·exact hr.2.1
  ·exact Cf r _ hr.2.2.2 e he
def zP (n:Nd):Prop:=nB n.lo/\nB n.hi/\∀ e∈n.aC,nB e.cn
theorem vu {S:Sch} (hr:Ko S) {n:Nd} (h:n∈aM S):zP n:=by
 rw [jf] at h;obtain ⟨t,ht,u,hu,k,rfl⟩:=u7 h
 have h1:rngT t:=by
  rcases List.mem_append.1 ht with h | h
  ·obtain ⟨x,hx,rfl⟩:=List.mem_map.1 h;exact hr.1 x hx
  ·simp only [List.mem_singleton] at h;subst h;exact hr.2
 have h2:=yh t h1 u hu;obtain ⟨uh,us⟩:=u;rw [rngT] at h2;exact ⟨h2.1,h2.2.1,Cf us _ h2.2.2.2⟩
abbrev Qs (n:Nd) (K:List Bool) (s v:Bool) (e:Nat):St:=
 ⟨[bc 1 1 (uO K),aF 2 0,yN 5 s,yN 6 v,aw 7 e],[nD n],[]⟩
theorem EP {L:Nat} {n:Nd} (K:List Bool) (hK:K.length<=1099511627776) (hn:dt L K.length n) (ql:n.aC.length<=1099511627776) :
  EvP prog 162 [.agg (nD n),.sl 1 (uO K) none] (.v (.bool (Gs n K))):=by
 have mB:=hn.fW;have Xz:=hn.bare;have IV:=hn.k8;obtain ⟨ag,aK,lo,hi,most,af,es⟩:=n;simp only at mB Xz ql IV;refine eG 50 [.tmp 4] func162 rfl ntmps162 rfl fun _ _ _ _=>?_;refine br ?_ ?_<;>intro h7
 ·have h7:ag < 7:=sU h7;refine (bA ?_:);simp [Gs,h7]
 have h7:¬ ag < 7:=sU h7;refine aY (fun j st=>∃ e:Nat,st=Qs ⟨ag,aK,lo,hi,most,af,es⟩ K ((es.take e).any (sq K)) ((es.take e).all (sq K)) e/\e<=es.length/\j=es.length - e) es.length (Qs ⟨ag,aK,lo,hi,most,af,es⟩ K false true 0) (bl wB) ⟨0,by simp,by omega,by omega⟩ ?_;rintro j st ⟨e,rfl,he,rfl⟩;refine br ?_ ?_<;>intro hL
 ·have ay:e < es.length:=by have:=hL;simp [dj] at this;exact this
  obtain ⟨x,hx⟩:=gX ay;refine iX (cK hx) ?_;have hs:(es.take (e + 1)).any (sq K)=((es.take e).any (sq K) || sq K x):=by rw [List.take_add_one,hx];simp
  have hv:(es.take (e + 1)).all (sq K)=((es.take e).all (sq K) && sq K x):=by rw [List.take_add_one,hx];simp
  generalize (es.take e).any (sq K)=s at hs ⊢;generalize (es.take e).all (sq K)=v at hv ⊢;refine br ?_ ?_<;>intro hb
  ·have hb:x.bare=false:=sU hb;obtain ⟨k,hk,oD⟩:=(mB x (mG hx)).to1 hb;obtain ⟨b,nV⟩:∃ b,K[k]? = some b:=⟨_,gE oD⟩;have hg:(uO K)[(max x.to 0).toNat]? = some [DV.v (.bool b)]:=by rw [show (max x.to 0).toNat=k by omega];exact F9 nV
   have hik:sq K x=b:=by unfold sq;rw [hb,hk];simp [ek,nV]
   rw [hik] at hs hv;refine iX (cK hx) ?_;refine ⟨_,⟨by omega,hg⟩,?_⟩;have e5:pickB s true b=(es.take (e + 1)).any (sq K):=by rw [hs,aq]
   have e6:pickB v b false=(es.take (e + 1)).all (sq K):=by rw [hv,ah]
   exact rE ⟨_,by omega,e + 1,rfl,by omega,rfl⟩ (bl (MA e5 e6 (nxt ay (by omega))))
  ·have hb:x.bare=true:=sU hb;have hik:sq K x=true:=by unfold sq;rw [hb];all_goals rfl
   rw [hik] at hs hv;have e5:pickB s true true=(es.take (e + 1)).any (sq K):=by rw [hs,aq]
   have e6:pickB v true false=(es.take (e + 1)).all (sq K):=by rw [hv,ah]
   exact rE ⟨_,by omega,e + 1,rfl,by omega,rfl⟩ (bl (MA e5 e6 (nxt ay (by omega))))
 ·have hge:e=es.length:=by have:=hL;simp [dj] at this;omega
  subst hge;rw [List.take_length];refine br ?_ ?_<;>intro g
  ·have g:ag=7:=sU g;refine (bA ?_:);simp [Gs,g]
  ·have g:¬ ag=7:=sU g;refine (bA ?_:);simp [Gs,g,h7]
theorem XA {bx:List (List DV)} {N n0 m0 n i:Nat} {r:List Bool} (hr:r.length=n) (hN:N<=i) (hb:bx[i]? = some (cB r)):Cc bx N n0 m0 (.sl 1 (uO r) none) (.ms i 1 0 n n):=by
 simp only [Cc];refine Or.inr (Or.inr (Or.inl ⟨i,0,n,_,by rw [sL,hr],hN,hb,?_,?_,?_⟩))
 ·grind [pz,qT,sL]
 ·grind [uO]
 ·intro x hx;rw [pz] at hx;obtain ⟨_,_,rfl⟩:=List.mem_map.1 hx;exact .inl ⟨_,rfl⟩
theorem L3 (l:List Nat) (bx:List (List DV)) (N n m:Nat):CcL bx N n m (cN l) (cN l):=by
 induction l with
 | nil=>rfl
 | cons a r ih=>exact ⟨_,_,rfl,rfl,ih⟩
abbrev wG (a b:Nat) (A B:List (List DV)) (ND:List Nd) (z:Int):List DV:=[.sl a A none,.sl b B none,.sl 7 (cI ND) none,.v (.int .i64 z)]
abbrev L4 (W:List DV) (O:List Nat) (K:List Bool) (n d:Nat):St:=
 ⟨[aF 1 0,(3,⟨[],.ms 1 1 0 n n⟩),bc 4 1 (uO K),aw 5 d],[W,cN O],[]⟩
abbrev Cg (W:List DV) (O:List Nat) (K:List Bool) (M:List Bool) (n d e:Nat):St:=
 ⟨[aF 1 0,(3,⟨[],.ms 1 1 0 n n⟩),bc 4 1 (uO K),aw 5 d,(6,⟨[],.ms 2 1 0 n n⟩),aw 7 e],[W,cN O,cB M],[]⟩
theorem wz (a b:Nat) (A B:List (List DV)) {ND:List Nd} {L:Nat} (z:Int) (bL:∀ n∈ND,dt L ND.length n) (iJ:ND.length<=1099511627776) (bY:∀ n∈ND,n.aC.length<=1099511627776) :
  EvP prog 107 [.agg (wG a b A B ND z)] (.sl 1 (dInts (depN ND ND.length)) none):=by
 have dq:=mD ND;refine eG 61 [.tmp 2] func107 rfl ntmps107 rfl fun _ _ _ _=>?_;refine ⟨⟨rfl,by omega,by rw [dq];omega,by rw [dq];omega⟩,?_⟩;refine ⟨⟨rfl,by omega,by rw [dq];omega,by rw [dq];omega⟩,?_⟩;refine KO (fun j st=>∃ d:Nat,st=L4 (wG a b A B ND z) (depN ND d) (fp (depN ND d)) (cI ND).length (d + 1)/\d<=ND.length/\j=ND.length - d) ND.length (L4 (wG a b A B ND z) (depN ND 0) (fp (depN ND 0)) (cI ND).length 1) (.FD 2 rfl rfl ?_ rfl ?_) ⟨0,rfl,by omega,by omega⟩ ?_
 ·refine ⟨_,_,rfl,ax,_,_,rfl,?_,rfl⟩;rw [repN,dq];exact L3 _ _ _ _ _
 ·refine ⟨⟨_,rfl,fU⟩,⟨_,rfl,fU⟩,⟨_,rfl,XA (by rw [mK,fo,dq];omega) (aU _) ?_⟩,⟨_,rfl,ax⟩,trivial⟩;refine congrArg some ?_;rw [HK,dq];simp [fp,depN]
 rintro j st ⟨d,rfl,hd,rfl⟩;have ke:(fp (depN ND d)).length=ND.length:=by rw [mK,fo]
 refine br ?_ ?_<;>intro hc
 ·have ay:d < ND.length:=sW dq hc;refine ⟨⟨rfl,by omega,by rw [dq];omega,by rw [dq];omega⟩,?_⟩;refine aY (fun j st=>∃ (e:Nat) (O:List Nat) (M:List Bool),st=Cg (wG a b A B ND z) O (fp (depN ND d)) M (cI ND).length (d + 1) e/\e<=ND.length/\O.length=ND.length/\M.length=ND.length/\(∀ i:Nat,i < e->O.getD i 0=(depN ND (d + 1)).getD i 0/\M.getD i false=(fp (depN ND (d + 1))).getD i false)/\(∀ i:Nat,e<=i->O.getD i 0=(depN ND d).getD i 0)/\j=ND.length - e) ND.length (Cg (wG a b A B ND z) (depN ND d) (fp (depN ND d)) (List.replicate ((cI ND).length:Int).toNat false) (cI ND).length (d + 1) 0) (wkB 3 (by repeat' (first | exact rfl | exact aE rfl | exact cv rfl | exact bR (HK _) | refine ⟨_,_,rfl,?_,?_⟩)) (by repeat' (first | exact trivial | exact aE rfl | exact cv rfl | exact bR (HK _) | refine ⟨⟨_,rfl,?_⟩,?_⟩))) ⟨0,_,_,rfl,by omega,by rw [fo],by rw [List.length_replicate,dq];omega,fun i hi=>by omega,fun i _=>rfl,by omega⟩ ?_;rintro j st ⟨e,O,M,rfl,he,hO,hM,sA,Mv,rfl⟩;refine br ?_ ?_<;>intro hL
  ·have eM:e < ND.length:=by have:=hL;simp [dq] at this;exact this
   obtain ⟨n,hn⟩:∃ n,ND[e]? = some n:=⟨_,gE eM⟩;have hnm:=mG hn;have h1:=EP (fp (depN ND d)) (by rw [ke];exact iJ) (n:=n) (by rw [ke];exact bL n hnm) (bY n hnm);obtain ⟨r1,r2⟩:=LS (fun m hm=>⟨(bL m hm).k8,(bL m hm).bare⟩) d hn;refine iX (mE hn) ?_;refine cP U5 h1 ?_
   have bh:(cB M).set (0 + (e:Int).toNat * 1) (DV.v (.bool (Gs n (fp (depN ND d)))))=cB (M.set e (Gs n (fp (depN ND d)))):=by
    rw [show 0 + (e:Int).toNat * 1=e by omega,zt]
   have NV:(cB (M.set e (Gs n (fp (depN ND d)))))[0 + (e:Int).toNat * 1]? = some (DV.v (.bool (Gs n (fp (depN ND d))))):=by
    rw [show 0 + (e:Int).toNat * 1=e by omega];exact Li (ie (by omega))
   obtain ⟨q,hq⟩:∃ q,O[e]? = some q:=⟨_,gE (by omega)⟩;have hqd:(depN ND d).getD e 0=q:=by rw [<- Mv e (aU _),ek,hq];all_goals rfl
   rw [hqd] at r1
   have YO:∀ i:Nat,i < e + 1->(M.set e (Gs n (fp (depN ND d)))).getD i false=(fp (depN ND (d + 1))).getD i false:=fun i hi=>by
    by_cases IJ:i=e
    ·subst IJ;rw [r2,ek,ie (by omega)];all_goals rfl
    ·rw [ek,List.getElem?_set_ne (Ne.symm IJ),<- ek];exact (sA i (by omega)).2
   generalize Gs n (fp (depN ND d))=h at bh NV r1 YO ⊢;refine ⟨⟨by omega,by rw [dq];omega⟩,?_⟩;refine ⟨by rw [qT];omega,?_⟩;refine ⟨⟨by omega,by rw [dq];omega⟩,?_⟩;refine ⟨DV.v (.bool h),(by rw [bh];exact NV),?_⟩
   have hOs:∀ v,v=(depN ND (d + 1)).getD e 0->∀ i:Nat,i < e + 1->(O.set e v).getD i 0=(depN ND (d + 1)).getD i 0:=fun v hv i hi=>by
    by_cases IJ:i=e
    ·subst IJ;rw [<- hv,ek,ie (by omega)];all_goals rfl
    ·rw [ek,List.getElem?_set_ne (Ne.symm IJ),<- ek];exact (sA i (by omega)).1
   have hOr:∀ v:Nat,∀ i:Nat,e + 1<=i->(O.set e v).getD i 0=(depN ND d).getD i 0:=fun v i hi=>by
    rw [ek,List.getElem?_set_ne (by omega),<- ek];exact Mv i (by omega)
   have YP:O.set e q=O:=List.ext_getElem? fun i=>by
    by_cases IJ:e=i
    ·subst IJ;rw [ie (by omega),hq]
    ·rw [List.getElem?_set_ne IJ]
   refine br ?_ ?_<;>intro g
   ·have g:h=true:=sU g;refine ⟨⟨by omega,by rw [dq];omega⟩,?_⟩;refine ⟨DV.v (.int .i64 (q:Int)),(by rw [show 0 + (e:Int).toNat * 1=e by omega];exact SI hq),?_⟩;refine br ?_ ?_<;>intro g2
    ·have g2:q=0:=by simpa [pickB,pickD] using g2
     rw [ap ⟨g,g2⟩] at r1;refine ⟨⟨by omega,by rw [dq];omega⟩,?_⟩;refine ⟨by rw [LU];omega,?_⟩
     have QY:(cN O).set (0 + (e:Int).toNat * 1) (DV.v (.int .i64 ((d + 1:Nat):Int)))=cN (O.set e (d + 1)):=by
      rw [show 0 + (e:Int).toNat * 1=e by omega,SJ]
     exact ⟨Cg (wG a b A B ND z) (O.set e (d + 1)) (fp (depN ND d)) (M.set e h) (cI ND).length (d + 1) (e + 1),(wkB 3 (wA3 QY bh (nxt eM (by omega))) (MA QY bh (nxt eM (by omega)))),ND.length - (e + 1),by omega,e + 1,_,_,rfl,by omega,by simp [hO],by rw [List.length_set];exact hM,fun i hi=>⟨hOs _ r1.symm i hi,YO i hi⟩,hOr (d + 1),rfl⟩
    ·have g2:¬ q=0:=by simpa [pickB,pickD] using g2
     rw [ai (fun h=>g2 h.2)] at r1;exact ⟨Cg (wG a b A B ND z) (O.set e q) (fp (depN ND d)) (M.set e h) (cI ND).length (d + 1) (e + 1),(wkB 3 (by repeat' (first | exact rfl | exact aE rfl | exact cv (by rw [YP]) | exact bR bh | exact aD (nxt eM (by omega)) | refine ⟨_,_,rfl,?_,?_⟩)) (by repeat' (first | exact trivial | exact aE rfl | exact cv (by rw [YP]) | exact bR bh | exact aD (nxt eM (by omega)) | refine ⟨⟨_,rfl,?_⟩,?_⟩))),ND.length - (e + 1),by omega,e + 1,_,_,rfl,by omega,by simp [hO],by rw [List.length_set];exact hM,fun i hi=>⟨hOs _ r1.symm i hi,YO i hi⟩,hOr q,rfl⟩
   ·have g:h=false:=sU g;rw [ai (by rw [g];simp)] at r1;exact ⟨Cg (wG a b A B ND z) (O.set e q) (fp (depN ND d)) (M.set e h) (cI ND).length (d + 1) (e + 1),(wkB 3 (by repeat' (first | exact rfl | exact aE rfl | exact cv (by rw [YP]) | exact bR bh | exact aD (nxt eM (by omega)) | refine ⟨_,_,rfl,?_,?_⟩)) (by repeat' (first | exact trivial | exact aE rfl | exact cv (by rw [YP]) | exact bR bh | exact aD (nxt eM (by omega)) | refine ⟨⟨_,rfl,?_⟩,?_⟩))),ND.length - (e + 1),by omega,e + 1,_,_,rfl,by omega,by simp [hO],by rw [List.length_set];exact hM,fun i hi=>⟨hOs _ r1.symm i hi,YO i hi⟩,hOr q,rfl⟩
  ·have hge:e=ND.length:=sW dq hL;subst hge
   have hO2:O=depN ND (d + 1):=LR (by rw [hO,fo]) fun j=>by
    rcases Nat.lt_or_ge j ND.length with hj | hj
    ·exact (sA j hj).1
    ·simp only [ek];rw [oE (by omega),oE (by rw [fo];omega)]
   have hM2:M=fp (depN ND (d + 1)):=Bl (by rw [hM,mK,fo]) (fun j hj=>by
     rcases Nat.lt_or_ge j ND.length with h | h
     ·rw [<- (sA j h).2];exact hj
     ·rw [ek,oE (by omega)] at hj;cases hj) (fun j hj=>by
     rcases Nat.lt_or_ge j ND.length with h | h
     ·rw [(sA j h).2];exact hj
     ·rw [ek,oE (by rw [mK,fo];omega)] at hj;cases hj)
   subst hO2 hM2;refine ⟨L4 (wG a b A B ND z) (depN ND (d + 1)) (fp (depN ND (d + 1))) (cI ND).length (d + 1 + 1),.FD 2 rfl rfl ⟨_,_,rfl,ax,_,_,rfl,L3 _ _ _ _ _,rfl⟩ rfl ⟨⟨_,rfl,fU⟩,⟨_,rfl,fU⟩,⟨_,rfl,XA (by rw [mK,fo,dq]) (aU _) rfl⟩,⟨_,rfl,?_⟩,trivial⟩,ND.length - (d + 1),by omega,d + 1,rfl,by omega,rfl⟩;exact congrArg (fun z=>DV.v (Value.int .i64 z)) (nxt (n:=1099511627777) (by omega) (by omega))
 ·have hge:d=ND.length:=sW dq hc;subst hge;exact ⟨_,ms_n (by rw [fo,dq]) (Nat.zero_le _) rfl,rfl⟩
theorem Ch {S:Sch} (hF:u2 S) {i:Nat} {n:Nd} (h:(aM S)[i]? = some n) {e:Ed} (he:e∈n.aC) (hb:e.bare=true):e.ck=0:=by
 have IV:=(q5 hF h).bare e he hb;rw [jf] at h;obtain ⟨t,ht,u,hu,rfl,nU⟩:=u6 h;have HH:=u4 t ⟨_,_,hF.wr t ht⟩ u hu;have hT:=Eu HH;obtain ⟨uh,us⟩:=u;simp only [Ty.h,Ty.ps] at hT;obtain ⟨p,v,k',h1,rfl,_⟩:=pG he;obtain ⟨j,hj⟩:=List.mem_iff_getElem?.1 h1;obtain ⟨_,hP⟩:=(hT.many (.inr IV)).2.2 j p v hj;rcases hP with ⟨_,_,_,ke⟩ | ⟨fv,_⟩
 ·exact (nf ke).2.2.1
 ·have:p.bare=true:=hb;rw [fv] at this;cases this
def Gv (ck:Int):Int:=if ck=3 then 5 else if ck=2 then 3 else 2
def EQ (f:Nat->Nat->Bool) (ND:List Nd) (e:Ed):Prop:=e.ck≠0->(∃ m,ND[e.to.toNat]? = some m/\m.ag=Gv e.ck)/\f e.seen.toNat e.label.toNat=true/\f e.label.toNat e.seen.toNat=false
def L5 (f:Nat->Nat->Bool) (ND:List Nd):Prop:=∀ n∈ND,∀ e∈n.aC,EQ f ND e
abbrev XB (W:List DV) (e:Nat):St:=⟨[aF 1 0,aF 2 1,aw 3 e],[W,[.v (.int .i64 0),.v (.int .i64 0)]],[]⟩
abbrev SN (W:List DV) (es:List Ed) (e k:Nat):St:=⟨[aF 1 0,aF 2 1,aw 3 e,bc 4 10 (gW es),aw 5 k],[W,[.v (.int .i64 0),.v (.int .i64 0)]],[]⟩
def W20Φ (f:Nat->Nat->Bool) (ND:List Nd) (r:DV):Prop:=∃ ft:Ft,r=ft.d/\(ft.1=0->L5 f ND)
theorem zQ (lv:List Wd) (f:Nat->Nat->Bool) (ND:List Nd) (z:Int) (hn:lv.length<=32) (bL:∀ n∈ND,dt lv.length ND.length n) (iJ:ND.length<=1099511627776) (bY:∀ n∈ND,n.aC.length<=1099511627776) (YQ:∀ n∈ND,∀ e∈n.aC,e.bare=true->e.ck=0) :
  Ev prog 108 [.agg (wL lv f ND z)] [] [] (fun r _ _=>W20Φ f ND r):=by
 have FF:=mD ND;refine eG 79 [.cell 2 44] func108 rfl ntmps108 rfl fun _ _ _ _=>?_;refine lI (fun j st=>∃ e:Nat,st=XB (wL lv f ND z) e/\e<=ND.length/\(∀ c n,c < e->ND[c]? = some n->∀ x∈n.aC,EQ f ND x)/\j=ND.length - e) ⟨0,rfl,by omega,fun _ _ h=>by omega,rfl⟩ (bl wB) ?_;rintro j st ⟨e,rfl,he,fM,rfl⟩;refine br ?_ ?_<;>intro hL
 ·have ay:e < ND.length:=sV FF hL;obtain ⟨d,hd⟩:=gX ay;have hm:=mG hd;have hN:=bL d hm;have ql:=bY d hm;have dq:=dj d.aC;have hbd:=YQ d hm;refine iX (mE hd) ?_;refine lI (fun j st=>∃ k:Nat,st=SN (wL lv f ND z) d.aC e k/\k<=d.aC.length/\(∀ c x,c < k->d.aC[c]? = some x->EQ f ND x)/\j=d.aC.length - k) ⟨0,rfl,by omega,fun _ _ h=>by omega,rfl⟩ (bl wB) ?_;rintro j st ⟨k,rfl,hk,Ln,rfl⟩;refine br ?_ ?_<;>intro nM
  ·have ic:k < d.aC.length:=sV dq nM;obtain ⟨x,hx⟩:∃ x,d.aC[k]? = some x:=⟨_,gE ic⟩;have Tz:=mG hx;obtain ⟨qP,⟨h2,Qh⟩,h3,SO⟩:=jg hN Tz;have pY:=hbd x Tz;have IX:=(hN.fW x Tz).ck
   have L6:EQ f ND x->∀ c y,c < k + 1->d.aC[c]? = some y->EQ f ND y:=fun h c y hc hy=>by
    rcases jU hc with h1 | h1
    ·exact Ln c y h1 hy
    ·rw [h1,hx] at hy;simp only [oI] at hy;rw [<- hy];exact h
   have hE:EQ f ND x=(x.ck≠0->(∃ m,ND[x.to.toNat]? = some m/\m.ag=Gv x.ck)/\f x.seen.toNat x.label.toNat=true/\f x.label.toNat x.seen.toNat=false):=rfl;generalize EQ f ND x=EX at hE L6;obtain ⟨en,eb,ea,et,wy,ew,fQ,iS,yf,jH⟩:=x;simp only at h2 Qh h3 SO qP pY IX hE;obtain ⟨lb,rfl⟩:∃ n:Nat,wy=n:=⟨_,h2⟩;obtain ⟨sn,rfl⟩:∃ n:Nat,yf=n:=⟨_,h3⟩;simp only [jV] at Qh SO hE;refine iX (cK hx) ?_;refine br ?_ ?_<;>intro g
   ·have g:fQ=0:=sU g;exact rE ⟨_,by omega,k + 1,rfl,by omega,L6 (by rw [hE];intro h;exact absurd g h),rfl⟩ (wkB 2 (nz (nxt ic (by omega))) (cQ (nxt ic (by omega))))
   have g:¬ fQ=0:=sU g
   obtain ⟨h1,ti⟩:=qP (by
    cases hb:eb
    ·rfl
    ·exact absurd (pY hb) g)
   obtain ⟨tn,rfl⟩:∃ n:Nat,et=n:=⟨_,h1⟩;simp only [jV] at ti hE;obtain ⟨m,hmt⟩:∃ m,ND[tn]? = some m:=⟨_,gE ti⟩
   have hW:∀ w:Int,w=Gv fQ->(m.ag=w/\f sn lb=true/\f lb sn=false)->EX:=fun w h1 h2=>by
    rw [hE];exact fun _=>⟨⟨m,hmt,by rw [<- h1];exact h2.1⟩,h2.2⟩
   have h3c:fQ=1∨fQ=2∨fQ=3:=by omega
   rcases h3c with rfl | rfl | rfl
   all_goals
    refine ⟨_,⟨Aj _,mE hmt⟩,?_⟩;refine br ?_ ?_<;>intro c1
    ·exact ⟨Ft.d (14,jH),ax,(14,jH),rfl,fun h=>by simp at h⟩
    refine dI ?_;refine ⟨_,⟨Aj _,dZ SO⟩,?_⟩;refine ⟨_,⟨Aj _,dh Qh⟩,?_⟩;refine br ?_ ?_<;>intro c2
    ·refine ⟨_,⟨Aj _,dZ Qh⟩,?_⟩;refine ⟨_,⟨Aj _,dh SO⟩,?_⟩;refine br ?_ ?_<;>intro c3
     ·exact ⟨Ft.d (18,jH),ax,(18,jH),rfl,fun h=>by simp at h⟩
     ·have hx:=L6 (hW _ rfl ⟨by simpa [Gv] using c1,by simpa using c2,by simpa [pickB] using c3⟩);exact rE ⟨_,by omega,k + 1,rfl,by omega,hx,rfl⟩ (wkB 2 (nz (nxt ic (by omega))) (cQ (nxt ic (by omega))))
    ·exact ⟨Ft.d (18,jH),ax,(18,jH),rfl,fun h=>by simp at h⟩
  ·have hge:k=d.aC.length:=sW dq nM;subst hge
   exact rE ⟨_,by omega,e + 1,rfl,by omega,fun c n hc hn x Tm=>by
    rcases jU hc with h1 | h1
    ·exact fM c n h1 hn x Tm
    ·rw [h1,hd] at hn;simp only [oI] at hn;rw [<- hn] at Tm;obtain ⟨q,hq⟩:=List.mem_iff_getElem?.1 Tm
     exact Ln q x (gS hq).1 hq,rfl⟩ (bl (cQ (nxt ay (by omega))))
 ·have hge:e=ND.length:=sW FF hL;subst hge
  exact ⟨Ft.d (0,0),ax,(0,0),rfl,fun _ n hn x hx=>by
   obtain ⟨q,hq⟩:=List.mem_iff_getElem?.1 hn
   exact fM q n (gS hq).1 hq x hx⟩
structure vv (S:Sch):Prop where
 De:(j5 S).1=0
 live:∀ i:Nat,i < (aM S).length->(depN (aM S) (aM S).length).getD i 0≠0
 eff:L5 (aN S) (aM S)
abbrev XC (S:Sch) (a b:Int) (W:List DV) (D:List Nat) (e:Nat):St:=
 ⟨[aF 1 0,aF 3 1,aF 5 3,bc 6 1 (dInts D),aw 7 e],[dQ S,[.v (.int .i64 0),.v (.int .i64 0)],[.v (.int .i64 a),.v (.int .i64 b)],W],[]⟩
theorem zR (S:Sch) (hS:S.wt<=1099511627776):Ev prog 56 [.agg (dQ S)] [] [] (fun r _ _=>∃ (z:Int) (ft:Ft),r = .tup [.v (.int .i64 z),ft.d]/\(z=0->vv S)):=by
 have HH:=zC S hS;have hw:=fun h=>zF S hS h;generalize hR:j5 S=R at HH;obtain ⟨ae,order,types,⟨rh,rp⟩⟩:=S;refine eG 44 [.tmp 2,.cell 3 44] func56 rfl ntmps56 rfl fun _ _ _ _=>?_;refine cP UL HH ?_;refine br ?_ ?_<;>intro g
 ·refine dS ?_;exact ⟨.tup [.v (.int .i64 2),Ft.d R],ax,2,R,rfl,fun h=>by simp at h⟩
 have g:R.1=0:=sU g;have h0:(j5 ⟨ae,order,types,.mk rh rp⟩).1=0:=by rw [hR];exact g
 have hF:=pF h0;have hw:=hw h0;obtain ⟨Xd,N6⟩:=ku hF.lat;have bL:=fun n (hn:n∈aM ⟨ae,order,types,.mk rh rp⟩)=>(List.mem_iff_getElem?.1 hn).elim fun i hi=>q5 hF hi;have iJ:(aM ⟨ae,order,types,.mk rh rp⟩).length<=1099511627776:=by rw [lB];exact Nat.le_trans (Ep _) hS
 have bY:=fun n (hn:n∈aM ⟨ae,order,types,.mk rh rp⟩)=>(kz hn hS).2;have YQ:=fun n (hn:n∈aM ⟨ae,order,types,.mk rh rp⟩)=>(List.mem_iff_getElem?.1 hn).elim fun i hi e he hb=>Ch hF hi (e:=e) he hb;have YR:=fun A B=>wz 2 1 A B (dW ⟨ae,order,types,.mk rh rp⟩) bL iJ bY;have XD:=zQ ae (aN ⟨ae,order,types,.mk rh rp⟩) (aM ⟨ae,order,types,.mk rh rp⟩) (dW ⟨ae,order,types,.mk rh rp⟩) N6 bL iJ bY YQ;have Ti:(∀ i:Nat,i < (aM ⟨ae,order,types,.mk rh rp⟩).length->(depN (aM ⟨ae,order,types,.mk rh rp⟩) (aM ⟨ae,order,types,.mk rh rp⟩).length).getD i 0≠0)->L5 (aN ⟨ae,order,types,.mk rh rp⟩) (aM ⟨ae,order,types,.mk rh rp⟩)->vv ⟨ae,order,types,.mk rh rp⟩:=fun h1 h2=>⟨h0,h1,h2⟩;have J5:=fo (aM ⟨ae,order,types,.mk rh rp⟩) (aM ⟨ae,order,types,.mk rh rp⟩).length;generalize depN (aM ⟨ae,order,types,.mk rh rp⟩) (aM ⟨ae,order,types,.mk rh rp⟩).length=D at YR Ti J5;unfold aN at XD Ti;generalize dY (Sch.mk ae order types (.mk rh rp)).ae.length (cM (aA (Sch.mk ae order types (.mk rh rp)).ae) (Sch.mk ae order types (.mk rh rp)).order)=f at hw XD Ti;generalize aM ⟨ae,order,types,.mk rh rp⟩=ND at hw YR XD Ti J5 iJ bY YQ bL;generalize dW ⟨ae,order,types,.mk rh rp⟩=rt at hw YR XD;have Mw:=bo D;obtain ⟨R1,R2⟩:=R;simp only at g;subst g;refine cP en9 hw ?_;refine cP UM (YR _ _) ?_;refine lI (fun j st=>∃ e:Nat,st=XC ⟨ae,order,types,.mk rh rp⟩ 0 R2 (wL ae f ND rt) D e/\e<=D.length/\(∀ i < e,D.getD i 0≠0)/\j=D.length - e) ⟨0,rfl,by omega,fun _ h=>by omega,rfl⟩ (bl wB) ?_;rintro j st ⟨e,rfl,he,fM,rfl⟩;refine br ?_ ?_<;>intro hL
 ·have ay:e < D.length:=sV Mw hL;obtain ⟨x,hx⟩:=gX ay;obtain ⟨d,hd⟩:∃ d,ND[e]? = some d:=⟨_,gE (by omega)⟩;refine iX (dF hx) ?_;refine br ?_ ?_<;>intro c
  ·refine dS ?_;refine iX (mE hd) ?_;exact ⟨.tup [.v (.int .i64 3),Ft.d (11,d.aK)],ax,3,(11,d.aK),rfl,fun h=>by simp at h⟩
  ·have c:x≠0:=by simp at c;omega
   exact rE ⟨_,by omega,e + 1,rfl,by omega,fun i hi=>by
    rcases jU hi with h1 | h1
    ·exact fM i h1
    ·rw [h1,ek,hx];exact c,rfl⟩ (wkB 4 (nz (nxt ay (by omega))) (cQ (nxt ay (by omega))))
 ·have hge:e=D.length:=sW Mw hL;subst hge;refine cp UN rfl XD ax (fun r hr=>?_);obtain ⟨ft,rfl,Ql⟩:=hr;refine br ?_ ?_<;>intro c
  ·refine dS ?_;exact ⟨.tup [.v (.int .i64 4),Ft.d ft],ax,4,ft,rfl,fun h=>by simp at h⟩
  ·have c:ft.1=0:=sU c;exact ⟨.tup [.v (.int .i64 0),Ft.d (0,0)],ax,0,(0,0),rfl,fun _=>Ti (fun i hi=>fM i (by omega)) (Ql c)⟩
theorem Ci (S:Sch) (hS:S.wt<=1099511627776):Ev prog 21 [.agg (dQ S)] [] [] (fun r _ _=>∃ b:Bool,r = .v (.bool b)/\(b=true->vv S)):=by
 have hw:=zR S hS;obtain ⟨ae,order,types,⟨rh,rp⟩⟩:=S;refine eG 12 [.tmp 2] func21 rfl ntmps21 rfl fun _ _ _ _=>?_;refine cp ZM rfl hw ax (fun r hr=>?_);obtain ⟨z,ft,rfl,hz⟩:=hr;exact ⟨_,rfl,fun h=>hz (sU h)⟩
theorem OE {d:Nd} {z:Int} {j:Nat} {e:Ed} (h:Ov d (.mk 0 z au []) j=e.to) (h0:0<=e.to) (c:d.ag=8):0<=z/\z < d.aC.length:=by
 unfold Ov at h;rw [ai (by omega),ai (by omega),ai (by omega),ap c] at h;split at h
 ·rename_i g;exact ⟨g.2.1,g.2.2⟩
 ·omega
abbrev Qt (PC LC:List DV) (obs:Int):List DV:=[.pt PC 0,.pt LC 0,.v (.int .i64 obs)]
section
variable {n:Nat} {f:Nat->Nat->Bool} {af:List ByteArray} {LC:List DV} (hR:zK n f af LC) (PC:List DV)
include hR
theorem oy (obs a:Nat) (ho:obs < n) (ha:a < n):EvP prog 100 [.agg (Qt PC LC obs),.v (.int .i64 a)] (.v (.bool (f a obs))):=by
 have hq:=hR.leq a obs;rw [LF ha ho] at hq;refine eG 11 [.tmp 4] func100 rfl ntmps100 rfl fun _ _ _ _=>?_;refine cP Rf hq ?_;exact (rfl:_=_)
theorem mL {ND:List Nd} (obs a:Nat) (ho:obs < n) (ha:a < n) (d:Nd) (e:Ed) (hN:dt n ND.length d) (hm:e∈d.aC):EvP prog 101 [.agg (Qt PC LC obs),.agg (nC e),.v (.int .i64 a)] (.v (.bool (decide (e.ck≠0) && f (wx f n a e.seen.toNat) obs))):=by
 obtain ⟨_,_,h3,SO⟩:=jg hN hm;have hj:=hR.join a e.seen.toNat ha SO;rw [<- h3] at hj;have hs:=oy hR PC obs (wx f n a e.seen.toNat) ho (zJ hR.ok ha SO);obtain ⟨en,eb,ea,et,wy,ew,fQ,iS,yf,jH⟩:=e;refine eG 20 [.tmp 6] func101 rfl ntmps101 rfl fun _ _ _ _=>?_;refine dI ?_;refine br ?_ ?_<;>intro c
 ·have c:fQ≠0:=sU c;refine cD JF hj ?_;refine cD JI hs ?_;rw [show decide ((⟨en,eb,ea,et,wy,ew,fQ,iS,yf,jH⟩:Ed).ck≠0)=true from decide_eq_true c,Bool.true_and];exact (rfl:_=_)
 ·have c:¬ fQ≠0:=sU c;rw [show decide ((⟨en,eb,ea,et,wy,ew,fQ,iS,yf,jH⟩:Ed).ck≠0)=false from decide_eq_false c,Bool.false_and];exact (rfl:_=_)
theorem vw {ND:List Nd} (obs:Int) (a:Nat) (ha:a < n) (d:Nd) (v:Val) (j:Nat) (e:Ed) (h:dy d v.n j=some e) (hm:e∈d.aC) (hN:dt n ND.length d) (h5:5<=d.ag) (hz:d.ag=8->(0<=v.n/\v.n < d.aC.length)/\j=0) (kg:d.aC.length<=1099511627776) :
  EvP prog 99 [.agg (Qt PC LC obs),.agg (nD d),.agg (cj v),.v (.int .i64 j),.v (.int .i64 a)] (.tup [.agg (nC e),.v (.int .i64 (iR f n d e a:Nat))]):=by
 obtain ⟨_,⟨h2,Qh⟩,_⟩:=jg hN hm;have hj:=hR.join a e.label.toNat ha Qh;rw [<- h2] at hj;have hU:iR f n d e a=if d.ag < 7 then a else wx f n a e.label.toNat:=rfl
 generalize iR f n d e a=U at hU ⊢;have h8:=hN.k8;obtain ⟨ag,aK,lo,hi,most,YS,es⟩:=d;obtain ⟨k,z,s,ks⟩:=v;simp only [Val.n] at h hz kg hU h5 h8;have ql:=dj es;unfold dy at h;simp only at h;have hd:∃ en eb ea et wy ew fQ iS yf jH,e=⟨en,eb,ea,et,wy,ew,fQ,iS,yf,jH⟩:=⟨_,_,_,_,_,_,_,_,_,_,rfl⟩
 have SP:∃ (l:List (List DV)) (b:Bool),EvP prog 155 [.agg (nD ⟨ag,aK,lo,hi,most,YS,es⟩),.agg (cj (.mk k z s ks))] (.tup [.sl 10 l none,.v (.bool b)])/\(if ag < 7 then b=false/\l[0]? = some (nC e) else b=true/\l[j]? = some (nC e)):=by
  by_cases c7:ag=7
  ·rw [ap c7] at h;refine ⟨gW es,true,?_,by rw [ai (by omega)];exact ⟨rfl,cK h⟩⟩;refine eG 24 [.tmp 4,.tmp 5] func155 rfl ntmps155 rfl fun _ _ _ _=>?_;refine br (fun _=>?_) (fun c=>absurd c7 (sU c));exact ⟨_,ax,rfl⟩
  rw [ai c7] at h;by_cases c8:ag=8
  ·rw [ap c8] at h;have hz:=hz c8;have hw:IntKind.i64.wrap (z + 1)=z + 1:=wrap64 (by omega) (by omega);refine ⟨((gW es).take (IntKind.i64.wrap (z + 1)).toNat).drop z.toNat,true,?_,by rw [ai (by omega),hz.2,List.getElem?_drop,bT,ap (by rw [hw];omega)];exact ⟨rfl,cK h⟩⟩;refine eG 24 [.tmp 4,.tmp 5] func155 rfl ntmps155 rfl fun _ _ _ _=>?_;refine br (fun c=>absurd (sU c) c7) (fun _=>?_);refine br (fun _=>?_) (fun c=>absurd c8 (sU c));refine ⟨⟨by omega,by rw [hw];omega,by rw [hw,dj];simp only;omega⟩,?_⟩;exact ⟨_,ax,rfl⟩
  ·rw [ai c8] at h;refine ⟨gW es,false,?_,by rw [ap (by omega)];exact ⟨rfl,cK h⟩⟩;refine eG 24 [.tmp 4,.tmp 5] func155 rfl ntmps155 rfl fun _ _ _ _=>?_;refine br (fun c=>absurd (sU c) c7) (fun _=>?_);refine br (fun c=>absurd (sU c) c8) (fun _=>?_);exact ⟨_,ax,rfl⟩
 obtain ⟨l,b,hE,hl⟩:=SP;by_cases c:ag < 7
 ·rw [ap c] at hl hU;obtain ⟨rfl,hl⟩:=hl;subst hU;obtain ⟨en,eb,ea,et,wy,ew,fQ,iS,yf,jH,rfl⟩:=hd;refine eG 38 [.cell 10 115,.tmp 11] func99 rfl ntmps99 rfl fun _ _ _ _=>?_;refine cP Pr hE ?_;refine ⟨_,⟨by omega,hl⟩,?_⟩;exact ⟨_,ax,rfl⟩
 ·rw [ai c] at hl hU;obtain ⟨rfl,hl⟩:=hl;subst hU;obtain ⟨en,eb,ea,et,wy,ew,fQ,iS,yf,jH,rfl⟩:=hd;refine eG 38 [.cell 10 115,.tmp 11] func99 rfl ntmps99 rfl fun _ _ _ _=>?_;refine cP Pr hE ?_;refine ⟨_,⟨by omega,hl⟩,?_⟩;refine dS ?_;refine cD JF hj ?_;exact ⟨_,ax,rfl⟩
end
theorem pO (e:Ed):EvP prog 103 [.agg (nC e)] (.agg (cj (ov e))):=by
 obtain ⟨en,eb,ea,et,wy,ew,fQ,iS,yf,jH⟩:=e;refine eG 6 [.cell 2 34] func103 rfl ntmps103 rfl fun _ _ _ _=>?_;exact ⟨_,ax,rfl⟩
abbrev XE (a:ByteArray) (aK:Nat) (m:Int) (e:Nat):St:=⟨[(0,⟨[],.v (.string a)⟩),aw 5 aK,aw 8 m,aw 9 e],[],[]⟩
theorem vx (a:ByteArray) (ha:a.size<=1099511627776) (m:Int) (hm:m<=9223372036854775807):EvP prog 157 [.v (.string a),.v (.int .i64 m)] (.v (.string (ba (headL m.toNat (tx a))))):=by
 refine eG 28 [.tmp 4] func157 rfl ntmps157 rfl fun _ _ _ _=>?_;refine lI (fun j st=>∃ e aK:Nat,st=XE a aK m e/\(e:Int)<=max m 0/\aK <= a.size/\(tx a).take aK ++ headL (m.toNat - e) ((tx a).drop aK)=headL m.toNat (tx a)/\j=m.toNat - e) ⟨0,0,rfl,by omega,by omega,by simp,rfl⟩ (bl jX) ?_;rintro j st ⟨e,aK,rfl,he,h1,hE,rfl⟩;have jv:=gP a;have XF:headL (m.toNat - e) ((tx a).drop aK)=[]->a.extract 0 aK=ba (headL m.toNat (tx a)):=fun h=>by grind [Dz,OB]
 refine br ?_ ?_<;>intro hL
 rotate_left
 ·have hge:m.toNat - e=0:=by have:=of_decide_eq_false hL;omega
  refine ⟨⟨by omega,by omega,by omega⟩,?_⟩;exact (congrArg (fun z=>DV.v (.string z)) (XF (by rw [hge];rfl)):_=_)
 have ay:(e:Int) < m:=of_decide_eq_true hL;refine br ?_ ?_<;>intro c
 ·have c:aK=a.size:=by have:=of_decide_eq_true c;omega
  refine ⟨⟨by omega,by omega,by omega⟩,?_⟩;exact (congrArg (fun z=>DV.v (.string z)) (XF (by rw [List.drop_of_length_le (by omega),ng])):_=_)
 have c:aK < a.size:=by have:=of_decide_eq_false c;omega
 have hua:=yg a aK ha h1
 have bq:(tx a).drop aK ≠ []:=fun h=>by
  have:=congrArg List.length h;rw [List.length_drop,List.length_nil] at this;omega
 have hup:=iP bq;rw [List.length_drop] at hup;obtain ⟨k,hk⟩:∃ k,m.toNat - e=k + 1:=⟨m.toNat - e - 1,by omega⟩;rw [hk,show headL (k + 1) ((tx a).drop aK)=((tx a).drop aK).take (j7 ((tx a).drop aK)) ++ headL k (((tx a).drop aK).drop (j7 ((tx a).drop aK))) from rfl,<- List.append_assoc,List.drop_drop,<- List.take_add] at hE;generalize j7 ((tx a).drop aK)=w at hua hup hE;refine cp JT rfl hua ax (fun q hq=>?_);obtain ⟨z1,rfl⟩:=hq
 have hw:IntKind.i64.wrap ((aK:Int) + w)=((aK + w:Nat):Int):=by
  rw [wrap64 (by omega) (by omega)];omega
 have W9:IntKind.i64.wrap ((e:Int) + 1)=((e + 1:Nat):Int):=by
  rw [wrap64 (by omega) (by omega)];omega
 exact rE ⟨_,by omega,e + 1,aK + w,rfl,by omega,by omega,by rw [show m.toNat - (e + 1)=k by omega];exact hE,rfl⟩ (bl (wB2 hw W9))
theorem zS (e:Ed) (v:Val) (hn : -9223372036854775808<=v.n/\v.n<=9223372036854775807) (hs:v.wt<=1099511627776) (hc : -9223372036854775808<=e.cn/\e.cn<=9223372036854775807) :
  EvP prog 102 [.agg (nC e),.agg (cj v)] (.agg (cj (bE e v))):=by
 have hw:v.s.size<=1099511627776/\v.ks.length<=1099511627776:=by
  obtain ⟨k,n,s,ks⟩:=v;have:=fm ks;rw [Val.wt] at hs;show s.size<=_/\ks.length<=_;omega
 have hf:=lC v.n e.cn hn hc;have hh:=vx v.s hw.1 e.cn hc.2;have SQ:=pO e
 have hA:e.ck=1->v.k=2->(aQ v.n e.cn).2=true->bE e v = .mk 10 (aQ v.n e.cn).1 au []:=fun h1 h2 h3=>by
  unfold bE;rw [ap ⟨h1,h2,h3⟩]
 have hB:e.ck=2->v.k=3->bE e v = .mk 11 0 (ba (headL e.cn.toNat (tx v.s))) []:=fun h1 h2=>by grind [bE]
 have hC:e.ck=3->v.k=5->bE e v = .mk 12 v.ks.length au []:=fun h1 h2=>by grind [bE]
 have hD:¬ (e.ck=1/\v.k=2/\(aQ v.n e.cn).2=true)->¬ (e.ck=2/\v.k=3)->¬ (e.ck=3/\v.k=5)->bE e v=ov e:=fun h1 h2 h3=>by grind [bE]
 generalize bE e v=C at hA hB hC hD ⊢;generalize hH:ov e=HV at SQ hD;obtain ⟨hvk,hvn,vT,Fs⟩:=HV;clear hH;obtain ⟨en,eb,ea,et,wy,ew,fQ,iS,yf,jH⟩:=e;obtain ⟨k,n,s,ks⟩:=v;simp only [Val.k,Val.n,Val.s,Val.ks] at hA hB hC hD hf hh hw;have dq:=cO ks;generalize aQ n iS=fl at hf hA hD;obtain ⟨fz,fb⟩:=fl;unfold EB at hf;simp only at hA hD;generalize headL iS.toNat (tx s)=H at hh hB;refine eG 57 [.cell 4 34] func102 rfl ntmps102 rfl fun _ _ _ _=>?_;refine br ?_ ?_<;>intro c
 ·have c:fQ=1/\k=2:=by simpa [ah] using c
  refine cP FJ hf ?_
  cases fb with
  | true=>
   rw [hA c.1 c.2 rfl];exact ⟨_,ax,rfl⟩
  | false=>
   rw [hD (by simp) (by omega) (by omega)];refine cP en103 SQ ?_;exact ⟨_,ax,rfl⟩
 have c1:¬ (fQ=1/\k=2):=by simpa [ah] using c
 refine br ?_ ?_<;>intro c
 ·have c:fQ=2/\k=3:=by simpa [ah] using c
  refine cP Ps hh ?_;rw [hB c.1 c.2];exact ⟨_,ax,rfl⟩
 have c2:¬ (fQ=2/\k=3):=by simpa [ah] using c
 refine br ?_ ?_<;>intro c
 ·have c:fQ=3/\k=5:=by simpa [ah] using c
  rw [hC c.1 c.2,<- dq];exact ⟨_,ax,rfl⟩
 have c3:¬ (fQ=3/\k=5):=by simpa [ah] using c
 rw [hD (fun h=>c1 ⟨h.1,h.2.1⟩) c2 c3];refine cP en103 SQ ?_;exact ⟨_,ax,rfl⟩
def pP (ND:List Nd) (f:Nat->Nat->Bool) (n rt:Nat) (o:Int) (v:Val):Option Val:=if 0<=o/\o < n/\fitV ND v rt=true then some (eraseV ND f n o.toNat v rt (e9 f n)) else none
def Gw:Option Val->DV
 | some y=>.tup [.agg (cj y),.v (.bool true)]
 | none=>.tup [.agg (cj (.mk 0 0 au [])),.v (.bool false)]
section
variable (lv:List Wd) (f:Nat->Nat->Bool) (ND:List Nd) (rt:Nat) (hL:dH f lv.length) (hn:lv.length<=32) (bL:∀ n∈ND,dt lv.length ND.length n) (bY:∀ n∈ND,n.aC.length<=1099511627776) (Et:∀ n∈ND,zP n)
include hL hn bL bY Et
end
theorem L7 {d:Nd} {z:Int} {j:Nat} {e:Ed} (h:Ov d (.mk 0 z au []) j=e.to) (h0:0<=e.to) (c:d.ag=8):(0<=z/\z < d.aC.length)/\j=0:=by
 refine ⟨OE h h0 c,?_⟩
 grind [Ov]
abbrev Qu (PC LC:List DV) (obs a:Nat) (v:Val) (d:Nd) (o:List Val) (q e:Nat):St:=
 ⟨[aw 2 a,aF 4 0,aF 7 1,aF 8 2,aF 9 3,aF 11 4,bc 31 4 (dVals v.ks),aw 32 ((dVals v.ks).length),aw 33 e],
  [Qt PC LC obs,cj v,[.v (.int .i64 0),.v (.int .i64 0),.v (.string au),.v (.slice none 0 0)],nD d,[.v (.int .i64 v.k),.v (.int .i64 v.n),.v (.string v.s),.sl 4 (dVals o) (some 0)]],[⟨q,34,4,none⟩]⟩
set_option maxHeartbeats 1000000 in
theorem rS {S:Sch} {ND:List Nd} {PC LC:List DV} (hP:jF S ND PC) (hR:zK S.ae.length (aN S) (aA S.ae) LC) (Et:∀ n∈ND,zP n) (bY:∀ n∈ND,n.aC.length<=1099511627776) (obs:Nat) (ho:obs < S.ae.length) :
  ∀ (k:Nat) (v:Val),v.wt<=k->v.wt<=1099511627776->rngW v->∀ (i:Int) (a:Nat),a < S.ae.length->fitV ND v i=true ->
   EvP prog 50 [.agg (Qt PC LC obs),.v (.int .i64 i),.v (.int .i64 a),.agg (cj v)] (.agg (cj (eraseV ND (aN S) S.ae.length obs v i a)))
 | 0,v,h,_=>by have:=v.dE;omega
 | k + 1,v,h,hb=>fun hr i a ha eu=>by
  have ih:=rS hP hR Et bY obs ho k;have hL:=hR.ok;obtain ⟨d,hF⟩:=ef hP.ok eu;obtain ⟨h0,hg⟩:=bJ hF.aj;obtain ⟨j,rfl⟩:∃ j:Nat,i=j:=⟨i.toNat,by omega⟩;have hg:ND[j]? = some d:=sU hg;have qk:=mG hg;have hN:=hP.ok d qk;have gA:=hP.aj j d hg;have L8:=fun {m:Nat} {x:Val}=>pM (m:=m) (x:=x) hP.ok eu hF;have OG:=bY d qk;have SR:=Et d qk;have XG:=hF.leaf
  have hE:eraseV ND (aN S) S.ae.length obs v j a = .mk v.k v.n v.s (eraseVs ND (aN S) S.ae.length obs v.ks d v.n a 0):=by
   obtain ⟨q,z,s,ks⟩:=v;rw [eraseV,hF.aj];rfl
  rw [hE];have hOl:=jT (ND:=ND) (f:=aN S) (L:=S.ae.length) (obs:=obs) v.ks d v.n a 0;have hOa:=fun {m:Nat} {x:Val}=>lG (ND:=ND) (f:=aN S) (L:=S.ae.length) (obs:=obs) (ks:=v.ks) (d:=d) (z:=v.n) (a:=a) (j:=0) (m:=m) (x:=x);generalize eraseVs ND (aN S) S.ae.length obs v.ks d v.n a 0=O at hOl hOa ⊢;obtain ⟨vk,vn,vs,ks⟩:=v;have oD:=fm ks;have dq:=cO ks;rw [Val.wt] at h hb;have XH:=zO hr;simp only [Val.ks,Val.n,Val.k,Val.s] at L8 hOl hOa XH XG ⊢;obtain ⟨ag,aK,lo,hi,most,af,es⟩:=d;refine eG 75 [.cell 8 34] func50 rfl ntmps50 rfl fun _ _ _ _=>?_;refine cP yT gA ?_;refine aY (fun t st=>∃ e q:Nat,st=Qu PC LC obs a (.mk vk vn vs ks) ⟨ag,aK,lo,hi,most,af,es⟩ (O.take e) q e/\q=e/\e<=ks.length/\t=ks.length - e) ks.length (Qu PC LC obs a (.mk vk vn vs ks) ⟨ag,aK,lo,hi,most,af,es⟩ [] 0 0) (dA 5 ⟨0,34,4,none⟩ rfl rfl rfl nY rfl rfl jX) ⟨0,0,by rw [List.take_zero],rfl,by omega,by omega⟩ ?_;rintro t st ⟨e,q,rfl,hq,he,rfl⟩;refine br ?_ ?_<;>intro HA
  ·have ay:e < ks.length:=by simpa [dq,Val.ks] using HA
   obtain ⟨x,hx⟩:=gX ay;obtain ⟨ed,hK⟩:=L8 hx;have hm:=mG hx;have hwx:=kC hm;have CP:=nk XH hm;have hxe:=hOa hx;rw [Nat.zero_add,hK.fW] at hxe;simp only at hxe;obtain ⟨h1,h2⟩:=LO hN hK.mem hK.bare;have h5:5<=ag:=by grind
   have mB:=vw hR PC obs a ha ⟨ag,aK,lo,hi,most,af,es⟩ (.mk vk vn vs ks) e ed hK.fW hK.mem hN h5 (L7 hK.to' h1) OG;have hU:=pN hL hN hK.mem ha;have vy:=oy hR PC obs (iR (aN S) S.ae.length ⟨ag,aK,lo,hi,most,af,es⟩ ed a) ho hU;have hco:=mL hR PC obs a ho ha ⟨ag,aK,lo,hi,most,af,es⟩ ed hN hK.mem;have hcv:=zS ed x (zN CP) (by omega) (SR.2.2 ed hK.mem);have hhv:=pO ed;have hrec:=ih x (by omega) (by omega) CP ed.to (iR (aN S) S.ae.length ⟨ag,aK,lo,hi,most,af,es⟩ ed a) hU hK.fit;have hOl':(O.take e).length=e:=by rw [eP];omega
   have hdOl:(dVals (O.take e)).length=e:=by rw [cO,hOl']
   have wj:∀ y:Val,O[e]? = some y->dVals (O.take e) ++ [cj y]=dVals (O.take (e + 1)):=fun y hy=>Ez hy;rw [nj] at hxe;generalize iR (aN S) S.ae.length ⟨ag,aK,lo,hi,most,af,es⟩ ed a=U at mB vy hrec hxe;generalize aN S U obs=b1 at vy hxe;generalize lO:aN S (wx (aN S) S.ae.length a ed.seen.toNat) obs=b2 at hco hxe;generalize PU:decide (ed.ck≠0)=DC at hco;generalize eraseV ND (aN S) S.ae.length obs x ed.to U=Y1 at hrec hxe;generalize bE ed x=Y2 at hcv hxe;generalize ov ed=Y3 at hhv hxe;obtain ⟨xk,xn,xs,xks⟩:=x;obtain ⟨y1k,y1n,y1s,y1ks⟩:=Y1;obtain ⟨y2k,y2n,y2s,y2ks⟩:=Y2;obtain ⟨y3k,y3n,y3s,y3ks⟩:=Y3;obtain ⟨en,eb,ea,et,wy,ew,fQ,iS,yf,jH⟩:=ed;refine iX (kB hx) ?_;refine cP UJ mB ?_;refine cP JI vy ?_
   cases b1 with
   | true=>
    simp only [reduceIte] at hxe;have gO:=wj _ hxe;refine cP en50 hrec ?_;refine ⟨by rw [hdOl,hq],⟨by simp [maxLen,hdOl];omega,by simp [hdOl];omega⟩,?_⟩;exact rE ⟨_,by omega,e + 1,q + 1,rfl,by omega,by omega,rfl⟩ (wkB 5 (wA2 (nxt ay (by omega)) gO) (wB2 (nxt ay (by omega)) gO))
   | false=>
    cases DC with
    | false=>
     have IX:fQ=0:=by simpa using of_decide_eq_false PU
     simp [IX] at hxe;have gO:=wj _ hxe;refine cP en101 hco ?_;refine cP en103 hhv ?_;refine ⟨by rw [hdOl,hq],⟨by simp [maxLen,hdOl];omega,by simp [hdOl];omega⟩,?_⟩;exact rE ⟨_,by omega,e + 1,q + 1,rfl,by omega,by omega,rfl⟩ (wkB 5 (wA2 (nxt ay (by omega)) gO) (wB2 (nxt ay (by omega)) gO))
    | true=>
     have IX:=of_decide_eq_true PU
     cases b2 with
     | false=>
      simp at hxe;have gO:=wj _ hxe;refine cP en101 hco ?_;refine cP en103 hhv ?_;refine ⟨by rw [hdOl,hq],⟨by simp [maxLen,hdOl];omega,by simp [hdOl];omega⟩,?_⟩;exact rE ⟨_,by omega,e + 1,q + 1,rfl,by omega,by omega,rfl⟩ (wkB 5 (wA2 (nxt ay (by omega)) gO) (wB2 (nxt ay (by omega)) gO))
     | true=>
      have hck':¬ fQ=0:=IX;simp [hck'] at hxe;have gO:=wj _ hxe;refine cP en101 hco ?_;refine cP en102 hcv ?_;refine ⟨by rw [hdOl,hq],⟨by simp [maxLen,hdOl];omega,by simp [hdOl];omega⟩,?_⟩;exact rE ⟨_,by omega,e + 1,q + 1,rfl,by omega,by omega,rfl⟩ (wkB 5 (wA2 (nxt ay (by omega)) gO) (wB2 (nxt ay (by omega)) gO))
  ·have hge:e=ks.length:=by have:=HA;simp [dq,Val.ks] at this;omega
   subst hge;rw [List.take_of_length_le (by omega)];exact ⟨_,ax,rfl⟩
section
variable {S:Sch} {ND:List Nd} {PC LC:List DV} (hP:jF S ND PC) (iu:EvP prog 15 [.pt PC 0] (.pt LC 0)) (hR:zK S.ae.length (aN S) (aA S.ae) LC) (Qv:∀ n∈ND,zP n) (bY:∀ n∈ND,n.aC.length<=1099511627776) (rt:Nat) (H9:dW S=rt)
include iu hR
theorem vz (o:Int):EvP prog 48 [.pt PC 0,.v (.int .i64 o)] (.tup [.agg (Qt PC LC o),.v (.bool (decide (0<=o/\o < S.ae.length)))]):=by
 have hlen:=hR.len;refine eG 21 [.cell 4 119,.tmp 5] func48 rfl ntmps48 rfl fun _ _ _ _=>?_;refine cP Di iu ?_;refine br ?_ ?_<;>intro c
 ·have c:0<=o:=sU c;refine cP Dj hlen ?_;have hd:decide (0<=o/\o < (S.ae.length:Int))=decide (o < (S.ae.length:Int)):=decide_eq_decide.2 ⟨fun h=>h.2,fun h=>⟨c,h⟩⟩;rw [hd];exact ⟨_,ax,rfl⟩
 ·have c:¬ 0<=o:=sU c;rw [show decide (0<=o/\o < (S.ae.length:Int))=false from decide_eq_false (fun h=>c h.1)];exact ⟨_,ax,rfl⟩
include hP Qv bY H9
theorem rT (o:Int) (v:Val) (hv:v.wt<=1099511627776) (Ah:rngW v) :
  EvP prog 14 [.pt PC 0,.v (.int .i64 o),.agg (cj v)] (Gw (pP ND (aN S) S.ae.length rt o v)):=by
 have Bu:=vz iu hR o;have fi:=hP.root;rw [H9] at fi;have uD:=hR.bot;have hf:=ou hP _ v (aU _) hv rt;have hs:=fun (obs:Nat) (ho:obs < S.ae.length)=>rS hP hR Qv bY obs ho _ v (aU _) hv Ah rt (e9 (aN S) S.ae.length) (pL hR.ok);have hS:pP ND (aN S) S.ae.length rt o v=if 0<=o/\o < S.ae.length/\fitV ND v rt=true then some (eraseV ND (aN S) S.ae.length o.toNat v rt (e9 (aN S) S.ae.length)) else none:=rfl
 generalize pP ND (aN S) S.ae.length rt o v=SF at hS ⊢;generalize fitV ND v rt=F at hf hs hS;obtain ⟨k,n,s,ks⟩:=v;by_cases ho:0<=o/\o < S.ae.length
 ·obtain ⟨ob,rfl⟩:∃ n:Nat,o=n:=⟨_,(Int.toNat_of_nonneg ho.1).symm⟩;have hs:=hs ob (by omega);rw [jV] at hS;rw [show decide (0<=(ob:Int)/\(ob:Int) < (S.ae.length:Int))=true from decide_eq_true ho] at Bu;generalize eraseV ND (aN S) S.ae.length ob (.mk k n s ks) rt (e9 (aN S) S.ae.length)=Y at hs hS;generalize e9 (aN S) S.ae.length=bt at uD hs;obtain ⟨yk,yn,ys,yks⟩:=Y;refine eG 35 [.cell 6 34,.tmp 7] func14 rfl ntmps14 rfl fun _ _ _ _=>?_;refine cP Nr Bu ?_;refine dI ?_;refine cD JE fi ?_;refine cD Rj hf ?_
  cases F with
  | true=>
   have hs:=hs rfl;rw [ap ⟨by omega,by omega,rfl⟩] at hS;rw [hS];refine dS ?_;refine cD JE fi ?_;refine cD Ns uD ?_;refine cD en50 hs ?_;exact ⟨_,ax,rfl⟩
  | false=>
   rw [ai (by simp)] at hS;rw [hS];exact ⟨_,ax,rfl⟩
 ·rw [ai (fun h=>ho ⟨h.1,h.2.1⟩)] at hS;rw [hS];rw [show decide (0<=o/\o < (S.ae.length:Int))=false from decide_eq_false ho] at Bu;refine eG 35 [.cell 6 34,.tmp 7] func14 rfl ntmps14 rfl fun _ _ _ _=>?_;refine cP Nr Bu ?_;refine dI ?_;exact ⟨_,ax,rfl⟩
end
theorem Gx {p l:List UInt8} (hp:p <+: l) (hpn:p ≠ []) (ht:p.take (j7 l)=l.take (j7 l)):j7 p=j7 l:=by
 have hln:l ≠ []:=by
  rintro rfl;exact hpn (List.prefix_nil.1 hp)
 obtain ⟨a1,a2⟩:=iP hpn;obtain ⟨b1,b2⟩:=iP hln;by_cases h:2<=j7 l
 ·exact rN h ht
 ·by_cases g:2<=j7 p
  ·obtain ⟨t,rfl⟩:=hp
   grind [rN]
  ·omega
theorem ER (u:Nat) (l:List UInt8):headL u (headL u l)=headL u l:=by
 induction u generalizing l with
 | zero=>rfl
 | succ u ih=>grind [ng,b1,b2,iP,nh,headL,j7,Gx]
def cA (v:Val) (k n:Int) (s:ByteArray):Bool:=decide (v.k=k) && decide (v.n=n) && decide (v.s=s) && decide (v.ks.length=0)
def ia (e:Ed) (d:Nd) (v:Val):Bool:=
 if e.ck=1/\d.ag=2 then
  (if cA v 9 e.wide au=true then !(aQ d.lo e.cn).2
   else cA v 10 v.n au && decide (v.n % e.cn=0) && (aQ d.hi e.cn).2 && decide (v.n<=(aQ d.hi e.cn).1) && (!(aQ d.lo e.cn).2 || decide ((aQ d.lo e.cn).1<=v.n)))
 else if e.ck=2/\d.ag=3 then cA v 11 0 v.s && decide ((v.s.size:Int)<=d.most) && decide (headL e.cn.toNat (tx v.s)=tx v.s)
 else if e.ck=3/\d.ag=5 then cA v 12 v.n au && decide (0<=v.n) && decide (v.n<=d.most)
 else cA v 9 e.wide au
def shellF (d:Nd) (v:Val):Bool:=
 if v.k≠d.ag∨v.s≠au∨(d.ag≠8/\v.n≠0) then false
 else if d.ag=5 then decide ((v.ks.length:Int)<=d.most)
 else if d.ag=6 then decide (v.ks.length < 2)
 else if d.ag=7 then decide (v.ks.length=d.aC.length)
 else if v.n < 0∨(d.aC.length:Int)<=v.n then false
 else match d.aC[v.n.toNat]? with
  | none=>false
  | some e=>if e.bare=true then decide (v.ks.length=0) else decide (v.ks.length=1)
section
variable (ND:List Nd) (f:Nat->Nat->Bool) (L obs:Nat)
mutual
def seeV:Val->Int->Nat->Bool
 | .mk k n s ks,i,a=>match cz ND i with
  | none=>false
  | some d=>if d.ag < 5 then fitV ND (.mk k n s ks) i else shellF d (.mk k n s ks) && seeVs ks d n a 0
def seeVs:List Val->Nd->Int->Nat->Nat->Bool
 | [],_,_,_,_=>true
 | x :: r,d,z,a,j=>(match dy d z j with
  | none=>false
  | some e=>if iQ f L obs d e a=2 then seeV x e.to (iR f L d e a) else if iQ f L obs d e a=1 then (match cz ND e.to with | none=>false | some t=>ia e t x) else cA x 9 e.wide au) && seeVs r d z a (j + 1)
end
end
section
variable {ND:List Nd} {f:Nat->Nat->Bool} {L obs:Nat}
theorem ES {ks:List Val} {d:Nd} {z:Int} {a j m:Nat} {x:Val} (h:ks[m]? = some x):seeVs ND f L obs (ks.drop m) d z a j=((match dy d z j with
  | none=>false
  | some e=>if iQ f L obs d e a=2 then seeV ND f L obs x e.to (iR f L d e a) else if iQ f L obs d e a=1 then (match cz ND e.to with | none=>false | some t=>ia e t x) else cA x 9 e.wide au) && seeVs ND f L obs (ks.drop (m + 1)) d z a (j + 1)):=by
 obtain ⟨hm,rfl⟩:=List.getElem?_eq_some_iff.1 h;rw [List.drop_eq_getElem_cons hm,seeVs]
structure XI (ND:List Nd) (d:Nd) (z:Int) (j:Nat) (e:Ed):Prop where
 fW:dy d z j=some e
 mem:e∈d.aC
 bare:e.bare=false
theorem rb {N:Nat} {d:Nd} (hN:dt N ND.length d) (h5:5<=d.ag) {v:Val} (h:shellF d v=true) {m:Nat} (hm:m < v.ks.length):∃ e,XI ND d v.n m e:=by
 have h8:=hN.k8;unfold shellF at h;split at h
 ·cases h
 rename_i hc;have Ug:v.k=d.ag:=by omega
 rcases (show (d.ag=5∨d.ag=6)∨d.ag=7∨d.ag=8 by omega) with c | c | c
 ·obtain ⟨e,he,hb,_⟩:=hN.one c;refine ⟨e,?_,by rw [he];exact List.mem_singleton_self e,hb⟩
  grind [dy]
 ·rw [ai (by omega),ai (by omega),ap c,decide_eq_true_iff] at h;obtain ⟨e,he⟩:∃ e,d.aC[m]? = some e:=⟨_,gE (by omega)⟩;refine ⟨e,?_,mG he,?_⟩
  ·unfold dy;rw [ap c,he]
  ·cases hb:e.bare
   ·rfl
   ·have:=hN.bare e (mG he) hb;omega
 ·rw [ai (by omega),ai (by omega),ai (by omega)] at h;split at h
  ·cases h
  cases he:d.aC[v.n.toNat]? with
  | none=>rw [he] at h;cases h
  | some e=>
   rw [he] at h;simp only at h;refine ⟨e,?_,mG he,?_⟩
   ·grind [dy]
   all_goals grind
theorem vA {n u:Int} (hu:1<=u):(aQ n u).2=true->(aQ n u).1=n - n % u/\(aQ n u).1 % u=0:=by
 unfold aQ;rw [ai (by omega)];split
 ·intro h;cases h
 ·intro _;refine ⟨rfl,?_⟩;show (n - n % u) % u=0;rw [Int.sub_emod];simp
theorem oA {v:Val} {k n:Int} {s:ByteArray}:cA v k n s=true↔v = .mk k n s []:=by
 unfold cA;rw [aS,aS,aS,decide_eq_true_iff,decide_eq_true_iff,decide_eq_true_iff,decide_eq_true_iff,List.length_eq_zero_iff];obtain ⟨q,z,t,ks⟩:=v;rw [Val.mk.injEq];constructor
 ·intro ⟨⟨⟨a,b⟩,c⟩,d⟩;exact ⟨a,b,c,d⟩
 ·intro ⟨a,b,c,d⟩;exact ⟨⟨⟨a,b⟩,c⟩,d⟩
theorem kH (k n:Int) (s:ByteArray):cA (.mk k n s []) k n s=true:=oA.2 rfl
theorem pQ {n u:Int} (hu:1<=u):aQ n u=if n - n % u < -9223372036854775808 then (0,false) else (n - n % u,true):=by
 unfold aQ;rw [ai (by omega)]
theorem mM {x y u:Int} (hu:1<=u) (GZ:x<=y) (h:(aQ x u).2=true):(aQ y u).2=true/\(aQ x u).1<=(aQ y u).1:=by
 have hm:x - x % u<=y - y % u:=by
  have h3:=Int.mul_ediv_add_emod x u;have h4:=Int.mul_ediv_add_emod y u;have h5:x / u<=y / u:=Int.ediv_le_ediv (by omega) GZ;have h6:u * (x / u)<=u * (y / u):=Int.mul_le_mul_of_nonneg_left h5 (by omega);omega
 rw [pQ hu] at h ⊢;rw [pQ hu];by_cases c:x - x % u < -9223372036854775808
 ·rw [ap c] at h;cases h
 ·grind
theorem ET {e:Ed} {d:Nd} {N:Nat} (he:Su L N e) {v:Val} (hF:LD ND v e.to d) (eu:fitV ND v e.to=true):ia e d (bE e v)=true:=by
 have L9:=he.cn;have hk:=hF.k
 have eu:(if d.ag < 5 then pJ d v else eQ d v && fitVs ND v.ks (kidsL d v))=true:=by
  obtain ⟨q,z,s,ks⟩:=v;rw [fitV,hF.aj] at eu;exact eu
 by_cases c1:e.ck=1/\v.k=2
 ·have hu:=L9.2.1 c1.1;rw [ap (by omega)] at eu;unfold pJ at eu;split at eu
  ·cases eu
  rw [ai (by omega),ap (by omega),aS,aS,decide_eq_true_iff,decide_eq_true_iff,decide_eq_true_iff] at eu;obtain ⟨⟨_,hlo⟩,ny⟩:=eu;unfold ia;rw [ap ⟨c1.1,by omega⟩];by_cases hz:(aQ v.n e.cn).2=true
  ·have hcv:bE e v = .mk 10 (aQ v.n e.cn).1 au []:=by
    unfold bE;rw [ap ⟨c1.1,c1.2,hz⟩]
   rw [hcv,ai (by rw [oA,Val.mk.injEq];omega)];show (cA _ 10 (aQ v.n e.cn).1 au && _ && _ && _ && _)=true;rw [kH];have h1:=mM hu ny hz;have h2:=(vA hu hz).2;have h3:(Val.mk 10 (aQ v.n e.cn).1 au []).n=(aQ v.n e.cn).1:=rfl;rw [h3,decide_eq_true h2,h1.1,decide_eq_true h1.2]
   grind [aQ,mM]
  ·have hcv:bE e v = .mk 9 e.wide au []:=by
    unfold bE;rw [ai (fun h=>hz h.2.2),ai (by omega),ai (by omega)];rfl
   rw [hcv,ap (kH 9 e.wide au)];cases hl:(aQ d.lo e.cn).2
   ·rfl
   ·exact absurd (mM hu hlo hl).1 hz
 by_cases c2:e.ck=2/\v.k=3
 ·have hcv:bE e v = .mk 11 0 (ba (headL e.cn.toNat (tx v.s))) []:=by grind [bE]
  rw [ap (by omega)] at eu;unfold pJ at eu;split at eu
  ·cases eu
  rw [ai (by omega),ai (by omega),ap (by omega),aS,decide_eq_true_iff,decide_eq_true_iff] at eu;have h1:=yd e.cn.toNat (tx v.s);rw [gP] at h1;have h3:=ER e.cn.toNat (tx v.s);have h2:(ba (headL e.cn.toNat (tx v.s))).size=(headL e.cn.toNat (tx v.s)).length:=by rw [<- gP,xr]
  rw [hcv];generalize headL e.cn.toNat (tx v.s)=H at h1 h2 h3;unfold ia;rw [ai (by omega),ap ⟨c2.1,by omega⟩,aS,aS,decide_eq_true_iff,decide_eq_true_iff];refine ⟨⟨kH 11 0 (ba H),?_⟩,?_⟩
  ·show ((ba H).size:Int)<=_;omega
  ·show headL e.cn.toNat (tx (ba H))=tx (ba H);rw [xr];exact h3
 grind [bE,au,eQ,ia,cA,kH,ov]
theorem Cj {v:Val} {i:Int} {a:Nat} {d:Nd} (eu:fitV ND v i=true) (hF:LD ND v i d) (h5:5<=d.ag) (h8:d.ag<=8):shellF d (eraseV ND f L obs v i a)=true:=by
 obtain ⟨h1,h2,h3⟩:=lF (ND:=ND) (f:=f) (L:=L) (obs:=obs) v i a;have h4:=lH (f:=f) (L:=L) (obs:=obs) v i a hF.aj
 have eu:(if d.ag < 5 then pJ d v else eQ d v && fitVs ND v.ks (kidsL d v))=true:=by
  obtain ⟨q,z,s,ks⟩:=v;rw [fitV,hF.aj] at eu;exact eu
 rw [ai (by omega),aS] at eu;have hB:=eu.1;have hk:=hF.k
 have hp:v.s=au/\(v.n=0∨v.k=8):=by
  have:fI v=true:=by
   unfold eQ at hB;split at hB
   ·rw [aS,aS] at hB;exact hB.1.1
   split at hB
   ·rw [aS,aS] at hB;exact hB.1.1
   split at hB
   ·cases hB
   ·rw [aS] at hB;exact hB.1
  unfold fI at this;rw [aS,Bool.or_eq_true,decide_eq_true_iff,decide_eq_true_iff,decide_eq_true_iff] at this;exact this
 unfold shellF
 rw [h1,h2,h3,h4,ai (by
  rintro (h | h | ⟨ha,hb⟩)
  ·exact h hk
  ·exact h hp.1
  ·rcases hp.2 with h | h<;>omega)]
 unfold eQ at hB;rcases (show d.ag=5∨d.ag=6∨d.ag=7∨d.ag=8 by omega) with c | c | c | c
 ·rw [ap (.inl c),ai (by omega),aS,decide_eq_true_iff] at hB;rw [ap c];exact decide_eq_true hB.2
 ·rw [ai (by omega),ap c];exact decide_eq_true (by have:=hF.opt c;omega)
 ·rw [ai (by omega),ap c,aS,decide_eq_true_iff] at hB;rw [ai (by omega),ai (by omega),ap c];exact decide_eq_true hB.2.symm
 ·obtain ⟨e,ht,he,h0,ay,hb⟩:=hF.tag c;rw [ai (by omega),ai (by omega),ai (by omega),ai (by omega),he];simp only;have oD:=(hF.kids h5).1
  have Dh:kidsL d v=if e.bare=true then [] else [e.to]:=by
   unfold kidsL;rw [ai (by omega),ai (by omega),ht]
  rw [Dh] at oD;by_cases Ta:e.bare=true
  ·rw [ap Ta] at oD ⊢;exact decide_eq_true oD.symm
  ·rw [ai Ta] at oD ⊢;exact decide_eq_true oD.symm
mutual
theorem yj (bL:∀ n∈ND,dt L ND.length n):∀ (x:Val) (i:Int) (a:Nat),fitV ND x i=true->seeV ND f L obs (eraseV ND f L obs x i a) i a=true
 | .mk k n s ks,i,a,hx=>by
  obtain ⟨d,hF⟩:=ef bL hx;have hN:=bL d (mG (bJ hF.aj).2);have h8:=hN.k8;have OH:=fun h5=>Cj (f:=f) (L:=L) (obs:=obs) (a:=a) hx hF h5 h8;rw [eraseV,hF.aj] at OH ⊢;simp only at OH ⊢;rw [seeV,hF.aj];simp only;by_cases h5:d.ag < 5
  ·rw [ap h5];have:=hF.leaf h5
   grind [Val.ks,eraseVs]
  ·rw [ai h5,OH (by omega),Bool.true_and];exact vB bL ks d n a 0 hN (fun m x hx1=>by rw [Nat.zero_add];exact pM bL hx hF hx1)
theorem vB (bL:∀ n∈ND,dt L ND.length n):∀ (ks:List Val) (d:Nd) (z:Int) (a j:Nat),dt L ND.length d->(∀ m x,ks[m]? = some x->∃ e,LN ND d z (j + m) x e) ->
  seeVs ND f L obs (eraseVs ND f L obs ks d z a j) d z a j=true
 | [],_,_,_,_,_,_=>by rw [eraseVs,seeVs]
 | x :: r,d,z,a,j,hN,hk=>by
  obtain ⟨e,he⟩:=hk 0 x rfl;rw [Nat.add_zero] at he
  have ih:=vB bL r d z a (j + 1) hN (fun m x h1=>by
   have:=hk (m + 1) x h1
   rwa [show j + (m + 1)=j + 1 + m by omega] at this)
  obtain ⟨t,hF'⟩:=ef bL he.fit;rw [eraseVs,seeVs,he.fW];simp only;rw [ih,Bool.and_true];by_cases c2:iQ f L obs d e a=2
  ·rw [ap c2,ap c2];exact yj bL x e.to (iR f L d e a) he.fit
  ·rw [ai c2,ai c2];by_cases c1:iQ f L obs d e a=1
   ·rw [ap c1,ap c1,hF'.aj];exact ET (hN.fW e he.mem) hF' he.fit
   ·rw [ai c1,ai c1];exact kH 9 e.wide au
end
theorem Ma (d:Nd) (e:Ed) (a:Nat) (h:f (iR f L d e a) obs=true):iQ f L obs d e a=2:=by
 rw [nj,ap h]
mutual
theorem yl (bL:∀ n∈ND,dt L ND.length n) (hL:dH f L) (zT:∀ a,a < L->f a obs=true):∀ (x:Val) (i:Int) (a:Nat),a < L->fitV ND x i=true->eraseV ND f L obs x i a=x
 | .mk k n s ks,i,a,ha,hx=>by
  obtain ⟨d,hF⟩:=ef bL hx;rw [eraseV,hF.aj];simp only;rw [vC bL hL zT ks d n a 0 ha (bL d (mG (bJ hF.aj).2)) (fun m x hx1=>by rw [Nat.zero_add];exact pM bL hx hF hx1)]
theorem vC (bL:∀ n∈ND,dt L ND.length n) (hL:dH f L) (zT:∀ a,a < L->f a obs=true):∀ (ks:List Val) (d:Nd) (z:Int) (a j:Nat),a < L->dt L ND.length d->(∀ m x,ks[m]? = some x->∃ e,LN ND d z (j + m) x e) ->
  eraseVs ND f L obs ks d z a j=ks
 | [],_,_,_,_,_,_,_=>by rw [eraseVs]
 | x :: r,d,z,a,j,ha,hN,hk=>by
  obtain ⟨e,he⟩:=hk 0 x rfl;rw [Nat.add_zero] at he
  have ih:=vC bL hL zT r d z a (j + 1) ha hN (fun m x h1=>by
   have:=hk (m + 1) x h1
   rwa [show j + (m + 1)=j + 1 + m by omega] at this)
  have hu:=pN hL hN he.mem ha;rw [eraseVs,he.fW,ih];simp only;rw [ap (Ma d e a (zT _ hu)),yl bL hL zT x e.to _ hu he.fit]
end
end
theorem shellF_567 {d:Nd} {v:Val} (c:d.ag=5∨d.ag=6∨d.ag=7):shellF d v=(decide (v.s=au) && decide (v.k=d.ag) && decide (v.n=0) && (if d.ag=5 then decide ((v.ks.length:Int)<=d.most) else if d.ag=6 then decide (v.ks.length < 2) else decide (v.ks.length=d.aC.length))):=by grind [shellF,au]
theorem shellF_8 {d:Nd} {v:Val} (c:d.ag=8):shellF d v=if v.s≠au∨v.k≠8∨v.n < 0∨(d.aC.length:Int)<=v.n then false else match d.aC[v.n.toNat]? with
  | none=>false
  | some e=>(decide (v.ks.length=0) == e.bare) && decide (v.ks.length < 2):=by
 unfold shellF;rw [c];by_cases h1:v.s=au
 ·grind
 ·grind
theorem Ck (d:Nd) (v:Val) (h5:5<=d.ag) (h8:d.ag<=8) (kg:d.aC.length<=1099511627776) (hv:v.wt<=1099511627776):EvP prog 145 [.agg (nD d),.agg (cj v)] (.v (.bool (shellF d v))):=by
 have hA:=fun c=>shellF_567 (d:=d) (v:=v) c;have hB:=fun c=>shellF_8 (d:=d) (v:=v) c;have hA5:d.ag=5->shellF d v=(decide (v.s=au) && decide (v.k=5) && decide (v.n=0) && decide ((v.ks.length:Int)<=d.most)):=fun c=>by rw [hA (.inl c),ap c,c]
 have hA6:d.ag=6->shellF d v=(decide (v.s=au) && decide (v.k=6) && decide (v.n=0) && decide (v.ks.length < 2)):=fun c=>by rw [hA (.inr (.inl c)),ai (by omega),ap c,c]
 have hA7:d.ag=7->shellF d v=(decide (v.s=au) && decide (v.k=7) && decide (v.n=0) && decide (v.ks.length=d.aC.length)):=fun c=>by rw [hA (.inr (.inr c)),ai (by omega),ai (by omega),c]
 have hB1:d.ag=8->(v.s≠au∨v.k≠8∨v.n < 0∨(d.aC.length:Int)<=v.n)->shellF d v=false:=fun c h=>by rw [hB c,ap h]
 have YD:d.ag=8->¬ (v.s≠au∨v.k≠8∨v.n < 0∨(d.aC.length:Int)<=v.n)->∀ e,d.aC[v.n.toNat]? = some e->shellF d v=((decide (v.ks.length=0) == e.bare) && decide (v.ks.length < 2)):=fun c h e he=>by rw [hB c,ai h,he]
 clear hA hB;generalize shellF d v=B at hA5 hA6 hA7 hB1 YD ⊢;obtain ⟨ag,aK,lo,hi,most,YS,es⟩:=d;obtain ⟨k,z,s,ks⟩:=v;simp only [Val.k,Val.n,Val.s,Val.ks] at hA5 hA6 hA7 hB1 YD h5 h8 kg;have ql:=dj es;have dq:=cO ks;refine eG 111 [.tmp 4] func145 rfl ntmps145 rfl fun _ _ _ _=>?_;refine br ?_ ?_<;>intro c
 ·have c:ag=5:=sU c;subst c;rw [hA5 rfl];refine (bA ?_:);simp only [ah,dq];rfl
 have c5:¬ ag=5:=sU c;refine br ?_ ?_<;>intro c
 ·have c:ag=6:=sU c;subst c;rw [hA6 rfl];refine (bA ?_:);simp only [ah,dq];rw [show decide ((ks.length:Int)<=1)=decide (ks.length < 2) from decide_eq_decide.2 ⟨fun h=>by omega,fun h=>by omega⟩];rfl
 have c6:¬ ag=6:=sU c;refine br ?_ ?_<;>intro c
 ·have c:ag=7:=sU c;subst c;rw [hA7 rfl];refine (bA ?_:);simp only [ah,dq,ql];rw [show decide ((ks.length:Int)=es.length)=decide (ks.length=es.length) from decide_eq_decide.2 ⟨fun h=>by omega,fun h=>by omega⟩];rfl
 have c7:¬ ag=7:=sU c;refine br ?_ ?_<;>intro c
 ·have c:s≠au∨k≠8∨z < 0∨(es.length:Int)<=z:=by
   simp [aq,ql] at c;rcases c with ((c | c) | c) | c
   ·exact .inl c
   ·exact .inr (.inl c)
   ·exact .inr (.inr (.inl c))
   ·exact .inr (.inr (.inr c))
  rw [hB1 (by omega) c];exact (rfl:_=_)
 ·have c:¬ (s≠au∨k≠8∨z < 0∨(es.length:Int)<=z):=by
   simp [aq,ql] at c;rintro (h | h | h | h)
   ·exact h c.1.1.1
   ·exact h c.1.1.2
   ·omega
   ·omega
  obtain ⟨e,he⟩:∃ e,es[z.toNat]? = some e:=⟨_,gE (by omega)⟩;rw [YD (by omega) c e he];obtain ⟨en,eb,ea,et,wy,ew,fQ,iS,yf,jH⟩:=e;refine dI ?_;refine iX (cK he) ?_;refine (bA ?_:);simp only [ah,dq];rw [show decide ((ks.length:Int)=0)=decide (ks.length=0) from decide_eq_decide.2 ⟨fun h=>by omega,fun h=>by omega⟩,show decide ((ks.length:Int) < 2)=decide (ks.length < 2) from decide_eq_decide.2 ⟨fun h=>by omega,fun h=>by omega⟩];rfl
theorem EU {v:Val} {k n:Int} {s:ByteArray} (h:0 < v.ks.length):cA v k n s=false:=by grind [cA]
theorem EV {z u:Int} (hz : -9223372036854775808<=z) (hu:1<=u):((aQ z u).2 && decide ((aQ z u).1=z))=decide (z % u=0):=by
 rw [pQ hu];have h1:=Int.emod_nonneg z (b:=u) (by omega);by_cases c:z - z % u < -9223372036854775808
 ·rw [ap c,decide_eq_false (show ¬ z % u=0 by omega)];rfl
 ·rw [ai c];show (true && decide (z - z % u=z))=_;rw [Bool.true_and];exact decide_eq_decide.2 ⟨fun h=>by omega,fun h=>by omega⟩
theorem mayF_1 {e:Ed} {d:Nd} {v:Val} (c:e.ck=1/\d.ag=2):ia e d v=if cA v 9 e.wide au=true then !(aQ d.lo e.cn).2
  else cA v 10 v.n au && decide (v.n % e.cn=0) && (aQ d.hi e.cn).2 && decide (v.n<=(aQ d.hi e.cn).1) && (!(aQ d.lo e.cn).2 || decide ((aQ d.lo e.cn).1<=v.n)):=by
 unfold ia;rw [ap c]
theorem mayF_2 {e:Ed} {d:Nd} {v:Val} (c:e.ck=2/\d.ag=3):ia e d v=(cA v 11 0 v.s && decide ((v.s.size:Int)<=d.most) && decide (headL e.cn.toNat (tx v.s)=tx v.s)):=by grind [ia]
theorem mayF_3 {e:Ed} {d:Nd} {v:Val} (c:e.ck=3/\d.ag=5):ia e d v=(cA v 12 v.n au && decide (0<=v.n) && decide (v.n<=d.most)):=by grind [ia]
theorem mayF_0 {e:Ed} {d:Nd} {v:Val} (c1:¬ (e.ck=1/\d.ag=2)) (c2:¬ (e.ck=2/\d.ag=3)) (c3:¬ (e.ck=3/\d.ag=5)):ia e d v=cA v 9 e.wide au:=by grind [ia]
theorem Mb {e:Ed} {d:Nd} {v:Val} (h:0 < v.ks.length):ia e d v=false:=by grind [mayF_1,EU,mayF_2,mayF_3,mayF_0]
theorem pS {v:Val} {k n:Int} {s:ByteArray} (h:v.ks=[]):cA v k n s=(decide (v.k=k) && decide (v.n=n) && decide (v.s=s)):=by
 unfold cA;rw [h];exact Bool.and_true _
theorem mayF_9 {e:Ed} {d:Nd} {v:Val} (c:e.ck=1/\d.ag=2) (MI:v.ks=[]) (h:v.k=9):ia e d v=(!(aQ d.lo e.cn).2 && decide (v.n=e.wide) && decide (v.s=au)):=by grind [mayF_1,pS,au]
theorem mayF_10 {e:Ed} {d:Nd} {v:Val} (c:e.ck=1/\d.ag=2) (MI:v.ks=[]) (h:¬ v.k=9) (hn : -9223372036854775808<=v.n) (L9:1<=e.cn) :
  ia e d v=(decide (v.k=10) && decide (v.s=au) && (aQ v.n e.cn).2 && decide ((aQ v.n e.cn).1=v.n) && (aQ d.hi e.cn).2 && (!(aQ d.lo e.cn).2 || decide ((aQ d.lo e.cn).1<=v.n)) && decide (v.n<=(aQ d.hi e.cn).1)):=by
 rw [mayF_1 c,pS MI,pS MI,decide_eq_false h,<- EV hn L9];generalize (aQ v.n e.cn).2=b1;generalize decide ((aQ v.n e.cn).1=v.n)=b2;generalize (aQ d.hi e.cn).2=b3;generalize decide (v.n<=(aQ d.hi e.cn).1)=b4;generalize (!(aQ d.lo e.cn).2 || decide ((aQ d.lo e.cn).1<=v.n))=b5;generalize decide (v.k=10)=b6;generalize decide (v.s=au)=b7;rw [show decide (v.n=v.n)=true from decide_eq_true rfl];cases b1<;>cases b2<;>cases b3<;>cases b4<;>cases b5<;>cases b6<;>cases b7<;>rfl
theorem zU (e:Ed) (d:Nd) (v:Val) (MI:v.ks=[]) (IX:e.ck=1/\d.ag=2) (L9:1<=e.cn) (hn : -9223372036854775808<=v.n/\v.n<=9223372036854775807) (hlo : -9223372036854775808<=d.lo/\d.lo<=9223372036854775807) (ny : -9223372036854775808<=d.hi/\d.hi<=9223372036854775807) (hc : -9223372036854775808<=e.cn/\e.cn<=9223372036854775807) :
  EvP prog 186 [.agg (nC e),.agg (nD d),.agg (cj v)] (.v (.bool (ia e d v))):=by
 have h1:=lC d.lo e.cn hlo hc;have h2:=lC v.n e.cn hn hc;have h3:=lC d.hi e.cn ny hc;have iI:=mayF_9 IX MI;have yG:=fun h=>mayF_10 IX MI h hn.1 L9;generalize ia e d v=B at iI yG ⊢;unfold EB at h1 h2 h3;generalize aQ d.lo e.cn=L at h1 iI yG;generalize aQ v.n e.cn=M at h2 yG;generalize aQ d.hi e.cn=H at h3 yG;obtain ⟨L1,L2⟩:=L;obtain ⟨M1,M2⟩:=M;obtain ⟨H1,H2⟩:=H;obtain ⟨q,z,s,ks⟩:=v;obtain ⟨en,eb,ea,et,wy,ew,fQ,iS,yf,jH⟩:=e;obtain ⟨ag,aK,lo,hi,most,YS,es⟩:=d;refine eG 90 [.tmp 6] func186 rfl ntmps186 rfl fun _ _ _ _=>?_;refine cP FJ h1 ?_;refine br ?_ ?_<;>intro c
 ·have c:q=9:=sU c;rw [iI c];refine (bA ?_:);simp only [ah];rfl
 ·have c:¬ q=9:=sU c;rw [yG c];refine cP FJ h2 ?_;refine cP FJ h3 ?_;refine (bA ?_:);simp only [ah,aq];rfl
theorem ym (e:Ed) (d:Nd) (v:Val) (L9:e.ck=1->1<=e.cn) (hn : -9223372036854775808<=v.n/\v.n<=9223372036854775807) (hlo : -9223372036854775808<=d.lo/\d.lo<=9223372036854775807) (ny : -9223372036854775808<=d.hi/\d.hi<=9223372036854775807) (hc : -9223372036854775808<=e.cn/\e.cn<=9223372036854775807) (hv:v.wt<=1099511627776) :
  EvP prog 146 [.agg (nC e),.agg (nD d),.agg (cj v)] (.v (.bool (ia e d v))):=by
 have IG:=fun MI IX=>zU e d v MI IX (L9 IX.1) hn hlo ny hc
 have bY:v.s.size<=1099511627776/\v.ks.length<=1099511627776:=by
  obtain ⟨k,n,s,ks⟩:=v;have:=fm ks;rw [Val.wt] at hv;exact ⟨by show s.size<=_;omega,by show ks.length<=_;omega⟩
 have hh:=vx v.s bY.1 e.cn hc.2;have hlen:=fun h=>Mb (e:=e) (d:=d) (v:=v) h;have yG:=fun c=>mayF_2 (e:=e) (d:=d) (v:=v) c;have hm3:=fun c=>mayF_3 (e:=e) (d:=d) (v:=v) c;have nq:=fun a b c=>mayF_0 (e:=e) (d:=d) (v:=v) a b c;have ke:=fun k n s h=>pS (v:=v) (k:=k) (n:=n) (s:=s) h;generalize ia e d v=B at IG hlen yG hm3 nq ⊢;have SS:(e.ck=2/\d.ag=3)->v.ks=[]->B=(decide (v.k=11) && decide (v.n=0) && decide ((v.s.size:Int)<=d.most) && decide (headL e.cn.toNat (tx v.s)=tx v.s)):=fun c h=>by grind
 have XJ:(e.ck=3/\d.ag=5)->v.ks=[]->B=(decide (v.k=12) && decide (v.s=au) && decide (0<=v.n) && decide (v.n<=d.most)):=fun c h=>by grind
 have sf:¬ (e.ck=1/\d.ag=2)->¬ (e.ck=2/\d.ag=3)->¬ (e.ck=3/\d.ag=5)->v.ks=[]->B=(decide (v.k=9) && decide (v.n=e.wide) && decide (v.s=au)):=fun a b c h=>by
  rw [nq a b c,ke _ _ _ h]
 clear yG hm3 nq ke;generalize headL e.cn.toNat (tx v.s)=HD at hh SS;obtain ⟨q,z,s,ks⟩:=v;simp only [Val.ks,Val.s] at IG hlen SS XJ sf hh bY;have dq:=cO ks;obtain ⟨en,eb,ea,et,wy,ew,fQ,iS,yf,jH⟩:=e;obtain ⟨ag,aK,lo,hi,most,YS,es⟩:=d;refine eG 104 [.tmp 6] func146 rfl ntmps146 rfl fun _ _ _ _=>?_;refine br ?_ ?_<;>intro c
 ·have c:0 < ks.length:=sV dq c;rw [hlen c];exact (rfl:_=_)
 have c0:ks=[]:=by simp_all
 refine br ?_ ?_<;>intro c
 ·have c:fQ=1/\ag=2:=by simpa [ah] using c
  have IG:=IG c0 c;refine cP Vd IG ?_;exact (rfl:_=_)
 have c1:¬ (fQ=1/\ag=2):=by simpa [ah] using c
 refine br ?_ ?_<;>intro c
 ·have c:fQ=2/\ag=3:=by simpa [ah] using c
  have hB:B=((decide (q=11) && decide (z=0) && decide ((s.size:Int)<=most)) && decide (HD=tx s)):=SS c c0;have hbt:decide (ba HD=s)=decide (HD=tx s):=decide_eq_decide.2 ⟨fun h=>by rw [<- h,xr],fun h=>by rw [h,Ki]⟩;refine dI ?_;refine br ?_ ?_<;>intro g
  ·have g:(decide (q=11) && decide (z=0) && decide ((s.size:Int)<=most))=true:=by simpa [ah] using g
   rw [g,Bool.true_and] at hB;refine cD Ps hh ?_;refine (bA ?_:);rw [hB,<- hbt];rfl
  ·have g:(decide (q=11) && decide (z=0) && decide ((s.size:Int)<=most))=false:=by simpa [ah] using g
   rw [g,Bool.false_and] at hB;rw [hB];exact (rfl:_=_)
 have c2:¬ (fQ=2/\ag=3):=by simpa [ah] using c
 refine br ?_ ?_<;>intro c
 ·have c:fQ=3/\ag=5:=by simpa [ah] using c
  rw [XJ c c0];refine (bA ?_:);simp only [ah];rfl
 have c3:¬ (fQ=3/\ag=5):=by simpa [ah] using c
 rw [sf c1 c2 c3 c0];refine (bA ?_:);simp only [ah];rfl
def edW (w:Int):Ed:=⟨au,false,0,0,0,w,0,0,0,0⟩
theorem SU (w:Int) (d:Nd) (v:Val):ia (edW w) d v=cA v 9 w au:=by
 rw [mayF_0 (by rintro ⟨h,_⟩;cases h) (by rintro ⟨h,_⟩;cases h) (by rintro ⟨h,_⟩;cases h)];rfl
theorem EW {N:Nat} {ND:List Nd} {d:Nd} (hN:dt N ND.length d) {v:Val} (h:shellF d v=true) (c:d.ag=8) {m:Nat} (hm:m < v.ks.length):(0<=v.n/\v.n < d.aC.length)/\m=0:=by grind [shellF_8]
def kidS (ND:List Nd) (f:Nat->Nat->Bool) (L obs:Nat) (d:Nd) (e:Ed) (a:Nat) (x:Val):Bool:=if iQ f L obs d e a=2 then seeV ND f L obs x e.to (iR f L d e a) else if iQ f L obs d e a=1 then (match cz ND e.to with | none=>false | some t=>ia e t x) else cA x 9 e.wide au
theorem Ib {ND:List Nd} {f:Nat->Nat->Bool} {L obs:Nat} {ks:List Val} {d:Nd} {z:Int} {a j m:Nat} {x:Val} {e:Ed} (h:ks[m]? = some x) (he:dy d z j=some e):seeVs ND f L obs (ks.drop m) d z a j=(kidS ND f L obs d e a x && seeVs ND f L obs (ks.drop (m + 1)) d z a (j + 1)):=by
 rw [ES h,he];rfl
abbrev Ic (PC LC:List DV) (obs a:Nat) (v:Val) (d:Nd) (e:Nat):St:=
 ⟨[aw 2 a,aF 4 0,aF 7 1,aF 9 2,bc 38 4 (dVals v.ks),aw 39 ((dVals v.ks).length),aw 40 e],[Qt PC LC obs,cj v,nD d],[]⟩
theorem rU {S:Sch} {ND:List Nd} {PC LC:List DV} (hP:jF S ND PC) (hR:zK S.ae.length (aN S) (aA S.ae) LC) (Et:∀ n∈ND,zP n) (bY:∀ n∈ND,n.aC.length<=1099511627776) (obs:Nat) (ho:obs < S.ae.length) :
  ∀ (k:Nat) (v:Val),v.wt<=k->v.wt<=1099511627776->rngW v->∀ (i a:Nat),a < S.ae.length->i < ND.length ->
   EvP prog 92 [.agg (Qt PC LC obs),.v (.int .i64 i),.v (.int .i64 a),.agg (cj v)] (.v (.bool (seeV ND (aN S) S.ae.length obs v i a)))
 | 0,v,h,_=>by have:=v.dE;omega
 | k + 1,v,h,hb=>fun hr i a ha hi=>by
  have ih:=rU hP hR Et bY obs ho k;have hL:=hR.ok;obtain ⟨d,hg⟩:∃ d,ND[i]? = some d:=⟨_,gE hi⟩;have hnd:cz ND (i:Int)=some d:=by grind [cz]
  have qk:=mG hg;have hN:=hP.ok d qk;have gA:=hP.aj i d hg;have OG:=bY d qk;have SR:=Et d qk;have Ql:=ou hP _ v (aU _) hb i;have OH:=fun h5=>Ck d v h5 hN.k8 OG hb;have SV:=fun h5 hs m hm=>rb hN h5 (v:=v) hs (m:=m) hm;have SX:=fun hs c m hm=>EW hN (v:=v) hs c (m:=m) hm
  have hV:seeV ND (aN S) S.ae.length obs v i a=if d.ag < 5 then fitV ND v i else shellF d v && seeVs ND (aN S) S.ae.length obs v.ks d v.n a 0:=by
   obtain ⟨q,z,s,ks⟩:=v;rw [seeV,hnd];rfl
  have hV1:d.ag < 5->seeV ND (aN S) S.ae.length obs v i a=fitV ND v i:=fun c=>by rw [hV,ap c]
  have OI:¬ d.ag < 5->seeV ND (aN S) S.ae.length obs v i a=(shellF d v && seeVs ND (aN S) S.ae.length obs v.ks d v.n a 0):=fun c=>by rw [hV,ai c]
  clear hV;generalize seeV ND (aN S) S.ae.length obs v i a=B at hV1 OI ⊢;generalize fitV ND v i=F at Ql hV1;generalize shellF d v=SH at OH SV SX OI;obtain ⟨vk,vn,vs,ks⟩:=v;have oD:=fm ks;have dq:=cO ks;rw [Val.wt] at h hb;have XH:=zO hr;simp only [Val.ks,Val.n] at OI XH SV SX;obtain ⟨ag,aK,lo,fX,most,af,es⟩:=d;refine eG 90 [.tmp 8] func92 rfl ntmps92 rfl fun _ _ _ _=>?_;refine cP yT gA ?_;refine br ?_ ?_<;>intro c
  ·have c:ag < 5:=sU c;rw [hV1 c];refine cP Rj Ql ?_;exact (rfl:_=_)
  have c5:¬ ag < 5:=sU c;have OI:=OI c5;have h5:5<=ag:=by omega
  have OH:=OH h5;refine cP UZ OH ?_
  cases SH with
  | false=>
   rw [Bool.false_and] at OI;rw [OI];exact (rfl:_=_)
  | true=>
   rw [Bool.true_and] at OI;refine lI (fun t st=>∃ e:Nat,st=Ic PC LC obs a (.mk vk vn vs ks) ⟨ag,aK,lo,fX,most,af,es⟩ e/\e<=ks.length/\B=seeVs ND (aN S) S.ae.length obs (ks.drop e) ⟨ag,aK,lo,fX,most,af,es⟩ vn a e/\t=ks.length - e) ⟨0,rfl,by omega,OI,rfl⟩ (wkB 3 nY jX) ?_;rintro t st ⟨e,rfl,he,hE,rfl⟩;refine br ?_ ?_<;>intro HA
   ·have ay:e < ks.length:=by simpa [dq,Val.ks] using HA
    obtain ⟨x,hx⟩:=gX ay;obtain ⟨ed,hK⟩:=SV h5 rfl e ay;have hm:=mG hx;have hwx:=kC hm;have CP:=nk XH hm;obtain ⟨h1,t2,h2⟩:=LO hN hK.mem hK.bare;obtain ⟨_,IH⟩:=bJ h2;have jv:=(gS IH).1;have qP:ed.to=(ed.to.toNat:Nat):=by omega
    have OJ:=Et t2 (mG IH);have Mc:=hP.aj ed.to.toNat t2 IH;rw [<- qP] at Mc;rw [Ib hx hK.fW] at hE;have mB:=vw hR PC obs a ha ⟨ag,aK,lo,fX,most,af,es⟩ (.mk vk vn vs ks) e ed hK.fW hK.mem hN h5 (fun c=>SX rfl c e ay) OG;have hU:=pN hL hN hK.mem ha;have vy:=oy hR PC obs (iR (aN S) S.ae.length ⟨ag,aK,lo,fX,most,af,es⟩ ed a) ho hU;have hco:=mL hR PC obs a ho ha ⟨ag,aK,lo,fX,most,af,es⟩ ed hN hK.mem;have hcnr:=SR.2.2 ed hK.mem;have hcn1:=(hN.fW ed hK.mem).cn.2.1;have XK:=ym ed t2 x hcn1 (zN CP) OJ.1 OJ.2.1 hcnr (by omega);have Md:=ym (edW ed.wide) t2 x (fun h=>by cases h) (zN CP) OJ.1 OJ.2.1 ⟨by show (-9223372036854775808:Int)<=0;decide,by show (0:Int)<=9223372036854775807;decide⟩ (by omega);rw [SU] at Md;have hrec:=ih x (by omega) (by omega) CP ed.to.toNat (iR (aN S) S.ae.length ⟨ag,aK,lo,fX,most,af,es⟩ ed a) hU jv;rw [<- qP] at hrec
    have Ie:kidS ND (aN S) S.ae.length obs ⟨ag,aK,lo,fX,most,af,es⟩ ed a x=if aN S (iR (aN S) S.ae.length ⟨ag,aK,lo,fX,most,af,es⟩ ed a) obs=true then seeV ND (aN S) S.ae.length obs x ed.to (iR (aN S) S.ae.length ⟨ag,aK,lo,fX,most,af,es⟩ ed a) else if (decide (ed.ck≠0) && aN S (wx (aN S) S.ae.length a ed.seen.toNat) obs)=true then ia ed t2 x else cA x 9 ed.wide au:=by
     unfold kidS;rw [nj,h2];by_cases g1:aN S (iR (aN S) S.ae.length ⟨ag,aK,lo,fX,most,af,es⟩ ed a) obs=true
     ·simp only [ap g1,reduceIte]
     ·grind
    generalize kidS ND (aN S) S.ae.length obs ⟨ag,aK,lo,fX,most,af,es⟩ ed a x=KS at hE Ie;generalize iR (aN S) S.ae.length ⟨ag,aK,lo,fX,most,af,es⟩ ed a=U at mB vy hrec Ie;generalize aN S U obs=b1 at vy Ie;generalize (decide (ed.ck≠0) && aN S (wx (aN S) S.ae.length a ed.seen.toNat) obs)=b2 at hco Ie;generalize seeV ND (aN S) S.ae.length obs x ed.to U=R1 at hrec Ie;generalize ia ed t2 x=R2 at XK Ie;generalize cA x 9 ed.wide au=R3 at Md Ie;have HM:KS=false->B=false:=fun h=>by rw [hE,h,Bool.false_and]
    have l7:KS=true->∃ j',j' < ks.length - e/\∃ e',Ic PC LC obs a (.mk vk vn vs ks) ⟨ag,aK,lo,fX,most,af,es⟩ (e + 1)=Ic PC LC obs a (.mk vk vn vs ks) ⟨ag,aK,lo,fX,most,af,es⟩ e' /\ e' <= ks.length/\B=seeVs ND (aN S) S.ae.length obs (ks.drop e') ⟨ag,aK,lo,fX,most,af,es⟩ vn a e' /\ j'=ks.length - e':=fun h=>⟨ks.length - (e + 1),by omega,e + 1,rfl,by omega,by rw [hE,h,Bool.true_and],rfl⟩;obtain ⟨xk,xn,xs,xks⟩:=x;obtain ⟨en,eb,ea,et,wy,ew,fQ,iS,yf,jH⟩:=ed;obtain ⟨kind2,at2,lo2,wO,most2,abF,es2⟩:=t2;clear hE;refine iX (kB hx) ?_;refine cP UJ mB ?_;refine cP yT Mc ?_;refine cP JI vy ?_
    cases b1 with
    | true=>
     refine cP UH hrec ?_
     cases R1 with
     | false=>
      have hB:=HM (by rw [Ie];rfl);rw [hB];exact (rfl:_=_)
     | true=>
      obtain ⟨j',g1,g2⟩:=l7 (by rw [Ie];rfl);exact ⟨Ic PC LC obs a (.mk vk vn vs ks) ⟨ag,aK,lo,fX,most,af,es⟩ (e + 1),(wkB 3 (nz (nxt ay (by omega))) (cQ (nxt ay (by omega)))),j',g1,g2⟩
    | false=>
     refine cP en101 hco ?_
     cases b2 with
     | true=>
      refine cP Pm XK ?_
      cases R2 with
      | false=>
       have hB:=HM (by rw [Ie];rfl);rw [hB];exact (rfl:_=_)
      | true=>
       obtain ⟨j',g1,g2⟩:=l7 (by rw [Ie];rfl);exact ⟨Ic PC LC obs a (.mk vk vn vs ks) ⟨ag,aK,lo,fX,most,af,es⟩ (e + 1),(wkB 3 (nz (nxt ay (by omega))) (cQ (nxt ay (by omega)))),j',g1,g2⟩
     | false=>
      refine cP Pm Md ?_
      cases R3 with
      | false=>
       have hB:=HM (by rw [Ie];rfl);rw [hB];exact (rfl:_=_)
      | true=>
       obtain ⟨j',g1,g2⟩:=l7 (by rw [Ie];rfl);exact ⟨Ic PC LC obs a (.mk vk vn vs ks) ⟨ag,aK,lo,fX,most,af,es⟩ (e + 1),(wkB 3 (nz (nxt ay (by omega))) (cQ (nxt ay (by omega)))),j',g1,g2⟩
   ·have hge:e=ks.length:=by have:=HA;simp [dq,Val.ks] at this;omega
    subst hge;rw [List.drop_length,seeVs] at hE;rw [hE];exact (rfl:_=_)
def wE (ND:List Nd) (f:Nat->Nat->Bool) (n rt:Nat) (o:Int) (v:Val):Bool:=decide (0<=o/\o < n) && seeV ND f n o.toNat v rt (e9 f n)
theorem Cl {S:Sch} {ND:List Nd} {PC LC:List DV} (hP:jF S ND PC) (iu:EvP prog 15 [.pt PC 0] (.pt LC 0)) (hR:zK S.ae.length (aN S) (aA S.ae) LC) (Qv:∀ n∈ND,zP n) (bY:∀ n∈ND,n.aC.length<=1099511627776) (rt:Nat) (H9:dW S=rt) (gn:rt < ND.length) (o:Int) (v:Val) (hv:v.wt<=1099511627776) (Ah:rngW v) :
  EvP prog 44 [.pt PC 0,.v (.int .i64 o),.agg (cj v)] (.v (.bool (wE ND (aN S) S.ae.length rt o v))):=by
 have Bu:=vz iu hR o;have fi:=hP.root;rw [H9] at fi;have uD:=hR.bot;have hs:=fun (obs:Nat) (ho:obs < S.ae.length)=>rU hP hR Qv bY obs ho _ v (aU _) hv Ah rt (e9 (aN S) S.ae.length) (pL hR.ok) gn;have hS:wE ND (aN S) S.ae.length rt o v=(decide (0<=o/\o < S.ae.length) && seeV ND (aN S) S.ae.length o.toNat v rt (e9 (aN S) S.ae.length)):=rfl;generalize wE ND (aN S) S.ae.length rt o v=SF at hS ⊢;by_cases ho:0<=o/\o < S.ae.length
 ·obtain ⟨ob,rfl⟩:∃ n:Nat,o=n:=⟨_,(Int.toNat_of_nonneg ho.1).symm⟩;have hs:=hs ob (by omega);rw [show decide (0<=(ob:Int)/\(ob:Int) < (S.ae.length:Int))=true from decide_eq_true ho] at Bu hS;rw [jV,Bool.true_and] at hS;rw [<- hS] at hs;generalize e9 (aN S) S.ae.length=bt at uD hs;obtain ⟨k,n,s,ks⟩:=v;refine eG 26 [.tmp 6] func44 rfl ntmps44 rfl fun _ _ _ _=>?_;refine cP Nr Bu ?_;refine dI ?_;refine cD JE fi ?_;refine cD Ns uD ?_;refine cD UH hs ?_;exact (rfl:_=_)
 ·rw [show decide (0<=o/\o < (S.ae.length:Int))=false from decide_eq_false ho] at Bu hS;rw [Bool.false_and] at hS;rw [hS];obtain ⟨k,n,s,ks⟩:=v;refine eG 26 [.tmp 6] func44 rfl ntmps44 rfl fun _ _ _ _=>?_;refine cP Nr Bu ?_;refine dI ?_;exact (rfl:_=_)
structure fB where
 p:List fc
 op:Int
 lit:Rw
def Rw.k:Rw->Int | .mk k _ _ _ _ _=>k
def Rw.a:Rw->Int | .mk _ a _ _ _ _=>a
def Rw.n:Rw->Int | .mk _ _ n _ _ _=>n
def Rw.s:Rw->ByteArray | .mk _ _ _ s _ _=>s
def Rw.keys:Rw->List Wd | .mk _ _ _ _ l _=>l
def Rw.ks:Rw->List Rw | .mk _ _ _ _ _ l=>l
def jI (c:fB):List DV:=[.sl 3 (eK c.p) none,.v (.int .i64 c.op)] ++ dRw c.lit
def fT (l:List fB):List (List DV):=l.map jI
theorem rc (l:List fB):(fT l).length=l.length:=by simp [fT]
theorem re {l:List fB} {i:Nat} {c:fB} (h:l[i]? = some c):(fT l)[i]? = some (jI c):=by simp [fT,h]
def EY (r:Rw):Bool:=decide (r.a=0) && (decide (r.keys.length + r.ks.length=0) && (if r.k=2 then decide (r.s=au) else if r.k=3 then decide (r.n=0) else decide (r.k=1) && (decide (r.n=0) && aZ r.s)))
def lL (c:fB):Bool:=lE c.p && (decide (1<=c.op) && (decide (c.op<=4) && EY c.lit))
def fq (b:Bool):Int:=if b=true then 1 else 0
def wordQ (d:Nd) (u:Val):ByteArray:=
 if u.k=1 then (if u.n=1 then ba [116,114,117,101] else ba [102,97,108,115,101])
 else if u.k=4 then (d.af[u.n.toNat]?).getD au
 else if u.k=8 then (match d.aC[u.n.toNat]? with | some e=>e.name | none=>au)
 else if u.k=6 then (if u.ks=[] then ba [110,111,110,101] else ba [115,111,109,101])
 else au
def lX (lo hi:Int) (c:fB):Int:=
 if c.op=1 then (if c.lit.k≠2∨(c.lit.n < lo∨hi < c.lit.n) then 0 else if lo=hi/\lo=c.lit.n then 1 else 2)
 else if c.op=2 then (if c.lit.k≠2∨c.lit.n<=lo then 0 else if hi < c.lit.n then 1 else 2)
 else if c.op=3 then (if c.lit.k≠2∨hi<=c.lit.n then 0 else if c.lit.n < lo then 1 else 2)
 else 0
def dx (d:Nd) (u:Val) (c:fB):Int:=
 if u.k=2 then lX u.n u.n c
 else if c.op=4 then fq (decide (u.k=5) && (decide (c.lit.k=2) && decide (c.lit.n=u.ks.length)))
 else if c.op≠1 then 0
 else if u.k=3 then fq (decide (c.lit.k=3) && decide (c.lit.s=u.s))
 else fq (decide (c.lit.k=1) && decide (wordQ d u=c.lit.s))
def zV (a b:Int):Option Int:=if (0 < b/\9223372036854775807 - b < a)∨(b < 0/\a < -9223372036854775808 - b) then none else some (a + b)
def zW (e:Ed) (td:Nd) (u:Val) (c:fB):Int:=lX (max u.n td.lo) (min ((zV u.n (e.cn - 1)).getD td.hi) td.hi) c
def cntU:Nat->List UInt8->Nat
 | 0,_=>0
 | k + 1,l=>if l=[] then 0 else 1 + cntU k (l.drop (j7 l))
def oB:Nd:=⟨0,0,0,0,0,[],[]⟩
def vD (e:Ed) (u:Val) (c:fB):Int:=
 if (cntU u.s.size (tx u.s):Int) < e.cn then dx oB (.mk 3 0 u.s []) c
 else if c.op=1/\c.lit.k=3/\headL e.cn.toNat (tx c.lit.s)=tx u.s then 2 else 0
def vE (d:Nd) (e:Ed) (u:Val) (c:fB):Int:=
 if u.k=9 then 2 else if u.k=10 then zW e d u c else if u.k=11 then vD e u c
 else if u.k=12 then fq (decide (c.op=4) && (decide (c.lit.k=2) && decide (c.lit.n=u.n)))
 else dx d u c
def pT (x:Val) (j:Nat):Nat:=if x.k=7 then j else if x.k=8 then x.n.toNat else 0
def sr (d:Nd) (x:Val) (s:fc) (j:Nat):Bool:=
 if x.k=7 then decide (s.k=1) && (match d.aC[j]? with | some e=>decide (e.name=s.s) | none=>false)
 else if x.k=8 then decide (s.k=5) && (match d.aC[x.n.toNat]? with | some e=>decide (e.name=s.s) | none=>false)
 else if x.k=5 then decide (s.k=2) && decide (s.n=(j:Int))
 else if x.k=6 then decide (s.k=4) else false
def ib:Ed:=⟨au,false,0,0,0,0,0,0,0,0⟩
def walkQ (ND:List Nd) (c:fB):List fc->Int->Ed->Val->Int
 | [],i,e,u=>vE ((cz ND i).getD oB) e u c
 | s :: p,i,_,u=>
  if u.k=9 then 2 else if u.k=12/\s.k=2/\s.n < u.n then 2
  else match cz ND i with
  | none=>0
  | some d=>match bg (sr d u s) u.ks.length with
   | none=>0
   | some j=>match u.ks[j]?,d.aC[pT u j]? with
    | some v,some e=>walkQ ND c p e.to e v
    | _,_=>0
def jG (ND:List Nd) (f:Nat->Nat->Bool) (n rt:Nat) (o:Int) (x:Val) (c:fB):Int:=
 if lL c=true/\wE ND f n rt o x=true/\(walkV ND f n c.p rt (e9 f n)).isSome=true then walkQ ND c c.p rt ib x else 0
def allQ (E:fB->Int):List fB->Int->Int
 | [],out=>out
 | c :: r,out=>if E c=0 then 0 else allQ E r (if E c=2 then 2 else out)
theorem yo (b:Bool):EvP prog 153 [.v (.bool b)] (.v (.int .i64 (fq b))):=by
 cases b
 all_goals
  refine eG 4 [.tmp 2] func153 rfl ntmps153 rfl fun _ _ _ _=>?_;exact (rfl:_=_)
theorem EZ (r:Rw) (hs:r.s.size<=1099511627776) (hk:r.keys.length + r.ks.length<=1099511627776):EvP prog 91 [.agg (dRw r)] (.v (.bool (EY r))):=by
 have hn:=eC r.s (by omega);obtain ⟨rk,ra,rn,rs,bz,iH⟩:=r;have hF:EY (.mk rk ra rn rs bz iH)=(decide (ra=0) && (decide (bz.length + iH.length=0) && (if rk=2 then decide (rs=au) else if rk=3 then decide (rn=0) else decide (rk=1) && (decide (rn=0) && aZ rs)))):=rfl;generalize EY (.mk rk ra rn rs bz iH)=F at hF ⊢;have h1:=az bz;have h2:=B4 iH;simp only [Rw.s,Rw.keys,Rw.ks] at hn hk
 have hw:IntKind.i64.wrap (((bw bz).length:Int) + (dRws iH).length)=((bz.length + iH.length:Nat):Int):=by
  rw [wrap64 (by omega) (by omega)];omega
 generalize aZ rs=b at hn hF;refine eG 41 [.tmp 2] func91 rfl ntmps91 rfl fun _ _ _ _=>?_;refine br ?_ ?_<;>intro g
 ·refine congrArg (fun z=>DV.v (Value.bool z)) ?_;simp only [aq,ah,Bool.or_eq_true,Bool.or_eq_false_iff,aS,Bool.and_eq_false_iff,Bool.not_eq_true',Bool.not_eq_false',decide_eq_true_eq,decide_eq_false_iff_not,hw] at g;rw [hF];rcases g with g | g
  ·rw [decide_eq_false g];all_goals rfl
  ·rw [decide_eq_false (p:=bz.length + iH.length=0) (by omega),Bool.false_and,Bool.and_false]
 simp only [aq,ah,Bool.or_eq_true,Bool.or_eq_false_iff,aS,Bool.and_eq_false_iff,Bool.not_eq_true',Bool.not_eq_false',decide_eq_true_eq,decide_eq_false_iff_not,hw] at g;rw [decide_eq_true (by omega:ra=0),decide_eq_true (by omega:bz.length + iH.length=0),Bool.true_and,Bool.true_and] at hF;refine br ?_ ?_<;>intro g2
 ·rw [ap (of_decide_eq_true g2)] at hF;rw [hF];exact (rfl:_=_)
 rw [ai (of_decide_eq_false g2)] at hF;refine br ?_ ?_<;>intro g3
 ·rw [ap (of_decide_eq_true g3)] at hF;rw [hF];exact (rfl:_=_)
 rw [ai (of_decide_eq_false g3)] at hF;refine br ?_ ?_<;>intro g4
 ·refine cP yS hn ?_;refine congrArg (fun z=>DV.v (Value.bool z)) ?_;rw [ah] at g4;have g4:(decide (rk=1) && decide (rn=0))=true:=sU g4;rw [hF,<- Bool.and_assoc,g4];cases b<;>rfl
 ·refine congrArg (fun z=>DV.v (Value.bool z)) ?_;rw [ah] at g4;have g4:(decide (rk=1) && decide (rn=0))=false:=sU g4;rw [hF,<- Bool.and_assoc,g4];rfl
theorem zX (c:fB) (hs:∀ s∈c.p,s.s.size<=1099511627776) (hl:c.lit.s.size<=1099511627776) (hk:c.lit.keys.length + c.lit.ks.length<=1099511627776):EvP prog 43 [.agg (jI c)] (.v (.bool (lL c))):=by
 have h1:=rP c.p (fun s h=>by have:=hs s h;omega);have h2:=EZ c.lit hl hk;obtain ⟨p,op,rk,ra,rn,rs,bz,iH⟩:=c;have hF:lL ⟨p,op,.mk rk ra rn rs bz iH⟩=(lE p && (decide (1<=op) && (decide (op<=4) && EY (.mk rk ra rn rs bz iH)))):=rfl;generalize lL ⟨p,op,.mk rk ra rn rs bz iH⟩=F at hF ⊢;simp only at h1 h2;generalize EY (.mk rk ra rn rs bz iH)=b at h2 hF;generalize lE p=b0 at h1 hF
 cases b0 with
 | false=>
  refine eG 21 [.tmp 2] func43 rfl ntmps43 rfl fun _ _ _ _=>?_;refine cP Nv h1 ?_;rw [hF];exact (rfl:_=_)
 | true=>
  refine eG 21 [.tmp 2] func43 rfl ntmps43 rfl fun _ _ _ _=>?_;refine cP Nv h1 ?_;refine br ?_ ?_<;>intro g
  ·refine cP ZV h2 ?_;rw [ah] at g;have g:(decide (1<=op) && decide (op<=4))=true:=by simpa [pickB] using g
   rw [hF,Bool.true_and,<- Bool.and_assoc,g];exact (rfl:_=_)
  ·rw [ah] at g;have g:(decide (1<=op) && decide (op<=4))=false:=by simpa [pickB] using g
   rw [hF,Bool.true_and,<- Bool.and_assoc,g];exact (rfl:_=_)
theorem Cm (d:Nd) (u:Val) (h4:u.k=4->0<=u.n/\u.n < d.af.length) (h8:u.k=8->0<=u.n/\u.n < d.aC.length):EvP prog 190 [.agg (nD d),.agg (cj u)] (.v (.string (wordQ d u))):=by
 obtain ⟨ag,aK,lo,hi,most,af,es⟩:=d;obtain ⟨uk,un,us,ul⟩:=u
 have hF:wordQ ⟨ag,aK,lo,hi,most,af,es⟩ (.mk uk un us ul)=(if uk=1 then (if un=1 then ba [116,114,117,101] else ba [102,97,108,115,101])
  else if uk=4 then (af[un.toNat]?).getD au
  else if uk=8 then (match es[un.toNat]? with | some e=>e.name | none=>au)
  else if uk=6 then (if ul=[] then ba [110,111,110,101] else ba [115,111,109,101])
  else au):=rfl
 generalize wordQ ⟨ag,aK,lo,hi,most,af,es⟩ (.mk uk un us ul)=F at hF ⊢;have hul:=cO ul;simp only [Val.k,Val.n] at h4 h8;refine eG 35 [.tmp 4] func190 rfl ntmps190 rfl fun _ _ _ _=>?_;refine br ?_ ?_<;>intro g
 ·have g:=of_decide_eq_true g;subst g;rw [ap rfl] at hF;refine br ?_ ?_<;>intro g
  ·rw [ap (of_decide_eq_true g)] at hF;rw [hF];exact (rfl:_=_)
  ·rw [ai (of_decide_eq_false g)] at hF;rw [hF];exact (rfl:_=_)
 have g:=of_decide_eq_false g;rw [ai g] at hF;refine br ?_ ?_<;>intro g2
 ·have g2:=of_decide_eq_true g2;obtain ⟨n1,n2⟩:=h4 g2;rw [ap g2] at hF;obtain ⟨s,hs⟩:∃ s,af[un.toNat]? = some s:=⟨_,gE (by omega)⟩;rw [hs] at hF;refine ⟨_,⟨n1,fx hs⟩,?_⟩;rw [hF];exact (rfl:_=_)
 have g2:=of_decide_eq_false g2;rw [ai g2] at hF;refine br ?_ ?_<;>intro g3
 ·have g3:=of_decide_eq_true g3;obtain ⟨n1,n2⟩:=h8 g3;rw [ap g3] at hF;obtain ⟨e,he⟩:∃ e,es[un.toNat]? = some e:=⟨_,gE (by omega)⟩;rw [he] at hF;refine ⟨_,⟨n1,cK he⟩,?_⟩;rw [hF];exact (rfl:_=_)
 have g3:=of_decide_eq_false g3;rw [ai g3] at hF;refine br ?_ ?_<;>intro g4
 ·rw [ap (of_decide_eq_true g4)] at hF;refine br ?_ ?_<;>intro g5
  ·rw [ai (by rintro rfl;simp [dVals] at g5)] at hF;rw [hF];exact (rfl:_=_)
  ·rw [ap (by
    have:ul.length=0:=by
     have:=of_decide_eq_false g5;omega
    exact List.eq_nil_of_length_eq_zero this)] at hF
   rw [hF];exact (rfl:_=_)
 rw [ai (of_decide_eq_false g4)] at hF;rw [hF];exact (rfl:_=_)
theorem rV (lo hi:Int) (c:fB):EvP prog 188 [.v (.int .i64 lo),.v (.int .i64 hi),.agg (jI c)] (.v (.int .i64 (lX lo hi c))):=by
 obtain ⟨p,op,rk,ra,rn,rs,bz,iH⟩:=c
 have hF:lX lo hi ⟨p,op,.mk rk ra rn rs bz iH⟩=(if op=1 then (if rk≠2∨(rn < lo∨hi < rn) then 0 else if lo=hi/\lo=rn then 1 else 2)
  else if op=2 then (if rk≠2∨rn<=lo then 0 else if hi < rn then 1 else 2)
  else if op=3 then (if rk≠2∨hi<=rn then 0 else if rn < lo then 1 else 2)
  else 0):=rfl
 generalize lX lo hi ⟨p,op,.mk rk ra rn rs bz iH⟩=F at hF ⊢;refine eG 59 [.tmp 6] func188 rfl ntmps188 rfl fun _ _ _ _=>?_;refine br ?_ ?_<;>intro g
 ·refine br ?_ ?_<;>intro g2
  ·refine congrArg (fun z=>DV.v (Value.int .i64 z)) ?_
   grind [ah,aq]
  ·refine br ?_ ?_<;>intro g3
   all_goals
    refine congrArg (fun z=>DV.v (Value.int .i64 z)) ?_
    grind [ah,aq]
 refine br ?_ ?_<;>intro g0
 ·refine br ?_ ?_<;>intro g2
  ·refine congrArg (fun z=>DV.v (Value.int .i64 z)) ?_
   grind [ah,aq]
  ·refine br ?_ ?_<;>intro g3
   all_goals
    refine congrArg (fun z=>DV.v (Value.int .i64 z)) ?_
    grind [ah,aq]
 refine br ?_ ?_<;>intro g1
 ·refine br ?_ ?_<;>intro g2
  ·refine congrArg (fun z=>DV.v (Value.int .i64 z)) ?_
   grind [ah,aq]
  ·refine br ?_ ?_<;>intro g3
   all_goals
    refine congrArg (fun z=>DV.v (Value.int .i64 z)) ?_
    grind [ah,aq]
 ·refine congrArg (fun z=>DV.v (Value.int .i64 z)) ?_
  grind
def XL (o:Option Int):DV:=match o with
 | some z=>.tup [.v (.int .i64 z),.v (.bool true)]
 | none=>.tup [.v (.int .i64 0),.v (.bool false)]
theorem Ig (a b:Int) (ha:nB a) (hb:nB b):EvP prog 187 [.v (.int .i64 a),.v (.int .i64 b)] (XL (zV a b)):=by
 unfold nB at ha hb;have hF:zV a b=if (0 < b/\9223372036854775807 - b < a)∨(b < 0/\a < -9223372036854775808 - b) then none else some (a + b):=rfl
 generalize zV a b=F at hF ⊢;have w1:0 < b->IntKind.i64.wrap (9223372036854775807 - b)=9223372036854775807 - b:=fun h=>wrap64 (by omega) (by omega);have w2:b < 0->IntKind.i64.wrap (-9223372036854775808 - b) = -9223372036854775808 - b:=fun h=>wrap64 (by omega) (by omega);refine eG 27 [.tmp 4,.tmp 5] func187 rfl ntmps187 rfl fun _ _ _ _=>?_;refine br ?_ ?_<;>intro g
 ·simp only [aq,ah,Bool.or_eq_true,Bool.or_eq_false_iff,aS,Bool.and_eq_false_iff,Bool.not_eq_true',Bool.not_eq_false',decide_eq_true_eq,decide_eq_false_iff_not] at g;rw [ap (by omega)] at hF;rw [hF];exact ⟨_,ax,rfl⟩
 ·simp only [aq,ah,Bool.or_eq_true,Bool.or_eq_false_iff,aS,Bool.and_eq_false_iff,Bool.not_eq_true',Bool.not_eq_false',decide_eq_true_eq,decide_eq_false_iff_not] at g;rw [ai (by omega)] at hF;have w3:IntKind.i64.wrap (a + b)=a + b:=wrap64 (by omega) (by omega);have h2:XL (some (a + b))=DV.tup [DV.v (.int .i64 (IntKind.i64.wrap (a + b))),.v (.bool true)]:=by rw [w3];all_goals rfl
  rw [hF];exact ⟨_,ax,h2.symm⟩
theorem pU (d:Nd) (u:Val) (c:fB) (h4:u.k=4->0<=u.n/\u.n < d.af.length) (h8:u.k=8->0<=u.n/\u.n < d.aC.length) :
  EvP prog 154 [.agg (nD d),.agg (cj u),.agg (jI c)] (.v (.int .i64 (dx d u c))):=by
 have hw:=Cm d u h4 h8;have MJ:=rV u.n u.n c;obtain ⟨W,hW⟩:∃ W,W=wordQ d u:=⟨_,rfl⟩;rw [<- hW] at hw;obtain ⟨ag,aK,lo,hi,most,af,es⟩:=d;obtain ⟨uk,un,us,ul⟩:=u;obtain ⟨p,op,rk,ra,rn,rs,bz,iH⟩:=c
 have hF:dx ⟨ag,aK,lo,hi,most,af,es⟩ (.mk uk un us ul) ⟨p,op,.mk rk ra rn rs bz iH⟩=(if uk=2 then lX un un ⟨p,op,.mk rk ra rn rs bz iH⟩
 else if op=4 then fq (decide (uk=5) && (decide (rk=2) && decide (rn=ul.length)))
 else if op≠1 then 0
 else if uk=3 then fq (decide (rk=3) && decide (rs=us))
 else fq (decide (rk=1) && decide (W=rs))):=by rw [hW];all_goals rfl
 generalize dx ⟨ag,aK,lo,hi,most,af,es⟩ (.mk uk un us ul) ⟨p,op,.mk rk ra rn rs bz iH⟩=F at hF ⊢;simp only [Val.k,Val.n] at h4 h8 MJ;generalize lX un un ⟨p,op,.mk rk ra rn rs bz iH⟩=Q at MJ hF;have hul:=cO ul;have TA:=yo;refine eG 75 [.tmp 6] func154 rfl ntmps154 rfl fun _ _ _ _=>?_;refine br ?_ ?_<;>intro g
 ·rw [ap (of_decide_eq_true g)] at hF;rw [hF];refine cP JS MJ ?_;exact (rfl:_=_)
 rw [ai (of_decide_eq_false g)] at hF;refine br ?_ ?_<;>intro g
 ·rw [ap (of_decide_eq_true g)] at hF;rw [hF];refine cP AU (TA _) ?_;refine congrArg (fun b=>DV.v (Value.int .i64 (fq b))) ?_
  grind [ah]
 rw [ai (of_decide_eq_false g)] at hF;refine br ?_ ?_<;>intro g
 ·rw [ap (by grind)] at hF;rw [hF];exact (rfl:_=_)
 rw [ai (by grind)] at hF;refine br ?_ ?_<;>intro g
 ·rw [ap (of_decide_eq_true g)] at hF;rw [hF];refine cP AU (TA _) ?_;refine congrArg (fun b=>DV.v (Value.int .i64 (fq b))) ?_
  grind [ah]
 rw [ai (of_decide_eq_false g)] at hF;by_cases h1:rk=1
 ·subst h1;rw [hF];refine dI ?_;refine cD Ve hw ?_;refine cD AU (TA _) ?_;exact (rfl:_=_)
 ·rw [decide_eq_false h1,Bool.false_and] at hF;rw [hF];refine dI ?_;refine br ?_ ?_<;>intro g
  ·exact (h1 (by grind)).elim
  refine cD AU (TA _) ?_;exact (rfl:_=_)
theorem zY (e:Ed) (d:Nd) (u:Val) (c:fB) (hu:nB u.n) (he : -9223372036854775808 < e.cn/\e.cn<=9223372036854775807) :
  EvP prog 151 [.agg (nC e),.agg (nD d),.agg (cj u),.agg (jI c)] (.v (.int .i64 (zW e d u c))):=by
 have ha:=Ig u.n (e.cn - 1) hu (by unfold nB;omega);have MJ:=rV (max u.n d.lo) (min ((zV u.n (e.cn - 1)).getD d.hi) d.hi) c;have hF:zW e d u c=lX (max u.n d.lo) (min ((zV u.n (e.cn - 1)).getD d.hi) d.hi) c:=rfl;rw [hF];have hw:IntKind.i64.wrap (e.cn - 1)=e.cn - 1:=wrap64 (by omega) (by omega);clear hF;generalize zV u.n (e.cn - 1)=A at ha MJ ⊢;obtain ⟨ag,aK,lo,hi,most,af,es⟩:=d;obtain ⟨uk,un,us,ul⟩:=u;obtain ⟨p,op,rk,ra,rn,rs,bz,iH⟩:=c;obtain ⟨en,eb,ea,et,el,ew,fQ,iS,yp,jH⟩:=e;simp only [Val.n] at ha MJ hw ⊢;rw [<- hw] at ha
 cases A with
 | none=>
  simp only [Option.getD_none] at MJ ⊢;refine eG 35 [.tmp 8] func151 rfl ntmps151 rfl fun _ _ _ _=>?_;refine cP Px ha ?_;refine cP JS MJ ?_;exact (rfl:_=_)
 | some z=>
  simp only [Option.getD_some] at MJ ⊢;refine eG 35 [.tmp 8] func151 rfl ntmps151 rfl fun _ _ _ _=>?_;refine cP Px ha ?_;refine cP JS MJ ?_;exact (rfl:_=_)
theorem yq:∀ (k m:Nat) (l:List UInt8),l.length<=k->l.length<=m->cntU k l=cntU m l
 | 0,0,_,_,_=>rfl
 | 0,m + 1,l,h,_=>by
  have:l=[]:=List.eq_nil_of_length_eq_zero (by omega);subst this;simp [cntU]
 | k + 1,0,l,_,h=>by
  have:l=[]:=List.eq_nil_of_length_eq_zero (by omega);subst this;simp [cntU]
 | k + 1,m + 1,l,h1,h2=>by
  rw [cntU,cntU];split
  ·rfl
  ·rename_i hl;have:=iP hl;rw [yq k m (l.drop (j7 l)) (by rw [List.length_drop];omega) (by rw [List.length_drop];omega)]
theorem yr {k:Nat} {l:List UInt8} (hl:l ≠ []) (hk:l.length<=k):cntU k l=1 + cntU k (l.drop (j7 l)):=by
 have hp:=iP hl;have h0:0 < l.length:=List.length_pos_iff.2 hl;obtain ⟨m,rfl⟩:∃ m,k=m + 1:=⟨k - 1,by omega⟩;rw [cntU,ai hl,yq m (m + 1) _ (by rw [List.length_drop];omega) (by rw [List.length_drop];omega)]
abbrev XM (s:ByteArray) (m:Int) (all en aK:Int):St:=⟨[(0,⟨[],.v (.string s)⟩),aw 1 m,aw 4 all,aw 5 en,aw 6 aK],[],[]⟩
theorem pV (s:ByteArray) (hs:s.size<=1099511627776) (m:Int):EvP prog 189 [.v (.string s),.v (.int .i64 m)] (.tup [.v (.int .i64 (cntU s.size (tx s):Nat)),.v (.int .i64 ((headL m.toNat (tx s)).length:Nat))]):=by
 have oP:=gP s;generalize hC:cntU s.size (tx s)=C;generalize hE:(headL m.toNat (tx s)).length=En;refine eG 35 [.tmp 4,.tmp 5] func189 rfl ntmps189 rfl fun _ _ _ _=>?_;refine lI (fun j st=>∃ (aK all en:Nat),st=XM s m all en aK /\ aK <= s.size/\all<=aK /\ all + cntU s.size ((tx s).drop aK)=C/\((all:Int)<=m->aK + (headL (m.toNat - all) ((tx s).drop aK)).length=En)/\(m < all->en=En)/\j=s.size - aK) ⟨0,0,0,rfl,by omega,by omega,by rw [List.drop_zero];omega,fun h=>by rw [List.drop_zero,Nat.sub_zero];omega,fun h=>by rw [<- hE,show m.toNat=0 by omega];rfl,rfl⟩ (bl wB) ?_;rintro _ st ⟨aK,all,en,rfl,h1,h0,h2,h3,h4,rfl⟩;refine br ?_ ?_<;>intro hL
 ·have ay:aK < s.size:=sU hL
  have bq:(tx s).drop aK ≠ []:=by
   intro h;have:=congrArg List.length h;rw [List.length_drop,List.length_nil] at this;omega
  have hu:=yg s aK hs h1;have bh:=yr (k:=s.size) bq (by rw [List.length_drop];omega);rw [bh,List.drop_drop] at h2;have M7:=iP bq;have eM:j7 ((tx s).drop aK) + aK <= s.size:=by grind [iP]
  have ua:∀ k,headL (k + 1) ((tx s).drop aK)=((tx s).drop aK).take (j7 ((tx s).drop aK)) ++ headL k ((tx s).drop (aK + j7 ((tx s).drop aK))):=fun k=>by rw [headL,List.drop_drop]
  have h5:(all:Int) < m->aK + j7 ((tx s).drop aK) + (headL (m.toNat - (all + 1)) ((tx s).drop (aK + j7 ((tx s).drop aK)))).length=En:=fun h=>by
   have:=h3 (by omega);rw [show m.toNat - all=(m.toNat - (all + 1)) + 1 by omega,ua,List.length_append,eP,List.length_drop] at this;omega
  have h6:(all:Int)=m->aK=En:=fun h=>by
   have:=h3 (by omega);rw [show m.toNat - all=0 by omega,headL,List.length_nil] at this;omega
  generalize j7 ((tx s).drop aK)=n at hu h2 h5 eM M7
  have hw:IntKind.i64.wrap ((aK:Int) + n)=((aK + n:Nat):Int):=by
   rw [wrap64 (by omega) (by omega)];omega
  have W9:IntKind.i64.wrap ((all:Int) + 1)=((all + 1:Nat):Int):=by
   rw [wrap64 (by omega) (by omega)];omega
  refine br ?_ ?_<;>intro g
  ·have g:=of_decide_eq_true g;refine cp JT rfl hu ax (fun q hq=>?_);obtain ⟨z1,rfl⟩:=hq;exact ⟨XM s m (all + 1:Nat) aK (aK + n:Nat),(bl (wB2 hw W9)),s.size - (aK + n),by omega,aK + n,all + 1,aK,rfl,by omega,by omega,by omega,fun h=>by omega,fun _=>h6 g,rfl⟩
  ·have g:=of_decide_eq_false g;refine cp JT rfl hu ax (fun q hq=>?_);obtain ⟨z1,rfl⟩:=hq;exact rE ⟨_,by omega,aK + n,all + 1,en,rfl,by omega,by omega,by omega,fun h=>h5 (by omega),fun h=>h4 (by omega),rfl⟩ (bl (wB2 hw W9))
 ·have hge:aK=s.size:=by
   have h2:=hL;simp at h2;omega
  subst hge;have SD:(tx s).drop s.size=[]:=List.drop_eq_nil_of_le (by omega);rw [SD] at h2 h3
  have Jj:cntU s.size []=0:=by
   cases s.size with
   | zero=>rfl
   | succ _=>simp [cntU]
  rw [Jj,Nat.add_zero] at h2;subst h2;refine br ?_ ?_<;>intro g
  ·have g:=of_decide_eq_true g;have:=h3 g;rw [ng,List.length_nil,Nat.add_zero] at this;subst this;exact ⟨_,ax,rfl⟩
  ·have g:=of_decide_eq_false g;have:=h4 (by omega);subst this;exact ⟨_,ax,rfl⟩
theorem zZ (e:Ed) (u:Val) (c:fB) (hu:u.s.size<=1099511627776) (hc:c.lit.s.size<=1099511627776) :
  EvP prog 152 [.agg (nC e),.agg (cj u),.agg (jI c)] (.v (.int .i64 (vD e u c))):=by
 obtain ⟨uk,un,us,ul⟩:=u;obtain ⟨p,op,rk,ra,rn,rs,bz,iH⟩:=c;obtain ⟨en,eb,ea,et,el,ew,fQ,iS,yp,jH⟩:=e;have h1:=pV us hu iS;have h2:=pV rs hc iS;have hp:=pU oB (.mk 3 0 us []) ⟨p,op,.mk rk ra rn rs bz iH⟩ (fun h=>absurd (show (3:Int)=4 from h) (by decide)) (fun h=>absurd (show (3:Int)=8 from h) (by decide));have XN:=nh iS.toNat (tx rs)
 have hF:vD ⟨en,eb,ea,et,el,ew,fQ,iS,yp,jH⟩ (.mk uk un us ul) ⟨p,op,.mk rk ra rn rs bz iH⟩=(if (cntU us.size (tx us):Int) < iS then dx oB (.mk 3 0 us []) ⟨p,op,.mk rk ra rn rs bz iH⟩
  else if op=1/\rk=3/\headL iS.toNat (tx rs)=tx us then 2 else 0):=rfl
 generalize vD ⟨en,eb,ea,et,el,ew,fQ,iS,yp,jH⟩ (.mk uk un us ul) ⟨p,op,.mk rk ra rn rs bz iH⟩=F at hF ⊢;generalize dx oB (.mk 3 0 us []) ⟨p,op,.mk rk ra rn rs bz iH⟩=P at hp hF;generalize cntU us.size (tx us)=n1 at h1 hF;generalize (headL iS.toNat (tx us)).length=e1 at h1;generalize cntU rs.size (tx rs)=n2 at h2;have oP:=gP rs;have hple:=XN.length_le;have l8:=List.prefix_iff_eq_take.1 XN;generalize headL iS.toNat (tx rs)=H at h2 hF hple l8;refine eG 57 [.tmp 6] func152 rfl ntmps152 rfl fun _ _ _ _=>?_;refine cP Py h1 ?_;refine br ?_ ?_<;>intro g
 ·rw [ap (of_decide_eq_true g)] at hF;rw [hF];refine cP Pq hp ?_;exact (rfl:_=_)
 rw [ai (of_decide_eq_false g)] at hF;refine cP Py h2 ?_
 have hx:rs.extract 0 H.length=ba H:=Dz (by
  simp [tx] at l8 ⊢
  exact l8.symm)
 refine dI ?_;refine br ?_ ?_<;>intro g1
 ·have g1:op=1/\rk=3:=by simpa [ah] using g1
  refine ⟨⟨by omega,by omega,by omega⟩,?_⟩;refine br ?_ ?_<;>intro g2
  ·have g2:=of_decide_eq_true g2
   rw [ap ⟨g1.1,g1.2,by
    have:=congrArg tx (hx.symm.trans g2)
    rwa [xr] at this⟩] at hF
   rw [hF];exact (rfl:_=_)
  ·have g2:=of_decide_eq_false g2;rw [ai (fun h=>g2 (hx.trans (by rw [h.2.2];exact Ki us)))] at hF;rw [hF];exact (rfl:_=_)
 ·have g1:¬ (op=1/\rk=3):=by simpa [ah] using g1
  rw [ai (fun h=>g1 ⟨h.1,h.2.1⟩)] at hF;rw [hF];exact (rfl:_=_)
def oC (d:Nd) (x:Val) (s:fc):DV:=match bg (sr d x s) x.ks.length with
 | none=>.tup [.agg (nC ib),.v (.int .i64 0),.v (.bool false)]
 | some j=>.tup [.agg (nC ((d.aC[pT x j]?).getD ib)),.v (.int .i64 j),.v (.bool true)]
abbrev XO (d:Nd) (x:Val) (s:fc) (e:Nat):St:=
 ⟨[aF 3 0,aF 4 1,aF 5 2,aF 6 3,aw 7 0,yN 8 false,aw 14 ((dVals x.ks).length),aw 15 e],[nD d,cj x,ve s,nC ib],[]⟩
set_option maxHeartbeats 1000000 in
theorem Cn (d:Nd) (x:Val) (s:fc) (h7:x.k=7->x.ks.length<=d.aC.length) (h8:x.k=8->0<=x.n/\x.n < d.aC.length) (h5:x.k=5∨x.k=6->0 < d.aC.length) (yI:x.ks.length<=1099511627776) :
  EvP prog 95 [.agg (nD d),.agg (cj x),.agg (ve s)] (oC d x s):=by
 obtain ⟨ag,aK,lo,hi,most,af,es⟩:=d;obtain ⟨xk,xn,xs,xl⟩:=x;obtain ⟨sk,sn,ss⟩:=s
 have hR:oC ⟨ag,aK,lo,hi,most,af,es⟩ (.mk xk xn xs xl) ⟨sk,sn,ss⟩=(match bg (sr ⟨ag,aK,lo,hi,most,af,es⟩ (.mk xk xn xs xl) ⟨sk,sn,ss⟩) xl.length with
  | none=>.tup [.agg (nC ib),.v (.int .i64 0),.v (.bool false)]
  | some j=>.tup [.agg (nC ((es[pT (.mk xk xn xs xl) j]?).getD ib)),.v (.int .i64 j),.v (.bool true)]):=rfl
 generalize oC ⟨ag,aK,lo,hi,most,af,es⟩ (.mk xk xn xs xl) ⟨sk,sn,ss⟩=R at hR ⊢;have dq:(dVals (Val.mk xk xn xs xl).ks).length=xl.length:=cO xl;have hE:=dj es
 have hfq:∀ j,sr ⟨ag,aK,lo,hi,most,af,es⟩ (.mk xk xn xs xl) ⟨sk,sn,ss⟩ j=(if xk=7 then decide (sk=1) && (match es[j]? with | some e=>decide (e.name=ss) | none=>false)
 else if xk=8 then decide (sk=5) && (match es[xn.toNat]? with | some e=>decide (e.name=ss) | none=>false)
 else if xk=5 then decide (sk=2) && decide (sn=(j:Int))
 else if xk=6 then decide (sk=4) else false):=fun j=>rfl
 have hke:∀ j,pT (.mk xk xn xs xl) j=(if xk=7 then j else if xk=8 then xn.toNat else 0):=fun j=>rfl;generalize sr ⟨ag,aK,lo,hi,most,af,es⟩ (.mk xk xn xs xl) ⟨sk,sn,ss⟩=FQ at *;generalize pT (.mk xk xn xs xl)=KE at *;simp only [Val.k,Val.n,Val.ks] at h7 h8 h5 yI;refine eG 80 [.cell 6 115,.tmp 7,.tmp 8] func95 rfl ntmps95 rfl fun _ _ _ _=>?_;refine lI (fun j st=>∃ e:Nat,st=XO ⟨ag,aK,lo,hi,most,af,es⟩ (.mk xk xn xs xl) ⟨sk,sn,ss⟩ e/\e<=xl.length/\(∀ a,a < e->FQ a=false)/\j=xl.length - e) ⟨0,rfl,by omega,by omega,rfl⟩ (wkB 4 nY jX) ?_;rintro _ st ⟨e,rfl,he,hn,rfl⟩;refine br ?_ ?_<;>intro hL
 ·have ay:e < xl.length:=sV dq hL;have lT:=hfq e;have vS:=hke e
  have l7:FQ e=false->∀ a,a < e + 1->FQ a=false:=fun h a ha=>by
   rcases jU ha with ha | rfl
   ·exact hn a ha
   ·exact h
  have lP:FQ e=true->∀ ed,es[KE e]? = some ed->R = .tup [.agg (nC ed),.v (.int .i64 e),.v (.bool true)]:=fun h ed E4=>by
   rw [hR,bZ ay h hn];simp only;rw [E4];rfl
  refine br ?_ ?_<;>intro g7
  ·have g7:=of_decide_eq_true g7;rw [ap g7] at lT vS;obtain ⟨ed,E4⟩:∃ ed,es[e]? = some ed:=⟨_,gE (by have:=h7 g7;omega)⟩;rw [E4] at lT;have lP:=fun h=>lP h ed (by rw [vS];exact E4);have OL:=cK E4;obtain ⟨en,eb,ea,et,el,ew,fQ,iS,yp,jH⟩:=ed;refine dI ?_;refine br ?_ ?_<;>intro g
   ·have g:sk=1:=sU g;rw [decide_eq_true g,Bool.true_and] at lT;refine ⟨_,⟨by omega,OL⟩,?_⟩;refine br ?_ ?_<;>intro g2
    ·refine ⟨_,⟨by omega,OL⟩,?_⟩;rw [lP (lT.trans g2)];exact ⟨_,ax,rfl⟩
    ·exact rE ⟨_,by omega,e + 1,rfl,by omega,l7 (lT.trans g2),rfl⟩ (wkB 4 (nz (nxt ay (by omega))) (cQ (nxt ay (by omega))))
   ·have g:¬ sk=1:=sU g;rw [decide_eq_false g,Bool.false_and] at lT;exact rE ⟨_,by omega,e + 1,rfl,by omega,l7 (lT),rfl⟩ (wkB 4 (nz (nxt ay (by omega))) (cQ (nxt ay (by omega))))
  have g7:=of_decide_eq_false g7;rw [ai g7] at lT vS;refine br ?_ ?_<;>intro g8
  ·have g8:=of_decide_eq_true g8;rw [ap g8] at lT vS;obtain ⟨ed,E4⟩:∃ ed,es[xn.toNat]? = some ed:=⟨_,gE (by have:=h8 g8;omega)⟩;rw [E4] at lT;have lP:=fun h=>lP h ed (by rw [vS];exact E4);have OL:=cK E4;obtain ⟨en,eb,ea,et,el,ew,fQ,iS,yp,jH⟩:=ed;refine dI ?_;refine br ?_ ?_<;>intro g
   ·have g:sk=5:=sU g;rw [decide_eq_true g,Bool.true_and] at lT;refine ⟨_,⟨(h8 g8).1,OL⟩,?_⟩;refine br ?_ ?_<;>intro g2
    ·refine ⟨_,⟨(h8 g8).1,OL⟩,?_⟩;rw [lP (lT.trans g2)];exact ⟨_,ax,rfl⟩
    ·exact rE ⟨_,by omega,e + 1,rfl,by omega,l7 (lT.trans g2),rfl⟩ (wkB 4 (nz (nxt ay (by omega))) (cQ (nxt ay (by omega))))
   ·have g:¬ sk=5:=sU g;rw [decide_eq_false g,Bool.false_and] at lT;exact rE ⟨_,by omega,e + 1,rfl,by omega,l7 (lT),rfl⟩ (wkB 4 (nz (nxt ay (by omega))) (cQ (nxt ay (by omega))))
  have g8:=of_decide_eq_false g8;rw [ai g8] at lT vS;refine br ?_ ?_<;>intro g5
  ·have g5:=of_decide_eq_true g5;rw [ap g5] at lT;obtain ⟨ed,E4⟩:∃ ed,es[0]? = some ed:=⟨_,gE (h5 (.inl g5))⟩;have lP:=fun h=>lP h ed (by rw [vS];exact E4);have OL:=cK E4;obtain ⟨en,eb,ea,et,el,ew,fQ,iS,yp,jH⟩:=ed;refine br ?_ ?_<;>intro g2
   ·refine ⟨_,⟨by omega,OL⟩,?_⟩;rw [lP (by rw [lT];rw [ah] at g2;exact g2)];exact ⟨_,ax,rfl⟩
   ·exact rE ⟨_,by omega,e + 1,rfl,by omega,l7 (by rw [lT];rw [ah] at g2;exact g2),rfl⟩ (wkB 4 (nz (nxt ay (by omega))) (cQ (nxt ay (by omega))))
  have g5:=of_decide_eq_false g5;rw [ai g5] at lT;refine br ?_ ?_<;>intro g6
  ·have g6:=of_decide_eq_true g6;rw [ap g6] at lT;obtain ⟨ed,E4⟩:∃ ed,es[0]? = some ed:=⟨_,gE (h5 (.inr g6))⟩;have lP:=fun h=>lP h ed (by rw [vS];exact E4);have OL:=cK E4;obtain ⟨en,eb,ea,et,el,ew,fQ,iS,yp,jH⟩:=ed;refine br ?_ ?_<;>intro g2
   ·refine ⟨_,⟨by omega,OL⟩,?_⟩;rw [lP (by rw [lT];exact g2)];exact ⟨_,ax,rfl⟩
   ·exact rE ⟨_,by omega,e + 1,rfl,by omega,l7 (by rw [lT];exact g2),rfl⟩ (wkB 4 (nz (nxt ay (by omega))) (cQ (nxt ay (by omega))))
  have g6:=of_decide_eq_false g6;rw [ai g6] at lT;exact rE ⟨_,by omega,e + 1,rfl,by omega,l7 (lT),rfl⟩ (wkB 4 (nz (nxt ay (by omega))) (cQ (nxt ay (by omega))))
 ·have hge:xl.length<=e:=sV dq hL;rw [hR,b9 fun a ha=>hn a (by omega)];exact ⟨_,ax,rfl⟩
def dPl (i:Int) (e:Ed) (u:Val):List DV:=[.v (.int .i64 i)] ++ (nC e ++ cj u)
theorem E5 {S:Sch} {ND:List Nd} {PC:List DV} (hP:jF S ND PC) (i:Nat) (d:Nd) (hd:ND[i]? = some d) (e:Ed) (u:Val) (c:fB) (h4:u.k=4->0<=u.n/\u.n < d.af.length) (h8:u.k=8->0<=u.n/\u.n < d.aC.length)
  (hu:nB u.n) (hus:u.s.size<=1099511627776) (he : -9223372036854775808 < e.cn/\e.cn<=9223372036854775807) (hc:c.lit.s.size<=1099511627776) :
  EvP prog 96 [.pt PC 0,.agg (dPl i e u),.agg (jI c)] (.v (.int .i64 (vE d e u c))):=by
 have hnd:=hP.aj i d hd;have h1:=pU d u c h4 h8;have h2:=zY e d u c hu he;have h3:=zZ e u c hus hc;have TA:=yo;obtain ⟨ag,aK,lo,hi,most,af,es⟩:=d;obtain ⟨uk,un,us,ul⟩:=u;obtain ⟨p,op,rk,ra,rn,rs,bz,iH⟩:=c;obtain ⟨en,eb,ea,et,el,ew,fQ,iS,yp,jH⟩:=e;obtain ⟨Q1,hQ1⟩:∃ Q,Q=dx ⟨ag,aK,lo,hi,most,af,es⟩ (.mk uk un us ul) ⟨p,op,.mk rk ra rn rs bz iH⟩:=⟨_,rfl⟩;obtain ⟨Q2,hQ2⟩:∃ Q,Q=zW ⟨en,eb,ea,et,el,ew,fQ,iS,yp,jH⟩ ⟨ag,aK,lo,hi,most,af,es⟩ (.mk uk un us ul) ⟨p,op,.mk rk ra rn rs bz iH⟩:=⟨_,rfl⟩;obtain ⟨Q3,hQ3⟩:∃ Q,Q=vD ⟨en,eb,ea,et,el,ew,fQ,iS,yp,jH⟩ (.mk uk un us ul) ⟨p,op,.mk rk ra rn rs bz iH⟩:=⟨_,rfl⟩;rw [<- hQ1] at h1;rw [<- hQ2] at h2;rw [<- hQ3] at h3
 have hF:vE ⟨ag,aK,lo,hi,most,af,es⟩ ⟨en,eb,ea,et,el,ew,fQ,iS,yp,jH⟩ (.mk uk un us ul) ⟨p,op,.mk rk ra rn rs bz iH⟩=(if uk=9 then 2 else if uk=10 then Q2 else if uk=11 then Q3
 else if uk=12 then fq (decide (op=4) && (decide (rk=2) && decide (rn=un)))
 else Q1):=by rw [hQ1,hQ2,hQ3];all_goals rfl
 generalize vE ⟨ag,aK,lo,hi,most,af,es⟩ ⟨en,eb,ea,et,el,ew,fQ,iS,yp,jH⟩ (.mk uk un us ul) ⟨p,op,.mk rk ra rn rs bz iH⟩=F at hF ⊢;refine eG 64 [.tmp 6] func96 rfl ntmps96 rfl fun _ _ _ _=>?_;refine cP yT hnd ?_;refine br ?_ ?_<;>intro g
 ·rw [ap (of_decide_eq_true g)] at hF;rw [hF];exact (rfl:_=_)
 rw [ai (of_decide_eq_false g)] at hF;refine br ?_ ?_<;>intro g
 ·rw [ap (of_decide_eq_true g)] at hF;rw [hF];refine cP U1 h2 ?_;exact (rfl:_=_)
 rw [ai (of_decide_eq_false g)] at hF;refine br ?_ ?_<;>intro g
 ·rw [ap (of_decide_eq_true g)] at hF;rw [hF];refine cP U2 h3 ?_;exact (rfl:_=_)
 rw [ai (of_decide_eq_false g)] at hF;refine br ?_ ?_<;>intro g
 ·rw [ap (of_decide_eq_true g)] at hF;rw [hF];refine cP AU (TA _) ?_;refine congrArg (fun b=>DV.v (Value.int .i64 (fq b))) ?_
  grind [ah]
 rw [ai (of_decide_eq_false g)] at hF;rw [hF];refine cP Pq h1 ?_;exact (rfl:_=_)
def Gy (v:Val):Bool:=decide (v.k=2) || (decide (v.k=3) || ((decide (v.k=9) && (decide (1<=v.n) && decide (v.n<=64))) || (decide (10<=v.k) && decide (v.k<=12))))
section
variable (ND:List Nd)
mutual
def lY:Val->Int->Bool
 | .mk k n s ks,i=>match cz ND i with
  | none=>false
  | some d=>if 9<=k then Gy (.mk k n s ks) && decide (ks=[]) else if k≠d.ag then false else if d.ag < 5 then decide (ks=[]) && (decide (k≠4) || decide (0<=n/\n < d.af.length)) else shellF d (.mk k n s ks) && rW ks d n 0
def rW:List Val->Nd->Int->Nat->Bool
 | [],_,_,_=>true
 | x :: r,d,z,j=>(match dy d z j with
  | none=>false
  | some e=>lY x e.to) && rW r d z (j + 1)
end
end
section
variable {ND:List Nd}
theorem Co:∀ {ks:List Val} {d:Nd} {z:Int} {j m:Nat} {x:Val},rW ND ks d z j=true->ks[m]? = some x->∃ e,dy d z (j + m)=some e/\lY ND x e.to=true
 | [],_,_,_,_,_,_,h=>by simp at h
 | y :: r,d,z,j,m,x,hw,h=>by
  rw [rW,aS] at hw
  cases m with
  | zero=>grind
  | succ m=>
   rw [show j + (m + 1)=j + 1 + m by omega];exact Co hw.2 (sU h)
end
section
variable {ND:List Nd}
theorem Me {v:Val} {i:Int} (h:lY ND v i=true):∃ d,cz ND i=some d/\((9<=v.k/\Gy v=true/\v.ks=[])∨(v.k=d.ag/\d.ag < 5/\v.ks=[]/\(v.k=4->0<=v.n/\v.n < d.af.length))∨(v.k=d.ag/\5<=d.ag/\shellF d v=true/\rW ND v.ks d v.n 0=true)):=by
 obtain ⟨k,n,s,ks⟩:=v;unfold lY at h
 cases hd:cz ND i with
 | none=>rw [hd] at h;cases h
 | some d=>
  rw [hd] at h;refine ⟨d,rfl,?_⟩;simp only at h;split at h
  ·rename_i c;rw [aS,decide_eq_true_iff] at h;exact .inl ⟨c,h.1,h.2⟩
  ·split at h
   ·cases h
   ·rename_i c;have c:k=d.ag:=Decidable.not_not.1 c;split at h
    ·rename_i c5;rw [aS,Bool.or_eq_true,decide_eq_true_iff,decide_eq_true_iff,decide_eq_true_iff] at h;exact .inr (.inl ⟨c,c5,h.1,fun c4=>h.2.resolve_left (fun g=>g c4)⟩)
    ·rename_i c5;rw [aS] at h;exact .inr (.inr ⟨c,by omega,h.1,h.2⟩)
theorem shell_8 {d:Nd} {v:Val} (h:shellF d v=true) (h8:d.ag=8):0<=v.n/\v.n < d.aC.length:=by grind [shellF]
end
section
variable {ND:List Nd} {L:Nat}
end
structure Chg where
 k:Int
 p:List fc
 x:Option Val
 y:Option Val
def itmS (j:Nat):fc:=⟨2,j,au⟩
def addC (p:List fc):List Val->Nat->List Chg
 | [],_=>[]
 | y :: r,j=>⟨2,p ++ [itmS j],none,some y⟩ :: addC p r (j + 1)
section
variable (ND:List Nd)
end
theorem OM {v:Val} (h:rngW v):nB v.n:=by obtain ⟨_,_,_,_⟩:=v;rw [rngW] at h;exact h.2.1
section
variable {ND:List Nd} {f:Nat->Nat->Bool} {L obs:Nat}
theorem ON {v:Val} {i:Int} {d:Nd} (hd:cz ND i=some d) (h9:9<=v.k) (hb:Gy v=true) (hk:v.ks=[]):lY ND v i=true:=by
 obtain ⟨k,n,s,ks⟩:=v;have hk:ks=[]:=hk;subst hk;have h9:9<=k:=h9
 grind [lY]
theorem vF {v:Val} {i:Int} {d:Nd} {k n:Int} {s:ByteArray} (hd:cz ND i=some d) (h:cA v k n s=true) (hk:(k=9/\1<=n/\n<=64)∨k=10∨k=11∨k=12):lY ND v i=true:=by
 rw [oA.1 h];refine ON hd (by show 9<=k;omega) ?_ rfl
 grind [Gy,Val.k,Val.n]
theorem OO {v:Val} {i:Int} {d:Nd} {e:Ed} {t:Nd} (hd:cz ND i=some d) (hw:1<=e.wide/\e.wide<=64) (h:ia e t v=true):lY ND v i=true:=by grind [ia,vF]
mutual
theorem Gz (bL:∀ n∈ND,dt L ND.length n):∀ (v:Val) (i:Int) (a:Nat),seeV ND f L obs v i a=true->lY ND v i=true
 | .mk k n s ks,i,a,h=>by
  rw [seeV] at h
  cases hd:cz ND i with
  | none=>rw [hd] at h;cases h
  | some d=>
   rw [hd] at h;simp only at h;have hN:=bL d (mG (bJ hd).2);have IV:=hN.k8;rw [lY,hd];simp only;split at h
   ·rename_i c5;obtain ⟨d',hF⟩:=ef bL h;have YT:=hF.aj;rw [hd] at YT;injection YT with YT
    subst YT;have h1:k=d.ag:=hF.k;have h2:ks=[]:=hF.leaf c5;have h3:=hF.enum;rw [ai (by omega),ai (by omega),ap c5,h2];simp only [decide_true,Bool.true_and,Bool.or_eq_true,decide_eq_true_iff];by_cases c4:k=4
    ·exact .inr (h3 (by omega))
    ·exact .inl c4
   ·rename_i c5;rw [aS] at h
    have hk:k=d.ag:=by
     by_cases c:k=d.ag
     ·exact c
     ·have:=h.1;unfold shellF at this;rw [ap (.inl c)] at this;cases this
    rw [ai (by omega),ai (by omega),ai c5,aS];exact ⟨h.1,Cp bL ks d n a 0 hN (fun m hm=>by rw [Nat.zero_add];exact rb hN (by omega) h.1 hm) h.2⟩
theorem Cp (bL:∀ n∈ND,dt L ND.length n):∀ (l:List Val) (d:Nd) (z:Int) (a j:Nat),dt L ND.length d->(∀ m,m < l.length->∃ e,XI ND d z (j + m) e)->seeVs ND f L obs l d z a j=true->rW ND l d z j=true
 | [],_,_,_,_,_,_,_=>by rw [rW]
 | x :: r,d,z,a,j,hN,hK,h=>by
  rw [seeVs,aS] at h;rw [rW,aS];refine ⟨?_,Cp bL r d z a (j + 1) hN (fun m hm=>by have:=hK (m + 1) (by rw [List.length_cons];omega);rwa [show j + (m + 1)=j + 1 + m by omega] at this) h.2⟩;obtain ⟨e,hE⟩:=hK 0 (by simp);have he:=hE.fW;rw [Nat.add_zero] at he;have h1:=h.1;rw [he] at h1 ⊢;simp only at h1 ⊢;obtain ⟨g1,t,ht⟩:=LO hN hE.mem hE.bare;have hw:=(hN.fW e hE.mem).wide;split at h1
  ·exact Gz bL x e.to _ h1
  ·grind [OO,vF]
end
theorem Mf (bL:∀ n∈ND,dt L ND.length n) {rt:Nat} {o:Int} {v:Val} (h:wE ND f L rt o v=true):lY ND v (rt:Nat)=true:=by grind [wE,Gz]
end
end Go.Proofs.YtphonmiflfhdbaaGreat
set_option maxRecDepth 100000
namespace Go.Proofs.YtphonmiflfhdbaaGreat
open Go Go.RowKit
namespace Dv
section
variable {X:Ctx} {st:St}
theorem uT {i j:Nat} {s S:St} (h:n7 s (ez i j S):=by refine (⟨rfl,rfl,?_⟩:_/\_/\_);repeat' (first | exact trivial | refine ⟨rfl,?_⟩)):(s=S∨n7 s S)∨n7 s (ez i j S):=.inr h
end
end Dv
end Go.Proofs.YtphonmiflfhdbaaGreat
set_option maxRecDepth 100000
namespace Go.Proofs.YtphonmiflfhdbaaGreat
open Go Go.RowKit Dv Go.Proofs.Tryz
def I2 (x:Val) (a:Nat) (k:Val):Val:=.mk x.k x.n x.s (x.ks.set a k)
theorem OP {f:Nat->Nat->Bool} {n:Nat} {a b:Int} (h:zI f n a b=true):0<=a/\a < n/\0<=b/\b < n/\f a.toNat b.toNat=true:=by grind [zI]
def no10 (l:List UInt8):Prop:=∀ b∈l,b≠10
instance (l:List UInt8):Decidable (no10 l):=inferInstanceAs (Decidable (∀ b∈l,b≠10))
section
variable {ND:List Nd} {L:Nat}
end
def E6 (f:Nat->Nat->Bool) (n:Nat):Nat->Nat
 | 0=>0
 | e + 1=>wx f n (E6 f n e) e
theorem z6 {f:Nat->Nat->Bool} {n:Nat} (hL:dH f n):∀ e,e<=n->E6 f n e < n/\∀ x,x < e->f x (E6 f n e)=true
 | 0,_=>⟨hL.pos,fun _ h=>by omega⟩
 | e + 1,he=>by
  obtain ⟨h1,h2⟩:=z6 hL e (by omega);obtain ⟨g1,g2,g3,_⟩:=lu (vf hL h1 (show e < n by omega));refine ⟨g1,fun x hx=>?_⟩;rcases jU hx with hx | rfl
  ·exact hL.tr x _ _ (by omega) h1 g1 (h2 x hx) g2
  ·exact g3
abbrev XP (L:List DV) (n b e:Nat):St:=
 ⟨[nA 0 L,aw 3 b,aw 9 n,aw 10 e],[],[]⟩
theorem Ih {n:Nat} {f:Nat->Nat->Bool} {af:List ByteArray} {LC:List DV} (hR:zK n f af LC):EvP prog 16 [.pt LC 0] (.v (.int .i64 (E6 f n n:Nat))):=by
 have hlen:=hR.len;have nU:=hR.ok.pos;have hn:=hR.n32;refine eG 19 [.tmp 2] func16 rfl ntmps16 rfl fun _ _ _ _=>?_;refine cP Dj hlen ?_;refine br ?_ ?_<;>intro g
 ·exfalso;simp at g;omega
 refine cP Dj hlen ?_;refine lJ (fun e=>XP LC n (E6 f n e) e) n (bl wB) ?_;intro e he;refine br ?_ ?_<;>intro Tk
 ·have ay:e < n:=by have:=Tk;simp at this;exact this
  refine cP JF (hR.join _ _ (z6 hR.ok e he).1 ay) ?_;exact rE ⟨_,by omega,e + 1,rfl,by omega,rfl⟩ (bl (cQ (nxt ay (by omega))))
 ·have hge:e=n:=by have:=Tk;simp at this;omega
  subst hge;exact (rfl:_=_)
theorem Cq {e:Ed} {x:Val} (hw:1<=e.wide/\e.wide<=64) (hx:rngW x) (Wj:x.wt<=1099511627776):rngW (bE e x):=by
 have hn:=zN hx;unfold bE;split
 ·rename_i h;have h3:=h.2.2;by_cases hu:e.cn < 1
  ·grind [aQ]
  ·rw [pQ (by omega)] at h3 ⊢;have:=Int.emod_nonneg x.n (show e.cn≠0 by omega);split at h3
   ·cases h3
   rename_i hc;rw [ai hc,rngW];exact ⟨by unfold nB;omega,by unfold nB;simp only;omega,trivial⟩
 ·split
  ·rw [rngW];exact ⟨by unfold nB;omega,by unfold nB;omega,trivial⟩
  ·split
   ·rw [rngW]
    have:x.ks.length<=1099511627776:=by
     obtain ⟨k,n,s,ks⟩:=x
     grind [fm,Val.wt,Val.ks]
    exact ⟨by unfold nB;omega,by unfold nB;omega,trivial⟩
   ·rw [ov,rngW];exact ⟨by unfold nB;omega,by unfold nB;omega,trivial⟩
theorem Ii {d:Nd} {z:Int} {j:Nat} {e:Ed} (h:dy d z j=some e):e∈d.aC:=by grind [dy]
section
variable {ND:List Nd} {f:Nat->Nat->Bool} {L obs:Nat}
mutual
theorem vG (bL:∀ n∈ND,dt L ND.length n):∀ (v:Val) (i:Int) (a:Nat),rngW v->v.wt<=1099511627776->rngW (eraseV ND f L obs v i a)
 | .mk k n s ks,i,a,h,hw=>by
  rw [rngW] at h;rw [Val.wt] at hw;rw [eraseV]
  cases hd:cz ND i with
  | none=>rw [rngW];exact ⟨h.1,h.2.1,trivial⟩
  | some d=>
   have hN:=bL d (mG (bJ hd).2);rw [rngW];exact ⟨h.1,h.2.1,rX bL ks d n a 0 hN h.2.2 (by omega)⟩
theorem rX (bL:∀ n∈ND,dt L ND.length n):∀ (ks:List Val) (d:Nd) (z:Int) (a j:Nat),dt L ND.length d->rngWs ks->eJ ks<=1099511627776->rngWs (eraseVs ND f L obs ks d z a j)
 | [],_,_,_,_,_,_,_=>by rw [eraseVs];trivial
 | x :: r,d,z,a,j,hN,h,hw=>by
  rw [rngWs] at h;rw [eJ] at hw;have h1:=rX bL r d z a (j + 1) hN h.2 (by omega);rw [eraseVs,rngWs];refine ⟨?_,h1⟩
  cases he:dy d z j with
  | none=>exact h.1
  | some e=>
   have Tn:=(hN.fW e (Ii he)).wide;simp only;split
   ·exact vG bL x _ _ h.1 (by omega)
   ·split
    ·exact Cq Tn h.1 (by omega)
    ·rw [ov,rngW];exact ⟨by unfold nB;omega,by unfold nB;omega,trivial⟩
end
end
theorem OQ {ND:List Nd} {L:Nat} (bL:∀ n∈ND,dt L ND.length n) {x:Val} {i:Int} {d:Nd} (hw:lY ND x i=true) (hd:cz ND i=some d) {j:Nat} {a:Val} (ha:x.ks[j]? = some a) :
  5<=d.ag/\x.k=d.ag/\shellF d x=true/\∃ e,dy d x.n j=some e/\e.bare=false/\lY ND a e.to=true:=by
 have hN:=bL d (mG (bJ hd).2);obtain ⟨k,n,s,ks⟩:=x;simp only [Val.ks] at ha;have bq:ks ≠ []:=by rintro rfl;cases ha
 rw [lY,hd] at hw;simp only at hw;split at hw
 ·simp [bq] at hw
 split at hw
 ·cases hw
 rename_i hk;split at hw
 ·simp [bq] at hw
 rw [aS] at hw;obtain ⟨e,he,T6⟩:=Co hw.2 ha;rw [Nat.zero_add] at he;obtain ⟨e',hK⟩:=rb hN (by omega) hw.1 (m:=j) (gS ha).1;have:=hK.fW;simp only [Val.n] at this;rw [he] at this;cases this;exact ⟨by omega,by simp only [Val.k];omega,hw.1,e,he,hK.bare,T6⟩
structure GA (c:fB):Prop where
 p:c.p.length<=1099511627776
 s:∀ s∈c.p,s.s.size<=1099511627776
 l:c.lit.s.size<=1099511627776
 k:c.lit.keys.length + c.lit.ks.length<=1099511627776
theorem XQ {ND:List Nd} {L:Nat} (bL:∀ n∈ND,dt L ND.length n) {u:Val} {i:Int} (hw:lY ND u i=true):∃ d,cz ND i=some d/\(u.k=4->0<=u.n/\u.n < d.af.length)/\(u.k=8->0<=u.n/\u.n < d.aC.length)/\(u.k=7->u.ks.length<=d.aC.length)/\(u.k=5∨u.k=6->0 < d.aC.length)/\(u.k < 5∨9<=u.k->u.ks=[]):=by
 obtain ⟨d,hd,hc⟩:=Me hw;have hN:=bL d (mG (bJ hd).2);refine ⟨d,hd,?_⟩;rcases hc with ⟨h1,h2,h3⟩ | ⟨h1,h2,h3,h4⟩ | ⟨h1,h2,h3,h4⟩
 ·exact ⟨fun h=>by omega,fun h=>by omega,fun h=>by omega,fun h=>by omega,fun _=>h3⟩
 ·exact ⟨h4,fun h=>by omega,fun h=>by omega,fun h=>by omega,fun _=>h3⟩
 ·refine ⟨fun h=>by omega,fun h=>shell_8 h3 (by omega),fun h=>?_,fun h=>?_,fun h=>?_⟩
  ·have:d.ag=7:=by omega
   grind [shellF]
  ·obtain ⟨e,he,_⟩:=hN.one (by omega);rw [he];simp
  ·have:=hN.k8;omega
abbrev Mg (PC:List DV) (c:fB) (i:Int) (e:Ed) (u:Val) (j:Nat):St:=
 ⟨[nA 0 PC,aF 4 0,aF 5 1,bc 15 3 (eK c.p),aw 16 ((eK c.p).length),aw 17 j],[dPl i e u,jI c],[]⟩
set_option maxHeartbeats 2000000 in
theorem Cr {S:Sch} {ND:List Nd} {PC:List DV} (hP:jF S ND PC) (Et:∀ n∈ND,zP n) (c:fB) (hc:GA c) (i:Int) (e:Ed) (u:Val) (hu:u.wt<=1099511627776) (Mh:rngW u) (hw:lY ND u i=true) (he : -9223372036854775808 < e.cn/\e.cn<=9223372036854775807) :
  EvP prog 46 [.pt PC 0,.agg (dPl i e u),.agg (jI c)] (.v (.int .i64 (walkQ ND c c.p i e u))):=by
 have kV:=fun i d e u (hd:ND[i]? = some d) h4 h8 hu hus he=>E5 hP i d hd e u c h4 h8 hu hus he hc.l;have Qb:walkQ ND c (c.p.drop 0) i e u=walkQ ND c c.p i e u:=rfl;generalize walkQ ND c c.p i e u=F at Qb ⊢;have ke:=hc.p;have dq:=q7 c.p;obtain ⟨p,op,rk,ra,rn,rs,bz,iH⟩:=c;obtain ⟨uk,un,us,ul⟩:=u;obtain ⟨en,eb,ea,et,el,ew,fQ,iS,yp,jH⟩:=e;have ke:p.length<=1099511627776:=ke;refine eG 77 [.tmp 6] func46 rfl ntmps46 rfl fun _ _ _ _=>?_
 refine aY (fun j st=>∃ (q:Nat) (i:Int) (e:Ed) (u:Val),st=Mg PC ⟨p,op,.mk rk ra rn rs bz iH⟩ i e u q/\q<=p.length/\walkQ ND ⟨p,op,.mk rk ra rn rs bz iH⟩ (p.drop q) i e u=F/\u.wt<=1099511627776/\rngW u/\lY ND u i=true/\(-9223372036854775808 < e.cn/\e.cn<=9223372036854775807)/\j=p.length - q) p.length
  (Mg PC ⟨p,op,.mk rk ra rn rs bz iH⟩ i ⟨en,eb,ea,et,el,ew,fQ,iS,yp,jH⟩ (.mk uk un us ul) 0) (wkB 2 nY jX) ⟨0,_,_,_,rfl,by omega,Qb,hu,Mh,hw,he,by omega⟩ ?_
 clear hw Qb Mh hu he i uk un us ul en eb ea et el ew fQ iS yp jH;rintro _ st ⟨q,i,e,u,rfl,hq,hF,hu,Mh,hw,he,rfl⟩;obtain ⟨d,hd,w4,w8,w7,w5,wl⟩:=XQ hP.ok hw;obtain ⟨ID,MC⟩:=bJ hd;have hnd:=hP.aj i.toNat d MC;rw [show ((i.toNat:Nat):Int)=i by omega] at hnd;refine br ?_ ?_<;>intro hL
 ·have ay:q < p.length:=sV dq hL;obtain ⟨s,hs⟩:=gX ay
  have MK:p.drop q=s :: p.drop (q + 1):=by
   obtain ⟨h1,h2⟩:=List.getElem?_eq_some_iff.1 hs;rw [List.drop_eq_getElem_cons h1,h2]
  have MI:u.ks.length<=1099511627776:=by
   have h2:=fm u.ks;have hw:u.wt=64 + u.s.size + eJ u.ks:=by obtain ⟨_,_,_,_⟩:=u;rfl
   omega
  have bh:=Cn d u s w7 w8 w5 MI
  have hS:oC d u s=(match bg (sr d u s) u.ks.length with
   | none=>.tup [.agg (nC ib),.v (.int .i64 0),.v (.bool false)]
   | some j=>.tup [.agg (nC ((d.aC[pT u j]?).getD ib)),.v (.int .i64 j),.v (.bool true)]):=rfl
  rw [MK,walkQ,hd] at hF;simp only at hF
  have L8:∀ j a,u.ks[j]? = some a->∃ x,d.aC[pT u j]? = some x/\lY ND a x.to=true/\(-9223372036854775808 < x.cn/\x.cn<=9223372036854775807):=fun j a ha=>by
   obtain ⟨h5,hk,OH,x,hx,hb,hwa⟩:=OQ hP.ok hw hd ha
   have FG:d.aC[pT u j]? = some x:=by
    unfold dy at hx;unfold pT;rw [hk];split
    ·rename_i c;rw [ap c] at hx;exact hx
    ·rename_i c;rw [ai c] at hx;split
     ·rename_i c2;rw [ap c2] at hx;exact hx
     ·rename_i c2;rw [ai c2] at hx;exact hx
   have hN:=hP.ok d (mG MC);have hE:=hN.fW x (mG FG);have hr:=Et d (mG MC);have L9:=hE.cn;have IX:=hE.ck;have:=(hr.2.2 x (mG FG));unfold nB at this;exact ⟨x,FG,hwa,by omega,by omega⟩
  have bY:∀ a∈u.ks,a.wt<=1099511627776:=fun a ha=>by
   have h2:=kC ha;have hw:u.wt=64 + u.s.size + eJ u.ks:=by obtain ⟨_,_,_,_⟩:=u;rfl
   omega
  have Lf:∀ a∈u.ks,rngW a:=fun a ha=>nk (zO Mh) ha;obtain ⟨ag,aK,lo,hi,most,af,es⟩:=d;obtain ⟨sk,sn,ss⟩:=s;have PG:=ni hs;clear w4 w8 w7 w5 wl kV hd MC hw Mh hu hS;by_cases c9:u.k=9
  ·rw [ap c9] at hF;obtain ⟨uk,un,us,ul⟩:=u;obtain ⟨en,eb,ea,et,el,ew,fQ,iS,yp,jH⟩:=e;have c9:uk=9:=c9;subst c9;refine ⟨_,⟨by omega,PG⟩,?_⟩;rw [<- hF];exact (rfl:_=_)
  rw [ai c9] at hF;by_cases XR:u.k=12/\sk=2/\sn < u.n
  ·rw [ap XR] at hF;obtain ⟨uk,un,us,ul⟩:=u;obtain ⟨en,eb,ea,et,el,ew,fQ,iS,yp,jH⟩:=e;obtain ⟨c1,rfl,c3⟩:=XR;have c1:uk=12:=c1;have c3:sn < un:=c3;subst c1;refine ⟨_,⟨by omega,PG⟩,?_⟩;refine br (fun g=>?_) (fun g=>absurd c3 (of_decide_eq_false g));rw [<- hF];exact (rfl:_=_)
  rw [ai XR] at hF;have OR:∀ R,oC ⟨ag,aK,lo,hi,most,af,es⟩ u ⟨sk,sn,ss⟩=R->EvP prog 95 [.agg (nD ⟨ag,aK,lo,hi,most,af,es⟩),.agg (cj u),.agg (ve ⟨sk,sn,ss⟩)] R:=fun R h=>h ▸ bh;clear bh
  cases hf:bg (sr ⟨ag,aK,lo,hi,most,af,es⟩ u ⟨sk,sn,ss⟩) u.ks.length with
  | none=>
   rw [hf] at hF;have bh:=OR (.tup [.agg (nC ib),.v (.int .i64 0),.v (.bool false)]) (by rw [oC,hf]);clear OR hf;obtain ⟨uk,un,us,ul⟩:=u;obtain ⟨en,eb,ea,et,el,ew,fQ,iS,yp,jH⟩:=e;refine ⟨_,⟨by omega,PG⟩,?_⟩;refine br (fun g=>absurd (of_decide_eq_true g) c9) (fun g=>?_);refine br (fun g=>(XR ?_).elim) (fun g=>?_)
   ·rw [ah,ah] at g;simp only [aS,decide_eq_true_eq] at g;exact ⟨g.1.1,g.1.2,g.2⟩
   refine cP yT hnd ?_;refine cP UI bh ?_;rw [<- hF];exact (rfl:_=_)
  | some j=>
   obtain ⟨hj,_,_⟩:=cx hf;obtain ⟨a,ha⟩:∃ a,u.ks[j]? = some a:=⟨_,gE hj⟩;obtain ⟨x,hx,hwa,hxc⟩:=L8 j a ha;have ham:=mG ha;have haw:=bY a ham;have har:=Lf a ham;rw [hf] at hF;simp only at hF;rw [ha,hx] at hF;simp only at hF;have bh:=OR (.tup [.agg (nC x),.v (.int .i64 j),.v (.bool true)]) (by rw [oC,hf];simp only;rw [hx];rfl);clear OR hf L8 bY Lf;obtain ⟨uk,un,us,ul⟩:=u;have I9:=kB (show ul[j]? = some a from ha);obtain ⟨en,eb,ea,et,el,ew,fQ,iS,yp,jH⟩:=e;obtain ⟨xn,xb,xa,xt,xl,xw,xck,xcn,xsn,xca⟩:=x;obtain ⟨ak,an,as',al⟩:=a;refine ⟨_,⟨by omega,PG⟩,?_⟩;refine br (fun g=>absurd (of_decide_eq_true g) c9) (fun g=>?_);refine br (fun g=>(XR ?_).elim) (fun g=>?_)
   ·rw [ah,ah] at g;simp only [aS,decide_eq_true_eq] at g;exact ⟨g.1.1,g.1.2,g.2⟩
   refine cP yT hnd ?_;refine cP UI bh ?_;refine dS ?_;refine ⟨_,⟨by omega,I9⟩,?_⟩;exact ⟨Mg PC ⟨p,op,.mk rk ra rn rs bz iH⟩ xt ⟨xn,xb,xa,xt,xl,xw,xck,xcn,xsn,xca⟩ (.mk ak an as' al) (q + 1),(wkB 2 (nz (nxt ay (by omega))) (cQ (nxt ay (by omega)))),p.length - (q + 1),by omega,q + 1,_,_,_,rfl,by omega,hF,haw,har,hwa,hxc,rfl⟩
 ·have hge:p.length<=q:=sV dq hL;rw [List.drop_eq_nil_of_le hge,walkQ,hd] at hF;have hF:vE d e u ⟨p,op,.mk rk ra rn rs bz iH⟩=F:=hF
  have hE:=kV i.toNat d e u MC w4 w8 (OM Mh) (by
   have hw:u.wt=64 + u.s.size + eJ u.ks:=by obtain ⟨_,_,_,_⟩:=u;rfl
   omega) he
  rw [show ((i.toNat:Nat):Int)=i by omega,hF] at hE;clear hF kV hnd;obtain ⟨uk,un,us,ul⟩:=u;obtain ⟨en,eb,ea,et,el,ew,fQ,iS,yp,jH⟩:=e;refine cP ZX hE ?_;exact (rfl:_=_)
theorem rY {S:Sch} {ND:List Nd} {PC LC:List DV} (hP:jF S ND PC) (iu:EvP prog 15 [.pt PC 0] (.pt LC 0)) (hR:zK S.ae.length (aN S) (aA S.ae) LC) (Et:∀ n∈ND,zP n) (bY:∀ n∈ND,n.aC.length<=1099511627776) (rt:Nat) (H9:dW S=rt) (gn:rt < ND.length) (o:Int) (c:fB) (hc:GA c) (u:Val) (hu:u.wt<=1099511627776) (Mh:rngW u) :
  EvP prog 12 [.pt PC 0,.v (.int .i64 o),.agg (cj u),.agg (jI c)] (.v (.int .i64 (jG ND (aN S) S.ae.length rt o u c))):=by
 have h1:=zX c hc.s hc.l hc.k;have h2:=Cl hP iu hR Et bY rt H9 gn o u hu Mh;have h3:=EO hP c.p hc.p (fun s h=>by have:=hc.s s h;omega) rt H9 gn;have h4:=fun hw=>Cr hP Et c hc rt ib u hu Mh hw (by decide);have hw:=fun h=>@Mf ND (aN S) S.ae.length hP.ok rt o u h;have fi:=hP.root;rw [H9] at fi;have hF:jG ND (aN S) S.ae.length rt o u c=if lL c=true/\wE ND (aN S) S.ae.length rt o u=true/\(walkV ND (aN S) S.ae.length c.p rt (e9 (aN S) S.ae.length)).isSome=true then walkQ ND c c.p rt ib u else 0:=rfl
 generalize jG ND (aN S) S.ae.length rt o u c=F at hF ⊢;generalize walkQ ND c c.p rt ib u=Q at h4 hF;generalize lL c=b1 at h1 hF;generalize wE ND (aN S) S.ae.length rt o u=b2 at h2 hw hF;generalize walkV ND (aN S) S.ae.length c.p rt (e9 (aN S) S.ae.length)=W at h3 hF;obtain ⟨p,op,rk,ra,rn,rs,bz,iH⟩:=c;obtain ⟨uk,un,us,ul⟩:=u
 cases b1 with
 | false=>
  rw [ai (by simp)] at hF;subst hF;refine eG 39 [.tmp 8] func12 rfl ntmps12 rfl fun _ _ _ _=>?_;refine cP Nq h1 ?_;exact (rfl:_=_)
 | true=>
  cases b2 with
  | false=>
   rw [ai (by simp)] at hF;subst hF;refine eG 39 [.tmp 8] func12 rfl ntmps12 rfl fun _ _ _ _=>?_;refine cP Nq h1 ?_;refine cP Ri h2 ?_;exact (rfl:_=_)
  | true=>
   cases W with
   | none=>
    rw [ai (by simp)] at hF;subst hF;refine eG 39 [.tmp 8] func12 rfl ntmps12 rfl fun _ _ _ _=>?_;refine cP Nq h1 ?_;refine cP Ri h2 ?_;refine cP Uw h3 ?_;exact (rfl:_=_)
   | some jb=>
    obtain ⟨j,b⟩:=jb;rw [ap (by simp)] at hF;subst hF;have h4:=h4 (hw rfl);refine eG 39 [.tmp 8] func12 rfl ntmps12 rfl fun _ _ _ _=>?_;refine cP Nq h1 ?_;refine cP Ri h2 ?_;refine cP Uw h3 ?_;refine dI ?_;refine cD JE fi ?_;refine cD ZL h4 ?_;exact (rfl:_=_)
abbrev E7 (PC:List DV) (o:Int) (u:Val) (l:List fB) (out:Int) (e:Nat):St:=
 ⟨[nA 0 PC,aw 1 o,aF 6 0,aw 9 out,bc 12 8 (fT l),aw 13 ((fT l).length),aw 14 e],[cj u],[]⟩
theorem E8 (PC:List DV) (o:Int) (u:Val) (l:List fB) (hl:l.length<=1099511627776) (E:fB->Int) (hE:∀ c∈l,EvP prog 12 [.pt PC 0,.v (.int .i64 o),.agg (cj u),.agg (jI c)] (.v (.int .i64 (E c)))) :
  EvP prog 13 [.pt PC 0,.v (.int .i64 o),.agg (cj u),.sl 8 (fT l) none] (.v (.int .i64 (allQ E l 1))):=by
 have dq:=rc l;have Qb:allQ E (l.drop 0) 1=allQ E l 1:=rfl;generalize allQ E l 1=F at Qb ⊢;obtain ⟨uk,un,us,ul⟩:=u;refine eG 29 [.tmp 8] func13 rfl ntmps13 rfl fun _ _ _ _=>?_;refine lI (fun j st=>∃ (e:Nat) (out:Int),st=E7 PC o (.mk uk un us ul) l out e/\e<=l.length/\allQ E (l.drop e) out=F/\j=l.length - e) ⟨0,1,rfl,by omega,Qb,rfl⟩ (wkB 1 nY jX) ?_;rintro _ st ⟨e,out,rfl,he,hF,rfl⟩;refine br ?_ ?_<;>intro hL
 ·have ay:e < l.length:=sV dq hL;obtain ⟨c,hc⟩:=gX ay
  have MK:l.drop e=c :: l.drop (e + 1):=by
   obtain ⟨h1,h2⟩:=List.getElem?_eq_some_iff.1 hc;rw [List.drop_eq_getElem_cons h1,h2]
  have hEc:=hE c (mG hc);rw [MK,allQ] at hF;generalize E c=z at hEc hF;have XS:=re hc;obtain ⟨p,op,rk,ra,rn,rs,bz,iH⟩:=c;refine ⟨_,⟨by omega,XS⟩,?_⟩;refine cP G3 hEc ?_;refine br ?_ ?_<;>intro g
  ·rw [ap (of_decide_eq_true g)] at hF;subst hF;exact (rfl:_=_)
  rw [ai (of_decide_eq_false g)] at hF;refine br ?_ ?_<;>intro g2
  ·rw [ap (of_decide_eq_true g2)] at hF;exact ⟨E7 PC o (.mk uk un us ul) l 2 (e + 1),(wkB 1 (nz (nxt ay (by omega))) (cQ (nxt ay (by omega)))),l.length - (e + 1),by omega,e + 1,_,rfl,by omega,hF,rfl⟩
  ·rw [ai (of_decide_eq_false g2)] at hF;exact ⟨E7 PC o (.mk uk un us ul) l out (e + 1),(wkB 1 (nz (nxt ay (by omega))) (cQ (nxt ay (by omega)))),l.length - (e + 1),by omega,e + 1,_,rfl,by omega,hF,rfl⟩
 ·have hge:l.length<=e:=sV dq hL;rw [List.drop_eq_nil_of_le hge,allQ] at hF;subst hF;exact (rfl:_=_)
def Ij (n:Int) (c:fB):Bool:=decide (c.lit.k=2) && (((decide (c.op=1) && decide (n=c.lit.n)) || (decide (c.op=2) && decide (n < c.lit.n))) || (decide (c.op=3) && decide (c.lit.n < n)))
def YU (lo hi:Int) (c:fB):Bool:=decide (Ij lo c=Ij hi c) && ((((!decide (c.op=1) || decide (lo=hi)) || !decide (c.lit.k=2)) || decide (c.lit.n < lo)) || decide (hi < c.lit.n))
theorem OS (lo hi:Int) (h:lo<=hi) (c:fB):lX lo hi c=if YU lo hi c=true then fq (Ij lo c) else 2:=by
 obtain ⟨p,op,rk,ra,rn,rs,bz,iH⟩:=c
 have h1:lX lo hi ⟨p,op,.mk rk ra rn rs bz iH⟩=(if op=1 then (if rk≠2∨(rn < lo∨hi < rn) then 0 else if lo=hi/\lo=rn then 1 else 2)
  else if op=2 then (if rk≠2∨rn<=lo then 0 else if hi < rn then 1 else 2)
  else if op=3 then (if rk≠2∨hi<=rn then 0 else if rn < lo then 1 else 2) else 0):=rfl
 have h2:∀ n,Ij n ⟨p,op,.mk rk ra rn rs bz iH⟩=(decide (rk=2) && (((decide (op=1) && decide (n=rn)) || (decide (op=2) && decide (n < rn))) || (decide (op=3) && decide (rn < n)))):=fun _=>rfl;have h3:YU lo hi ⟨p,op,.mk rk ra rn rs bz iH⟩=(decide (Ij lo ⟨p,op,.mk rk ra rn rs bz iH⟩=Ij hi ⟨p,op,.mk rk ra rn rs bz iH⟩) && ((((!decide (op=1) || decide (lo=hi)) || !decide (rk=2)) || decide (rn < lo)) || decide (hi < rn))):=rfl;rw [h3,h1,h2,h2];unfold fq;by_cases hk:rk=2
 ·by_cases o1:op=1
  ·subst hk o1;simp only [decide_true,Bool.true_and,show ((1:Int)=2)=False by simp,show ((1:Int)=3)=False by simp,decide_false,Bool.false_and,Bool.or_false,if_true,ne_eq,not_true_eq_false,false_or,Bool.not_true,Bool.false_or];by_cases c1:rn < lo
   ·grind
   by_cases c2:hi < rn
   ·grind
   by_cases c3:lo=hi<;>grind
  ·by_cases o2:op=2
   ·subst hk o2
    grind
   ·by_cases o3:op=3
    ·subst hk o3
     grind
    ·simp [o1,o2,o3]
 ·simp [hk]
section
variable {ND:List Nd} {f:Nat->Nat->Bool} {L obs:Nat}
theorem vH {d:Nd} {u:Val} (hk:u.k=d.ag) (j:Nat):dy d u.n j=d.aC[pT u j]?:=by
 unfold dy pT;rw [hk];by_cases h7:d.ag=7
 ·rw [ap h7,ap h7]
 ·rw [ai h7,ai h7];by_cases h8:d.ag=8
  ·rw [ap h8,ap h8]
  ·rw [ai h8,ai h8]
end
end Go.Proofs.YtphonmiflfhdbaaGreat
