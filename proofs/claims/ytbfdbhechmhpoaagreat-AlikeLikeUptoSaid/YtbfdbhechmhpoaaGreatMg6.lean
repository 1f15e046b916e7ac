/- Part 6 of the proof: Values that are the same; Which values fit which nodes: plain, as the program finds it and as the document says it; tree's leaf, kids, Fits; tree.Fits; the document's To, Fits; Values as they are written: plain; tree.write, Raw; Paths: data, Step compared with itself; ref09.Begins, Same on the same path; ref25.Step; Paths of a value: plain; tree.steps; Where steps lead in a value, and that value with another one there: plain; tree: slices.Index of steps, kid, clone, Get; tree.write, Raw; The least depths of the values of a plan's nodes: plain; The program's nodes, least depths; The document's least depths; fine; the chapter's example; The program's Depths; The law of least depths: fine, the example, the call returns true; The document's Fits; Written values: well formed; the document's Same on the same value; its Raw; ref25.Paths; tree: walk, Paths; slices.Reverse of a row of steps that nobody else knows; The greatest multiple of a unit that is at most a number; UTF-8: the program's lead, value; UTF-8: the program's Decode; UTF-8: the document's reckoned, Scalar, Encode; UTF-8: the document's Scalar, Encode; UTF-8, plain: the document's well-formed bytes are the program's; a text's first units; UTF-8: the document's begins, left, Decode; Tables of runes; the unit at a place: the program's and the document's; Where steps lead in a plan, and how places are seen, plain; What is seen of values, and where that differs, plain; A text's first units: the document's Head, the program's heads, floors; Reading of values whose numbers are ints, and of arrays of two; The numbers of a plan's nodes are ints; The document's Bottom, Right of paths; the program's Right of paths; A region that draws its order, in which a new object may come at any time among calls: its run with the object made at each of these times serves every order; Where steps lead: the document's Edge, Walk; the program's; The program's way along steps: fits, step, Walk; With which schemas nothing is wrong: the document's Wrong of chapters 20, 21; the law's fine; Which levels see a place: the program's Who; A region that draws its order, run by a schedule: at each point all that may come and has an effect is tried; The document's rows of an audit: With, Under, How, Rows; What is seen of a value: the document's Edge, Coarse, Erase, Seen; The document's Kid, Get, Set of a value that fits; The document's Same of values, Set; The library's copyCheck of strings.Builder, laid at this program; The library's Builder at this program: what WriteString and String do to memory, exactly; Rules for the evaluator: the library's Builder, written and read; Rules for the evaluator: String of a Builder that holds nothing; The text of a path, of a row: plain, the program's, the document's; The document's rows of an audit; All rows of an audit, by the document; the law's bounds; Alike, differ: the document's; Alike: the program's sees, edge, step, coarsely, differ; Alike: the program's differ; Alike: the program's both, Differ, Alike; The laws of Alike and Differ; The law of being alike, without the document's answer. No condition. -/
import Derived.OpenShut
import Derived.Shelf.Strings.OnBuilder
import Derived.Shelf.RegionOpenPlain
import Derived.Lib.Strings
import Derived.Lib.Slices
import Derived.Lib.Walk
import Derived.Lib.Builder
import Derived.Lib.AppendStr
import Derived.Lib.UnsafeStr
import Derived.WalkKit
import Derived.Laws.Externs
import Derived.Lib.Hide
import Derived.Test.YtbfdbhechmhpoaaGreatMg2
import Derived.Test.YtbfdbhechmhpoaaGreatMg3
import Derived.Test.YtbfdbhechmhpoaaGreatMg5
set_option linter.all false
set_option maxRecDepth 100000
namespace Go.Proofs.YtbfdbhechmhpoaaGreat
open Go Go.RowKit Dv Tryz
mutual
def sameV:Val→Val→Bool
 | .mk k n s ks,.mk k' n' s' ks'=>decide (k=k') && decide (n=n') && decide (s=s') && sameVs ks ks'
def sameVs:List Val→List Val→Bool
 | [],[]=>true
 | v :: r,w :: q=>sameV v w && sameVs r q
 | _,_=>false
end
theorem sameVs_len:∀ {a b:List Val},a.length≠b.length→sameVs a b=false
 | [],[],h=>(h rfl).elim
 | v :: r,w :: q,h=>by rw [sameVs,sameVs_len (a:=r) (b:=q) (by simpa using h),Bool.and_false]
 | [],_ :: _,_=>by simp [sameVs]
 | _ :: _,[],_=>by simp [sameVs]
mutual
theorem sameV_iff:∀ {a b:Val},sameV a b=true↔a=b
 | .mk k n s ks,.mk k' n' s' ks'=>by
  have:=@sameVs_iff ks ks'
  simp only [sameV,Bool.and_eq_true,decide_eq_true_eq,this,Val.mk.injEq,and_assoc]
theorem sameVs_iff:∀ {a b:List Val},sameVs a b=true↔a=b
 | [],[]=>by simp [sameVs]
 | v :: r,w :: q=>by
  have h1:=@sameV_iff v w
  have h2:=@sameVs_iff r q
  simp only [sameVs,Bool.and_eq_true,h1,h2,List.cons.injEq]
 | [],_ :: _=>by simp [sameVs]
 | _ :: _,[]=>by simp [sameVs]
end
theorem sameV_refl (v:Val):sameV v v=true:=sameV_iff.2 rfl
abbrev eqvSt (a b:List Val) (g e:Nat):St:=
 ⟨[(1,⟨[],.sl 4 (dVals b) none⟩),(2,⟨[],.fn g [] []⟩),(15,⟨[],.sl 4 (dVals a) none⟩),(16,⟨[],.v (.int .i64 (dVals a).length)⟩),(17,⟨[],.v (.int .i64 e)⟩)],[],[]⟩
theorem equalV_spec (g:Nat) (hen:Enters Tryz.prog g) (a b:List Val) (hs:wtVs a≤1099511627776)
  (hF:∀ x∈a,∀ y,EvP Tryz.prog g [.agg (dVal x),.agg (dVal y)] (.v (.bool (sameV x y)))) :
  EvP Tryz.prog 122 [.sl 4 (dVals a) none,.sl 4 (dVals b) none,.fn g [] []] (.v (.bool (sameVs a b))):=by
 have hal:=wtVs_len a
 have h1:=dVals_len a
 have h2:=dVals_len b
 refine ev_go (P:=Tryz.prog) tt tt_ok 5000 32 [.tmp 6] Tryz.func122 rfl Tryz.ntmps122 rfl (Nat.le_of_ble_eq_true rfl) (fun E9 w9 hn9 hm9=>?_)
 refine br (fun h=>?_) (fun h=>?_)
 ·have hne:a.length≠b.length:=by have:=h;simp [h1,h2] at this;omega
  exact congrArg (fun b=>DV.v (.bool b)) (sameVs_len hne).symm
 ·have hl:a.length=b.length:=by have:=h;simp [h1,h2] at this;omega
  refine loop_i (fun j st=>∃ e:Nat,st=eqvSt a b g e∧e≤a.length∧sameVs a b=sameVs (a.drop e) (b.drop e)∧j=a.length - e) a.length
   (eqvSt a b g 0) (weak_mk ⟨_,rfl⟩ wA rfl rfl rfl wB) ⟨0,rfl,by omega,rfl,by omega⟩ ?_
  rintro j st ⟨e,rfl,he,heq,rfl⟩
  refine br (fun h=>?_) (fun h=>?_)
  ·have hlt:e < a.length:=by simpa [h1] using h
   obtain ⟨x,hx⟩:∃ x,a[e]? = some x:=⟨_,List.getElem?_eq_getElem hlt⟩
   obtain ⟨y,hy⟩:∃ y,b[e]? = some y:=⟨_,List.getElem?_eq_getElem (hl ▸ hlt)⟩
   rw [drop_cons hx,drop_cons hy,sameVs] at heq
   have hev:=hF x (List.mem_of_getElem? hx) y
   obtain ⟨xk,xn,xs,xl⟩:=x
   obtain ⟨yk,yn,ys,yl⟩:=y
   refine ⟨_,⟨by omega,dVals_get hx⟩,?_⟩
   refine ⟨_,⟨by omega,dVals_get hy⟩,?_⟩
   refine call_p hen hev ax rfl ?_
   refine br (fun h=>?_) (fun h=>?_)
   ·have hne:sameV (.mk xk xn xs xl) (.mk yk yn ys yl)=false:=by simpa using h
    refine (congrArg (fun b=>DV.v (.bool b)) ?_:_=_)
    rw [heq,hne,Bool.false_and]
   ·have hne:sameV (.mk xk xn xs xl) (.mk yk yn ys yl)=true:=by simpa using h
    rw [hne,Bool.true_and] at heq
    exact ⟨eqvSt a b g (e + 1),(weak_mk ⟨_,rfl⟩ wA rfl rfl rfl (by repeat' (first | exact trivial | exact we_rfl rfl | exact we_int (nxt hlt (by omega)) | refine ⟨⟨_,rfl,?_⟩,?_⟩))),a.length - (e + 1),by omega,e + 1,rfl,by omega,heq,rfl⟩
  ·have hge:e=a.length:=by have:=h;simp [h1] at this;omega
   rw [List.drop_of_length_le (by omega),List.drop_of_length_le (by omega)] at heq
   refine (congrArg (fun b=>DV.v (.bool b)) ?_:_=_)
   rw [heq];simp [sameVs]
theorem tsame_spec:∀ (k:Nat) (a:Val),a.wt≤k→a.wt≤1099511627776→∀ b:Val,EvP Tryz.prog 58 [.agg (dVal a),.agg (dVal b)] (.v (.bool (sameV a b)))
 | 0,v,h,_=>by have:=v.wt_pos;omega
 | k + 1,.mk q n s ks,h,hb=>fun b=>by
  have ih:=tsame_spec k
  rw [Val.wt] at h hb
  obtain ⟨bk,bn,bs,bl⟩:=b
  have he:=equalV_spec 58 en58 ks bl (by omega) fun x hx y=>by
   have:=wtVs_mem hx
   exact ih x (by omega) (by omega) y
  rw [sameV]
  refine ev_go (P:=Tryz.prog) tt tt_ok 5000 31 [.tmp 4] Tryz.func58 rfl Tryz.ntmps58 rfl (Nat.le_of_ble_eq_true rfl) (fun E9 w9 hn9 hm9=>?_)
  refine br (fun c=>?_) (fun c=>?_)
  ·have c:pickB (pickB (decide (q=bk)) (decide (n=bn)) false) (decide (s=bs)) false=true:=by simpa using c
   refine call_p en122 (he) ax rfl ?_
   refine (congrArg (fun b=>DV.v (.bool b)) ?_:_=_)
   simp only [pickB_and] at c ⊢
   rw [c]
  ·have c:pickB (pickB (decide (q=bk)) (decide (n=bn)) false) (decide (s=bs)) false=false:=by simpa using c
   refine (congrArg (fun b=>DV.v (.bool b)) ?_:_=_)
   simp only [pickB_and] at c ⊢
   rw [c];all_goals rfl
end Go.Proofs.YtbfdbhechmhpoaaGreat
set_option maxRecDepth 100000
namespace Go.Proofs.YtbfdbhechmhpoaaGreat
open Go Go.RowKit Dv Tryz
def leafF (n:Nd) (v:Val):Bool:=
 if 0 < v.ks.length∨(v.k≠3∧v.s≠emptyB)∨(v.k=3∧v.n≠0) then false
 else if n.kind=1 then decide (v.k=1) && (decide (v.n=0) || decide (v.n=1))
 else if n.kind=2 then decide (v.k=2) && decide (n.lo≤v.n) && decide (v.n≤n.hi)
 else if n.kind=3 then decide (v.k=3) && decide ((v.s.size:Int)≤n.most)
 else decide (v.k=4) && decide (0≤v.n) && decide (v.n < n.names.length)
def plainV (v:Val):Bool:=decide (v.s=emptyB) && (decide (v.n=0) || decide (v.k=8))
def to0 (n:Nd):Int:=match n.edges[0]? with | some e=>e.to | none=>0
def tagE (n:Nd) (v:Val):Option Ed:=if v.k=8∧0≤v.n∧v.n < n.edges.length then n.edges[v.n.toNat]? else none
def kidsL (n:Nd) (v:Val):List Int:=
 if n.kind=5∨n.kind=6 then List.replicate v.ks.length (to0 n)
 else if n.kind=7 then n.edges.map Ed.to
 else match tagE n v with | none=>[] | some e=>if e.bare=true then [] else [e.to]
def kidsB (n:Nd) (v:Val):Bool:=
 if n.kind=5∨n.kind=6 then plainV v && decide (v.k=n.kind) && decide ((v.ks.length:Int)≤if n.kind=6 then 1 else n.most)
 else if n.kind=7 then plainV v && decide (v.k=7) && decide (n.edges.length=v.ks.length)
 else match tagE n v with | none=>false | some _=>plainV v && decide ((kidsL n v).length=v.ks.length)
def nodeA (ND:List Nd) (i:Int):Option Nd:=if i < 0 then none else ND[i.toNat]?
mutual
def fitV (ND:List Nd):Val→Int→Bool
 | .mk k n s ks,i=>match nodeA ND i with
  | none=>false
  | some d=>if d.kind < 5 then leafF d (.mk k n s ks) else kidsB d (.mk k n s ks) && fitVs ND ks (kidsL d (.mk k n s ks))
def fitVs (ND:List Nd):List Val→List Int→Bool
 | v :: r,i :: l=>fitV ND v i && fitVs ND r l
 | _,_=>true
end
def toR (n:Nd) (v:Val) (j:Nat):Int:=
 if n.kind=5 then (if (j:Int) < n.most then to0 n else -1)
 else if n.kind=6 then (if j < 1 then to0 n else -1)
 else if n.kind=7 then (match n.edges[j]? with | some e=>e.to | none=>-1)
 else if n.kind=8 then (if j < 1∧0≤v.n∧v.n < n.edges.length then (match n.edges[v.n.toNat]? with | some e=>e.to | none=>-1) else -1)
 else -1
end Go.Proofs.YtbfdbhechmhpoaaGreat
set_option maxRecDepth 100000
namespace Go.Proofs.YtbfdbhechmhpoaaGreat
open Go Go.RowKit Dv Tryz
def dZs (l:List Int):List (List DV):=l.map fun z=>[DV.v (.int .i64 z)]
theorem dZs_len (l:List Int):(dZs l).length=l.length:=by simp [dZs]
theorem dZs_get {l:List Int} {i:Nat} {z:Int} (h:l[i]? = some z):(dZs l)[i]? = some [DV.v (.int .i64 z)]:=by simp [dZs,h]
theorem dZs_snoc (l:List Int) (z:Int):dZs l ++ [[DV.v (.int .i64 z)]]=dZs (l ++ [z]):=by simp [dZs]
theorem emptyB_eq:(⟨#[]⟩:ByteArray)=emptyB:=rfl
theorem leaf_spec (n:Nd) (v:Val):EvP Tryz.prog 119 [.agg (dNd n),.agg (dVal v)] (.v (.bool (leafF n v))):=by
 have hbl:=dBs_len n.names
 obtain ⟨kind,at',lo,hi,most,names,es⟩:=n
 obtain ⟨q,z,s,ks⟩:=v
 have hdl:=dVals_len ks
 simp only at hbl
 have hF:leafF ⟨kind,at',lo,hi,most,names,es⟩ (.mk q z s ks)=if 0 < ks.length∨(q≠3∧s≠emptyB)∨(q=3∧z≠0) then false
  else if kind=1 then decide (q=1) && (decide (z=0) || decide (z=1))
  else if kind=2 then decide (q=2) && decide (lo≤z) && decide (z≤hi)
  else if kind=3 then decide (q=3) && decide ((s.size:Int)≤most)
  else decide (q=4) && decide (0≤z) && decide (z < names.length):=rfl
 have hc:∀ b:Bool,b=pickB (pickB (decide (0 < ((dVals ks).length:Int))) true (pickB (!decide (q=3)) (!decide (s=⟨#[]⟩)) false)) true (pickB (decide (q=3)) (!decide (z=0)) false)→b=decide (0 < ks.length∨(q≠3∧s≠emptyB)∨(q=3∧z≠0)):=fun b h=>by
  rw [h,hdl,emptyB_eq,Bool.eq_iff_iff]
  simp [pickB_or,pickB_and,or_assoc]
 rw [hF]
 refine ev_go (P:=Tryz.prog) tt tt_ok 5000 94 [.tmp 4] Tryz.func119 rfl Tryz.ntmps119 rfl (Nat.le_of_ble_eq_true rfl) (fun E9 w9 hn9 hm9=>?_)
 refine br (fun c=>?_) (fun c=>?_)
 ·have c:=of_decide_eq_true ((hc _ rfl).symm.trans c)
  rw [if_pos c]
  exact (rfl:_=_)
 have c:=of_decide_eq_false ((hc _ rfl).symm.trans c)
 rw [if_neg c]
 refine br (fun c1=>?_) (fun c1=>?_)
 ·have c1:kind=1:=by simpa using c1
  refine (congrArg (fun b=>DV.v (.bool b)) ?_:_=_)
  simp [c1,pickB_and,pickB_or]
 have c1:¬ kind=1:=by simpa using c1
 refine br (fun c2=>?_) (fun c2=>?_)
 ·have c2:kind=2:=by simpa using c2
  refine (congrArg (fun b=>DV.v (.bool b)) ?_:_=_)
  simp [c2,pickB_and,pickB_or]
 have c2:¬ kind=2:=by simpa using c2
 refine br (fun c3=>?_) (fun c3=>?_)
 ·have c3:kind=3:=by simpa using c3
  refine (congrArg (fun b=>DV.v (.bool b)) ?_:_=_)
  simp [c3,pickB_and,pickB_or]
 have c3:¬ kind=3:=by simpa using c3
 refine (congrArg (fun b=>DV.v (.bool b)) ?_:_=_)
 simp [c1,c2,c3,pickB_and,pickB_or,hbl]
abbrev kd5St (n:Nd) (v:Val) (l:List Int) (p:Bool) (kd mo:Int) (q e:Nat):St:=
 ⟨[(2,⟨[],.loc 0 0⟩),(3,⟨[],.loc 1 0⟩),(6,⟨[],.sl 1 (dZs l) (some 0)⟩),(7,⟨[],.v (.bool p)⟩),(8,⟨[],.v (.int .i64 kd)⟩),(9,⟨[],.v (.int .i64 mo)⟩),(38,⟨[],.v (.int .i64 v.ks.length)⟩),(39,⟨[],.v (.int .i64 e)⟩)],[dNd n,dVal v],[⟨q,3,1,none⟩]⟩
abbrev kd7St (n:Nd) (v:Val) (l:List Int) (p:Bool) (q e:Nat):St:=
 ⟨[(2,⟨[],.loc 0 0⟩),(3,⟨[],.loc 1 0⟩),(6,⟨[],.sl 1 (dZs l) (some 0)⟩),(7,⟨[],.v (.bool p)⟩),(67,⟨[],.sl 10 (dEds n.edges) none⟩),(68,⟨[],.v (.int .i64 (dEds n.edges).length)⟩),(69,⟨[],.v (.int .i64 e)⟩)],[dNd n,dVal v],[⟨q,3,1,none⟩]⟩
theorem kids_spec {L N:Nat} {n:Nd} (hn:NdOK L N n) (h5:5≤n.kind) (v:Val) (hv:v.wt≤1099511627776) :
  EvP Tryz.prog 120 [.agg (dNd n),.agg (dVal v)] (.tup [.sl 1 (dZs (kidsL n v)) none,.v (.bool (kidsB n v))]):=by
 have hk8:=hn.k8
 have hone:=hn.one
 have hmany:=hn.many
 obtain ⟨kind,at',lo,hi,most,names,es⟩:=n
 obtain ⟨q,z,s,ks⟩:=v
 have hdl:=dVals_len ks
 have hel:=dEds_len es
 have hkl:=wtVs_len ks
 rw [Val.wt] at hv
 simp only at hk8 h5 hone hmany
 have hp:∀ b:Bool,b=pickB (decide (s=⟨#[]⟩)) (pickB (decide (z=0)) true (decide (q=8))) false→b=plainV (.mk q z s ks):=fun b h=>by
  rw [h]
  rw [pickB_and,pickB_or,emptyB_eq];all_goals rfl
 refine ev_go (P:=Tryz.prog) tt tt_ok 5000 134 [.tmp 4,.tmp 5] Tryz.func120 rfl Tryz.ntmps120 rfl (Nat.le_of_ble_eq_true rfl) (fun E9 w9 hn9 hm9=>?_)
 refine br (fun c=>?_) (fun c=>?_)
 ·have c:kind=5:=by simpa using c
  have c56:kind=5∨kind=6:=.inl c
  obtain ⟨x,hes,_,_⟩:=hone c56
  refine br (fun _=>?_) (fun h=>absurd h (by simp [c]))
  refine drawG_i (fun _=>false) mo (by decide +kernel) ?_
  refine br (fun h=>absurd h (by simp [c])) (fun _=>?_)
  obtain ⟨kd,mo,h1,h2,h3,h4⟩:∃ kd mo:Int,5=kd∧most=mo∧kd=kind∧mo=(if kind=6 then 1 else most):=⟨5,most,rfl,rfl,c.symm,by rw [if_neg (by omega)]⟩
  have hg0:(dEds es)[0]? = some (dEd x):=by rw [hes];all_goals rfl
  have ht0:to0 ⟨kind,at',lo,hi,most,names,es⟩=x.to:=by simp [to0,hes]
  refine loop_i (fun j st=>∃ e:Nat,st=kd5St ⟨kind,at',lo,hi,most,names,es⟩ (.mk q z s ks) (List.replicate e x.to) (plainV (.mk q z s ks)) kd mo e e∧e≤ks.length∧j=ks.length - e) ks.length (kd5St ⟨kind,at',lo,hi,most,names,es⟩ (.mk q z s ks) [] (plainV (.mk q z s ks)) kd mo 0 0) (weak_bt 2 ⟨0,3,1,none⟩ rfl rfl rfl (by repeat' (first | exact rfl | exact we_rfl rfl | exact we_bool (hp _ rfl) | exact we_int h1 | exact we_int h2 | exact we_int (congrArg Nat.cast hdl) | exact we_tok (Nat.le_refl _) rfl | exact we_tok (Nat.le_refl _) rfl | refine ⟨_,_,rfl,?_,?_⟩)) rfl rfl (by repeat' (first | exact trivial | exact we_rfl rfl | exact we_bool (hp _ rfl) | exact we_int h1 | exact we_int h2 | exact we_int (congrArg Nat.cast hdl) | exact we_tok (Nat.le_refl _) rfl | refine ⟨⟨_,rfl,?_⟩,?_⟩))) ⟨0,rfl,by omega,by omega⟩ ?_
  rintro j st ⟨e,rfl,he,rfl⟩
  refine br (fun hL=>?_) (fun hL=>?_)
  ·have hlt:e < ks.length:=by have:=hL;simp [Val.ks] at this;exact this
   have hml:(dZs (List.replicate e x.to)).length=e:=by rw [dZs_len,List.length_replicate]
   have hsn:dZs (List.replicate e x.to) ++ [[DV.v (.int .i64 x.to)]]=dZs (List.replicate (e + 1) x.to):=by rw [dZs_snoc,List.replicate_succ']
   refine ⟨_,⟨by omega,hg0⟩,?_⟩
   refine ⟨hml,⟨by rw [hml];simp [maxLen];omega,by rw [hml];simp;omega⟩,?_⟩
   exact ⟨kd5St ⟨kind,at',lo,hi,most,names,es⟩ (.mk q z s ks) (List.replicate (e + 1) x.to) (plainV (.mk q z s ks)) kd mo (e + 1) (e + 1),(weak_b 2 rfl (by repeat' (first | exact rfl | exact we_rfl rfl | exact we_int (nxt hlt (by omega)) | exact we_sl hsn rfl | refine ⟨_,_,rfl,?_,?_⟩)) rfl rfl rfl (by repeat' (first | exact trivial | exact we_rfl rfl | exact we_int (nxt hlt (by omega)) | exact we_sl hsn rfl | refine ⟨⟨_,rfl,?_⟩,?_⟩))),ks.length - (e + 1),by omega,e + 1,rfl,by omega,rfl⟩
  ·have hge:e=ks.length:=by have:=hL;simp [Val.ks] at this;omega
   subst hge
   have hkl2:kidsL ⟨kind,at',lo,hi,most,names,es⟩ (.mk q z s ks)=List.replicate ks.length x.to:=by unfold kidsL;rw [if_pos c56,ht0];all_goals rfl
   have hml:(dZs (List.replicate ks.length x.to)).length=ks.length:=by rw [dZs_len,List.length_replicate]
   have hB:pickB (pickB (plainV (.mk q z s ks)) (decide (q=kd)) false) (decide (((dZs (List.replicate ks.length x.to)).length:Int)≤mo)) false=kidsB ⟨kind,at',lo,hi,most,names,es⟩ (.mk q z s ks):=by
    rw [hml,h3,h4,pickB_and,pickB_and]
    unfold kidsB
    rw [if_pos c56]
    rfl
   rw [hkl2]
   exact ⟨_,(by repeat' (first | exact rfl | exact trivial | exact Or.inr (Or.inl ⟨_,rfl⟩) | exact Or.inr ⟨_,rfl⟩ | exact Or.inl ⟨rfl,rfl⟩ | exact Or.inl rfl | refine Or.inr ⟨_,_,rfl,Nat.zero_le _,rfl,?_⟩ | refine ⟨_,_,rfl,?_,?_⟩ | refine ⟨_,rfl,?_⟩ | exact congrArg (fun b=>DV.v (.bool b)) hB | refine Or.inr (Or.inr (Or.inr ⟨_,_,rfl,?_⟩)) | exact Or.inl rfl | refine Or.inr ?_)),rfl⟩
 have c5:¬ kind=5:=by simpa using c
 refine br (fun c=>?_) (fun c=>?_)
 ·have c:kind=6:=by simpa using c
  have c56:kind=5∨kind=6:=.inr c
  obtain ⟨x,hes,_,_⟩:=hone c56
  refine drawG_i (fun _=>false) mo (by decide +kernel) ?_
  refine br (fun _=>?_) (fun h=>absurd h (by simp [c]))
  obtain ⟨kd,mo,h1,h2,h3,h4⟩:∃ kd mo:Int,6=kd∧1=mo∧kd=kind∧mo=(if kind=6 then 1 else most):=⟨6,1,rfl,rfl,c.symm,by rw [if_pos c]⟩
  have hg0:(dEds es)[0]? = some (dEd x):=by rw [hes];all_goals rfl
  have ht0:to0 ⟨kind,at',lo,hi,most,names,es⟩=x.to:=by simp [to0,hes]
  refine loop_i (fun j st=>∃ e:Nat,st=kd5St ⟨kind,at',lo,hi,most,names,es⟩ (.mk q z s ks) (List.replicate e x.to) (plainV (.mk q z s ks)) kd mo e e∧e≤ks.length∧j=ks.length - e) ks.length (kd5St ⟨kind,at',lo,hi,most,names,es⟩ (.mk q z s ks) [] (plainV (.mk q z s ks)) kd mo 0 0) (weak_bt 2 ⟨0,3,1,none⟩ rfl rfl rfl (by repeat' (first | exact rfl | exact we_rfl rfl | exact we_bool (hp _ rfl) | exact we_int h1 | exact we_int h2 | exact we_int (congrArg Nat.cast hdl) | exact we_tok (Nat.le_refl _) rfl | exact we_tok (Nat.le_refl _) rfl | refine ⟨_,_,rfl,?_,?_⟩)) rfl rfl (by repeat' (first | exact trivial | exact we_rfl rfl | exact we_bool (hp _ rfl) | exact we_int h1 | exact we_int h2 | exact we_int (congrArg Nat.cast hdl) | exact we_tok (Nat.le_refl _) rfl | refine ⟨⟨_,rfl,?_⟩,?_⟩))) ⟨0,rfl,by omega,by omega⟩ ?_
  rintro j st ⟨e,rfl,he,rfl⟩
  refine br (fun hL=>?_) (fun hL=>?_)
  ·have hlt:e < ks.length:=by have:=hL;simp [Val.ks] at this;exact this
   have hml:(dZs (List.replicate e x.to)).length=e:=by rw [dZs_len,List.length_replicate]
   have hsn:dZs (List.replicate e x.to) ++ [[DV.v (.int .i64 x.to)]]=dZs (List.replicate (e + 1) x.to):=by rw [dZs_snoc,List.replicate_succ']
   refine ⟨_,⟨by omega,hg0⟩,?_⟩
   refine ⟨hml,⟨by rw [hml];simp [maxLen];omega,by rw [hml];simp;omega⟩,?_⟩
   exact ⟨kd5St ⟨kind,at',lo,hi,most,names,es⟩ (.mk q z s ks) (List.replicate (e + 1) x.to) (plainV (.mk q z s ks)) kd mo (e + 1) (e + 1),(weak_b 2 rfl (by repeat' (first | exact rfl | exact we_rfl rfl | exact we_int (nxt hlt (by omega)) | exact we_sl hsn rfl | refine ⟨_,_,rfl,?_,?_⟩)) rfl rfl rfl (by repeat' (first | exact trivial | exact we_rfl rfl | exact we_int (nxt hlt (by omega)) | exact we_sl hsn rfl | refine ⟨⟨_,rfl,?_⟩,?_⟩))),ks.length - (e + 1),by omega,e + 1,rfl,by omega,rfl⟩
  ·have hge:e=ks.length:=by have:=hL;simp [Val.ks] at this;omega
   subst hge
   have hkl2:kidsL ⟨kind,at',lo,hi,most,names,es⟩ (.mk q z s ks)=List.replicate ks.length x.to:=by unfold kidsL;rw [if_pos c56,ht0];all_goals rfl
   have hml:(dZs (List.replicate ks.length x.to)).length=ks.length:=by rw [dZs_len,List.length_replicate]
   have hB:pickB (pickB (plainV (.mk q z s ks)) (decide (q=kd)) false) (decide (((dZs (List.replicate ks.length x.to)).length:Int)≤mo)) false=kidsB ⟨kind,at',lo,hi,most,names,es⟩ (.mk q z s ks):=by
    rw [hml,h3,h4,pickB_and,pickB_and]
    unfold kidsB
    rw [if_pos c56]
    rfl
   rw [hkl2]
   exact ⟨_,(by repeat' (first | exact rfl | exact trivial | exact Or.inr (Or.inl ⟨_,rfl⟩) | exact Or.inr ⟨_,rfl⟩ | exact Or.inl ⟨rfl,rfl⟩ | exact Or.inl rfl | refine Or.inr ⟨_,_,rfl,Nat.zero_le _,rfl,?_⟩ | refine ⟨_,_,rfl,?_,?_⟩ | refine ⟨_,rfl,?_⟩ | exact congrArg (fun b=>DV.v (.bool b)) hB | refine Or.inr (Or.inr (Or.inr ⟨_,_,rfl,?_⟩)) | exact Or.inl rfl | refine Or.inr ?_)),rfl⟩
 have c6:¬ kind=6:=by simpa using c
 obtain ⟨hm64,hm8,_,_⟩:=hmany (by omega)
 refine br (fun c=>?_) (fun c=>?_)
 ·have c7:kind=7:=by simpa using c
  refine loop_i (fun j st=>∃ e:Nat,st=kd7St ⟨kind,at',lo,hi,most,names,es⟩ (.mk q z s ks) ((es.take e).map Ed.to) (plainV (.mk q z s ks)) e e∧e≤es.length∧j=es.length - e) es.length (kd7St ⟨kind,at',lo,hi,most,names,es⟩ (.mk q z s ks) [] (plainV (.mk q z s ks)) 0 0) (weak_bt 2 ⟨0,3,1,none⟩ rfl rfl rfl (by repeat' (first | exact rfl | exact we_rfl rfl | exact we_bool (hp _ rfl) | exact we_tok (Nat.le_refl _) rfl | exact we_tok (Nat.le_refl _) rfl | refine ⟨_,_,rfl,?_,?_⟩)) rfl rfl (by repeat' (first | exact trivial | exact we_rfl rfl | exact we_bool (hp _ rfl) | exact we_tok (Nat.le_refl _) rfl | refine ⟨⟨_,rfl,?_⟩,?_⟩))) ⟨0,rfl,by omega,by omega⟩ ?_
  rintro j st ⟨e,rfl,he,rfl⟩
  refine br (fun hL=>?_) (fun hL=>?_)
  ·have hlt:e < es.length:=by have:=hL;simp [hel] at this;exact this
   obtain ⟨x,hx⟩:∃ x,es[e]? = some x:=⟨_,List.getElem?_eq_getElem hlt⟩
   have hml:(dZs ((es.take e).map Ed.to)).length=e:=by rw [dZs_len,List.length_map,List.length_take];omega
   have hsn:dZs ((es.take e).map Ed.to) ++ [[DV.v (.int .i64 x.to)]]=dZs ((es.take (e + 1)).map Ed.to):=by rw [dZs_snoc,take_snoc hx,List.map_append];all_goals rfl
   refine ⟨_,⟨by omega,dEds_get hx⟩,?_⟩
   refine ⟨hml,⟨by rw [hml];simp [maxLen];omega,by rw [hml];simp;omega⟩,?_⟩
   exact ⟨kd7St ⟨kind,at',lo,hi,most,names,es⟩ (.mk q z s ks) ((es.take (e + 1)).map Ed.to) (plainV (.mk q z s ks)) (e + 1) (e + 1),(weak_b 2 rfl (by repeat' (first | exact rfl | exact we_rfl rfl | exact we_int (nxt hlt (by omega)) | exact we_sl hsn rfl | refine ⟨_,_,rfl,?_,?_⟩)) rfl rfl rfl (by repeat' (first | exact trivial | exact we_rfl rfl | exact we_int (nxt hlt (by omega)) | exact we_sl hsn rfl | refine ⟨⟨_,rfl,?_⟩,?_⟩))),es.length - (e + 1),by omega,e + 1,rfl,by omega,rfl⟩
  ·have hge:e=es.length:=by have:=hL;simp [hel] at this;omega
   subst hge
   rw [List.take_length]
   have hkl2:kidsL ⟨kind,at',lo,hi,most,names,es⟩ (.mk q z s ks)=es.map Ed.to:=by unfold kidsL;rw [if_neg (by simp only;omega),if_pos c7]
   have hml:(dZs (es.map Ed.to)).length=es.length:=by rw [dZs_len,List.length_map]
   have hB:pickB (pickB (plainV (.mk q z s ks)) (decide (q=7)) false) (decide (((dZs (es.map Ed.to)).length:Int)=((dVals ks).length:Int))) false=kidsB ⟨kind,at',lo,hi,most,names,es⟩ (.mk q z s ks):=by
    rw [hml,hdl,pickB_and,pickB_and]
    unfold kidsB
    rw [if_neg (by simp only;omega),if_pos c7]
    have:((es.length:Int)=(ks.length:Int))↔es.length=ks.length:=by omega
    simp only [this,Val.k,Val.ks]
    rfl
   rw [hkl2]
   refine drawG_i (fun _=>false) mo (by decide +kernel) ?_
   exact ⟨_,(by repeat' (first | exact rfl | exact trivial | exact Or.inr (Or.inl ⟨_,rfl⟩) | exact Or.inr ⟨_,rfl⟩ | exact Or.inl ⟨rfl,rfl⟩ | exact Or.inl rfl | refine Or.inr ⟨_,_,rfl,Nat.zero_le _,rfl,?_⟩ | refine ⟨_,_,rfl,?_,?_⟩ | refine ⟨_,rfl,?_⟩ | exact congrArg (fun b=>DV.v (.bool b)) hB | refine Or.inr (Or.inr (Or.inr ⟨_,_,rfl,?_⟩)) | exact Or.inl rfl | refine Or.inr ?_)),rfl⟩
 have c7:¬ kind=7:=by simpa using c
 have hkl2:kidsL ⟨kind,at',lo,hi,most,names,es⟩ (.mk q z s ks)=(match tagE ⟨kind,at',lo,hi,most,names,es⟩ (.mk q z s ks) with | none=>[] | some e=>if e.bare=true then [] else [e.to]):=by unfold kidsL;rw [if_neg (by simp only;omega),if_neg c7];all_goals rfl
 have hkb2:kidsB ⟨kind,at',lo,hi,most,names,es⟩ (.mk q z s ks)=(match tagE ⟨kind,at',lo,hi,most,names,es⟩ (.mk q z s ks) with | none=>false | some _=>plainV (.mk q z s ks) && decide ((kidsL ⟨kind,at',lo,hi,most,names,es⟩ (.mk q z s ks)).length=ks.length)):=by unfold kidsB;rw [if_neg (by simp only;omega),if_neg c7];all_goals rfl
 have hc:∀ b:Bool,b=pickB (pickB (!decide (q=8)) true (decide (z < 0))) true (decide (((dEds es).length:Int)≤z))→b = !decide (q=8∧0≤z∧z < es.length):=fun b h=>by
  rw [h,hel,pickB_or,pickB_or,Bool.eq_iff_iff]
  simp
  omega
 refine br (fun c=>?_) (fun c=>?_)
 ·have c:¬ (q=8∧0≤z∧z < es.length):=by have:=(hc _ rfl).symm.trans c;simpa only [Bool.not_eq_true',decide_eq_false_iff_not] using this
  have ht:tagE ⟨kind,at',lo,hi,most,names,es⟩ (.mk q z s ks)=none:=by show (if q=8∧0≤z∧z < es.length then es[z.toNat]? else none)=_;rw [if_neg c]
  rw [hkb2,hkl2,ht]
  exact ⟨_,ax,rfl⟩
 ·have c:q=8∧0≤z∧z < es.length:=by have:=(hc _ rfl).symm.trans c;simpa only [Bool.not_eq_false',decide_eq_true_eq] using this
  obtain ⟨x,hx⟩:∃ x,es[z.toNat]? = some x:=⟨_,List.getElem?_eq_getElem (by omega)⟩
  have ht:tagE ⟨kind,at',lo,hi,most,names,es⟩ (.mk q z s ks)=some x:=by show (if q=8∧0≤z∧z < es.length then es[z.toNat]? else none)=_;rw [if_pos c];exact hx
  rw [ht] at hkb2 hkl2
  refine ⟨_,⟨by omega,dEds_get hx⟩,?_⟩
  refine br (fun hb=>?_) (fun hb=>?_)
  ·have hb:x.bare=false:=by simpa using hb
   have hkl3:kidsL ⟨kind,at',lo,hi,most,names,es⟩ (.mk q z s ks)=[x.to]:=by rw [hkl2];simp [hb]
   have hB:pickB (plainV (.mk q z s ks)) (decide ((1:Int)=((dVals ks).length:Int))) false=kidsB ⟨kind,at',lo,hi,most,names,es⟩ (.mk q z s ks):=by
    rw [hkb2,hkl3,hdl,pickB_and]
    have:((1:Int)=(ks.length:Int)) ↔ [x.to].length=ks.length:=by simp;omega
    simp only [this]
   rw [hkl3,← hB]
   refine ⟨⟨by simp [maxLen],by simp⟩,?_⟩
   refine drawG_i (fun _=>false) mo (by decide +kernel) ?_
   exact ⟨_,(by repeat' (first | exact rfl | exact trivial | exact Or.inr (Or.inl ⟨_,rfl⟩) | exact Or.inr ⟨_,rfl⟩ | exact Or.inl ⟨rfl,rfl⟩ | exact Or.inl rfl | refine Or.inr ⟨_,_,rfl,Nat.zero_le _,rfl,?_⟩ | refine ⟨_,_,rfl,?_,?_⟩ | refine ⟨_,rfl,?_⟩ | exact congrArg (fun b=>DV.v (.bool (pickB b _ false))) (hp _ rfl) | refine Or.inr (Or.inr (Or.inr ⟨_,_,rfl,?_⟩)) | exact Or.inl rfl | refine Or.inr ?_)),rfl⟩
  ·have hb:x.bare=true:=by simpa using hb
   have hkl3:kidsL ⟨kind,at',lo,hi,most,names,es⟩ (.mk q z s ks)=[]:=by rw [hkl2];simp [hb]
   have hB:pickB (plainV (.mk q z s ks)) (decide ((0:Int)=((dVals ks).length:Int))) false=kidsB ⟨kind,at',lo,hi,most,names,es⟩ (.mk q z s ks):=by
    rw [hkb2,hkl3,hdl,pickB_and]
    have:((0:Int)=(ks.length:Int))↔([]:List Int).length=ks.length:=by simp;omega
    simp only [this]
   rw [hkl3,← hB]
   refine drawG_i (fun _=>false) mo (by decide +kernel) ?_
   exact ⟨_,(by repeat' (first | exact rfl | exact trivial | exact Or.inr (Or.inl ⟨_,rfl⟩) | exact Or.inr ⟨_,rfl⟩ | exact Or.inl ⟨rfl,rfl⟩ | exact Or.inl rfl | refine Or.inr ⟨_,_,rfl,Nat.zero_le _,rfl,?_⟩ | refine ⟨_,_,rfl,?_,?_⟩ | refine ⟨_,rfl,?_⟩ | exact congrArg (fun b=>DV.v (.bool (pickB b _ false))) (hp _ rfl) | refine Or.inr (Or.inr (Or.inr ⟨_,_,rfl,?_⟩)) | exact Or.inl rfl | refine Or.inr ?_)),rfl⟩
end Go.Proofs.YtbfdbhechmhpoaaGreat
set_option maxRecDepth 100000
namespace Go.Proofs.YtbfdbhechmhpoaaGreat
open Go Go.RowKit Dv Tryz
theorem kidsB_len {n:Nd} {v:Val} (hk:5≤n.kind) (h:kidsB n v=true):(kidsL n v).length=v.ks.length:=by
 unfold kidsB at h
 by_cases c:n.kind=5∨n.kind=6
 ·unfold kidsL;rw [if_pos c];simp
 rw [if_neg c] at h
 by_cases c7:n.kind=7
 ·rw [if_pos c7] at h
  unfold kidsL;rw [if_neg c,if_pos c7,List.length_map]
  simp at h;exact h.2
 rw [if_neg c7] at h
 cases ht:tagE n v with
 | none=>rw [ht] at h;cases h
 | some e=>rw [ht] at h;simp only [Bool.and_eq_true,decide_eq_true_eq] at h;exact h.2
theorem fitVs_drop {ND:List Nd} {ks:List Val} {l:List Int} {e:Nat} {x:Val} {i:Int} (h1:ks[e]? = some x) (h2:l[e]? = some i):fitVs ND (ks.drop e) (l.drop e)=(fitV ND x i && fitVs ND (ks.drop (e + 1)) (l.drop (e + 1))):=by
 rw [drop_cons h1,drop_cons h2,fitVs]
theorem nodeA_some {ND:List Nd} {i:Int} {d:Nd} (h:nodeA ND i=some d):0≤i∧ND[i.toNat]? = some d:=by
 unfold nodeA at h
 split at h
 ·cases h
 ·exact ⟨by omega,h⟩
theorem nodeA_none {ND:List Nd} {i:Int} (h:nodeA ND i=none):i < 0∨(ND.length:Int)≤i:=by
 unfold nodeA at h
 split at h
 ·left;assumption
 ·right
  have:=List.getElem?_eq_none_iff.1 h
  omega
abbrev tfSt (PC:List DV) (v:Val) (l:List Int) (e:Nat):St:=
 ⟨[(0,⟨[],.pt PC 0⟩),(5,⟨[],.loc 0 0⟩),(36,⟨[],.sl 1 (dZs l) none⟩),(37,⟨[],.v (.int .i64 l.length)⟩),(38,⟨[],.v (.int .i64 e)⟩)],[dVal v],[]⟩
theorem tfits_spec {S:Sch} {ND:List Nd} {PC:List DV} (hP:PlanR S ND PC):∀ (k:Nat) (v:Val),v.wt≤k→v.wt≤1099511627776→∀ i:Int,EvP Tryz.prog 56 [.pt PC 0,.v (.int .i64 i),.agg (dVal v)] (.v (.bool (fitV ND v i)))
 | 0,v,h,_=>by have:=v.wt_pos;omega
 | k + 1,.mk q z s ks,h,hb=>fun i=>by
  have ih:=tfits_spec hP k
  have hkl:=wtVs_len ks
  have hdl:=dVals_len ks
  have hb':=hb
  rw [Val.wt] at h hb
  rw [fitV]
  have hnode:=hP.node
  have hnodeN:=hP.nodeN
  have hok:=hP.ok
  cases hd:nodeA ND i with
  | none=>
   refine ev_go (P:=Tryz.prog) tt tt_ok 5000 53 [.tmp 6] Tryz.func56 rfl Tryz.ntmps56 rfl (Nat.le_of_ble_eq_true rfl) (fun E9 w9 hn9 hm9=>?_)
   refine call_p en18 (hnodeN i (nodeA_none hd)) ax rfl ?_
   exact (rfl:_=_)
  | some d=>
   obtain ⟨h0,hg⟩:=nodeA_some hd
   obtain ⟨j,rfl⟩:∃ j:Nat,i=j:=⟨i.toNat,by omega⟩
   have hg:ND[j]? = some d:=by simpa using hg
   have hN:=hok d (List.mem_of_getElem? hg)
   have hlf:=leaf_spec d (.mk q z s ks)
   have hkd:=fun h5=>kids_spec hN h5 (.mk q z s ks) hb'
   have hlen:=fun h5=>kidsB_len (n:=d) (v:=.mk q z s ks) h5
   simp only
   obtain ⟨kind,at',lo,hi,most,names,es⟩:=d
   simp only at hkd hlen
   refine ev_go (P:=Tryz.prog) tt tt_ok 5000 53 [.tmp 6] Tryz.func56 rfl Tryz.ntmps56 rfl (Nat.le_of_ble_eq_true rfl) (fun E9 w9 hn9 hm9=>?_)
   refine call_p en18 (hnode j _ hg) ax rfl ?_
   refine br (fun c=>?_) (fun c=>?_)
   ·have c:kind < 5:=by simpa using c
    rw [if_pos c]
    refine call_p en119 (hlf) ax rfl ?_
    exact (rfl:_=_)
   have c:¬ kind < 5:=by simpa using c
   rw [if_neg c]
   have hkd:=hkd (by omega)
   have hlen:=hlen (by omega)
   generalize kidsL ⟨kind,at',lo,hi,most,names,es⟩ (.mk q z s ks)=l at hkd hlen ⊢
   have hzl:=dZs_len l
   refine call_p en120 (hkd) ax rfl ?_
   cases hB:kidsB ⟨kind,at',lo,hi,most,names,es⟩ (.mk q z s ks) with
   | false=>
    exact (rfl:_=_)
   | true=>
    have hlen:l.length=ks.length:=hlen hB
    rw [Bool.true_and]
    refine loop_i (fun j st=>∃ e:Nat,st=tfSt PC (.mk q z s ks) l e∧e≤l.length∧fitVs ND ks l=fitVs ND (ks.drop e) (l.drop e)∧j=l.length - e) l.length (tfSt PC (.mk q z s ks) l 0) (weak_mk ⟨_,rfl⟩ wA rfl rfl rfl (by repeat' (first | exact trivial | exact we_rfl rfl | exact we_int (congrArg Nat.cast hzl) | refine ⟨⟨_,rfl,?_⟩,?_⟩))) ⟨0,rfl,by omega,rfl,by omega⟩ ?_
    rintro _ st ⟨e,rfl,he,heq,rfl⟩
    refine br (fun hL=>?_) (fun hL=>?_)
    ·have hlt:e < l.length:=by have:=hL;simp at this;exact this
     obtain ⟨x,hx⟩:∃ x,ks[e]? = some x:=⟨_,List.getElem?_eq_getElem (by omega)⟩
     obtain ⟨y,hy⟩:∃ y,l[e]? = some y:=⟨_,List.getElem?_eq_getElem hlt⟩
     have hxw:=wtVs_mem (List.mem_of_getElem? hx)
     rw [fitVs_drop hx hy] at heq
     have hi':=ih x (by omega) (by omega) y
     obtain ⟨xk,xn,xs,xl⟩:=x
     refine ⟨_,⟨by omega,dZs_get hy⟩,?_⟩
     refine ⟨_,⟨by omega,dVals_get hx⟩,?_⟩
     refine call_p en56 (hi') ax rfl ?_
     refine br (fun g=>?_) (fun g=>?_)
     ·have g:fitV ND (.mk xk xn xs xl) y=false:=by simpa using g
      rw [heq,g]
      exact (rfl:_=_)
     ·have g:fitV ND (.mk xk xn xs xl) y=true:=by simpa using g
      rw [g,Bool.true_and] at heq
      exact ⟨tfSt PC (.mk q z s ks) l (e + 1),(weak_mk ⟨_,rfl⟩ wA rfl rfl rfl (by repeat' (first | exact trivial | exact we_rfl rfl | exact we_int (nxt hlt (by omega)) | refine ⟨⟨_,rfl,?_⟩,?_⟩))),l.length - (e + 1),by omega,e + 1,rfl,by omega,heq,rfl⟩
    ·have hge:e=l.length:=by have:=hL;simp at this;omega
     rw [List.drop_of_length_le (by omega),List.drop_of_length_le (by omega)] at heq
     rw [heq]
     exact (rfl:_=_)
end Go.Proofs.YtbfdbhechmhpoaaGreat
set_option maxRecDepth 100000
namespace Go.Proofs.YtbfdbhechmhpoaaGreat
open Go Go.RowKit Dv Tryz
structure FitF (ND:List Nd) (v:Val) (i:Int) (d:Nd):Prop where
 node:nodeA ND i=some d
 k:v.k=d.kind
 leaf:d.kind < 5→v.ks=[]
 enum:d.kind=4→0≤v.n∧v.n < d.names.length
 kids:5≤d.kind→(kidsL d v).length=v.ks.length∧fitVs ND v.ks (kidsL d v)=true
 tag:d.kind=8→∃ e,tagE d v=some e∧d.edges[v.n.toNat]? = some e∧0≤v.n∧v.n < d.edges.length∧(e.bare=true↔v.ks=[])
 opt:d.kind=6→v.ks.length≤1
theorem fit_facts {L:Nat} {ND:List Nd} (hok:∀ n∈ND,NdOK L ND.length n) {v:Val} {i:Int} (h:fitV ND v i=true):∃ d,FitF ND v i d:=by
 obtain ⟨k,n,s,ks⟩:=v
 rw [fitV] at h
 cases hd:nodeA ND i with
 | none=>rw [hd] at h;cases h
 | some d=>
  rw [hd] at h
  simp only at h
  have hN:=hok d (List.mem_of_getElem? (nodeA_some hd).2)
  have hk1:=hN.k1
  have hk8:=hN.k8
  by_cases h5:d.kind < 5
  ·rw [if_pos h5] at h
   unfold leafF at h
   by_cases hc:0 < (Val.mk k n s ks).ks.length∨((Val.mk k n s ks).k≠3∧(Val.mk k n s ks).s≠emptyB)∨((Val.mk k n s ks).k=3∧(Val.mk k n s ks).n≠0)
   ·rw [if_pos hc] at h;cases h
   rw [if_neg hc] at h
   have hnil:ks=[]:=by
    cases ks with
    | nil=>rfl
    | cons a b=>exact (hc (.inl (by simp [Val.ks]))).elim
   have hk:k=d.kind∧(d.kind=4→0≤n∧n < d.names.length):=by
    rcases (show d.kind=1∨d.kind=2∨d.kind=3∨d.kind=4 by omega) with c | c | c | c
    all_goals
     simp [c,Val.k,Val.n] at h
     simp only [c]
     constructor
     ·first | exact of_decide_eq_true h.1 | exact of_decide_eq_true h.1.1
     ·first | (intro;omega) | exact fun _=>⟨of_decide_eq_true h.1.2,of_decide_eq_true h.2⟩
   exact ⟨d,{ node:=hd,k:=hk.1,leaf:=fun _=>hnil,enum:=hk.2,kids:=fun h=>by omega,tag:=fun h=>by omega,opt:=fun h=>by omega }⟩
  ·rw [if_neg h5,Bool.and_eq_true] at h
   obtain ⟨hB,hf⟩:=h
   have hlen:=kidsB_len (by omega) hB
   have hB2:=hB
   unfold kidsB at hB
   by_cases c:d.kind=5∨d.kind=6
   ·rw [if_pos c] at hB
    simp only [Bool.and_eq_true,decide_eq_true_eq] at hB
    exact ⟨d,{ node:=hd,k:=hB.1.2,leaf:=fun h=>by omega,enum:=fun h=>by omega,kids:=fun _=>⟨hlen,hf⟩,tag:=fun h=>by omega,opt:=fun h=>by have:=hB.2;rw [if_pos h] at this;omega }⟩
   rw [if_neg c] at hB
   by_cases c7:d.kind=7
   ·rw [if_pos c7] at hB
    simp only [Bool.and_eq_true,decide_eq_true_eq] at hB
    exact ⟨d,{ node:=hd,k:=by rw [c7];exact hB.1.2,leaf:=fun h=>by omega,enum:=fun h=>by omega,kids:=fun _=>⟨hlen,hf⟩,tag:=fun h=>by omega,opt:=fun h=>by omega }⟩
   rw [if_neg c7] at hB
   cases ht:tagE d (.mk k n s ks) with
   | none=>rw [ht] at hB;cases hB
   | some e=>
    have ht2:=ht
    unfold tagE at ht2
    split at ht2
    ·rename_i hr
     have hkl:kidsL d (.mk k n s ks)=if e.bare=true then [] else [e.to]:=by unfold kidsL;rw [if_neg c,if_neg c7,ht]
     refine ⟨d,{ node:=hd,k:=by have:=hr.1;omega,leaf:=fun h=>by omega,enum:=fun h=>by omega,kids:=fun _=>⟨hlen,hf⟩,tag:=fun _=>⟨e,ht,ht2,hr.2.1,hr.2.2,?_⟩,opt:=fun h=>by omega }⟩
     rw [hkl] at hlen
     constructor
     ·intro hb
      rw [if_pos hb] at hlen
      exact List.eq_nil_of_length_eq_zero hlen.symm
     ·intro hnil
      rw [hnil] at hlen
      cases hb:e.bare
      ·rw [hb] at hlen;simp at hlen
      ·rfl
    ·cases ht2
theorem fitVs_at {ND:List Nd}:∀ {ks:List Val} {l:List Int} {e:Nat} {x:Val} {i:Int},fitVs ND ks l=true→ks[e]? = some x→l[e]? = some i→fitV ND x i=true
 | [],_,e,x,i,_,h,_=>by simp at h
 | _ :: _,[],e,x,i,_,_,h=>by simp at h
 | v :: r,j :: l,0,x,i,h,h1,h2=>by
  simp only [List.getElem?_cons_zero,Option.some.injEq] at h1 h2
  subst h1 h2
  rw [fitVs,Bool.and_eq_true] at h
  exact h.1
 | v :: r,j :: l,e + 1,x,i,h,h1,h2=>by
  simp only [List.getElem?_cons_succ] at h1 h2
  rw [fitVs,Bool.and_eq_true] at h
  exact fitVs_at h.2 h1 h2
end Go.Proofs.YtbfdbhechmhpoaaGreat
set_option maxRecDepth 100000
namespace Go.Proofs.YtbfdbhechmhpoaaGreat
open Go Go.RowKit Dv Tryz
structure Stp where
 k:Int
 n:Int
 s:ByteArray
def dStp (x:Stp):List DV:=[.v (.int .i64 x.k),.v (.int .i64 x.n),.v (.string x.s)]
def dStps (l:List Stp):List (List DV):=l.map dStp
theorem dStps_len (l:List Stp):(dStps l).length=l.length:=by simp [dStps]
def stpR (d:Nd) (v:Val) (j:Nat):Stp:=
 if d.kind=5 then ⟨2,j,emptyB⟩
 else if d.kind=6 then ⟨4,0,emptyB⟩
 else if d.kind=7 then ⟨1,0,match d.edges[j]? with | some e=>e.name | none=>emptyB⟩
 else ⟨5,0,match d.edges[v.n.toNat]? with | some e=>e.name | none=>emptyB⟩
end Go.Proofs.YtbfdbhechmhpoaaGreat
set_option maxRecDepth 100000
namespace Go.Proofs.YtbfdbhechmhpoaaGreat
open Go Go.RowKit Dv Tryz
end Go.Proofs.YtbfdbhechmhpoaaGreat
set_option maxRecDepth 100000
namespace Go.Proofs.YtbfdbhechmhpoaaGreat
open Go Go.RowKit Dv Tryz
section
variable {L:Nat} {ND:List Nd} (hok:∀ n∈ND,NdOK L ND.length n)
include hok
end
section
variable {L:Nat} {ND:List Nd} (hok:∀ n∈ND,NdOK L ND.length n)
include hok
end
end Go.Proofs.YtbfdbhechmhpoaaGreat
set_option maxRecDepth 100000
namespace Go.Proofs.YtbfdbhechmhpoaaGreat
open Go Go.RowKit Dv Tryz
end Go.Proofs.YtbfdbhechmhpoaaGreat
set_option maxRecDepth 100000
namespace Go.Proofs.YtbfdbhechmhpoaaGreat
open Go Go.RowKit Dv Tryz
end Go.Proofs.YtbfdbhechmhpoaaGreat
set_option maxRecDepth 100000
namespace Go.Proofs.YtbfdbhechmhpoaaGreat
open Go Go.RowKit Dv Tryz
def edN (K:List Nat) (e:Ed):Nat:=K.getD e.to.toNat 0
def leastR (K:List Nat):List Ed→Nat→Nat
 | [],m=>m + 1
 | e :: r,m=>if edN K e=0 then 0 else leastR K r (max m (edN K e))
def leastU (K:List Nat):List Ed→Nat→Nat
 | [],b=>if b=0 then 0 else b + 1
 | e :: r,b=>if e.bare=true then 1 else if 0 < edN K e∧(b=0∨edN K e < b) then leastU K r (edN K e) else leastU K r b
def leastF (n:Nd) (K:List Nat):Nat:=if n.kind=7 then leastR K n.edges 0 else if n.kind=8 then leastU K n.edges 0 else 1
def depN (ND:List Nd):Nat→List Nat
 | 0=>List.replicate ND.length 0
 | d + 1=>ND.map fun n=>leastF n (depN ND d)
theorem depN_len (ND:List Nd):∀ d,(depN ND d).length=ND.length
 | 0=>by simp [depN]
 | d + 1=>by simp [depN]
theorem depN_get (ND:List Nd) (d j:Nat):(depN ND (d + 1)).getD j 0=match ND[j]? with | none=>0 | some n=>leastF n (depN ND d):=by
 simp only [depN,List.getD_eq_getElem?_getD,List.getElem?_map]
 cases ND[j]?<;>rfl
def RndR (d:Nat) (A B:List Nat):Prop:=∀ j:Nat,(0 < A.getD j 0→B.getD j 0=A.getD j 0∧A.getD j 0≤d)∧(A.getD j 0=0→B.getD j 0=0∨B.getD j 0=d + 1)
theorem rndR_le {d:Nat} {A B:List Nat} (h:RndR d A B) (j:Nat):B.getD j 0≤d + 1:=by
 obtain ⟨h1,h2⟩:=h j
 rcases Nat.eq_zero_or_pos (A.getD j 0) with h3 | h3
 ·rcases h2 h3 with h4 | h4<;>omega
 ·have:=h1 h3;omega
theorem leastR_zero {K:List Nat}:∀ {es:List Ed} {m:Nat},leastR K es m=0↔∃ e∈es,edN K e=0
 | [],m=>by simp [leastR]
 | e :: r,m=>by
  rw [leastR]
  by_cases h:edN K e=0
  ·rw [if_pos h]
   exact ⟨fun _=>⟨e,by simp,h⟩,fun _=>rfl⟩
  ·rw [if_neg h,leastR_zero]
   constructor
   ·rintro ⟨x,hx,h2⟩;exact ⟨x,by simp [hx],h2⟩
   ·rintro ⟨x,hx,h2⟩
    rcases List.mem_cons.1 hx with rfl | hx
    ·exact (h h2).elim
    ·exact ⟨x,hx,h2⟩
theorem leastR_same {d:Nat} {A B:List Nat} (hR:RndR d A B):∀ {es:List Ed} {m:Nat},0 < leastR A es m→leastR B es m=leastR A es m
 | [],m,_=>rfl
 | e :: r,m,h=>by
  rw [leastR] at h ⊢
  rw [leastR]
  by_cases h0:edN A e=0
  ·rw [if_pos h0] at h;omega
  rw [if_neg h0] at h ⊢
  have h1:edN B e=edN A e:=((hR e.to.toNat).1 (by unfold edN at h0;omega)).1
  rw [h1,if_neg h0]
  exact leastR_same hR h
theorem leastR_new {d:Nat} {A B:List Nat} (hR:RndR d A B):∀ {es:List Ed} {m:Nat},m≤d + 1→(m=d + 1∨∃ e∈es,edN A e=0)→leastR B es m=0∨leastR B es m=d + 2
 | [],m,_,h=>by
  rcases h with h | ⟨e,he,_⟩
  ·right;rw [leastR,h]
  ·cases he
 | e :: r,m,hm,h=>by
  rw [leastR]
  by_cases h0:edN B e=0
  ·rw [if_pos h0];exact .inl rfl
  rw [if_neg h0]
  have hle:edN B e≤d + 1:=rndR_le hR _
  refine leastR_new hR (by omega) ?_
  rcases h with h | ⟨x,hx,h⟩
  ·left;omega
  ·rcases List.mem_cons.1 hx with rfl | hx
   ·left
    have:=(hR x.to.toNat).2 h
    unfold edN at h0 hle ⊢
    omega
   ·exact .inr ⟨x,hx,h⟩
theorem leastU_rnd {d:Nat} {A B:List Nat} (hR:RndR d A B):∀ {es:List Ed} {a b:Nat},(0 < a→b=a∧a≤d)→(a=0→b=0∨b=d + 1) →
  (0 < leastU A es a→leastU B es b=leastU A es a)∧(leastU A es a=0→leastU B es b=0∨leastU B es b=d + 2)
 | [],a,b,h1,h2=>by
  rw [leastU,leastU]
  rcases Nat.eq_zero_or_pos a with h | h
  ·rw [if_pos h]
   refine ⟨fun h=>by omega,fun _=>?_⟩
   rcases h2 h with h3 | h3
   ·left;rw [if_pos h3]
   ·right;rw [if_neg (by omega)];omega
  ·obtain ⟨h3,h4⟩:=h1 h
   rw [if_neg (by omega),if_neg (by omega),h3]
   exact ⟨fun _=>rfl,fun h=>by omega⟩
 | e :: r,a,b,h1,h2=>by
  rw [leastU,leastU]
  by_cases hb:e.bare=true
  ·rw [if_pos hb,if_pos hb]
   exact ⟨fun _=>rfl,fun h=>by omega⟩
  rw [if_neg hb,if_neg hb]
  obtain ⟨g1,g2⟩:=hR e.to.toNat
  change (0 < edN A e→edN B e=edN A e∧edN A e≤d) at g1
  change (edN A e=0→edN B e=0∨edN B e=d + 1) at g2
  by_cases c1:0 < edN A e∧(a=0∨edN A e < a)<;>by_cases c2:0 < edN B e∧(b=0∨edN B e < b)
  ·rw [if_pos c1,if_pos c2];exact leastU_rnd hR (by omega) (by omega)
  ·rw [if_pos c1,if_neg c2];exact leastU_rnd hR (by omega) (by omega)
  ·rw [if_neg c1,if_pos c2];exact leastU_rnd hR (by omega) (by omega)
  ·rw [if_neg c1,if_neg c2];exact leastU_rnd hR (by omega) (by omega)
theorem leastF_rnd {d:Nat} {A B:List Nat} (hR:RndR d A B) (n:Nd):(0 < leastF n A→leastF n B=leastF n A)∧(leastF n A=0→leastF n B=0∨leastF n B=d + 2):=by
 unfold leastF
 by_cases h7:n.kind=7
 ·rw [if_pos h7,if_pos h7]
  exact ⟨leastR_same hR,fun h=>leastR_new hR (by omega) (.inr (leastR_zero.1 h))⟩
 rw [if_neg h7,if_neg h7]
 by_cases h8:n.kind=8
 ·rw [if_pos h8,if_pos h8]
  exact leastU_rnd hR (by omega) (by omega)
 rw [if_neg h8,if_neg h8]
 exact ⟨fun _=>rfl,fun h=>by omega⟩
theorem edN_zero (N:Nat) (e:Ed):edN (List.replicate N 0) e=0:=by
 unfold edN
 rw [List.getD_eq_getElem?_getD,List.getElem?_replicate]
 split<;>rfl
theorem leastU_none (N:Nat):∀ es:List Ed,leastU (List.replicate N 0) es 0=0∨leastU (List.replicate N 0) es 0=1
 | []=>.inl rfl
 | e :: r=>by
  rw [leastU,edN_zero]
  by_cases hb:e.bare=true
  ·rw [if_pos hb];exact .inr rfl
  ·rw [if_neg hb,if_neg (by omega)];exact leastU_none N r
theorem leastF_none (N:Nat) (n:Nd):leastF n (List.replicate N 0)=0∨leastF n (List.replicate N 0)=1:=by
 unfold leastF
 by_cases h7:n.kind=7
 ·rw [if_pos h7]
  cases h:n.edges with
  | nil=>right;rfl
  | cons e r=>left;rw [leastR,edN_zero,if_pos rfl]
 rw [if_neg h7]
 by_cases h8:n.kind=8
 ·rw [if_pos h8];exact leastU_none N n.edges
 ·rw [if_neg h8];exact .inr rfl
theorem depN_zero (ND:List Nd) (j:Nat):(depN ND 0).getD j 0=0:=by
 rw [depN,List.getD_eq_getElem?_getD,List.getElem?_replicate]
 split<;>rfl
theorem depN_rnd (ND:List Nd):∀ d,RndR d (depN ND d) (depN ND (d + 1))
 | 0=>fun j=>by
  refine ⟨fun h=>by rw [depN_zero] at h;omega,fun _=>?_⟩
  rw [depN_get]
  cases ND[j]? with
  | none=>exact .inl rfl
  | some n=>exact leastF_none _ n
 | d + 1=>fun j=>by
  have ih:=depN_rnd ND d
  rw [depN_get ND (d + 1),depN_get ND d]
  cases hn:ND[j]? with
  | none=>exact ⟨fun h=>by simp at h,fun _=>.inl rfl⟩
  | some n=>
   obtain ⟨h1,h2⟩:=leastF_rnd ih n
   refine ⟨fun h=>⟨h1 h,?_⟩,h2⟩
   have:=rndR_le ih j
   rw [depN_get ND d,hn] at this
   exact this
def posL (K:List Nat):List Bool:=K.map fun k=>decide (0 < k)
theorem posL_get (K:List Nat) (j:Nat):(posL K).getD j false=decide (0 < K.getD j 0):=by
 unfold posL
 simp only [List.getD_eq_getElem?_getD,List.getElem?_map]
 cases K[j]?<;>simp
theorem posL_len (K:List Nat):(posL K).length=K.length:=by simp [posL]
theorem getD_ext {A B:List Nat} (hl:A.length=B.length) (h:∀ j,A.getD j 0=B.getD j 0):A=B:=by
 refine List.ext_getElem hl fun j h1 h2=>?_
 have:=h j
 simp only [List.getD_eq_getElem?_getD,List.getElem?_eq_getElem h1,List.getElem?_eq_getElem h2,Option.getD_some] at this
 exact this
def inK (K:List Bool) (e:Ed):Bool:=e.bare || K.getD e.to.toNat false
def hvB (n:Nd) (K:List Bool):Bool:=if n.kind < 7 then true else if n.kind=7 then n.edges.all (inK K) else n.edges.any (inK K)
theorem leastU_pos {K:List Nat}:∀ {es:List Ed} {b:Nat},0 < leastU K es b↔(0 < b∨es.any (inK (posL K))=true)
 | [],b=>by
  rw [leastU]
  by_cases h:b=0
  ·rw [if_pos h];simp [h]
  ·rw [if_neg h];simp;omega
 | e :: r,b=>by
  have hg:(posL K).getD e.to.toNat false=decide (0 < edN K e):=posL_get K _
  rw [leastU,List.any_cons]
  by_cases hb:e.bare=true
  ·rw [if_pos hb]
   simp [inK,hb]
  ·rw [if_neg hb]
   have hin:inK (posL K) e=decide (0 < edN K e):=by
    unfold inK
    rw [hg]
    simp [hb]
   rw [hin,Bool.or_eq_true,decide_eq_true_eq]
   split
   ·rename_i h1
    rw [leastU_pos]
    constructor
    ·exact fun _=>.inr (.inl h1.1)
    ·exact fun _=>.inl h1.1
   ·rename_i h1
    rw [leastU_pos]
    constructor
    ·rintro (h | h)
     ·exact .inl h
     ·exact .inr (.inr h)
    ·rintro (h | h | h)
     ·exact .inl h
     ·by_cases hb0:b=0
      ·exact (h1 ⟨h,.inl hb0⟩).elim
      ·left;omega
     ·exact .inr h
theorem leastF_pos {n:Nd} {K:List Nat} (h8:n.kind≤8) (hb:∀ e∈n.edges,e.bare=true→n.kind=8):(0 < leastF n K)↔hvB n (posL K)=true:=by
 unfold leastF hvB
 by_cases h7:n.kind=7
 ·rw [if_pos h7,if_neg (by omega),if_pos h7,List.all_eq_true]
  have:0 < leastR K n.edges 0↔¬ leastR K n.edges 0=0:=by omega
  rw [this,leastR_zero]
  constructor
  ·intro h e he
   have h1:e.bare=false:=by
    cases hbe:e.bare
    ·rfl
    ·have:=hb e he hbe;omega
   have h2:¬ edN K e=0:=fun h3=>h ⟨e,he,h3⟩
   have hg:(posL K).getD e.to.toNat false=decide (0 < edN K e):=posL_get K _
   simp only [inK,h1,hg,Bool.false_or,decide_eq_true_eq]
   omega
  ·rintro h ⟨e,he,h3⟩
   have h1:e.bare=false:=by
    cases hbe:e.bare
    ·rfl
    ·have:=hb e he hbe;omega
   have hg:(posL K).getD e.to.toNat false=decide (0 < edN K e):=posL_get K _
   have:=h e he
   simp only [inK,h1,hg,Bool.false_or,decide_eq_true_eq] at this
   omega
 rw [if_neg h7]
 by_cases h8':n.kind=8
 ·rw [if_pos h8',if_neg (by omega),if_neg h7,leastU_pos]
  simp
 ·rw [if_neg h8',if_pos (by omega)]
  simp
theorem depN_ref {ND:List Nd} (hN:∀ n∈ND,n.kind≤8∧∀ e∈n.edges,e.bare=true→n.kind=8) (d:Nat) {i:Nat} {n:Nd} (h:ND[i]? = some n) :
  (depN ND (d + 1)).getD i 0=(if hvB n (posL (depN ND d))=true∧(depN ND d).getD i 0=0 then d + 1 else (depN ND d).getD i 0) ∧
  (posL (depN ND (d + 1))).getD i false=hvB n (posL (depN ND d)):=by
 obtain ⟨h8,hb⟩:=hN n (List.mem_of_getElem? h)
 have hp:=leastF_pos (K:=depN ND d) h8 hb
 have hg:(depN ND (d + 1)).getD i 0=leastF n (depN ND d):=by rw [depN_get,h]
 obtain ⟨h1,h2⟩:=(depN_rnd ND d) i
 refine ⟨?_,?_⟩
 ·rcases Nat.eq_zero_or_pos ((depN ND d).getD i 0) with h3 | h3
  ·by_cases h4:hvB n (posL (depN ND d))=true
   ·rw [if_pos ⟨h4,h3⟩]
    have:=h2 h3
    rw [← hp,← hg] at h4
    omega
   ·rw [if_neg (fun h=>h4 h.1),h3]
    rw [← hp,← hg] at h4
    omega
  ·rw [if_neg (by omega)]
   exact (h1 h3).1
 ·rw [posL_get,hg,Bool.eq_iff_iff,decide_eq_true_eq]
  exact hp
end Go.Proofs.YtbfdbhechmhpoaaGreat
set_option maxRecDepth 100000
namespace Go.Proofs.YtbfdbhechmhpoaaGreat
open Go Go.RowKit Dv Tryz
def cN (l:List Nat):List DV:=l.map fun (z:Nat)=>DV.v (.int .i64 (z:Int))
theorem cN_len (l:List Nat):(cN l).length=l.length:=by simp [cN]
theorem cN_get {l:List Nat} {i z:Nat} (h:l[i]? = some z):(cN l)[i]? = some (DV.v (.int .i64 (z:Int))):=by simp [cN,h]
theorem cN_set (l:List Nat) (i z:Nat):(cN l).set i (DV.v (.int .i64 (z:Int)))=cN (l.set i z):=by simp [cN,List.map_set]
theorem dInts_flat (l:List Nat):(dInts l).flatten=cN l:=by
 induction l with
 | nil=>rfl
 | cons b r ih=>simp only [dInts,cN,List.map_cons,List.flatten_cons] at ih ⊢;rw [ih];all_goals rfl
theorem repN (n:Nat):(List.replicate n (vL [Value.int .i64 0])).flatten=cN (List.replicate n 0):=by
 induction n with
 | zero=>rfl
 | succ n ih=>simp only [List.replicate_succ,List.flatten_cons,ih];rfl
theorem weL_cN {n m:Nat} {tk:List TkE} {l:List DV} {r:List Nat} (h:l=cN r):WeL n m tk l (cN r):=by
 subst h
 refine weL_sc _ fun x hx=>?_
 obtain ⟨z,_,rfl⟩:=List.mem_map.1 hx
 exact ⟨_,rfl⟩
theorem ms_n {bx:List (List DV)} {N n0 m0 n i:Nat} {r:List Nat} (hr:r.length=n) (hN:N≤i) (hb:bx[i]? = some (cN r)):Cc bx N n0 m0 (.sl 1 (dInts r) none) (.ms i 1 0 n n):=by
 simp only [Cc]
 refine Or.inr (Or.inr (Or.inl ⟨i,0,n,_,by rw [dInts_len,hr],hN,hb,?_,?_,?_⟩))
 ·rw [dInts_flat,List.drop_zero,List.take_of_length_le (by rw [cN_len,dInts_len];omega)]
 ·intro x hx
  simp only [dInts,List.mem_map] at hx
  obtain ⟨_,_,rfl⟩:=hx
  rfl
 ·intro x hx
  rw [dInts_flat] at hx
  obtain ⟨_,_,rfl⟩:=List.mem_map.1 hx
  exact ⟨_,rfl⟩
end Go.Proofs.YtbfdbhechmhpoaaGreat
set_option maxRecDepth 100000
namespace Go.Proofs.YtbfdbhechmhpoaaGreat
open Go Go.RowKit Dv Tryz
abbrev on1St (n:Nd) (K:List Bool) (s v:Bool) (e:Nat):St:=
 ⟨[(1,⟨[],.sl 1 (dBo K) none⟩),(2,⟨[],.loc 0 0⟩),(5,⟨[],.v (.bool s)⟩),(6,⟨[],.v (.bool v)⟩),(7,⟨[],.v (.int .i64 e)⟩)],[dNd n],[]⟩
theorem one19_spec {L:Nat} {n:Nd} (K:List Bool) (hK:K.length≤1099511627776) (hn:NdOK L K.length n) (hel:n.edges.length≤1099511627776) :
  EvP Tryz.prog 179 [.agg (dNd n),.sl 1 (dBo K) none] (.v (.bool (hvB n K))):=by
 have hedge:=hn.edge
 have hbare:=hn.bare
 have hk8:=hn.k8
 obtain ⟨kind,at',lo,hi,most,names,es⟩:=n
 simp only at hedge hbare hel hk8
 refine ev_go (P:=Tryz.prog) tt tt_ok 5000 50 [.tmp 4] Tryz.func179 rfl Tryz.ntmps179 rfl (Nat.le_of_ble_eq_true rfl) (fun E9 w9 hn9 hm9=>?_)
 refine br (fun h7=>?_) (fun h7=>?_)
 ·have h7:kind < 7:=by simpa using h7
  refine (congrArg (fun b=>DV.v (.bool b)) ?_:_=_)
  simp [hvB,h7]
 have h7:¬ kind < 7:=by simpa using h7
 refine loop_i (fun j st=>∃ e:Nat,st=on1St ⟨kind,at',lo,hi,most,names,es⟩ K ((es.take e).any (inK K)) ((es.take e).all (inK K)) e∧e≤es.length∧j=es.length - e) es.length (on1St ⟨kind,at',lo,hi,most,names,es⟩ K false true 0) (weak_mk ⟨_,rfl⟩ wA rfl rfl rfl wB) ⟨0,by simp,by omega,by omega⟩ ?_
 rintro j st ⟨e,rfl,he,rfl⟩
 refine br (fun hL=>?_) (fun hL=>?_)
 ·have hlt:e < es.length:=by have:=hL;simp [dEds_len] at this;exact this
  obtain ⟨x,hx⟩:∃ x,es[e]? = some x:=⟨_,List.getElem?_eq_getElem hlt⟩
  refine ⟨_,⟨by omega,dEds_get hx⟩,?_⟩
  have hs:(es.take (e + 1)).any (inK K)=((es.take e).any (inK K) || inK K x):=by rw [List.take_add_one,hx];simp
  have hv:(es.take (e + 1)).all (inK K)=((es.take e).all (inK K) && inK K x):=by rw [List.take_add_one,hx];simp
  generalize (es.take e).any (inK K)=s at hs ⊢
  generalize (es.take e).all (inK K)=v at hv ⊢
  refine br (fun hb=>?_) (fun hb=>?_)
  ·have hb:x.bare=false:=by simpa using hb
   obtain ⟨k,hk,hkl⟩:=(hedge x (List.mem_of_getElem? hx)).to1 hb
   obtain ⟨b,hb1⟩:∃ b,K[k]? = some b:=⟨_,List.getElem?_eq_getElem hkl⟩
   have hg:(dBo K)[(max x.to 0).toNat]? = some [DV.v (.bool b)]:=by rw [show (max x.to 0).toNat=k by omega];exact dBo_get hb1
   have hik:inK K x=b:=by unfold inK;rw [hb,hk];simp [List.getD_eq_getElem?_getD,hb1]
   rw [hik] at hs hv
   refine ⟨_,⟨by omega,dEds_get hx⟩,?_⟩
   refine ⟨_,⟨by omega,hg⟩,?_⟩
   have e5:pickB s true b=(es.take (e + 1)).any (inK K):=by rw [hs,pickB_or]
   have e6:pickB v b false=(es.take (e + 1)).all (inK K):=by rw [hv,pickB_and]
   exact ⟨on1St ⟨kind,at',lo,hi,most,names,es⟩ K ((es.take (e + 1)).any (inK K)) ((es.take (e + 1)).all (inK K)) (e + 1),(weak_mk ⟨_,rfl⟩ wA rfl rfl rfl (by repeat' (first | exact trivial | exact we_rfl rfl | exact we_bool e5 | exact we_bool e6 | exact we_int (nxt hlt (by omega)) | refine ⟨⟨_,rfl,?_⟩,?_⟩))),es.length - (e + 1),by omega,e + 1,rfl,by omega,rfl⟩
  ·have hb:x.bare=true:=by simpa using hb
   have hik:inK K x=true:=by unfold inK;rw [hb];all_goals rfl
   rw [hik] at hs hv
   have e5:pickB s true true=(es.take (e + 1)).any (inK K):=by rw [hs,pickB_or]
   have e6:pickB v true false=(es.take (e + 1)).all (inK K):=by rw [hv,pickB_and]
   exact ⟨on1St ⟨kind,at',lo,hi,most,names,es⟩ K ((es.take (e + 1)).any (inK K)) ((es.take (e + 1)).all (inK K)) (e + 1),(weak_mk ⟨_,rfl⟩ wA rfl rfl rfl (by repeat' (first | exact trivial | exact we_rfl rfl | exact we_bool e5 | exact we_bool e6 | exact we_int (nxt hlt (by omega)) | refine ⟨⟨_,rfl,?_⟩,?_⟩))),es.length - (e + 1),by omega,e + 1,rfl,by omega,rfl⟩
 ·have hge:e=es.length:=by have:=hL;simp [dEds_len] at this;omega
  subst hge
  rw [List.take_length]
  refine br (fun g=>?_) (fun g=>?_)
  ·have g:kind=7:=by simpa using g
   refine (congrArg (fun b=>DV.v (.bool b)) ?_:_=_)
   simp [hvB,g]
  ·have g:¬ kind=7:=by simpa using g
   refine (congrArg (fun b=>DV.v (.bool b)) ?_:_=_)
   simp [hvB,g,h7]
theorem ms_b {bx:List (List DV)} {N n0 m0 n i:Nat} {r:List Bool} (hr:r.length=n) (hN:N≤i) (hb:bx[i]? = some (cB r)):Cc bx N n0 m0 (.sl 1 (dBo r) none) (.ms i 1 0 n n):=by
 simp only [Cc]
 refine Or.inr (Or.inr (Or.inl ⟨i,0,n,_,by rw [dBo_len,hr],hN,hb,?_,?_,?_⟩))
 ·rw [dBo_flat,List.drop_zero,List.take_of_length_le (by rw [cB_len,dBo_len];omega)]
 ·intro x hx
  simp only [dBo,List.mem_map] at hx
  obtain ⟨_,_,rfl⟩:=hx
  rfl
 ·intro x hx
  rw [dBo_flat] at hx
  obtain ⟨_,_,rfl⟩:=List.mem_map.1 hx
  exact ⟨_,rfl⟩
theorem ccL_cN (l:List Nat) (bx:List (List DV)) (N n m:Nat):CcL bx N n m (cN l) (cN l):=by
 induction l with
 | nil=>rfl
 | cons a r ih=>exact ⟨_,_,rfl,rfl,ih⟩
abbrev wG (a b:Nat) (A B:List (List DV)) (ND:List Nd) (z:Int):List DV:=[.sl a A none,.sl b B none,.sl 7 (dNds ND) none,.v (.int .i64 z)]
abbrev rd1St (W:List DV) (O:List Nat) (K:List Bool) (n d:Nat):St:=
 ⟨[(1,⟨[],.loc 0 0⟩),(3,⟨[],.ms 1 1 0 n n⟩),(4,⟨[],.sl 1 (dBo K) none⟩),(5,⟨[],.v (.int .i64 d)⟩)],[W,cN O],[]⟩
abbrev rd2St (W:List DV) (O:List Nat) (K:List Bool) (M:List Bool) (n d e:Nat):St:=
 ⟨[(1,⟨[],.loc 0 0⟩),(3,⟨[],.ms 1 1 0 n n⟩),(4,⟨[],.sl 1 (dBo K) none⟩),(5,⟨[],.v (.int .i64 d)⟩),(6,⟨[],.ms 2 1 0 n n⟩),(7,⟨[],.v (.int .i64 e)⟩)],[W,cN O,cB M],[]⟩
theorem depths19_spec (a b:Nat) (A B:List (List DV)) {ND:List Nd} {L:Nat} (z:Int) (hok:∀ n∈ND,NdOK L ND.length n) (hnl:ND.length≤1099511627776) (hsz:∀ n∈ND,n.edges.length≤1099511627776) :
  EvP Tryz.prog 99 [.agg (wG a b A B ND z)] (.sl 1 (dInts (depN ND ND.length)) none):=by
 have hdl:=dNds_len ND
 refine ev_go (P:=Tryz.prog) tt tt_ok 5000 61 [.tmp 2] Tryz.func99 rfl Tryz.ntmps99 rfl (Nat.le_of_ble_eq_true rfl) (fun E9 w9 hn9 hm9=>?_)
 refine ⟨⟨rfl,by omega,by rw [hdl];omega,by rw [hdl];omega⟩,?_⟩
 refine ⟨⟨rfl,by omega,by rw [hdl];omega,by rw [hdl];omega⟩,?_⟩
 refine loop_w (fun j st=>∃ d:Nat,st=rd1St (wG a b A B ND z) (depN ND d) (posL (depN ND d)) (dNds ND).length (d + 1)∧d≤ND.length∧j=ND.length - d) ND.length (rd1St (wG a b A B ND z) (depN ND 0) (posL (depN ND 0)) (dNds ND).length 1) (.frz 2 rfl rfl ?_ rfl ?_) ⟨0,rfl,by omega,by omega⟩ ?_
 ·refine ⟨_,_,rfl,ax,_,_,rfl,?_,rfl⟩
  rw [repN,hdl]
  exact ccL_cN _ _ _ _ _
 ·refine ⟨⟨_,rfl,(by repeat' (first | exact rfl | exact trivial | exact Or.inr (Or.inl ⟨_,rfl⟩) | exact Or.inr ⟨_,rfl⟩ | exact Or.inl ⟨rfl,rfl⟩ | exact Or.inl rfl | refine Or.inr ⟨_,_,rfl,Nat.zero_le _,rfl,?_⟩ | refine ⟨_,_,rfl,?_,?_⟩ | refine ⟨_,rfl,?_⟩ | exact ⟨Nat.le_of_ble_eq_true rfl,rfl⟩ | refine Or.inr (Or.inr (Or.inr ⟨_,_,rfl,?_⟩)) | exact Or.inl rfl | refine Or.inr ?_))⟩,⟨_,rfl,(by repeat' (first | exact rfl | exact trivial | exact Or.inr (Or.inl ⟨_,rfl⟩) | exact Or.inr ⟨_,rfl⟩ | exact Or.inl ⟨rfl,rfl⟩ | exact Or.inl rfl | refine Or.inr ⟨_,_,rfl,Nat.zero_le _,rfl,?_⟩ | refine ⟨_,_,rfl,?_,?_⟩ | refine ⟨_,rfl,?_⟩ | exact ⟨Nat.le_of_ble_eq_true rfl,rfl⟩ | refine Or.inr (Or.inr (Or.inr ⟨_,_,rfl,?_⟩)) | exact Or.inl rfl | refine Or.inr ?_))⟩,⟨_,rfl,ms_b (by rw [posL_len,depN_len,hdl];omega) (Nat.le_refl _) ?_⟩,⟨_,rfl,ax⟩,trivial⟩
  refine congrArg some ?_
  rw [repB,hdl]
  simp [posL,depN]
 rintro j st ⟨d,rfl,hd,rfl⟩
 have hpl:(posL (depN ND d)).length=ND.length:=by rw [posL_len,depN_len]
 refine br (fun hc=>?_) (fun hc=>?_)
 ·have hlt:d < ND.length:=by have:=hc;simp [hdl] at this;omega
  refine ⟨⟨rfl,by omega,by rw [hdl];omega,by rw [hdl];omega⟩,?_⟩
  refine loop_i (fun j st=>∃ (e:Nat) (O:List Nat) (M:List Bool),st=rd2St (wG a b A B ND z) O (posL (depN ND d)) M (dNds ND).length (d + 1) e∧e≤ND.length∧O.length=ND.length∧M.length=ND.length∧(∀ i:Nat,i < e→O.getD i 0=(depN ND (d + 1)).getD i 0∧M.getD i false=(posL (depN ND (d + 1))).getD i false)∧(∀ i:Nat,e≤i→O.getD i 0=(depN ND d).getD i 0)∧j=ND.length - e) ND.length (rd2St (wG a b A B ND z) (depN ND d) (posL (depN ND d)) (List.replicate ((dNds ND).length:Int).toNat false) (dNds ND).length (d + 1) 0) (weak_b 3 rfl (by repeat' (first | exact rfl | exact we_rfl rfl | exact weL_cN rfl | exact weL_cB (repB _) | refine ⟨_,_,rfl,?_,?_⟩)) rfl rfl rfl (by repeat' (first | exact trivial | exact we_rfl rfl | exact weL_cN rfl | exact weL_cB (repB _) | refine ⟨⟨_,rfl,?_⟩,?_⟩))) ⟨0,_,_,rfl,by omega,by rw [depN_len],by rw [List.length_replicate,hdl];omega,fun i hi=>by omega,fun i _=>rfl,by omega⟩ ?_
  rintro j st ⟨e,O,M,rfl,he,hO,hM,hv1,hv2,rfl⟩
  refine br (fun hL=>?_) (fun hL=>?_)
  ·have hle:e < ND.length:=by have:=hL;simp [hdl] at this;exact this
   obtain ⟨n,hn⟩:∃ n,ND[e]? = some n:=⟨_,List.getElem?_eq_getElem hle⟩
   have hnm:=List.mem_of_getElem? hn
   have h1:=one19_spec (posL (depN ND d)) (by rw [hpl];exact hnl) (n:=n) (by rw [hpl];exact hok n hnm) (hsz n hnm)
   obtain ⟨r1,r2⟩:=depN_ref (fun m hm=>⟨(hok m hm).k8,(hok m hm).bare⟩) d hn
   refine ⟨_,⟨by omega,dNds_get hn⟩,?_⟩
   refine call_p en179 (h1) ax rfl ?_
   have hst:(cB M).set (0 + (e:Int).toNat * 1) (DV.v (.bool (hvB n (posL (depN ND d)))))=cB (M.set e (hvB n (posL (depN ND d)))):=by
    rw [show 0 + (e:Int).toNat * 1=e by omega,cB_set]
   have hld:(cB (M.set e (hvB n (posL (depN ND d)))))[0 + (e:Int).toNat * 1]? = some (DV.v (.bool (hvB n (posL (depN ND d))))):=by
    rw [show 0 + (e:Int).toNat * 1=e by omega]
    exact cB_get (List.getElem?_set_self (by omega))
   obtain ⟨q,hq⟩:∃ q,O[e]? = some q:=⟨_,List.getElem?_eq_getElem (by omega)⟩
   have hqd:(depN ND d).getD e 0=q:=by rw [← hv2 e (Nat.le_refl _),List.getD_eq_getElem?_getD,hq];all_goals rfl
   rw [hqd] at r1
   have hMs:∀ i:Nat,i < e + 1→(M.set e (hvB n (posL (depN ND d)))).getD i false=(posL (depN ND (d + 1))).getD i false:=fun i hi=>by
    by_cases hie:i=e
    ·subst hie
     rw [r2,List.getD_eq_getElem?_getD,List.getElem?_set_self (by omega)];all_goals rfl
    ·rw [List.getD_eq_getElem?_getD,List.getElem?_set_ne (Ne.symm hie),← List.getD_eq_getElem?_getD]
     exact (hv1 i (by omega)).2
   generalize hvB n (posL (depN ND d))=h at hst hld r1 hMs ⊢
   refine ⟨⟨by omega,by rw [hdl];omega⟩,?_⟩
   refine ⟨by rw [cB_len];omega,?_⟩
   refine ⟨⟨by omega,by rw [hdl];omega⟩,?_⟩
   refine ⟨DV.v (.bool h),(by rw [hst];exact hld),?_⟩
   have hOs:∀ v,v=(depN ND (d + 1)).getD e 0→∀ i:Nat,i < e + 1→(O.set e v).getD i 0=(depN ND (d + 1)).getD i 0:=fun v hv i hi=>by
    by_cases hie:i=e
    ·subst hie
     rw [← hv,List.getD_eq_getElem?_getD,List.getElem?_set_self (by omega)];all_goals rfl
    ·rw [List.getD_eq_getElem?_getD,List.getElem?_set_ne (Ne.symm hie),← List.getD_eq_getElem?_getD]
     exact (hv1 i (by omega)).1
   have hOr:∀ v:Nat,∀ i:Nat,e + 1≤i→(O.set e v).getD i 0=(depN ND d).getD i 0:=fun v i hi=>by
    rw [List.getD_eq_getElem?_getD,List.getElem?_set_ne (by omega),← List.getD_eq_getElem?_getD]
    exact hv2 i (by omega)
   have hOq:O.set e q=O:=List.ext_getElem? fun i=>by
    by_cases hie:e=i
    ·subst hie
     rw [List.getElem?_set_self (by omega),hq]
    ·rw [List.getElem?_set_ne hie]
   refine br (fun g=>?_) (fun g=>?_)
   ·have g:h=true:=by simpa using g
    refine ⟨⟨by omega,by rw [hdl];omega⟩,?_⟩
    refine ⟨DV.v (.int .i64 (q:Int)),(by rw [show 0 + (e:Int).toNat * 1=e by omega];exact cN_get hq),?_⟩
    refine br (fun g2=>?_) (fun g2=>?_)
    ·have g2:q=0:=by simpa [pickB,pickD] using g2
     rw [if_pos ⟨g,g2⟩] at r1
     refine ⟨⟨by omega,by rw [hdl];omega⟩,?_⟩
     refine ⟨by rw [cN_len];omega,?_⟩
     have hso:(cN O).set (0 + (e:Int).toNat * 1) (DV.v (.int .i64 ((d + 1:Nat):Int)))=cN (O.set e (d + 1)):=by
      rw [show 0 + (e:Int).toNat * 1=e by omega,cN_set]
     exact ⟨rd2St (wG a b A B ND z) (O.set e (d + 1)) (posL (depN ND d)) (M.set e h) (dNds ND).length (d + 1) (e + 1),(weak_b 3 rfl (by repeat' (first | exact rfl | exact we_rfl rfl | exact weL_cN hso | exact weL_cB hst | exact we_int (nxt hle (by omega)) | refine ⟨_,_,rfl,?_,?_⟩)) rfl rfl rfl (by repeat' (first | exact trivial | exact we_rfl rfl | exact weL_cN hso | exact weL_cB hst | exact we_int (nxt hle (by omega)) | refine ⟨⟨_,rfl,?_⟩,?_⟩))),ND.length - (e + 1),by omega,e + 1,_,_,rfl,by omega,by simp [hO],by rw [List.length_set];exact hM,fun i hi=>⟨hOs _ r1.symm i hi,hMs i hi⟩,hOr (d + 1),rfl⟩
    ·have g2:¬ q=0:=by simpa [pickB,pickD] using g2
     rw [if_neg (fun h=>g2 h.2)] at r1
     exact ⟨rd2St (wG a b A B ND z) (O.set e q) (posL (depN ND d)) (M.set e h) (dNds ND).length (d + 1) (e + 1),(weak_b 3 rfl (by repeat' (first | exact rfl | exact we_rfl rfl | exact weL_cN (by rw [hOq]) | exact weL_cB hst | exact we_int (nxt hle (by omega)) | refine ⟨_,_,rfl,?_,?_⟩)) rfl rfl rfl (by repeat' (first | exact trivial | exact we_rfl rfl | exact weL_cN (by rw [hOq]) | exact weL_cB hst | exact we_int (nxt hle (by omega)) | refine ⟨⟨_,rfl,?_⟩,?_⟩))),ND.length - (e + 1),by omega,e + 1,_,_,rfl,by omega,by simp [hO],by rw [List.length_set];exact hM,fun i hi=>⟨hOs _ r1.symm i hi,hMs i hi⟩,hOr q,rfl⟩
   ·have g:h=false:=by simpa using g
    rw [if_neg (by rw [g];simp)] at r1
    exact ⟨rd2St (wG a b A B ND z) (O.set e q) (posL (depN ND d)) (M.set e h) (dNds ND).length (d + 1) (e + 1),(weak_b 3 rfl (by repeat' (first | exact rfl | exact we_rfl rfl | exact weL_cN (by rw [hOq]) | exact weL_cB hst | exact we_int (nxt hle (by omega)) | refine ⟨_,_,rfl,?_,?_⟩)) rfl rfl rfl (by repeat' (first | exact trivial | exact we_rfl rfl | exact weL_cN (by rw [hOq]) | exact weL_cB hst | exact we_int (nxt hle (by omega)) | refine ⟨⟨_,rfl,?_⟩,?_⟩))),ND.length - (e + 1),by omega,e + 1,_,_,rfl,by omega,by simp [hO],by rw [List.length_set];exact hM,fun i hi=>⟨hOs _ r1.symm i hi,hMs i hi⟩,hOr q,rfl⟩
  ·have hge:e=ND.length:=by have:=hL;simp [hdl] at this;omega
   subst hge
   have hO2:O=depN ND (d + 1):=getD_ext (by rw [hO,depN_len]) fun j=>by
    rcases Nat.lt_or_ge j ND.length with hj | hj
    ·exact (hv1 j hj).1
    ·simp only [List.getD_eq_getElem?_getD]
     rw [List.getElem?_eq_none (by omega),List.getElem?_eq_none (by rw [depN_len];omega)]
   have hM2:M=posL (depN ND (d + 1)):=leB_anti (by rw [hM,posL_len,depN_len]) (fun j hj=>by
     rcases Nat.lt_or_ge j ND.length with h | h
     ·rw [← (hv1 j h).2];exact hj
     ·rw [List.getD_eq_getElem?_getD,List.getElem?_eq_none (by omega)] at hj;cases hj) (fun j hj=>by
     rcases Nat.lt_or_ge j ND.length with h | h
     ·rw [(hv1 j h).2];exact hj
     ·rw [List.getD_eq_getElem?_getD,List.getElem?_eq_none (by rw [posL_len,depN_len];omega)] at hj;cases hj)
   subst hO2 hM2
   refine ⟨rd1St (wG a b A B ND z) (depN ND (d + 1)) (posL (depN ND (d + 1))) (dNds ND).length (d + 1 + 1),.frz 2 rfl rfl ⟨_,_,rfl,ax,_,_,rfl,ccL_cN _ _ _ _ _,rfl⟩ rfl ⟨⟨_,rfl,(by repeat' (first | exact rfl | exact trivial | exact Or.inr (Or.inl ⟨_,rfl⟩) | exact Or.inr ⟨_,rfl⟩ | exact Or.inl ⟨rfl,rfl⟩ | exact Or.inl rfl | refine Or.inr ⟨_,_,rfl,Nat.zero_le _,rfl,?_⟩ | refine ⟨_,_,rfl,?_,?_⟩ | refine ⟨_,rfl,?_⟩ | exact ⟨Nat.le_of_ble_eq_true rfl,rfl⟩ | refine Or.inr (Or.inr (Or.inr ⟨_,_,rfl,?_⟩)) | exact Or.inl rfl | refine Or.inr ?_))⟩,⟨_,rfl,(by repeat' (first | exact rfl | exact trivial | exact Or.inr (Or.inl ⟨_,rfl⟩) | exact Or.inr ⟨_,rfl⟩ | exact Or.inl ⟨rfl,rfl⟩ | exact Or.inl rfl | refine Or.inr ⟨_,_,rfl,Nat.zero_le _,rfl,?_⟩ | refine ⟨_,_,rfl,?_,?_⟩ | refine ⟨_,rfl,?_⟩ | exact ⟨Nat.le_of_ble_eq_true rfl,rfl⟩ | refine Or.inr (Or.inr (Or.inr ⟨_,_,rfl,?_⟩)) | exact Or.inl rfl | refine Or.inr ?_))⟩,⟨_,rfl,ms_b (by rw [posL_len,depN_len,hdl]) (Nat.le_refl _) rfl⟩,⟨_,rfl,?_⟩,trivial⟩,ND.length - (d + 1),by omega,d + 1,rfl,by omega,rfl⟩
   exact congrArg (fun z=>DV.v (Value.int .i64 z)) (nxt (n:=1099511627777) (by omega) (by omega))
 ·have hge:d=ND.length:=by have:=hc;simp [hdl] at this;omega
  subst hge
  exact ⟨_,ms_n (by rw [depN_len,hdl]) (Nat.zero_le _) rfl,rfl⟩
end Go.Proofs.YtbfdbhechmhpoaaGreat
set_option maxRecDepth 100000
namespace Go.Proofs.YtbfdbhechmhpoaaGreat
open Go Go.RowKit Dv Tryz
end Go.Proofs.YtbfdbhechmhpoaaGreat
set_option maxRecDepth 100000
namespace Go.Proofs.YtbfdbhechmhpoaaGreat
open Go Go.RowKit Dv Tryz
def exH (k:Int):Hd:=⟨k,0,0,0,0,[],⟨emptyB,0⟩⟩
end Go.Proofs.YtbfdbhechmhpoaaGreat
set_option maxRecDepth 100000
namespace Go.Proofs.YtbfdbhechmhpoaaGreat
open Go Go.RowKit Dv Tryz
end Go.Proofs.YtbfdbhechmhpoaaGreat
set_option maxRecDepth 100000
namespace Go.Proofs.YtbfdbhechmhpoaaGreat
open Go Go.RowKit Dv Tryz
end Go.Proofs.YtbfdbhechmhpoaaGreat
set_option maxRecDepth 100000
namespace Go.Proofs.YtbfdbhechmhpoaaGreat
open Go Go.RowKit Dv Tryz
end Go.Proofs.YtbfdbhechmhpoaaGreat
set_option maxRecDepth 100000
namespace Go.Proofs.YtbfdbhechmhpoaaGreat
open Go Go.RowKit Dv Tryz
end Go.Proofs.YtbfdbhechmhpoaaGreat
set_option maxRecDepth 100000
namespace Go.Proofs.YtbfdbhechmhpoaaGreat
open Go Go.RowKit Dv Tryz
def rvK (p:List Stp) (e:Nat):List Stp:=(List.range p.length).map fun i=>(if i < e∨p.length - e≤i then p[p.length - 1 - i]? else p[i]?).getD ⟨0,0,emptyB⟩
theorem rvK_len (p:List Stp) (e:Nat):(rvK p e).length=p.length:=by simp [rvK]
theorem rvK_get (p:List Stp) (e i:Nat) (hi:i < p.length):(rvK p e)[i]? = if i < e∨p.length - e≤i then p[p.length - 1 - i]? else p[i]?:=by
 unfold rvK
 rw [List.getElem?_map,List.getElem?_range hi]
 show some _=_
 by_cases c:i < e∨p.length - e≤i
 ·simp only [if_pos c]
  rw [List.getElem?_eq_getElem (show p.length - 1 - i < p.length by omega)]
  rfl
 ·simp only [if_neg c]
  rw [List.getElem?_eq_getElem hi]
  rfl
theorem rvK_zero (p:List Stp):rvK p 0=p:=by
 apply List.ext_getElem?
 intro i
 by_cases hi:i < p.length
 ·rw [rvK_get p 0 i hi,if_neg (by omega)]
 ·rw [List.getElem?_eq_none (by rw [rvK_len];omega),List.getElem?_eq_none (by omega)]
theorem rvK_end (p:List Stp) (e:Nat) (h:p.length≤2 * e + 1) (he:e≤p.length):rvK p e=p.reverse:=by
 apply List.ext_getElem?
 intro i
 by_cases hi:i < p.length
 ·rw [rvK_get p e i hi,List.getElem?_reverse hi]
  split
  ·rfl
  ·rename_i c
   rw [show i=p.length - 1 - i by omega]
   congr 1
   omega
 ·rw [List.getElem?_eq_none (by rw [rvK_len];omega),List.getElem?_eq_none (by rw [List.length_reverse];omega)]
theorem rvK_succ (p:List Stp) (e:Nat) (h:2 * e + 1 < p.length) {x y:Stp} (hx:p[p.length - 1 - e]? = some x) (hy:p[e]? = some y):((rvK p e).set e x).set (p.length - 1 - e) y=rvK p (e + 1):=by
 apply List.ext_getElem?
 intro i
 by_cases hi:i < p.length
 ·rw [rvK_get p (e + 1) i hi,List.getElem?_set,List.getElem?_set,rvK_get p e i hi,List.length_set,rvK_len]
  by_cases c1:p.length - 1 - e=i
  ·subst c1
   rw [if_pos rfl,if_pos hi,if_pos (by omega),← hy]
   congr 1
   omega
  ·rw [if_neg c1]
   by_cases c2:e=i
   ·subst c2
    rw [if_pos rfl,if_pos hi,if_pos (by omega),hx]
   ·rw [if_neg c2]
    by_cases c3:i < e∨p.length - e≤i
    ·rw [if_pos c3,if_pos (by omega)]
    ·rw [if_neg c3,if_neg (by omega)]
 ·rw [List.getElem?_eq_none (by rw [List.length_set,List.length_set,rvK_len];omega),List.getElem?_eq_none (by rw [rvK_len];omega)]
theorem rvK_at (p:List Stp) (e:Nat) (h:2 * e + 1 < p.length):(rvK p e)[e]? = p[e]? ∧ (rvK p e)[p.length - 1 - e]? = p[p.length - 1 - e]?:=by
 rw [rvK_get p e e (by omega),rvK_get p e (p.length - 1 - e) (by omega),if_neg (by omega),if_neg (by omega)]
 exact ⟨rfl,rfl⟩
theorem stp_set:∀ (L:List Stp) (i:Nat) (x:Stp),i < L.length→(dStps L).flatten.take (i * 3) ++ dStp x ++ (dStps L).flatten.drop (i * 3 + 3)=(dStps (L.set i x)).flatten
 | [],i,x,h=>by simp at h
 | y :: L,0,x,_=>by
  show ([]:List DV) ++ dStp x ++ ((dStp y ++ (dStps L).flatten).drop 3)=dStp x ++ (dStps L).flatten
  rfl
 | y :: L,i + 1,x,h=>by
  have:=stp_set L i x (by simpa using h)
  show (dStp y ++ (dStps L).flatten).take ((i + 1) * 3) ++ dStp x ++ (dStp y ++ (dStps L).flatten).drop ((i + 1) * 3 + 3)=dStp y ++ (dStps (L.set i x)).flatten
  rw [← this]
  have h3:(dStp y).length=3:=rfl
  rw [List.take_append,List.drop_append,h3,show (i + 1) * 3 - 3=i * 3 by omega,show (i + 1) * 3 + 3 - 3=i * 3 + 3 by omega,List.take_of_length_le (by rw [h3];omega),List.drop_of_length_le (by rw [h3];omega)]
  simp
theorem stp_flat:∀ {L:List Stp} {k:Nat} {x:Stp},L[k]? = some x→((dStps L).flatten.drop (k * 3)).take 3=dStp x∧3≤((dStps L).flatten.drop (k * 3)).length
 | [],_,_,h=>by simp at h
 | y :: L,0,x,h=>by
  simp only [List.getElem?_cons_zero,Option.some.injEq] at h
  subst h
  exact ⟨rfl,by show 3≤(dStp y ++ (dStps L).flatten).length;rw [List.length_append];exact Nat.le_add_right 3 _⟩
 | y :: L,k + 1,x,h=>by
  have:=stp_flat (L:=L) (k:=k) (x:=x) (by simpa using h)
  have h3:(dStp y).length=3:=rfl
  show ((dStp y ++ (dStps L).flatten).drop ((k + 1) * 3)).take 3=_∧3≤((dStp y ++ (dStps L).flatten).drop ((k + 1) * 3)).length
  rw [List.drop_append,h3,show (k + 1) * 3 - 3=k * 3 by omega,List.drop_of_length_le (l:=dStp y) (by rw [h3];omega),List.nil_append]
  exact this
theorem stp_cells {L:List Stp} {k:Nat} {x:Stp} (h:L[k]? = some x):cellsT tt 167 (dStps L).flatten ((k:Int).toNat * 3)=some (.agg (dStp x)):=by
 have hf:∃ a b,tt.find 167=some ⟨3,true,a,b⟩:=⟨_,_,rfl⟩
 obtain ⟨a,b,hf⟩:=hf
 unfold cellsT
 rw [hf]
 simp only
 rw [takeF_eq,Int.toNat_natCast,(stp_flat h).1]
 rfl
abbrev rvSt (n:Nat) (cs:List DV) (i:Nat) (j:Nat):St:=⟨[(0,⟨[],.sl 0 (List.replicate n []) (some 0)⟩),(2,⟨[],.v (.int .i64 i)⟩),(3,⟨[],.v (.int .i64 j)⟩)],[],[⟨n,167,3,some cs⟩]⟩
theorem reverse_spec (p:List Stp) (hne:p ≠ []) (hl:p.length≤1099511627776):Ev Tryz.prog 116 [.sl 0 (List.replicate p.length []) (some 0)] [] [⟨p.length,167,3,some (dStps p).flatten⟩] (fun _ _ tk=>tk=[⟨p.length,167,3,some (dStps p.reverse).flatten⟩]):=by
 have hpos:0 < p.length:=List.length_pos_iff.2 hne
 have hrep:(List.replicate p.length ([]:List DV)).length=p.length:=List.length_replicate
 refine ev_go (P:=Tryz.prog) tt tt_ok 5000 28 [] Tryz.func116 rfl Tryz.ntmps116 rfl (Nat.le_of_ble_eq_true rfl) (fun E9 w9 hn9 hm9=>?_)
 have hj:IntKind.i64.wrap ((p.length:Int) - 1)=((p.length - 1:Nat):Int):=by
  rw [wrap64 (by omega) (by omega)]
  omega
 have hj':IntKind.i64.wrap (((List.replicate p.length ([]:List DV)).length:Int) - 1)=((p.length - 1:Nat):Int):=by rw [hrep];exact hj
 refine loop_i (fun t st=>∃ (e:Nat) (cs:List DV),st=rvSt p.length cs e (p.length - 1 - e)∧cs=(dStps (rvK p e)).flatten∧2 * e≤p.length∧t=p.length - 2 * e) p.length (rvSt p.length (dStps p).flatten 0 (p.length - 1)) (weak_mk ⟨_,rfl⟩ wA rfl rfl rfl (by repeat' (first | exact trivial | exact we_rfl rfl | exact we_int hj' | refine ⟨⟨_,rfl,?_⟩,?_⟩))) ⟨0,_,rfl,by rw [rvK_zero],by omega,by omega⟩ ?_
 rintro t st ⟨e,cs,rfl,hcs,he,rfl⟩
 refine br (fun hLt=>?_) (fun hLt=>?_)
 rotate_left
 ·have hge:p.length≤2 * e + 1:=by have:=of_decide_eq_false hLt;omega
  rw [rvK_end p e hge (by omega)] at hcs
  subst hcs
  exact ⟨.tup [],[],ax,rfl,rfl⟩
 have hlt:2 * e + 1 < p.length:=by have:=of_decide_eq_true hLt;omega
 obtain ⟨hA,hB⟩:=rvK_at p e hlt
 obtain ⟨x,hx⟩:∃ x,p[p.length - 1 - e]? = some x:=⟨_,List.getElem?_eq_getElem (by omega)⟩
 obtain ⟨y,hy⟩:∃ y,p[e]? = some y:=⟨_,List.getElem?_eq_getElem (by omega)⟩
 have hsuc:=rvK_succ p e hlt hx hy
 rw [hx] at hB
 rw [hy] at hA
 have hcx:=stp_cells hB
 have hcy:=stp_cells hA
 have hs1:=stp_set (rvK p e) e x (by rw [rvK_len];omega)
 have hs2:=stp_set ((rvK p e).set e x) (p.length - 1 - e) y (by rw [List.length_set,rvK_len];omega)
 rw [hsuc] at hs2
 rw [← hcs] at hcx hcy hs1
 obtain ⟨xk,xn,xs⟩:=x
 obtain ⟨yk,yn,ys⟩:=y
 intro E a w hr
 have hr':=drew_rel hr
 refine wp_region_run (C:=fun w'=>w'=w.drew) (W:=fun i=>Nat.beq i 13 || Nat.beq i 15) (Q:=fun a w=>kq _ _ .normal a w) mo (by decide +kernel) (fun _ _ h=>h) rfl ?_
 show Go.Proofs.YtbfdbhechmhpoaaGreat.Dv.runT _ _ _ _ _ [0,1,2,3,4,5,6,7,8,9,10,11,12,13,14,15] _ _
 refine runT_np hr' rfl rfl rfl rfl rfl rfl (fun a0 h0=>?_)
 refine runT_np h0 rfl rfl rfl rfl rfl rfl (fun a1 h1=>?_)
 refine runT_np h1 rfl rfl rfl rfl rfl rfl (fun a2 h2=>?_)
 refine runT_np h2 rfl rfl rfl rfl rfl rfl (fun a3 h3=>?_)
 refine runT_np h3 rfl rfl rfl rfl rfl rfl (fun a4 h4=>?_)
 refine runT_np h4 rfl rfl rfl rfl rfl rfl (fun a5 h5=>?_)
 refine runT_own_ld (kt:=0) h5 rfl rfl ⟨rfl,rfl,rfl⟩ ⟨rfl,rfl,rfl⟩ rfl rfl rfl rfl rfl rfl hrep ⟨by omega,by omega⟩ hcx (fun _ h=>h) rfl (fun a7 h7=>?_)
 refine runT_np h7 rfl rfl rfl rfl rfl rfl (fun a8 h8=>?_)
 refine runT_np h8 rfl rfl rfl rfl rfl rfl (fun a9 h9=>?_)
 refine runT_own_ld (kt:=0) h9 rfl rfl ⟨rfl,rfl,rfl⟩ ⟨rfl,rfl,rfl⟩ rfl rfl rfl rfl rfl rfl hrep ⟨by omega,by omega⟩ hcy (fun _ h=>h) rfl (fun a11 h11=>?_)
 refine runT_own_st (kt:=0) h11 rfl rfl ⟨rfl,rfl,rfl⟩ ⟨rfl,rfl,rfl⟩ rfl rfl rfl rfl rfl rfl (Nat.succ_pos 2) rfl rfl rfl hrep ⟨by omega,by omega⟩ rfl (fun a13 E13 w13 h13=>?_)
 refine runT_own_st (kt:=0) h13 rfl rfl ⟨rfl,rfl,rfl⟩ ⟨rfl,rfl,rfl⟩ rfl rfl rfl rfl rfl rfl (Nat.succ_pos 2) rfl rfl rfl hrep ⟨by omega,by omega⟩ rfl (fun a15 E15 w15 h15=>?_)
 refine go_sound 4000 _ _ ?_ E15 a15 w15 h15
 have hw1:IntKind.i64.wrap (((p.length - 1 - e:Nat):Int) - 1)=((p.length - 1 - (e + 1):Nat):Int):=by
  rw [wrap64 (by omega) (by omega)]
  omega
 have hw2:IntKind.i64.wrap ((e:Int) + 1)=((e + 1:Nat):Int):=by
  rw [wrap64 (by omega) (by omega)]
  omega
 generalize hc1:cs.take (e * 3) ++ dStp ⟨xk,xn,xs⟩ ++ cs.drop (e * 3 + 3)=c1 at hs1
 have hc2:c1.take ((p.length - 1 - e) * 3) ++ dStp ⟨yk,yn,ys⟩ ++ c1.drop ((p.length - 1 - e) * 3 + 3)=(dStps (rvK p (e + 1))).flatten:=by
  rw [hs1]
  exact hs2
 rw [← hc1] at hc2
 exact ⟨rvSt p.length ((cs.take (e * 3) ++ dStp ⟨xk,xn,xs⟩ ++ cs.drop (e * 3 + 3)).take ((p.length - 1 - e) * 3) ++ dStp ⟨yk,yn,ys⟩ ++ (cs.take (e * 3) ++ dStp ⟨xk,xn,xs⟩ ++ cs.drop (e * 3 + 3)).drop ((p.length - 1 - e) * 3 + 3)) (e + 1) (p.length - 1 - (e + 1)),(weak_mk ⟨_,rfl⟩ wA rfl rfl rfl (by repeat' (first | exact trivial | exact we_rfl rfl | exact we_int hw2 | exact we_int hw1 | refine ⟨⟨_,rfl,?_⟩,?_⟩))),p.length - 2 * (e + 1),by omega,e + 1,_,rfl,hc2,by omega,rfl⟩
end Go.Proofs.YtbfdbhechmhpoaaGreat
set_option maxRecDepth 100000
namespace Go.Proofs.YtbfdbhechmhpoaaGreat
open Go Go.RowKit Dv Tryz
def floorV (n u:Int):Int × Bool:=if u < 1 then (0,false) else if n - n % u < -9223372036854775808 then (0,false) else (n - n % u,true)
def floorD (r:Int × Bool):DV:=.tup [.v (.int .i64 r.1),.v (.bool r.2)]
theorem tmod_fix {n u:Int} (hu:1≤u):(n.tmod u < 0→n.tmod u + u=n % u)∧(¬ n.tmod u < 0→n.tmod u=n % u):=by
 have h1:=Int.emod_nonneg n (show u≠0 by omega)
 have h2:=Int.emod_lt_of_pos n (show 0 < u by omega)
 have h3:=Int.tmod_eq_emod (a:=n) (b:=u)
 have h4:(u.natAbs:Int)=u:=Int.natAbs_of_nonneg (by omega)
 rw [h3]
 split<;>omega
theorem floor_spec (n u:Int) (hn : -9223372036854775808≤n∧n≤9223372036854775807) (hu : -9223372036854775808≤u∧u≤9223372036854775807):EvP Tryz.prog 261 [.v (.int .i64 n),.v (.int .i64 u)] (floorD (floorV n u)):=by
 have hF:floorV n u=if u < 1 then (0,false) else if n - n % u < -9223372036854775808 then (0,false) else (n - n % u,true):=rfl
 generalize floorV n u=F at hF ⊢
 refine ev_go (P:=Tryz.prog) tt tt_ok 5000 24 [.tmp 4,.tmp 5] Tryz.func261 rfl Tryz.ntmps261 rfl (Nat.le_of_ble_eq_true rfl) (fun E9 w9 hn9 hm9=>?_)
 refine br (fun c=>?_) (fun c=>?_)
 ·have c:u < 1:=by simpa using c
  rw [if_pos c] at hF
  subst hF
  exact ⟨_,ax,rfl⟩
 have c:¬ u < 1:=by simpa using c
 rw [if_neg c] at hF
 have hm:=tmod_fix (n:=n) (u:=u) (by omega)
 have h1:=Int.emod_nonneg n (show u≠0 by omega)
 have h2:=Int.emod_lt_of_pos n (show 0 < u by omega)
 have h5 : -u≤n.tmod u∧n.tmod u < u:=by
  rcases Int.lt_or_le (n.tmod u) 0 with h | h
  ·have:=hm.1 h;omega
  ·have:=hm.2 (by omega);omega
 have hw3:IntKind.i64.wrap (-9223372036854775808 + n % u) = -9223372036854775808 + n % u:=wrap64 (by omega) (by omega)
 refine ⟨⟨rfl,by omega⟩,?_⟩
 refine br (fun g=>?_) (fun g=>?_)
 ·have g:n.tmod u < 0:=by simpa using g
  have hw2:IntKind.i64.wrap (n.tmod u + u)=n % u:=by rw [hm.1 g];exact wrap64 (by omega) (by omega)
  refine br (fun h=>?_) (fun h=>?_)
  ·have h:n < IntKind.i64.wrap (-9223372036854775808 + IntKind.i64.wrap (n.tmod u + u)):=by simpa using h
   rw [hw2,hw3] at h
   rw [if_pos (by omega)] at hF
   subst hF
   exact ⟨_,ax,rfl⟩
  ·have h:¬ n < IntKind.i64.wrap (-9223372036854775808 + IntKind.i64.wrap (n.tmod u + u)):=by simpa using h
   rw [hw2,hw3] at h
   rw [if_neg (by omega)] at hF
   have hw4:IntKind.i64.wrap (n - IntKind.i64.wrap (n.tmod u + u))=n - n % u:=by rw [hw2];exact wrap64 (by omega) (by omega)
   refine ⟨.tup [.v (.int .i64 (IntKind.i64.wrap (n - IntKind.i64.wrap (n.tmod u + u)))),.v (.bool true)],ax,?_⟩
   rw [hF]
   exact congrArg (fun z=>DV.tup [.v (.int .i64 z),.v (.bool true)]) hw4
 ·have g:¬ n.tmod u < 0:=by simpa using g
  have hw2:n.tmod u=n % u:=hm.2 g
  refine br (fun h=>?_) (fun h=>?_)
  ·have h:n < IntKind.i64.wrap (-9223372036854775808 + n.tmod u):=by simpa using h
   rw [hw2,hw3] at h
   rw [if_pos (by omega)] at hF
   subst hF
   exact ⟨_,ax,rfl⟩
  ·have h:¬ n < IntKind.i64.wrap (-9223372036854775808 + n.tmod u):=by simpa using h
   rw [hw2,hw3] at h
   rw [if_neg (by omega)] at hF
   have hw4:IntKind.i64.wrap (n - n.tmod u)=n - n % u:=by rw [hw2];exact wrap64 (by omega) (by omega)
   refine ⟨.tup [.v (.int .i64 (IntKind.i64.wrap (n - n.tmod u))),.v (.bool true)],ax,?_⟩
   rw [hF]
   exact congrArg (fun z=>DV.tup [.v (.int .i64 z),.v (.bool true)]) hw4
end Go.Proofs.YtbfdbhechmhpoaaGreat
set_option maxRecDepth 100000
namespace Go.Proofs.YtbfdbhechmhpoaaGreat
open Go Go.RowKit Dv Tryz
def leadN (c:Nat):Nat:=if c < 128 then 1 else if 194≤c∧c≤223 then 2 else if 224≤c∧c≤239 then 3 else if 240≤c∧c≤244 then 4 else 0
def leadL (c:Nat):Nat:=if c=224 then 160 else if c=240 then 144 else 128
def leadH (c:Nat):Nat:=if c=237 then 159 else if c=244 then 143 else 191
theorem lead_spec (c:Nat):EvP Tryz.prog 333 [.v (.int .u8 c)] (.tup [.v (.int .i64 (leadN c:Nat)),.v (.int .u8 (leadL c:Nat)),.v (.int .u8 (leadH c:Nat))]):=by
 have hN:leadN c=if c < 128 then 1 else if 194≤c∧c≤223 then 2 else if 224≤c∧c≤239 then 3 else if 240≤c∧c≤244 then 4 else 0:=rfl
 have hL:leadL c=if c=224 then 160 else if c=240 then 144 else 128:=rfl
 have hH:leadH c=if c=237 then 159 else if c=244 then 143 else 191:=rfl
 generalize leadN c=N at hN ⊢
 generalize leadL c=L at hL ⊢
 generalize leadH c=H at hH ⊢
 refine ev_go (P:=Tryz.prog) tt tt_ok 5000 41 [.tmp 2,.tmp 3,.tmp 4] Tryz.func333 rfl Tryz.ntmps333 rfl (Nat.le_of_ble_eq_true rfl) (fun E9 w9 hn9 hm9=>?_)
 refine br (fun c1=>?_) (fun c1=>?_)
 ·have c1:(c:Int) < 128:=by simpa using c1
  refine br (fun g=>?_) (fun g=>?_)
  ·have g:(c:Int)=224:=by simpa using g
   have hn:N=1:=by
    rw [hN]
    repeat' split
    all_goals omega
   have hl:L=160:=by
    rw [hL]
    repeat' split
    all_goals omega
   have hh:H=191:=by
    rw [hH]
    repeat' split
    all_goals omega
   rw [hn,hl,hh]
   exact ⟨_,ax,rfl⟩
  have g224:¬ (c:Int)=224:=by simpa using g
  refine br (fun g=>?_) (fun g=>?_)
  ·have g:(c:Int)=237:=by simpa using g
   have hn:N=1:=by
    rw [hN]
    repeat' split
    all_goals omega
   have hl:L=128:=by
    rw [hL]
    repeat' split
    all_goals omega
   have hh:H=159:=by
    rw [hH]
    repeat' split
    all_goals omega
   rw [hn,hl,hh]
   exact ⟨_,ax,rfl⟩
  have g237:¬ (c:Int)=237:=by simpa using g
  refine br (fun g=>?_) (fun g=>?_)
  ·have g:(c:Int)=240:=by simpa using g
   have hn:N=1:=by
    rw [hN]
    repeat' split
    all_goals omega
   have hl:L=144:=by
    rw [hL]
    repeat' split
    all_goals omega
   have hh:H=191:=by
    rw [hH]
    repeat' split
    all_goals omega
   rw [hn,hl,hh]
   exact ⟨_,ax,rfl⟩
  have g240:¬ (c:Int)=240:=by simpa using g
  refine br (fun g=>?_) (fun g=>?_)
  ·have g:(c:Int)=244:=by simpa using g
   have hn:N=1:=by
    rw [hN]
    repeat' split
    all_goals omega
   have hl:L=128:=by
    rw [hL]
    repeat' split
    all_goals omega
   have hh:H=143:=by
    rw [hH]
    repeat' split
    all_goals omega
   rw [hn,hl,hh]
   exact ⟨_,ax,rfl⟩
  have g244:¬ (c:Int)=244:=by simpa using g
  have hn:N=1:=by
   rw [hN]
   repeat' split
   all_goals omega
  have hl:L=128:=by
   rw [hL]
   repeat' split
   all_goals omega
  have hh:H=191:=by
   rw [hH]
   repeat' split
   all_goals omega
  rw [hn,hl,hh]
  exact ⟨_,ax,rfl⟩
 have c1:¬ (c:Int) < 128:=by simpa using c1
 refine br (fun k=>?_) (fun k=>?_)
 ·have k:194≤(c:Int)∧(c:Int)≤223:=by simpa [pickB_and] using k
  refine br (fun g=>?_) (fun g=>?_)
  ·have g:(c:Int)=224:=by simpa using g
   have hn:N=2:=by
    rw [hN]
    repeat' split
    all_goals omega
   have hl:L=160:=by
    rw [hL]
    repeat' split
    all_goals omega
   have hh:H=191:=by
    rw [hH]
    repeat' split
    all_goals omega
   rw [hn,hl,hh]
   exact ⟨_,ax,rfl⟩
  have g224:¬ (c:Int)=224:=by simpa using g
  refine br (fun g=>?_) (fun g=>?_)
  ·have g:(c:Int)=237:=by simpa using g
   have hn:N=2:=by
    rw [hN]
    repeat' split
    all_goals omega
   have hl:L=128:=by
    rw [hL]
    repeat' split
    all_goals omega
   have hh:H=159:=by
    rw [hH]
    repeat' split
    all_goals omega
   rw [hn,hl,hh]
   exact ⟨_,ax,rfl⟩
  have g237:¬ (c:Int)=237:=by simpa using g
  refine br (fun g=>?_) (fun g=>?_)
  ·have g:(c:Int)=240:=by simpa using g
   have hn:N=2:=by
    rw [hN]
    repeat' split
    all_goals omega
   have hl:L=144:=by
    rw [hL]
    repeat' split
    all_goals omega
   have hh:H=191:=by
    rw [hH]
    repeat' split
    all_goals omega
   rw [hn,hl,hh]
   exact ⟨_,ax,rfl⟩
  have g240:¬ (c:Int)=240:=by simpa using g
  refine br (fun g=>?_) (fun g=>?_)
  ·have g:(c:Int)=244:=by simpa using g
   have hn:N=2:=by
    rw [hN]
    repeat' split
    all_goals omega
   have hl:L=128:=by
    rw [hL]
    repeat' split
    all_goals omega
   have hh:H=143:=by
    rw [hH]
    repeat' split
    all_goals omega
   rw [hn,hl,hh]
   exact ⟨_,ax,rfl⟩
  have g244:¬ (c:Int)=244:=by simpa using g
  have hn:N=2:=by
   rw [hN]
   repeat' split
   all_goals omega
  have hl:L=128:=by
   rw [hL]
   repeat' split
   all_goals omega
  have hh:H=191:=by
   rw [hH]
   repeat' split
   all_goals omega
  rw [hn,hl,hh]
  exact ⟨_,ax,rfl⟩
 have k194:¬ (194≤(c:Int)∧(c:Int)≤223):=by simpa [pickB_and] using k
 refine br (fun k=>?_) (fun k=>?_)
 ·have k:224≤(c:Int)∧(c:Int)≤239:=by simpa [pickB_and] using k
  refine br (fun g=>?_) (fun g=>?_)
  ·have g:(c:Int)=224:=by simpa using g
   have hn:N=3:=by
    rw [hN]
    repeat' split
    all_goals omega
   have hl:L=160:=by
    rw [hL]
    repeat' split
    all_goals omega
   have hh:H=191:=by
    rw [hH]
    repeat' split
    all_goals omega
   rw [hn,hl,hh]
   exact ⟨_,ax,rfl⟩
  have g224:¬ (c:Int)=224:=by simpa using g
  refine br (fun g=>?_) (fun g=>?_)
  ·have g:(c:Int)=237:=by simpa using g
   have hn:N=3:=by
    rw [hN]
    repeat' split
    all_goals omega
   have hl:L=128:=by
    rw [hL]
    repeat' split
    all_goals omega
   have hh:H=159:=by
    rw [hH]
    repeat' split
    all_goals omega
   rw [hn,hl,hh]
   exact ⟨_,ax,rfl⟩
  have g237:¬ (c:Int)=237:=by simpa using g
  refine br (fun g=>?_) (fun g=>?_)
  ·have g:(c:Int)=240:=by simpa using g
   have hn:N=3:=by
    rw [hN]
    repeat' split
    all_goals omega
   have hl:L=144:=by
    rw [hL]
    repeat' split
    all_goals omega
   have hh:H=191:=by
    rw [hH]
    repeat' split
    all_goals omega
   rw [hn,hl,hh]
   exact ⟨_,ax,rfl⟩
  have g240:¬ (c:Int)=240:=by simpa using g
  refine br (fun g=>?_) (fun g=>?_)
  ·have g:(c:Int)=244:=by simpa using g
   have hn:N=3:=by
    rw [hN]
    repeat' split
    all_goals omega
   have hl:L=128:=by
    rw [hL]
    repeat' split
    all_goals omega
   have hh:H=143:=by
    rw [hH]
    repeat' split
    all_goals omega
   rw [hn,hl,hh]
   exact ⟨_,ax,rfl⟩
  have g244:¬ (c:Int)=244:=by simpa using g
  have hn:N=3:=by
   rw [hN]
   repeat' split
   all_goals omega
  have hl:L=128:=by
   rw [hL]
   repeat' split
   all_goals omega
  have hh:H=191:=by
   rw [hH]
   repeat' split
   all_goals omega
  rw [hn,hl,hh]
  exact ⟨_,ax,rfl⟩
 have k224:¬ (224≤(c:Int)∧(c:Int)≤239):=by simpa [pickB_and] using k
 refine br (fun k=>?_) (fun k=>?_)
 ·have k:240≤(c:Int)∧(c:Int)≤244:=by simpa [pickB_and] using k
  refine br (fun g=>?_) (fun g=>?_)
  ·have g:(c:Int)=224:=by simpa using g
   have hn:N=4:=by
    rw [hN]
    repeat' split
    all_goals omega
   have hl:L=160:=by
    rw [hL]
    repeat' split
    all_goals omega
   have hh:H=191:=by
    rw [hH]
    repeat' split
    all_goals omega
   rw [hn,hl,hh]
   exact ⟨_,ax,rfl⟩
  have g224:¬ (c:Int)=224:=by simpa using g
  refine br (fun g=>?_) (fun g=>?_)
  ·have g:(c:Int)=237:=by simpa using g
   have hn:N=4:=by
    rw [hN]
    repeat' split
    all_goals omega
   have hl:L=128:=by
    rw [hL]
    repeat' split
    all_goals omega
   have hh:H=159:=by
    rw [hH]
    repeat' split
    all_goals omega
   rw [hn,hl,hh]
   exact ⟨_,ax,rfl⟩
  have g237:¬ (c:Int)=237:=by simpa using g
  refine br (fun g=>?_) (fun g=>?_)
  ·have g:(c:Int)=240:=by simpa using g
   have hn:N=4:=by
    rw [hN]
    repeat' split
    all_goals omega
   have hl:L=144:=by
    rw [hL]
    repeat' split
    all_goals omega
   have hh:H=191:=by
    rw [hH]
    repeat' split
    all_goals omega
   rw [hn,hl,hh]
   exact ⟨_,ax,rfl⟩
  have g240:¬ (c:Int)=240:=by simpa using g
  refine br (fun g=>?_) (fun g=>?_)
  ·have g:(c:Int)=244:=by simpa using g
   have hn:N=4:=by
    rw [hN]
    repeat' split
    all_goals omega
   have hl:L=128:=by
    rw [hL]
    repeat' split
    all_goals omega
   have hh:H=143:=by
    rw [hH]
    repeat' split
    all_goals omega
   rw [hn,hl,hh]
   exact ⟨_,ax,rfl⟩
  have g244:¬ (c:Int)=244:=by simpa using g
  have hn:N=4:=by
   rw [hN]
   repeat' split
   all_goals omega
  have hl:L=128:=by
   rw [hL]
   repeat' split
   all_goals omega
  have hh:H=191:=by
   rw [hH]
   repeat' split
   all_goals omega
  rw [hn,hl,hh]
  exact ⟨_,ax,rfl⟩
 have k240:¬ (240≤(c:Int)∧(c:Int)≤244):=by simpa [pickB_and] using k
 refine br (fun g=>?_) (fun g=>?_)
 ·have g:(c:Int)=224:=by simpa using g
  have hn:N=0:=by
   rw [hN]
   repeat' split
   all_goals omega
  have hl:L=160:=by
   rw [hL]
   repeat' split
   all_goals omega
  have hh:H=191:=by
   rw [hH]
   repeat' split
   all_goals omega
  rw [hn,hl,hh]
  exact ⟨_,ax,rfl⟩
 have g224:¬ (c:Int)=224:=by simpa using g
 refine br (fun g=>?_) (fun g=>?_)
 ·have g:(c:Int)=237:=by simpa using g
  have hn:N=0:=by
   rw [hN]
   repeat' split
   all_goals omega
  have hl:L=128:=by
   rw [hL]
   repeat' split
   all_goals omega
  have hh:H=159:=by
   rw [hH]
   repeat' split
   all_goals omega
  rw [hn,hl,hh]
  exact ⟨_,ax,rfl⟩
 have g237:¬ (c:Int)=237:=by simpa using g
 refine br (fun g=>?_) (fun g=>?_)
 ·have g:(c:Int)=240:=by simpa using g
  have hn:N=0:=by
   rw [hN]
   repeat' split
   all_goals omega
  have hl:L=144:=by
   rw [hL]
   repeat' split
   all_goals omega
  have hh:H=191:=by
   rw [hH]
   repeat' split
   all_goals omega
  rw [hn,hl,hh]
  exact ⟨_,ax,rfl⟩
 have g240:¬ (c:Int)=240:=by simpa using g
 refine br (fun g=>?_) (fun g=>?_)
 ·have g:(c:Int)=244:=by simpa using g
  have hn:N=0:=by
   rw [hN]
   repeat' split
   all_goals omega
  have hl:L=128:=by
   rw [hL]
   repeat' split
   all_goals omega
  have hh:H=143:=by
   rw [hH]
   repeat' split
   all_goals omega
  rw [hn,hl,hh]
  exact ⟨_,ax,rfl⟩
 have g244:¬ (c:Int)=244:=by simpa using g
 have hn:N=0:=by
  rw [hN]
  repeat' split
  all_goals omega
 have hl:L=128:=by
  rw [hL]
  repeat' split
  all_goals omega
 have hh:H=191:=by
  rw [hH]
  repeat' split
  all_goals omega
 rw [hn,hl,hh]
 exact ⟨_,ax,rfl⟩
theorem value_spec (s:ByteArray) (h:1≤s.size∧s.size≤4):Ev Tryz.prog 334 [.v (.string s)] [] [] (fun r _ _=>∃ z:Int,r = .v (.int .i32 z)):=by
 refine ev_go (P:=Tryz.prog) tt tt_ok 5000 57 [.tmp 2] Tryz.func334 rfl Tryz.ntmps334 rfl (Nat.le_of_ble_eq_true rfl) (fun E9 w9 hn9 hm9=>?_)
 refine br (fun c1=>?_) (fun c1=>?_)
 ·refine ⟨⟨by omega,by omega⟩,?_⟩
  exact ⟨_,rfl⟩
 ·refine drawG_i (fun _=>false) mo (by decide +kernel) ?_
  refine ⟨⟨by omega,by omega⟩,?_⟩
  have hw7:IntKind.i64.wrap (7 - (s.size:Int))=7 - s.size:=wrap64 (by omega) (by omega)
  have hw2:IntKind.i64.wrap (1 + 1)=2:=rfl
  have hw3:IntKind.i64.wrap (IntKind.i64.wrap (1 + 1) + 1)=3:=rfl
  have c1:¬ s.size=1:=by
   have:=of_decide_eq_false c1
   omega
  refine ⟨by rw [hw7];omega,?_⟩
  refine br (fun c4=>?_) (fun c4=>?_)
  ·have c4:s.size=4:=by have:=of_decide_eq_true c4;omega
   refine ⟨by omega,?_⟩
   refine ⟨⟨by first | omega | (rw [hw2];omega),by first | omega | (rw [hw2];omega)⟩,?_⟩
   refine ⟨by omega,?_⟩
   refine ⟨⟨by first | omega | (rw [hw2];omega),by first | omega | (rw [hw2];omega)⟩,?_⟩
   refine ⟨by omega,?_⟩
   refine ⟨⟨by first | omega | (rw [hw3];omega),by first | omega | (rw [hw3];omega)⟩,?_⟩
   exact ⟨_,rfl⟩
  have c4:¬ s.size=4:=by have:=of_decide_eq_false c4;omega
  refine br (fun c3=>?_) (fun c3=>?_)
  ·have c3:s.size=3:=by have:=of_decide_eq_true c3;omega
   refine ⟨by omega,?_⟩
   refine ⟨⟨by first | omega | (rw [hw2];omega),by first | omega | (rw [hw2];omega)⟩,?_⟩
   refine ⟨by omega,?_⟩
   refine ⟨⟨by first | omega | (rw [hw2];omega),by first | omega | (rw [hw2];omega)⟩,?_⟩
   exact ⟨_,rfl⟩
  have c3:¬ s.size=3:=by have:=of_decide_eq_false c3;omega
  refine br (fun c2=>?_) (fun c2=>?_)
  ·have c2:s.size=2:=by have:=of_decide_eq_true c2;omega
   refine ⟨by omega,?_⟩
   refine ⟨⟨by first | omega | (rw [hw2];omega),by first | omega | (rw [hw2];omega)⟩,?_⟩
   exact ⟨_,rfl⟩
  ·exfalso
   have:=of_decide_eq_false c2
   omega
end Go.Proofs.YtbfdbhechmhpoaaGreat
set_option maxRecDepth 100000
namespace Go.Proofs.YtbfdbhechmhpoaaGreat
open Go Go.RowKit Dv Tryz
def contB (c i b:Nat):Bool:=if i=0 then decide (leadL c≤b) && decide (b≤leadH c) else decide (128≤b) && decide (b≤191)
def allC (c:Nat) (r:List UInt8) (k:Nat):Bool:=(List.range k).all fun i=>match r[i]? with
 | some b=>contB c i b.toNat
 | none=>false
theorem allC_succ (c:Nat) (r:List UInt8) (k:Nat):allC c r (k + 1)=(allC c r k && match r[k]? with | some b=>contB c k b.toNat | none=>false):=by
 simp only [allC,List.range_succ,List.all_append,List.all_cons,List.all_nil,Bool.and_true]
theorem allC_no {c:Nat} {r:List UInt8} {k n:Nat} (h:k < n) (hk:(match r[k]? with | some b=>contB c k b.toNat | none=>false)=false):allC c r n=false:=by
 cases ha:allC c r n
 ·rfl
 ·unfold allC at ha
  rw [List.all_eq_true] at ha
  have:=ha k (List.mem_range.2 h)
  rw [hk] at this
  cases this
def okU:List UInt8→Bool
 | []=>false
 | c :: r=>decide (1≤leadN c.toNat) && allC c.toNat r (leadN c.toNat - 1)
def unN:List UInt8→Nat
 | []=>0
 | c :: r=>if okU (c :: r)=true then leadN c.toNat else 1
set_option maxHeartbeats 4000000 in
theorem udec_spec (s:ByteArray) (at':Nat) (hs:s.size≤1099511627776) (c:UInt8) (r:List UInt8) (h:(tx s).drop at'=c :: r) :
  Ev Tryz.prog 316 [.v (.string s),.v (.int .i64 at')] [] [] (fun d _ _=>∃ (z:Int) (n:Nat),d = .tup [.v (.int .i32 z),.v (.int .i64 n),.v (.bool (okU (c :: r)))]∧(okU (c :: r)=true→n=leadN c.toNat)∧1≤n):=by
 have hlen:at' < s.size:=by
  have:=congrArg List.length h
  rw [List.length_drop,tx_len] at this
  simp at this
  omega
 have hB:tx (s.extract (at':Int).toNat (s.size:Int).toNat)=c :: r:=by
  rw [← h]
  simp [tx,Int.toNat_natCast]
  exact List.take_of_length_le (by rw [List.length_drop];have:=tx_len s;unfold tx at this;omega)
 have hsz:(s.extract (at':Int).toNat (s.size:Int).toNat).size=r.length + 1:=by rw [← tx_len,hB];all_goals rfl
 have hat:∀ (k:Nat) b,r[k]? = some b→byteAt (s.extract (at':Int).toNat (s.size:Int).toNat) (k + 1)=b.toNat:=fun k b hk=>by
  show ((tx _).getD (k + 1) 0).toNat=_
  rw [hB]
  simp [List.getD_eq_getElem?_getD,hk]
 have hld:EvP Tryz.prog 333 [.v (.int .u8 (byteAt (s.extract (at':Int).toNat (s.size:Int).toNat) 0:Nat))] (.tup [.v (.int .i64 (leadN c.toNat:Nat)),.v (.int .u8 (leadL c.toNat:Nat)),.v (.int .u8 (leadH c.toNat:Nat))]):=by
  have:byteAt (s.extract (at':Int).toNat (s.size:Int).toNat) 0=c.toNat:=by
   show ((tx _).getD 0 0).toNat=_
   rw [hB]
   rfl
  rw [this]
  exact lead_spec c.toNat
 have hv:=fun (k:Nat) (h1:1≤k) (h2:k≤4) (h3:k≤r.length + 1)=>value_spec ((s.extract (at':Int).toNat (s.size:Int).toNat).extract 0 k) (by
  have:((s.extract (at':Int).toNat (s.size:Int).toNat).extract 0 k).size=k:=by
   rw [ByteArray.size_extract,hsz];omega
  omega)
 have hu:okU (c :: r)=(decide (1≤leadN c.toNat) && allC c.toNat r (leadN c.toNat - 1)):=rfl
 generalize okU (c :: r)=U at hu ⊢
 have hn4:leadN c.toNat≤4:=by
  unfold leadN
  repeat' split
  all_goals omega
 refine ev_go (P:=Tryz.prog) tt tt_ok 5000 60 [.tmp 4,.tmp 5,.tmp 6] Tryz.func316 rfl Tryz.ntmps316 rfl (Nat.le_of_ble_eq_true rfl) (fun E9 w9 hn9 hm9=>?_)
 refine br (fun c=>absurd c (by simp [pickB_or];omega)) (fun _=>?_)
 refine ⟨⟨by omega,by omega,by omega⟩,?_⟩
 refine ⟨⟨by omega,by rw [hsz];omega⟩,?_⟩
 refine call_p en333 (hld) ax rfl ?_
 refine br (fun g=>?_) (fun g=>?_)
 ·have g:leadN c.toNat=0:=by have:=of_decide_eq_true g;omega
  have hok:U=false:=by rw [hu,g];all_goals rfl
  subst hok
  exact ⟨.tup [.v (.int .i32 0),.v (.int .i64 (1:Nat)),.v (.bool false)],ax,0,1,rfl,fun h=>(by cases h),by omega⟩
 have g:1≤leadN c.toNat:=by have:=of_decide_eq_false g;omega
 refine loop_i (fun j st=>∃ i:Nat,st=⟨[(0,⟨[],.v (.string (s.extract (at':Int).toNat (s.size:Int).toNat))⟩),(7,⟨[],.v (.int .i64 (leadN c.toNat:Nat))⟩),(8,⟨[],.v (.int .u8 ((if i=0 then leadL c.toNat else 128:Nat):Int))⟩),(9,⟨[],.v (.int .u8 ((if i=0 then leadH c.toNat else 191:Nat):Int))⟩),(10,⟨[],.v (.int .i64 ((i + 1:Nat):Int))⟩)],[],[]⟩∧i + 1≤leadN c.toNat∧allC c.toNat r i=true∧j=leadN c.toNat - (i + 1)) (leadN c.toNat - (0 + 1))
  ⟨[(0,⟨[],.v (.string (s.extract (at':Int).toNat (s.size:Int).toNat))⟩),(7,⟨[],.v (.int .i64 (leadN c.toNat:Nat))⟩),(8,⟨[],.v (.int .u8 ((if 0=0 then leadL c.toNat else 128:Nat):Int))⟩),(9,⟨[],.v (.int .u8 ((if 0=0 then leadH c.toNat else 191:Nat):Int))⟩),(10,⟨[],.v (.int .i64 ((0 + 1:Nat):Int))⟩)],[],[]⟩ (weak_mk ⟨_,rfl⟩ wA rfl rfl rfl (by repeat' (first | exact trivial | exact we_rfl rfl | exact we_int rfl | refine ⟨⟨_,rfl,?_⟩,?_⟩))) ⟨0,rfl,by omega,rfl,by omega⟩ ?_
 rintro j st ⟨i,rfl,hi,ha,rfl⟩
 refine br (fun hL=>?_) (fun hL=>?_)
 ·have hlt:i + 1 < leadN c.toNat:=by have:=of_decide_eq_true hL;omega
  refine br (fun k=>?_) (fun k=>?_)
  ·have k:i < r.length:=by
    have:=k
    have hsz':(s.extract at' s.size).size=r.length + 1:=hsz
    simp [hsz'] at this
    omega
   obtain ⟨b,hb⟩:∃ b,r[i]? = some b:=⟨_,List.getElem?_eq_getElem k⟩
   have hbb:=hat i b hb
   refine ⟨⟨by omega,by rw [hsz];omega⟩,?_⟩
   have hcb:contB c.toNat i b.toNat=(decide ((if i=0 then leadL c.toNat else 128)≤b.toNat) && decide (b.toNat≤(if i=0 then leadH c.toNat else 191))):=by
    unfold contB
    split<;>rfl
   have has:=allC_succ c.toNat r i
   rw [ha,hb,Bool.true_and] at has
   simp only [hcb] at has
   have e:byteAt (s.extract (at':Int).toNat (s.size:Int).toNat) (((i + 1:Nat):Int)).toNat=b.toNat:=hbb
   refine br (fun k2=>?_) (fun k2=>?_)
   ·have k2:(if i=0 then leadL c.toNat else 128)≤b.toNat:=by
     have k3:=k2
     rw [e] at k3
     generalize (if i=0 then leadL c.toNat else 128)=lo at k3 ⊢
     simp [pickB_or] at k3
     omega
    refine ⟨⟨by omega,by rw [hsz];omega⟩,?_⟩
    refine br (fun k4=>?_) (fun k4=>?_)
    ·have k4:¬ b.toNat≤(if i=0 then leadH c.toNat else 191):=by
      have k3:=k4
      rw [e] at k3
      generalize (if i=0 then leadH c.toNat else 191)=hi at k3 ⊢
      simp [pickB_or] at k3
      omega
     have hf:=allC_no (c:=c.toNat) (r:=r) (k:=i) (n:=leadN c.toNat - 1) (by omega) (by rw [hb];simp only [hcb];simp [k4])
     rw [hf,Bool.and_false] at hu
     subst hu
     exact ⟨.tup [.v (.int .i32 0),.v (.int .i64 ((i + 1:Nat):Int)),.v (.bool false)],ax,0,i + 1,rfl,fun h=>(by cases h),by omega⟩
    ·have k4:b.toNat≤(if i=0 then leadH c.toNat else 191):=by
      have k3:=k4
      rw [e] at k3
      generalize (if i=0 then leadH c.toNat else 191)=hi at k3 ⊢
      simp [pickB_or] at k3
      omega
     rw [decide_eq_true k2,decide_eq_true k4] at has
     exact ⟨⟨[(0,⟨[],.v (.string (s.extract (at':Int).toNat (s.size:Int).toNat))⟩),(7,⟨[],.v (.int .i64 (leadN c.toNat:Nat))⟩),(8,⟨[],.v (.int .u8 ((if i + 1=0 then leadL c.toNat else 128:Nat):Int))⟩),(9,⟨[],.v (.int .u8 ((if i + 1=0 then leadH c.toNat else 191:Nat):Int))⟩),(10,⟨[],.v (.int .i64 ((i + 1 + 1:Nat):Int))⟩)],[],[]⟩,(weak_mk ⟨_,rfl⟩ wA rfl rfl rfl (by repeat' (first | exact trivial | exact we_rfl rfl | exact we_int (nxt hlt (by omega)) | refine ⟨⟨_,rfl,?_⟩,?_⟩))),leadN c.toNat - (i + 1 + 1),by omega,i + 1,rfl,by omega,has,rfl⟩
   ·have k2:¬ (if i=0 then leadL c.toNat else 128)≤b.toNat:=by
     have k3:=k2
     rw [e] at k3
     generalize (if i=0 then leadL c.toNat else 128)=lo at k3 ⊢
     simp [pickB_or] at k3
     omega
    have hf:=allC_no (c:=c.toNat) (r:=r) (k:=i) (n:=leadN c.toNat - 1) (by omega) (by rw [hb];simp only [hcb];simp [k2])
    rw [hf,Bool.and_false] at hu
    subst hu
    exact ⟨.tup [.v (.int .i32 0),.v (.int .i64 ((i + 1:Nat):Int)),.v (.bool false)],ax,0,i + 1,rfl,fun h=>(by cases h),by omega⟩
  ·have k:r.length≤i:=by
    have:=k
    have hsz':(s.extract at' s.size).size=r.length + 1:=hsz
    simp [hsz'] at this
    omega
   have hf:=allC_no (c:=c.toNat) (r:=r) (k:=i) (n:=leadN c.toNat - 1) (by omega) (by rw [List.getElem?_eq_none k])
   rw [hf,Bool.and_false] at hu
   subst hu
   exact ⟨.tup [.v (.int .i32 0),.v (.int .i64 ((i + 1:Nat):Int)),.v (.bool false)],ax,0,i + 1,rfl,fun h=>(by cases h),by omega⟩
 ·have hge:i + 1=leadN c.toNat:=by have:=of_decide_eq_false hL;omega
  have hu1:U=true:=by
   rw [hu,← hge]
   simp [ha]
  subst hu1
  have hrl:leadN c.toNat≤r.length + 1:=by
   rcases Nat.lt_or_ge r.length (leadN c.toNat - 1) with h | h
   ·have hf:=allC_no (c:=c.toNat) (r:=r) (k:=r.length) (n:=leadN c.toNat - 1) h (by rw [List.getElem?_eq_none (Nat.le_refl _)])
    rw [← hge,Nat.add_sub_cancel,ha] at hf
    cases hf
   ·omega
  have hv:=hv (leadN c.toNat) (by omega) hn4 hrl
  refine ⟨⟨by omega,by omega,by rw [hsz];omega⟩,?_⟩
  refine call_e en334 rfl hv ax (fun q hq=>?_)
  obtain ⟨z,rfl⟩:=hq
  exact ⟨.tup [.v (.int .i32 z),.v (.int .i64 (leadN c.toNat:Nat)),.v (.bool true)],ax,z,leadN c.toNat,rfl,fun _=>rfl,by omega⟩
end Go.Proofs.YtbfdbhechmhpoaaGreat
set_option maxRecDepth 100000
namespace Go.Proofs.YtbfdbhechmhpoaaGreat
open Go Go.RowKit Dv Tryz
def recV:List UInt8→Int
 | [a]=>a.toNat
 | [a,b]=>(a.toNat - 192) * 64 + (b.toNat - 128)
 | [a,b,c]=>(a.toNat - 224) * 4096 + (b.toNat - 128) * 64 + (c.toNat - 128)
 | [a,b,c,d]=>(a.toNat - 240) * 262144 + (b.toNat - 128) * 4096 + (c.toNat - 128) * 64 + (d.toNat - 128)
 | _=>0
end Go.Proofs.YtbfdbhechmhpoaaGreat
set_option maxRecDepth 100000
namespace Go.Proofs.YtbfdbhechmhpoaaGreat
open Go Go.RowKit Dv Tryz
def scalB (z:Int):Bool:=decide (0≤z) && decide (z≤1114111) && (decide (z < 55296) || decide (57343 < z))
def encV (n:Nat):List UInt8:=
 if n < 128 then [UInt8.ofNat n] else if n < 2048 then [UInt8.ofNat (192 + n / 64),UInt8.ofNat (128 + n % 64)]
 else if n < 65536 then [UInt8.ofNat (224 + n / 4096),UInt8.ofNat (128 + n / 64 % 64),UInt8.ofNat (128 + n % 64)]
 else [UInt8.ofNat (240 + n / 262144),UInt8.ofNat (128 + n / 4096 % 64),UInt8.ofNat (128 + n / 64 % 64),UInt8.ofNat (128 + n % 64)]
def encS (z:Int):List UInt8:=if scalB z=true then encV z.toNat else []
theorem b8 {x:Int} {k:Nat} (hx:x=k) (hk:k < 256):IntKind.u8.wrap x=((UInt8.ofNat k).toNat:Int):=by
 rw [hx,UInt8.toNat_ofNat',IntKind.wrap_u8']
 omega
end Go.Proofs.YtbfdbhechmhpoaaGreat
set_option maxRecDepth 100000
namespace Go.Proofs.YtbfdbhechmhpoaaGreat
open Go Go.RowKit Dv Tryz
theorem okU_cons (c:UInt8) (r:List UInt8):okU (c :: r)=(decide (1≤leadN c.toNat) && allC c.toNat r (leadN c.toNat - 1)):=rfl
def wfB (l:List UInt8):Bool:=scalB (recV l) && decide (encS (recV l)=l)
theorem u8_eq {k:Nat} {a:UInt8} (hk:k < 256):UInt8.ofNat k=a↔k=a.toNat:=by
 constructor
 ·rintro rfl
  rw [UInt8.toNat_ofNat']
  omega
 ·rintro rfl
  exact UInt8.ofNat_toNat
theorem wfB_iff (l:List UInt8) {v:Int} (hv:recV l=v):wfB l=true↔(0≤v∧v≤1114111∧(v < 55296∨57343 < v))∧encV v.toNat=l:=by
 subst hv
 unfold wfB encS
 constructor
 ·intro h
  rw [Bool.and_eq_true] at h
  have h1:=h.1
  have h2:=of_decide_eq_true h.2
  rw [if_pos h1] at h2
  simp [scalB] at h1
  exact ⟨by omega,h2⟩
 ·intro ⟨h1,h2⟩
  have h3:scalB (recV l)=true:=by simp [scalB];omega
  rw [h3,if_pos rfl]
  simp [h2]
theorem leadL_sp (c:Nat):(c=224∧leadL c=160)∨(c=240∧leadL c=144)∨(c≠224∧c≠240∧leadL c=128):=by
 unfold leadL
 repeat' split
 all_goals omega
theorem leadH_sp (c:Nat):(c=237∧leadH c=159)∨(c=244∧leadH c=143)∨(c≠237∧c≠244∧leadH c=191):=by
 unfold leadH
 repeat' split
 all_goals omega
theorem contB_0 (c b:Nat):contB c 0 b=true↔leadL c≤b∧b≤leadH c:=by
 unfold contB
 rw [if_pos rfl,Bool.and_eq_true,decide_eq_true_iff,decide_eq_true_iff]
theorem contB_s (c k b:Nat):contB c (k + 1) b=true↔128≤b∧b≤191:=by
 unfold contB
 rw [if_neg (Nat.succ_ne_zero k),Bool.and_eq_true,decide_eq_true_iff,decide_eq_true_iff]
theorem allC_1 (c:Nat) (b:UInt8) (r:List UInt8):allC c (b :: r) 1=contB c 0 b.toNat:=by simp [allC,List.range_succ]
theorem allC_2 (c:Nat) (b d:UInt8) (r:List UInt8):allC c (b :: d :: r) 2=(contB c 0 b.toNat && contB c 1 d.toNat):=by simp [allC,List.range_succ]
theorem allC_3 (c:Nat) (b d e:UInt8) (r:List UInt8):allC c (b :: d :: e :: r) 3=(contB c 0 b.toNat && contB c 1 d.toNat && contB c 2 e.toNat):=by simp [allC,List.range_succ,Bool.and_assoc]
theorem lead_1 (a:Nat):leadN a=1↔a < 128:=by
 unfold leadN;repeat' split
 all_goals omega
theorem lead_2 (a:Nat):leadN a=2↔194≤a∧a≤223:=by
 unfold leadN;repeat' split
 all_goals omega
theorem lead_3 (a:Nat):leadN a=3↔224≤a∧a≤239:=by
 unfold leadN;repeat' split
 all_goals omega
theorem lead_4 (a:Nat):leadN a=4↔240≤a∧a≤244:=by
 unfold leadN;repeat' split
 all_goals omega
theorem wf_1 (a:UInt8) (r:List UInt8):wfB [a]=true↔okU (a :: r)=true∧leadN a.toNat=1:=by
 have ha:=a.toNat_lt
 rw [wfB_iff _ (v:=(a.toNat:Int)) rfl]
 rw [Int.toNat_natCast]
 unfold encV
 rw [okU_cons]
 constructor
 ·intro ⟨h1,h2⟩
  have:a.toNat < 128:=by
   by_cases c:a.toNat < 128
   ·exact c
   ·rw [if_neg c] at h2
    repeat' split at h2
    all_goals (simp at h2)
  have:=(lead_1 _).2 this
  rw [this]
  exact ⟨rfl,rfl⟩
 ·intro ⟨_,h2⟩
  have h2:=(lead_1 _).1 h2
  rw [if_pos h2]
  exact ⟨by omega,by rw [UInt8.ofNat_toNat]⟩
theorem wf_2 (a b:UInt8) (r:List UInt8):wfB [a,b]=true↔okU (a :: b :: r)=true∧leadN a.toNat=2:=by
 have ha:=a.toNat_lt
 have hb:=b.toNat_lt
 rw [wfB_iff _ (v:=((a.toNat:Int) - 192) * 64 + ((b.toNat:Int) - 128)) rfl]
 unfold encV
 rw [okU_cons]
 constructor
 ·intro ⟨h1,h2⟩
  generalize hn:((((a.toNat:Int) - 192) * 64 + ((b.toNat:Int) - 128))).toNat=n at h2
  repeat' split at h2
  any_goals (simp at h2;done)
  simp only [List.cons.injEq,and_true] at h2
  rw [u8_eq (by omega),u8_eq (by omega)] at h2
  have:=(lead_2 a.toNat).2 (by omega)
  rw [this]
  refine ⟨?_,rfl⟩
  show (true && allC _ _ 1)=true
  rw [Bool.true_and,allC_1,contB_0]
  have hL:=leadL_sp a.toNat
  have hH:=leadH_sp a.toNat
  omega
 ·intro ⟨h1,h2⟩
  rw [h2] at h1
  have h1:(true && allC _ _ 1)=true:=h1
  rw [Bool.true_and,allC_1,contB_0] at h1
  have hL:=leadL_sp a.toNat
  have hH:=leadH_sp a.toNat
  have h2:=(lead_2 _).1 h2
  rw [if_neg (by omega),if_pos (by omega)]
  simp only [List.cons.injEq,and_true]
  rw [u8_eq (by omega),u8_eq (by omega)]
  omega
theorem wf_3 (a b c:UInt8) (r:List UInt8):wfB [a,b,c]=true↔okU (a :: b :: c :: r)=true∧leadN a.toNat=3:=by
 have ha:=a.toNat_lt
 have hb:=b.toNat_lt
 have hc:=c.toNat_lt
 rw [wfB_iff _ (v:=((a.toNat:Int) - 224) * 4096 + ((b.toNat:Int) - 128) * 64 + ((c.toNat:Int) - 128)) rfl]
 unfold encV
 rw [okU_cons]
 constructor
 ·intro ⟨h1,h2⟩
  generalize hn:((((a.toNat:Int) - 224) * 4096 + ((b.toNat:Int) - 128) * 64 + ((c.toNat:Int) - 128))).toNat=n at h2
  repeat' split at h2
  any_goals (simp at h2;done)
  simp only [List.cons.injEq,and_true] at h2
  rw [u8_eq (by omega),u8_eq (by omega),u8_eq (by omega)] at h2
  have:=(lead_3 a.toNat).2 (by omega)
  rw [this]
  refine ⟨?_,rfl⟩
  show (true && allC _ _ 2)=true
  rw [Bool.true_and,allC_2,Bool.and_eq_true,contB_0,contB_s _ 0]
  have hL:=leadL_sp a.toNat
  have hH:=leadH_sp a.toNat
  omega
 ·intro ⟨h1,h2⟩
  rw [h2] at h1
  have h1:(true && allC _ _ 2)=true:=h1
  rw [Bool.true_and,allC_2,Bool.and_eq_true,contB_0,contB_s _ 0] at h1
  have hL:=leadL_sp a.toNat
  have hH:=leadH_sp a.toNat
  have h2:=(lead_3 _).1 h2
  rw [if_neg (by omega),if_neg (by omega),if_pos (by omega)]
  simp only [List.cons.injEq,and_true]
  rw [u8_eq (by omega),u8_eq (by omega),u8_eq (by omega)]
  omega
theorem wf_4 (a b c d:UInt8) (r:List UInt8):wfB [a,b,c,d]=true↔okU (a :: b :: c :: d :: r)=true∧leadN a.toNat=4:=by
 have ha:=a.toNat_lt
 have hb:=b.toNat_lt
 have hc:=c.toNat_lt
 have hd:=d.toNat_lt
 rw [wfB_iff _ (v:=((a.toNat:Int) - 240) * 262144 + ((b.toNat:Int) - 128) * 4096 + ((c.toNat:Int) - 128) * 64 + ((d.toNat:Int) - 128)) rfl]
 unfold encV
 rw [okU_cons]
 constructor
 ·intro ⟨h1,h2⟩
  generalize hn:((((a.toNat:Int) - 240) * 262144 + ((b.toNat:Int) - 128) * 4096 + ((c.toNat:Int) - 128) * 64 + ((d.toNat:Int) - 128))).toNat=n at h2
  repeat' split at h2
  any_goals (simp at h2;done)
  simp only [List.cons.injEq,and_true] at h2
  rw [u8_eq (by omega),u8_eq (by omega),u8_eq (by omega),u8_eq (by omega)] at h2
  have:=(lead_4 a.toNat).2 (by omega)
  rw [this]
  refine ⟨?_,rfl⟩
  show (true && allC _ _ 3)=true
  rw [Bool.true_and,allC_3,Bool.and_eq_true,Bool.and_eq_true,contB_0,contB_s _ 0,contB_s _ 1]
  have hL:=leadL_sp a.toNat
  have hH:=leadH_sp a.toNat
  omega
 ·intro ⟨h1,h2⟩
  rw [h2] at h1
  have h1:(true && allC _ _ 3)=true:=h1
  rw [Bool.true_and,allC_3,Bool.and_eq_true,Bool.and_eq_true,contB_0,contB_s _ 0,contB_s _ 1] at h1
  have hL:=leadL_sp a.toNat
  have hH:=leadH_sp a.toNat
  have h2:=(lead_4 _).1 h2
  rw [if_neg (by omega),if_neg (by omega),if_neg (by omega)]
  simp only [List.cons.injEq,and_true]
  rw [u8_eq (by omega),u8_eq (by omega),u8_eq (by omega),u8_eq (by omega)]
  omega
theorem lead_le (a:Nat):leadN a≤4:=by
 unfold leadN;repeat' split
 all_goals omega
theorem okU_len {l:List UInt8} (h:okU l=true):∃ c r,l=c :: r∧1≤leadN c.toNat∧leadN c.toNat≤l.length∧unN l=leadN c.toNat:=by
 cases l with
 | nil=>cases h
 | cons c r=>
  refine ⟨c,r,rfl,?_,?_,?_⟩
  ·unfold okU at h
   rw [Bool.and_eq_true] at h
   exact of_decide_eq_true h.1
  ·have h0:=h
   unfold okU at h
   rw [Bool.and_eq_true] at h
   rcases Nat.lt_or_ge r.length (leadN c.toNat - 1) with g | g
   ·have h2:=h.2
    unfold allC at h2
    rw [List.all_eq_true] at h2
    have:=h2 r.length (List.mem_range.2 g)
    rw [List.getElem?_eq_none (Nat.le_refl _)] at this
    cases this
   ·rw [List.length_cons]
    omega
  ·show (if _ then _ else _)=_
   rw [if_pos h]
theorem wf_n (c:UInt8) (r:List UInt8) (n:Nat) (h1:1≤n) (h4:n≤4) (hl:n≤r.length + 1):wfB ((c :: r).take n)=(okU (c :: r) && decide (leadN c.toNat=n)):=by
 apply Bool.eq_iff_iff.2
 rw [Bool.and_eq_true,decide_eq_true_iff]
 match n,h1,h4,hl with
 | 1,_,_,_=>exact wf_1 c r
 | 2,_,_,h=>match r,h with
  | b :: r,_=>exact wf_2 c b r
 | 3,_,_,h=>match r,h with
  | b :: d :: r,_=>exact wf_3 c b d r
 | 4,_,_,h=>match r,h with
  | b :: d :: e :: r,_=>exact wf_4 c b d e r
theorem unN_pos {l:List UInt8} (h:l ≠ []):1≤unN l∧unN l≤l.length:=by
 cases l with
 | nil=>exact absurd rfl h
 | cons c r=>
  show 1≤(if _ then _ else _)∧(if _ then _ else _)≤_
  split
  ·rename_i g
   obtain ⟨c',r',e,h1,h2,h3⟩:=okU_len g
   cases e
   exact ⟨h1,h2⟩
  ·exact ⟨Nat.le_refl _,by rw [List.length_cons];omega⟩
theorem unN_of_take {a b:List UInt8} (hb:2≤unN b) (h:a.take (unN b)=b.take (unN b)):unN a=unN b:=by
 have hok:okU b=true:=by
  cases b with
  | nil=>exact absurd hb (by decide)
  | cons c r=>
   cases hc:okU (c :: r)
   ·have:unN (c :: r)=1:=by show (if _ then _ else _)=_;rw [hc];all_goals rfl
    omega
   ·rfl
 obtain ⟨c,r,rfl,h1,h2,h3⟩:=okU_len hok
 rw [h3] at h ⊢
 have hl:leadN c.toNat≤a.length:=by
  have:=congrArg List.length h
  rw [List.length_take,List.length_take] at this
  omega
 have hw:=wf_n c r (leadN c.toNat) h1 (lead_le _) h2
 rw [hok,decide_eq_true rfl,← h] at hw
 cases a with
 | nil=>exact absurd hl (by rw [List.length_nil];omega)
 | cons d s=>
  rw [wf_n d s (leadN c.toNat) h1 (lead_le _) hl] at hw
  rw [Bool.true_and,Bool.and_eq_true,decide_eq_true_iff] at hw
  show (if _ then _ else _)=_
  rw [if_pos hw.1]
  exact hw.2
def headL:Nat→List UInt8→List UInt8
 | 0,_=>[]
 | u + 1,l=>l.take (unN l) ++ headL u (l.drop (unN l))
theorem headL_nil (u:Nat):headL u []=[]:=by
 induction u with
 | zero=>rfl
 | succ u ih=>show [].take _ ++ headL u ([].drop _)=[];rw [List.take_nil,List.drop_nil,ih];all_goals rfl
theorem headL_pre (u:Nat) (l:List UInt8):headL u l <+: l:=by
 induction u generalizing l with
 | zero=>exact List.nil_prefix
 | succ u ih=>
  obtain ⟨t,ht⟩:=ih (l.drop (unN l))
  refine ⟨t,?_⟩
  show (_ ++ _) ++ t=l
  rw [List.append_assoc,ht,List.take_append_drop]
def headsL:Nat→List UInt8→List UInt8→Bool
 | 0,_,_=>true
 | u + 1,a,b=>decide (unN a=unN b) && decide (a.take (unN a)=b.take (unN b)) && headsL u (a.drop (unN a)) (b.drop (unN b))
theorem heads_lt (u:Nat) {a b:List UInt8} (hlt:unN a < unN b):headL (u + 1) a≠headL (u + 1) b:=by
 intro h
 have hbn:b ≠ []:=by
  rintro rfl
  exact absurd hlt (by rw [show unN []=0 from rfl];omega)
 obtain ⟨hb1,hb2⟩:=unN_pos hbn
 cases a with
 | nil=>
  rw [headL_nil] at h
  have:=congrArg List.length h
  rw [show headL (u + 1) b=b.take (unN b) ++ headL u (b.drop (unN b)) from rfl,List.length_append,List.length_take,List.length_nil] at this
  omega
 | cons c r=>
  obtain ⟨ha1,ha2⟩:=unN_pos (l:=c :: r) (by simp)
  obtain ⟨t,ht⟩:=headL_pre (u + 1) (c :: r)
  have hH:(headL (u + 1) b).take (unN b)=b.take (unN b):=by
   rw [show headL (u + 1) b=b.take (unN b) ++ headL u (b.drop (unN b)) from rfl,List.take_append_of_le_length (by rw [List.length_take];omega),List.take_take,Nat.min_self]
  have hHl:unN b≤(headL (u + 1) b).length:=by
   rw [show headL (u + 1) b=b.take (unN b) ++ headL u (b.drop (unN b)) from rfl,List.length_append,List.length_take]
   omega
  have h2:(c :: r).take (unN b)=b.take (unN b):=by
   rw [← hH,← ht,h]
   exact List.take_append_of_le_length hHl
  have:=unN_of_take (a:=c :: r) (b:=b) (by omega) h2
  omega
theorem heads_eq (u:Nat) (a b:List UInt8):headsL u a b=decide (headL u a=headL u b):=by
 induction u generalizing a b with
 | zero=>simp [headsL,headL]
 | succ u ih=>
  rcases Nat.lt_trichotomy (unN a) (unN b) with h | h | h
  ·rw [decide_eq_false (heads_lt u h)]
   simp [headsL,Nat.ne_of_lt h]
  ·show (decide (unN a=unN b) && decide (a.take (unN a)=b.take (unN b)) && headsL u (a.drop (unN a)) (b.drop (unN b)))=_
   rw [ih,show headL (u + 1) b=b.take (unN b) ++ headL u (b.drop (unN b)) from rfl,show headL (u + 1) a=a.take (unN a) ++ headL u (a.drop (unN a)) from rfl,← h,decide_eq_true rfl,Bool.true_and]
   apply Bool.eq_iff_iff.2
   rw [Bool.and_eq_true,decide_eq_true_iff,decide_eq_true_iff,decide_eq_true_iff]
   constructor
   ·intro ⟨h1,h2⟩
    rw [h1,h2]
   ·intro h1
    refine List.append_inj h1 ?_
    have ha:a=[]∨unN a≤a.length:=by
     cases a with
     | nil=>exact .inl rfl
     | cons c r=>exact .inr (unN_pos (by simp)).2
    have hb:b=[]∨unN b≤b.length:=by
     cases b with
     | nil=>exact .inl rfl
     | cons c r=>exact .inr (unN_pos (by simp)).2
    rw [List.length_take,List.length_take]
    rcases ha with rfl | ha<;>rcases hb with rfl | hb
    ·rfl
    ·rw [← h] at hb
     have:unN ([]:List UInt8)=0:=rfl
     omega
    ·have:unN ([]:List UInt8)=0:=rfl
     omega
    ·omega
  ·rw [decide_eq_false (fun e=>heads_lt u h e.symm)]
   simp [headsL,Nat.ne_of_gt h]
end Go.Proofs.YtbfdbhechmhpoaaGreat
set_option maxRecDepth 100000
namespace Go.Proofs.YtbfdbhechmhpoaaGreat
open Go Go.RowKit Dv Tryz
theorem ba_inj {a b:List UInt8}:ba a=ba b↔a=b:=⟨fun h=>by have:=congrArg tx h;rwa [tx_ba,tx_ba] at this,fun h=>by rw [h]⟩
end Go.Proofs.YtbfdbhechmhpoaaGreat
set_option maxRecDepth 100000
namespace Go.Proofs.YtbfdbhechmhpoaaGreat
open Go Go.RowKit Dv Tryz
def spB:List DV→Bool
 | [.v (.int .i32 _),.v (.int .i32 _)]=>true
 | _=>false
theorem spB_some {cs:List DV} (h:spB cs=true):∃ a b:Int,cs=[.v (.int .i32 a),.v (.int .i32 b)]:=by
 unfold spB at h
 split at h
 ·exact ⟨_,_,rfl⟩
 ·cases h
theorem sp_at {es:List (List DV)} (h:es.all spB=true) {i:Nat} (hi:i < es.length):∃ a b:Int,es[i]? = some [.v (.int .i32 a),.v (.int .i32 b)]:=by
 rw [List.all_eq_true] at h
 obtain ⟨a,b,hab⟩:=spB_some (h es[i] (List.getElem_mem hi))
 exact ⟨a,b,by rw [List.getElem?_eq_getElem hi,hab]⟩
def TabΦ (d:DV) (_:List (List DV)) (_:List TkE):Prop:=∃ es:List (List DV),d = .sl 2 es none∧(Nat.ble es.length 1000 && es.all spB)=true
set_option maxHeartbeats 4000000 in
theorem wide_tab:Ev Tryz.prog 342 [] [] [] TabΦ:=by
 refine ev_go (P:=Tryz.prog) tt tt_ok 5000 118 [.tmp 0] Tryz.func342 rfl Tryz.ntmps342 rfl (Nat.le_of_ble_eq_true rfl) (fun E9 w9 hn9 hm9=>?_)
 exact ⟨_,ax,_,rfl,rfl⟩
set_option maxHeartbeats 4000000 in
theorem zero_tab:Ev Tryz.prog 343 [] [] [] TabΦ:=by
 refine ev_go (P:=Tryz.prog) tt tt_ok 5000 84 [.tmp 0] Tryz.func343 rfl Tryz.ntmps343 rfl (Nat.le_of_ble_eq_true rfl) (fun E9 w9 hn9 hm9=>?_)
 exact ⟨_,ax,_,rfl,rfl⟩
abbrev inSt (es:List (List DV)) (z:Int) (lo hi:Nat):St:=⟨[(0,⟨[],.sl 2 es none⟩),(1,⟨[],.v (.int .i32 z)⟩),(5,⟨[],.v (.int .i64 lo)⟩),(6,⟨[],.v (.int .i64 hi)⟩)],[],[]⟩
theorem in_spec (es:List (List DV)) (z:Int) (hl:es.length≤1000) (hs:es.all spB=true):Ev Tryz.prog 341 [.sl 2 es none,.v (.int .i32 z)] [] [] (fun d _ _=>∃ b:Bool,d = .v (.bool b)):=by
 refine ev_go (P:=Tryz.prog) tt tt_ok 5000 38 [.tmp 4] Tryz.func341 rfl Tryz.ntmps341 rfl (Nat.le_of_ble_eq_true rfl) (fun E9 w9 hn9 hm9=>?_)
 refine loop_i (fun j st=>∃ lo hi:Nat,st=inSt es z lo hi∧lo≤hi∧hi≤es.length∧j=hi - lo) es.length (inSt es z 0 es.length) (weak_mk ⟨_,rfl⟩ wA rfl rfl rfl (by repeat' (first | exact trivial | exact we_rfl rfl | exact we_int rfl | refine ⟨⟨_,rfl,?_⟩,?_⟩))) ⟨0,es.length,rfl,by omega,by omega,by omega⟩ ?_
 rintro j st ⟨lo,hi,rfl,h1,h2,rfl⟩
 refine br (fun hL=>?_) (fun hL=>?_)
 rotate_left
 ·exact ⟨_,rfl⟩
 have hlt:lo < hi:=by have:=of_decide_eq_true hL;omega
 have hm:IntKind.i64.wrap ((lo:Int) + IntKind.i64.wrap ((IntKind.i64.wrap ((hi:Int) - lo)).tdiv 2))=((lo + (hi - lo) / 2:Nat):Int):=by
  rw [wrap64 (n:=(hi:Int) - lo) (by omega) (by omega)]
  rw [Int.tdiv_eq_ediv_of_nonneg (by omega)]
  rw [wrap64 (n:=((hi:Int) - lo) / 2) (by omega) (by omega),wrap64 (by omega) (by omega)]
  omega
 obtain ⟨a,b,hab⟩:=sp_at hs (i:=lo + (hi - lo) / 2) (by omega)
 refine ⟨⟨rfl,by decide⟩,?_⟩
 refine ⟨_,⟨by rw [hm];omega,by rw [hm,Int.toNat_natCast];exact hab⟩,?_⟩
 refine br (fun c=>?_) (fun c=>?_)
 ·exact ⟨inSt es z lo (lo + (hi - lo) / 2),(weak_mk ⟨_,rfl⟩ wA rfl rfl rfl (by repeat' (first | exact trivial | exact we_rfl rfl | exact we_int hm | refine ⟨⟨_,rfl,?_⟩,?_⟩))),lo + (hi - lo) / 2 - lo,by omega,_,_,rfl,by omega,by omega,rfl⟩
 ·refine ⟨_,⟨by rw [hm];omega,by rw [hm,Int.toNat_natCast];exact hab⟩,?_⟩
  refine br (fun c=>?_) (fun c=>?_)
  ·have hm2:IntKind.i64.wrap (IntKind.i64.wrap ((lo:Int) + IntKind.i64.wrap ((IntKind.i64.wrap ((hi:Int) - lo)).tdiv 2)) + 1)=((lo + (hi - lo) / 2 + 1:Nat):Int):=by
    rw [hm,wrap64 (by omega) (by omega)]
    omega
   exact ⟨inSt es z (lo + (hi - lo) / 2 + 1) hi,(weak_mk ⟨_,rfl⟩ wA rfl rfl rfl (by repeat' (first | exact trivial | exact we_rfl rfl | exact we_int hm2 | refine ⟨⟨_,rfl,?_⟩,?_⟩))),hi - (lo + (hi - lo) / 2 + 1),by omega,_,_,rfl,by omega,by omega,rfl⟩
  ·exact ⟨_,rfl⟩
theorem iswide_spec (z:Int):Ev Tryz.prog 335 [.v (.int .i32 z)] [] [] (fun d _ _=>∃ b:Bool,d = .v (.bool b)):=by
 refine ev_go (P:=Tryz.prog) tt tt_ok 5000 6 [.tmp 2] Tryz.func335 rfl Tryz.ntmps335 rfl (Nat.le_of_ble_eq_true rfl) (fun E9 w9 hn9 hm9=>?_)
 refine call_e en342 rfl wide_tab ax (fun q hq=>?_)
 obtain ⟨es,rfl,he⟩:=hq
 rw [Bool.and_eq_true,Nat.ble_eq] at he
 refine call_e en341 rfl (in_spec es z he.1 he.2) ax (fun q hq=>?_)
 obtain ⟨b,rfl⟩:=hq
 exact ⟨_,rfl⟩
theorem iszero_spec (z:Int):Ev Tryz.prog 336 [.v (.int .i32 z)] [] [] (fun d _ _=>∃ b:Bool,d = .v (.bool b)):=by
 refine ev_go (P:=Tryz.prog) tt tt_ok 5000 6 [.tmp 2] Tryz.func336 rfl Tryz.ntmps336 rfl (Nat.le_of_ble_eq_true rfl) (fun E9 w9 hn9 hm9=>?_)
 refine call_e en343 rfl zero_tab ax (fun q hq=>?_)
 obtain ⟨es,rfl,he⟩:=hq
 rw [Bool.and_eq_true,Nat.ble_eq] at he
 refine call_e en341 rfl (in_spec es z he.1 he.2) ax (fun q hq=>?_)
 obtain ⟨b,rfl⟩:=hq
 exact ⟨_,rfl⟩
theorem rune_spec (z:Int):Ev Tryz.prog 317 [.v (.int .i32 z)] [] [] (fun d _ _=>∃ n:Int,d = .v (.int .i64 n)):=by
 refine ev_go (P:=Tryz.prog) tt tt_ok 5000 9 [.tmp 2] Tryz.func317 rfl Tryz.ntmps317 rfl (Nat.le_of_ble_eq_true rfl) (fun E9 w9 hn9 hm9=>?_)
 refine call_e en335 rfl (iswide_spec z) ax (fun q hq=>?_)
 obtain ⟨b,rfl⟩:=hq
 cases b with
 | true=>exact ⟨_,rfl⟩
 | false=>
  refine call_e en336 rfl (iszero_spec z) ax (fun q hq=>?_)
  obtain ⟨b,rfl⟩:=hq
  cases b with
  | true=>exact ⟨_,rfl⟩
  | false=>exact ⟨_,rfl⟩
theorem udec_end (s:ByteArray) (hs:s.size≤1099511627776):EvP Tryz.prog 316 [.v (.string s),.v (.int .i64 (s.size:Nat))] (.tup [.v (.int .i32 0),.v (.int .i64 0),.v (.bool false)]):=by
 refine ev_go (P:=Tryz.prog) tt tt_ok 5000 60 [.tmp 4,.tmp 5,.tmp 6] Tryz.func316 rfl Tryz.ntmps316 rfl (Nat.le_of_ble_eq_true rfl) (fun E9 w9 hn9 hm9=>?_)
 refine br (fun _=>?_) (fun c=>absurd c (by simp [pickB_or]))
 exact ⟨_,ax,rfl⟩
theorem unit_spec (s:ByteArray) (at':Nat) (hs:s.size≤1099511627776) (h:at' ≤ s.size):Ev Tryz.prog 290 [.v (.string s),.v (.int .i64 at')] [] [] (fun d _ _=>∃ c:Int,d = .tup [.v (.int .i64 c),.v (.int .i64 (unN ((tx s).drop at'):Nat))]):=by
 cases hd:(tx s).drop at' with
 | nil=>
  have he:at'=s.size:=by
   have:=congrArg List.length hd
   rw [List.length_drop,tx_len,List.length_nil] at this
   omega
  subst he
  refine ev_go (P:=Tryz.prog) tt tt_ok 5000 24 [.tmp 4,.tmp 5] Tryz.func290 rfl Tryz.ntmps290 rfl (Nat.le_of_ble_eq_true rfl) (fun E9 w9 hn9 hm9=>?_)
  refine call_p en316 (udec_end s hs) ax rfl ?_
  exact ⟨.tup [.v (.int .i64 0),.v (.int .i64 ((0:Nat):Int))],ax,_,rfl⟩
 | cons c r=>
  have hu:=udec_spec s at' hs c r hd
  have hun:unN (c :: r)=if okU (c :: r)=true then leadN c.toNat else 1:=rfl
  rw [hun]
  generalize okU (c :: r)=ok at hu ⊢
  refine ev_go (P:=Tryz.prog) tt tt_ok 5000 24 [.tmp 4,.tmp 5] Tryz.func290 rfl Tryz.ntmps290 rfl (Nat.le_of_ble_eq_true rfl) (fun E9 w9 hn9 hm9=>?_)
  refine call_e en316 rfl hu ax (fun q hq=>?_)
  obtain ⟨z,n,rfl,hn,hp⟩:=hq
  cases ok with
  | true=>
   have:=hn rfl
   subst this
   refine call_e en317 rfl (rune_spec z) ax (fun q hq=>?_)
   obtain ⟨m,rfl⟩:=hq
   exact ⟨.tup [.v (.int .i64 m),.v (.int .i64 (leadN c.toNat:Nat))],ax,_,rfl⟩
  | false=>
   refine br (fun _=>?_) (fun g=>absurd g (by simp;omega))
   exact ⟨.tup [.v (.int .i64 1),.v (.int .i64 ((1:Nat):Int))],ax,_,rfl⟩
end Go.Proofs.YtbfdbhechmhpoaaGreat
set_option maxRecDepth 100000
namespace Go.Proofs.YtbfdbhechmhpoaaGreat
open Go Go.RowKit Dv Tryz
theorem edge_nums {L:Nat} {ND:List Nd} {d:Nd} (hN:NdOK L ND.length d) {e:Ed} (he:e∈d.edges):(e.bare=false→e.to=(e.to.toNat:Nat)∧e.to.toNat < ND.length)∧(e.label=(e.label.toNat:Nat)∧e.label.toNat < L)∧(e.seen=(e.seen.toNat:Nat)∧e.seen.toNat < L):=by
 have hE:=hN.edge e he
 refine ⟨fun hb=>?_,?_,?_⟩
 ·obtain ⟨k,h1,h2⟩:=hE.to1 hb
  rw [h1];exact ⟨by simp,by simpa using h2⟩
 ·obtain ⟨k,h1,h2⟩:=hE.lab
  rw [h1];exact ⟨by simp,by simpa using h2⟩
 ·obtain ⟨k,h1,h2⟩:=hE.seen
  rw [h1];exact ⟨by simp,by simpa using h2⟩
def howF (f:Nat→Nat→Bool) (n obs:Nat) (d:Nd) (e:Ed) (a:Nat):Nat:=
 if f (if d.kind < 7 then a else jnF f n a e.label.toNat) obs=true then 2 else if e.ck≠0∧f (jnF f n a e.seen.toNat) obs=true then 1 else 0
section
variable (ND:List Nd) (f:Nat→Nat→Bool) (n obs dep:Nat)
end
end Go.Proofs.YtbfdbhechmhpoaaGreat
set_option maxRecDepth 100000
namespace Go.Proofs.YtbfdbhechmhpoaaGreat
open Go Go.RowKit Dv Tryz
def edgeN (d:Nd) (z:Int) (j:Nat):Option Ed:=if d.kind=7 then d.edges[j]? else if d.kind=8 then d.edges[z.toNat]? else d.edges[0]?
def undF (f:Nat→Nat→Bool) (n:Nat) (d:Nd) (e:Ed) (a:Nat):Nat:=if d.kind < 7 then a else jnF f n a e.label.toNat
def hidV (e:Ed):Val:=.mk 9 e.wide emptyB []
def coarseV (e:Ed) (v:Val):Val:=
 if e.ck=1∧v.k=2∧(floorV v.n e.cn).2=true then .mk 10 (floorV v.n e.cn).1 emptyB []
 else if e.ck=2∧v.k=3 then .mk 11 0 (ba (headL e.cn.toNat (tx v.s))) []
 else if e.ck=3∧v.k=5 then .mk 12 v.ks.length emptyB []
 else hidV e
def sameC (e:Ed) (x y:Val):Bool:=
 if e.ck=1∧x.k=2 then decide (floorV x.n e.cn=floorV y.n e.cn)
 else if e.ck=2∧x.k=3 then headsL e.cn.toNat (tx x.s) (tx y.s)
 else if e.ck=3∧x.k=5 then decide (x.ks.length=y.ks.length)
 else true
theorem floorV_no (n u:Int) (h:(floorV n u).2=false):floorV n u=(0,false):=by
 unfold floorV at h ⊢
 repeat' split at h
 all_goals first | cases h | skip
 ·rename_i g;rw [if_pos g]
 ·rename_i g g2;rw [if_neg g,if_pos g2]
theorem sameC_eq (e:Ed) {x y:Val} (h:x.k=y.k):sameC e x y=sameV (coarseV e x) (coarseV e y):=by
 apply Bool.eq_iff_iff.2
 rw [sameV_iff]
 unfold sameC coarseV
 rw [← h]
 by_cases c1:e.ck=1∧x.k=2
 ·rw [if_pos c1,decide_eq_true_iff]
  have n2:¬ (e.ck=2∧x.k=3):=by omega
  have n3:¬ (e.ck=3∧x.k=5):=by omega
  rw [if_neg n2,if_neg n3,if_neg n2,if_neg n3]
  simp only [c1.1,c1.2,true_and]
  cases hx:(floorV x.n e.cn).2<;>cases hy:(floorV y.n e.cn).2
  ·rw [floorV_no _ _ hx,floorV_no _ _ hy];simp
  ·simp only [reduceIte,hidV,Val.mk.injEq,Bool.false_eq_true]
   constructor
   ·intro e;rw [e,hy] at hx;cases hx
   ·intro e;omega
  ·simp only [reduceIte,hidV,Val.mk.injEq,Bool.false_eq_true]
   constructor
   ·intro e;rw [e,hy] at hx;cases hx
   ·intro e;omega
  ·simp only [reduceIte,Val.mk.injEq,true_and,and_true]
   constructor
   ·intro e;rw [e]
   ·intro e;exact Prod.ext e (hx.trans hy.symm)
 ·have c1':∀ p:Prop,¬ (e.ck=1∧x.k=2∧p):=fun p q=>c1 ⟨q.1,q.2.1⟩
  rw [if_neg c1,if_neg (c1' _),if_neg (c1' _)]
  by_cases c2:e.ck=2∧x.k=3
  ·rw [if_pos c2,if_pos c2,if_pos c2,heads_eq,decide_eq_true_iff]
   constructor
   ·intro h;rw [h]
   ·intro h
    simp only [Val.mk.injEq,true_and,and_true] at h
    have:=congrArg tx h
    rwa [tx_ba,tx_ba] at this
  ·rw [if_neg c2,if_neg c2,if_neg c2]
   by_cases c3:e.ck=3∧x.k=5
   ·rw [if_pos c3,if_pos c3,if_pos c3,decide_eq_true_iff]
    simp only [Val.mk.injEq,true_and,and_true]
    omega
   ·rw [if_neg c3,if_neg c3,if_neg c3]
    simp
def stpZ (d:Nd) (z:Int) (j:Nat):Stp:=stpR d (.mk 0 z emptyB []) j
section
variable (ND:List Nd) (f:Nat→Nat→Bool) (L obs:Nat)
mutual
def eraseV:Val→Int→Nat→Val
 | .mk k n s ks,i,a=>match nodeA ND i with
  | none=>.mk k n s []
  | some d=>.mk k n s (eraseVs ks d n a 0)
def eraseVs:List Val→Nd→Int→Nat→Nat→List Val
 | [],_,_,_,_=>[]
 | x :: r,d,z,a,j=>(match edgeN d z j with
  | none=>x
  | some e=>if howF f L obs d e a=2 then eraseV x e.to (undF f L d e a) else if howF f L obs d e a=1 then coarseV e x else hidV e) :: eraseVs r d z a (j + 1)
end
mutual
def diffV:Val→Val→Int→Nat→Option (List Stp)
 | .mk _ n s ks,.mk _ n' s' ks',i,a=>if n≠n' ∨ s≠s' ∨ ks.length≠ks'.length then some [] else match nodeA ND i with
  | none=>none
  | some d=>diffVs ks ks' d n a 0
def diffVs:List Val→List Val→Nd→Int→Nat→Nat→Option (List Stp)
 | x :: r,y :: t,d,z,a,j=>match edgeN d z j with
  | none=>none
  | some e=>match (if howF f L obs d e a=2 then diffV x y e.to (undF f L d e a) else if howF f L obs d e a=1 then (if sameC e x y=true then none else some []) else none) with
   | some p=>some (stpZ d z j :: p)
   | none=>diffVs r t d z a (j + 1)
 | _,_,_,_,_,_=>none
end
mutual
def refD:Val→Val→Int→Option (List Stp)
 | .mk k n s ks,.mk k' n' s' ks',i=>if k≠k' ∨ n≠n' ∨ s≠s' ∨ ks.length≠ks'.length then some [] else match nodeA ND i with
  | none=>none
  | some d=>refDs ks ks' d n 0
def refDs:List Val→List Val→Nd→Int→Nat→Option (List Stp)
 | x :: r,y :: t,d,z,j=>match edgeN d z j with
  | none=>none
  | some e=>match refD x y e.to with
   | some p=>some (stpZ d z j :: p)
   | none=>refDs r t d z (j + 1)
 | _,_,_,_,_=>none
end
mutual
def vwB:Val→Int→Bool
 | .mk _ n _ ks,i=>match nodeA ND i with
  | none=>false
  | some d=>vwBs ks d n 0
def vwBs:List Val→Nd→Int→Nat→Bool
 | [],_,_,_=>true
 | x :: r,d,z,j=>match edgeN d z j with
  | none=>false
  | some e=>decide (toR d (.mk 0 z emptyB []) j=e.to) && decide (0≤e.to) && vwB x e.to && vwBs r d z (j + 1)
end
end
section
variable {ND:List Nd} {f:Nat→Nat→Bool} {L obs:Nat}
theorem eraseVs_len:∀ (ks:List Val) (d:Nd) (z:Int) (a j:Nat),(eraseVs ND f L obs ks d z a j).length=ks.length
 | [],_,_,_,_=>by rw [eraseVs]
 | x :: r,d,z,a,j=>by rw [eraseVs,List.length_cons,List.length_cons,eraseVs_len r]
theorem eraseV_top (v:Val) (i:Int) (a:Nat):(eraseV ND f L obs v i a).k=v.k∧(eraseV ND f L obs v i a).n=v.n∧(eraseV ND f L obs v i a).s=v.s:=by
 obtain ⟨k,n,s,ks⟩:=v
 rw [eraseV]
 cases nodeA ND i<;>exact ⟨rfl,rfl,rfl⟩
theorem kid_edge {N:Nat} (hok:∀ n∈ND,NdOK N ND.length n) {v:Val} {i:Int} {d:Nd} (hfit:fitV ND v i=true) (hF:FitF ND v i d) {m:Nat} {x:Val} (hx:v.ks[m]? = some x) :
  ∃ e,edgeN d v.n m=some e∧e∈d.edges∧e.bare=false∧fitV ND x e.to=true∧toR d v m=e.to∧5≤d.kind:=by
 have hN:=hok d (List.mem_of_getElem? (nodeA_some hF.node).2)
 have hm:m < v.ks.length:=(List.getElem?_eq_some_iff.1 hx).1
 have h8:=hN.k8
 have h1:=hN.k1
 by_cases h5:d.kind < 5
 ·rw [hF.leaf h5] at hx
  cases hx
 obtain ⟨hkl,hkf⟩:=hF.kids (by omega)
 rcases (show (d.kind=5∨d.kind=6)∨d.kind=7∨d.kind=8 by omega) with c | c | c
 ·obtain ⟨e,he,hb,_⟩:=hN.one c
  have ht0:to0 d=e.to:=by unfold to0;rw [he];all_goals rfl
  have hl:(kidsL d v)[m]? = some e.to:=by
   unfold kidsL
   rw [if_pos c,ht0,List.getElem?_replicate,if_pos hm]
  refine ⟨e,?_,by rw [he];exact List.mem_singleton_self e,hb,fitVs_at hkf hx hl,?_,by omega⟩
  ·unfold edgeN
   rw [if_neg (by omega),if_neg (by omega),he]
   rfl
  ·unfold toR
   rw [ht0]
   rcases c with c | c
   ·rw [if_pos c,if_pos]
    have h2:=hfit
    obtain ⟨q,z,s,ks⟩:=v
    rw [fitV,hF.node] at h2
    simp only at h2
    rw [if_neg h5,Bool.and_eq_true] at h2
    have h3:=h2.1
    unfold kidsB at h3
    rw [if_pos (.inl c)] at h3
    simp only [Bool.and_eq_true,decide_eq_true_eq] at h3
    have h4:=h3.2
    rw [if_neg (by omega)] at h4
    omega
   ·have:=hF.opt c
    rw [if_neg (by omega),if_pos c,if_pos (by omega)]
 ·have hl0:(kidsL d v)=d.edges.map Ed.to:=by
   unfold kidsL
   rw [if_neg (by omega),if_pos c]
  have hml:m < d.edges.length:=by
   rw [hl0,List.length_map] at hkl
   omega
  obtain ⟨e,he⟩:∃ e,d.edges[m]? = some e:=⟨_,List.getElem?_eq_getElem hml⟩
  have hl:(kidsL d v)[m]? = some e.to:=by rw [hl0,List.getElem?_map,he];all_goals rfl
  have hmem:=List.mem_of_getElem? he
  refine ⟨e,?_,hmem,?_,fitVs_at hkf hx hl,?_,by omega⟩
  ·unfold edgeN
   rw [if_pos c,he]
  ·cases hb:e.bare
   ·rfl
   ·have:=hN.bare e hmem hb
    omega
  ·unfold toR
   rw [if_neg (by omega),if_neg (by omega),if_pos c,he]
 ·obtain ⟨e,ht,he,h0,hlt,hb⟩:=hF.tag c
  have hbf:e.bare=false:=by
   cases hbb:e.bare
   ·rfl
   ·have:=hb.1 hbb
    rw [this] at hx
    cases hx
  have hl0:kidsL d v=[e.to]:=by
   unfold kidsL
   rw [if_neg (by omega),if_neg (by omega),ht]
   simp [hbf]
  have hm0:m=0:=by
   rw [hl0,List.length_singleton] at hkl
   omega
  subst hm0
  refine ⟨e,?_,List.mem_of_getElem? he,hbf,fitVs_at hkf hx (by rw [hl0];rfl),?_,by omega⟩
  ·unfold edgeN
   rw [if_neg (by omega),if_pos c,he]
  ·unfold toR
   rw [if_neg (by omega),if_neg (by omega),if_neg (by omega),if_pos c,if_pos ⟨by omega,h0,hlt⟩,he]
structure KidOK (ND:List Nd) (d:Nd) (z:Int) (j:Nat) (x:Val) (e:Ed):Prop where
 edge:edgeN d z j=some e
 mem:e∈d.edges
 bare:e.bare=false
 fit:fitV ND x e.to=true
 to':toR d (.mk 0 z emptyB []) j=e.to
theorem kids_ok {N:Nat} (hok:∀ n∈ND,NdOK N ND.length n) {v:Val} {i:Int} {d:Nd} (hfit:fitV ND v i=true) (hF:FitF ND v i d) {m:Nat} {x:Val} (hx:v.ks[m]? = some x):∃ e,KidOK ND d v.n m x e:=by
 obtain ⟨e,h1,h2,h3,h4,h5,_⟩:=kid_edge hok hfit hF hx
 exact ⟨e,⟨h1,h2,h3,h4,h5⟩⟩
theorem to_in {N:Nat} {d:Nd} {e:Ed} (hN:NdOK N ND.length d) (he:e∈d.edges) (hb:e.bare=false):0≤e.to∧∃ d',nodeA ND e.to=some d':=by
 obtain ⟨k,hk,hlt⟩:=(hN.edge e he).to1 hb
 refine ⟨by omega,ND[k],?_⟩
 unfold nodeA
 rw [if_neg (by omega),hk,Int.toNat_natCast,List.getElem?_eq_getElem hlt]
theorem coarseV_ks (e:Ed) (v:Val):(coarseV e v).ks=[]:=by
 unfold coarseV
 repeat' split
 all_goals rfl
theorem refD_nil {x y:Val} {i:Int} (hx:x.ks=[]) (hy:y.ks=[]):refD ND x y i=if sameV x y=true then none else some []:=by
 obtain ⟨k,n,s,ks⟩:=x
 obtain ⟨k',n',s',ks'⟩:=y
 simp only [Val.ks] at hx hy
 subst hx hy
 rw [refD]
 by_cases h:k≠k' ∨ n≠n' ∨ s≠s' ∨ ([]:List Val).length≠([]:List Val).length
 ·rw [if_pos h,if_neg]
  rw [sameV_iff]
  intro e
  cases e
  simp at h
 ·rw [if_neg h]
  simp at h
  obtain ⟨rfl,rfl,rfl⟩:=h
  rw [if_pos (sameV_refl _)]
  cases nodeA ND i with
  | none=>rfl
  | some d=>simp only;rw [refDs];simp
mutual
theorem diff_eq {N:Nat} (hok:∀ n∈ND,NdOK N ND.length n):∀ (x y:Val) (i:Int) (a:Nat),fitV ND x i=true→fitV ND y i=true →
  refD ND (eraseV ND f L obs x i a) (eraseV ND f L obs y i a) i=diffV ND f L obs x y i a
 | .mk k n s ks,.mk k' n' s' ks',i,a,hx,hy=>by
  obtain ⟨d,hF⟩:=fit_facts hok hx
  obtain ⟨d',hF'⟩:=fit_facts hok hy
  have hdd:d'=d:=by have:=hF.node;rw [hF'.node] at this;cases this;rfl
  subst hdd
  have hkk:k=k':=hF.k.trans hF'.k.symm
  subst hkk
  rw [eraseV,eraseV,diffV,hF.node]
  simp only
  rw [refD,hF.node]
  simp only
  rw [eraseVs_len,eraseVs_len]
  by_cases h:n≠n' ∨ s≠s' ∨ ks.length≠ks'.length
  ·rw [if_pos h,if_pos (.inr h)]
  ·rw [if_neg h,if_neg (by simpa using h)]
   simp at h
   obtain ⟨rfl,rfl,hl⟩:=h
   exact diff_eqs hok ks ks' d' n a 0 hl (hok d' (List.mem_of_getElem? (nodeA_some hF.node).2)) (fun m x y hx1 hy1=>by
    obtain ⟨e,he⟩:=kids_ok hok hx hF hx1
    obtain ⟨e',he'⟩:=kids_ok hok hy hF' hy1
    have h1:=he.edge
    have h2:=he'.edge
    simp only [Val.n] at h1 h2
    rw [h1] at h2
    cases h2
    exact ⟨e,by rw [Nat.zero_add];exact he,he'.fit⟩)
theorem diff_eqs {N:Nat} (hok:∀ n∈ND,NdOK N ND.length n):∀ (ks ls:List Val) (d:Nd) (z:Int) (a j:Nat),ks.length=ls.length→NdOK N ND.length d→(∀ m x y,ks[m]? = some x→ls[m]? = some y→∃ e,KidOK ND d z (j + m) x e∧fitV ND y e.to=true) →
  refDs ND (eraseVs ND f L obs ks d z a j) (eraseVs ND f L obs ls d z a j) d z j=diffVs ND f L obs ks ls d z a j
 | [],[],_,_,_,_,_,_,_=>by rw [eraseVs,refDs,diffVs]<;>simp
 | x :: r,y :: t,d,z,a,j,hl,hN,hk=>by
  obtain ⟨e,he,hfy⟩:=hk 0 x y rfl rfl
  rw [Nat.add_zero] at he
  have ih:=diff_eqs hok r t d z a (j + 1) (by simpa using hl) hN (fun m x y h1 h2=>by
   have:=hk (m + 1) x y h1 h2
   rwa [show j + (m + 1)=j + 1 + m by omega] at this)
  rw [eraseVs,eraseVs,refDs,diffVs,he.edge]
  simp only
  rw [ih]
  have hxk:x.k=y.k:=by
   obtain ⟨d1,hF1⟩:=fit_facts hok he.fit
   obtain ⟨d2,hF2⟩:=fit_facts hok hfy
   have:=hF1.node
   rw [hF2.node] at this
   cases this
   exact hF1.k.trans hF2.k.symm
  by_cases c2:howF f L obs d e a=2
  ·rw [if_pos c2,if_pos c2,if_pos c2,diff_eq hok x y e.to (undF f L d e a) he.fit hfy]
  ·rw [if_neg c2,if_neg c2,if_neg c2]
   by_cases c1:howF f L obs d e a=1
   ·rw [if_pos c1,if_pos c1,if_pos c1,refD_nil (coarseV_ks e x) (coarseV_ks e y),sameC_eq e hxk]
   ·rw [if_neg c1,if_neg c1,if_neg c1,refD_nil (x:=hidV e) (y:=hidV e) rfl rfl,if_pos (sameV_refl _)]
 | [],_ :: _,_,_,_,_,hl,_,_=>by simp at hl
 | _ :: _,[],_,_,_,_,hl,_,_=>by simp at hl
end
mutual
theorem refD_none:∀ (x y:Val) (i:Int),vwB ND x i=true→(refD ND x y i=none↔x=y)
 | .mk k n s ks,.mk k' n' s' ks',i,hx=>by
  rw [vwB] at hx
  rw [refD]
  by_cases h:k≠k' ∨ n≠n' ∨ s≠s' ∨ ks.length≠ks'.length
  ·rw [if_pos h]
   constructor
   ·intro e;cases e
   ·intro e;cases e;simp at h
  ·rw [if_neg h]
   simp at h
   obtain ⟨rfl,rfl,rfl,hl⟩:=h
   cases hd:nodeA ND i with
   | none=>rw [hd] at hx;cases hx
   | some d=>
    rw [hd] at hx
    simp only at hx ⊢
    rw [refDs_none ks ks' d n 0 hl hx]
    constructor
    ·rintro rfl;rfl
    ·intro e;cases e;rfl
theorem refDs_none:∀ (ks ls:List Val) (d:Nd) (z:Int) (j:Nat),ks.length=ls.length→vwBs ND ks d z j=true→(refDs ND ks ls d z j=none↔ks=ls)
 | [],[],_,_,_,_,_=>by rw [refDs]<;>simp
 | x :: r,y :: t,d,z,j,hl,hx=>by
  rw [vwBs] at hx
  rw [refDs]
  cases he:edgeN d z j with
  | none=>rw [he] at hx;cases hx
  | some e=>
   rw [he] at hx
   simp only [Bool.and_eq_true] at hx ⊢
   have h1:=refD_none x y e.to hx.1.2
   have h2:=refDs_none r t d z (j + 1) (by simpa using hl) hx.2
   cases hr:refD ND x y e.to with
   | none=>
    have:=h1.1 hr
    subst this
    simp only
    rw [h2]
    constructor
    ·rintro rfl;rfl
    ·intro e;cases e;rfl
   | some p=>
    simp only
    constructor
    ·intro e;cases e
    ·intro e
     cases e
     rw [h1.2 rfl] at hr
     cases hr
 | [],_ :: _,_,_,_,hl,_=>by simp at hl
 | _ :: _,[],_,_,_,hl,_=>by simp at hl
end
mutual
theorem erase_vw {N:Nat} (hok:∀ n∈ND,NdOK N ND.length n):∀ (x:Val) (i:Int) (a:Nat),fitV ND x i=true→vwB ND (eraseV ND f L obs x i a) i=true
 | .mk k n s ks,i,a,hx=>by
  obtain ⟨d,hF⟩:=fit_facts hok hx
  rw [eraseV,hF.node]
  simp only
  rw [vwB,hF.node]
  simp only
  exact erase_vws hok ks d n a 0 (hok d (List.mem_of_getElem? (nodeA_some hF.node).2)) (fun m x hx1=>by rw [Nat.zero_add];exact kids_ok hok hx hF hx1)
theorem erase_vws {N:Nat} (hok:∀ n∈ND,NdOK N ND.length n):∀ (ks:List Val) (d:Nd) (z:Int) (a j:Nat),NdOK N ND.length d→(∀ m x,ks[m]? = some x→∃ e,KidOK ND d z (j + m) x e) →
  vwBs ND (eraseVs ND f L obs ks d z a j) d z j=true
 | [],_,_,_,_,_,_=>by rw [eraseVs,vwBs]
 | x :: r,d,z,a,j,hN,hk=>by
  obtain ⟨e,he⟩:=hk 0 x rfl
  rw [Nat.add_zero] at he
  have ih:=erase_vws hok r d z a (j + 1) hN (fun m x h1=>by
   have:=hk (m + 1) x h1
   rwa [show j + (m + 1)=j + 1 + m by omega] at this)
  obtain ⟨h0,d',hd'⟩:=to_in hN he.mem he.bare
  have hnil:∀ w:Val,w.ks=[]→vwB ND w e.to=true:=by
   intro ⟨k,n,s,ks⟩ h
   simp only [Val.ks] at h
   subst h
   rw [vwB,hd']
   simp only
   rw [vwBs]
  rw [eraseVs,vwBs,he.edge]
  simp only
  rw [ih,he.to',decide_eq_true rfl,decide_eq_true h0]
  simp only [Bool.true_and,Bool.and_true]
  by_cases c2:howF f L obs d e a=2
  ·rw [if_pos c2]
   exact erase_vw hok x e.to (undF f L d e a) he.fit
  ·rw [if_neg c2]
   by_cases c1:howF f L obs d e a=1
   ·rw [if_pos c1]
    exact hnil _ (coarseV_ks e x)
   ·rw [if_neg c1]
    exact hnil _ rfl
end
theorem alike_eq {N:Nat} (hok:∀ n∈ND,NdOK N ND.length n) {x y:Val} {i:Int} {a:Nat} (hx:fitV ND x i=true) (hy:fitV ND y i=true) :
  sameV (eraseV ND f L obs x i a) (eraseV ND f L obs y i a)=(diffV ND f L obs x y i a).isNone:=by
 apply Bool.eq_iff_iff.2
 rw [sameV_iff,← refD_none _ _ i (erase_vw hok x i a hx),diff_eq hok x y i a hx hy]
 cases diffV ND f L obs x y i a<;>simp
end
section
variable (ND:List Nd) (f:Nat→Nat→Bool) (L obs:Nat)
mutual
def narrowV:Val→Int→Nat→Val
 | .mk k n s ks,i,a=>match nodeA ND i with
  | none=>.mk k n s []
  | some d=>.mk k n s (narrowVs ks d n a 0)
def narrowVs:List Val→Nd→Int→Nat→Nat→List Val
 | [],_,_,_,_=>[]
 | x :: r,d,z,a,j=>(match edgeN d z j with
  | none=>x
  | some e=>if howF f L obs d e a=2 then narrowV x e.to (undF f L d e a) else if howF f L obs d e a=1 then (if x.k < 9 then coarseV e x else x) else hidV e) :: narrowVs r d z a (j + 1)
end
end
section
variable {ND:List Nd} {f:Nat→Nat→Bool} {L obs:Nat}
theorem howF_eq (d:Nd) (e:Ed) (a:Nat):howF f L obs d e a=if f (undF f L d e a) obs=true then 2 else if e.ck≠0∧f (jnF f L a e.seen.toNat) obs=true then 1 else 0:=rfl
theorem undF_lt {N:Nat} {d:Nd} {e:Ed} {a:Nat} (hL:LatOK f L) (hN:NdOK L N d) (hm:e∈d.edges) (ha:a < L):undF f L d e a < L:=by
 obtain ⟨k,hk,hl⟩:=(hN.edge e hm).lab
 unfold undF
 split
 ·exact ha
 ·exact jnF_lt hL ha (by rw [hk,Int.toNat_natCast];exact hl)
theorem seen_lt {N:Nat} {d:Nd} {e:Ed} {a:Nat} (hL:LatOK f L) (hN:NdOK L N d) (hm:e∈d.edges) (ha:a < L):jnF f L a e.seen.toNat < L:=by
 obtain ⟨k,hk,hl⟩:=(hN.edge e hm).seen
 exact jnF_lt hL ha (by rw [hk,Int.toNat_natCast];exact hl)
theorem how_mono {N:Nat} {d:Nd} {e:Ed} {a o:Nat} (hL:LatOK f L) (hN:NdOK L N d) (hm:e∈d.edges) (ha:a < L) (ho:o < L) (hb:obs < L) (hle:f o obs=true):howF f L o d e a≤howF f L obs d e a:=by
 have h1:=undF_lt hL hN hm ha
 have h2:=seen_lt hL hN hm ha
 rw [howF_eq,howF_eq]
 by_cases c:f (undF f L d e a) o=true
 ·rw [if_pos c,if_pos (hL.tr _ _ _ h1 ho hb c hle)]
  exact Nat.le_refl _
 ·rw [if_neg c]
  by_cases c2:e.ck≠0∧f (jnF f L a e.seen.toNat) o=true
  ·rw [if_pos c2]
   split
   ·omega
   ·rw [if_pos ⟨c2.1,hL.tr _ _ _ h2 ho hb c2.2 hle⟩]
    exact Nat.le_refl _
  ·rw [if_neg c2]
   omega
theorem coarseV_k (e:Ed) (v:Val):9≤(coarseV e v).k:=by
 unfold coarseV
 repeat' split
 all_goals (first | (show (9:Int)≤10;omega) | (show (9:Int)≤11;omega) | (show (9:Int)≤12;omega) | (show (9:Int)≤9;omega))
theorem eraseV_len (v:Val) (i:Int) (a:Nat) {d:Nd} (hd:nodeA ND i=some d):(eraseV ND f L obs v i a).ks.length=v.ks.length:=by
 obtain ⟨k,n,s,ks⟩:=v
 rw [eraseV,hd]
 exact eraseVs_len ks d n a 0
theorem coarse_erase (e:Ed) (v:Val) (i:Int) (a:Nat) {d:Nd} (hd:nodeA ND i=some d):coarseV e (eraseV ND f L obs v i a)=coarseV e v:=by
 obtain ⟨h1,h2,h3⟩:=eraseV_top (ND:=ND) (f:=f) (L:=L) (obs:=obs) v i a
 have h4:=eraseV_len (f:=f) (L:=L) (obs:=obs) v i a hd
 unfold coarseV
 rw [h1,h2,h3,h4]
mutual
theorem erase_narrow {N o:Nat} (hok:∀ n∈ND,NdOK L ND.length n) (hL:LatOK f L) (ho:o < L) (hb:obs < L) (hle:f o obs=true):∀ (x:Val) (i:Int) (a:Nat),a < L→fitV ND x i=true →
  narrowV ND f L o (eraseV ND f L obs x i a) i a=eraseV ND f L o x i a
 | .mk k n s ks,i,a,ha,hx=>by
  obtain ⟨d,hF⟩:=fit_facts hok hx
  rw [eraseV,eraseV,hF.node]
  simp only
  rw [narrowV,hF.node]
  simp only
  rw [erase_narrows (N:=N) hok hL ho hb hle ks d n a 0 ha (hok d (List.mem_of_getElem? (nodeA_some hF.node).2)) (fun m x hx1=>by rw [Nat.zero_add];exact kids_ok hok hx hF hx1)]
theorem erase_narrows {N o:Nat} (hok:∀ n∈ND,NdOK L ND.length n) (hL:LatOK f L) (ho:o < L) (hb:obs < L) (hle:f o obs=true):∀ (ks:List Val) (d:Nd) (z:Int) (a j:Nat),a < L→NdOK L ND.length d→(∀ m x,ks[m]? = some x→∃ e,KidOK ND d z (j + m) x e) →
  narrowVs ND f L o (eraseVs ND f L obs ks d z a j) d z a j=eraseVs ND f L o ks d z a j
 | [],_,_,_,_,_,_,_=>by rw [eraseVs,eraseVs,narrowVs]
 | x :: r,d,z,a,j,ha,hN,hk=>by
  obtain ⟨e,he⟩:=hk 0 x rfl
  rw [Nat.add_zero] at he
  have ih:=erase_narrows (N:=N) hok hL ho hb hle r d z a (j + 1) ha hN (fun m x h1=>by
   have:=hk (m + 1) x h1
   rwa [show j + (m + 1)=j + 1 + m by omega] at this)
  rw [eraseVs,eraseVs,narrowVs,he.edge]
  simp only
  rw [ih]
  congr 1
  have hm:=how_mono hL hN he.mem ha ho hb hle
  obtain ⟨d',hF'⟩:=fit_facts hok he.fit
  have hN':=hok d' (List.mem_of_getElem? (nodeA_some hF'.node).2)
  have h8:=hN'.k8
  have hk9:x.k < 9:=by rw [hF'.k];omega
  have h2:howF f L obs d e a≤2:=by
   rw [howF_eq]
   repeat' split
   all_goals omega
  by_cases c2:howF f L o d e a=2
  ·rw [if_pos c2,if_pos c2,if_pos (by omega)]
   exact erase_narrow (N:=N) hok hL ho hb hle x e.to _ (undF_lt hL hN he.mem ha) he.fit
  ·rw [if_neg c2,if_neg c2]
   by_cases c1:howF f L o d e a=1
   ·rw [if_pos c1,if_pos c1]
    by_cases c3:howF f L obs d e a=2
    ·rw [if_pos c3,(eraseV_top x e.to _).1,if_pos hk9,coarse_erase e x e.to _ hF'.node]
    ·have c5:howF f L obs d e a=1:=by omega
     rw [if_neg c3,if_pos c5,if_neg (by have:=coarseV_k e x;omega)]
   ·rw [if_neg c1,if_neg c1]
end
theorem diff_sym {N:Nat} (hok:∀ n∈ND,NdOK N ND.length n) {x y:Val} {i:Int} {a:Nat} (hx:fitV ND x i=true) (hy:fitV ND y i=true) :
  (diffV ND f L obs x y i a).isNone=(diffV ND f L obs y x i a).isNone:=by
 rw [← alike_eq hok hx hy,← alike_eq hok hy hx]
 apply Bool.eq_iff_iff.2
 rw [sameV_iff,sameV_iff]
 exact eq_comm
theorem diff_refl {N:Nat} (hok:∀ n∈ND,NdOK N ND.length n) {x:Val} {i:Int} {a:Nat} (hx:fitV ND x i=true) :
  (diffV ND f L obs x x i a).isNone=true:=by
 rw [← alike_eq hok hx hx]
 exact sameV_refl _
theorem diff_mono {o:Nat} (hok:∀ n∈ND,NdOK L ND.length n) (hL:LatOK f L) (ho:o < L) (hb:obs < L) (hle:f o obs=true) {x y:Val} {i:Int} {a:Nat} (ha:a < L) (hx:fitV ND x i=true) (hy:fitV ND y i=true)
  (h:(diffV ND f L obs x y i a).isNone=true):(diffV ND f L o x y i a).isNone=true:=by
 rw [← alike_eq hok hx hy,sameV_iff] at h ⊢
 rw [← erase_narrow (N:=0) hok hL ho hb hle x i a ha hx,h,erase_narrow (N:=0) hok hL ho hb hle y i a ha hy]
end
end Go.Proofs.YtbfdbhechmhpoaaGreat
set_option maxRecDepth 100000
namespace Go.Proofs.YtbfdbhechmhpoaaGreat
open Go Go.RowKit Dv Tryz
abbrev hdsSt (a b:ByteArray) (at':Nat) (m:Int) (e:Nat):St:=⟨[(0,⟨[],.v (.string a)⟩),(1,⟨[],.v (.string b)⟩),(7,⟨[],.v (.int .i64 at')⟩),(12,⟨[],.v (.int .i64 m)⟩),(13,⟨[],.v (.int .i64 e)⟩)],[],[]⟩
theorem heads_spec (a b:ByteArray) (ha:a.size≤1099511627776) (hb:b.size≤1099511627776) (m:Int) (hm:m≤9223372036854775807):EvP Tryz.prog 257 [.v (.string a),.v (.string b),.v (.int .i64 m)] (.v (.bool (headsL m.toNat (tx a) (tx b)))):=by
 refine ev_go (P:=Tryz.prog) tt tt_ok 5000 49 [.tmp 6] Tryz.func257 rfl Tryz.ntmps257 rfl (Nat.le_of_ble_eq_true rfl) (fun E9 w9 hn9 hm9=>?_)
 refine loop_i (fun j st=>∃ e at':Nat,st=hdsSt a b at' m e∧(e:Int)≤max m 0∧at' ≤ a.size∧at' ≤ b.size∧headsL (m.toNat - e) ((tx a).drop at') ((tx b).drop at')=headsL m.toNat (tx a) (tx b)∧j=m.toNat - e) m.toNat (hdsSt a b 0 m 0) (weak_mk ⟨_,rfl⟩ wA rfl rfl rfl (by repeat' (first | exact trivial | exact we_rfl rfl | exact we_int rfl | refine ⟨⟨_,rfl,?_⟩,?_⟩))) ⟨0,0,rfl,by omega,by omega,by omega,rfl,by omega⟩ ?_
 rintro j st ⟨e,at',rfl,he,h1,h2,hE,rfl⟩
 refine br (fun hL=>?_) (fun hL=>?_)
 rotate_left
 ·have hge:m.toNat - e=0:=by have:=of_decide_eq_false hL;omega
  rw [hge] at hE
  rw [← hE]
  exact (rfl:_=_)
 have hlt:(e:Int) < m:=of_decide_eq_true hL
 obtain ⟨k,hk⟩:∃ k,m.toNat - e=k + 1:=⟨m.toNat - e - 1,by omega⟩
 have hstep:headsL (k + 1) ((tx a).drop at') ((tx b).drop at')=(decide (unN ((tx a).drop at')=unN ((tx b).drop at')) && decide (((tx a).drop at').take (unN ((tx a).drop at'))=((tx b).drop at').take (unN ((tx b).drop at'))) && headsL k (((tx a).drop at').drop (unN ((tx a).drop at'))) (((tx b).drop at').drop (unN ((tx b).drop at')))):=rfl
 rw [hk,hstep] at hE
 have hua:=unit_spec a at' ha h1
 have hub:=unit_spec b at' hb h2
 have hla:unN ((tx a).drop at') + at' ≤ a.size:=by
  have:=tx_len a
  by_cases c:(tx a).drop at'=[]
  ·rw [c];show 0 + at' ≤ _;omega
  ·have:=(unN_pos c).2
   rw [List.length_drop] at this
   omega
 have hlb:unN ((tx b).drop at') + at' ≤ b.size:=by
  have:=tx_len b
  by_cases c:(tx b).drop at'=[]
  ·rw [c];show 0 + at' ≤ _;omega
  ·have:=(unN_pos c).2
   rw [List.length_drop] at this
   omega
 refine call_e en290 rfl hua ax (fun q hq=>?_)
 obtain ⟨z1,rfl⟩:=hq
 refine call_e en290 rfl hub ax (fun q hq=>?_)
 obtain ⟨z2,rfl⟩:=hq
 generalize unN ((tx a).drop at')=n at hE hla ⊢
 generalize unN ((tx b).drop at')=m' at hE hlb ⊢
 refine drawG_i (fun _=>false) mo (by decide +kernel) ?_
 refine br (fun c=>?_) (fun c=>?_)
 ·have c:n=m':=by
   have:(n:Int)=m':=by simpa using c
   omega
  subst c
  rw [decide_eq_true rfl,Bool.true_and] at hE
  have hw:IntKind.i64.wrap ((at':Int) + n)=((at' + n:Nat):Int):=by
   rw [wrap64 (by omega) (by omega)]
   omega
  have he1:IntKind.i64.wrap ((e:Int) + 1)=((e + 1:Nat):Int):=by
   rw [wrap64 (by omega) (by omega)]
   omega
  have hx:∀ s:ByteArray,s.extract at' (IntKind.i64.wrap ((at':Int) + n)).toNat=ba (((tx s).drop at').take n):=fun s=>ba_ext (by
   rw [hw,Int.toNat_natCast]
   simp [tx])
  refine ⟨⟨by omega,by rw [hw];omega,by rw [hw];omega⟩,?_⟩
  refine ⟨⟨by omega,by rw [hw];omega,by rw [hw];omega⟩,?_⟩
  refine br (fun c=>?_) (fun c=>?_)
  ·have c:¬ ((tx a).drop at').take n=((tx b).drop at').take n:=by
    have c1:¬ a.extract at' (IntKind.i64.wrap ((at':Int) + n)).toNat=b.extract at' (IntKind.i64.wrap ((at':Int) + n)).toNat:=by simpa [pickB] using c
    rw [hx,hx,ba_inj] at c1
    exact c1
   rw [decide_eq_false c] at hE
   rw [← hE]
   exact (rfl:_=_)
  ·have c:((tx a).drop at').take n=((tx b).drop at').take n:=by
    have c1:a.extract at' (IntKind.i64.wrap ((at':Int) + n)).toNat=b.extract at' (IntKind.i64.wrap ((at':Int) + n)).toNat:=by simpa [pickB] using c
    rw [hx,hx,ba_inj] at c1
    exact c1
   rw [decide_eq_true c,Bool.true_and,List.drop_drop,List.drop_drop] at hE
   exact ⟨hdsSt a b (at' + n) m (e + 1),(weak_mk ⟨_,rfl⟩ wA rfl rfl rfl (by repeat' (first | exact trivial | exact we_rfl rfl | exact we_int hw | exact we_int he1 | refine ⟨⟨_,rfl,?_⟩,?_⟩))),m.toNat - (e + 1),by omega,e + 1,at' + n,rfl,by omega,by omega,by omega,by rw [show m.toNat - (e + 1)=k by omega];exact hE,rfl⟩
 ·have c:¬ n=m':=by
   have:¬ (n:Int)=m':=by simpa using c
   omega
  rw [decide_eq_false c] at hE
  rw [← hE]
  exact (rfl:_=_)
theorem floors_spec (a b u:Int) (ha : -9223372036854775808≤a∧a≤9223372036854775807) (hb : -9223372036854775808≤b∧b≤9223372036854775807) (hu : -9223372036854775808≤u∧u≤9223372036854775807) :
  EvP Tryz.prog 256 [.v (.int .i64 a),.v (.int .i64 b),.v (.int .i64 u)] (.v (.bool (decide (floorV a u=floorV b u)))):=by
 have h1:=floor_spec a u ha hu
 have h2:=floor_spec b u hb hu
 unfold floorD at h1 h2
 generalize floorV a u=x at h1 ⊢
 generalize floorV b u=y at h2 ⊢
 obtain ⟨x1,x2⟩:=x
 obtain ⟨y1,y2⟩:=y
 refine ev_go (P:=Tryz.prog) tt tt_ok 5000 31 [.tmp 6] Tryz.func256 rfl Tryz.ntmps256 rfl (Nat.le_of_ble_eq_true rfl) (fun E9 w9 hn9 hm9=>?_)
 refine call_p en261 (h1) ax rfl ?_
 refine call_p en261 (h2) ax rfl ?_
 refine (congrArg (fun z=>DV.v (.bool z)) ?_:_=_)
 simp only [pickB_and,Prod.mk.injEq,Bool.decide_and]
 cases x2<;>cases y2<;>rfl
end Go.Proofs.YtbfdbhechmhpoaaGreat
set_option maxRecDepth 100000
namespace Go.Proofs.YtbfdbhechmhpoaaGreat
open Go Go.RowKit Dv Tryz
mutual
def rngW:Val→Prop
 | .mk k n _ ks=>I64 k∧I64 n∧rngWs ks
def rngWs:List Val→Prop
 | []=>True
 | v :: r=>rngW v∧rngWs r
end
theorem rngWs_mem:∀ {l:List Val} {x:Val},rngWs l→x∈l→rngW x
 | v :: r,x,h,hm=>by
  rw [rngWs] at h
  rcases List.mem_cons.1 hm with rfl | hm
  ·exact h.1
  ·exact rngWs_mem h.2 hm
theorem rngW_n {v:Val} (h:rngW v) : -9223372036854775808≤v.n∧v.n≤9223372036854775807:=by
 obtain ⟨k,n,s,ks⟩:=v
 rw [rngW] at h
 exact h.2.1
theorem rngW_ks {v:Val} (h:rngW v):rngWs v.ks:=by
 obtain ⟨k,n,s,ks⟩:=v
 rw [rngW] at h
 exact h.2.2
theorem es_valr {m:Nat} (ih:∀ k,k≤m→∀ ds,Typ Tryz.prog k 82 ds→∃ v:Val,ds=dVal v∧rngW v∧v.wt≤wgL ds) :
  ∀ {es:List (List DV)},(∀ cs∈es,Typ Tryz.prog m 82 cs)→∃ l:List Val,es=dVals l∧rngWs l∧wtVs l≤wgEs es
 | [],h=>⟨[],rfl,by simp [rngWs],by simp [wtVs]⟩
 | cs :: r,h=>by
  obtain ⟨l,rfl,hr,hl⟩:=es_valr ih (es:=r) (fun c hc=>h c (List.mem_cons_of_mem _ hc))
  obtain ⟨v,rfl,hr2,hv⟩:=ih m (Nat.le_refl _) cs (h cs (by simp))
  exact ⟨v :: l,rfl,by rw [rngWs];exact ⟨hr2,hr⟩,by simp only [wtVs,wgEs];omega⟩
theorem typ_valr:∀ (n:Nat) (ds:List DV),Typ Tryz.prog n 82 ds→∃ v:Val,ds=dVal v∧rngW v∧v.wt≤wgL ds:=by
 intro n
 induction n using Nat.strongRecOn with
 | _ n ih=>
  intro ds h
  obtain ⟨m,rfl,hf⟩:=typ_st Tryz.underlying82 h
  obtain ⟨a1,b1,rfl,h1,a2,b2,rfl,h2,a3,b3,rfl,h3,a4,b4,rfl,h4,rfl⟩:=hf
  obtain ⟨k,rfl,r1⟩:=typ_i h1
  obtain ⟨z,rfl,r2⟩:=typ_i h2
  obtain ⟨s,rfl⟩:=typ_str Tryz.underlying9 h3
  obtain ⟨j,es,rfl,rfl,hes⟩:=typ_sl Tryz.underlying80 h4
  obtain ⟨l,rfl,r3,wl⟩:=es_valr (fun i hi=>ih i (by omega)) hes
  rw [cells_value]
  refine ⟨.mk k z s l,rfl,by rw [rngW];exact ⟨r1,r2,r3⟩,?_⟩
  simp only [Val.wt,wgL_append,wgL,wgD] at *
  omega
namespace Dv
theorem arg_ar2 {H:Type} {enc:TypeId × Value→H} {P:Program} {W:World} {base:Nat} {S:List TypeId} {bk:DataW H→Nat} (hbk:Bk bk) (hS:∀ t∈S,flatOK P S t=true) {t e:TypeId} {v:Value} {d:DataW H} {ps:List MemPlace} (he:e∈S) (hu:P.underlying t=some (.array 2 e)) (hc:P.cellsOf t=2 * P.cellsOf e)
  (hval:Value.okWide P W .any base t v) (h:DataW.Trod enc P W 0 (fun _=>true) true t v d ps):∃ n a b,Rv (enW W) (.agg (a ++ b)) v∧Typ P n e a∧Typ P n e b∧wgL a + wgL b≤64 * bk d:=by
 unfold Value.okWide at hval
 rw [hu] at hval
 obtain ⟨cs,rfl,_,_⟩:=hval
 obtain ⟨n,hn⟩:=h
 obtain ⟨xs,m,rfl,hx,hlen,hxl,hf⟩:=DataW.trod_array hu hn
 match xs,hxl with
 | [x,y],_=>
  obtain ⟨a,a1,a2,a3,a4,a5⟩:=rd_trod hbk hS m e _ x he (hf 0 (by omega))
  obtain ⟨b,b1,b2,b3,b4,b5⟩:=rd_trod hbk hS m e _ y he (hf 1 (by omega))
  cases hx
  have hb:=hbk.agg [x.1,y.1]
  rw [hc] at hlen
  have hcs:cs.toList=(cs.toList.drop (0 * P.cellsOf e)).take (P.cellsOf e) ++ (cs.toList.drop (1 * P.cellsOf e)).take (P.cellsOf e):=by
   have h1:(Value.agg cs).cells.toList=cs.toList:=rfl
   rw [h1] at hlen
   rw [Nat.zero_mul,Nat.one_mul,List.drop_zero,List.take_of_length_le (l:=cs.toList.drop (P.cellsOf e)) (by rw [List.length_drop];omega),List.take_append_drop]
  refine ⟨m,a,b,?_,a3,b3,?_⟩
  ·unfold Rv
   refine ⟨cs.toList,by simp,?_,?_⟩
   ·rw [hcs]
    exact RvL.append a1 b1
   ·rw [hcs]
    intro v hv
    rcases List.mem_append.1 hv with hv | hv
    ·exact a2 v hv
    ·exact b2 v hv
  ·simp only [List.map_cons,List.map_nil,bkS] at hb ⊢
   omega
end Dv
end Go.Proofs.YtbfdbhechmhpoaaGreat
set_option maxRecDepth 100000
namespace Go.Proofs.YtbfdbhechmhpoaaGreat
open Go Go.RowKit Dv Tryz
mutual
theorem flatT_rng:∀ (t:Ty),rngT t→∀ u∈flatT t,rngT u
 | .mk h ps,hr,u,hu=>by
  rw [flatT] at hu
  split at hu
  ·cases hu
  ·rcases List.mem_cons.1 hu with rfl | hu
   ·exact hr
   ·rw [rngT] at hr
    exact flatP_rng ps hr.2.2.2 u hu
theorem flatP_rng:∀ (ps:Pts),rngP ps→∀ u∈flatP ps,rngT u
 | .nil,_,u,hu=>by cases hu
 | .cons p v r,hr,u,hu=>by
  rw [flatP] at hu
  rw [rngP] at hr
  rcases List.mem_append.1 hu with hu | hu
  ·split at hu
   ·cases hu
   ·exact flatT_rng v hr.2.2.1 u hu
  ·exact flatP_rng r hr.2.2.2 u hu
end
theorem edsP_rng {lev:List Wd→Int} {s:Sch}:∀ (ps:Pts) (k:Nat),rngP ps→∀ e∈edsP lev s ps k,I64 e.cn
 | .nil,_,_,e,he=>by cases he
 | .cons p v r,k,hr,e,he=>by
  rw [edsP] at he
  rw [rngP] at hr
  rcases List.mem_cons.1 he with rfl | he
  ·exact hr.2.1
  ·exact edsP_rng r _ hr.2.2.2 e he
def rngN (n:Nd):Prop:=I64 n.lo∧I64 n.hi∧∀ e∈n.edges,I64 e.cn
theorem resNds_rng {S:Sch} (hr:rngS S) {n:Nd} (h:n∈resNds S):rngN n:=by
 rw [resNds_eq] at h
 obtain ⟨t,ht,u,hu,k,rfl⟩:=ndsA_mem h
 have h1:rngT t:=by
  rcases List.mem_append.1 ht with h | h
  ·obtain ⟨x,hx,rfl⟩:=List.mem_map.1 h
   exact hr.1 x hx
  ·simp only [List.mem_singleton] at h
   subst h
   exact hr.2
 have h2:=flatT_rng t h1 u hu
 obtain ⟨uh,us⟩:=u
 rw [rngT] at h2
 exact ⟨h2.1,h2.2.1,edsP_rng us _ h2.2.2.2⟩
end Go.Proofs.YtbfdbhechmhpoaaGreat
set_option maxRecDepth 100000
namespace Go.Proofs.YtbfdbhechmhpoaaGreat
open Go Go.RowKit Dv Tryz
end Go.Proofs.YtbfdbhechmhpoaaGreat
namespace Go.Proofs.YtbfdbhechmhpoaaGreat
namespace Dv
open Go Go.RowKit
section
variable {P:Program} {ops:Array Oper} {C:World→Prop} {Q:Act→World→Prop} {W:Nat→Bool} {x:Nat}
end
section
variable {X:Ctx} {D:Dw} {x:Nat} {tail:List Nat} {π:Nat→Nat}
end
end Dv
end Go.Proofs.YtbfdbhechmhpoaaGreat
set_option maxRecDepth 100000
namespace Go.Proofs.YtbfdbhechmhpoaaGreat
open Go Go.RowKit Dv Tryz
abbrev wL (lv:List Wd) (f:Nat→Nat→Bool) (ND:List Nd) (z:Int):List DV:=[.sl 2 (dWds lv) none,.sl 1 (dMat (matB lv.length f)) none,.sl 7 (dNds ND) none,.v (.int .i64 z)]
end Go.Proofs.YtbfdbhechmhpoaaGreat
set_option maxRecDepth 100000
namespace Go.Proofs.YtbfdbhechmhpoaaGreat
open Go Go.RowKit Dv Tryz
end Go.Proofs.YtbfdbhechmhpoaaGreat
set_option maxRecDepth 100000
namespace Go.Proofs.YtbfdbhechmhpoaaGreat
open Go Go.RowKit Dv Tryz
theorem resNds_bare {S:Sch} (hF:FineS S) {i:Nat} {n:Nd} (h:(resNds S)[i]? = some n) {e:Ed} (he:e∈n.edges) (hb:e.bare=true):e.ck=0:=by
 have hk8:=(resNds_ok hF h).bare e he hb
 rw [resNds_eq] at h
 obtain ⟨t,ht,u,hu,rfl,hpos⟩:=ndsA_get h
 have hwr:=flatT_wr t ⟨_,_,hF.wr t ht⟩ u hu
 have hT:=tyF_of hwr
 obtain ⟨uh,us⟩:=u
 simp only [Ty.h,Ty.ps] at hT
 obtain ⟨p,v,k',h1,rfl,_⟩:=edsP_mem he
 obtain ⟨j,hj⟩:=List.mem_iff_getElem?.1 h1
 obtain ⟨_,hP⟩:=(hT.many (.inr hk8)).2.2 j p v hj
 rcases hP with ⟨_,_,_,hpl⟩ | ⟨hb',_⟩
 ·exact (wide_zero hpl).2.2.1
 ·have:p.bare=true:=hb
  rw [hb'] at this;cases this
def wantK (ck:Int):Int:=if ck=3 then 5 else if ck=2 then 3 else 2
def EffE (f:Nat→Nat→Bool) (ND:List Nd) (e:Ed):Prop:=e.ck≠0→(∃ m,ND[e.to.toNat]? = some m∧m.kind=wantK e.ck)∧f e.seen.toNat e.label.toNat=true∧f e.label.toNat e.seen.toNat=false
def EffOK (f:Nat→Nat→Bool) (ND:List Nd):Prop:=∀ n∈ND,∀ e∈n.edges,EffE f ND e
abbrev w20St (W:List DV) (e:Nat):St:=⟨[(1,⟨[],.loc 0 0⟩),(2,⟨[],.loc 1 0⟩),(3,⟨[],.v (.int .i64 e)⟩)],[W,[.v (.int .i64 0),.v (.int .i64 0)]],[]⟩
abbrev w20bSt (W:List DV) (es:List Ed) (e k:Nat):St:=⟨[(1,⟨[],.loc 0 0⟩),(2,⟨[],.loc 1 0⟩),(3,⟨[],.v (.int .i64 e)⟩),(4,⟨[],.sl 10 (dEds es) none⟩),(5,⟨[],.v (.int .i64 k)⟩)],[W,[.v (.int .i64 0),.v (.int .i64 0)]],[]⟩
def W20Φ (f:Nat→Nat→Bool) (ND:List Nd) (r:DV):Prop:=∃ ft:Ft,r=ft.d∧(ft.1=0→EffOK f ND)
theorem wrong20_spec (lv:List Wd) (f:Nat→Nat→Bool) (ND:List Nd) (z:Int) (hn:lv.length≤32) (hok:∀ n∈ND,NdOK lv.length ND.length n) (hnl:ND.length≤1099511627776) (hsz:∀ n∈ND,n.edges.length≤1099511627776) (hbr:∀ n∈ND,∀ e∈n.edges,e.bare=true→e.ck=0) :
  Ev Tryz.prog 231 [.agg (wL lv f ND z)] [] [] (fun r _ _=>W20Φ f ND r):=by
 have hNl:=dNds_len ND
 refine ev_go (P:=Tryz.prog) tt tt_ok 5000 79 [.cell 2 37] Tryz.func231 rfl Tryz.ntmps231 rfl (Nat.le_of_ble_eq_true rfl) (fun E9 w9 hn9 hm9=>?_)
 refine loop_i (fun j st=>∃ e:Nat,st=w20St (wL lv f ND z) e∧e≤ND.length∧(∀ c n,c < e→ND[c]? = some n→∀ x∈n.edges,EffE f ND x)∧j=ND.length - e) ND.length (w20St (wL lv f ND z) 0) (weak_mk ⟨_,rfl⟩ wA rfl rfl rfl wB) ⟨0,rfl,by omega,fun _ _ h=>by omega,by omega⟩ ?_
 rintro j st ⟨e,rfl,he,hno,rfl⟩
 refine br (fun hL=>?_) (fun hL=>?_)
 ·have hlt:e < ND.length:=by simpa [hNl] using hL
  obtain ⟨d,hd⟩:∃ d,ND[e]? = some d:=⟨_,List.getElem?_eq_getElem hlt⟩
  have hm:=List.mem_of_getElem? hd
  have hN:=hok d hm
  have hel:=hsz d hm
  have hdl:=dEds_len d.edges
  have hbd:=hbr d hm
  refine ⟨_,⟨by omega,dNds_get hd⟩,?_⟩
  refine loop_i (fun j st=>∃ k:Nat,st=w20bSt (wL lv f ND z) d.edges e k∧k≤d.edges.length∧(∀ c x,c < k→d.edges[c]? = some x→EffE f ND x)∧j=d.edges.length - k) d.edges.length (w20bSt (wL lv f ND z) d.edges e 0) (weak_mk ⟨_,rfl⟩ wA rfl rfl rfl wB) ⟨0,rfl,by omega,fun _ _ h=>by omega,by omega⟩ ?_
  rintro j st ⟨k,rfl,hk,hno2,rfl⟩
  refine br (fun hL2=>?_) (fun hL2=>?_)
  ·have hkt:k < d.edges.length:=by simpa [hdl] using hL2
   obtain ⟨x,hx⟩:∃ x,d.edges[k]? = some x:=⟨_,List.getElem?_eq_getElem hkt⟩
   have hmx:=List.mem_of_getElem? hx
   obtain ⟨hto,⟨h2,h2'⟩,h3,h3'⟩:=edge_nums hN hmx
   have hbx:=hbd x hmx
   have hck:=(hN.edge x hmx).ck
   have hnext:EffE f ND x→∀ c y,c < k + 1→d.edges[c]? = some y→EffE f ND y:=fun h c y hc hy=>by
    rcases Nat.lt_succ_iff_lt_or_eq.1 hc with h1 | h1
    ·exact hno2 c y h1 hy
    ·rw [h1,hx] at hy
     simp only [Option.some.injEq] at hy
     rw [← hy];exact h
   have hE:EffE f ND x=(x.ck≠0→(∃ m,ND[x.to.toNat]? = some m∧m.kind=wantK x.ck)∧f x.seen.toNat x.label.toNat=true∧f x.label.toNat x.seen.toNat=false):=rfl
   generalize EffE f ND x=EX at hE hnext
   obtain ⟨en,eb,ea,et,elb,ew,eck,ecn,ese,eca⟩:=x
   simp only at h2 h2' h3 h3' hto hbx hck hE
   obtain ⟨lb,rfl⟩:∃ n:Nat,elb=n:=⟨_,h2⟩
   obtain ⟨sn,rfl⟩:∃ n:Nat,ese=n:=⟨_,h3⟩
   simp only [Int.toNat_natCast] at h2' h3' hE
   refine ⟨_,⟨by omega,dEds_get hx⟩,?_⟩
   refine br (fun g=>?_) (fun g=>?_)
   ·have g:eck=0:=by simpa using g
    exact ⟨w20bSt (wL lv f ND z) d.edges e (k + 1),(weak_b 2 rfl (by repeat' (first | exact rfl | exact we_rfl rfl | exact we_int (nxt hkt (by omega)) | refine ⟨_,_,rfl,?_,?_⟩)) rfl rfl rfl (by repeat' (first | exact trivial | exact we_rfl rfl | exact we_int (nxt hkt (by omega)) | refine ⟨⟨_,rfl,?_⟩,?_⟩))),d.edges.length - (k + 1),by omega,k + 1,rfl,by omega,hnext (by rw [hE];intro h;exact absurd g h),rfl⟩
   have g:¬ eck=0:=by simpa using g
   obtain ⟨h1,h1'⟩:=hto (by
    cases hb:eb
    ·rfl
    ·exact absurd (hbx hb) g)
   obtain ⟨tn,rfl⟩:∃ n:Nat,et=n:=⟨_,h1⟩
   simp only [Int.toNat_natCast] at h1' hE
   obtain ⟨m,hmt⟩:∃ m,ND[tn]? = some m:=⟨_,List.getElem?_eq_getElem h1'⟩
   have hW:∀ w:Int,w=wantK eck→(m.kind=w∧f sn lb=true∧f lb sn=false)→EX:=fun w h1 h2=>by
    rw [hE]
    exact fun _=>⟨⟨m,hmt,by rw [← h1];exact h2.1⟩,h2.2⟩
   have h3c:eck=1∨eck=2∨eck=3:=by omega
   rcases h3c with rfl | rfl | rfl
   all_goals
    refine ⟨_,⟨Int.natCast_nonneg _,dNds_get hmt⟩,?_⟩
    refine br (fun c1=>?_) (fun c1=>?_)
    ·exact ⟨Ft.d (14,eca),ax,(14,eca),rfl,fun h=>by simp at h⟩
    refine drawG_i (fun _=>false) mo (by decide +kernel) ?_
    refine ⟨_,⟨Int.natCast_nonneg _,mrow_get h3'⟩,?_⟩
    refine ⟨_,⟨Int.natCast_nonneg _,mcell_get h2'⟩,?_⟩
    refine br (fun c2=>?_) (fun c2=>?_)
    ·refine ⟨_,⟨Int.natCast_nonneg _,mrow_get h2'⟩,?_⟩
     refine ⟨_,⟨Int.natCast_nonneg _,mcell_get h3'⟩,?_⟩
     refine br (fun c3=>?_) (fun c3=>?_)
     ·exact ⟨Ft.d (18,eca),ax,(18,eca),rfl,fun h=>by simp at h⟩
     ·have hx:=hnext (hW _ rfl ⟨by simpa [wantK] using c1,by simpa using c2,by simpa [pickB] using c3⟩)
      exact ⟨w20bSt (wL lv f ND z) d.edges e (k + 1),(weak_b 2 rfl (by repeat' (first | exact rfl | exact we_rfl rfl | exact we_int (nxt hkt (by omega)) | refine ⟨_,_,rfl,?_,?_⟩)) rfl rfl rfl (by repeat' (first | exact trivial | exact we_rfl rfl | exact we_int (nxt hkt (by omega)) | refine ⟨⟨_,rfl,?_⟩,?_⟩))),d.edges.length - (k + 1),by omega,k + 1,rfl,by omega,hx,rfl⟩
    ·exact ⟨Ft.d (18,eca),ax,(18,eca),rfl,fun h=>by simp at h⟩
  ·have hge:k=d.edges.length:=by have:=hL2;simp [hdl] at this;omega
   subst hge
   exact ⟨w20St (wL lv f ND z) (e + 1),(weak_mk ⟨_,rfl⟩ wA rfl rfl rfl (by repeat' (first | exact trivial | exact we_rfl rfl | exact we_int (nxt hlt (by omega)) | refine ⟨⟨_,rfl,?_⟩,?_⟩))),ND.length - (e + 1),by omega,e + 1,rfl,by omega,fun c n hc hn x hxm=>by
    rcases Nat.lt_succ_iff_lt_or_eq.1 hc with h1 | h1
    ·exact hno c n h1 hn x hxm
    ·rw [h1,hd] at hn
     simp only [Option.some.injEq] at hn
     rw [← hn] at hxm
     obtain ⟨q,hq⟩:=List.mem_iff_getElem?.1 hxm
     exact hno2 q x (List.getElem?_eq_some_iff.1 hq).1 hq,rfl⟩
 ·have hge:e=ND.length:=by have:=hL;simp [hNl] at this;omega
  subst hge
  exact ⟨Ft.d (0,0),ax,(0,0),rfl,fun _ n hn x hx=>by
   obtain ⟨q,hq⟩:=List.mem_iff_getElem?.1 hn
   exact hno q n (List.getElem?_eq_some_iff.1 hq).1 hq x hx⟩
structure Fine21 (S:Sch):Prop where
 res:(resF S).1=0
 live:∀ i:Nat,i < (resNds S).length→(depN (resNds S) (resNds S).length).getD i 0≠0
 eff:EffOK (leqS S) (resNds S)
abbrev w21St (S:Sch) (a b:Int) (W:List DV) (D:List Nat) (e:Nat):St:=
 ⟨[(1,⟨[],.loc 0 0⟩),(3,⟨[],.loc 1 0⟩),(5,⟨[],.loc 3 0⟩),(6,⟨[],.sl 1 (dInts D) none⟩),(7,⟨[],.v (.int .i64 e)⟩)],[dSch S,[.v (.int .i64 0),.v (.int .i64 0)],[.v (.int .i64 a),.v (.int .i64 b)],W],[]⟩
theorem wrong21_spec (S:Sch) (hS:S.wt≤1099511627776):Ev Tryz.prog 161 [.agg (dSch S)] [] [] (fun r _ _=>∃ (z:Int) (ft:Ft),r = .tup [.v (.int .i64 z),ft.d]∧(z=0→Fine21 S)):=by
 have hwr:=wrong18_spec S hS
 have hw:=fun h=>build18_spec S hS h
 generalize hR:resF S=R at hwr
 obtain ⟨levels,order,types,⟨rh,rp⟩⟩:=S
 refine ev_go (P:=Tryz.prog) tt tt_ok 5000 44 [.tmp 2,.cell 3 37] Tryz.func161 rfl Tryz.ntmps161 rfl (Nat.le_of_ble_eq_true rfl) (fun E9 w9 hn9 hm9=>?_)
 refine call_p en98 (hwr) ax rfl ?_
 refine br (fun g=>?_) (fun g=>?_)
 ·refine drawG_s mo (by decide +kernel) ?_
  exact ⟨.tup [.v (.int .i64 2),Ft.d R],ax,2,R,rfl,fun h=>by simp at h⟩
 have g:R.1=0:=by simpa using g
 have h0:(resF ⟨levels,order,types,.mk rh rp⟩).1=0:=by rw [hR];exact g
 have hF:=fineS_of h0
 have hw:=hw h0
 obtain ⟨hLat,h32⟩:=latOK_of hF.lat
 have hok:=fun n (hn:n∈resNds ⟨levels,order,types,.mk rh rp⟩)=>(List.mem_iff_getElem?.1 hn).elim fun i hi=>resNds_ok hF hi
 have hnl:(resNds ⟨levels,order,types,.mk rh rp⟩).length≤1099511627776:=by rw [resNds_len];exact Nat.le_trans (nnS_wt _) hS
 have hsz:=fun n (hn:n∈resNds ⟨levels,order,types,.mk rh rp⟩)=>(resNds_sz hn hS).2
 have hbr:=fun n (hn:n∈resNds ⟨levels,order,types,.mk rh rp⟩)=>(List.mem_iff_getElem?.1 hn).elim fun i hi e he hb=>resNds_bare hF hi (e:=e) he hb
 have h19:=fun A B=>depths19_spec 2 1 A B (resRoot ⟨levels,order,types,.mk rh rp⟩) hok hnl hsz
 have h20:=wrong20_spec levels (leqS ⟨levels,order,types,.mk rh rp⟩) (resNds ⟨levels,order,types,.mk rh rp⟩) (resRoot ⟨levels,order,types,.mk rh rp⟩) h32 hok hnl hsz hbr
 have hmk:(∀ i:Nat,i < (resNds ⟨levels,order,types,.mk rh rp⟩).length→(depN (resNds ⟨levels,order,types,.mk rh rp⟩) (resNds ⟨levels,order,types,.mk rh rp⟩).length).getD i 0≠0)→EffOK (leqS ⟨levels,order,types,.mk rh rp⟩) (resNds ⟨levels,order,types,.mk rh rp⟩)→Fine21 ⟨levels,order,types,.mk rh rp⟩:=fun h1 h2=>⟨h0,h1,h2⟩
 have hDl:=depN_len (resNds ⟨levels,order,types,.mk rh rp⟩) (resNds ⟨levels,order,types,.mk rh rp⟩).length
 generalize depN (resNds ⟨levels,order,types,.mk rh rp⟩) (resNds ⟨levels,order,types,.mk rh rp⟩).length=D at h19 hmk hDl
 unfold leqS at h20 hmk
 generalize leqN (Sch.mk levels order types (.mk rh rp)).levels.length (numL (nmTx (Sch.mk levels order types (.mk rh rp)).levels) (Sch.mk levels order types (.mk rh rp)).order)=f at hw h20 hmk
 generalize resNds ⟨levels,order,types,.mk rh rp⟩=ND at hw h19 h20 hmk hDl hnl hsz hbr hok
 generalize resRoot ⟨levels,order,types,.mk rh rp⟩=rt at hw h19 h20
 have hdi:=dInts_len D
 obtain ⟨R1,R2⟩:=R
 simp only at g
 subst g
 refine call_p en32 (hw) ax rfl ?_
 refine call_p en99 (h19 _ _) ax rfl ?_
 refine loop_i (fun j st=>∃ e:Nat,st=w21St ⟨levels,order,types,.mk rh rp⟩ 0 R2 (wL levels f ND rt) D e∧e≤D.length∧(∀ i < e,D.getD i 0≠0)∧j=D.length - e) D.length (w21St ⟨levels,order,types,.mk rh rp⟩ 0 R2 (wL levels f ND rt) D 0) (weak_mk ⟨_,rfl⟩ wA rfl rfl rfl wB) ⟨0,rfl,by omega,fun _ h=>by omega,by omega⟩ ?_
 rintro j st ⟨e,rfl,he,hno,rfl⟩
 refine br (fun hL=>?_) (fun hL=>?_)
 ·have hlt:e < D.length:=by simpa [hdi] using hL
  obtain ⟨x,hx⟩:∃ x,D[e]? = some x:=⟨_,List.getElem?_eq_getElem hlt⟩
  obtain ⟨d,hd⟩:∃ d,ND[e]? = some d:=⟨_,List.getElem?_eq_getElem (by omega)⟩
  refine ⟨_,⟨by omega,dInts_get hx⟩,?_⟩
  refine br (fun c=>?_) (fun c=>?_)
  ·refine drawG_s mo (by decide +kernel) ?_
   refine ⟨_,⟨by omega,dNds_get hd⟩,?_⟩
   exact ⟨.tup [.v (.int .i64 3),Ft.d (11,d.at')],ax,3,(11,d.at'),rfl,fun h=>by simp at h⟩
  ·have c:x≠0:=by simp at c;omega
   exact ⟨w21St ⟨levels,order,types,.mk rh rp⟩ 0 R2 (wL levels f ND rt) D (e + 1),(weak_b 4 rfl (by repeat' (first | exact rfl | exact we_rfl rfl | exact we_int (nxt hlt (by omega)) | refine ⟨_,_,rfl,?_,?_⟩)) rfl rfl rfl (by repeat' (first | exact trivial | exact we_rfl rfl | exact we_int (nxt hlt (by omega)) | refine ⟨⟨_,rfl,?_⟩,?_⟩))),D.length - (e + 1),by omega,e + 1,rfl,by omega,fun i hi=>by
    rcases Nat.lt_succ_iff_lt_or_eq.1 hi with h1 | h1
    ·exact hno i h1
    ·rw [h1,List.getD_eq_getElem?_getD,hx];exact c,rfl⟩
 ·have hge:e=D.length:=by have:=hL;simp [hdi] at this;omega
  subst hge
  refine call_e en231 rfl h20 ax (fun r hr=>?_)
  obtain ⟨ft,rfl,hft⟩:=hr
  refine br (fun c=>?_) (fun c=>?_)
  ·refine drawG_s mo (by decide +kernel) ?_
   exact ⟨.tup [.v (.int .i64 4),Ft.d ft],ax,4,ft,rfl,fun h=>by simp at h⟩
  ·have c:ft.1=0:=by simpa using c
   exact ⟨.tup [.v (.int .i64 0),Ft.d (0,0)],ax,0,(0,0),rfl,fun _=>hmk (fun i hi=>hno i (by omega)) (hft c)⟩
theorem fine21_spec (S:Sch) (hS:S.wt≤1099511627776):Ev Tryz.prog 88 [.agg (dSch S)] [] [] (fun r _ _=>∃ b:Bool,r = .v (.bool b)∧(b=true→Fine21 S)):=by
 have hw:=wrong21_spec S hS
 obtain ⟨levels,order,types,⟨rh,rp⟩⟩:=S
 refine ev_go (P:=Tryz.prog) tt tt_ok 5000 12 [.tmp 2] Tryz.func88 rfl Tryz.ntmps88 rfl (Nat.le_of_ble_eq_true rfl) (fun E9 w9 hn9 hm9=>?_)
 refine call_e en161 rfl hw ax (fun r hr=>?_)
 obtain ⟨z,ft,rfl,hz⟩:=hr
 exact ⟨_,rfl,fun h=>hz (by simpa using h)⟩
end Go.Proofs.YtbfdbhechmhpoaaGreat
set_option maxRecDepth 100000
namespace Go.Proofs.YtbfdbhechmhpoaaGreat
open Go Go.RowKit Dv Tryz
end Go.Proofs.YtbfdbhechmhpoaaGreat
namespace Go.Proofs.YtbfdbhechmhpoaaGreat
namespace Dv
open Go Go.RowKit
section
variable {P:Program} {ops:Array Oper} {C:World→Prop} {Q:Act→World→Prop} {W:Nat→Bool}
end
section
variable {X:Ctx} {D:Dw}
end
end Dv
end Go.Proofs.YtbfdbhechmhpoaaGreat
set_option maxRecDepth 100000
namespace Go.Proofs.YtbfdbhechmhpoaaGreat
open Go Go.RowKit Dv Tryz
end Go.Proofs.YtbfdbhechmhpoaaGreat
set_option maxRecDepth 100000
namespace Go.Proofs.YtbfdbhechmhpoaaGreat
open Go Go.RowKit Dv Tryz
theorem kid_rng {d:Nd} {z:Int} {j:Nat} {e:Ed} (h:toR d (.mk 0 z emptyB []) j=e.to) (h0:0≤e.to) (c:d.kind=8):0≤z∧z < d.edges.length:=by
 unfold toR at h
 rw [if_neg (by omega),if_neg (by omega),if_neg (by omega),if_pos c] at h
 split at h
 ·rename_i g
  exact ⟨g.2.1,g.2.2⟩
 ·omega
end Go.Proofs.YtbfdbhechmhpoaaGreat
set_option maxRecDepth 100000
namespace Go.Proofs.YtbfdbhechmhpoaaGreat
open Go Go.RowKit Dv Tryz
section
variable (a b:Nat) (A B:List (List DV)) (rt:Int) {ND:List Nd} {L:Nat} (hok:∀ n∈ND,NdOK L ND.length n)
include hok
end
end Go.Proofs.YtbfdbhechmhpoaaGreat
set_option maxRecDepth 100000
namespace Go.Proofs.YtbfdbhechmhpoaaGreat
open Go Go.RowKit Dv Tryz
section
variable (a b:Nat) (A B:List (List DV)) (rt:Int) {ND:List Nd} {L:Nat} (hok:∀ n∈ND,NdOK L ND.length n)
include hok
end
end Go.Proofs.YtbfdbhechmhpoaaGreat
set_option maxRecDepth 100000
namespace Go.Proofs
open Go.Shelf
end Go.Proofs
set_option maxRecDepth 100000
namespace Go.Proofs.YtbfdbhechmhpoaaGreat
open Go Go.RowKit Go.Lib Dv Tryz
end Go.Proofs.YtbfdbhechmhpoaaGreat
set_option maxRecDepth 100000
namespace Go.Proofs.YtbfdbhechmhpoaaGreat
open Go Go.RowKit Dv Tryz
end Go.Proofs.YtbfdbhechmhpoaaGreat
set_option maxRecDepth 100000
namespace Go.Proofs.YtbfdbhechmhpoaaGreat
open Go Go.RowKit Dv Tryz
end Go.Proofs.YtbfdbhechmhpoaaGreat
set_option maxRecDepth 100000
namespace Go.Proofs.YtbfdbhechmhpoaaGreat
open Go Go.RowKit Dv Tryz
end Go.Proofs.YtbfdbhechmhpoaaGreat
set_option maxRecDepth 100000
set_option maxHeartbeats 4000000
namespace Go.Proofs.YtbfdbhechmhpoaaGreat
open Go Go.RowKit Dv Tryz
section
variable (lv:List Wd) (f:Nat→Nat→Bool) (ND:List Nd) (z:Int) (hL:LatOK f lv.length) (hn:lv.length≤32) (hok:∀ n∈ND,NdOK lv.length ND.length n) (hsz:∀ n∈ND,n.edges.length≤1099511627776) (obs:Nat) (ho:obs < lv.length) (dep:Nat) (hdep:dep≤64)
include hL hn hok hsz ho hdep
end
end Go.Proofs.YtbfdbhechmhpoaaGreat
set_option maxRecDepth 100000
namespace Go.Proofs.YtbfdbhechmhpoaaGreat
open Go Go.RowKit Dv Tryz
section
variable (lv:List Wd) (f:Nat→Nat→Bool) (ND:List Nd) (root:Nat) (hroot:root < ND.length) (hL:LatOK f lv.length) (hn:lv.length≤32) (hok:∀ n∈ND,NdOK lv.length ND.length n) (hsz:∀ n∈ND,n.edges.length≤1099511627776) (obs:Nat) (ho:obs < lv.length)
include hroot hL hn hok hsz ho
end
end Go.Proofs.YtbfdbhechmhpoaaGreat
set_option maxRecDepth 100000
namespace Go.Proofs.YtbfdbhechmhpoaaGreat
open Go Go.RowKit Dv Tryz
def dfD:Option (List Stp)→DV
 | some p=>.tup [.sl 3 (dStps p) none,.v (.bool true)]
 | none=>.tup [.v (.slice none 0 0),.v (.bool false)]
section
variable (lv:List Wd) (f:Nat→Nat→Bool) (ND:List Nd) (rt:Nat) (hL:LatOK f lv.length) (hn:lv.length≤32) (hok:∀ n∈ND,NdOK lv.length ND.length n) (hsz:∀ n∈ND,n.edges.length≤1099511627776) (hrn:∀ n∈ND,rngN n)
include hL hn hok hsz hrn
def dfF (ND:List Nd) (f:Nat→Nat→Bool) (n rt:Nat) (o:Int) (a b:Val):Option (List Stp):=if 0≤o∧o < n∧fitV ND a rt=true∧fitV ND b rt=true then diffV ND f n o.toNat a b rt (botF f n) else none
def akF (ND:List Nd) (f:Nat→Nat→Bool) (n rt:Nat) (o:Int) (a b:Val):Bool:=decide (0≤o∧o < n) && fitV ND a rt && fitV ND b rt && (diffV ND f n o.toNat a b rt (botF f n)).isNone
end
end Go.Proofs.YtbfdbhechmhpoaaGreat
set_option maxRecDepth 100000
namespace Go.Proofs.YtbfdbhechmhpoaaGreat
open Go Go.RowKit Dv Tryz
abbrev eyD (PC LC:List DV) (obs:Nat):List DV:=[.pt PC 0,.pt LC 0,.v (.int .i64 obs)]
section
variable {n:Nat} {f:Nat→Nat→Bool} {names:List ByteArray} {LC:List DV} (hR:LatR n f names LC) (PC:List DV)
include hR
theorem asees_spec (obs a:Nat) (ho:obs < n) (ha:a < n):EvP Tryz.prog 133 [.agg (eyD PC LC obs),.v (.int .i64 a)] (.v (.bool (f a obs))):=by
 have hq:=hR.leq a obs
 rw [leqI_nat ha ho] at hq
 refine ev_go (P:=Tryz.prog) tt tt_ok 5000 11 [.tmp 4] Tryz.func133 rfl Tryz.ntmps133 rfl (Nat.le_of_ble_eq_true rfl) (fun E9 w9 hn9 hm9=>?_)
 refine call_p en57 (hq) ax rfl ?_
 exact (rfl:_=_)
theorem aedge_spec {ND:List Nd} (obs a:Nat) (ha:a < n) (d:Nd) (v:Val) (j:Nat) (e:Ed) (h:edgeN d v.n j=some e) (hm:e∈d.edges) (hN:NdOK n ND.length d) (h5:5≤d.kind) (hz:d.kind=8→0≤v.n∧v.n < d.edges.length) (hes:d.edges.length≤1099511627776) :
  EvP Tryz.prog 193 [.agg (eyD PC LC obs),.agg (dNd d),.agg (dVal v),.v (.int .i64 j),.v (.int .i64 a)] (.tup [.agg (dEd e),.v (.int .i64 (undF f n d e a:Nat))]):=by
 obtain ⟨_,⟨h2,h2'⟩,_⟩:=edge_nums hN hm
 have hj:=hR.join a e.label.toNat ha h2'
 rw [← h2] at hj
 have hU:undF f n d e a=if d.kind < 7 then a else jnF f n a e.label.toNat:=rfl
 generalize undF f n d e a=U at hU ⊢
 have h8:=hN.k8
 obtain ⟨kind,at',lo,hi,most,nms,es⟩:=d
 obtain ⟨k,z,s,ks⟩:=v
 simp only [Val.n] at h hz hes hU h5 h8
 have hel:=dEds_len es
 unfold edgeN at h
 simp only at h
 have hd:∃ en eb ea et elb ew eck ecn ese eca,e=⟨en,eb,ea,et,elb,ew,eck,ecn,ese,eca⟩:=⟨_,_,_,_,_,_,_,_,_,_,rfl⟩
 refine ev_go (P:=Tryz.prog) tt tt_ok 5000 42 [.cell 10 49,.tmp 11] Tryz.func193 rfl Tryz.ntmps193 rfl (Nat.le_of_ble_eq_true rfl) (fun E9 w9 hn9 hm9=>?_)
 refine br (fun c=>?_) (fun c=>?_)
 ·have c:kind=7:=by simpa using c
  rw [if_pos c] at h
  rw [if_neg (by omega)] at hU
  subst hU
  have hjl:=(List.getElem?_eq_some_iff.1 h).1
  obtain ⟨en,eb,ea,et,elb,ew,eck,ecn,ese,eca,rfl⟩:=hd
  refine drawG_s mo (by decide +kernel) ?_
  refine ⟨_,⟨by omega,dEds_get h⟩,?_⟩
  refine ⟨_,⟨by omega,dEds_get h⟩,?_⟩
  refine callD_p en132 (hj) ax rfl ?_
  exact ⟨_,ax,rfl⟩
 have c7:¬ kind=7:=by simpa using c
 rw [if_neg c7] at h
 refine br (fun c=>?_) (fun c=>?_)
 ·have c:kind=8:=by simpa using c
  rw [if_pos c] at h
  have hz:=hz c
  rw [if_neg (by omega)] at hU
  subst hU
  obtain ⟨en,eb,ea,et,elb,ew,eck,ecn,ese,eca,rfl⟩:=hd
  refine drawG_s mo (by decide +kernel) ?_
  refine ⟨_,⟨by omega,dEds_get h⟩,?_⟩
  refine ⟨_,⟨by omega,dEds_get h⟩,?_⟩
  refine callD_p en132 (hj) ax rfl ?_
  exact ⟨_,ax,rfl⟩
 have c8:¬ kind=8:=by simpa using c
 rw [if_neg c8] at h
 rw [if_pos (by omega)] at hU
 subst hU
 obtain ⟨en,eb,ea,et,elb,ew,eck,ecn,ese,eca,rfl⟩:=hd
 refine ⟨_,⟨by omega,dEds_get h⟩,?_⟩
 exact ⟨_,ax,rfl⟩
end
theorem astepP_spec (d:Nd) (v:Val) (j:Nat) (h5:5≤d.kind) (h8:d.kind≤8) (h7:d.kind=7→j < d.edges.length) (hz:d.kind=8→0≤v.n∧v.n < d.edges.length) :
  EvP Tryz.prog 195 [.agg (dNd d),.agg (dVal v),.v (.int .i64 j)] (.agg (dStp (stpZ d v.n j))):=by
 have hS:stpZ d v.n j=if d.kind=5 then ⟨2,j,emptyB⟩ else if d.kind=6 then ⟨4,0,emptyB⟩ else if d.kind=7 then ⟨1,0,match d.edges[j]? with | some e=>e.name | none=>emptyB⟩ else ⟨5,0,match d.edges[v.n.toNat]? with | some e=>e.name | none=>emptyB⟩:=rfl
 generalize stpZ d v.n j=SZ at hS ⊢
 obtain ⟨kind,at',lo,hi,most,nms,es⟩:=d
 obtain ⟨k,z,s,ks⟩:=v
 simp only [Val.n] at h5 h8 h7 hz hS
 have hel:=dEds_len es
 refine ev_go (P:=Tryz.prog) tt tt_ok 5000 33 [.cell 6 167] Tryz.func195 rfl Tryz.ntmps195 rfl (Nat.le_of_ble_eq_true rfl) (fun E9 w9 hn9 hm9=>?_)
 refine br (fun c=>?_) (fun c=>?_)
 ·have c:kind=7:=by simpa using c
  subst c
  have h7:=h7 rfl
  obtain ⟨e,he⟩:∃ e,es[j]? = some e:=⟨_,List.getElem?_eq_getElem h7⟩
  rw [if_neg (by decide),if_neg (by decide),if_pos rfl,he] at hS
  subst hS
  refine ⟨_,⟨by omega,dEds_get he⟩,?_⟩
  exact ⟨_,ax,rfl⟩
 have c7:¬ kind=7:=by simpa using c
 refine br (fun c=>?_) (fun c=>?_)
 ·have c:kind=8:=by simpa using c
  subst c
  have hz:=hz rfl
  obtain ⟨e,he⟩:∃ e,es[z.toNat]? = some e:=⟨_,List.getElem?_eq_getElem (by omega)⟩
  rw [if_neg (by decide),if_neg (by decide),if_neg (by decide),he] at hS
  subst hS
  refine ⟨_,⟨by omega,dEds_get he⟩,?_⟩
  exact ⟨_,ax,rfl⟩
 have c8:¬ kind=8:=by simpa using c
 refine br (fun c=>?_) (fun c=>?_)
 ·have c:kind=5:=by simpa using c
  rw [if_pos c] at hS
  subst hS
  exact ⟨_,ax,rfl⟩
 have c5:¬ kind=5:=by simpa using c
 rw [if_neg c5,if_pos (by omega)] at hS
 subst hS
 exact ⟨_,ax,rfl⟩
theorem acoarse_spec (e:Ed) (x y:Val) (hx:rngW x) (hy:rngW y) (hwx:x.wt≤1099511627776) (hwy:y.wt≤1099511627776) (hc : -9223372036854775808≤e.cn∧e.cn≤9223372036854775807) :
  EvP Tryz.prog 194 [.agg (dEd e),.agg (dVal x),.agg (dVal y)] (.v (.bool (sameC e x y))):=by
 have hf:=floors_spec x.n y.n e.cn (rngW_n hx) (rngW_n hy) hc
 have hS:sameC e x y=if e.ck=1∧x.k=2 then decide (floorV x.n e.cn=floorV y.n e.cn)
  else if e.ck=2∧x.k=3 then headsL e.cn.toNat (tx x.s) (tx y.s)
  else if e.ck=3∧x.k=5 then decide (x.ks.length=y.ks.length)
  else true:=rfl
 have hsz:∀ v:Val,v.wt≤1099511627776→v.s.size≤1099511627776:=fun v hv=>by
  obtain ⟨k,n,s,ks⟩:=v
  rw [Val.wt] at hv
  show s.size≤_
  omega
 have hh:=heads_spec x.s y.s (hsz x hwx) (hsz y hwy) e.cn hc.2
 have hA:e.ck=1∧x.k=2→sameC e x y=decide (floorV x.n e.cn=floorV y.n e.cn):=fun h=>by rw [hS,if_pos h]
 have hB:e.ck=2∧x.k=3→sameC e x y=headsL e.cn.toNat (tx x.s) (tx y.s):=fun h=>by rw [hS,if_neg (by omega),if_pos h]
 have hC:e.ck=3∧x.k=5→sameC e x y=decide (x.ks.length=y.ks.length):=fun h=>by rw [hS,if_neg (by omega),if_neg (by omega),if_pos h]
 have hD:¬ (e.ck=1∧x.k=2)→¬ (e.ck=2∧x.k=3)→¬ (e.ck=3∧x.k=5)→sameC e x y=true:=fun h1 h2 h3=>by rw [hS,if_neg h1,if_neg h2,if_neg h3]
 clear hS
 generalize sameC e x y=B at hA hB hC hD ⊢
 obtain ⟨en,eb,ea,et,elb,ew,eck,ecn,ese,eca⟩:=e
 obtain ⟨xk,xn,xs,xks⟩:=x
 obtain ⟨yk,yn,ys,yks⟩:=y
 simp only [Val.k,Val.n,Val.s,Val.ks] at hA hB hC hD hf hh
 have hdx:=dVals_len xks
 have hdy:=dVals_len yks
 refine ev_go (P:=Tryz.prog) tt tt_ok 5000 55 [.tmp 6] Tryz.func194 rfl Tryz.ntmps194 rfl (Nat.le_of_ble_eq_true rfl) (fun E9 w9 hn9 hm9=>?_)
 refine br (fun c=>?_) (fun c=>?_)
 ·have c:eck=1∧xk=2:=by simpa [pickB_and] using c
  rw [hA c]
  refine call_p en256 (hf) ax rfl ?_
  exact (rfl:_=_)
 have c1:¬ (eck=1∧xk=2):=by simpa [pickB_and] using c
 refine br (fun c=>?_) (fun c=>?_)
 ·have c:eck=2∧xk=3:=by simpa [pickB_and] using c
  rw [hB c]
  refine call_p en257 (hh) ax rfl ?_
  exact (rfl:_=_)
 have c2:¬ (eck=2∧xk=3):=by simpa [pickB_and] using c
 refine br (fun c=>?_) (fun c=>?_)
 ·have c:eck=3∧xk=5:=by simpa [pickB_and] using c
  rw [hC c]
  refine (congrArg (fun b=>DV.v (.bool b)) ?_:_=_)
  simp only [hdx,hdy]
  exact decide_eq_decide.2 ⟨fun h=>by omega,fun h=>by omega⟩
 have c3:¬ (eck=3∧xk=5):=by simpa [pickB_and] using c
 rw [hD c1 c2 c3]
 exact (rfl:_=_)
end Go.Proofs.YtbfdbhechmhpoaaGreat
set_option maxRecDepth 100000
namespace Go.Proofs.YtbfdbhechmhpoaaGreat
open Go Go.RowKit Dv Tryz
def dfP (o:Option (List Stp)) (r:DV) (tks:List TkE):Prop:=match o with
 | none=>r = .tup [.v (.slice none 0 0),.v (.bool false)]∧tks=[]
 | some []=>r = .tup [.v (.slice none 0 0),.v (.bool true)]∧tks=[]
 | some (s :: p)=>r = .tup [.sl 0 (List.replicate (p.length + 1) []) (some 0),.v (.bool true)]∧tks=[⟨p.length + 1,167,3,some (dStps (s :: p).reverse).flatten⟩]
abbrev adSt (PC LC:List DV) (obs a:Nat) (x y:Val) (d:Nd) (e:Nat):St:=
 ⟨[(2,⟨[],.v (.int .i64 a)⟩),(5,⟨[],.loc 0 0⟩),(8,⟨[],.loc 1 0⟩),(9,⟨[],.loc 2 0⟩),(12,⟨[],.loc 3 0⟩),(49,⟨[],.sl 4 (dVals x.ks) none⟩),(50,⟨[],.v (.int .i64 (dVals x.ks).length)⟩),(51,⟨[],.v (.int .i64 e)⟩)],[eyD PC LC obs,dVal x,dVal y,dNd d],[]⟩
section
variable {ND:List Nd} {f:Nat→Nat→Bool} {L obs:Nat}
mutual
theorem diffV_len:∀ (x y:Val) (i:Int) (a:Nat) (p:List Stp),diffV ND f L obs x y i a=some p→64 * p.length + 64≤x.wt
 | .mk k n s ks,.mk k' n' s' ks',i,a,p,h=>by
  rw [diffV] at h
  rw [Val.wt]
  split at h
  ·cases h
   simp
   omega
  ·cases hd:nodeA ND i with
   | none=>rw [hd] at h;cases h
   | some d=>
    rw [hd] at h
    have:=diffVs_len ks ks' d n a 0 p h
    omega
theorem diffVs_len:∀ (ks ls:List Val) (d:Nd) (z:Int) (a j:Nat) (p:List Stp),diffVs ND f L obs ks ls d z a j=some p→64 * p.length≤wtVs ks
 | [],[],_,_,_,_,p,h=>by rw [diffVs] at h;cases h;all_goals simp
 | [],_ :: _,_,_,_,_,p,h=>by rw [diffVs] at h;cases h;all_goals simp
 | _ :: _,[],_,_,_,_,p,h=>by rw [diffVs] at h;cases h;all_goals simp
 | x :: r,y :: t,d,z,a,j,p,h=>by
  have hw:=x.wt_pos
  rw [diffVs] at h
  rw [wtVs]
  cases he:edgeN d z j with
  | none=>rw [he] at h;cases h
  | some e=>
   rw [he] at h
   simp only at h
   split at h
   ·rename_i q hq
    cases h
    rw [List.length_cons]
    split at hq
    ·have:=diffV_len x y e.to _ q hq
     omega
    ·split at hq
     ·split at hq
      ·cases hq
      ·cases hq
       simp
       omega
     ·cases hq
   ·have:=diffVs_len r t d z a (j + 1) p h
    omega
end
end
theorem rev_flat (s:Stp) (L:List Stp):(dStps L.reverse).flatten ++ [dStp s].flatten=(dStps (s :: L).reverse).flatten:=by
 rw [List.reverse_cons]
 simp [dStps]
theorem adiffer_spec {S:Sch} {ND:List Nd} {PC LC:List DV} (hP:PlanR S ND PC) (hR:LatR S.levels.length (leqS S) (nmTx S.levels) LC) (hrS:∀ n∈ND,rngN n) (hsz:∀ n∈ND,n.edges.length≤1099511627776) (obs:Nat) (ho:obs < S.levels.length) :
  ∀ (k:Nat) (x:Val),x.wt≤k→x.wt≤1099511627776→rngW x→∀ (y:Val),y.wt≤1099511627776→rngW y→∀ (i:Int) (a:Nat),a < S.levels.length→fitV ND x i=true→fitV ND y i=true →
   EvF Tryz.prog 114 [.agg (eyD PC LC obs),.v (.int .i64 i),.v (.int .i64 a),.agg (dVal x),.agg (dVal y)] [] [] (fun r _ tks=>dfP (diffV ND (leqS S) S.levels.length obs x y i a) r tks)
 | 0,x,h=>by have:=x.wt_pos;omega
 | k + 1,x,h=>fun hbx hrx y hby hry i a ha hfx hfy=>by
  have ih:=adiffer_spec hP hR hrS hsz obs ho k
  have hL:=hR.ok
  obtain ⟨d,hF⟩:=fit_facts hP.ok hfx
  obtain ⟨d',hF'⟩:=fit_facts hP.ok hfy
  have hdd:d'=d:=by have:=hF.node;rw [hF'.node] at this;cases this;rfl
  subst hdd
  have hkidx:=fun {m:Nat} {x:Val}=>kids_ok (m:=m) (x:=x) hP.ok hfx hF
  have hkidy:=fun {m:Nat} {x:Val}=>kids_ok (m:=m) (x:=x) hP.ok hfy hF'
  obtain ⟨h0,hg⟩:=nodeA_some hF.node
  obtain ⟨j,rfl⟩:∃ j:Nat,i=j:=⟨i.toNat,by omega⟩
  have hg:ND[j]? = some d':=by simpa using hg
  have hjl:=(List.getElem?_eq_some_iff.1 hg).1
  have hmem:=List.mem_of_getElem? hg
  have hN:=hP.ok d' hmem
  have hdsz:=hsz d' hmem
  have hdrn:=hrS d' hmem
  have hnode:=hP.node j d' hg
  have hleaf:=hF.leaf
  have hnd:=hF.node
  obtain ⟨xk,xn,xs,xks⟩:=x
  obtain ⟨yk,yn,ys,yks⟩:=y
  rw [Val.wt] at h hbx hby
  have hrkx:=rngW_ks hrx
  have hrky:=rngW_ks hry
  simp only [Val.ks,Val.n] at hkidx hkidy hleaf hrkx hrky
  have hxl:=wtVs_len xks
  have hyl:=wtVs_len yks
  have hdx:=dVals_len xks
  have hdy:=dVals_len yks
  by_cases hc:xn≠yn∨xs≠ys∨xks.length≠yks.length
  ·have hD:diffV ND (leqS S) S.levels.length obs (.mk xk xn xs xks) (.mk yk yn ys yks) j a=some []:=by rw [diffV,if_pos hc]
   rw [hD]
   refine evB_gom (s:=false) (bt:=[]) (mu:=[]) (hbt:=fun p hp=>by cases hp) (fr:=true) (P:=Tryz.prog) tt tt_ok 5000 115 [.tmp 10,.tmp 11] Tryz.func114 rfl Tryz.ntmps114 rfl (Nat.le_of_ble_eq_true rfl) (fun E9 w9 hn9 hm9=>?_)
   refine br (fun _=>?_) (fun c=>?_)
   ·exact ⟨_,[],ax,rfl,rfl,rfl⟩
   ·exfalso
    simp [pickB_or,hdx,hdy] at c
    rcases hc with h | h | h
    ·exact h c.1.1
    ·exact h c.1.2
    ·omega
  ·have hD:diffV ND (leqS S) S.levels.length obs (.mk xk xn xs xks) (.mk yk yn ys yks) j a=diffVs ND (leqS S) S.levels.length obs xks yks d' xn a 0:=by rw [diffV,if_neg hc,hnd]
   rw [hD]
   simp at hc
   obtain ⟨rfl,rfl,hll⟩:=hc
   obtain ⟨kind,at',lo,hi,most,nms,es⟩:=d'
   refine evB_gom (s:=false) (bt:=[]) (mu:=[]) (hbt:=fun p hp=>by cases hp) (fr:=true) (P:=Tryz.prog) tt tt_ok 5000 115 [.tmp 10,.tmp 11] Tryz.func114 rfl Tryz.ntmps114 rfl (Nat.le_of_ble_eq_true rfl) (fun E9 w9 hn9 hm9=>?_)
   refine br (fun c=>absurd c (by simp [pickB_or,hdx,hdy,hll])) (fun _=>?_)
   refine call_p en18 (hnode) ax rfl ?_
   refine loop_i (fun t st=>∃ e:Nat,st=adSt PC LC obs a (.mk xk xn xs xks) (.mk yk xn xs yks) ⟨kind,at',lo,hi,most,nms,es⟩ e∧e≤xks.length∧diffVs ND (leqS S) S.levels.length obs (xks.drop e) (yks.drop e) ⟨kind,at',lo,hi,most,nms,es⟩ xn a e=diffVs ND (leqS S) S.levels.length obs xks yks ⟨kind,at',lo,hi,most,nms,es⟩ xn a 0∧t=xks.length - e) xks.length (adSt PC LC obs a (.mk xk xn xs xks) (.mk yk xn xs yks) ⟨kind,at',lo,hi,most,nms,es⟩ 0) (weak_b 4 rfl (by repeat' (first | exact rfl | exact we_rfl rfl | exact we_int rfl | refine ⟨_,_,rfl,?_,?_⟩)) rfl rfl rfl (by repeat' (first | exact trivial | exact we_rfl rfl | exact we_int rfl | refine ⟨⟨_,rfl,?_⟩,?_⟩))) ⟨0,rfl,by omega,rfl,by omega⟩ ?_
   rintro t st ⟨e,rfl,he,hE,rfl⟩
   refine br (fun hLt=>?_) (fun hLt=>?_)
   ·have hlt:e < xks.length:=by simpa [hdx,Val.ks] using hLt
    obtain ⟨x,hx⟩:∃ x,xks[e]? = some x:=⟨_,List.getElem?_eq_getElem hlt⟩
    obtain ⟨y,hy⟩:∃ y,yks[e]? = some y:=⟨_,List.getElem?_eq_getElem (by omega)⟩
    have hmx:=List.mem_of_getElem? hx
    have hmy:=List.mem_of_getElem? hy
    have hwx:=wtVs_mem hmx
    have hwy:=wtVs_mem hmy
    obtain ⟨ed,hK⟩:=hkidx hx
    obtain ⟨ed2,hK2⟩:=hkidy hy
    have hee:ed2=ed:=by have:=hK.edge;rw [hK2.edge] at this;cases this;rfl
    subst hee
    have h5:5≤kind:=by
     rcases Int.lt_or_le kind 5 with h5 | h5
     ·have:=hleaf h5
      rw [this] at hlt
      simp at hlt
     ·exact h5
    obtain ⟨hto,_⟩:=to_in hN hK.mem hK.bare
    have hk8:=kid_rng hK.to' hto
    rw [List.drop_eq_getElem_cons hlt,show xks[e]=x from (List.getElem?_eq_some_iff.1 hx).2,List.drop_eq_getElem_cons (show e < yks.length by omega),show yks[e]=y from (List.getElem?_eq_some_iff.1 hy).2,diffVs,hK.edge] at hE
    simp only at hE
    have hU:=undF_lt hL hN hK.mem ha
    have hSn:=seen_lt hL hN hK.mem ha
    have hedge:=aedge_spec hR PC obs a ha ⟨kind,at',lo,hi,most,nms,es⟩ (.mk xk xn xs xks) e ed2 hK.edge hK.mem hN h5 hk8 hdsz
    have hsees:=asees_spec hR PC obs (undF (leqS S) S.levels.length ⟨kind,at',lo,hi,most,nms,es⟩ ed2 a) ho hU
    have hsees2:=asees_spec hR PC obs (jnF (leqS S) S.levels.length a ed2.seen.toNat) ho hSn
    have hcs:=acoarse_spec ed2 x y (rngWs_mem hrkx hmx) (rngWs_mem hrky hmy) (by omega) (by omega) (hdrn.2.2 ed2 hK.mem)
    have hrec:=ih x (by omega) (by omega) (rngWs_mem hrkx hmx) y (by omega) (rngWs_mem hrky hmy) ed2.to (undF (leqS S) S.levels.length ⟨kind,at',lo,hi,most,nms,es⟩ ed2 a) hU hK.fit hK2.fit
    have hstp:=astepP_spec ⟨kind,at',lo,hi,most,nms,es⟩ (.mk xk xn xs xks) e h5 hN.k8 (fun c7=>by
     have:=hK.edge
     unfold edgeN at this
     rw [if_pos c7] at this
     exact (List.getElem?_eq_some_iff.1 this).1) hk8
    obtain ⟨_,_,h3,h3'⟩:=edge_nums hN hK.mem
    have hj:=hR.join a ed2.seen.toNat ha h3'
    rw [← h3] at hj
    rw [howF_eq] at hE
    have hpl0:=fun i' a' p=>diffV_len (ND:=ND) (f:=leqS S) (L:=S.levels.length) (obs:=obs) x y i' a' p
    generalize undF (leqS S) S.levels.length ⟨kind,at',lo,hi,most,nms,es⟩ ed2 a=U at hU hedge hsees hrec hE
    generalize jnF (leqS S) S.levels.length a ed2.seen.toNat=SN at hj hsees2 hSn hE
    rw [show stpZ ⟨kind,at',lo,hi,most,nms,es⟩ (Val.mk xk xn xs xks).n e=stpZ ⟨kind,at',lo,hi,most,nms,es⟩ xn e from rfl] at hstp
    generalize stpZ ⟨kind,at',lo,hi,most,nms,es⟩ xn e=sp at hstp hE
    have hpl:=hpl0 ed2.to U
    clear hpl0
    generalize diffV ND (leqS S) S.levels.length obs x y ed2.to U=R at hrec hE hpl
    generalize sameC ed2 x y=SC at hcs hE
    generalize leqS S U obs=b1 at hsees hE
    generalize leqS S SN obs=b2 at hsees2 hE
    obtain ⟨ak,an,as',aks⟩:=x
    obtain ⟨bk,bn,bs,bks⟩:=y
    obtain ⟨en,eb,ea,et,elb,ew,eck,ecn,ese,eca⟩:=ed2
    obtain ⟨sk,sn,ss⟩:=sp
    refine ⟨_,⟨by omega,dVals_get hx⟩,?_⟩
    refine call_p en193 (hedge) ax rfl ?_
    refine call_p en133 (hsees) ax rfl ?_
    cases b1 with
    | true=>
     simp only [reduceIte] at hE
     refine drawG_i (fun _=>false) mo (by decide +kernel) ?_
     refine ⟨_,⟨by omega,dVals_get hy⟩,?_⟩
     refine callD_f en114 rfl hrec ax (fun res tks hr=>?_)
     match R,hr,hE,hpl with
     | none,hr,hE,_=>
      obtain ⟨rfl,rfl⟩:=hr
      simp only at hE
      exact ⟨adSt PC LC obs a (.mk xk xn xs xks) (.mk yk xn xs yks) ⟨kind,at',lo,hi,most,nms,es⟩ (e + 1),(weak_b 4 rfl (by repeat' (first | exact rfl | exact we_rfl rfl | exact we_int (nxt hlt (by omega)) | refine ⟨_,_,rfl,?_,?_⟩)) rfl rfl rfl (by repeat' (first | exact trivial | exact we_rfl rfl | exact we_int (nxt hlt (by omega)) | refine ⟨⟨_,rfl,?_⟩,?_⟩))),xks.length - (e + 1),by omega,e + 1,rfl,by omega,hE,rfl⟩
     | some [],hr,hE,_=>
      obtain ⟨rfl,rfl⟩:=hr
      simp only at hE
      rw [← hE]
      refine call_osw (os:=[]) 0 0 en195 rfl rfl rfl rfl ax hstp (fun r os' tk' hr h1 h2=>?_)
      subst hr
      obtain rfl:=List.eq_nil_of_length_eq_zero h1
      obtain rfl:=List.eq_nil_of_length_eq_zero h2
      refine ⟨⟨[(111,⟨[],.agg (dStp ⟨sk,sn,ss⟩)⟩),(107,⟨[],.sl 0 [] (some 0)⟩)],[],[⟨0,167,3,some []⟩]⟩,Wk.weak (weak_bt 0 ⟨0,167,3,some []⟩ rfl rfl rfl (by repeat' (first | exact rfl | exact we_rfl rfl | exact we_tok (Nat.le_refl _) rfl | exact we_tok (Nat.le_refl _) rfl | refine ⟨_,_,rfl,?_,?_⟩)) rfl rfl (by repeat' (first | exact trivial | exact we_rfl rfl | exact we_tok (Nat.le_refl _) rfl | refine ⟨⟨_,rfl,?_⟩,?_⟩))),?_⟩
      refine ⟨⟨⟨rfl,by simp⟩,by simp [maxLen],by simp⟩,?_⟩
      exact ⟨.tup [.sl 0 (List.replicate 1 []) (some 0),.v (.bool true)],[],(by repeat' (first | exact rfl | exact trivial | exact Or.inr (Or.inl ⟨_,rfl⟩) | exact Or.inr ⟨_,rfl⟩ | exact Or.inl ⟨rfl,rfl⟩ | exact Or.inl rfl | refine Or.inr ⟨_,_,rfl,Nat.zero_le _,rfl,?_⟩ | refine ⟨_,_,rfl,?_,?_⟩ | refine ⟨_,rfl,?_⟩ | exact ⟨Nat.le_of_ble_eq_true rfl,rfl⟩ | refine Or.inr (Or.inr (Or.inr ⟨_,_,rfl,?_⟩)) | exact Or.inl rfl | refine Or.inr ?_)),rfl,rfl,rfl⟩
     | some (s0 :: p0),hr,hE,hpl=>
      obtain ⟨rfl,rfl⟩:=hr
      simp only at hE
      rw [← hE]
      refine call_p en195 (hstp) ax rfl ?_
      have hpl:=hpl (s0 :: p0) rfl
      rw [List.length_cons] at hpl
      refine ⟨⟨⟨by simp,by simp⟩,by simp [maxLen];omega,by simp;omega⟩,?_⟩
      refine ⟨.tup [.sl 0 (List.replicate (p0.length + 1 + 1) []) (some 0),.v (.bool true)],[],(by repeat' (first | exact rfl | exact trivial | exact Or.inr (Or.inl ⟨_,rfl⟩) | exact Or.inr ⟨_,rfl⟩ | exact Or.inl ⟨rfl,rfl⟩ | exact Or.inl rfl | refine Or.inr ⟨_,_,rfl,Nat.zero_le _,rfl,?_⟩ | refine ⟨_,_,rfl,?_,?_⟩ | refine ⟨_,rfl,?_⟩ | exact ⟨Nat.le_of_ble_eq_true rfl,rfl⟩ | refine Or.inr (Or.inr (Or.inr ⟨_,_,rfl,?_⟩)) | exact Or.inl rfl | refine Or.inr ?_)),rfl,rfl,?_⟩
      exact congrArg (fun l=>[(⟨p0.length + 1 + 1,167,3,some l⟩:TkE)]) (rev_flat ⟨sk,sn,ss⟩ (s0 :: p0))
    | false=>
     by_cases hck:eck=0
     ·subst hck
      simp at hE
      refine drawG_i (fun _=>false) mo (by decide +kernel) ?_
      exact ⟨adSt PC LC obs a (.mk xk xn xs xks) (.mk yk xn xs yks) ⟨kind,at',lo,hi,most,nms,es⟩ (e + 1),(weak_b 4 rfl (by repeat' (first | exact rfl | exact we_rfl rfl | exact we_int (nxt hlt (by omega)) | refine ⟨_,_,rfl,?_,?_⟩)) rfl rfl rfl (by repeat' (first | exact trivial | exact we_rfl rfl | exact we_int (nxt hlt (by omega)) | refine ⟨⟨_,rfl,?_⟩,?_⟩))),xks.length - (e + 1),by omega,e + 1,rfl,by omega,hE,rfl⟩
     ·cases b2 with
      | false=>
       simp at hE
       refine drawG_i (fun _=>false) mo (by decide +kernel) ?_
       refine br (fun _=>?_) (fun g=>absurd g (by simp [hck]))
       refine callD_p en132 (hj) ax rfl ?_
       refine callD_p en133 (hsees2) ax rfl ?_
       exact ⟨adSt PC LC obs a (.mk xk xn xs xks) (.mk yk xn xs yks) ⟨kind,at',lo,hi,most,nms,es⟩ (e + 1),(weak_b 4 rfl (by repeat' (first | exact rfl | exact we_rfl rfl | exact we_int (nxt hlt (by omega)) | refine ⟨_,_,rfl,?_,?_⟩)) rfl rfl rfl (by repeat' (first | exact trivial | exact we_rfl rfl | exact we_int (nxt hlt (by omega)) | refine ⟨⟨_,rfl,?_⟩,?_⟩))),xks.length - (e + 1),by omega,e + 1,rfl,by omega,hE,rfl⟩
      | true=>
       simp [hck] at hE
       refine drawG_i (fun _=>false) mo (by decide +kernel) ?_
       refine br (fun _=>?_) (fun g=>absurd g (by simp [hck]))
       refine callD_p en132 (hj) ax rfl ?_
       refine callD_p en133 (hsees2) ax rfl ?_
       refine drawG_i (fun _=>false) mo (by decide +kernel) ?_
       refine ⟨_,⟨by omega,dVals_get hy⟩,?_⟩
       refine callD_p en194 (hcs) ax rfl ?_
       cases SC with
       | true=>
        simp at hE
        exact ⟨adSt PC LC obs a (.mk xk xn xs xks) (.mk yk xn xs yks) ⟨kind,at',lo,hi,most,nms,es⟩ (e + 1),(weak_b 4 rfl (by repeat' (first | exact rfl | exact we_rfl rfl | exact we_int (nxt hlt (by omega)) | refine ⟨_,_,rfl,?_,?_⟩)) rfl rfl rfl (by repeat' (first | exact trivial | exact we_rfl rfl | exact we_int (nxt hlt (by omega)) | refine ⟨⟨_,rfl,?_⟩,?_⟩))),xks.length - (e + 1),by omega,e + 1,rfl,by omega,hE,rfl⟩
       | false=>
        simp at hE
        rw [← hE]
        refine call_osw (os:=[]) 0 0 en195 rfl rfl rfl rfl ax hstp (fun r os' tk' hr h1 h2=>?_)
        subst hr
        obtain rfl:=List.eq_nil_of_length_eq_zero h1
        obtain rfl:=List.eq_nil_of_length_eq_zero h2
        refine ⟨⟨[(111,⟨[],.agg (dStp ⟨sk,sn,ss⟩)⟩),(107,⟨[],.sl 0 [] (some 0)⟩)],[],[⟨0,167,3,some []⟩]⟩,Wk.weak (weak_bt 0 ⟨0,167,3,some []⟩ rfl rfl rfl (by repeat' (first | exact rfl | exact we_rfl rfl | exact we_tok (Nat.le_refl _) rfl | exact we_tok (Nat.le_refl _) rfl | refine ⟨_,_,rfl,?_,?_⟩)) rfl rfl (by repeat' (first | exact trivial | exact we_rfl rfl | exact we_tok (Nat.le_refl _) rfl | refine ⟨⟨_,rfl,?_⟩,?_⟩))),?_⟩
        refine ⟨⟨⟨rfl,by simp⟩,by simp [maxLen],by simp⟩,?_⟩
        exact ⟨.tup [.sl 0 (List.replicate 1 []) (some 0),.v (.bool true)],[],(by repeat' (first | exact rfl | exact trivial | exact Or.inr (Or.inl ⟨_,rfl⟩) | exact Or.inr ⟨_,rfl⟩ | exact Or.inl ⟨rfl,rfl⟩ | exact Or.inl rfl | refine Or.inr ⟨_,_,rfl,Nat.zero_le _,rfl,?_⟩ | refine ⟨_,_,rfl,?_,?_⟩ | refine ⟨_,rfl,?_⟩ | exact ⟨Nat.le_of_ble_eq_true rfl,rfl⟩ | refine Or.inr (Or.inr (Or.inr ⟨_,_,rfl,?_⟩)) | exact Or.inl rfl | refine Or.inr ?_)),rfl,rfl,rfl⟩
   ·have hge:e=xks.length:=by have:=hLt;simp [hdx,Val.ks] at this;omega
    subst hge
    rw [List.drop_length] at hE
    rw [← hE,show diffVs ND (leqS S) S.levels.length obs ([]:List Val) (yks.drop xks.length) ⟨kind,at',lo,hi,most,nms,es⟩ xn a xks.length=none by rw [diffVs];simp]
    exact ⟨_,[],ax,rfl,rfl,rfl⟩
end Go.Proofs.YtbfdbhechmhpoaaGreat
set_option maxRecDepth 100000
namespace Go.Proofs.YtbfdbhechmhpoaaGreat
open Go Go.RowKit Dv Tryz
theorem reverse_nil:Ev Tryz.prog 116 [.v (.slice none 0 0)] [] [] (fun _ _ _=>True):=by
 refine ev_go (P:=Tryz.prog) tt tt_ok 5000 28 [] Tryz.func116 rfl Tryz.ntmps116 rfl (Nat.le_of_ble_eq_true rfl) (fun E9 w9 hn9 hm9=>?_)
 refine loop_i (fun t st=>st=⟨[(0,⟨[],.v (.slice none 0 0)⟩),(2,⟨[],.v (.int .i64 0)⟩),(3,⟨[],.v (.int .i64 (-1))⟩)],[],[]⟩∧t=0) 0 ⟨[(0,⟨[],.v (.slice none 0 0)⟩),(2,⟨[],.v (.int .i64 0)⟩),(3,⟨[],.v (.int .i64 (-1))⟩)],[],[]⟩ (weak_mk ⟨_,rfl⟩ wA rfl rfl rfl (by repeat' (first | exact trivial | exact we_rfl rfl | exact we_rfl rfl | refine ⟨⟨_,rfl,?_⟩,?_⟩))) ⟨rfl,rfl⟩ ?_
 rintro t st ⟨rfl,rfl⟩
 exact ⟨.tup [],ax,trivial⟩
section
variable {S:Sch} {ND:List Nd} {PC LC:List DV} (hP:PlanR S ND PC) (hlat:EvP Tryz.prog 21 [.pt PC 0] (.pt LC 0)) (hR:LatR S.levels.length (leqS S) (nmTx S.levels) LC) (hrS:∀ n∈ND,rngN n) (hsz:∀ n∈ND,n.edges.length≤1099511627776) (rt:Nat) (hrt:resRoot S=rt)
include hP hlat hR hrt
theorem both_spec (o:Int) (x y:Val) (hx:x.wt≤1099511627776) (hy:y.wt≤1099511627776) :
  EvP Tryz.prog 112 [.pt PC 0,.v (.int .i64 o),.agg (dVal x),.agg (dVal y)] (.v (.bool (decide (0≤o∧o < S.levels.length) && fitV ND x rt && fitV ND y rt))):=by
 have hlen:=hR.len
 have hroot:=hP.root
 rw [hrt] at hroot
 have h1:=tfits_spec hP _ x (Nat.le_refl _) hx rt
 have h2:=tfits_spec hP _ y (Nat.le_refl _) hy rt
 generalize fitV ND x rt=F1 at h1 ⊢
 generalize fitV ND y rt=F2 at h2 ⊢
 obtain ⟨xk,xn,xs,xks⟩:=x
 obtain ⟨yk,yn,ys,yks⟩:=y
 refine ev_go (P:=Tryz.prog) tt tt_ok 5000 32 [.tmp 8] Tryz.func112 rfl Tryz.ntmps112 rfl (Nat.le_of_ble_eq_true rfl) (fun E9 w9 hn9 hm9=>?_)
 refine drawG_i (fun _=>false) mo (by decide +kernel) ?_
 refine br (fun c=>?_) (fun c=>?_)
 ·have c:0≤o:=by simpa using c
  refine callD_p en21 (hlat) ax rfl ?_
  refine callD_p en55 (hlen) ax rfl ?_
  refine br (fun g=>?_) (fun g=>?_)
  ·have g:o < S.levels.length:=by simpa [pickB] using g
   refine callD_p en19 (hroot) ax rfl ?_
   refine callD_p en56 (h1) ax rfl ?_
   rw [show decide (0≤o∧o < (S.levels.length:Int))=true from decide_eq_true ⟨c,g⟩]
   cases F1 with
   | false=>exact (rfl:_=_)
   | true=>
    refine callD_p en19 (hroot) ax rfl ?_
    refine callD_p en56 (h2) ax rfl ?_
    exact (rfl:_=_)
  ·have g:¬ o < S.levels.length:=by simpa [pickB] using g
   rw [show decide (0≤o∧o < (S.levels.length:Int))=false from decide_eq_false (fun h=>g h.2)]
   exact (rfl:_=_)
 ·have c:¬ 0≤o:=by simpa using c
  rw [show decide (0≤o∧o < (S.levels.length:Int))=false from decide_eq_false (fun h=>c h.1)]
  exact (rfl:_=_)
include hrS hsz
theorem adiff_root (hrl:rt < ND.length) (o:Int) (x y:Val) (hx:x.wt≤1099511627776) (hy:y.wt≤1099511627776) (hrx:rngW x) (hry:rngW y) :
  EvP Tryz.prog 52 [.pt PC 0,.v (.int .i64 o),.agg (dVal x),.agg (dVal y)] (dfD (dfF ND (leqS S) S.levels.length rt o x y)):=by
 have hb:=both_spec hP hlat hR rt hrt o x y hx hy
 have hroot:=hP.root
 rw [hrt] at hroot
 have hbot:=hR.bot
 have hD:dfF ND (leqS S) S.levels.length rt o x y=if 0≤o∧o < S.levels.length∧fitV ND x rt=true∧fitV ND y rt=true then diffV ND (leqS S) S.levels.length o.toNat x y rt (botF (leqS S) S.levels.length) else none:=rfl
 generalize dfF ND (leqS S) S.levels.length rt o x y=D at hD ⊢
 by_cases hc:0≤o∧o < S.levels.length∧fitV ND x rt=true∧fitV ND y rt=true
 ·rw [if_pos hc] at hD
  rw [show decide (0≤o∧o < (S.levels.length:Int))=true from decide_eq_true ⟨hc.1,hc.2.1⟩,hc.2.2.1,hc.2.2.2] at hb
  obtain ⟨ob,rfl⟩:∃ n:Nat,o=n:=⟨_,(Int.toNat_of_nonneg hc.1).symm⟩
  rw [Int.toNat_natCast] at hD
  have hdf:=adiffer_spec hP hR hrS hsz ob (by omega) _ x (Nat.le_refl _) hx hrx y hy hry rt (botF (leqS S) S.levels.length) (botF_lt hR.ok) hc.2.2.1 hc.2.2.2
  rw [← hD] at hdf
  have hpl:=fun p h=>diffV_len (ND:=ND) (f:=leqS S) (L:=S.levels.length) (obs:=ob) x y rt (botF (leqS S) S.levels.length) p h
  rw [← hD] at hpl
  generalize botF (leqS S) S.levels.length=bt at hbot hdf
  obtain ⟨xk,xn,xs,xks⟩:=x
  obtain ⟨yk,yn,ys,yks⟩:=y
  refine ev_go (P:=Tryz.prog) tt tt_ok 5000 40 [.tmp 8,.tmp 9] Tryz.func52 rfl Tryz.ntmps52 rfl (Nat.le_of_ble_eq_true rfl) (fun E9 w9 hn9 hm9=>?_)
  refine call_p en112 (hb) ax rfl ?_
  refine call_p en21 (hlat) ax rfl ?_
  refine drawG_i (fun _=>false) mo (by decide +kernel) ?_
  refine callD_p en19 (hroot) ax rfl ?_
  refine callD_p en115 (hbot) ax rfl ?_
  refine callD_f en114 rfl hdf ax (fun res tks hr=>?_)
  match D,hr,hpl with
  | none,hr,_=>
   obtain ⟨rfl,rfl⟩:=hr
   refine call_e en116 rfl reverse_nil ax (fun q _=>?_)
   exact ⟨_,ax,rfl⟩
  | some [],hr,_=>
   obtain ⟨rfl,rfl⟩:=hr
   refine call_e en116 rfl reverse_nil ax (fun q _=>?_)
   exact ⟨.tup [.sl 3 (dStps []) none,.v (.bool true)],ax,rfl⟩
  | some (s :: p),hr,hpl=>
   obtain ⟨rfl,rfl⟩:=hr
   have hpl:=hpl (s :: p) rfl
   have hrl:(s :: p).reverse.length=p.length + 1:=by rw [List.length_reverse,List.length_cons]
   have hrv:=reverse_spec (s :: p).reverse (by simp) (by rw [hrl];rw [List.length_cons] at hpl;omega)
   rw [hrl,List.reverse_reverse] at hrv
   have hns:∀ x∈dStps (s :: p),x.length=3:=fun x hx=>by
    obtain ⟨y,_,rfl⟩:=List.mem_map.1 hx
    rfl
   have hnl:(dStps (s :: p)).length=p.length + 1:=by rw [dStps_len,List.length_cons]
   have hrep:(List.replicate (p.length + 1) ([]:List DV)).length=p.length + 1:=List.length_replicate
   refine call_osw (os:=[]) 0 1 en116 rfl rfl rfl rfl (by repeat' (first | exact rfl | exact trivial | exact Or.inr (Or.inl ⟨_,rfl⟩) | exact Or.inr ⟨_,rfl⟩ | exact Or.inl ⟨rfl,rfl⟩ | exact Or.inl rfl | refine Or.inr ⟨_,_,rfl,Nat.zero_le _,rfl,?_⟩ | refine ⟨_,_,rfl,?_,?_⟩ | refine ⟨_,rfl,?_⟩ | exact ⟨Nat.le_of_ble_eq_true rfl,rfl⟩ | refine Or.inr (Or.inr (Or.inr ⟨_,_,rfl,?_⟩)) | exact Or.inl rfl | refine Or.inr ?_)) hrv (fun r os' tk' hr h1 h2=>?_)
   subst hr
   obtain rfl:=List.eq_nil_of_length_eq_zero h1
   refine ⟨_,wk_ownT (t:=11) (k:=0) (ns:=dStps (s :: p)) rfl hns hnl rfl hrep,?_⟩
   exact ⟨.tup [.sl 3 (dStps (s :: p)) none,.v (.bool true)],ax,rfl⟩
 ·rw [if_neg hc] at hD
  subst hD
  have hf:(decide (0≤o∧o < S.levels.length) && fitV ND x rt && fitV ND y rt)=false:=by
   cases hq:(decide (0≤o∧o < S.levels.length) && fitV ND x rt && fitV ND y rt)
   ·rfl
   ·rw [Bool.and_eq_true,Bool.and_eq_true,decide_eq_true_iff] at hq
    exact absurd ⟨hq.1.1.1,hq.1.1.2,hq.1.2,hq.2⟩ hc
  rw [hf] at hb
  obtain ⟨xk,xn,xs,xks⟩:=x
  obtain ⟨yk,yn,ys,yks⟩:=y
  refine ev_go (P:=Tryz.prog) tt tt_ok 5000 40 [.tmp 8,.tmp 9] Tryz.func52 rfl Tryz.ntmps52 rfl (Nat.le_of_ble_eq_true rfl) (fun E9 w9 hn9 hm9=>?_)
  refine call_p en112 (hb) ax rfl ?_
  exact ⟨_,ax,rfl⟩
theorem aalike_root (hrl:rt < ND.length) (o:Int) (x y:Val) (hx:x.wt≤1099511627776) (hy:y.wt≤1099511627776) (hrx:rngW x) (hry:rngW y) :
  EvP Tryz.prog 50 [.pt PC 0,.v (.int .i64 o),.agg (dVal x),.agg (dVal y)] (.v (.bool (akF ND (leqS S) S.levels.length rt o x y))):=by
 have hb:=both_spec hP hlat hR rt hrt o x y hx hy
 have hd:=adiff_root hP hlat hR hrS hsz rt hrt hrl o x y hx hy hrx hry
 have hA:akF ND (leqS S) S.levels.length rt o x y=(decide (0≤o∧o < S.levels.length) && fitV ND x rt && fitV ND y rt && (diffV ND (leqS S) S.levels.length o.toNat x y rt (botF (leqS S) S.levels.length)).isNone):=rfl
 have hD:dfF ND (leqS S) S.levels.length rt o x y=if 0≤o∧o < S.levels.length∧fitV ND x rt=true∧fitV ND y rt=true then diffV ND (leqS S) S.levels.length o.toNat x y rt (botF (leqS S) S.levels.length) else none:=rfl
 have hE:akF ND (leqS S) S.levels.length rt o x y=(decide (0≤o∧o < S.levels.length) && fitV ND x rt && fitV ND y rt && !(dfF ND (leqS S) S.levels.length rt o x y).isSome):=by
  rw [hA]
  cases hq:(decide (0≤o∧o < S.levels.length) && fitV ND x rt && fitV ND y rt)
  ·rfl
  ·rw [Bool.and_eq_true,Bool.and_eq_true,decide_eq_true_iff] at hq
   rw [hD,if_pos ⟨hq.1.1.1,hq.1.1.2,hq.1.2,hq.2⟩]
   cases diffV ND (leqS S) S.levels.length o.toNat x y rt (botF (leqS S) S.levels.length)<;>rfl
 rw [hE]
 clear hE hD hA
 generalize dfF ND (leqS S) S.levels.length rt o x y=D at hd ⊢
 generalize (decide (0≤o∧o < S.levels.length) && fitV ND x rt && fitV ND y rt)=B at hb ⊢
 obtain ⟨xk,xn,xs,xks⟩:=x
 obtain ⟨yk,yn,ys,yks⟩:=y
 cases D with
 | none=>
  refine ev_go (P:=Tryz.prog) tt tt_ok 5000 28 [.tmp 8] Tryz.func50 rfl Tryz.ntmps50 rfl (Nat.le_of_ble_eq_true rfl) (fun E9 w9 hn9 hm9=>?_)
  refine call_p en52 (hd) ax rfl ?_
  refine call_p en112 (hb) ax rfl ?_
  cases B<;>exact (rfl:_=_)
 | some p=>
  refine ev_go (P:=Tryz.prog) tt tt_ok 5000 28 [.tmp 8] Tryz.func50 rfl Tryz.ntmps50 rfl (Nat.le_of_ble_eq_true rfl) (fun E9 w9 hn9 hm9=>?_)
  refine call_p en52 (hd) ax rfl ?_
  refine call_p en112 (hb) ax rfl ?_
  cases B<;>exact (rfl:_=_)
end
end Go.Proofs.YtbfdbhechmhpoaaGreat
set_option maxRecDepth 100000
namespace Go.Proofs.YtbfdbhechmhpoaaGreat
open Go Go.RowKit Dv Tryz
theorem fine28_spec (S:Sch) (hS:S.wt≤1099511627776) (x y:Val) (hx:x.wt≤1099511627776) (hy:y.wt≤1099511627776) :
  Ev Tryz.prog 48 [.agg (dSch S),.agg (dVal x ++ dVal y)] [] [] (fun r _ _=>∃ b:Bool,r = .v (.bool b)∧(b=true→Fine21 S)):=by
 have ga:=great17_spec S hS
 have hf:=fine21_spec S hS
 have h1:=size25_spec x.wt x (Nat.le_refl _) hx
 have h2:=size25_spec y.wt y (Nat.le_refl _) hy
 generalize cntV x=c1 at h1
 generalize cntV y=c2 at h2
 generalize depV x=d1 at h1
 generalize depV y=d2 at h2
 obtain ⟨levels,order,types,⟨rh,rp⟩⟩:=S
 obtain ⟨xk,xn,xs,xks⟩:=x
 obtain ⟨yk,yn,ys,yks⟩:=y
 refine ev_go (P:=Tryz.prog) tt tt_ok 5000 36 [.tmp 4] Tryz.func48 rfl Tryz.ntmps48 rfl (Nat.le_of_ble_eq_true rfl) (fun E9 w9 hn9 hm9=>?_)
 refine ⟨⟨by decide,by decide⟩,?_⟩
 refine call_p en111 (h1) ax rfl ?_
 refine ⟨⟨by decide,by decide⟩,?_⟩
 refine call_p en111 (h2) ax rfl ?_
 refine br (fun c=>?_) (fun c=>?_)
 ·refine call_e en14 rfl ga ax (fun r hr=>?_)
  obtain ⟨g,rfl⟩:=hr
  cases g with
  | true=>
   refine ⟨false,?_,fun h=>by cases h⟩
   refine (congrArg (fun b=>DV.v (.bool b)) ?_:_=_)
   simp only [pickB_and,Bool.not_true,Bool.and_false,Bool.false_and]
  | false=>
   refine call_e en88 rfl hf ax (fun r hr=>?_)
   obtain ⟨b,rfl,hb⟩:=hr
   exact ⟨b,rfl,hb⟩
 ·exact ⟨false,rfl,fun h=>by cases h⟩
def exP28:Sch:=⟨[⟨⟨#[108,111,119]⟩,0⟩,⟨⟨#[104,105,103,104]⟩,0⟩],[(⟨⟨#[108,111,119]⟩,0⟩,⟨⟨#[104,105,103,104]⟩,0⟩)],[],.mk (exH 7) (.cons ⟨⟨⟨#[120]⟩,0⟩,false,[⟨⟨#[104,105,103,104]⟩,0⟩],0,0,0,0,[]⟩ (.mk (exH 1) .nil) .nil)⟩
def exA28:Val:=.mk 7 0 emptyB [.mk 1 1 emptyB []]
def exB28:Val:=.mk 7 0 emptyB [.mk 1 0 emptyB []]
theorem ex28_fine:(resF exP28).1=0:=by decide +kernel
theorem ex28_root:resRoot exP28=((resRoot exP28).toNat:Nat)∧(resRoot exP28).toNat < (resNds exP28).length:=by decide +kernel
theorem ex28_low:akF (resNds exP28) (leqS exP28) exP28.levels.length (resRoot exP28).toNat 0 exA28 exB28=true:=by decide +kernel
theorem ex28_high:akF (resNds exP28) (leqS exP28) exP28.levels.length (resRoot exP28).toNat 1 exA28 exB28=false:=by decide +kernel
theorem lives28_spec:EvP Tryz.prog 49 [] (.v (.bool true)):=by
 have hwt:exP28.wt≤1099511627776:=by decide +kernel
 have hb:=(build_spec exP28 hwt).mono (Ψ:=fun r _ _=>BuiltΦ exP28 r) fun _ _ _ h=>builtΦ_of hwt h
 refine ev_go (P:=Tryz.prog) tt tt_ok 5000 47 [.tmp 0] Tryz.func49 rfl Tryz.ntmps49 rfl (Nat.le_of_ble_eq_true rfl) (fun E9 w9 hn9 hm9=>?_)
 refine call_e en16 rfl hb ax (fun r hr=>?_)
 rcases hr with ⟨hr,_⟩ | ⟨_,PC,hP,rfl⟩
 ·exact (hr ex28_fine).elim
 obtain ⟨LC,hlat,hR⟩:=hP.latR
 have hrng:∀ n∈resNds exP28,rngN n:=fun n hn=>resNds_rng (S:=exP28) (by simp [exP28,rngS,rngT,rngP,exH,I64]) hn
 have hsz:∀ n∈resNds exP28,n.edges.length≤1099511627776:=fun n hn=>(resNds_sz hn hwt).2
 have hA:∀ v ∈ [exA28,exB28],v.wt≤1099511627776∧rngW v:=by
  intro v hv
  simp only [List.mem_cons,List.not_mem_nil,or_false] at hv
  rcases hv with rfl | rfl<;>exact ⟨by decide +kernel,by simp [exA28,exB28,rngW,rngWs,I64]⟩
 have hl:=fun o=>aalike_root hP hlat hR hrng hsz (resRoot exP28).toNat ex28_root.1 ex28_root.2 o exA28 exB28 (hA _ (by simp)).1 (hA _ (by simp)).1 (hA _ (by simp)).2 (hA _ (by simp)).2
 have h0:=hl 0
 have h1:=hl 1
 rw [ex28_low] at h0
 rw [ex28_high] at h1
 refine call_p en50 (h0) ax rfl ?_
 refine call_p en50 (h1) ax rfl ?_
 exact (rfl:_=_)
end Go.Proofs.YtbfdbhechmhpoaaGreat
set_option maxRecDepth 100000
namespace Go.Proofs.YtbfdbhechmhpoaaGreat
open Go Go.RowKit Dv Tryz
structure LikeF (ND:List Nd) (f:Nat→Nat→Bool) (n rt:Nat) (o p:Int) (x y:Val) (IN FX FY SM DF A1 LQ SV:Bool):Prop where
 inn:IN=(decide (0≤o∧o < n) && FX)
 sm:SM=true→IN=true∧FY=true
 df:DF=(IN && FY && !SM)
 mono:SM=true→LQ=true→A1=true
 same:SV=true→SM=IN
theorem akF_sym {ND:List Nd} {f:Nat→Nat→Bool} {n rt:Nat} {o:Int} {x y:Val} (hok:∀ d∈ND,NdOK n ND.length d):akF ND f n rt o y x=akF ND f n rt o x y:=by
 unfold akF
 cases hx:fitV ND x rt<;>cases hy:fitV ND y rt
 ·simp
 ·simp
 ·simp
 ·rw [diff_sym hok hy hx]
theorem akF_refl {ND:List Nd} {f:Nat→Nat→Bool} {n rt:Nat} {o:Int} {x:Val} (hok:∀ d∈ND,NdOK n ND.length d):akF ND f n rt o x x=(decide (0≤o∧o < n) && fitV ND x rt):=by
 unfold akF
 cases hx:fitV ND x rt
 ·simp
 ·rw [diff_refl hok hx]
  simp
theorem like_facts {ND:List Nd} {f:Nat→Nat→Bool} {n rt:Nat} {o p:Int} {x y:Val} (hok:∀ d∈ND,NdOK n ND.length d) (hL:LatOK f n) :
  LikeF ND f n rt o p x y (decide (0≤o∧o < n) && fitV ND x rt) (fitV ND x rt) (fitV ND y rt) (akF ND f n rt o x y) (dfF ND f n rt o x y).isSome (akF ND f n rt p x y) (leqI f n p o) (sameV x y) where
 inn:=rfl
 sm:=fun h=>by
  unfold akF at h
  rw [Bool.and_eq_true,Bool.and_eq_true] at h
  exact h.1
 df:=by
  unfold dfF akF
  by_cases hc:0≤o∧o < n∧fitV ND x rt=true∧fitV ND y rt=true
  ·rw [if_pos hc,show decide (0≤o∧o < (n:Int))=true from decide_eq_true ⟨hc.1,hc.2.1⟩,hc.2.2.1,hc.2.2.2]
   cases diffV ND f n o.toNat x y rt (botF f n)<;>rfl
  ·rw [if_neg hc]
   cases hq:(decide (0≤o∧o < (n:Int)) && fitV ND x rt && fitV ND y rt)
   ·rfl
   ·rw [Bool.and_eq_true,Bool.and_eq_true,decide_eq_true_iff] at hq
    exact absurd ⟨hq.1.1.1,hq.1.1.2,hq.1.2,hq.2⟩ hc
 mono:=fun h hl=>by
  unfold akF at h ⊢
  rw [Bool.and_eq_true,Bool.and_eq_true,Bool.and_eq_true,decide_eq_true_iff] at h
  obtain ⟨⟨⟨⟨h1,h2⟩,h3⟩,h4⟩,h5⟩:=h
  unfold leqI at hl
  simp only [Bool.and_eq_true,decide_eq_true_eq] at hl
  obtain ⟨⟨⟨⟨l1,l2⟩,_⟩,_⟩,l3⟩:=hl
  rw [show decide (0≤p∧p < (n:Int))=true from decide_eq_true ⟨l1,l2⟩,h3,h4,Bool.true_and,Bool.true_and,Bool.true_and]
  exact diff_mono hok hL (by omega) (by omega) l3 (botF_lt hL) h3 h4 h5
 same:=fun h=>by
  have:=sameV_iff.1 h
  subst this
  rw [akF_refl hok]
set_option maxHeartbeats 4000000 in
theorem like28_law (S:Sch) (hS:S.wt≤1099511627776) (hrS:rngS S) (x y:Val) (hx:x.wt≤1099511627776) (hrx:rngW x) (hy:y.wt≤1099511627776) (hry:rngW y) (o p:Int) :
  EvP Tryz.prog 9 [.agg (dSch S),.agg (dVal x ++ dVal y),.agg ([.v (.int .i64 o)] ++ [.v (.int .i64 p)])] (.v (.bool true)):=by
 have hf:=fine28_spec S hS x y hx hy
 have hb:=(build_spec S hS).mono (Ψ:=fun r _ _=>BuiltΦ S r) fun _ _ _ h=>builtΦ_of hS h
 have hrf:=@resRoot_ok S
 have hRr:=fun n (hn:n∈resNds S)=>resNds_rng hrS hn
 have hesz:∀ n∈resNds S,n.edges.length≤1099511627776:=fun n hn=>(resNds_sz hn hS).2
 have hsv:=tsame_spec _ x (Nat.le_refl _) hx y
 generalize hSS:S=SS at *
 subst hSS
 have key:Fine21 S→∀ PC,PlanR S (resNds S) PC→∃ IN FX FY SM DF A1 LQ SV:Bool,∃ (D:Option (List Stp)) (LC:List DV) (root:Nat),D.isSome=DF∧SV=sameV x y∧LikeF (resNds S) (leqS S) S.levels.length root o p x y IN FX FY SM DF A1 LQ SV ∧
   EvP Tryz.prog 21 [.pt PC 0] (.pt LC 0)∧EvP Tryz.prog 55 [.pt LC 0] (.v (.int .i64 S.levels.length))∧EvP Tryz.prog 57 [.pt LC 0,.v (.int .i64 p),.v (.int .i64 o)] (.v (.bool LQ)) ∧
   EvP Tryz.prog 19 [.pt PC 0] (.v (.int .i64 root)) ∧
   EvP Tryz.prog 56 [.pt PC 0,.v (.int .i64 root),.agg (dVal x)] (.v (.bool FX))∧EvP Tryz.prog 56 [.pt PC 0,.v (.int .i64 root),.agg (dVal y)] (.v (.bool FY)) ∧
   EvP Tryz.prog 50 [.pt PC 0,.v (.int .i64 o),.agg (dVal x),.agg (dVal y)] (.v (.bool SM))∧EvP Tryz.prog 50 [.pt PC 0,.v (.int .i64 o),.agg (dVal y),.agg (dVal x)] (.v (.bool SM)) ∧
   EvP Tryz.prog 50 [.pt PC 0,.v (.int .i64 o),.agg (dVal x),.agg (dVal x)] (.v (.bool IN))∧EvP Tryz.prog 50 [.pt PC 0,.v (.int .i64 p),.agg (dVal x),.agg (dVal y)] (.v (.bool A1)) ∧
   EvP Tryz.prog 52 [.pt PC 0,.v (.int .i64 o),.agg (dVal x),.agg (dVal y)] (dfD D):=fun h0 PC hP=>by
  obtain ⟨root,hrt,hrl⟩:=hrf (fineS_of h0.res)
  obtain ⟨LC,hlat,hR⟩:=hP.latR
  have hroot:=hP.root
  rw [hrt] at hroot
  have a1:=aalike_root hP hlat hR hRr hesz root hrt hrl o x y hx hy hrx hry
  have a2:=aalike_root hP hlat hR hRr hesz root hrt hrl o y x hy hx hry hrx
  have a3:=aalike_root hP hlat hR hRr hesz root hrt hrl o x x hx hx hrx hrx
  have a4:=aalike_root hP hlat hR hRr hesz root hrt hrl p x y hx hy hrx hry
  rw [akF_sym hP.ok] at a2
  rw [akF_refl hP.ok] at a3
  exact ⟨_,_,_,_,_,_,_,_,_,LC,root,rfl,rfl,like_facts hP.ok hR.ok,hlat,hR.len,hR.leq p o,hroot,tfits_spec hP _ x (Nat.le_refl _) hx root,tfits_spec hP _ y (Nat.le_refl _) hy root,a1,a2,a3,a4,adiff_root hP hlat hR hRr hesz root hrt hrl o x y hx hy hrx hry⟩
 obtain ⟨levels,order,types,⟨rh,rp⟩⟩:=S
 obtain ⟨xk,xn,xs,xks⟩:=x
 obtain ⟨yk,yn,ys,yks⟩:=y
 refine ev_go (P:=Tryz.prog) tt tt_ok 5000 132 [.tmp 6] Tryz.func9 rfl Tryz.ntmps9 rfl (Nat.le_of_ble_eq_true rfl) (fun E9 w9 hn9 hm9=>?_)
 refine call_e en48 rfl hf ax (fun r hr=>?_)
 obtain ⟨b,rfl,h0⟩:=hr
 cases b with
 | false=>
  refine call_p en49 (lives28_spec) ax rfl ?_
  exact (rfl:_=_)
 | true=>
  have hF:=h0 rfl
  have h0:=hF.res
  refine call_e en16 rfl hb ax (fun r hr=>?_)
  rcases hr with ⟨hr,_⟩ | ⟨_,PC,hP,rfl⟩
  ·exact (hr h0).elim
  obtain ⟨IN,FX,FY,SM,DF,A1,LQ,SV,D,LC,root,hDF,hSV,hLF,hlat,hlen,hleq,hroot,hfx,hfy,ha1,ha2,ha3,ha4,hdf⟩:=key hF PC hP
  rw [← hSV] at hsv
  obtain ⟨hinn,hsm,hdfF,hmono,hsame⟩:=hLF
  apply drawG_two (fun _=>false) 4 5 [0,1,2,3,4,5,6,7] [0,1,2,3,5,4,6,7] 4 5 mo (by decide +kernel)
  ·refine ⟨⟨by decide,by decide⟩,?_⟩
   refine ⟨⟨by decide,by decide⟩,?_⟩
   refine (?_:@Eq St _ _)
   exact rfl
  ·refine ⟨⟨by decide,by decide⟩,?_⟩
   refine ⟨⟨by decide,by decide⟩,?_⟩
   refine (⟨rfl,rfl,?_⟩:_∧_∧_)
   repeat' (first | exact trivial | refine ⟨rfl,?_⟩)
  ·rfl
  refine drawG_i (fun _=>false) mo (by decide +kernel) ?_
  refine ⟨⟨by decide,by decide⟩,?_⟩
  refine br (fun c=>?_) (fun c=>?_)
  ·have c:0≤o:=by simpa using c
   refine ⟨⟨by decide,by decide⟩,?_⟩
   refine callD_p en21 (hlat) ax rfl ?_
   refine callD_p en55 (hlen) ax rfl ?_
   refine br (fun g=>?_) (fun g=>?_)
   ·have g:o < levels.length:=by simpa [pickB] using g
    rw [show decide (0≤o∧o < (levels.length:Int))=true from decide_eq_true ⟨c,g⟩] at hinn
    refine callD_p en19 (hroot) ax rfl ?_
    refine callD_p en56 (hfx) ax rfl ?_
    cases FX with
    | false=>
     have hIN:IN=false:=by rw [hinn];all_goals rfl
     subst hIN
     obtain rfl:SM=false:=by
      cases SM with
      | false=>rfl
      | true=>exact absurd (hsm rfl).1 (by simp)
     obtain rfl:D=none:=by
      cases D with
      | none=>rfl
      | some _=>rw [← hDF] at hdfF;simp at hdfF
     refine ⟨⟨by decide,by decide⟩,?_⟩
     refine call_p en50 (ha1) ax rfl ?_
     refine ⟨⟨by decide,by decide⟩,?_⟩
     refine call_p en52 (hdf) ax rfl ?_
     refine drawG_i (fun _=>false) mo (by decide +kernel) ?_
     refine ⟨⟨by decide,by decide⟩,?_⟩
     refine callD_p en50 (ha3) ax rfl ?_
     refine ⟨⟨by decide,by decide⟩,?_⟩
     refine callD_p en50 (ha2) ax rfl ?_
     refine drawG_i (fun _=>false) mo (by decide +kernel) ?_
     refine call_p en58 (hsv) ax rfl ?_
     cases SV with
     | false=>
      refine call_p en49 (lives28_spec) ax rfl ?_
      exact (rfl:_=_)
     | true=>
      refine call_p en49 (lives28_spec) ax rfl ?_
      exact (rfl:_=_)
    | true=>
     have hIN:IN=true:=by rw [hinn];all_goals rfl
     obtain rfl:IN=true:=hIN
     cases FY with
     | false=>
      obtain rfl:SM=false:=by
       cases SM with
       | false=>rfl
       | true=>exact absurd (hsm rfl).2 (by simp)
      obtain rfl:D=none:=by
       cases D with
       | none=>rfl
       | some _=>rw [← hDF] at hdfF;simp at hdfF
      obtain rfl:SV=false:=by
       cases SV with
       | false=>rfl
       | true=>exact absurd (hsame rfl) (by simp)
      refine ⟨⟨by decide,by decide⟩,?_⟩
      refine call_p en50 (ha1) ax rfl ?_
      refine ⟨⟨by decide,by decide⟩,?_⟩
      refine call_p en52 (hdf) ax rfl ?_
      refine drawG_i (fun _=>false) mo (by decide +kernel) ?_
      refine ⟨⟨by decide,by decide⟩,?_⟩
      refine callD_p en50 (ha3) ax rfl ?_
      refine ⟨⟨by decide,by decide⟩,?_⟩
      refine callD_p en50 (ha2) ax rfl ?_
      refine callD_p en19 (hroot) ax rfl ?_
      refine callD_p en56 (hfy) ax rfl ?_
      refine drawG_i (fun _=>false) mo (by decide +kernel) ?_
      refine call_p en58 (hsv) ax rfl ?_
      refine call_p en49 (lives28_spec) ax rfl ?_
      exact (rfl:_=_)
     | true=>
      cases SM with
      | false=>
       obtain ⟨pp,rfl⟩:∃ pp,D=some pp:=by
        cases D with
        | none=>rw [← hDF] at hdfF;simp at hdfF
        | some pp=>exact ⟨pp,rfl⟩
       obtain rfl:SV=false:=by
        cases SV with
        | false=>rfl
        | true=>exact absurd (hsame rfl) (by simp)
       refine ⟨⟨by decide,by decide⟩,?_⟩
       refine call_p en50 (ha1) ax rfl ?_
       refine ⟨⟨by decide,by decide⟩,?_⟩
       refine call_p en52 (hdf) ax rfl ?_
       refine drawG_i (fun _=>false) mo (by decide +kernel) ?_
       refine ⟨⟨by decide,by decide⟩,?_⟩
       refine callD_p en50 (ha3) ax rfl ?_
       refine ⟨⟨by decide,by decide⟩,?_⟩
       refine callD_p en50 (ha2) ax rfl ?_
       refine callD_p en19 (hroot) ax rfl ?_
       refine callD_p en56 (hfy) ax rfl ?_
       refine drawG_i (fun _=>false) mo (by decide +kernel) ?_
       refine call_p en58 (hsv) ax rfl ?_
       refine call_p en49 (lives28_spec) ax rfl ?_
       exact (rfl:_=_)
      | true=>
       obtain rfl:D=none:=by
        cases D with
        | none=>rfl
        | some _=>rw [← hDF] at hdfF;simp at hdfF
       refine ⟨⟨by decide,by decide⟩,?_⟩
       refine call_p en50 (ha1) ax rfl ?_
       refine ⟨⟨by decide,by decide⟩,?_⟩
       refine call_p en52 (hdf) ax rfl ?_
       refine drawG_i (fun _=>false) mo (by decide +kernel) ?_
       refine ⟨⟨by decide,by decide⟩,?_⟩
       refine callD_p en50 (ha3) ax rfl ?_
       refine ⟨⟨by decide,by decide⟩,?_⟩
       refine callD_p en50 (ha2) ax rfl ?_
       refine callD_p en19 (hroot) ax rfl ?_
       refine callD_p en56 (hfy) ax rfl ?_
       refine drawG_i (fun _=>false) mo (by decide +kernel) ?_
       refine callD_p en21 (hlat) ax rfl ?_
       refine ⟨⟨by decide,by decide⟩,?_⟩
       refine ⟨⟨by decide,by decide⟩,?_⟩
       refine callD_p en57 (hleq) ax rfl ?_
       cases LQ with
       | false=>
        refine call_p en58 (hsv) ax rfl ?_
        cases SV with
        | false=>
         refine call_p en49 (lives28_spec) ax rfl ?_
         exact (rfl:_=_)
        | true=>
         refine call_p en49 (lives28_spec) ax rfl ?_
         exact (rfl:_=_)
       | true=>
        obtain rfl:A1=true:=hmono rfl rfl
        refine ⟨⟨by decide,by decide⟩,?_⟩
        refine callD_p en50 (ha4) ax rfl ?_
        refine call_p en58 (hsv) ax rfl ?_
        cases SV with
        | false=>
         refine call_p en49 (lives28_spec) ax rfl ?_
         exact (rfl:_=_)
        | true=>
         refine call_p en49 (lives28_spec) ax rfl ?_
         exact (rfl:_=_)
   ·have g:¬ o < levels.length:=by simpa [pickB] using g
    have hIN:IN=false:=by rw [hinn,show decide (0≤o∧o < (levels.length:Int))=false from decide_eq_false (fun h=>g h.2)];all_goals rfl
    subst hIN
    obtain rfl:SM=false:=by
     cases SM with
     | false=>rfl
     | true=>exact absurd (hsm rfl).1 (by simp)
    obtain rfl:D=none:=by
     cases D with
     | none=>rfl
     | some _=>rw [← hDF] at hdfF;simp at hdfF
    refine ⟨⟨by decide,by decide⟩,?_⟩
    refine call_p en50 (ha1) ax rfl ?_
    refine ⟨⟨by decide,by decide⟩,?_⟩
    refine call_p en52 (hdf) ax rfl ?_
    refine drawG_i (fun _=>false) mo (by decide +kernel) ?_
    refine ⟨⟨by decide,by decide⟩,?_⟩
    refine callD_p en50 (ha3) ax rfl ?_
    refine ⟨⟨by decide,by decide⟩,?_⟩
    refine callD_p en50 (ha2) ax rfl ?_
    refine drawG_i (fun _=>false) mo (by decide +kernel) ?_
    refine call_p en58 (hsv) ax rfl ?_
    cases SV with
    | false=>
     refine call_p en49 (lives28_spec) ax rfl ?_
     exact (rfl:_=_)
    | true=>
     refine call_p en49 (lives28_spec) ax rfl ?_
     exact (rfl:_=_)
  ·have c:¬ 0≤o:=by simpa using c
   have hIN:IN=false:=by rw [hinn,show decide (0≤o∧o < (levels.length:Int))=false from decide_eq_false (fun h=>c h.1)];all_goals rfl
   subst hIN
   obtain rfl:SM=false:=by
    cases SM with
    | false=>rfl
    | true=>exact absurd (hsm rfl).1 (by simp)
   obtain rfl:D=none:=by
    cases D with
    | none=>rfl
    | some _=>rw [← hDF] at hdfF;simp at hdfF
   refine ⟨⟨by decide,by decide⟩,?_⟩
   refine call_p en50 (ha1) ax rfl ?_
   refine ⟨⟨by decide,by decide⟩,?_⟩
   refine call_p en52 (hdf) ax rfl ?_
   refine drawG_i (fun _=>false) mo (by decide +kernel) ?_
   refine ⟨⟨by decide,by decide⟩,?_⟩
   refine callD_p en50 (ha3) ax rfl ?_
   refine ⟨⟨by decide,by decide⟩,?_⟩
   refine callD_p en50 (ha2) ax rfl ?_
   refine drawG_i (fun _=>false) mo (by decide +kernel) ?_
   refine call_p en58 (hsv) ax rfl ?_
   cases SV with
   | false=>
    refine call_p en49 (lives28_spec) ax rfl ?_
    exact (rfl:_=_)
   | true=>
    refine call_p en49 (lives28_spec) ax rfl ?_
    exact (rfl:_=_)
end Go.Proofs.YtbfdbhechmhpoaaGreat
