/- Part 1 of the proof: General laws: sizes, fields, stores into a block, append onto a row of one's own; The symbolic evaluator 'Dv', its definitions: data that stand for Go values (slices by their content), what they mean in memory, a state, and 'go', which says as a proposition what is left to be shown; What data mean: laws of the relation between data and values; the table of types; The evaluator's pure operations are sound; The evaluator 'go' is sound: how a state goes on when a temporary is written, an object is made or written, a row grows; The evaluator 'go' is sound: each operation; the end of a call. No condition. -/
import Derived.WalkKit
import Derived.Deep.QuietTactic
import Derived.Shelf.Abstract
import Derived.Laws.AppendOwn
import Derived.Still
import Derived.IntWalk
import Derived.Deep.Draws
import Derived.Great.BuildSlice
import Derived.Laws.MakeOwn
import Derived.Laws.BytesString
set_option linter.all false
namespace Go.Proofs.YtfdedoiiahbnnaaGreat
theorem gE {α : Type _} {l : List α} {i : Nat} (h : i < l.length) : l[i]? = some l[i] := List.getElem?_eq_getElem h
theorem oI {α : Type _} (a b : α) : (some a = some b) = (a = b) := Option.some.injEq a b
theorem nL {n m : Nat} (h : Nat.ble n m = true) : n <= m := Nat.le_of_ble_eq_true h
theorem mG {α : Type _} {l : List α} {i : Nat} {a : α} (h : l[i]? = some a) : a ∈ l := List.mem_of_getElem? h
theorem gS {α : Type _} {l : List α} {i : Nat} {a : α} (h : l[i]? = some a) : ∃ h : i < l.length, l[i] = a := List.getElem?_eq_some_iff.1 h
theorem rE {α:Type _} {A B:α->Prop} {s:α} (h:B s) (w:A s):∃ s,A s/\B s:=⟨s,w,h⟩
theorem gX {α:Type _} {l:List α} {i:Nat} (h:i < l.length):∃ x,l[i]? = some x:=⟨_,List.getElem?_eq_getElem h⟩
theorem sU {p q:Prop} (h:p) (e:p->q:=by intro h;simpa using h):q:=e h
theorem sV {p q r:Prop} (x:r) (h:p) (e:r->p->q:=by intro x h;simpa [x] using h):q:=e x h
theorem sW {p q r:Prop} (x:r) (h:p) (e:r->p->q:=by intro x h;simp [x] at h;omega):q:=e x h
theorem ag {c:Prop} {h:Decidable c} (k:¬c) {α:Sort _} {t e:α}:(if c then t else e)=e:=if_neg k
theorem ah {c:Prop} {h:Decidable c} (k:c) {α:Sort _} {t e:α}:(if c then t else e)=t:=if_pos k
theorem bg (a b:Bool):((a && b)=true)=(a=true/\b=true):=Bool.and_eq_true a b
theorem nz {α:Type _} {l:List α} {i:Nat} {a:α}:l.getD i a=l[i]?.getD a:=List.getD_eq_getElem?_getD
theorem bn (n:Nat):n<=n:=Nat.le_refl n
theorem ei {α:Type _} {l m:List α} {i:Nat} (h:i < l.length):(l ++ m)[i]? = l[i]?:=List.getElem?_append_left h
theorem G8 {m n:Nat} (h:m < n.succ):m < n∨m=n:=Nat.lt_succ_iff_lt_or_eq.1 h
theorem lD (n:Nat):((n:Int)).toNat=n:=Int.toNat_natCast n
theorem zNonN (n:Nat):0<=(n:Int):=Int.natCast_nonneg n
theorem j5 {α:Type _} {l:List α} {i:Nat} {a:α} (h:i < l.length):(l.set i a)[i]? = some a:=List.getElem?_set_self h
theorem zK {α:Type _} {l:List α} {i:Nat} (h:l.length<=i):l[i]? = none:=List.getElem?_eq_none h
theorem cQ {α:Type _} {l:List α} {i j:Nat}:(List.take i l)[j]? = if j < i then l[j]? else none:=List.getElem?_take
theorem dM {α:Type _} {b:α} {l:List α} {a:α} (h:a ∈ b :: l):a=b∨a ∈ l:=List.mem_cons.1 h
theorem fA {α:Type _} (y:α) {a:α} {l:List α} (h:a ∈ l):a ∈ y :: l:=List.mem_cons_of_mem y h
theorem zLenT {α:Type _} {i:Nat} {l:List α}:(List.take i l).length=min i l.length:=List.length_take
end Go.Proofs.YtfdedoiiahbnnaaGreat
namespace Go.Proofs.YtfdedoiiahbnnaaGreat
namespace Dv
open Go Go.RowKit
def iA (P:Program) (t:TypeId):Option Nat:=(P.info? t).map (·.size)
def zL (P:Program) (t:TypeId):Option Value:=(P.info? t).bind (·.zero)
def aggOf (P:Program) (t:TypeId):Option Bool:=
 match P.underlying t with
 | some (.struct _)=>some true
 | some (.array _ _)=>some true
 | some _=>some false
 | none=>none
def offOf (P:Program) (s:TypeId) (f:Nat):Option (Nat × TypeId):=
 match P.underlying s with
 | some (.struct fs)=>
  match fs[f]? with
  | some x=>if iA P x.type=some 0∨iA P x.type=none then none else some (x.offset,x.type)
  | none=>none
 | _=>none
def arrOf (P:Program) (t:TypeId):Option (Nat × Nat):=
 match P.underlying t with
 | some (.array n e)=>(iA P e).map fun s=>(n,s)
 | _=>none
def bitsOf (op:BinOp) (k:IntKind) (x y:Int):Option Int:=
 let a:=BitVec.ofInt k.bits x
 let b:=BitVec.ofInt k.bits y
 match op with
 | .and=>some (k.wrap (a &&& b).toNat)
 | .or=>some (k.wrap (a ||| b).toNat)
 | .xor=>some (k.wrap (a ^^^ b).toNat)
 | .andNot=>some (k.wrap (a &&& ~~~b).toNat)
 | _=>none
def binI (op:BinOp) (k:IntKind) (a b:Int):Option Value:=
 match op with
 | .add=>some (.int k (k.wrap (a + b)))
 | .sub=>some (.int k (k.wrap (a - b)))
 | .mul=>some (.int k (k.wrap (a * b)))
 | .eql=>some (.bool (decide (a=b)))
 | .neq=>some (.bool (!decide (a=b)))
 | .lss=>some (.bool (decide (a < b)))
 | .leq=>some (.bool (decide (a<=b)))
 | .gtr=>some (.bool (decide (b < a)))
 | .geq=>some (.bool (decide (b<=a)))
 | .and=>(bitsOf .and k a b).map (.int k)
 | .or=>(bitsOf .or k a b).map (.int k)
 | .xor=>(bitsOf .xor k a b).map (.int k)
 | .andNot=>(bitsOf .andNot k a b).map (.int k)
 | _=>none
def binS (op:BinOp) (a b:ByteArray):Option Value:=
 match op with
 | .eql=>some (.bool (decide (a=b)))
 | .neq=>some (.bool (!decide (a=b)))
 | .lss=>some (.bool (Op.bytesLess a.data.toList b.data.toList))
 | .geq=>some (.bool (!Op.bytesLess a.data.toList b.data.toList))
 | _=>none
def pickB (x a b:Bool):Bool:=
 match x with
 | true=>a
 | false=>b
def aA (s:ByteArray) (k:Nat):Nat:=((s.data.toList.getD k 0)).toNat
abbrev Br (b:Bool) (A B:Prop):Prop:=@Bool.rec (fun _=>Prop) B A b
theorem Br.t {b:Bool} {A B:Prop} (h:Br b A B) (hb:b=true):A:=by subst hb;exact h
theorem Br.f {b:Bool} {A B:Prop} (h:Br b A B) (hb:b=false):B:=by subst hb;exact h
theorem qN {π:Nat->Nat}:∀ {l:List Nat},l.Pairwise (fun a b=>π a < π b)->l.Nodup
 | [],_=>List.nodup_nil
 | x :: r,h=>by
  rw [List.pairwise_cons] at h;rw [List.nodup_cons];exact ⟨fun hm=>Nat.lt_irrefl _ (h.1 x hm),qN h.2⟩
def gslot (all:List Oper) (j:Nat):Option Nat:=
 match all[j]? with
 | some oj=>oj.dst
 | none=>none
def okA:Option Addr->Prop
 | some a=>a.spot=none
 | none=>False
def ab:Option Addr->Nat
 | some a=>a.block
 | none=>0
def ao:Option Addr->Nat
 | some a=>a.off
 | none=>0
section
variable {P:Program}
theorem aV {t:TypeId} {n:Nat} (h:iA P t=some n) (w:World):(sizeOf t).run P w = .ok n w:=by
 unfold iA at h
 cases hi:P.info? t with
 | none=>simp [hi] at h
 | some i=>simp only [hi,Option.map_some,oI] at h;subst h;simp [sizeOf,typeInfo,hi]
theorem ss {t:TypeId} {z:Value} (h:zL P t=some z) (w:World):(zeroValue t).run P w = .ok z w:=by
 unfold zL at h
 cases hi:P.info? t with
 | none=>simp [hi] at h
 | some i=>
  simp only [hi,Option.bind_some] at h;simp [zeroValue,typeInfo,hi,h]
theorem j6 {t:TypeId} {b:Bool} (h:aggOf P t=some b) (w:World):(isAgg t).run P w = .ok b w:=by
 unfold aggOf at h
 cases hd:P.underlying t with
 | none=>simp [hd] at h
 | some d=>
  simp only [hd] at h;cases d<;>simp at h<;>subst h<;>simp [isAgg,run_underlying hd]
theorem qO {s:TypeId} {f o:Nat} {ft:TypeId} (h:offOf P s f=some (o,ft)) :
  ∃ fs x n,P.underlying s=some (.struct fs)/\fs[f]? = some x/\x.offset=o/\x.type=ft/\iA P ft=some n/\n≠0:=by
 unfold offOf at h
 cases hd:P.underlying s with
 | none=>simp [hd] at h
 | some d=>
  cases d<;>simp only [hd] at h<;>try (cases h;done)
  rename_i fs
  cases hf:fs[f]? with
  | none=>simp [hf] at h
  | some x=>
   simp only [hf] at h;split at h
   ·simp at h
   ·rename_i bo;simp only [oI,Prod.mk.injEq] at h
    cases hs:iA P x.type with
    | none=>simp [hs] at bo
    | some n=>grind
theorem mE {op:BinOp} {k:IntKind} {x y n:Int} (h:bitsOf op k x y=some n) (w:World):(Op.intBits op k x y).run P w = .ok (.int k n) w:=by
 cases op<;>simp [bitsOf] at h<;>subst h<;>simp [Op.intBits]
theorem N3 {op:BinOp} {k:IntKind} {x y:Int} {v:Value} (h:binI op k x y=some v) (t:TypeId) (w:World) :
  (binOp op t (.int k x) (.int k y)).run P w = .ok v w:=by
 cases op<;>simp [binI] at h
 case and=>obtain ⟨n,hn,rfl⟩:=h;rw [binOp_and];exact mE hn w
 case or=>obtain ⟨n,hn,rfl⟩:=h;rw [binOp_or];exact mE hn w
 case xor=>obtain ⟨n,hn,rfl⟩:=h;rw [binOp_xor];exact mE hn w
 case andNot=>obtain ⟨n,hn,rfl⟩:=h;rw [binOp_andNot];exact mE hn w
 all_goals (subst h;simp [binOp,Op.intArith,Op.intCmp,bne,BEq.beq,GT.gt,GE.ge])
theorem BV {t:TypeId} (hu:P.underlying t=some .bool) (d:Nat) (x y:Bool) (w:World):(Op.equalIn (d + 1) t (.bool x) (.bool y)).run P w = .ok (x == y) w:=by
 simp [Op.equalIn,run_underlying hu]
theorem DG {t e:TypeId} (hu:P.underlying t=some (.pointer e)) (d:Nat) (x:Option Addr) (w:World):(Op.equalIn (d + 1) t (.pointer x) (.pointer none)).run P w = .ok x.isNone w:=by
 cases x<;>simp [Op.equalIn,run_underlying hu]
theorem G9 {t:TypeId} (hu:P.underlying t=some .bool) (x y:Bool) (w:World):(Op.equal t (.bool x) (.bool y)).run P w = .ok (x == y) w:=BV hu 9999 x y w
theorem su {t e:TypeId} (hu:P.underlying t=some (.pointer e)) (x:Option Addr) (w:World):(Op.equal t (.pointer x) (.pointer none)).run P w = .ok x.isNone w:=DG hu 9999 x w
theorem SI (x y:ByteArray):(x.data == y.data)=decide (x=y):=by
 rw [Bool.eq_iff_iff];cases x;cases y;simp
theorem N4 {op:BinOp} {x y:ByteArray} {v:Value} (h:binS op x y=some v) (t:TypeId) (w:World) :
  (binOp op t (.string x) (.string y)).run P w = .ok v w:=by
 cases op<;>simp [binS] at h<;>subst h<;>simp [binOp,Op.stringOp,ByteArray.toList_eq,SI]
theorem jD {s:TypeId} {f o:Nat} {ft:TypeId} (h:offOf P s f=some (o,ft)) (b p:Nat) (w:World) :
  (Instr.fieldAt s (.pointer (some ⟨b,p,none⟩)) f).run P w = .ok (.pointer (some ⟨b,p + o,none⟩)) w:=by
 obtain ⟨fs,x,n,hu,hf,ho,ht,hs,hn⟩:=qO h;subst ho ht;simp [Instr.fieldAt,run_underlying hu,hf,Instr.sureAddr,fieldPlace,aV hs,hn,Addr.add_lit]
end
theorem zM (off:Nat):∀ (l:List Value) (k:Nat) (cs:Array Value),off + k + l.length<=cs.size ->
  ((l.zipIdx k).foldl (fun cs (x:Value × Nat)=>cs.setIfInBounds (off + x.2) x.1) cs).toList=cs.toList.take (off + k) ++ l ++ cs.toList.drop (off + k + l.length)
 | [],k,cs,_=>by simp
 | c :: l,k,cs,h=>by
  have h':off + k + 1 + l.length<=cs.size:=by simp only [List.length_cons] at h;omega
  have ih:=zM off l (k + 1) (cs.setIfInBounds (off + k) c) (by simp;omega);simp only [List.zipIdx_cons,List.foldl_cons];rw [ih];simp only [Array.toList_setIfInBounds,List.length_cons]
  have e1:(cs.toList.set (off + k) c).take (off + (k + 1))=cs.toList.take (off + k) ++ [c]:=by
   rw [show off + (k + 1)=off + k + 1 by omega,List.take_add_one];simp only [List.getElem?_set_self',Array.getElem?_toList];have:(cs[off + k]?)=some (cs[off + k]'(by omega)):=Array.getElem?_eq_getElem (by omega);simp [this,List.take_set_of_le]
  have e2:(cs.toList.set (off + k) c).drop (off + (k + 1) + l.length)=cs.toList.drop (off + k + (l.length + 1)):=by
   rw [List.drop_set_of_lt (by omega)];congr 1;omega
  rw [e1,e2];simp
theorem pX (off:Nat) (v:Value) (cs:Array Value) (h:off + v.cells.toList.length<=cs.toList.length) :
  v.cells.zipIdx.foldl (fun cs (x:Value × Nat)=>cs.setIfInBounds (off + x.2) x.1) cs=(cs.toList.take off ++ v.cells.toList ++ cs.toList.drop (off + v.cells.toList.length)).toArray:=by
 apply Array.ext';have:=zM off v.cells.toList 0 cs (sU h);rw [<- Array.foldl_toList];simpa using this
section
variable {P:Program} {w:World}
theorem vQ:∀ (l:List Field),l.all (fun f=>(iA P f.type).isSome)=true ->
  (l.mapM fun f=>(do pure (f.offset,<- sizeOf f.type):Sem (Nat × Nat))).run P w = .ok (l.map fun f=>(f.offset,(iA P f.type).getD 0)) w
 | [],_=>rfl
 | f :: l,h=>by
  simp only [List.all_cons,bg] at h;obtain ⟨n,hn⟩:=Option.isSome_iff_exists.1 h.1;have ih:=vQ l h.2;simp only [List.mapM_cons,Sem.run_bind,aV hn,Result.andThen_ok,Sem.run_pure,ih,hn,List.map_cons,Option.getD_some]
theorem sv {t ty e:TypeId} (ht:P.underlying t=some (.slice e)) (b:Option Addr) (n c:Nat):(Builtin.len_ #[t] ty #[.slice b n c]).run P w = .ok (.int .i64 n) w:=by
 simp [Builtin.len_,run_underlying ht,goInt]
theorem DH {t ty:TypeId} (ht:P.underlying t=some .string) (s:ByteArray):(Builtin.len_ #[t] ty #[.string s]).run P w = .ok (.int .i64 s.size) w:=by
 simp [Builtin.len_,run_underlying ht,goInt]
end
theorem gI (w:World) (o:Obj):(w.alloc o).heap[w.heap.size]? = some o:=by
 show (w.heap.push o)[w.heap.size]? = some o;simp
def World.c8 (w:World) (b:Nat) (o:Obj):World:={ w with heap:=w.heap.setIfInBounds b o }
theorem dq {w:World} {b:Nat} {o:Obj} (h:w.heap[b]? = some o):b < w.heap.size:=(Array.getElem?_eq_some_iff.1 h).1
theorem eI {w:World} {b:Nat} {o o':Obj} (h:w.heap[b]? = some o):(World.c8 w b o').heap[b]? = some o':=by grind [dq,World.c8]
theorem cS {w:World} {b k:Nat} {o:Obj} (h:k≠b):(World.c8 w b o).heap[k]? = w.heap[k]?:=by grind [World.c8]
theorem fB {w:World} {b:Nat} {o:Obj}:(World.c8 w b o).heap.size=w.heap.size:=by simp [World.c8]
theorem j7 {w:World} {b:Nat} {cur:Array Value} {ty:TypeId} {fz:Nat × Nat} (h:w.heap[b]? = some (.cells cur ty fz)) (o:Nat) (v:Value) :
  w.setCell ⟨b,o,none⟩ v=World.c8 w b (.cells (cur.setIfInBounds o v) ty fz):=by
 have hb:=dq h;have hg:w.heap[b] = .cells cur ty fz:=by simpa [Array.getElem?_eq_getElem hb] using h
 simp only [World.setCell,World.c8];congr 1;apply Array.ext
 ·simp
 ·grind
theorem cJ {w:World} {b:Nat} {cur:Array Value} {ty:TypeId} {fz:Nat × Nat} (h:w.heap[b]? = some (.cells cur ty fz)) (o:Nat):w.cell? ⟨b,o,none⟩=cur[o]?:=by
 simp [World.cell?,h]
theorem nR {P:Program} {b off:Nat} {ty:TypeId}:∀ (l:List Value) (i:Nat) (cur:Array Value) (w:World),w.heap[b]? = some (.cells cur ty (0,0))->off + i + l.length<=cur.size ->
  l.all Value.oneCell'=true ->
  (storeCells ⟨b,off,none⟩ l i).run P w = .ok () (World.c8 w b (.cells (cur.toList.take (off + i) ++ l ++ cur.toList.drop (off + i + l.length)).toArray ty (0,0)))
 | [],i,cur,w,hw,_,_=>by
  simp only [storeCells,Sem.run_pure,List.append_nil,List.length_nil,Nat.add_zero,List.take_append_drop,Array.toArray_toList,Result.ok.injEq,true_and];have hb:=dq hw;have hg:w.heap[b] = .cells cur ty (0,0):=by simpa [Array.getElem?_eq_getElem hb] using hw
  simp only [World.c8];rw [<- hg];simp [Array.setIfInBounds,hb]
 | v :: l,i,cur,w,hw,hl,ho=>by
  simp only [List.length_cons] at hl;simp only [List.all_cons,bg] at ho;have hc:w.cell? ⟨b,off + i,none⟩=some (cur[off + i]'(by omega)):=by rw [cJ hw];exact Array.getElem?_eq_getElem (by omega)
  have hf:w.frozen? ⟨b,off + i,none⟩=false:=by simp [World.frozen?,hw]
  have hs:=j7 hw (off + i) v;have ih:=nR (P:=P) (b:=b) (off:=off) (ty:=ty) l (i + 1) (cur.setIfInBounds (off + i) v) (w.setCell ⟨b,off + i,none⟩ v) (by rw [hs];exact eI hw) (by simp;omega) ho.2;simp only [storeCells,Sem.run_bind,Addr.add_lit];rw [run_store P w _ v .plain ho.1,hc];simp only [hf,Bool.false_eq_true,if_false,Result.andThen_ok];rw [ih,hs];congr 1;simp only [World.c8];rw [Array.setIfInBounds_setIfInBounds];congr 3;apply Array.ext';simp only [Array.toList_setIfInBounds,List.length_cons]
  have e1:(cur.toList.set (off + i) v).take (off + (i + 1))=cur.toList.take (off + i) ++ [v]:=by
   rw [show off + (i + 1)=off + i + 1 by omega,List.take_add_one];rw [j5 (by simp;omega)];simp [List.take_set_of_le]
  have e2:(cur.toList.set (off + i) v).drop (off + (i + 1) + l.length)=cur.toList.drop (off + i + (l.length + 1)):=by
   rw [List.drop_set_of_lt (by omega)];congr 1;omega
  rw [e1,e2];simp
theorem gV {P:Program} {b off n:Nat} {t ty:TypeId} {cur:Array Value} {w:World} {v:Value} (hw:w.heap[b]? = some (.cells cur ty (0,0))) (hn:iA P t=some n)
  (hv:v.cells.toList.length=n) (hl:off + n<=cur.size) (ho:v.cells.toList.all Value.oneCell'=true) :
  (storeVar t ⟨b,off,none⟩ v).run P w = .ok () (World.c8 w b (.cells (cur.toList.take off ++ v.cells.toList ++ cur.toList.drop (off + n)).toArray ty (0,0))):=by
 have h:=nR (P:=P) (off:=off) v.cells.toList 0 cur w hw (by omega) ho;simp only [Nat.add_zero,hv] at h;have WZ:v.cells.size=n:=sU hv;simp [storeVar,aV hn,WZ,h]
theorem lE {w w':World} {x:Addr} (h:w'.heap[x.block]? = w.heap[x.block]?):w'.cell? x=w.cell? x:=by simp [World.cell?,h]
section
variable {P:Program} (w:World)
theorem jj (t ty e:TypeId) (i:TypeInfo) (z:Value) (size bytes:Nat) (ht:P.underlying t=some (.slice e)) (hi:P.info? e=some i) (hz:i.zero=some z)
  (lF:i.size=size) (zh:i.bytes=bytes) (NH:z.cells.size=size) (di:0 < size)
  (v:Value) (n:Nat) (xs:List Value) (dG:w.ownsRow 0 e size v n xs)
  (a:Addr) (m c:Nat) (news:List Value) (hl:news.length=m * size) (vR:∀ j u,news[j]? = some u->w.cell? (a.add j)=some u) (h1:∀ u∈news,u.oneCell'=true) (hm:0 < m)
  (Sr:n + m<=maxLen) (mF:(n + m) * bytes<=140737488355328) :
  ∃ g cap w',(Builtin.append_ #[t,t] ty #[v,.slice (some a) m c]).run P w = .ok (.slice (some ⟨g,0,none⟩) (n + m) cap) w' /\ w'.ownsRow 0 e size (.slice (some ⟨g,0,none⟩) (n + m) cap) (n + m) (xs ++ news)/\w.grownBy w' v.ownBlock /\
   ((v.ownBlock=some g)∨(w.heap.size<=g/\∀ k,k < w.heap.size->w'.heap[k]? = w.heap[k]?)):=by
 obtain ⟨v',w',hr,h2,h3,h4⟩:=run_append_own (P:=P) w 0 t ty e i z size bytes ht hi hz lF zh NH di v n xs dG a m c news hl vR h1 Sr mF (Nat.zero_le _);have N5:n + m<=9223372036854775807:=by simp only [maxLen] at Sr;omega
 subst lF;rcases dG.2 with ⟨rfl,rfl⟩ | ⟨g,cap,cur,rfl,hbg,hg,zj,hcm,cx,htake⟩
 ·have j8:=run_append_nil (P:=P) w t ty e i z ht hi hz a m c news hl vR hm (by omega) (by have hb:=mF;simp only [Nat.zero_add] at hb;rw [zh];omega);rw [j8] at hr;injection hr with e1 e2
  subst e1;simp only [Nat.zero_add] at *;exact ⟨_,_,w',by rw [j8,e2],h2,h3,.inr ⟨bn _,fun k hk=>by rw [<- e2];exact Below.heap_alloc w.drew _ k hk⟩⟩
 ·by_cases Jl:n + m<=cap
  ·have aad:n * i.size + news.length<=cur.size:=by rw [hl,cx,<- Nat.add_mul];exact Nat.mul_le_mul_right _ Jl
   have j8:=run_append_room (P:=P) w t ty e i ht hi g n cap cur hg a m c news hl vR h1 Jl aad;rw [j8] at hr;injection hr with e1 e2
   subst e1;exact ⟨_,_,w',by rw [j8,e2],h2,h3,.inl rfl⟩
  ·have holds:∀ j u,xs[j]? = some u->w.cell? ((⟨g,0,none⟩:Addr).add j)=some u:=dG.cells (g:=g) rfl;have j8:=run_append_grow (P:=P) w t ty e i z ht hi hz ⟨g,0,none⟩ n cap xs dG.1 holds a m c news hl vR (by omega) (by omega) (growslice_fits (by omega) (by rw [zh];exact mF));rw [j8] at hr;injection hr with e1 e2
   subst e1;exact ⟨_,_,w',by rw [j8,e2],h2,h3,.inr ⟨bn _,fun k hk=>by rw [<- e2];exact Below.heap_alloc w.drew _ k hk⟩⟩
theorem vS (t ty e:TypeId) (i:TypeInfo) (z:Value) (size bytes:Nat) (ht:P.underlying t=some (.slice e)) (hi:P.info? e=some i) (hz:i.zero=some z)
  (lF:i.size=size) (zh:i.bytes=bytes) (NH:z.cells.size=size) (di:0 < size)
  (a:Addr) (m c:Nat) (news:List Value) (hl:news.length=m * size) (vR:∀ j u,news[j]? = some u->w.cell? (a.add j)=some u) (h1:∀ u∈news,u.oneCell'=true) (hm:0 < m)
  (Sr:m<=maxLen) (mF:m * bytes<=140737488355328) :
  m<=grownCap w m 0 e/\(Builtin.append_ #[t,t] ty #[.slice none 0 0,.slice (some a) m c]).run P w = .ok (.slice (some ⟨w.heap.size,0,none⟩) m (grownCap w m 0 e)) (w.drew.alloc (.cells (news.toArray ++ Builtin.zeroCells z.cells (grownCap w m 0 e - m)) e)):=by
 have N5:m<=9223372036854775807:=by simp only [maxLen] at Sr;omega
 have j8:=run_append_nil (P:=P) w t ty e i z ht hi hz a m c news (by rw [lF];exact hl) vR hm (by omega) (by rw [zh];omega);refine ⟨?_,j8⟩;obtain ⟨g,cap,w',hr,h2,_⟩:=jj (P:=P) w t ty e i z size bytes ht hi hz lF zh NH di (.slice none 0 0) 0 [] ⟨by simp,.inl ⟨rfl,rfl⟩⟩ a m c news hl vR h1 hm (by omega) (by rw [Nat.zero_add];exact mF);rw [j8] at hr;injection hr with e1 e2
 rcases h2.2 with ⟨hv,_⟩ | ⟨_,_,_,hv,_,_,zj,_⟩
 ·cases hv
 ·grind
end
theorem nA {P:Program} (w:World) (t ty e:TypeId) (i:TypeInfo) (ht:P.underlying t=some (.slice e)) (hi:P.info? e=some i) (b b':Option Addr) (n cap c:Nat) (hn:n<=cap) :
  (Builtin.append_ #[t,t] ty #[.slice b n cap,.slice b' 0 c]).run P w = .ok (.slice b n cap) w:=by
 have hl:∀ a:Addr,(loadCells a 0).run P w = .ok #[] w:=fun a=>by
  have:=run_loadCells_list (P:=P) w a [] (fun j v hj=>by simp at hj);simpa using this
 cases b'<;>cases b<;>simp [Builtin.append_,run_underlying ht,sizeOf,typeInfo,hi,Builtin.lenOf,Builtin.firstCells,hn,storeCells,hl]
def enumF {α:Type _}:Nat->List α->List (Nat × α)
 | _,[]=>[]
 | i,x :: r=>(i,x) :: enumF (i + 1) r
theorem sw {α γ:Type _} (f:α->γ):∀ (l:List α) (i:Nat),(enumF i l).map (fun p=>(p.1,f p.2))=enumF i (l.map f)
 | [],_=>rfl
 | x :: r,i=>by simp only [enumF,List.map_cons,sw f r]
def cellsL:List Value->List Value
 | []=>[]
 | v :: r=>v.cells.toList ++ cellsL r
theorem qP (size:Nat):∀ (vs:List Value) (i:Nat) (cs:List Value),(∀ v∈vs,v.cells.toList.length=size)->(i + vs.length) * size<=cs.length ->
  Instr.fill (fun i=>some (i * size,size)) cs.toArray (enumF i vs)=some (cs.take (i * size) ++ cellsL vs ++ cs.drop ((i + vs.length) * size)).toArray
 | [],i,cs,_,_=>by simp [enumF,Instr.fill,cellsL]
 | v :: r,i,cs,hv,hl=>by
  have h1:=hv v (by simp);have h2:v.cells.size=size:=sU h1;have jk:(i + 1) * size<=(i + (v :: r).length) * size:=Nat.mul_le_mul_right _ (by simp only [List.length_cons];omega);have hm:(i + 1) * size=i * size + size:=by rw [Nat.add_mul,Nat.one_mul]
  have hi:i * size + size<=cs.length:=by rw [<- hm];exact Nat.le_trans jk hl
  simp only [enumF,Instr.fill];rw [ag (by simp [h2,hi])];have:=pX (i * size) v cs.toArray (by simp only [h1];exact hi);rw [h1] at this;rw [this]
  have ih:=qP size r (i + 1) (cs.take (i * size) ++ v.cells.toList ++ cs.drop (i * size + size)) (fun u hu=>hv u (fA _ hu)) (by
   simp only [List.length_append,zLenT,List.length_drop,h1];have:(i + 1 + r.length) * size=(i + (v :: r).length) * size:=by congr 1;simp only [List.length_cons];omega
   omega)
  rw [ih];congr 2;have aE:(cs.take (i * size)).length=i * size:=by simp;omega
  have e1:(cs.take (i * size) ++ v.cells.toList ++ cs.drop (i * size + size)).take ((i + 1) * size)=cs.take (i * size) ++ v.cells.toList:=by grind
  have e2:(cs.take (i * size) ++ v.cells.toList ++ cs.drop (i * size + size)).drop ((i + 1 + r.length) * size)=cs.drop ((i + (v :: r).length) * size):=by
   have e3:(i + (v :: r).length) * size=(i + 1 + r.length) * size:=by congr 1;simp only [List.length_cons];omega
   have e4:(i + 1) * size<=(i + 1 + r.length) * size:=Nat.mul_le_mul_right _ (by omega);rw [e3,List.drop_append,List.drop_eq_nil_of_le (by simp only [List.length_append,aE,h1];omega)]
   simp_all
  grind [cellsL]
end Dv
end Go.Proofs.YtfdedoiiahbnnaaGreat
namespace Go.Proofs.YtfdedoiiahbnnaaGreat
namespace Dv
open Go Go.RowKit
inductive DV where
 | v (x:Value)
 | ud
 | agg (l:List DV)
 | bK (l:List DV)
 | sl (e:Nat) (es:List (List DV)) (tk:Option Nat)
 | pt (cs:List DV) (off:Nat)
 | loc (i off:Nat)
 | el (i off:Nat)
 | ms (i e off len cap:Nat)
 | fn (f:Nat) (first captured:List DV)
 | pY (t:TypeId) (x:DV)
structure TkE where
 n:Nat
 ty:TypeId
 e:Nat
 own:Option (List DV)
def TkE.kn (q:TkE):Nat:=match q.own with
 | none=>q.n * q.e
 | some _=>0
def TkE.new (q:TkE):Bool:=Nat.beq q.n 0 && match q.own with
 | none=>true
 | some []=>true
 | _=>false
theorem TkE.N6 {q:TkE} (h:q.new=true):q.n=0:=by simp_all [TkE.new]
theorem TkE.Vh {q:TkE} (h:q.new=true):∀ cs,q.own=some cs->cs=[]:=by grind [TkE.new]
structure En where
 c:Addr->Option Value
 β:List Nat
 tk:List TkE
 τ:List Value
def En.cl (E:En):En:=⟨E.c,[],[],[]⟩
def SJ (E:En) (tk:Option Nat) (n:Nat) (y:Value):Prop:=
 ∀ k,tk=some k->∃ q,E.tk[k]? = some q/\n<=q.n/\(n=q.n->E.τ[k]? = some y)
mutual
def Rv:En->DV->Value->Prop
 | _,.v x,y=>y=x/\x.oneCell'=true
 | _,.ud,y=>y=undef
 | E,.agg l,y=>∃ vs:List Value,y = .agg vs.toArray/\RvL E l vs/\(∀ v∈vs,v.oneCell'=true)
 | E,.bK l,y=>∃ vs:List Value,y = .tuple vs.toArray/\RvL E l vs
 | E,.sl e es tk,y=>∃ b n cap,y = .slice b n cap/\(n=es.length/\n<=cap)/\(es ≠ []->okA b/\RvEs E.cl e (ab b) (ao b) es)/\SJ E tk n y
 | E,.pt cs off,y=>∃ b p,y = .pointer (some ⟨b,p + off,none⟩)/\RvAt E.cl b p cs
 | E,.loc i off,y=>∃ b,E.β[i]? = some b/\y = .pointer (some ⟨b,off,none⟩)
 | E,.el i off,y=>∃ b,E.β[i]? = some b/\y = .pointer (some ⟨b,off,none⟩)
 | E,.ms i _ off len cap,y=>∃ b a,E.β[i]? = some b/\len<=cap/\y = .slice a len cap/\(cap≠0->a=some ⟨b,off,none⟩)
 | E,.fn f first captured,y=>∃ l r:List Value,y = .func (.func f) l.toArray r.toArray/\RvL E first l/\RvL E captured r
 | E,.pY t x,y=>∃ z,y = .iface t z/\Rv E x z
def RvL:En->List DV->List Value->Prop
 | _,[],l=>l=[]
 | E,d :: r,l=>∃ v s,l=v :: s/\Rv E d v/\RvL E r s
def RvAt:En->Nat->Nat->List DV->Prop
 | _,_,_,[]=>True
 | E,b,p,d :: r=>(∃ v,E.c ⟨b,p,none⟩=some v/\v.oneCell'=true/\Rv E d v)/\RvAt E b (p + 1) r
def RvEs:En->Nat->Nat->Nat->List (List DV)->Prop
 | _,_,_,_,[]=>True
 | E,e,b,o,cs :: r=>cs.length=e/\RvAt E b o cs/\RvEs E e b (o + e) r
end
def RvC (E:En) (l:List DV) (vs:List Value):Prop:=RvL E l vs/\∀ v∈vs,v.oneCell'=true
def DV.cells:DV->List DV
 | .agg l=>l
 | .ud=>[]
 | .bK _=>[]
 | d=>[d]
structure Sl where
 gs:List (Nat × Bool)
 s:DV
structure St where
 sl:List (Nat × Sl)
 bx:List (List DV)
 tk:List TkE
def get:List (Nat × Sl)->Nat->Option Sl
 | [],_=>none
 | (k,x) :: r,i=>
  match Nat.beq k i with
  | true=>some x
  | false=>get r i
def Holds (tmps:Array Value) (gs:List (Nat × Bool)):Prop:=∀ p∈gs,tmps[p.1]? = some (.bool p.2)
def St.put (st:St) (dst:Option Nat) (x:Sl):St:=
 match dst with
 | some d=>⟨(d,x) :: st.sl,st.bx,st.tk⟩
 | none=>st
def putK (st:St) (dst:Option Nat) (x:Sl) (K:St->Prop):Prop:=
 match dst with
 | some d=>
  match st with
  | ⟨sl,bx,tk⟩=>K ⟨(d,x) :: sl,bx,tk⟩
 | none=>K st
theorem oJ (st:St) (dst:Option Nat) (x:Sl) (K:St->Prop):putK st dst x K=K (st.put dst x):=by
 cases dst<;>rfl
def appF {α γ:Type _} (c:α):List α->(Nat->List α->γ)->γ
 | [],K=>K 0 [c]
 | b :: r,K=>appF c r (fun n r'=>K (n + 1) (b :: r'))
theorem vq {α γ:Type _} (c:α):∀ (l:List α) (K:Nat->List α->γ),appF c l K=K l.length (l ++ [c])
 | [],K=>rfl
 | b :: r,K=>by simp only [appF];rw [vq c r];all_goals rfl
def setF {α γ:Type _} (c:α):List α->Nat->(List α->γ)->γ
 | [],_,K=>K []
 | _ :: r,0,K=>K (c :: r)
 | b :: r,i + 1,K=>setF c r i (fun r'=>K (b :: r'))
theorem vt {α γ:Type _} (c:α):∀ (l:List α) (i:Nat) (K:List α->γ),setF c l i K=K (l.set i c)
 | [],_,K=>rfl
 | _ :: r,0,K=>rfl
 | b :: r,i + 1,K=>by simp only [setF];rw [vt c r i];all_goals rfl
def SK (st:St) (d:Nat) (cs:List DV) (K:St->Prop):Prop:=
 match st with
 | ⟨sl,bx,tk⟩=>appF cs bx (fun n Vi=>K ⟨(d,⟨[],.loc n 0⟩) :: sl,Vi,tk⟩)
theorem Jm (st:St) (d:Nat) (cs:List DV) (K:St->Prop):SK st d cs K=K ⟨(d,⟨[],.loc st.bx.length 0⟩) :: st.sl,st.bx ++ [cs],st.tk⟩:=by
 simp only [SK,vq]
def SL (st:St) (i:Nat) (cs:List DV) (K:St->Prop):Prop:=
 match st with
 | ⟨sl,bx,tk⟩=>setF cs bx i (fun Vi=>K ⟨sl,Vi,tk⟩)
theorem Jn (st:St) (i:Nat) (cs:List DV) (K:St->Prop):SL st i cs K=K ⟨st.sl,st.bx.set i cs,st.tk⟩:=by
 simp only [SL,vt]
structure qQ (S:Nat->Prop) (w w':World):Prop where
 os:w'.os=w.os
 tape:w'.tape=w.tape
 output:w'.output=w.output
 size:w.heap.size<=w'.heap.size
 block:∀ k,k < w.heap.size->¬ S k->w'.heap[k]? = w.heap[k]?
inductive TK where
 | st (DI:List (Nat × Nat))
 | sl (et e bytes:Nat)
 | ar (n e:Nat)
 | int (k:IntKind)
 | bool
 | str
 | ptr (et:Nat)
 | fn
 | pY
 | ot
structure TE where
 size:Nat
 agg:Bool
 kd:TK
 z:List Value
inductive TT where
 | nil
 | aj (k:Nat) (e:TE) (l r:TT)
def TT.find:TT->Nat->Option TE
 | .nil,_=>none
 | .aj k e l r,t=>
  match Nat.beq t k with
  | true=>some e
  | false=>
   match Nat.blt t k with
   | true=>l.find t
   | false=>r.find t
def okOffs (P:Program) (t:TypeId):Nat->List (Nat × Nat)->Bool
 | _,[]=>true
 | i,p :: r=>decide (offOf P t i=some p) && okOffs P t (i + 1) r
def veq:Value->Value->Bool
 | .bool a,.bool b=>a == b
 | .int k a,.int k' b=>decide (k=k') && decide (a=b)
 | .string a,.string b=>decide (a.size=0) && decide (b.size=0)
 | .pointer none,.pointer none=>true
 | .slice none 0 0,.slice none 0 0=>true
 | .map none,.map none=>true
 | .nilFunc,.nilFunc=>true
 | .nilIface,.nilIface=>true
 | _,_=>false
def veqL:List Value->List Value->Bool
 | [],[]=>true
 | a :: r,b :: s=>veq a b && veqL r s
 | _,_=>false
def slOf (P:Program) (t:TypeId):Option (Nat × Nat × Nat):=
 match P.underlying t with
 | some (.slice e)=>
  match P.info? e with
  | some i=>
   match i.zero with
   | some z=>if z.cells.size=i.size then some (e,i.size,i.bytes) else none
   | none=>none
  | none=>none
 | _=>none
def zok (P:Program) (t:TypeId) (agg:Bool) (z:List Value):Bool:=
 match zL P t with
 | some (.agg cs)=>agg && veqL cs.toList z
 | some v=>!agg && veqL [v] z
 | none=>false
def TE.ok (P:Program) (t:TypeId) (e:TE):Bool:=
 decide (iA P t=some e.size) && decide (aggOf P t=some e.agg) && zok P t e.agg e.z &&
 match e.kd with
 | .st DI=>(match P.underlying t with
  | some (.struct fs)=>fs.all (fun f=>(iA P f.type).isSome)
  | _=>false) && okOffs P t 0 DI
 | .sl et s jS=>decide (slOf P t=some (et,s,jS))
 | .ar n s=>decide (arrOf P t=some (n,s))
 | .int k=>match P.underlying t with
  | some (.int k')=>decide (k'=k)
  | _=>false
 | .bool=>match P.underlying t with
  | some .bool=>true
  | _=>false
 | .str=>match P.underlying t with
  | some .string=>true
  | _=>false
 | .ptr et=>match P.underlying t with
  | some (.pointer et')=>decide (et'=et)
  | _=>false
 | .pY=>true
 | .fn=>true
 | .ot=>true
def TT.ok (P:Program):TT->Bool
 | .nil=>true
 | .aj k e l r=>e.ok P k && l.ok P && r.ok P
def TT.off (T:TT) (s f:Nat):Option (Nat × Nat):=
 match T.find s with
 | some ⟨_,_,.st DI,_⟩=>DI[f]?
 | _=>none
def TT.sz (T:TT) (t:Nat):Option Nat:=
 match T.find t with
 | some ⟨n,_,_,_⟩=>some n
 | none=>none
def takeF {α γ:Type _}:Nat->List α->(List α->Option γ)->Option γ
 | 0,_,K=>K []
 | _ + 1,[],_=>none
 | n + 1,x :: r,K=>takeF n r (fun l=>K (x :: l))
theorem vT {α γ:Type _}:∀ (n:Nat) (l:List α) (K:List α->Option γ),takeF n l K=if (l.take n).length=n then K (l.take n) else none
 | 0,l,K=>by simp [takeF]
 | n + 1,[],K=>by simp [takeF]
 | n + 1,x :: r,K=>by simp only [takeF,vT n r,List.take_succ_cons,List.length_cons,Nat.add_right_cancel_iff]
def overF {α γ:Type _}:List α->List α->(List α->γ)->γ
 | [],cs,K=>K cs
 | v :: r,_ :: cs,K=>overF r cs (fun l=>K (v :: l))
 | v :: r,[],K=>K (v :: r)
def splF {α γ:Type _}:List α->Nat->List α->(List α->γ)->γ
 | cs,0,vs,K=>overF vs cs K
 | [],_ + 1,vs,K=>K vs
 | c :: r,o + 1,vs,K=>splF r o vs (fun l=>K (c :: l))
theorem DJ {α γ:Type _}:∀ (vs cs:List α) (K:List α->γ),overF vs cs K=K (vs ++ cs.drop vs.length)
 | [],cs,K=>by simp [overF]
 | v :: r,c :: cs,K=>by simp only [overF,DJ r cs,List.length_cons,List.drop_succ_cons,List.cons_append]
 | v :: r,[],K=>by simp [overF]
theorem vu {α γ:Type _}:∀ (cs:List α) (o:Nat) (vs:List α) (K:List α->γ),splF cs o vs K=K (cs.take o ++ vs ++ cs.drop (o + vs.length))
 | cs,0,vs,K=>by cases cs<;>simp [splF,DJ]
 | [],o + 1,vs,K=>by simp [splF]
 | c :: r,o + 1,vs,K=>by
  simp only [splF,vu r o vs,List.take_succ_cons,List.cons_append]
  grind
def cellsT (T:TT) (t:TypeId) (cs:List DV) (off:Nat):Option DV:=
 match T.find t with
 | some ⟨n,true,_,_⟩=>takeF n (cs.drop off) (fun l=>some (.agg l))
 | some ⟨_,false,_,_⟩=>cs[off]?
 | none=>none
def subG:List (Nat × Bool)->List (Nat × Bool)->Bool
 | [],_=>true
 | p :: r,G=>G.contains p && subG r G
def rv (st:St) (G:List (Nat × Bool)):Operand->Option DV
 | .tmp t=>
  match get st.sl t with
  | some ⟨gs,s⟩=>
   match subG gs G with
   | true=>some s
   | false=>none
  | none=>none
 | .const v=>
  match v.oneCell' with
  | true=>some (.v v)
  | false=>none
 | .global g=>some (.v (.pointer (some ⟨g,0,none⟩)))
 | .func f=>some (.fn f [] [])
def pickD (x:Bool):DV->DV->DV
 | .v (.bool a),.v (.bool b)=>.v (.bool (pickB x a b))
 | a,b=>
  match x with
  | true=>a
  | false=>b
def Lh:Option Value->Option DV
 | some v=>some (.v v)
 | none=>none
def binD (T:TT) (op:BinOp) (t:TypeId):DV->DV->Option DV
 | .v (.int k a),.v (.int k' b)=>if k=k' then Lh (binI op k a b) else none
 | .v (.string a),.v (.string b)=>Lh (binS op a b)
 | .v (.bool a),.v (.bool b)=>
  match T.find t with
  | some ⟨_,_,.bool,_⟩=>
   match op with
   | .eql=>some (.v (.bool (a == b)))
   | .neq=>some (.v (.bool (!(a == b))))
   | _=>none
  | _=>none
 | .v (.pointer a),.v (.pointer none)=>
  match T.find t with
  | some ⟨_,_,.ptr _,_⟩=>
   match op with
   | .eql=>some (.v (.bool a.isNone))
   | .neq=>some (.v (.bool (!a.isNone)))
   | _=>none
  | _=>none
 | .pt _ _,.v (.pointer none)=>
  match T.find t with
  | some ⟨_,_,.ptr _,_⟩=>
   match op with
   | .eql=>some (.v (.bool false))
   | .neq=>some (.v (.bool true))
   | _=>none
  | _=>none
 | .loc _ _,.v (.pointer none)=>
  match T.find t with
  | some ⟨_,_,.ptr _,_⟩=>
   match op with
   | .eql=>some (.v (.bool false))
   | .neq=>some (.v (.bool true))
   | _=>none
  | _=>none
 | _,_=>none
def fillT (T:TT) (t:TypeId) (st:St) (G:List (Nat × Bool)) (cs:List DV):List (Nat × Operand)->Option DV
 | []=>some (.agg cs)
 | (f,x) :: r=>
  match T.off t f,rv st G x with
  | some (off,ft),some d=>
   match T.sz ft with
   | some n=>
    match Nat.beq d.cells.length n && Nat.ble (off + n) cs.length with
    | true=>splF cs off d.cells (fun cs'=>fillT T t st G cs' r)
    | false=>none
   | none=>none
  | _,_=>none
def argsV (st:St) (G:List (Nat × Bool)):List Operand->Option (List DV)
 | []=>some []
 | x :: r=>
  match rv st G x,argsV st G r with
  | some d,some l=>some (d :: l)
  | _,_=>none
def vL:List Value->List DV
 | []=>[]
 | v :: r=>.v v :: vL r
def fillAr (e:Nat) (st:St) (G:List (Nat × Bool)) (cs:List DV):List (Nat × Operand)->Option DV
 | []=>some (.agg cs)
 | (f,x) :: r=>
  match rv st G x with
  | some d=>
   match Nat.blt 0 e && Nat.beq d.cells.length e && Nat.ble (f * e + e) cs.length with
   | true=>splF cs (f * e) d.cells (fun cs'=>fillAr e st G cs' r)
   | false=>none
  | none=>none
def pureT (P:Program) (T:TT) (st:St) (G:List (Nat × Bool)):Op->Option DV
 | .move x=>rv st G x
 | .assign x=>rv st G x
 | .pick c a b=>
  match c with
  | .tmp d=>
   match rv st G c,rv st ((d,true) :: G) a,rv st ((d,false) :: G) b with
   | some (.v (.bool x)),some da,some db=>some (pickD x da db)
   | _,_,_=>none
  | _=>none
 | .binOp op t x y _=>
  match rv st G x,rv st G y with
  | some a,some b=>binD T op t a b
  | _,_=>none
 | .unOp op _ x=>
  match rv st G x with
  | some (.v (.bool b))=>
   match op with
   | .not=>some (.v (.bool (!b)))
   | _=>none
  | some (.v (.int k n))=>
   match op with
   | .neg=>some (.v (.int k (k.wrap (0 - n))))
   | _=>none
  | _=>none
 | .fieldAddr s x f=>
  match T.off s f,rv st G x with
  | some (o,_),some (.loc i off)=>some (.loc i (off + o))
  | some (o,_),some (.pt cs off)=>some (.pt cs (off + o))
  | some (o,_),some (.el i off)=>some (.el i (off + o))
  | _,_=>none
 | .load t x=>
  match rv st G x with
  | some (.loc i off)=>
   match st.bx[i]? with
   | some cs=>cellsT T t cs off
   | none=>none
  | some (.pt cs off)=>cellsT T t cs off
  | _=>none
 | .extract x i=>
  match rv st G x with
  | some (.bK vs)=>vs[i]?
  | _=>none
 | .field t x f=>
  match T.off t f,rv st G x with
  | some (off,ft),some (.agg cs)=>cellsT T ft cs off
  | _,_=>none
 | .build t parts=>
  match T.find t with
  | some ⟨_,_,.st _,z⟩=>fillT T t st G (vL z) parts.toList
  | some ⟨_,_,.ar _ e,z⟩=>fillAr e st G (vL z) parts.toList
  | _=>none
 | .makeFunc fn first captured=>
  match fn with
  | .func f=>
   match argsV st G first.toList,argsV st G captured.toList with
   | some l,some r=>some (.fn f l r)
   | _,_=>none
  | _=>none
 | .makeInterface t x=>
  match rv st G x,T.find t with
  | some d,some ⟨_,_,kd,_⟩=>
   match kd with
   | .pY=>none
   | .ot=>none
   | .fn=>none
   | _=>some (.pY t d)
  | _,_=>none
 | .nilCheck x=>
  match rv st G x with
  | some (.loc i off)=>some (.loc i off)
  | some (.el i off)=>some (.el i off)
  | some (.pt cs off)=>some (.pt cs off)
  | some (.v (.pointer (some a)))=>some (.v (.pointer (some a)))
  | some (.fn f first captured)=>some (.fn f first captured)
  | _=>none
 | .convert s d x=>
  match rv st G x,T.find s,T.find d with
  | some (.v (.int _ n)),some _,some ⟨_,_,.int k,_⟩=>some (.v (.int k (k.wrap n)))
  | _,_,_=>none
 | .call c=>
  match c.callee with
  | .builtin .len=>
   match c.args.toList,c.argTypes.toList with
   | [x],[t]=>
    match rv st G x,T.find t with
    | some (.sl _ es _),some ⟨_,_,.sl _ _ _,_⟩=>some (.v (.int .i64 es.length))
    | some (.ms _ _ _ n _),some ⟨_,_,.sl _ _ _,_⟩=>some (.v (.int .i64 n))
    | some (.v (.slice _ n _)),some ⟨_,_,.sl _ _ _,_⟩=>some (.v (.int .i64 n))
    | some (.v (.string s)),some ⟨_,_,.str,_⟩=>some (.v (.int .i64 s.size))
    | _,_=>none
   | _,_=>none
  | .builtin .max=>
   match c.args.toList with
   | [x,y]=>
    match rv st G x,rv st G y with
    | some (.v (.int k a)),some (.v (.int _ b))=>some (.v (.int k (max a b)))
    | _,_=>none
   | _=>none
  | .builtin .min=>
   match c.args.toList with
   | [x,y]=>
    match rv st G x,rv st G y with
    | some (.v (.int k a)),some (.v (.int _ b))=>some (.v (.int k (min a b)))
    | _,_=>none
   | _=>none
  | _=>none
 | _=>none
def CcMs (bx:List (List DV)) (N e:Nat) (es:List (List DV)) (d:DV):Prop:=
 ∃ i off c cs,d = .ms i e off es.length c/\N<=i/\bx[i]? = some cs/\es.flatten=(cs.drop off).take (es.length * e)/\(∀ x∈es,x.length=e)/\∀ x∈es.flatten,(∃ y,x = .v y)∨∃ e' Dx,x = .sl e' Dx none
mutual
def Cc (bx:List (List DV)) (N:Nat):Nat->Nat->DV->DV->Prop
 | _,_,.v y,d=>d = .v y
 | _,_,.ud,d=>d = .ud
 | n0,m0,.agg l',d=>∃ l,d = .agg l/\CcL bx N n0 m0 l' l
 | n0,m0,.bK l',d=>∃ l,d = .bK l/\CcL bx N n0 m0 l' l
 | _,m0,.sl e es tk,d=>
  match tk with
  | none=>(es=[]/\d = .v (.slice none 0 0))∨(∃ cA,d = .sl e es cA)∨CcMs bx N e es d∨∃ es0 cA,d = .sl e es0 cA /\ CcE bx N es es0
  | some k=>k < m0/\d = .sl e es (some k)
 | _,_,.pt cs' o,d=>d = .pt cs' o∨∃ i cs,d = .loc i o/\N<=i/\bx[i]? = some cs/\CcL bx N 0 0 cs' cs
 | n0,_,.loc i o,d=>i < n0/\d = .loc i o
 | n0,_,.el i o,d=>i < n0/\d = .el i o
 | n0,_,.ms i e o l c,d=>i < n0/\d = .ms i e o l c
 | n0,m0,.fn f a' b',d=>∃ a b,d = .fn f a b/\CcL bx N n0 m0 a' a/\CcL bx N n0 m0 b' b
 | n0,m0,.pY t x',d=>∃ x,d = .pY t x/\Cc bx N n0 m0 x' x
def CcL (bx:List (List DV)) (N:Nat):Nat->Nat->List DV->List DV->Prop
 | _,_,[],l=>l=[]
 | n0,m0,d' :: r',l=>∃ d r,l=d :: r/\Cc bx N n0 m0 d' d/\CcL bx N n0 m0 r' r
def CcE (bx:List (List DV)) (N:Nat):List (List DV)->List (List DV)->Prop
 | [],l=>l=[]
 | a' :: r',l=>∃ a r,l=a :: r/\(a'=a∨CcL bx N 0 0 a' a)/\CcE bx N r' r
end
def kZ (bx:List (List DV)) (N n0 m0:Nat):List (List DV)->List (List DV)->Prop
 | [],l=>l=[]
 | a' :: r',l=>∃ a r,l=a :: r/\CcL bx N n0 m0 a' a/\kZ bx N n0 m0 r' r
structure Ctx where
 P:Program
 T:TT
 hT:T.ok P=true
 fn:Func
 nt:Nat
 rs:List ResultVar
 tW:fn.results.toList=rs
 w0:World
 E0:En
 n0:Nat
 m0:Nat
 tX:E0.β.length=n0
 pu:E0.tk.length=m0
 still:Bool
 Φ:DV->List (List DV)->List TkE->Prop
 bt:List (Nat × TypeId):=[]
 mu:List Nat:=[]
 fr:Bool:=false
def btOK:List (Nat × TypeId)->Nat->TypeId->Bool
 | [],_,_=>true
 | p :: r,n,t=>(!(Nat.beq p.1 n) || Nat.beq p.2 t) && btOK r n t
def pw (bt:List (Nat × TypeId)) (β:List Nat) (w:World):Prop:=∀ p∈bt,∀ b,β[p.1]? = some b->∃ cs,w.heap[b]? = some (.cells cs p.2 (0,0))
def En.S (E:En) (b:Nat):Prop:=b∈E.β∨∃ y∈E.τ,y.ownBlock=some b
def qR (c:Addr->Option Value) (q:TkE) (cur:Array Value):Prop:=∀ cs,q.own=some cs->cs.length=q.n * q.e/\RvC ⟨c,[],[],[]⟩ cs (cur.toList.take (q.n * q.e))
def DK (w:World) (c:Addr->Option Value) (β:List Nat) (q:TkE) (y:Value):Prop:=
 (y = .slice none 0 0/\q.n=0/\∀ cs,q.own=some cs->cs=[]) ∨
 ∃ g cap,∃ cur:Array Value,y = .slice (some ⟨g,0,none⟩) q.n cap/\w.heap[g]? = some (.cells cur q.ty (0,0))/\(cur.size=cap * q.e/\qR c q cur)/\q.n<=cap/\cap<=maxLen/\g ∉ β/\∀ a v,c a=some v->a.block=g->a.off < q.kn
structure Env (E:En) (bx:List (List DV)) (w:World):Prop where
 len:E.β.length=bx.length
 tl:E.τ.length=E.tk.length
 dY:∀ (i:Nat) cs,bx[i]? = some cs->∃ b ty arr,E.β[i]? = some b/\w.heap[b]? = some (.cells (List.toArray arr) ty (0,0))/\RvC E cs arr
 inj:E.β.Nodup
 sub:∀ a v,E.c a=some v->w.cell? a=some v
 pc:∀ a v,E.c a=some v->a.block ∉ E.β
 c9:∀ (k:Nat) q y,E.tk[k]? = some q->E.τ[k]? = some y->DK w E.c E.β q y
 iB:∀ (k k':Nat) y y' g,k≠k' -> E.τ[k]? = some y->E.τ[k']? = some y' -> y.ownBlock=some g->y'.ownBlock≠some g
structure Nw (E0 E:En) (w0:World):Prop where
 c:∀ a v,E0.c a=some v->E.c a=some v
 cn:∀ a v,E.c a=some v->E0.c a=some v∨w0.heap.size<=a.block∨∃ y∈E0.τ,y.ownBlock=some a.block
 β:∃ r,E.β=E0.β ++ r/\∀ b∈r,w0.heap.size<=b
 tk:∀ (k:Nat) q y,E0.tk[k]? = some q->E0.τ[k]? = some y->∃ q' y',E.tk[k]? = some q' /\ E.τ[k]? = some y' /\ q.ty=q'.ty/\q.e=q'.e/\((q'.n=q.n/\y'=y)∨q.n < q'.n)/\(y'.ownBlock=y.ownBlock∨∀ g,y'.ownBlock=some g->w0.heap.size<=g)
 tn:∀ (k:Nat) y g,E0.tk.length<=k->E.τ[k]? = some y->y.ownBlock=some g->w0.heap.size<=g
 l0:E0.τ.length=E0.tk.length
structure Rel (X:Ctx) (E:En) (st:St) (a:Act) (w:World):Prop where
 env:Env E st.bx w
 tk:E.tk=st.tk
 sz:a.tmps.size=X.nt
 tm:∀ i x,get st.sl i=some x->(Holds a.tmps x.gs->∃ v,a.tmps[i]? = some v/\Rv E x.s v)/\(¬ Holds a.tmps x.gs->a.tmps[i]? = some undef)
 df:a.defers=[]
 nw:Nw X.E0 E X.w0
 fr:qQ X.E0.S X.w0 w
 sh:X.still=true->∃ q,w=X.w0.drewN q
 bt:pw X.bt E.β w
inductive It where
 | code (c:Code)
 | ops (all:Array Oper) (l:List Oper)
 | DL (id:Nat)
 | GX (J:St->Prop)
def tkL:Bool->Nat->Nat->Prop
 | false,n,n0=>n=n0
 | true,n,n0=>n0<=n
def DM (s:Bool) (E0:En) (w0:World) (Φ:DV->List (List DV)->List TkE->Prop) (v:Value) (w:World) (fr:Bool:=false):Prop:=
 qQ E0.S w0 w/\(s=true->∃ q,w=w0.drewN q)/\∃ d os E,Env E os w/\E.β=E0.β/\tkL fr E.tk.length E0.tk.length/\Nw E0 E w0/\Rv E d v/\Φ d os E.tk
def kq (X:Ctx):List It->Exit->Act->World->Prop
 | [],e,a,w=>
  match e with
  | .normal | .ret=>a.defers=[]/\∃ v,(results X.fn a.tmps).run X.P w = .ok v w/\DM X.still X.E0 X.w0 X.Φ v w X.fr/\pw X.bt X.E0.β w
  | _=>False
 | .code c :: k,e,a,w=>
  match e with
  | .normal=>c.wp X.P (kq X k) a w
  | e=>kq X k e a w
 | .ops all l :: k,e,a,w=>
  match e with
  | .normal=>wpList X.P all (kq X k) l a w
  | e=>kq X k e a w
 | .DL id :: k,e,a,w=>
  match e with
  | .exit id'=>if id'=id then kq X k .normal a w else kq X k (.exit id') a w
  | e=>kq X k e a w
 | .GX J :: k,e,a,w=>
  match e with
  | .normal=>∃ st E,Rel X E st a w/\J st
  | e=>kq X k e a w
def CallG (X:Ctx) (f:FuncId) (args:List DV) (dst:Option Nat) (k:List It) (st:St):Prop:=
 Go.Proofs.Enters X.P f/\X.still=false/\∀ E a w vs,Rel X E st a w->RvL E args vs->Calls X.P f vs.toArray w fun
  | .returned v,w'=>kq X k .normal (a.put dst v) w'
  | _,_=>False
def W0 (X:Ctx) (o:Oper) (k:List It) (st:St):Prop:=
 ∀ E a w,Rel X E st a w->o.wp X.P a w (kq X k .normal) (fun _ _ _=>False)
def tY (X:Ctx) (c:Code) (k:List It) (st:St):Prop:=
 ∀ E a w,Rel X E st a w->(Code.loop c).wp X.P (kq X k) a w
def tZ (X:Ctx) (id:Nat) (ops:Array Oper) (k:List It) (st:St):Prop:=
 ∀ E a w,Rel X E st a w->(Code.region id ops true).wp X.P (kq X k) a w
def u8L:List UInt8->List DV
 | []=>[]
 | b :: r=>.v (.int .u8 b.toNat) :: u8L r
def N7 (P:Program) (op:BinOp) (x y:Operand) (t:TypeId) (l l':List DV) (b:Bool):Prop:=
 ∃ vs vs':List Value,l=vL vs/\l'=vL vs' /\ ∀ w:World,(eqGuard op t x y (.agg vs.toArray) (.agg vs'.toArray)).run P w = .ok () w/\(binOp op t (.agg vs.toArray) (.agg vs'.toArray)).run P w = .ok (.bool b) w
def bound (st:St) (d:Int):Option Operand->Option Int
 | none=>some d
 | some x=>
  match rv st [] x with
  | some (.v (.int _ z))=>some z
  | _=>none
def effR (X:Ctx) (st:St) (op:Op) (K:DV->Prop):Option Prop:=
 match op with
 | .indexAddr t x i=>
  match rv st [] x,rv st [] i with
  | some (.sl e es _),some (.v (.int _ z))=>
   match X.T.find t with
   | some ⟨_,_,.sl _ e' _,_⟩=>
    match Nat.beq e e' with
    | true=>some (∃ cs,(0<=z/\es[z.toNat]? = some cs)/\K (.pt cs 0))
    | false=>none
   | _=>none
  | some (.ms j e off n _),some (.v (.int _ z))=>
   match X.T.find t with
   | some ⟨_,_,.sl _ e' _,_⟩=>
    match Nat.beq e e' with
    | true=>some ((0<=z/\z < n)/\K (.el j (off + z.toNat * e)))
    | false=>none
   | _=>none
  | some (.loc j off),some (.v (.int _ z))=>
   match X.T.find t with
   | some ⟨_,_,.ar n e,_⟩=>
    match i with
    | .const _=>some ((0<=z/\z < n)/\K (.loc j (off + z.toNat * e)))
    | _=>some ((0<=z/\z < n)/\K (.el j (off + z.toNat * e)))
   | _=>none
  | some (.el j off),some (.v (.int _ z))=>
   match X.T.find t with
   | some ⟨_,_,.ar n e,_⟩=>some ((0<=z/\z < n)/\K (.el j (off + z.toNat * e)))
   | _=>none
  | some (.pt cs off),some (.v (.int _ z))=>
   match X.T.find t with
   | some ⟨_,_,.ar n e,_⟩=>
    match i with
    | .const _=>some ((0<=z/\z < n)/\K (.pt cs (off + z.toNat * e)))
    | _=>some (∃ ds,((0<=z/\z < n)/\(cs.drop (off + z.toNat * e)).take e=ds)/\K (.pt ds 0))
   | _=>none
  | _,_=>none
 | .load t x=>
  match rv st [] x with
  | some (.el i off)=>
   match st.bx[i]? with
   | some cs=>some (∃ d,cellsT X.T t cs off=some d/\K d)
   | none=>none
  | _=>none
 | .index t x i=>
  match rv st [] x,rv st [] i,X.T.find t with
  | some (.v (.string s)),some (.v (.int _ z)),some ⟨_,_,.str,_⟩=>some ((0<=z/\z < s.size)/\K (.v (.int .u8 (aA s z.toNat))))
  | _,_,_=>none
 | .slice t x lo hi mx=>
  match mx with
  | some _=>none
  | none=>
   match rv st [] x,X.T.find t with
   | some (.v (.string s)),some ⟨_,_,.str,_⟩=>
    match bound st 0 lo,bound st s.size hi with
    | some l,some h=>some ((0<=l/\l<=h/\h<=s.size)/\K (.v (.string (s.extract l.toNat h.toNat))))
    | _,_=>none
   | some (.sl e es _),some ⟨_,_,.sl _ e' _,_⟩=>
    match Nat.beq e e' with
    | true=>
     match bound st 0 lo,bound st es.length hi with
     | some l,some h=>some ((0<=l/\l<=h/\h<=es.length)/\K (.sl e ((es.take h.toNat).drop l.toNat) none))
     | _,_=>none
    | false=>none
   | some (.loc j off),some ⟨_,_,.ar n e,_⟩=>
    match bound st 0 lo,bound st n hi with
    | some l,some h=>some ((0<=l/\l<=h/\h<=n)/\K (.ms j e (off + l.toNat * e) (h.toNat - l.toNat) (n - l.toNat)))
    | _,_=>none
   | some (.loc j off),some ⟨_,_,.ptr et,_⟩=>
    match X.T.find et with
    | some ⟨_,_,.ar n e,_⟩=>
     match bound st 0 lo,bound st n hi with
     | some l,some h=>some ((0<=l/\l<=h/\h<=n)/\K (.ms j e (off + l.toNat * e) (h.toNat - l.toNat) (n - l.toNat)))
     | _,_=>none
    | _=>none
   | _,_=>none
 | .binOp op xt x y _=>
  match rv st [] x,rv st [] y with
  | some (.v (.string s)),some (.v (.string t))=>
   match op with
   | .add=>some (s.size + t.size<=9223372036854775807/\K (.v (.string (s ++ t))))
   | _=>none
  | some (.v (.int k1 p)),some (.v (.int k2 q))=>
   match op with
   | .quo=>some ((k1=k2/\q≠0)/\K (.v (.int k1 (k1.wrap (p.tdiv q)))))
   | .rem=>some ((k1=k2/\q≠0)/\K (.v (.int k1 (p.tmod q))))
   | .shl=>some ((0<=q)/\K (.v (.int k1 (k1.wrap (p * 2 ^ (min q.toNat k1.bits))))))
   | .shr=>some ((0<=q)/\K (.v (.int k1 (p.fdiv (2 ^ (min q.toNat k1.bits))))))
   | _=>none
  | some (.agg l),some (.agg l')=>some (∃ b,N7 X.P op x y xt l l' b/\K (.v (.bool b)))
  | _,_=>none
 | .convert s d x=>
  match rv st [] x,X.T.find s,X.T.find d with
  | some (.sl 1 es _),some ⟨_,_,.sl et 1 _,_⟩,some ⟨_,_,.str,_⟩=>
   match X.T.find et with
   | some ⟨_,_,.int .u8,_⟩=>some (∃ bs:List UInt8,es.flatten=u8L bs/\K (.v (.string ⟨bs.toArray⟩)))
   | _=>none
  | _,_,_=>none
 | _=>none
def ownD:DV->Bool
 | .sl 0 _ (some _)=>true
 | _=>false
def appTo (st:St) (d:DV) (K:Nat->List TkE->List (List DV)->Prop) (m:Nat) (ty e:Nat):Prop:=
 match d with
 | .v (.slice none 0 0)=>appF (⟨m,ty,e,none⟩:TkE) st.tk (fun n cA=>K n cA [])
 | .sl e' es (some k)=>
  match st.tk[k]? with
  | some q=>
   match Nat.beq e' e && Nat.beq q.ty ty && Nat.beq q.e e && q.own.isNone with
   | true=>es.length=q.n/\setF (⟨q.n + m,ty,e,none⟩:TkE) st.tk k (fun cA=>K k cA es)
   | false=>False
  | none=>False
 | _=>False
def appOwn (st:St) (d et e jS:Nat) (ds:DV) (xs:List (List DV)) (K:St->Prop):Prop:=
 match ds with
 | .sl 0 es (some k)=>
  match st.tk[k]? with
  | some ⟨n,ty,e',some cs⟩=>
   match Nat.beq ty et && Nat.beq e' e with
   | true=>((es.length=n/\xs ≠ [])/\n + xs.length<=maxLen/\(n + xs.length) * jS <= 140737488355328)/\setF (⟨n + xs.length,et,e,some (cs ++ xs.flatten)⟩:TkE) st.tk k (fun cA=>
     match st with
     | ⟨sl,bx,_⟩=>K ⟨(d,⟨[],.sl 0 (List.replicate (n + xs.length) []) (some k)⟩) :: sl,bx,cA⟩)
   | false=>False
  | _=>False
 | _=>False
def eraD:DV->Option DV
 | .v x=>some (.v x)
 | .sl e es _=>some (.sl e es none)
 | .pt cs o=>some (.pt cs o)
 | _=>none
def eraL {γ:Type}:List DV->(List DV->Option γ)->Option γ
 | [],K=>K []
 | d :: r,K=>
  match eraD d with
  | some d'=>eraL r (fun r'=>K (d' :: r'))
  | none=>none
def SM (st:St) (d:Nat) (cs:List DV) (f:Nat->DV) (K:St->Prop):Prop:=
 match st with
 | ⟨sl,bx,tk⟩=>appF cs bx (fun n Vi=>K ⟨(d,⟨[],f n⟩) :: sl,Vi,tk⟩)
theorem Jo (st:St) (d:Nat) (cs:List DV) (f:Nat->DV) (K:St->Prop):SM st d cs f K=K ⟨(d,⟨[],f st.bx.length⟩) :: st.sl,st.bx ++ [cs],st.tk⟩:=by
 simp only [SM,vq]
def litL (e:Nat) (st:St):List (Nat × Operand)->Nat->Option (List (List DV))
 | [],_=>some []
 | (j,x) :: r,i=>
  match Nat.beq j i,rv st [] x,litL e st r (i + 1) with
  | true,some d,some l=>
   match Nat.beq d.cells.length e with
   | true=>eraL d.cells (fun cs=>some (cs :: l))
   | false=>none
  | _,_,_=>none
def muB:List Nat->Nat->Bool
 | [],_=>false
 | m :: r,d=>Nat.beq m d || muB r d
def appMs (X:Ctx) (st:St) (d et e jS:Nat) (ds:DV) (xs:List (List DV)) (K:St->Prop):Option Prop:=
 match ds,X.T.find et,X.bt with
 | .v (.slice none 0 0),some ⟨_,_,_,z⟩,[]=>some ((xs ≠ []/\xs.length<=maxLen/\xs.length * jS <= 140737488355328)/\∀ cap,xs.length<=cap->SM st d (xs.flatten ++ (List.replicate (cap - xs.length) (vL z)).flatten) (fun i=>.ms i e 0 xs.length cap) K)
 | _,_,_=>none
def Vj {γ:Type} (cs:List DV) (off:Nat) (vs:List DV) (K:List DV->γ):γ:=
 match vs with
 | [x]=>K (cs.set off x)
 | l=>K (cs.take off ++ l ++ cs.drop (off + l.length))
theorem N8 {γ:Type} (cs:List DV) (off:Nat) (vs:List DV) (K:List DV->γ) (h:off + vs.length<=cs.length):Vj cs off vs K=K (cs.take off ++ vs ++ cs.drop (off + vs.length)):=by
 match vs,h with
 | [x],h=>
  simp only [List.length_cons,List.length_nil] at h;show K _=_;rw [List.set_eq_take_append_cons_drop,ah (by omega)];simp
 | [],_=>rfl
 | _ :: _ :: _,_=>rfl
def effC (X:Ctx) (st:St) (o:Oper) (K:St->Prop):Option Prop:=
 match effR X st o.op (fun s=>putK st o.dst ⟨[],s⟩ K) with
 | some p=>some p
 | none=>
 match X.still with
 | true=>none
 | false=>
  match o.op with
  | .box ty x=>
   match rv st [] x,o.dst with
   | some d,some t=>
    match d.cells with
    | []=>none
    | c :: r=>
     match btOK X.bt st.bx.length ty with
     | true=>some (SK st t (c :: r) K)
     | false=>none
   | _,_=>none
  | .alloc t=>
   match X.T.find t,o.dst with
   | some ⟨_,_,_,z⟩,some d=>
    match btOK X.bt st.bx.length t with
    | true=>some (SK st d (vL z) K)
    | false=>none
   | _,_=>none
  | .store t x y=>
   match rv st [] x,rv st [] y,X.T.sz t with
   | some (.loc i off),some d,some n=>
    match st.bx[i]? with
    | some cs=>some (Br (Nat.blt 0 n && Nat.beq d.cells.length n && Nat.ble (off + n) cs.length)
      (putK st o.dst ⟨[],.ud⟩ fun st'=>splF cs off d.cells fun cs'=>SL st' i cs' K) False)
    | none=>none
   | some (.el i off),some d,some n=>
    match st.bx[i]? with
    | some cs=>some (Br (Nat.blt 0 n && Nat.beq d.cells.length n) (off + n<=cs.length/\putK st o.dst ⟨[],.ud⟩ fun st'=>Vj cs off d.cells fun cs'=>SL st' i cs' K) False)
    | none=>none
   | _,_,_=>none
  | .makeSlice t l c=>
   match X.T.find t,rv st [] l,rv st [] c,o.dst with
   | some ⟨_,_,.sl et e jS,_⟩,some (.v (.int _ n)),some (.v (.int _ m)),some d=>
    match X.T.find et,Nat.blt 0 e with
    | some ⟨_,_,_,z⟩,true=>
     match btOK X.bt st.bx.length et with
     | false=>none
     | true=>some ((n=m/\0<=n/\(jS:Int) * n<=281474976710656/\n<=4611686018427387904)/\SM st d (List.replicate n.toNat (vL z)).flatten (fun i=>.ms i e 0 n.toNat n.toNat) K)
    | _,_=>none
   | _,_,_,_=>none
  | .convert s d x=>
   match rv st [] x,X.T.find s,X.T.find d,o.dst with
   | some (.ms i 1 off n _),some ⟨_,_,.sl et 1 _,_⟩,some ⟨_,_,.str,_⟩,some dd=>
    match st.bx[i]?,X.T.find et with
    | some cs,some ⟨_,_,.int .u8,_⟩=>some (∃ bs:List UInt8,(cs.drop off).take n=u8L bs/\bs.length=n/\putK st (some dd) ⟨[],.v (.string ⟨bs.toArray⟩)⟩ K)
    | _,_=>none
   | _,_,_,_=>none
  | .buildSlice t len parts=>
   match X.T.find t,o.dst with
   | some ⟨_,_,.sl _ e _,_⟩,some d=>
    match muB X.mu d with
    | true=>none
    | false=>
    match litL e st parts.toList 0 with
    | some es=>
     match Nat.beq es.length len && (Nat.blt 0 len && Nat.blt 0 e && Nat.ble (len * e) 16777216) with
     | true=>some (putK st (some d) ⟨[],.sl e es none⟩ K)
     | false=>none
    | none=>none
   | _,_=>none
  | .call c=>
   match c.callee with
   | .builtin .append=>
    match c.args.toList,c.argTypes.toList,o.dst with
    | [s,x],[t,t'],some d=>
     match X.T.find t,Nat.beq t t',rv st [] s,rv st [] x with
     | some ⟨_,_,.sl et e jS,_⟩,true,some ds,some (.sl e' xs _)=>
      match Nat.beq e e' && Nat.blt 0 e with
      | true=>
       match muB X.mu d with
       | true=>appMs X st d et e jS ds xs K
       | false=>
       match ownD ds with
       | true=>some (appOwn st d et e jS ds xs K)
       | false=>some (appTo st ds (fun n cA es=>(es.length + xs.length<=maxLen/\(es.length + xs.length) * jS <= 140737488355328) /\
        match st with
        | ⟨sl,bx,_⟩=>K ⟨(d,⟨[],.sl e (es ++ xs) (some n)⟩) :: sl,bx,cA⟩) xs.length et e)
      | false=>none
     | _,_,_,_=>none
    | _,_,_=>none
   | _=>none
  | _=>none
def eff (X:Ctx) (G:List It->St->Prop) (o:Oper) (k:List It) (st:St):Prop:=
 match effC X st o (G k) with
 | some p=>p
 | none=>
  match o.op with
  | .call c=>
   match c.callee with
   | .value f=>
    match rv st [] f,argsV st [] c.args.toList with
    | some (.fn g first captured),some l=>CallG X g (first ++ l ++ captured) o.dst k st
    | _,_=>False
   | _=>W0 X o k st
  | _=>W0 X o k st
def dropBlk (id:Nat):List It->Option (List It)
 | []=>none
 | .DL i :: k=>
  match Nat.beq id i with
  | true=>some k
  | false=>dropBlk id k
 | _ :: k=>dropBlk id k
def noMen (d:Nat):List (Nat × Sl)->Bool
 | []=>true
 | (_,x) :: r=>
  match x.gs with
  | []=>noMen d r
  | g :: gs=>(g :: gs).all (fun p=>!Nat.beq p.1 d) && noMen d r
def eV (nt:Nat) (sl:List (Nat × Sl)):Option Nat->Bool
 | some d=>Nat.blt d nt && noMen d sl
 | none=>true
def okG (G:List (Nat × Bool)):Option Nat->Bool
 | some e=>G.all (fun p=>!Nat.beq p.1 e)
 | none=>true
def lastG:Nat × Bool->List (Nat × Bool)->Nat × Bool
 | p,[]=>p
 | _,q :: r=>lastG q r
def cf (d:Nat) (w:Bool) (x:Nat × Sl):Nat × Sl:=
 match Nat.beq x.1 d with
 | true=>(x.1,⟨[],.v (.bool w)⟩)
 | false=>
  match x.2.gs.contains (d,!w) with
  | true=>(x.1,⟨[],.ud⟩)
  | false=>(x.1,⟨x.2.gs.filter (fun p=>p != (d,w)),x.2.s⟩)
def filtK {γ:Type _} (p:Nat × Bool):List (Nat × Bool)->(List (Nat × Bool)->γ)->γ
 | [],K=>K []
 | q :: r,K=>
  match q != p with
  | true=>filtK p r (fun r'=>K (q :: r'))
  | false=>filtK p r K
theorem vU {γ:Type _} (p:Nat × Bool):∀ (l:List (Nat × Bool)) (K:List (Nat × Bool)->γ),filtK p l K=K (l.filter (fun q=>q != p))
 | [],K=>rfl
 | q :: r,K=>by
  simp only [filtK,List.filter_cons];cases h:(q != p)
  ·rw [vU p r K];simp
  ·rw [vU p r];simp
def res1K {γ:Type _} (d:Nat) (w:Bool) (k:Nat) (x:Sl) (K:Sl->γ):γ:=
 match Nat.beq k d with
 | true=>K ⟨[],.v (.bool w)⟩
 | false=>
  match x with
  | ⟨[],s⟩=>K ⟨[],s⟩
  | ⟨g :: gs,s⟩=>
   match (g :: gs).contains (d,!w) with
   | true=>K ⟨[],.ud⟩
   | false=>filtK (d,w) (g :: gs) (fun gs'=>K ⟨gs',s⟩)
theorem N9 {γ:Type _} (d:Nat) (w:Bool) (k:Nat) (x:Sl) (K:Sl->γ):res1K d w k x K=K (cf d w (k,x)).2:=by
 obtain ⟨gs,s⟩:=x;cases hb:Nat.beq k d
 ·cases gs with
  | nil=>simp [res1K,cf,hb]
  | cons g r=>grind [res1K,cf,vU]
 ·simp only [res1K,cf,hb]
def resL {γ:Type _} (d:Nat) (w:Bool):List (Nat × Sl)->(List (Nat × Sl)->γ)->γ
 | [],K=>K []
 | (k,x) :: r,K=>res1K d w k x (fun y=>resL d w r (fun r'=>K ((k,y) :: r')))
theorem qS (d:Nat) (w:Bool) (k:Nat) (x:Sl):(cf d w (k,x)).1=k:=by
 unfold cf;split
 ·rfl
 ·split<;>rfl
theorem BW {γ:Type _} (d:Nat) (w:Bool):∀ (l:List (Nat × Sl)) (K:List (Nat × Sl)->γ),resL d w l K=K (l.map (cf d w))
 | [],K=>rfl
 | (k,x) :: r,K=>by
  simp only [resL,N9,List.map_cons];rw [BW d w r]
  grind [qS]
def St.resolve (st:St) (d:Nat) (w:Bool):St:=⟨st.sl.map (cf d w),st.bx,st.tk⟩
def zq (st:St) (d:Nat) (w:Bool) (K:St->Prop):Prop:=
 match st with
 | ⟨sl,bx,tk⟩=>resL d w sl (fun sl'=>K ⟨sl',bx,tk⟩)
theorem Jp (st:St) (d:Nat) (w:Bool) (K:St->Prop):zq st d w K=K (st.resolve d w):=by
 simp only [zq,BW,St.resolve]
def res1 (T:TT) (st:St):ResultVar->Option DV
 | .tmp t=>
  match get st.sl t with
  | some ⟨[],d⟩=>some d
  | _=>none
 | .cell a t=>
  match get st.sl a with
  | some ⟨[],.loc i off⟩=>
   match st.bx[i]? with
   | some cs=>cellsT T t cs off
   | none=>none
  | _=>none
def resD (T:TT) (st:St):List ResultVar->Option (List DV)
 | []=>some []
 | r :: rs=>
  match res1 T st r,resD T st rs with
  | some d,some l=>some (d :: l)
  | _,_=>none
def finD (X:Ctx) (st:St) (d:DV):Prop:=
 match X.fr with
 | true=>∃ d' os,Cc st.bx X.n0 X.n0 st.tk.length d' d/\kZ st.bx X.n0 X.n0 st.tk.length os (st.bx.take X.n0)/\X.Φ d' os st.tk
 | false=>
  match X.n0,X.m0 with
  | 0,0=>
   match d with
   | .v x=>X.Φ (.v x) [] []
   | d=>∃ d',Cc st.bx 0 0 0 d' d/\X.Φ d' [] []
  | n0,m0=>∃ d' os,Cc st.bx n0 n0 m0 d' d/\kZ st.bx n0 n0 m0 os (st.bx.take n0)/\X.Φ d' os (st.tk.take m0)
def fin (X:Ctx) (st:St):Prop:=
 match resD X.T st X.rs with
 | some []=>finD X st (.bK [])
 | some [d]=>finD X st d
 | some (d :: e :: l)=>finD X st (.bK (d :: e :: l))
 | none=>False
def go (X:Ctx):Nat->List It->St->Prop
 | 0,_,_=>False
 | _ + 1,[],st=>fin X st
 | n + 1,.DL _ :: k,st=>go X n k st
 | _ + 1,.GX J :: _,st=>J st
 | n + 1,.ops _ [] :: k,st=>go X n k st
 | n + 1,.ops all (o :: r) :: k,st=>
  match eV X.nt st.sl o.dst with
  | false=>False
  | true=>
   match o.guard with
   | none=>
    match pureT X.P X.T st [] o.op with
    | some s=>putK st o.dst ⟨[],s⟩ (go X n (.ops all r :: k))
    | none=>eff X (go X n) o (.ops all r :: k) st
   | some (j,want)=>
    match gslot all.toList j with
    | none=>False
    | some d=>
     match get st.sl d with
     | none=>False
     | some ⟨mz,_⟩=>
      match pureT X.P X.T st ((d,want) :: mz) o.op with
      | some s=>
       match okG ((d,want) :: mz) o.dst with
       | true=>putK st o.dst ⟨(d,want) :: mz,s⟩ (go X n (.ops all r :: k))
       | false=>False
      | none=>
       match get st.sl (lastG (d,want) mz).1 with
       | some ⟨[],.v (.bool b)⟩=>
        match mz with
        | []=>Br (b == want) (zq st d want (eff X (go X n) o (.ops all r :: k))) (zq st d (!want) fun st'=>putK st' o.dst ⟨[],.ud⟩ (go X n (.ops all r :: k)))
        | _ :: _=>Br (b == (lastG (d,want) mz).2) (zq st (lastG (d,want) mz).1 (lastG (d,want) mz).2 (go X n (.ops all (o :: r) :: k)))
          (zq st (lastG (d,want) mz).1 (!(lastG (d,want) mz).2) (go X n (.ops all (o :: r) :: k)))
       | some ⟨[],.ud⟩=>
        match mz with
        | []=>putK st o.dst ⟨[],.ud⟩ (go X n (.ops all r :: k))
        | _ :: _=>False
       | _=>False
 | n + 1,.code c :: k,st=>
  match c with
  | .skip=>go X n k st
  | .seq a b=>go X n (.code a :: .code b :: k) st
  | .block id b=>go X n (.code b :: .DL id :: k) st
  | .exit id=>
   match dropBlk id k with
   | some k'=>go X n k' st
   | none=>False
  | .cond x a b=>
   match rv st [] x with
   | some (.v (.bool b'))=>Br b' (go X n (.code a :: k) st) (go X n (.code b :: k) st)
   | _=>False
  | .region id ops d=>
   match d with
   | true=>tZ X id ops k st
   | false=>go X n (.ops ops ops.toList :: k) st
  | .loop b=>tY X b k st
  | .ret=>fin X st
  | .scope c=>go X n (.code c :: k) st
  | .label _=>go X n k st
  | _=>False
end Dv
end Go.Proofs.YtfdedoiiahbnnaaGreat
namespace Go.Proofs.YtfdedoiiahbnnaaGreat
namespace Dv
open Go Go.RowKit
structure Ext (E E':En):Prop where
 c:∀ a v,E.c a=some v->E'.c a=some v
 β:∀ (i:Nat) b,E.β[i]? = some b->E'.β[i]? = some b
 tk:∀ (k:Nat) q,E.tk[k]? = some q->∃ q',E'.tk[k]? = some q' /\ ((q'.n=q.n/\E'.τ[k]? = E.τ[k]?)∨q.n < q'.n)
theorem Ext.refl (E:En):Ext E E:=⟨fun _ _ h=>h,fun _ _ h=>h,fun _ q h=>⟨q,h,.inl ⟨rfl,rfl⟩⟩⟩
theorem Ext.cl {E E':En} (h:Ext E E'):Ext E.cl E'.cl:=⟨h.c,fun _ _ h=>by simp [En.cl] at h,fun _ _ h=>by simp [En.cl] at h⟩
theorem SJ.mono {E E':En} (h:Ext E E') {tk:Option Nat} {n:Nat} {y:Value} (ht:SJ E tk n y):SJ E' tk n y:=by
 intro k hk;obtain ⟨q,h1,h2,h3⟩:=ht k hk;obtain ⟨q',h4,h5⟩:=h.tk k q h1
 grind
mutual
theorem Rv.mono:∀ {d:DV} {E E':En} {v:Value},Ext E E' -> Rv E d v->Rv E' d v
 | .v x,E,E',v,_,h=>by simpa only [Rv] using h
 | .ud,E,E',v,_,h=>by simpa only [Rv] using h
 | .agg l,E,E',v,hE,h=>by
  simp only [Rv] at h ⊢;obtain ⟨vs,h1,h2,h3⟩:=h;exact ⟨vs,h1,RvL.mono hE h2,h3⟩
 | .bK l,E,E',v,hE,h=>by
  simp only [Rv] at h ⊢;obtain ⟨vs,h1,h2⟩:=h;exact ⟨vs,h1,RvL.mono hE h2⟩
 | .sl e es tk,E,E',v,hE,h=>by
  simp only [Rv] at h ⊢;obtain ⟨b,n,cap,h1,h2,h3,h4⟩:=h;exact ⟨b,n,cap,h1,h2,fun hn=>⟨(h3 hn).1,RvEs.mono hE.cl (h3 hn).2⟩,h4.mono hE⟩
 | .pt cs off,E,E',v,hE,h=>by
  simp only [Rv] at h ⊢;obtain ⟨b,p,h1,h2⟩:=h;exact ⟨b,p,h1,RvAt.mono hE.cl h2⟩
 | .loc i off,E,E',v,hE,h=>by
  simp only [Rv] at h ⊢;obtain ⟨b,h1,h2⟩:=h;exact ⟨b,hE.β i b h1,h2⟩
 | .el i off,E,E',v,hE,h=>by
  simp only [Rv] at h ⊢;obtain ⟨b,h1,h2⟩:=h;exact ⟨b,hE.β i b h1,h2⟩
 | .ms i e off len cap,E,E',v,hE,h=>by
  simp only [Rv] at h ⊢;obtain ⟨b,a,h1,h2⟩:=h;exact ⟨b,a,hE.β i b h1,h2⟩
 | .fn f a b,E,E',v,hE,h=>by
  simp only [Rv] at h ⊢;obtain ⟨l,r,h1,h2,h3⟩:=h;exact ⟨l,r,h1,RvL.mono hE h2,RvL.mono hE h3⟩
 | .pY t x,E,E',v,hE,h=>by
  simp only [Rv] at h ⊢;obtain ⟨z,h1,h2⟩:=h;exact ⟨z,h1,Rv.mono hE h2⟩
theorem RvL.mono:∀ {l:List DV} {E E':En} {vs:List Value},Ext E E' -> RvL E l vs->RvL E' l vs
 | [],E,E',vs,_,h=>by simpa only [RvL] using h
 | d :: r,E,E',vs,hE,h=>by
  simp only [RvL] at h ⊢;obtain ⟨v,s,h1,h2,h3⟩:=h;exact ⟨v,s,h1,Rv.mono hE h2,RvL.mono hE h3⟩
theorem RvAt.mono:∀ {l:List DV} {E E':En} {b p:Nat},Ext E E' -> RvAt E b p l->RvAt E' b p l
 | [],E,E',b,p,_,h=>by simp only [RvAt]
 | d :: r,E,E',b,p,hE,h=>by
  simp only [RvAt] at h ⊢;obtain ⟨⟨v,h1,h2,h3⟩,h4⟩:=h;exact ⟨⟨v,hE.c _ v h1,h2,Rv.mono hE h3⟩,RvAt.mono hE h4⟩
theorem RvEs.mono:∀ {l:List (List DV)} {E E':En} {e b o:Nat},Ext E E' -> RvEs E e b o l->RvEs E' e b o l
 | [],E,E',e,b,o,_,h=>by simp only [RvEs]
 | d :: r,E,E',e,b,o,hE,h=>by
  simp only [RvEs] at h ⊢;exact ⟨h.1,RvAt.mono hE h.2.1,RvEs.mono hE h.2.2⟩
end
theorem RvC.mono {E E':En} (hE:Ext E E') {l:List DV} {vs:List Value} (h:RvC E l vs):RvC E' l vs:=⟨RvL.mono hE h.1,h.2⟩
theorem qR.mono {c c':Addr->Option Value} (h:∀ a v,c a=some v->c' a=some v) {q:TkE} {cur:Array Value} (ho:qR c q cur):qR c' q cur:=fun cs hc=>
 ⟨(ho cs hc).1,(ho cs hc).2.mono (E:=⟨c,[],[],[]⟩) (E':=⟨c',[],[],[]⟩) ⟨h,fun _ _ h=>by simp at h,fun _ _ h=>by simp at h⟩⟩
theorem qR.none {c:Addr->Option Value} {q:TkE} {cur:Array Value} (h:q.own=none):qR c q cur:=fun cs hc=>by rw [h] at hc;cases hc
theorem Ext.SN {E:En} {E':En} (h:∀ a v,E.c a=some v->E'.c a=some v):Ext E.cl E':=⟨h,fun _ _ h=>by simp [En.cl] at h,fun _ _ h=>by simp [En.cl] at h⟩
theorem Ext.Jq {E E':En} (h:∀ a v,E.c a=some v->E'.c a=some v):Ext E.cl E'.cl:=⟨h,fun _ _ h=>by simp [En.cl] at h,fun _ _ h=>by simp [En.cl] at h⟩
theorem Ext.un (E:En):Ext E.cl E:=Ext.SN fun _ _ h=>h
theorem RvL.length:∀ {l:List DV} {E:En} {vs:List Value},RvL E l vs->vs.length=l.length
 | [],E,vs,h=>by simp only [RvL] at h;subst h;rfl
 | d :: r,E,vs,h=>by
  simp only [RvL] at h;obtain ⟨v,s,rfl,_,h3⟩:=h;simp [RvL.length h3]
theorem RvL.get:∀ {l:List DV} {E:En} {vs:List Value} {i:Nat} {d:DV},RvL E l vs->l[i]? = some d->∃ v,vs[i]? = some v/\Rv E d v
 | [],E,vs,i,d,h,hi=>by simp at hi
 | d :: r,E,vs,0,d',h,hi=>by
  simp only [RvL] at h
  grind
 | d :: r,E,vs,i + 1,d',h,hi=>by
  simp only [RvL] at h;obtain ⟨v,s,rfl,_,h3⟩:=h;simp only [List.getElem?_cons_succ] at hi ⊢;exact RvL.get h3 hi
theorem RvL.append:∀ {l l':List DV} {E:En} {vs vs':List Value},RvL E l vs->RvL E l' vs' -> RvL E (l ++ l') (vs ++ vs')
 | [],l',E,vs,vs',h,h'=>by simp only [RvL] at h;subst h;simpa using h'
 | d :: r,l',E,vs,vs',h,h'=>by
  simp only [RvL] at h;obtain ⟨v,s,rfl,h2,h3⟩:=h;simp only [List.cons_append,RvL];exact ⟨v,_,rfl,h2,RvL.append h3 h'⟩
theorem RvL.take:∀ {l:List DV} {E:En} {vs:List Value} (n:Nat),RvL E l vs->RvL E (l.take n) (vs.take n)
 | l,E,vs,0,h=>by simp [RvL]
 | [],E,vs,n + 1,h=>by simp only [RvL] at h;subst h;simp [RvL]
 | d :: r,E,vs,n + 1,h=>by
  simp only [RvL] at h;obtain ⟨v,s,rfl,h2,h3⟩:=h;simp only [List.take_succ_cons,RvL];exact ⟨v,_,rfl,h2,RvL.take n h3⟩
theorem RvL.drop:∀ {l:List DV} {E:En} {vs:List Value} (n:Nat),RvL E l vs->RvL E (l.drop n) (vs.drop n)
 | l,E,vs,0,h=>by simpa using h
 | [],E,vs,n + 1,h=>by simp only [RvL] at h;subst h;simp [RvL]
 | d :: r,E,vs,n + 1,h=>by
  simp only [RvL] at h;obtain ⟨v,s,rfl,h2,h3⟩:=h;simp only [List.drop_succ_cons];exact RvL.drop n h3
theorem RvC.append {l l':List DV} {E:En} {vs vs':List Value} (h:RvC E l vs) (h':RvC E l' vs'):RvC E (l ++ l') (vs ++ vs'):=
 ⟨h.1.append h'.1,fun v hv=>(List.mem_append.1 hv).elim (h.2 v) (h'.2 v)⟩
theorem RvC.take {l:List DV} {E:En} {vs:List Value} (n:Nat) (h:RvC E l vs):RvC E (l.take n) (vs.take n):=⟨h.1.take n,fun v hv=>h.2 v (List.mem_of_mem_take hv)⟩
theorem RvC.drop {l:List DV} {E:En} {vs:List Value} (n:Nat) (h:RvC E l vs):RvC E (l.drop n) (vs.drop n):=⟨h.1.drop n,fun v hv=>h.2 v (List.mem_of_mem_drop hv)⟩
theorem rvL_cons {E:En} {d:DV} {v:Value} {l:List DV} {vs:List Value} (h1:Rv E d v) (h2:RvL E l vs):RvL E (d :: l) (v :: vs):=by
 simp only [RvL];exact ⟨v,vs,rfl,h1,h2⟩
theorem cO (E:En):RvL E [] []:=by simp only [RvL]
theorem rvL_one {E:En} {d:DV} {v:Value} (h1:Rv E d v):RvL E [d] [v]:=rvL_cons h1 (cO E)
theorem fm {E:En} {x:Value} (h:x.oneCell'=true):Rv E (.v x) x:=by unfold Rv;exact ⟨rfl,h⟩
theorem ub (E:En):Rv E .ud undef:=by simp only [Rv]
theorem cells_one {x:Value} (h:x.oneCell'=true):x.cells = #[x]:=by
 cases x<;>first | rfl | simp [Value.oneCell'] at h
theorem RvAt.drop {E:En} {b:Nat}:∀ {p:Nat} {cs:List DV} (k:Nat),RvAt E b p cs->RvAt E b (p + k) (cs.drop k)
 | p,cs,0,h=>by simpa using h
 | p,[],k + 1,h=>by simp only [List.drop_nil,RvAt]
 | p,d :: r,k + 1,h=>by
  simp only [RvAt] at h;have:=RvAt.drop k h.2
  grind
theorem RvAt.take {E:En} {b:Nat}:∀ {p:Nat} {cs:List DV} (k:Nat),RvAt E b p cs->RvAt E b p (cs.take k)
 | p,cs,0,h=>by simp only [List.take_zero,RvAt]
 | p,[],k + 1,h=>by simp only [List.take_nil,RvAt]
 | p,d :: r,k + 1,h=>by
  simp only [List.take_succ_cons,RvAt] at h ⊢;exact ⟨h.1,RvAt.take k h.2⟩
def DV.Oa:DV->Prop
 | .ud=>False
 | .bK _=>False
 | _=>True
theorem Rv.cells {E:En}:∀ {d:DV} {v:Value},Rv E d v->d.Oa->RvC E d.cells v.cells.toList
 | .v x,v,h,_=>by
  have h0:=h;simp only [Rv] at h;obtain ⟨rfl,h2⟩:=h;rw [cells_one h2];exact ⟨rvL_one h0,by simpa using h2⟩
 | .agg l,v,h,_=>by
  simp only [Rv] at h;obtain ⟨vs,rfl,h2,h3⟩:=h;simp only [DV.cells,Value.cells];exact ⟨by simpa using h2,by simpa using h3⟩
 | .sl e es tk,v,h,_=>by
  have h0:=h;simp only [Rv] at h;obtain ⟨b,n,cap,rfl,_⟩:=h;exact ⟨rvL_one h0,by simp [Value.cells,Value.oneCell']⟩
 | .pt cs off,v,h,_=>by
  have h0:=h;simp only [Rv] at h;obtain ⟨b,p,rfl,_⟩:=h;exact ⟨rvL_one h0,by simp [Value.cells,Value.oneCell']⟩
 | .loc i off,v,h,_=>by
  have h0:=h;simp only [Rv] at h;obtain ⟨b,_,rfl⟩:=h;exact ⟨rvL_one h0,by simp [Value.cells,Value.oneCell']⟩
 | .el i off,v,h,_=>by
  have h0:=h;simp only [Rv] at h;obtain ⟨b,_,rfl⟩:=h;exact ⟨rvL_one h0,by simp [Value.cells,Value.oneCell']⟩
 | .ms i e off len cap,v,h,_=>by
  have h0:=h;simp only [Rv] at h;obtain ⟨b,a,_,_,rfl,_⟩:=h;exact ⟨rvL_one h0,by simp [Value.cells,Value.oneCell']⟩
 | .fn f a b,v,h,_=>by
  have h0:=h;simp only [Rv] at h;obtain ⟨l,r,rfl,_⟩:=h;exact ⟨rvL_one h0,by simp [Value.cells,Value.oneCell']⟩
 | .pY t x,v,h,_=>by
  have h0:=h;simp only [Rv] at h;obtain ⟨z,rfl,_⟩:=h;exact ⟨rvL_one h0,by simp [Value.cells,Value.oneCell']⟩
 | .ud,v,_,hf=>hf.elim
 | .bK _,v,_,hf=>hf.elim
theorem DN {d:DV} (h:d.cells ≠ []):d.Oa:=by
 cases d<;>first | trivial | exact (h rfl).elim
theorem gJ {d:DV} {n:Nat} (h:d.cells.length=n) (hn:n≠0):d.Oa:=DN fun e=>hn (by rw [<- h,e];rfl)
theorem rvC_vL {E:En}:∀ {l:List Value},(∀ v∈l,v.oneCell'=true)->RvC E (vL l) l
 | [],_=>⟨cO E,by simp⟩
 | x :: r,h=>by
  have ih:=rvC_vL (E:=E) (l:=r) (fun v hv=>h v (fA _ hv));exact ⟨rvL_cons (fm (h x (by simp))) ih.1,h⟩
theorem RvAt.uY:∀ {cs:List DV} {E:En} {b p:Nat},RvAt E b p cs->∃ arr,RvC E cs arr/\∀ (j:Nat) u,arr[j]? = some u->E.c ⟨b,p + j,none⟩=some u
 | [],E,b,p,_=>⟨[],⟨cO E,by simp⟩,by simp⟩
 | d :: r,E,b,p,h=>by
  simp only [RvAt] at h;obtain ⟨⟨v,h1,h2,h3⟩,h4⟩:=h;obtain ⟨arr,h5,h6⟩:=RvAt.uY h4;refine ⟨v :: arr,⟨rvL_cons h3 h5.1,?_⟩,?_⟩
  ·intro u hu;rcases dM hu with rfl | hu
   ·exact h2
   ·exact h5.2 u hu
  all_goals grind
theorem BX:∀ {cs:List DV} {E:En} {b p:Nat} {arr:List Value},RvC E cs arr->(∀ (j:Nat) u,arr[j]? = some u->E.c ⟨b,p + j,none⟩=some u)->RvAt E b p cs
 | [],E,b,p,arr,_,_=>by simp only [RvAt]
 | d :: r,E,b,p,arr,h,hc=>by
  obtain ⟨h,h1⟩:=h;simp only [RvL] at h;obtain ⟨v,s,rfl,h2,h3⟩:=h;simp only [RvAt];refine ⟨⟨v,by simpa using hc 0 v rfl,h1 v (by simp),h2⟩,BX ⟨h3,fun u hu=>h1 u (fA _ hu)⟩ fun j u hj=>?_⟩;have:=hc (j + 1) u (sU hj)
  grind
theorem RvEs.get:∀ {es:List (List DV)} {E:En} {e b o j:Nat} {cs:List DV},RvEs E e b o es->es[j]? = some cs->cs.length=e/\RvAt E b (o + j * e) cs
 | [],E,e,b,o,j,cs,_,hj=>by simp at hj
 | x :: r,E,e,b,o,0,cs,h,hj=>by
  simp only [RvEs] at h
  grind
 | x :: r,E,e,b,o,j + 1,cs,h,hj=>by
  simp only [RvEs] at h;simp only [List.getElem?_cons_succ] at hj;have:=RvEs.get h.2.2 hj
  grind
theorem Jr:∀ {es:List (List DV)} {E:En} {e b o:Nat},(∀ (j:Nat) cs,es[j]? = some cs->cs.length=e/\RvAt E b (o + j * e) cs)->RvEs E e b o es
 | [],E,e,b,o,_=>by simp only [RvEs]
 | x :: r,E,e,b,o,h=>by
  simp only [RvEs];have h0:=h 0 x rfl;refine ⟨h0.1,by simpa using h0.2,Jr fun j cs hj=>?_⟩;have:=h (j + 1) cs (sU hj)
  grind
theorem W2:∀ {a b:Value},veq a b=true->a=b/\b.oneCell'=true:=by
 intro a b h;unfold veq at h;split at h<;>first | (cases h;done) | skip
 ·simp at h;subst h;exact ⟨rfl,rfl⟩
 ·simp at h;obtain ⟨rfl,rfl⟩:=h;exact ⟨rfl,rfl⟩
 ·rename_i s t;simp only [bg,decide_eq_true_eq] at h;refine ⟨?_,rfl⟩
  simp_all
 all_goals exact ⟨rfl,rfl⟩
theorem BZ:∀ {a b:List Value},veqL a b=true->a=b/\∀ v∈b,v.oneCell'=true
 | [],[],_=>⟨rfl,by simp⟩
 | x :: r,y :: s,h=>by
  simp only [veqL,bg] at h;obtain ⟨rfl,h1⟩:=W2 h.1;obtain ⟨rfl,h2⟩:=BZ h.2
  grind
 | [],_ :: _,h=>by simp [veqL] at h
 | _ :: _,[],h=>by simp [veqL] at h
theorem TT.B0 {P:Program}:∀ {T:TT},T.ok P=true->∀ {t:Nat} {e:TE},T.find t=some e->e.ok P t=true
 | .nil,_,t,e,hf=>by cases hf
 | .aj k e' l r,h,t,e,hf=>by
  simp only [TT.ok,bg] at h;simp only [TT.find] at hf;split at hf
  ·simp_all
  ·split at hf
   ·exact TT.B0 h.1.2 hf
   ·exact TT.B0 h.2 hf
theorem uc {P:Program} {t:TypeId}:∀ {l:List (Nat × Nat)} {i:Nat},okOffs P t i l=true->∀ {f:Nat} {p:Nat × Nat},l[f]? = some p->offOf P t (i + f)=some p
 | [],i,_,f,p,hf=>by simp at hf
 | q :: r,i,h,f,p,hf=>by
  simp only [okOffs,bg,decide_eq_true_eq] at h
  cases f with
  | zero=>simp only [List.getElem?_cons_zero,oI] at hf;subst hf;exact h.1
  | succ f=>
   simp only [List.getElem?_cons_succ] at hf;have:=uc h.2 hf
   grind
section
variable {P:Program} {T:TT} (hT:T.ok P=true)
include hT
theorem te_parts {t:Nat} {e:TE} (hf:T.find t=some e):iA P t=some e.size/\aggOf P t=some e.agg/\zok P t e.agg e.z=true/\(match e.kd with
 | .st DI=>(match P.underlying t with
  | some (.struct fs)=>fs.all (fun f=>(iA P f.type).isSome)
  | _=>false) && okOffs P t 0 DI
 | .sl et s jS=>decide (slOf P t=some (et,s,jS))
 | .ar n s=>decide (arrOf P t=some (n,s))
 | .int k=>match P.underlying t with
  | some (.int k')=>decide (k'=k)
  | _=>false
 | .bool=>match P.underlying t with
  | some .bool=>true
  | _=>false
 | .str=>match P.underlying t with
  | some .string=>true
  | _=>false
 | .ptr et=>match P.underlying t with
  | some (.pointer et')=>decide (et'=et)
  | _=>false
 | .pY=>true
 | .fn=>true
 | .ot=>true)=true:=by
 have:=TT.B0 hT hf;simp only [TE.ok,bg,decide_eq_true_eq] at this;exact ⟨this.1.1.1,this.1.1.2,this.1.2,this.2⟩
theorem zN {t n:Nat} (hf:T.sz t=some n):iA P t=some n:=by
 unfold TT.sz at hf;split at hf
 ·rename_i he;simp only [oI] at hf;subst hf;exact (te_parts hT he).1
 ·cases hf
theorem sx {s f:Nat} {p:Nat × Nat} (hf:T.off s f=some p):offOf P s f=some p:=by
 unfold TT.off at hf;split at hf
 ·rename_i he;have:=(te_parts hT he).2.2.2;simp only [bg] at this;have:=uc this.2 hf;simpa using this
 ·cases hf
theorem fo {t:Nat} {n:Nat} {b:Bool} {et e jS:Nat} {z:List Value} (hf:T.find t=some ⟨n,b,.sl et e jS,z⟩):P.underlying t=some (.slice et)/\∃ i z,P.info? et=some i/\i.zero=some z/\i.size=e/\i.bytes=jS /\ z.cells.size=e:=by
 have:=(te_parts hT hf).2.2.2;simp only [decide_eq_true_eq] at this;unfold slOf at this
 grind
theorem nS {t:Nat} {n m:Nat} {b:Bool} {e:Nat} {z:List Value} (hf:T.find t=some ⟨n,b,.ar m e,z⟩):∃ et,P.underlying t=some (.array m et)/\iA P et=some e:=by
 have:=(te_parts hT hf).2.2.2;simp only [decide_eq_true_eq] at this;unfold arrOf at this;split at this
 all_goals simp_all
theorem vv {t:Nat} {n:Nat} {b:Bool} {k:IntKind} {z:List Value} (hf:T.find t=some ⟨n,b,.int k,z⟩):P.underlying t=some (.int k):=by
 have:=(te_parts hT hf).2.2.2
 grind
theorem DO {t:Nat} {n:Nat} {b:Bool} {z:List Value} (hf:T.find t=some ⟨n,b,.bool,z⟩):P.underlying t=some .bool:=by
 have:=(te_parts hT hf).2.2.2
 grind
theorem oK {t:Nat} {n:Nat} {b:Bool} {z:List Value} (hf:T.find t=some ⟨n,b,.str,z⟩):P.underlying t=some .string:=by
 have:=(te_parts hT hf).2.2.2
 grind
theorem qT {t:Nat} {n:Nat} {b:Bool} {et:Nat} {z:List Value} (hf:T.find t=some ⟨n,b,.ptr et,z⟩):P.underlying t=some (.pointer et):=by
 have:=(te_parts hT hf).2.2.2
 grind
theorem Ob {t:Nat} {e:TE} (hf:T.find t=some e) (h1:e.kd ≠ .pY) (h2:e.kd ≠ .ot) (h3:e.kd ≠ .fn):∃ d,P.underlying t=some d/\∀ m,d ≠ .interface m:=by
 obtain ⟨n,b,kd,z⟩:=e;simp only at h1 h2 h3
 cases kd with
 | st DI=>
  have:=(te_parts hT hf).2.2.2
  grind
 | sl et e jS=>exact ⟨_,(fo hT hf).1,fun m hm=>by cases hm⟩
 | ar n e=>obtain ⟨et,hu,_⟩:=nS hT hf;exact ⟨_,hu,fun m hm=>by cases hm⟩
 | int k=>exact ⟨_,vv hT hf,fun m hm=>by cases hm⟩
 | bool=>exact ⟨_,DO hT hf,fun m hm=>by cases hm⟩
 | str=>exact ⟨_,oK hT hf,fun m hm=>by cases hm⟩
 | ptr et=>exact ⟨_,qT hT hf,fun m hm=>by cases hm⟩
 | fn=>exact (h3 rfl).elim
 | pY=>exact (h1 rfl).elim
 | ot=>exact (h2 rfl).elim
theorem Oc {t:Nat} {e:TE} (hf:T.find t=some e):∃ d,P.underlying t=some d:=by
 have:=(te_parts hT hf).2.1;unfold aggOf at this
 grind
theorem oL {t:Nat} {e:TE} (hf:T.find t=some e):∃ v,zL P t=some v/\v.cells.toList=e.z/\(∀ u∈e.z,u.oneCell'=true)/\(e.agg=true->v = .agg e.z.toArray):=by
 have:=(te_parts hT hf).2.2.1;unfold zok at this;split at this
 ·rename_i cs hz;simp only [bg] at this;obtain ⟨h1,h2⟩:=BZ this.2;exact ⟨_,hz,h1,h2,fun _=>by rw [<- h1]⟩
 ·rename_i v hna hz;simp only [bg,Bool.not_eq_true'] at this;obtain ⟨h1,h2⟩:=BZ this.2;refine ⟨_,hz,?_,h2,fun h=>by rw [this.1] at h;cases h⟩;rw [<- h1];have hv:v.oneCell'=true:=h2 v (by rw [<- h1];simp);rw [cells_one hv]
 ·cases this
end
theorem mH {P:Program} {T:TT} (hT:T.ok P=true) {E:En} {cs:List DV} {arr:List Value} (hc:RvC E cs arr) {t off b p:Nat} {d:DV} (h:cellsT T t cs off=some d) :
  ∃ v,Rv E d v/\∀ w:World,(∀ (j:Nat) u,arr[j]? = some u->w.cell? ⟨b,p + j,none⟩=some u)->(loadVar t ⟨b,p + off,none⟩).run P w = .ok v w:=by
 unfold cellsT at h;split at h
 ·rename_i n _ _ he;have SO:=(te_parts hT he).2.1;have di:=(te_parts hT he).1;rw [vT] at h;split at h
  ·rename_i hl;simp only [oI] at h;subst h;have qU:=(hc.drop off).take n;refine ⟨.agg ((arr.drop off).take n).toArray,by simp only [Rv];exact ⟨_,rfl,qU.1,qU.2⟩,fun w hw=>?_⟩;have hlen:((arr.drop off).take n).length=n:=by rw [qU.1.length];exact hl
   have:=run_loadCells_list (P:=P) w ⟨b,p + off,none⟩ ((arr.drop off).take n) (fun j v hj=>by
    rw [Addr.add_lit];rw [cQ] at hj;split at hj
    ·rw [List.getElem?_drop] at hj;have:=hw _ _ hj;rw [show p + off + j=p + (off + j) by omega];exact this
    ·cases hj)
   rw [hlen] at this;simp [loadVar,j6 SO,aV di,this]
  ·cases h
 ·rename_i _ he;have SO:=(te_parts hT he).2.1;obtain ⟨v,hv,hr⟩:=hc.1.get h;refine ⟨v,hr,fun w hw=>?_⟩;simp [loadVar,j6 SO,hw _ _ hv]
 ·cases h
theorem Ha {P:Program} {T:TT} (hT:T.ok P=true) {E:En} {cs:List DV} {arr:List Value} (hc:RvC E cs arr) {t off:Nat} {d:DV} (h:cellsT T t cs off=some d) :
  ∃ v,Rv E d v/\∀ w:World,(part t arr.toArray off).run P w = .ok v w:=by
 unfold cellsT at h;split at h
 ·rename_i n _ _ he;have SO:=(te_parts hT he).2.1;have di:=(te_parts hT he).1;rw [vT] at h;split at h
  ·rename_i hl;simp only [oI] at h;subst h;have qU:=(hc.drop off).take n;refine ⟨.agg ((arr.drop off).take n).toArray,by simp only [Rv];exact ⟨_,rfl,qU.1,qU.2⟩,fun w=>?_⟩;simp only [part,Sem.run_bind,j6 SO,Result.andThen_ok,if_true,aV di,Sem.run_pure,Result.ok.injEq,Value.agg.injEq,and_true];apply Array.ext';simp
  ·cases h
 ·rename_i _ he;have SO:=(te_parts hT he).2.1;obtain ⟨v,hv,hr⟩:=hc.1.get h;refine ⟨v,hr,fun w=>?_⟩;simp [part,j6 SO,hv]
 ·cases h
end Dv
end Go.Proofs.YtfdedoiiahbnnaaGreat
namespace Go.Proofs.YtfdedoiiahbnnaaGreat
namespace Dv
open Go Go.RowKit
def isE:Op->Bool
 | .call c=>
  match c.callee with
  | .builtin .len=>false
  | .builtin .max=>false
  | .builtin .min=>false
  | _=>true
 | .store .. | .alloc .. | .box .. | .buildSlice .. | .makeSlice .. | .makeMap .. | .mapUpdate ..=>true
 | _=>false
def isL:Op->Bool
 | .load .. | .convert ..=>true
 | _=>false
structure Rl (E:En) (bx:List (List DV)) (C:World->Prop) (sl:List (Nat × Sl)) (a:Act):Prop where
 tm:∀ i x,get sl i=some x->(Holds a.tmps x.gs->∃ v,a.tmps[i]? = some v/\Rv E x.s v)/\(¬ Holds a.tmps x.gs->a.tmps[i]? = some undef)
 dY:∀ (i:Nat) cs,bx[i]? = some cs->∃ b arr,E.β[i]? = some b/\RvC E cs arr/\∀ w:World,C w->∀ (j:Nat) u,arr[j]? = some u->w.cell? ⟨b,j,none⟩=some u
 cc:∀ a v,E.c a=some v->∀ w:World,C w->w.cell? a=some v
theorem dx (k i:Nat) (x:Sl) (r:List (Nat × Sl)):get ((k,x) :: r) i=if k=i then some x else get r i:=by
 simp only [get];split
 ·rename_i h;rw [ah (sU h)]
 ·rename_i h;rw [ag (fun e=>by rw [e,Nat.beq_refl] at h;cases h)]
theorem aX (tmps:Array Value):Holds tmps []:=fun p hp=>by cases hp
theorem j9 {tmps:Array Value} {d:Nat} {b:Bool} {G:List (Nat × Bool)} (h1:tmps[d]? = some (.bool b)) (h2:Holds tmps G):Holds tmps ((d,b) :: G):=by
 intro p hp
 cases hp with
 | head=>exact h1
 | tail _ hp=>exact h2 p hp
theorem sy {tmps:Array Value} {G:List (Nat × Bool)} (hG:Holds tmps G):∀ {gs:List (Nat × Bool)},subG gs G=true->Holds tmps gs
 | [],_=>fun p hp=>by cases hp
 | q :: r,h=>by
  simp only [subG,bg] at h;intro p hp
  cases hp with
  | head=>exact hG q (by simpa using h.1)
  | tail _ hp=>exact sy hG h.2 p hp
theorem ka {E:En} {b:Bool} {v:Value} (h:Rv E (.v (.bool b)) v):v = .bool b:=by
 unfold Rv at h;exact h.1
theorem cC {E:En} {k:IntKind} {n:Int} {v:Value} (h:Rv E (.v (.int k n)) v):v = .int k n:=by
 unfold Rv at h;exact h.1
theorem bL {E:En} {x v:Value} (h:Rv E (.v x) v):v=x:=by
 unfold Rv at h;exact h.1
section
variable {P:Program} {T:TT} {E:En} {C:World->Prop} {st:St} {a:Act}
theorem ct (h:Rl E st.bx C st.sl a) {G:List (Nat × Bool)} (hG:Holds a.tmps G) {x:Operand} {d:DV} (hx:rv st G x=some d):Rv E d (a.eval x):=by
 cases x with
 | tmp t=>
  simp only [rv] at hx;split at hx
  ·rename_i gs s' hg;split at hx
   ·rename_i hs;simp only [oI] at hx;subst hx;obtain ⟨v,h1,h2⟩:=(h.tm t _ hg).1 (sy hG hs);have:a.eval (.tmp t)=v:=by simp [Act.eval,Array.getD_eq_getD_getElem?,h1]
    rw [this];exact h2
   ·cases hx
  ·cases hx
 | const v=>
  simp only [rv] at hx;split at hx
  ·rename_i hv;simp only [oI] at hx;subst hx;exact fm hv
  ·cases hx
 | global g=>simp only [rv,oI] at hx;subst hx;exact fm rfl
 | func f=>simp only [rv,oI] at hx;subst hx;unfold Rv;exact ⟨[],[],rfl,cO E,cO E⟩
theorem iC {op:BinOp} {t:TypeId} {x y:Operand} {u v:Value} (w:World) (h:∀ l,u ≠ .agg l) (h2:∀ t' z,u ≠ .iface t' z) (h3:u ≠ .nilIface) (h4:∀ l,v ≠ .agg l) (h5:∀ t' z,v ≠ .iface t' z) (h6:v ≠ .nilIface):(eqGuard op t x y u v).run P w = .ok () w:=by
 cases op<;>first
  | rfl
  | (cases u<;>first | (exact (h _ rfl).elim) | (exact (h2 _ _ rfl).elim) | (exact (h3 rfl).elim) | (cases v<;>first | rfl | (exact (h4 _ rfl).elim) | (exact (h5 _ _ rfl).elim) | (exact (h6 rfl).elim)))
theorem Li (hT:T.ok P=true) {op:BinOp} {t:TypeId} {s u y:DV} {x z:Value} (h:binD T op t s u=some y) (h1:Rv E s x) (h2:Rv E u z) :
  ∃ v,Rv E y v/\∀ (w:World) (o1 o2:Operand),(eqGuard op t o1 o2 x z).run P w = .ok () w/\(binOp op t x z).run P w = .ok v w:=by
 unfold binD at h;split at h
 ·rename_i k p k' q;have e1:=bL h1;have e2:=bL h2;subst e1 e2;split at h
  ·rename_i hk;subst hk
   cases hv:binI op k p q with
   | none=>simp [Lh,hv] at h
   | some v=>
    simp only [Lh,hv,oI] at h;subst h;refine ⟨v,fm ?_,fun w o1 o2=>⟨iC w (by simp) (by simp) (by simp) (by simp) (by simp) (by simp),N3 hv t w⟩⟩;cases op<;>simp [binI] at hv<;>first | (subst hv;rfl) | (obtain ⟨n,_,rfl⟩:=hv;rfl)
  ·cases h
 ·rename_i p q;have e1:=bL h1;have e2:=bL h2;subst e1 e2
  cases hv:binS op p q with
  | none=>simp [Lh,hv] at h
  | some v=>
   simp only [Lh,hv,oI] at h;subst h;refine ⟨v,fm ?_,fun w o1 o2=>⟨iC w (by simp) (by simp) (by simp) (by simp) (by simp) (by simp),N4 hv t w⟩⟩;cases op<;>simp [binS] at hv<;>subst hv<;>rfl
 ·have e1:=bL h1;have e2:=bL h2;subst e1 e2;split at h
  ·rename_i hf;have hu:=DO hT hf;split at h<;>first | (cases h;done) | skip
   all_goals
    simp only [oI] at h;subst h;refine ⟨_,fm rfl,fun w o1 o2=>⟨iC w (by simp) (by simp) (by simp) (by simp) (by simp) (by simp),?_⟩⟩;simp [binOp,G9 hu]
  ·cases h
 ·have e1:=bL h1;have e2:=bL h2;subst e1 e2;split at h
  ·rename_i hf;have hu:=qT hT hf;split at h<;>first | (cases h;done) | skip
   all_goals
    simp only [oI] at h;subst h;refine ⟨_,fm rfl,fun w o1 o2=>⟨iC w (by simp) (by simp) (by simp) (by simp) (by simp) (by simp),?_⟩⟩;simp [binOp,su hu]
  ·cases h
 ·have e2:=bL h2;unfold Rv at h1;obtain ⟨b,p,rfl,_⟩:=h1;subst e2;split at h
  ·rename_i hf;have hu:=qT hT hf;split at h<;>first | (cases h;done) | skip
   all_goals
    simp only [oI] at h;subst h;refine ⟨_,fm rfl,fun w o1 o2=>⟨iC w (by simp) (by simp) (by simp) (by simp) (by simp) (by simp),?_⟩⟩;simp [binOp,su hu]
  ·cases h
 ·have e2:=bL h2;unfold Rv at h1;obtain ⟨b,_,rfl⟩:=h1;subst e2;split at h
  ·rename_i hf;have hu:=qT hT hf;split at h<;>first | (cases h;done) | skip
   all_goals
    simp only [oI] at h;subst h;refine ⟨_,fm rfl,fun w o1 o2=>⟨iC w (by simp) (by simp) (by simp) (by simp) (by simp) (by simp),?_⟩⟩;simp [binOp,su hu]
  ·cases h
 ·cases h
theorem vV (hT:T.ok P=true) (h:Rl E st.bx C st.sl a) {G:List (Nat × Bool)} (hG:Holds a.tmps G) {t:TypeId} (pl:Nat->Option (Nat × Nat))
  (kE:∀ f o ft n,offOf P t f=some (o,ft)->iA P ft=some n->pl f=some (o,n)) :
  ∀ (parts:List (Nat × Operand)) (cs:List DV) (arr:List Value) (y:DV),RvC E cs arr->fillT T t st G cs parts=some y ->
   ∃ cs' arr',Instr.fill pl arr.toArray (parts.map fun p=>(p.1,a.eval p.2))=some (List.toArray arr')/\y = .agg cs' /\ RvC E cs' arr'
 | [],cs,arr,y,hc,hy=>by
  simp only [fillT,oI] at hy;subst hy;exact ⟨cs,arr,rfl,rfl,hc⟩
 | (f,x) :: r,cs,arr,y,hc,hy=>by
  simp only [fillT] at hy;split at hy
  ·rename_i off ft d ho hx;split at hy
   ·rename_i n hn;split at hy
    ·rename_i vW;simp only [bg,Nat.beq_eq,Nat.ble_eq] at vW;rw [vu] at hy;have Js:=sx hT ho;have Vk:=zN hT hn;obtain ⟨_,_,n1,_,_,_,_,hs1,uZ⟩:=qO Js;rw [Vk] at hs1;simp only [oI] at hs1;subst hs1;have hv:=ct h hG hx;have hvc:=hv.cells (gJ vW.1 uZ);have hl:(a.eval x).cells.toList.length=n:=by rw [hvc.1.length];exact vW.1
     have hla:arr.length=cs.length:=hc.1.length
     have qU:RvC E (cs.take off ++ d.cells ++ cs.drop (off + d.cells.length)) (arr.take off ++ (a.eval x).cells.toList ++ arr.drop (off + n)):=by
      rw [vW.1];exact ((hc.take off).append hvc).append (hc.drop _)
     obtain ⟨cs',arr',lG,hys,NI⟩:=vV hT h hG pl kE r _ _ y qU hy;refine ⟨cs',arr',?_,hys,NI⟩;simp only [List.map_cons,Instr.fill,kE f off ft n Js Vk];have hs:(a.eval x).cells.size=n:=sU hl;rw [ag (by simp [hs,hla,vW.2])];have:=pX off (a.eval x) arr.toArray (by rw [hl];simp;omega);rw [hl] at this;rw [this];simpa using lG
    ·cases hy
   ·cases hy
  ·cases hy
theorem qV (h:Rl E st.bx C st.sl a) {G:List (Nat × Bool)} (hG:Holds a.tmps G) {e:Nat} :
  ∀ (parts:List (Nat × Operand)) (cs:List DV) (arr:List Value) (y:DV),RvC E cs arr->fillAr e st G cs parts=some y ->
   ∃ cs' arr',Instr.fill (fun i=>some (i * e,e)) arr.toArray (parts.map fun p=>(p.1,a.eval p.2))=some (List.toArray arr')/\y = .agg cs' /\ RvC E cs' arr'
 | [],cs,arr,y,hc,hy=>by
  simp only [fillAr,oI] at hy;subst hy;exact ⟨cs,arr,rfl,rfl,hc⟩
 | (f,x) :: r,cs,arr,y,hc,hy=>by
  simp only [fillAr] at hy;split at hy
  ·rename_i d hx;split at hy
   ·rename_i vW;simp only [bg,Nat.beq_eq,Nat.ble_eq,Nat.blt_eq] at vW;rw [vu] at hy;have hv:=ct h hG hx;have hvc:=hv.cells (gJ vW.1.2 (by omega));have hl:(a.eval x).cells.toList.length=e:=by rw [hvc.1.length];exact vW.1.2
    have hla:arr.length=cs.length:=hc.1.length
    have qU:RvC E (cs.take (f * e) ++ d.cells ++ cs.drop (f * e + d.cells.length)) (arr.take (f * e) ++ (a.eval x).cells.toList ++ arr.drop (f * e + e)):=by
     rw [vW.1.2];exact ((hc.take (f * e)).append hvc).append (hc.drop _)
    obtain ⟨cs',arr',lG,hys,NI⟩:=qV h hG r _ _ y qU hy;refine ⟨cs',arr',?_,hys,NI⟩;simp only [List.map_cons,Instr.fill];have hs:(a.eval x).cells.size=e:=sU hl;rw [ag (by simp [hs,hla,vW.2])];have:=pX (f * e) (a.eval x) arr.toArray (by rw [hl];simp;omega);rw [hl] at this;rw [this];simpa using lG
   ·cases hy
  ·cases hy
theorem gz (h:Rl E st.bx C st.sl a) {G:List (Nat × Bool)} (hG:Holds a.tmps G):∀ (l:List Operand) (ds:List DV),argsV st G l=some ds->RvL E ds (l.map a.eval)
 | [],ds,hv=>by simp only [argsV,oI] at hv;subst hv;exact cO E
 | x :: r,ds,hv=>by
  simp only [argsV] at hv;split at hv
  ·rename_i d l hx hl;simp only [oI] at hv;subst hv;exact rvL_cons (ct h hG hx) (gz h hG r l hl)
  ·cases hv
def aag (P:Program) (C:World->Prop) (E:En) (a:Act) (o:Oper) (y:DV):Prop:=
 ∃ v,Rv E y v/\∀ w:World,(isL o.op=true->C w)->(execOp a.eval o).run P w = .ok (.value v) w
theorem fC (hT:T.ok P=true) (h:Rl E st.bx C st.sl a) {G:List (Nat × Bool)} (hG:Holds a.tmps G) {o:Oper} {y:DV} (hy:pureT P T st G o.op=some y):aag P C E a o y:=by
 obtain ⟨dst,op,ty,pos,after,gu⟩:=o;cases op<;>simp only [pureT] at hy<;>try (cases hy;done)
 case move x=>exact ⟨_,ct h hG hy,fun w _=>by simp [execOp]⟩
 case assign x=>exact ⟨_,ct h hG hy,fun w _=>by simp [execOp]⟩
 case pick c p q=>
  split at hy
  ·rename_i d;split at hy
   ·rename_i x da db hc ha hb;simp only [oI] at hy;subst hy;have e1:=ka (ct h hG hc)
    have hd:a.tmps[d]? = some (.bool x):=by
     simp only [rv] at hc;split at hc
     ·rename_i gs s' hg;split at hc
      ·rename_i hs;simp only [oI] at hc;subst hc;obtain ⟨v,h1,h2⟩:=(h.tm d _ hg).1 (sy hG hs);rw [h1,ka h2]
      ·cases hc
     ·cases hc
    have hT1:pickD true da db=da:=by unfold pickD;split<;>rfl
    have hF1:pickD false da db=db:=by unfold pickD;split<;>rfl
    cases x
    ·exact ⟨_,by rw [hF1];exact ct h (j9 hd hG) hb,fun w _=>by simp [execOp,e1,asBool]⟩
    ·exact ⟨_,by rw [hT1];exact ct h (j9 hd hG) ha,fun w _=>by simp [execOp,e1,asBool]⟩
   ·cases hy
  ·cases hy
 case binOp op t x z t'=>
  split at hy
  ·rename_i s u hx hz;obtain ⟨v,hv,hr⟩:=Li (P:=P) hT hy (ct h hG hx) (ct h hG hz);exact ⟨v,hv,fun w _=>by simp only [execOp,Sem.run_bind,(hr w x z).1,(hr w x z).2,Result.andThen_ok,Sem.run_pure]⟩
  ·cases hy
 case unOp op t x=>
  split at hy
  ·rename_i b hx;split at hy
   ·simp only [oI] at hy;subst hy;have e1:=ka (ct h hG hx);exact ⟨_,fm rfl,fun w _=>by simp [execOp,e1,Op.unary]⟩
   ·cases hy
  ·rename_i k n hx;split at hy
   ·simp only [oI] at hy;subst hy;have e1:=cC (ct h hG hx);exact ⟨_,fm rfl,fun w _=>by simp [execOp,e1,Op.unary,Op.intArith]⟩
   ·cases hy
  ·cases hy
 case fieldAddr s x f=>
  split at hy
  ·rename_i o _ i off ho hx;simp only [oI] at hy;subst hy;have e1:=ct h hG hx;unfold Rv at e1;obtain ⟨b,hb,e1⟩:=e1;refine ⟨.pointer (some ⟨b,off + o,none⟩),by unfold Rv;exact ⟨b,hb,rfl⟩,fun w _=>?_⟩;simp only [execOp,e1,Sem.run_bind,jD (sx hT ho),Result.andThen_ok,Sem.run_pure]
  ·rename_i o _ cs off ho hx;simp only [oI] at hy;subst hy;have e1:=ct h hG hx;unfold Rv at e1;obtain ⟨b,p,e1,hb⟩:=e1;refine ⟨.pointer (some ⟨b,p + (off + o),none⟩),by unfold Rv;exact ⟨b,p,rfl,hb⟩,fun w _=>?_⟩;simp only [execOp,e1,Sem.run_bind,jD (sx hT ho),Result.andThen_ok,Sem.run_pure,Nat.add_assoc]
  ·rename_i o _ i off ho hx;simp only [oI] at hy;subst hy;have e1:=ct h hG hx;unfold Rv at e1;obtain ⟨b,hb,e1⟩:=e1;refine ⟨.pointer (some ⟨b,off + o,none⟩),by unfold Rv;exact ⟨b,hb,rfl⟩,fun w _=>?_⟩;simp only [execOp,e1,Sem.run_bind,jD (sx hT ho),Result.andThen_ok,Sem.run_pure]
  ·cases hy
 case load t x=>
  split at hy
  ·rename_i i off hx;split at hy
   ·rename_i cs cx;have e1:=ct h hG hx;unfold Rv at e1;obtain ⟨b,hb,e1⟩:=e1;obtain ⟨b',arr,ef,hc,hw⟩:=h.dY i cs cx;rw [hb] at ef;simp only [oI] at ef;subst ef;obtain ⟨v,hv,hl⟩:=mH hT hc (b:=b) (p:=0) hy;refine ⟨v,hv,fun w hC=>?_⟩;have hl:=hl w (fun j u hj=>by rw [Nat.zero_add];exact hw w (hC rfl) j u hj);rw [Nat.zero_add] at hl;simp only [execOp,e1,Sem.run_bind,Instr.loadAt,Instr.sureAddr,Sem.run_pure,Result.andThen_ok,hl]
   ·cases hy
  ·rename_i cs off hx;have e1:=ct h hG hx;unfold Rv at e1;obtain ⟨b,p,e1,hb⟩:=e1;obtain ⟨arr,hc,hm⟩:=hb.uY;obtain ⟨v,hv,hl⟩:=mH hT hc (b:=b) (p:=p) hy;refine ⟨v,Rv.mono (Ext.un E) hv,fun w hC=>?_⟩;have hl:=hl w (fun j u hj=>h.cc _ _ (hm j u hj) w (hC rfl));simp only [execOp,e1,Sem.run_bind,Instr.loadAt,Instr.sureAddr,Sem.run_pure,Result.andThen_ok,hl]
  ·cases hy
 case extract x i=>
  split at hy
  ·rename_i vs hx;have e1:=ct h hG hx;unfold Rv at e1;obtain ⟨l,e1,hl⟩:=e1;obtain ⟨v,hv,hr⟩:=hl.get hy;refine ⟨v,hr,fun w _=>?_⟩;simp [execOp,e1,Instr.extract,hv]
  ·cases hy
 case field t x f=>
  split at hy
  ·rename_i off ft cs ho hx;have e1:=ct h hG hx;unfold Rv at e1;obtain ⟨arr,e1,hc⟩:=e1;obtain ⟨v,hv,hp⟩:=Ha hT ⟨hc.1,hc.2⟩ hy;refine ⟨v,hv,fun w _=>?_⟩;obtain ⟨fs,x',n,hu,hf,Js,ht,hs,hn⟩:=qO (sx hT ho);subst Js ht;simp only [execOp,e1,Instr.field,Sem.run_bind,run_underlying hu,Result.andThen_ok,hf,asAgg,Sem.run_pure,hp w]
  ·cases hy
 case build t parts=>
  split at hy
  ·rename_i n b DI z hf;obtain ⟨zv,hz,Lj,hz1,_⟩:=oL hT hf;have W4:=(te_parts hT hf).2.2.2;simp only [bg] at W4;have iV:=W4.1;split at iV
   ·rename_i fs hd;have hm:=fun w=>vQ (P:=P) (w:=w) fs.toList (sU iV)
    have mA:∀ w,(fs.mapM fun f=>(do pure (f.offset,<- sizeOf f.type):Sem (Nat × Nat))).run P w = .ok (fs.toList.map fun f=>(f.offset,(iA P f.type).getD 0)).toArray w:=by
     intro w;rw [Array.mapM_eq_mapM_toList,Sem.run_map,hm w];all_goals rfl
    obtain ⟨cs',arr',lG,rfl,NI⟩:=vV hT h hG (t:=t) (fun i=>((fs.toList.map fun f=>(f.offset,(iA P f.type).getD 0)).toArray)[i]?) (by
     intro f o ft n ho hn;obtain ⟨fs',x,n',hu',hf,hxo,hxt,hs,_⟩:=qO ho;rw [hd] at hu';simp only [oI,TypeDesc.struct.injEq] at hu';subst hu';subst hxt hxo
     simp [hf,hn]) parts.toList _ z y (rvC_vL hz1) hy
    refine ⟨.agg arr'.toArray,by unfold Rv;exact ⟨arr',rfl,NI.1,NI.2⟩,fun w _=>?_⟩;have e:(parts.map fun (x:Nat × Operand)=>(x.1,a.eval x.2)).toList=parts.toList.map fun p=>(p.1,a.eval p.2):=by simp
    have W5:zv.cells=z.toArray:=by apply Array.ext';simpa using Lj
    have hb:(Instr.build t (parts.map fun (i,x)=>(i,a.eval x))).run P w = .ok (.agg arr'.toArray) w:=by
     simp only [Instr.build,Sem.run_bind,ss hz,Result.andThen_ok,run_underlying hd,mA w,e,W5];rw [lG];simp
    simp only [execOp,Sem.run_bind,hb,Result.andThen_ok,Sem.run_pure]
   ·cases iV
  ·rename_i n b m e z hf;obtain ⟨zv,hz,Lj,hz1,_⟩:=oL hT hf;obtain ⟨et,hu,di⟩:=nS hT hf;obtain ⟨cs',arr',lG,rfl,NI⟩:=qV h hG parts.toList _ z y (rvC_vL hz1) hy;refine ⟨.agg arr'.toArray,by unfold Rv;exact ⟨arr',rfl,NI.1,NI.2⟩,fun w _=>?_⟩;have e1:(parts.map fun (x:Nat × Operand)=>(x.1,a.eval x.2)).toList=parts.toList.map fun p=>(p.1,a.eval p.2):=by simp
   have W5:zv.cells=z.toArray:=by apply Array.ext';simpa using Lj
   have hb:(Instr.build t (parts.map fun (i,x)=>(i,a.eval x))).run P w = .ok (.agg arr'.toArray) w:=by
    simp only [Instr.build,Sem.run_bind,ss hz,Result.andThen_ok,run_underlying hu,aV di,e1,W5];rw [lG];simp
   simp only [execOp,Sem.run_bind,hb,Result.andThen_ok,Sem.run_pure]
  ·cases hy
 case makeFunc fn first captured=>
  split at hy
  ·rename_i f;split at hy
   ·rename_i l r hl hr;simp only [oI] at hy;subst hy;have e1:=gz h hG _ _ hl;have e2:=gz h hG _ _ hr;refine ⟨.func (.func f) (first.map a.eval) (captured.map a.eval),by unfold Rv;exact ⟨_,_,by congr 1<;>(apply Array.ext';simp),e1,e2⟩,fun w _=>?_⟩;simp [execOp,Instr.makeFunc]
   ·cases hy
  ·cases hy
 case makeInterface t x=>
  split at hy
  ·rename_i d n b kd z hx hf
   have bo:kd ≠ .pY/\kd ≠ .ot/\kd ≠ .fn/\y = .pY t d:=by
    split at hy<;>first | (cases hy;done) | skip
    rename_i h1 h2 h3;simp only [oI] at hy;exact ⟨h1,h2,h3,hy.symm⟩
   obtain ⟨h1,h2,h3,rfl⟩:=bo;obtain ⟨ud,hu,hni⟩:=Ob hT hf h1 h2 h3;have e1:=ct h hG hx;refine ⟨.iface t (a.eval x),by unfold Rv;exact ⟨_,rfl,e1⟩,fun w _=>?_⟩
   have hr:(Instr.makeInterface t (a.eval x)).run P w = .ok (.iface t (a.eval x)) w:=by
    cases ud<;>first | (exact (hni _ rfl).elim) | simp [Instr.makeInterface,run_underlying hu]
   simp only [execOp,Sem.run_bind,hr,Result.andThen_ok,Sem.run_pure]
  ·cases hy
 case nilCheck x=>
  split at hy<;>first | (cases hy;done) | (simp only [oI] at hy;subst hy)
  ·rename_i i off hx;have e1:=ct h hG hx;have e0:=e1;unfold Rv at e1;obtain ⟨b,hb,e1⟩:=e1;exact ⟨_,e0,fun w _=>by simp [execOp,e1]⟩
  ·rename_i i off hx;have e1:=ct h hG hx;have e0:=e1;unfold Rv at e1;obtain ⟨b,hb,e1⟩:=e1;exact ⟨_,e0,fun w _=>by simp [execOp,e1]⟩
  ·rename_i cs off hx;have e1:=ct h hG hx;have e0:=e1;unfold Rv at e1;obtain ⟨b,p,e1,hb⟩:=e1;exact ⟨_,e0,fun w _=>by simp [execOp,e1]⟩
  ·rename_i ad hx;have e1:=ct h hG hx;have e0:=e1;exact ⟨_,e0,fun w _=>by simp [execOp,bL e1]⟩
  ·rename_i f l r hx;have e1:=ct h hG hx;have e0:=e1;unfold Rv at e1;obtain ⟨l',r',e1,_⟩:=e1;exact ⟨_,e0,fun w _=>by simp [execOp,e1]⟩
 case convert s d x=>
  split at hy
  ·rename_i k' n te1 n1 b1 k z hx hs hd;simp only [oI] at hy;subst hy;have e1:=cC (ct h hG hx);obtain ⟨ds,hs⟩:=Oc hT hs;have hd:=vv hT hd;refine ⟨_,fm rfl,fun w _=>?_⟩
   have hr:(convert s d (.int k' n)).run P w = .ok (.int k (k.wrap n)) w:=by
    simp [convert,run_underlying hs,run_underlying hd,Conv.intToInt]
   simp only [execOp,e1,Sem.run_bind,hr,Result.andThen_ok,Sem.run_pure]
  ·cases hy
 case call c=>
  obtain ⟨callee,args,argTypes⟩:=c;simp only at hy;split at hy
  ·rename_i hc;split at hy
   ·rename_i x t hargs W6;have ea:args = #[x]:=Array.ext' (sU hargs);have et:argTypes = #[t]:=Array.ext' (sU W6);subst ea et;split at hy
    ·rename_i e es tk n b et e' jS z hx hf;simp only [oI] at hy;subst hy;have e1:=ct h hG hx;unfold Rv at e1;obtain ⟨bb,n',cap,e1,⟨rfl,_⟩,_⟩:=e1;exact ⟨_,fm rfl,fun w _=>by simp [execOp,resolve,invoke,builtin,e1,sv (fo hT hf).1]⟩
    ·rename_i i e off n cap n1 b et e' jS z hx hf;simp only [oI] at hy;subst hy;have e1:=ct h hG hx;unfold Rv at e1;obtain ⟨bb,aa,_,_,e1,_⟩:=e1;exact ⟨_,fm rfl,fun w _=>by simp [execOp,resolve,invoke,builtin,e1,sv (fo hT hf).1]⟩
    ·rename_i ad n cap n1 b et e' jS z hx hf;simp only [oI] at hy;subst hy;have e1:=bL (ct h hG hx);exact ⟨_,fm rfl,fun w _=>by simp [execOp,resolve,invoke,builtin,e1,sv (fo hT hf).1]⟩
    ·rename_i s n1 b z hx hf;simp only [oI] at hy;subst hy;have e1:=bL (ct h hG hx);exact ⟨_,fm rfl,fun w _=>by simp [execOp,resolve,invoke,builtin,e1,DH (oK hT hf)]⟩
    ·cases hy
   ·cases hy
  ·rename_i hc;split at hy
   ·rename_i x z hargs;have ea:args = #[x,z]:=Array.ext' (sU hargs);split at hy
    ·rename_i k p k' q hx hz;simp only [oI] at hy;subst hy;have e1:=cC (ct h hG hx);have e2:=cC (ct h hG hz);subst ea
     have e3:(if q > p then q else p)=max p q:=by
      simp only [Int.max_def];split<;>split<;>omega
     exact ⟨_,fm rfl,fun w _=>by simp [execOp,resolve,invoke,builtin,e1,e2,Builtin.max_,Builtin.max2,e3]⟩
    ·cases hy
   ·cases hy
  ·rename_i hc;split at hy
   ·rename_i x z hargs;have ea:args = #[x,z]:=Array.ext' (sU hargs);split at hy
    ·rename_i k p k' q hx hz;simp only [oI] at hy;subst hy;have e1:=cC (ct h hG hx);have e2:=cC (ct h hG hz);subst ea
     have e3:(if q < p then q else p)=min p q:=by
      simp only [Int.min_def];split<;>split<;>omega
     exact ⟨_,fm rfl,fun w _=>by simp [execOp,resolve,invoke,builtin,e1,e2,Builtin.min_,Builtin.min2,e3]⟩
    ·cases hy
   ·cases hy
  ·cases hy
end
end Dv
end Go.Proofs.YtfdedoiiahbnnaaGreat
namespace Go.Proofs.YtfdedoiiahbnnaaGreat
namespace Dv
open Go Go.RowKit
theorem mI {d:Nat}:∀ {sl:List (Nat × Sl)},noMen d sl=true->∀ i x,get sl i=some x->∀ p∈x.gs,p.1≠d
 | [],_,i,x,hx=>by simp [get] at hx
 | (k,y) :: r,h,i,x,hx=>by
  simp only [noMen] at h
  have h2:noMen d r=true/\∀ p∈y.gs,p.1≠d:=by
   split at h
   ·rename_i hg;exact ⟨h,by rw [hg];simp⟩
   ·rename_i g gs hg;simp only [bg] at h;refine ⟨h.2,?_⟩;rw [hg];intro p hp;have:=(List.all_eq_true.1 h.1) p hp;intro e;rw [e] at this;simp at this
  simp only [dx] at hx;split at hx
  ·grind
  ·exact mI h2.1 i x hx
theorem lH {tmps:Array Value} {d:Nat} {v:Value} {gs:List (Nat × Bool)} (h:∀ p∈gs,p.1≠d):Holds (tmps.setIfInBounds d v) gs↔Holds tmps gs:=by
 constructor
 ·intro hh p hp;have:=hh p hp
  grind
 ·intro hh p hp;rw [Array.getElem?_setIfInBounds_ne (Ne.symm (h p hp))];exact hh p hp
section
variable {X:Ctx} {E:En} {st:St} {a:Act} {w:World}
theorem Rel.rl (h:Rel X E st a w):Rl E st.bx (fun w'=>w'=w) st.sl a where
 tm:=h.tm
 dY:=fun i cs hi=>by
  obtain ⟨b,ty,arr,hb,hw,hc⟩:=h.env.dY i cs hi;exact ⟨b,arr,hb,hc,fun w' W7 j u hj=>by rw [W7,cJ hw];simpa using hj⟩
 cc:=fun x v hx w' W7=>by rw [W7];exact h.env.sub x v hx
theorem qW (h:Rel X E st a w) {dst:Option Nat} (hd:eV X.nt st.sl dst=true) (gs:List (Nat × Bool)) (s:DV) (v:Value) (Lk:∀ d,dst=some d->∀ p∈gs,p.1≠d)
  (Dy:Holds a.tmps gs->Rv E s v) (Ss:¬ Holds a.tmps gs->v=undef):Rel X E (st.put dst ⟨gs,s⟩) (a.put dst v) w where
 env:=by have:=h.env;cases dst<;>simpa [St.put] using this
 tk:=by have:=h.tk;cases dst<;>simpa [St.put] using this
 sz:=by have:=h.sz;cases dst<;>simpa [Act.put] using this
 tm:=by
  intro i y hy
  cases dst with
  | none=>exact h.tm i y hy
  | some d=>
   simp only [eV,bg,Nat.blt_eq] at hd;simp only [St.put,dx] at hy;simp only [Act.put];split at hy
   ·rename_i Ll;subst Ll;simp only [oI] at hy;subst hy;have h1:=h.sz;rw [lH (Lk d rfl)]
    grind
   ·rename_i Ll;rw [Array.getElem?_setIfInBounds_ne Ll,lH (mI hd.2 i y hy)];exact h.tm i y hy
 df:=by have:=h.df;cases dst<;>simpa [Act.put] using this
 nw:=h.nw
 fr:=h.fr
 sh:=h.sh
 bt:=h.bt
theorem bh (h:Rel X E st a w) {dst:Option Nat} (hd:eV X.nt st.sl dst=true) (s:DV) (v:Value) (hv:Rv E s v):Rel X E (st.put dst ⟨[],s⟩) (a.put dst v) w:=
 qW h hd [] s v (fun _ _ p hp=>by cases hp) (fun _=>hv) (fun hn=>(hn (aX _)).elim)
theorem get_map (d:Nat) (b:Bool):∀ (sl:List (Nat × Sl)) (i:Nat),get (sl.map (cf d b)) i=(get sl i).map fun x=>(cf d b (i,x)).2
 | [],i=>rfl
 | (k,x) :: r,i=>by
  have hk:(cf d b (k,x)).1=k:=qS d b k x;simp only [List.map_cons];rw [show cf d b (k,x)=(k,(cf d b (k,x)).2) from Prod.ext hk rfl];rw [dx,dx];split
  ·rename_i ue;subst ue;rfl
  ·exact get_map d b r i
theorem kJ (h:Rel X E st a w) {d:Nat} {b:Bool} (hd:a.tmps[d]? = some (.bool b)):Rel X E (st.resolve d b) a w where
 env:=h.env
 tk:=h.tk
 sz:=h.sz
 tm:=by
  intro i y hy;simp only [St.resolve,get_map,Option.map_eq_some_iff] at hy;obtain ⟨x,hx,rfl⟩:=hy;have ht:=h.tm i x hx;unfold cf;split
  ·rename_i hi;have nB:i=d:=sU hi;subst nB;exact ⟨fun _=>⟨_,hd,fm rfl⟩,fun hn=>(hn (aX _)).elim⟩
  ·split
   ·rename_i hc
    have hn:¬ Holds a.tmps x.gs:=by
     intro hh;have:=hh (d,!b) (sU hc)
     grind
    exact ⟨fun _=>⟨_,ht.2 hn,ub E⟩,fun hn=>(hn (aX _)).elim⟩
   ·have he:Holds a.tmps (x.gs.filter fun p=>p != (d,b))↔Holds a.tmps x.gs:=by
     constructor
     ·intro hh p hp;by_cases W8:p=(d,b)
      ·subst W8;exact hd
      ·exact hh p (by simp [List.mem_filter,hp,W8])
     ·intro hh p hp;exact hh p (List.mem_filter.1 hp).1
    simp only [he];exact ht
 df:=h.df
 nw:=h.nw
 fr:=h.fr
 sh:=h.sh
 bt:=h.bt
theorem zO (d e:Nat) (b:Bool):∀ {sl:List (Nat × Sl)},noMen d sl=true->noMen d (sl.map (cf e b))=true
 | [],_=>rfl
 | (k,y) :: r,h=>by
  have h2:noMen d r=true/\∀ p∈y.gs,(!Nat.beq p.1 d)=true:=by
   simp only [noMen] at h
   grind
  have ih:=zO d e b h2.1
  have h3:∀ p∈(cf e b (k,y)).2.gs,(!Nat.beq p.1 d)=true:=by
   unfold cf
   grind
  simp only [List.map_cons];rw [show cf e b (k,y)=((cf e b (k,y)).1,(cf e b (k,y)).2) from rfl];simp only [noMen]
  grind
theorem kK {nt d:Nat} {b:Bool} {dst:Option Nat} (h:eV nt st.sl dst=true):eV nt (st.resolve d b).sl dst=true:=by
 cases dst with
 | none=>rfl
 | some e=>
  simp only [eV,bg] at h ⊢;exact ⟨h.1,zO e d b h.2⟩
theorem dr (h:Rel X E st a w) {E':En} {Vi:List (List DV)} {cA:List TkE} {w':World} (hx:Ext E E') (he:Env E' Vi w') (ht:E'.tk=cA) (hn:Nw X.E0 E' X.w0) (hf:qQ X.E0.S X.w0 w') (hs:X.still=true->∃ q,w'=X.w0.drewN q) (hbt:pw X.bt E'.β w'):Rel X E' ⟨st.sl,Vi,cA⟩ a w' where
 env:=he
 tk:=ht
 sz:=h.sz
 tm:=fun i x hi=>by
  have:=h.tm i x hi;refine ⟨fun hh=>?_,this.2⟩;obtain ⟨v,h1,h2⟩:=this.1 hh;exact ⟨v,h1,Rv.mono hx h2⟩
 df:=h.df
 nw:=hn
 fr:=hf
 sh:=hs
 bt:=hbt
theorem pw.gW {bt:List (Nat × TypeId)} {β:List Nat} {w w':World} (h:pw bt β w) (hh:∀ b∈β,w'.heap[b]? = w.heap[b]?):pw bt β w':=fun p hp b hb=>by
 obtain ⟨cs,hc⟩:=h p hp b hb
 grind
theorem pw.nil {bt:List (Nat × TypeId)} {β:List Nat} {w:World} (h:bt=[]):pw bt β w:=fun p hp=>by rw [h] at hp;cases hp
theorem pw.sub {bt:List (Nat × TypeId)} {β:List Nat} {w:World} (h:pw bt β w) (n:Nat):pw bt (β.take n) w:=fun p hp b hb=>by
 rw [cQ] at hb;split at hb
 ·exact h p hp b hb
 ·cases hb
theorem zP:∀ {bt:List (Nat × TypeId)} {n:Nat} {t:TypeId},btOK bt n t=true->∀ p∈bt,p.1=n->p.2=t
 | [],n,t,_,p,hp,_=>by cases hp
 | q :: r,n,t,h,p,hp,hn=>by
  simp only [btOK,bg,Bool.or_eq_true,Bool.not_eq_true'] at h;rcases dM hp with rfl | hp
  ·simp_all
  ·exact zP h.2 p hp hn
theorem Env.bm {bx:List (List DV)} (h:Env E bx w) {b:Nat} (hb:b∈E.β):b < w.heap.size:=by
 obtain ⟨i,hi,rfl⟩:=List.getElem_of_mem hb;have:i < bx.length:=by rw [<- h.len];exact hi
 obtain ⟨b',ty,arr,ef,hw,_⟩:=h.dY i _ (gE this)
 grind
theorem iD {c:Addr->Option Value} {β:List Nat} {q:TkE} {y:Value} (h:DK w c β q y) {g:Nat} (hg:y.ownBlock=some g):g < w.heap.size/\g ∉ β:=by
 rcases h with ⟨rfl,_⟩ | ⟨g',cap,cur,rfl,hw,_,_,_,hb,_⟩
 ·simp [Value.ownBlock] at hg
 ·simp only [Value.ownBlock,oI] at hg;subst hg;exact ⟨dq hw,hb⟩
theorem Env.own {bx:List (List DV)} (h:Env E bx w) {y:Value} {g:Nat} (hy:y∈E.τ) (hg:y.ownBlock=some g):g < w.heap.size/\g ∉ E.β:=by
 obtain ⟨k,hk,rfl⟩:=List.getElem_of_mem hy;have gU:k < E.tk.length:=by rw [<- h.tl];exact hk
 exact iD (h.c9 k _ _ (gE gU) (gE hk)) hg
theorem sA {c:Addr->Option Value} {β:List Nat} {q:TkE} {y:Value} {w':World} (h:DK w c β q y) (hw:∀ g,y.ownBlock=some g->w'.heap[g]? = w.heap[g]?):DK w' c β q y:=by
 rcases h with h | ⟨g',cap,cur,rfl,h1,h2,h3,h4,h5,h6⟩
 ·exact .inl h
 ·exact .inr ⟨g',cap,cur,rfl,by rw [hw g' rfl];exact h1,h2,h3,h4,h5,h6⟩
theorem Env.gW {bx:List (List DV)} {w':World} (h:Env E bx w) (hw:∀ i,i < w.heap.size->w'.heap[i]? = w.heap[i]?):Env E bx w' where
 len:=h.len
 tl:=h.tl
 dY:=fun i cs hi=>by
  obtain ⟨b,ty,arr,hb,hwb,hc⟩:=h.dY i cs hi
  grind
 inj:=h.inj
 sub:=fun x v hx=>by
  have zQ:=h.sub x v hx;rw [lE (w:=w) (hw _ (World.block_lt_of_cell? w x zQ))];exact zQ
 pc:=h.pc
 c9:=fun k q y hq hy=>sA (h.c9 k q y hq hy) fun g hg=>hw g (iD (h.c9 k q y hq hy) hg).1
 iB:=h.iB
theorem qQ.cu {S:Nat->Prop} {w0 w w':World} (h:qQ S w0 w) (h1:w'.os=w.os) (h2:w'.tape=w.tape) (h3:w'.output=w.output) (h4:w.heap.size<=w'.heap.size) (hw:∀ i,i < w.heap.size->(S i∨w0.heap.size<=i)∨w'.heap[i]? = w.heap[i]?):qQ S w0 w':=
 ⟨h1.trans h.os,h2.trans h.tape,h3.trans h.output,Nat.le_trans h.size h4,fun k hk hS=>by
  rcases hw k (Nat.lt_of_lt_of_le hk h.size) with (h5 | h5) | h5
  ·exact (hS h5).elim
  ·omega
  ·rw [h5];exact h.block k hk hS⟩
theorem alloc_old (w:World) (o:Obj) {k:Nat} (hk:k < w.heap.size):(w.alloc o).heap[k]? = w.heap[k]?:=Below.heap_alloc w o k hk
theorem qQ.alloc {S:Nat->Prop} {w0 w:World} (h:qQ S w0 w) (o:Obj):qQ S w0 (w.alloc o):=
 h.cu rfl rfl rfl (by simp) fun i hi=>.inr (alloc_old w o hi)
theorem oM (E:En) (b:Nat):Ext E ⟨E.c,E.β ++ [b],E.tk,E.τ⟩:=
 ⟨fun _ _ h=>h,fun i x h=>by rw [ei (gS h).1];exact h,fun k q h=>⟨q,h,.inl ⟨rfl,rfl⟩⟩⟩
theorem Env.box {bx:List (List DV)} (h:Env E bx w) {cs:List DV} {arr:List Value} (hc:RvC E cs arr) (t:TypeId):Env ⟨E.c,E.β ++ [w.heap.size],E.tk,E.τ⟩ (bx ++ [cs]) (w.alloc (.cells arr.toArray t)):=by
 have hk:=h.gW (w':=w.alloc (.cells arr.toArray t)) fun i hi=>alloc_old w _ hi;have hx:=oM E w.heap.size
 exact {
  len:=by simp [h.len]
  tl:=h.tl
  dY:=fun i cs' cx=>by
   rw [List.getElem?_append] at cx;split at cx
   ·rename_i hi;obtain ⟨b,ty,arr',hb,hw,zR⟩:=hk.dY i cs' cx;exact ⟨b,ty,arr',hx.β i b hb,hw,zR.mono hx⟩
   ·rename_i hi;have Od:i - bx.length=0:=by grind
    rw [Od] at cx;simp only [List.getElem?_cons_zero,oI] at cx;subst cx;refine ⟨w.heap.size,t,arr,?_,gI w _,hc.mono hx⟩;show (E.β ++ [w.heap.size])[i]? = _;rw [List.getElem?_append_right (by rw [h.len];omega),h.len,Od];rfl
  inj:=by
   rw [List.nodup_append];refine ⟨h.inj,by simp,?_⟩;intro b hb c hc;simp only [List.mem_singleton] at hc;have:=h.bm hb;omega
  sub:=hk.sub
  pc:=fun x v hv hm=>by
   rcases List.mem_append.1 hm with hm | hm
   ·exact h.pc x v hv hm
   ·simp only [List.mem_singleton] at hm;have:=World.block_lt_of_cell? w x (h.sub x v hv);omega
  c9:=fun k q y hq hy=>by
   have h1:=hk.c9 k q y hq hy;rcases h1 with h1 | ⟨g',cap,cur,rfl,h1,h2,h3,h4,h5,h6⟩
   ·exact .inl h1
   ·refine .inr ⟨g',cap,cur,rfl,h1,h2,h3,h4,?_,h6⟩;intro hm;rcases List.mem_append.1 hm with hm | hm
    ·exact h5 hm
    ·simp only [List.mem_singleton] at hm;have:=(iD (h.c9 k q _ hq hy) (g:=g') rfl).1;omega
  iB:=h.iB }
theorem W9 {E0:En} {w0:World} (h:Nw E0 E w0) {b:Nat} (hb:w0.heap.size<=b):Nw E0 ⟨E.c,E.β ++ [b],E.tk,E.τ⟩ w0 where
 c:=h.c
 cn:=h.cn
 β:=by
  obtain ⟨r,hr,hl⟩:=h.β
  grind
 tk:=h.tk
 tn:=h.tn
 l0:=h.l0
theorem mJ {X:Ctx} (hs:X.still=false) {p:Prop}:X.still=true->p:=fun h=>by rw [hs] at h;cases h
theorem vX (h:Rel X E st a w) (bp:X.still=false) {cs:List DV} {arr:List Value} (hc:RvC E cs arr) (t:TypeId) (hbt:btOK X.bt st.bx.length t=true) :
  Rel X ⟨E.c,E.β ++ [w.heap.size],E.tk,E.τ⟩ ⟨st.sl,st.bx ++ [cs],st.tk⟩ a (w.alloc (.cells arr.toArray t)):=
 dr h (oM E w.heap.size) (h.env.box hc t) h.tk (W9 h.nw h.fr.size) (h.fr.alloc _) (mJ bp) fun p hp b hb=>by
  have hb:(E.β ++ [w.heap.size])[p.1]? = some b:=hb;rw [List.getElem?_append] at hb;split at hb
  ·obtain ⟨cs,hc⟩:=h.bt p hp b hb;exact ⟨cs,by rw [alloc_old w _ (dq hc)];exact hc⟩
  ·rename_i hi;have h0:p.1 - E.β.length=0:=by grind
   rw [h0] at hb;simp only [List.getElem?_cons_zero,oI] at hb;subst hb;have ht:=zP hbt p hp (by rw [<- h.env.len];omega);exact ⟨_,by rw [ht];exact gI w _⟩
theorem Jt (h:Rel X E st a w) (bp:X.still=false) {d:Nat} (hd:eV X.nt st.sl (some d)=true) {cs:List DV} {arr:List Value} (hc:RvC E cs arr) (t:TypeId) (hbt:btOK X.bt st.bx.length t=true) :
  Rel X ⟨E.c,E.β ++ [w.heap.size],E.tk,E.τ⟩ ⟨(d,⟨[],.loc st.bx.length 0⟩) :: st.sl,st.bx ++ [cs],st.tk⟩ (a.put (some d) (.pointer (some ⟨w.heap.size,0,none⟩))) (w.alloc (.cells arr.toArray t)):=by
 have h1:=vX h bp hc t hbt;refine bh h1 hd (.loc st.bx.length 0) _ ?_;unfold Rv;refine ⟨w.heap.size,?_,rfl⟩;show (E.β ++ [w.heap.size])[st.bx.length]? = _;rw [List.getElem?_append_right (by rw [h.env.len];omega),h.env.len];simp
theorem Env.set {bx:List (List DV)} (h:Env E bx w) {i b:Nat} {cs':List DV} {arr':List Value} {ty:TypeId} (hb:E.β[i]? = some b) (hw:b < w.heap.size) (hc:RvC E cs' arr'):Env E (bx.set i cs') (World.c8 w b (.cells arr'.toArray ty (0,0))):=by
 have hm:b∈E.β:=mG hb;have hs:(World.c8 w b (.cells arr'.toArray ty (0,0))).heap[b]? = some (.cells arr'.toArray ty (0,0)):=eI (Array.getElem?_eq_getElem hw)
 exact {
  len:=by simpa using h.len
  tl:=h.tl
  dY:=fun j c Xa=>by
   rw [List.getElem?_set] at Xa;split at Xa
   ·grind
   ·rename_i qX;obtain ⟨b',Dz,arr,ef,W7,zR⟩:=h.dY j c Xa;refine ⟨b',Dz,arr,ef,?_,zR⟩;rw [cS]
    ·exact W7
    ·rintro rfl;exact qX ((List.getElem?_inj (gS hb).1 h.inj).1 (hb.trans ef.symm))
  inj:=h.inj
  sub:=fun x v hx=>by
   have:=h.pc x v hx;rw [lE (w:=w)]
   ·exact h.sub x v hx
   ·exact cS (fun e=>this (e ▸ hm))
  pc:=h.pc
  c9:=fun k q y hq hy=>sA (h.c9 k q y hq hy) fun g hg=>cS fun e=>(iD (h.c9 k q y hq hy) hg).2 (e ▸ hm)
  iB:=h.iB }
theorem jT (h:Rel X E st a w) (bp:X.still=false) {i b:Nat} {cs':List DV} {arr':List Value} {ty:TypeId} (hb:E.β[i]? = some b) (hc:RvC E cs' arr') (hold:∃ c0,w.heap[b]? = some (.cells c0 ty (0,0))) :
  Rel X E ⟨st.sl,st.bx.set i cs',st.tk⟩ a (World.c8 w b (.cells arr'.toArray ty (0,0))):=by
 have hm:b∈E.β:=mG hb;refine dr h (Ext.refl E) (h.env.set hb (h.env.bm hm) hc) h.tk h.nw (h.fr.cu rfl rfl rfl (by rw [fB];exact bn _) fun j hj=>?_) (mJ bp) ?_
 ·by_cases Xb:j=b
  ·left;obtain ⟨r,hr,hl⟩:=h.nw.β;rw [hr] at hm;rcases List.mem_append.1 hm with hm | hm
   ·exact .inl (.inl (Xb ▸ hm))
   ·exact .inr (Xb ▸ hl b hm)
  ·right;exact cS Xb
 ·intro p hp b' ef;obtain ⟨cs,cx⟩:=h.bt p hp b' ef;by_cases he:b'=b
  ·subst he;obtain ⟨c0,h0⟩:=hold;rw [h0] at cx;simp only [oI,Obj.cells.injEq] at cx;exact ⟨_,by rw [<- cx.2.1];exact eI h0⟩
  ·exact ⟨cs,by rw [cS he];exact cx⟩
def eW (c:Addr->Option Value) (w:World) (g n:Nat):Addr->Option Value:=
 fun a=>if a.block=g/\a.spot=none/\a.off < n then w.cell? a else c a
theorem vw {c:Addr->Option Value} {w:World} {g n o:Nat} (h:o < n):eW c w g n ⟨g,o,none⟩=w.cell? ⟨g,o,none⟩:=by simp [eW,h]
theorem lK (hr:Rel X E st a w):Rel X E st a w.drew:=
 dr hr (Ext.refl E) (hr.env.gW fun _ _=>rfl) hr.tk hr.nw (hr.fr.cu rfl rfl rfl (bn _) fun _ _=>.inr rfl) (fun hs=>by
  obtain ⟨q,hq⟩:=hr.sh hs
  exact ⟨q + 1,by rw [hq];rfl⟩) (hr.bt.gW fun _ _=>rfl)
theorem sC (h:Rel X E st a w) (bp:X.still=false) {arr:List Value} (t:TypeId) :
  Rel X ⟨eW E.c (w.alloc (.cells arr.toArray t)) w.heap.size arr.length,E.β,E.tk,E.τ⟩ st a (w.alloc (.cells arr.toArray t)):=by
 have hk:=h.env.gW (w':=w.alloc (.cells arr.toArray t)) fun i hi=>alloc_old w _ hi;have hold:∀ x v,E.c x=some v->x.block < w.heap.size:=fun x v hx=>World.block_lt_of_cell? w x (h.env.sub x v hx)
 have jk:∀ x v,E.c x=some v->eW E.c (w.alloc (.cells arr.toArray t)) w.heap.size arr.length x=some v:=fun x v hx=>by
  have:=hold x v hx;unfold eW;rw [ag (by omega)];exact hx
 have cx:∀ x v,eW E.c (w.alloc (.cells arr.toArray t)) w.heap.size arr.length x=some v->E.c x=some v∨x.block=w.heap.size:=fun x v hx=>by
  unfold eW at hx
  grind
 have hext:Ext E ⟨eW E.c (w.alloc (.cells arr.toArray t)) w.heap.size arr.length,E.β,E.tk,E.τ⟩:=⟨jk,fun _ _ h=>h,fun k q h=>⟨q,h,.inl ⟨rfl,rfl⟩⟩⟩;refine dr h hext ?_ h.tk ?_ (h.fr.alloc _) (mJ bp) (h.bt.gW fun b hb=>alloc_old w _ (h.env.bm hb))
 ·exact {
   len:=h.env.len
   tl:=h.env.tl
   dY:=fun i cs hi=>by
    obtain ⟨b,ty,arr',hb,hw,hc⟩:=hk.dY i cs hi;exact ⟨b,ty,arr',hb,hw,hc.mono hext⟩
   inj:=h.env.inj
   sub:=fun x v hx=>by
    have hx:eW E.c (w.alloc (.cells arr.toArray t)) w.heap.size arr.length x=some v:=hx;unfold eW at hx;split at hx
    ·exact hx
    ·exact hk.sub x v hx
   pc:=fun x v hx hm=>by
    rcases cx x v hx with h1 | h1
    ·exact h.env.pc x v h1 hm
    ·have:=h.env.bm hm;omega
   c9:=fun k q y hq hy=>by
    rcases hk.c9 k q y hq hy with h1 | ⟨g',cap,cur,rfl,h1,h2,h3,h4,h5,h6⟩
    ·exact .inl h1
    ·refine .inr ⟨g',cap,cur,rfl,h1,⟨h2.1,h2.2.mono jk⟩,h3,h4,h5,fun x v hx hg=>?_⟩;rcases cx x v hx with h7 | h7
     ·exact h6 x v h7 hg
     ·have:=(iD (h.env.c9 k q _ hq hy) (g:=g') rfl).1;omega
   iB:=h.env.iB }
 ·exact {
   c:=fun x v hx=>jk x v (h.nw.c x v hx)
   cn:=fun x v hx=>by
    rcases cx x v hx with h1 | h1
    ·exact h.nw.cn x v h1
    ·have:=h.fr.size;exact .inr (.inl (by omega))
   β:=h.nw.β
   tk:=h.nw.tk
   tn:=h.nw.tn
   l0:=h.nw.l0 }
theorem Nw.own {E0:En} {w0:World} (h:Nw E0 E w0) {k:Nat} {y:Value} {g:Nat} (hy:E.τ[k]? = some y) (hg:y.ownBlock=some g):(∃ y0∈E0.τ,y0.ownBlock=some g)∨w0.heap.size<=g:=by
 rcases Nat.lt_or_ge k E0.tk.length with hk | hk
 ·have gU:k < E0.τ.length:=by rw [h.l0];exact hk
  obtain ⟨q',y',_,h2,_,_,_,h6⟩:=h.tk k _ _ (gE hk) (gE gU)
  grind
 ·exact .inr (h.tn k y g hk hy hg)
theorem kb {c:Addr->Option Value} {w:World} {g n:Nat} {x:Addr} {v:Value} (h:eW c w g n x=some v):(x.block=g/\x.spot=none/\x.off < n/\w.cell? x=some v)∨(c x=some v):=by
 unfold eW at h
 grind
theorem Hb (h:Rel X E st a w) (q:TkE) (hq:q.new=true):Rel X ⟨E.c,E.β,E.tk ++ [q],E.τ ++ [.slice none 0 0]⟩ ⟨st.sl,st.bx,st.tk ++ [q]⟩ a w/\Ext E ⟨E.c,E.β,E.tk ++ [q],E.τ ++ [.slice none 0 0]⟩:=by
 have hτ:∀ (k:Nat) y,(E.τ ++ [Value.slice none 0 0])[k]? = some y->(k < E.τ.length/\E.τ[k]? = some y)∨(k=E.τ.length/\y = .slice none 0 0):=fun k y hy=>by grind
 have hext:Ext E ⟨E.c,E.β,E.tk ++ [q],E.τ ++ [.slice none 0 0]⟩:=⟨fun _ _ h=>h,fun _ _ h=>h,fun k q' hk=>by
  have aE:=(gS hk).1;refine ⟨q',by rw [ei aE];exact hk,.inl ⟨rfl,?_⟩⟩
  rw [ei (by rw [h.env.tl];exact aE)]⟩
 refine ⟨dr h hext ?_ (by rw [h.tk]) ?_ h.fr h.sh h.bt,hext⟩
 ·exact {
   len:=h.env.len
   tl:=by simp [h.env.tl]
   dY:=fun i cs hi=>by
    obtain ⟨b,t,arr,hb,hw,hc⟩:=h.env.dY i cs hi;exact ⟨b,t,arr,hb,hw,hc.mono hext⟩
   inj:=h.env.inj
   sub:=h.env.sub
   pc:=h.env.pc
   c9:=fun k q' y hk hy=>by
    rcases hτ k y hy with ⟨aE,iv⟩ | ⟨rfl,rfl⟩
    ·have gU:(E.tk ++ [q])[k]? = some q':=hk;rw [ei (by rw [<- h.env.tl];exact aE)] at gU;exact h.env.c9 k q' y gU iv
    ·have gU:(E.tk ++ [q])[E.τ.length]? = some q':=hk;rw [List.getElem?_append_right (by rw [h.env.tl];exact bn _),h.env.tl] at gU;simp only [Nat.sub_self,List.getElem?_cons_zero,oI] at gU;subst gU;exact .inl ⟨rfl,TkE.N6 hq,TkE.Vh hq⟩
   iB:=fun k k' y y' g GY hy iv hg vY=>by
    rcases hτ k y hy with ⟨_,zt⟩ | ⟨_,rfl⟩
    ·rcases hτ k' y' iv with ⟨_,mK⟩ | ⟨_,rfl⟩
     ·exact h.env.iB k k' y y' g GY zt mK hg vY
     ·simp [Value.ownBlock] at vY
    ·simp [Value.ownBlock] at hg }
 ·exact {
   c:=h.nw.c
   cn:=h.nw.cn
   β:=h.nw.β
   tk:=fun j q0 y0 DP Hc=>by
    obtain ⟨q',y',h1,h2,h3⟩:=h.nw.tk j q0 y0 DP Hc
    grind
   tn:=fun j y g hj hy hg=>by
    rcases hτ j y hy with ⟨_,zt⟩ | ⟨_,rfl⟩
    ·exact h.nw.tn j y g hj zt hg
    ·simp [Value.ownBlock] at hg
   l0:=h.nw.l0 }
theorem DQ (h:Rel X E st a w) (bp:X.still=false) {k n m ty e g cap:Nat} {v:Value} {xs news:List Value} {cA:List TkE} {τ':List Value} {w':World}
  (hk:(∃ q,E.tk[k]? = some q/\E.τ[k]? = some v/\q.n=n/\q.ty=ty/\q.e=e/\q.own=none)∨(E.tk[k]? = none/\E.τ[k]? = none/\v = .slice none 0 0/\n=0))
  (hm:0 < m) (he:0 < e) (h1:cA[k]? = some ⟨n + m,ty,e,none⟩) (kL:τ'[k]? = some (.slice (some ⟨g,0,none⟩) (n + m) cap)) (hl:τ'.length=cA.length)
  (ht:∀ j,j≠k->cA[j]? = E.tk[j]?) (si:∀ j,j≠k->τ'[j]? = E.τ[j]?)
  (dG:w.ownsRow 0 ty e v n xs) (h2:w'.ownsRow 0 ty e (.slice (some ⟨g,0,none⟩) (n + m) cap) (n + m) (xs ++ news)) (h3:w.grownBy w' v.ownBlock)
  (h4:v.ownBlock=some g∨(w.heap.size<=g/\∀ j,j < w.heap.size->w'.heap[j]? = w.heap[j]?)) :
  Rel X ⟨eW E.c w' g ((n + m) * e),E.β,cA,τ'⟩ ⟨st.sl,st.bx,cA⟩ a w' /\ Ext E ⟨eW E.c w' g ((n + m) * e),E.β,cA,τ'⟩/\∀ (j:Nat) u,(xs ++ news)[j]? = some u->eW E.c w' g ((n + m) * e) ⟨g,j,none⟩=some u:=by
 have hlen:=h2.1;rcases h2.2 with ⟨hv,_⟩ | ⟨g',aaj,cur,hv,_,SP,zj,hcm,cx,htake⟩
 ·cases hv
 injection hv with Dy Ss hv3
 injection Dy with Dy
 injection Dy with Dy
 subst Dy hv3
 have hgk:∀ g0,v.ownBlock=some g0->g0 < w.heap.size/\g0 ∉ E.β/\((∃ y0∈X.E0.τ,y0.ownBlock=some g0)∨X.w0.heap.size<=g0):=by
  intro g0 B6;rcases hk with ⟨q,hq,hy,_⟩ | ⟨_,_,rfl,_⟩
  ·have:=iD (h.env.c9 k q v hq hy) B6;exact ⟨this.1,this.2,h.nw.own hy B6⟩
  ·simp [Value.ownBlock] at B6
 have di:w.heap.size<=w'.heap.size:=h3.size
 have B6:g ∉ E.β/\((∃ y0∈X.E0.τ,y0.ownBlock=some g)∨X.w0.heap.size<=g):=by
  rcases h4 with h4 | h4
  ·exact (hgk g h4).2
  ·exact ⟨fun hb=>by have:=h.env.bm hb;omega,.inr (Nat.le_trans h.fr.size h4.1)⟩
 have qY:∀ j,j < w.heap.size->some j≠v.ownBlock->w'.heap[j]? = w.heap[j]?:=fun j hj bo=>h3.block j hj bo
 have dB:∀ (j:Nat) u,(xs ++ news)[j]? = some u->w'.cell? ⟨g,j,none⟩=some u:=by
  intro j u hj;rw [cJ SP];rw [<- htake,cQ] at hj;split at hj
  ·simpa using hj
  ·cases hj
 have hold:∀ x u,E.c x=some u->w'.cell? x=some u:=by
  intro x u hx;have zQ:=h.env.sub x u hx;have aE:=World.block_lt_of_cell? w x zQ;by_cases ho:some x.block=v.ownBlock
  ·rcases h4 with h4 | h4
   ·rw [h4] at ho;simp only [oI] at ho;rcases hk with ⟨q,hq,hy,rfl,rfl,rfl,NJ⟩ | ⟨_,_,rfl,_⟩
    ·rcases h.env.c9 k q v hq hy with ⟨rfl,_⟩ | ⟨g2,Xc,Xd,rfl,lL,Su,Sv,_,_,qU⟩
     ·simp [Value.ownBlock] at h4
     ·simp only [Value.ownBlock,oI] at h4;subst h4;have u7:=qU x u hx ho;simp only [TkE.kn,NJ] at u7;rcases dG.2 with ⟨oN,_⟩ | ⟨g3,cap3,cur3,oN,_,DA,_,_,_,ht3⟩
      ·cases oN
      ·injection oN with e1 e2 e3
       injection e1 with e1
       injection e1 with e1
       subst e1;obtain ⟨xb,xo,xs'⟩:=x;simp only at ho u7;subst ho
       have Xe:xs'=none:=by
        cases xs' with
        | none=>rfl
        | some _=>simp [World.cell?,DA] at zQ
       subst Xe;rw [cJ DA] at zQ
       have:xs[xo]? = some u:=by
        rw [<- ht3,cQ,ah u7];simpa using zQ
       exact dB xo u (by rw [ei (gS this).1];exact this)
    ·simp [Value.ownBlock] at h4
   ·rw [lE (w:=w) (h4.2 _ aE)];exact zQ
  ·rw [lE (w:=w) (qY _ aE ho)];exact zQ
 have fD:(xs ++ news).length=(n + m) * e:=hlen
 have He:∀ x u,E.c x=some u->eW E.c w' g ((n + m) * e) x=some u:=by
  intro x u hx;unfold eW;split
  ·exact hold x u hx
  ·exact hx
 have hext:Ext E ⟨eW E.c w' g ((n + m) * e),E.β,cA,τ'⟩:={
  c:=He
  β:=fun _ _ h=>h
  tk:=fun j q hq=>by
   by_cases hj:j=k
   ·subst hj;rcases hk with ⟨q2,kF,_,hn,_⟩ | ⟨hn,_⟩
    ·rw [hq] at kF;simp only [oI] at kF;subst kF;exact ⟨_,h1,.inr (by simp only;omega)⟩
    ·rw [hq] at hn;cases hn
   ·exact ⟨q,by rw [<- hq];exact ht j hj,.inl ⟨rfl,si j hj⟩⟩ }
 have hβ:∀ b' ∈ E.β,w'.heap[b']? = w.heap[b']?:=fun b' ef=>qY b' (h.env.bm ef) fun he=>(hgk b' he.symm).2.1 ef
 have pZ:∀ j y g1,j≠k->E.τ[j]? = some y->y.ownBlock=some g1->g1≠g/\w'.heap[g1]? = w.heap[g1]?:=by
  intro j y g1 hj hy pI;have vZ:j < E.tk.length:=by rw [<- h.env.tl];exact (gS hy).1
  have aE:=(iD (h.env.c9 j _ y (gE vZ) hy) pI).1
  have bo:v.ownBlock≠some g1:=by
   rcases hk with ⟨q,hq,SQ,_⟩ | ⟨_,_,rfl,_⟩
   ·exact h.env.iB j k y v g1 hj hy SQ pI
   ·simp [Value.ownBlock]
  refine ⟨?_,qY g1 aE (Ne.symm bo)⟩;rintro rfl;rcases h4 with h4 | h4
  ·exact bo h4
  ·omega
 refine ⟨dr h hext ?_ rfl ?_ ?_ (mJ bp) (h.bt.gW hβ),hext,fun j u hj=>?_⟩
 ·exact {
   len:=h.env.len
   tl:=hl
   dY:=fun i cs hi=>by
    obtain ⟨b,t,arr,hb,hw,hc⟩:=h.env.dY i cs hi;exact ⟨b,t,arr,hb,by rw [hβ b (mG hb)];exact hw,hc.mono hext⟩
   inj:=h.env.inj
   sub:=fun x u hx=>by
    rcases kb hx with ⟨_,_,_,h5⟩ | h5
    ·exact h5
    ·exact hold x u h5
   pc:=fun x u hx SR=>by
    rcases kb hx with ⟨h5,_⟩ | h5
    ·exact B6.1 (h5 ▸ SR)
    ·exact h.env.pc x u h5 SR
   c9:=fun j q y hq hy=>by
    by_cases hj:j=k
    ·subst hj;rw [show E.c=E.c from rfl] at *;have nQ:cA[j]? = some q:=hq;have iv:τ'[j]? = some y:=hy;rw [h1] at nQ;rw [kL] at iv;simp only [oI] at nQ iv;subst nQ iv;refine .inr ⟨g,cap,cur,rfl,SP,⟨cx,qR.none rfl⟩,zj,hcm,B6.1,fun x u hx GZ=>?_⟩;rcases kb hx with ⟨_,_,h5,_⟩ | h5
     ·exact h5
     ·-- an old known cell of this block
      have zQ:=h.env.sub x u h5;have aE:=World.block_lt_of_cell? w x zQ;rcases h4 with h4 | h4
      ·rcases hk with ⟨q,hq,SQ,hqn,Sw,Oe,NJ⟩ | ⟨_,_,rfl,_⟩
       ·rcases h.env.c9 j q v hq SQ with ⟨rfl,_⟩ | ⟨g2,Xc,Xd,rfl,lL,Su,Sv,_,_,qU⟩
        ·simp [Value.ownBlock] at h4
        ·simp only [Value.ownBlock,oI] at h4;have:=qU x u h5 (GZ.trans h4.symm);simp only [TkE.kn,NJ] at this;rw [hqn,Oe] at this;show x.off < (n + m) * e;exact Nat.lt_of_lt_of_le this (Nat.mul_le_mul_right _ (Nat.le_add_right _ _))
       ·simp [Value.ownBlock] at h4
      ·have:=h4.1;rw [GZ] at aE;omega
    ·have nQ:E.tk[j]? = some q:=by rw [<- ht j hj];exact hq
     have iv:E.τ[j]? = some y:=by rw [<- si j hj];exact hy
     rcases h.env.c9 j q y nQ iv with h5 | ⟨g2,Xc,Xd,rfl,lL,Su,Sv,DR,iW,qU⟩
     ·exact .inl h5
     ·obtain ⟨bo,DS⟩:=pZ j _ g2 hj iv rfl;refine .inr ⟨g2,Xc,Xd,rfl,by rw [DS];exact lL,⟨Su.1,Su.2.mono He⟩,Sv,DR,iW,fun x u hx GZ=>?_⟩;rcases kb hx with ⟨h5,_⟩ | h5
      ·exact (bo (GZ.symm.trans h5)).elim
      ·exact qU x u h5 GZ
   iB:=fun j j' y y' g1 Ju hy iv pI DT=>by
    by_cases hj:j=k
    ·subst hj;have mK:τ'[j]? = some y:=hy;rw [kL] at mK;simp only [oI] at mK;subst mK;simp only [Value.ownBlock,oI] at pI;have G0:E.τ[j']? = some y':=by rw [<- si j' (Ne.symm Ju)];exact iv
     exact (pZ j' y' g1 (Ne.symm Ju) G0 DT).1 pI.symm
    ·have G0:E.τ[j]? = some y:=by rw [<- si j hj];exact hy
     by_cases jw:j'=k
     ·subst jw;have mK:τ'[j']? = some y':=iv;rw [kL] at mK;simp only [oI] at mK;subst mK;simp only [Value.ownBlock,oI] at DT;exact (pZ j y g1 hj G0 pI).1 DT.symm
     ·have hy4:E.τ[j']? = some y':=by rw [<- si j' jw];exact iv
      exact h.env.iB j j' y y' g1 Ju G0 hy4 pI DT }
 ·exact {
   c:=fun x u hx=>He x u (h.nw.c x u hx)
   cn:=fun x u hx=>by
    rcases kb hx with ⟨h5,_⟩ | h5
    ·rcases B6.2 with h6 | h6
     ·exact .inr (.inr (by rw [h5];exact h6))
     ·exact .inr (.inl (by rw [h5];exact h6))
    ·exact h.nw.cn x u h5
   β:=h.nw.β
   tk:=fun j q0 y0 DP Hc=>by
    obtain ⟨q',y',h5,h6,h7,h8,h9,u9⟩:=h.nw.tk j q0 y0 DP Hc;by_cases hj:j=k
    ·subst hj;rcases hk with ⟨q,hq,SQ,hqn,Sw,Oe,_⟩ | ⟨hn,_⟩
     ·rw [h5] at hq;rw [h6] at SQ;simp only [oI] at hq SQ;subst hq SQ;refine ⟨_,_,h1,kL,by rw [h7];exact Sw,by rw [h8];exact Oe,.inr ?_,?_⟩
      ·rcases h9 with ⟨h9,_⟩ | h9
       ·simp only;omega
       ·simp only;omega
      ·rcases h4 with h4 | h4
       ·rcases u9 with u9 | u9
        ·left;rw [<- u9,h4];all_goals rfl
        ·right;intro g1 pI;simp only [Value.ownBlock,oI] at pI;exact pI ▸ u9 g h4
       ·right;intro g1 pI;simp only [Value.ownBlock,oI] at pI;have:=h.fr.size;omega
     ·rw [h5] at hn;cases hn
    ·exact ⟨q',y',by rw [<- h5];exact ht j hj,by rw [<- h6];exact si j hj,h7,h8,h9,u9⟩
   tn:=fun j y g1 DU hy pI=>by
    by_cases hj:j=k
    ·subst hj;have mK:τ'[j]? = some y:=hy;rw [kL] at mK;simp only [oI] at mK;subst mK;simp only [Value.ownBlock,oI] at pI;subst pI;rcases h4 with h4 | h4
     ·rcases hk with ⟨q,hq,SQ,_⟩ | ⟨_,_,rfl,_⟩
      ·exact h.nw.tn j v g DU SQ h4
      ·simp [Value.ownBlock] at h4
     ·have:=h.fr.size;omega
    ·exact h.nw.tn j y g1 DU (by rw [<- si j hj];exact hy) pI
   l0:=h.nw.l0 }
 ·refine h.fr.cu h3.os h3.tape h3.output h3.size fun j hj=>?_;by_cases ho:some j=v.ownBlock
  ·left;rcases (hgk j ho.symm).2.2 with h5 | h5
   ·exact .inl (.inr h5)
   ·exact .inr h5
  ·exact .inr (qY j hj ho)
 ·have jw:=(gS hj).1;rw [vw (by omega)];exact dB j u hj
theorem B7 (h:Rel X E st a w) (bp:X.still=false) {k:Nat} {q q':TkE} {v v':Value} {w':World} (hq:E.tk[k]? = some q) (hv:E.τ[k]? = some v) (NJ:q.kn=0) (Lm:q'.ty=q.ty) (he:q'.e=q.e)
  (hn:(q'.n=q.n/\v'=v)∨q.n < q'.n) (NK:DK w' E.c E.β q' v') (hb:v'.ownBlock=v.ownBlock∨∀ g,v'.ownBlock=some g->w.heap.size<=g)
  (qZ:w'.os=w.os) (htp:w'.tape=w.tape) (hou:w'.output=w.output) (di:w.heap.size<=w'.heap.size) (qY:∀ j,j < w.heap.size->some j≠v.ownBlock->w'.heap[j]? = w.heap[j]?) :
  Rel X ⟨E.c,E.β,E.tk.set k q',E.τ.set k v'⟩ ⟨st.sl,st.bx,st.tk.set k q'⟩ a w' /\ Ext E ⟨E.c,E.β,E.tk.set k q',E.τ.set k v'⟩:=by
 have DW:=(gS hq).1;have hkτ:=(gS hv).1;have ho:=h.env.c9 k q v hq hv;have hgk:∀ g0,v.ownBlock=some g0->g0 < w.heap.size/\g0 ∉ E.β:=fun g0 B6=>iD ho B6
 have hc:∀ x u,E.c x=some u->some x.block≠v.ownBlock:=fun x u hx hxo=>by
  rcases ho with ⟨rfl,_⟩ | ⟨g,cap,cur,rfl,_,_,_,_,_,h6⟩
  ·simp [Value.ownBlock] at hxo
  ·simp only [Value.ownBlock,oI] at hxo;have:=h6 x u hx hxo;omega
 have hold:∀ x u,E.c x=some u->w'.cell? x=some u:=fun x u hx=>by
  have zQ:=h.env.sub x u hx;rw [lE (w:=w) (qY _ (World.block_lt_of_cell? w x zQ) (hc x u hx))];exact zQ
 have ht:∀ j,j≠k->(E.tk.set k q')[j]? = E.tk[j]?:=fun j hj=>List.getElem?_set_ne (Ne.symm hj);have si:∀ j,j≠k->(E.τ.set k v')[j]? = E.τ[j]?:=fun j hj=>List.getElem?_set_ne (Ne.symm hj);have h1:(E.tk.set k q')[k]? = some q':=j5 DW;have kL:(E.τ.set k v')[k]? = some v':=j5 hkτ
 have hext:Ext E ⟨E.c,E.β,E.tk.set k q',E.τ.set k v'⟩:=⟨fun _ _ h=>h,fun _ _ h=>h,fun j q2 kF=>by
  by_cases hj:j=k
  ·subst hj;rw [hq] at kF;simp only [oI] at kF;subst kF;refine ⟨q',h1,?_⟩;rcases hn with ⟨hn,rfl⟩ | hn
   ·exact .inl ⟨hn,by rw [hv];exact kL⟩
   ·exact .inr hn
  ·exact ⟨q2,by rw [<- kF];exact ht j hj,.inl ⟨rfl,si j hj⟩⟩⟩
 have hβ:∀ b' ∈ E.β,w'.heap[b']? = w.heap[b']?:=fun b' ef=>qY b' (h.env.bm ef) fun he=>(hgk b' he.symm).2 ef
 have pZ:∀ j y g1,j≠k->E.τ[j]? = some y->y.ownBlock=some g1->v'.ownBlock≠some g1/\w'.heap[g1]? = w.heap[g1]?:=fun j y g1 hj hy pI=>by
  have aE:=(h.env.own (mG hy) pI).1;have bo:v.ownBlock≠some g1:=h.env.iB j k y v g1 hj hy hv pI;refine ⟨?_,qY g1 aE (Ne.symm bo)⟩;rcases hb with hb | hb
  ·rw [hb];exact bo
  ·intro h2;have:=hb g1 h2;omega
 refine ⟨dr h hext ?_ (by rw [h.tk]) ?_ ?_ (mJ bp) (h.bt.gW hβ),hext⟩
 ·exact {
   len:=h.env.len
   tl:=by simp only [List.length_set];exact h.env.tl
   dY:=fun i cs hi=>by
    obtain ⟨b,t,arr,hb,hw,hc⟩:=h.env.dY i cs hi;exact ⟨b,t,arr,hb,by rw [hβ b (mG hb)];exact hw,hc.mono hext⟩
   inj:=h.env.inj
   sub:=hold
   pc:=h.env.pc
   c9:=fun j q2 y kF hy=>by
    by_cases hj:j=k
    ·subst hj;have Ln:(E.tk.set j q')[j]? = some q2:=kF;have G0:(E.τ.set j v')[j]? = some y:=hy;rw [h1] at Ln;rw [kL] at G0;simp only [oI] at Ln G0;subst Ln G0;exact NK
    ·have Ln:E.tk[j]? = some q2:=by rw [<- ht j hj];exact kF
     have G0:E.τ[j]? = some y:=by rw [<- si j hj];exact hy
     exact sA (h.env.c9 j q2 y Ln G0) fun g hg=>(pZ j y g hj G0 hg).2
   iB:=fun j j' y y' g1 Ju hy iv pI DT=>by
    by_cases hj:j=k
    ·subst hj;have mK:(E.τ.set j v')[j]? = some y:=hy;rw [kL] at mK;simp only [oI] at mK;subst mK;have G0:E.τ[j']? = some y':=by rw [<- si j' (Ne.symm Ju)];exact iv
     exact (pZ j' y' g1 (Ne.symm Ju) G0 DT).1 pI
    ·have G0:E.τ[j]? = some y:=by rw [<- si j hj];exact hy
     by_cases jw:j'=k
     ·subst jw;have mK:(E.τ.set j' v')[j']? = some y':=iv;rw [kL] at mK;simp only [oI] at mK;subst mK;exact (pZ j y g1 hj G0 pI).1 DT
     ·have hy4:E.τ[j']? = some y':=by rw [<- si j' jw];exact iv
      exact h.env.iB j j' y y' g1 Ju G0 hy4 pI DT }
 ·exact {
   c:=h.nw.c
   cn:=h.nw.cn
   β:=h.nw.β
   tk:=fun j q0 y0 DP Hc=>by
    obtain ⟨q1,y1,h5,h6,h7,h8,h9,u9⟩:=h.nw.tk j q0 y0 DP Hc;by_cases hj:j=k
    ·subst hj;rw [h5] at hq;rw [h6] at hv;simp only [oI] at hq hv;subst hq hv;refine ⟨_,_,h1,kL,h7.trans Lm.symm,h8.trans he.symm,?_,?_⟩
     ·rcases hn with ⟨hn,rfl⟩ | hn
      ·rcases h9 with ⟨h9,rfl⟩ | h9
       ·exact .inl ⟨by omega,rfl⟩
       ·exact .inr (by omega)
      ·rcases h9 with ⟨h9,_⟩ | h9
       ·exact .inr (by omega)
       ·exact .inr (by omega)
     ·rcases hb with hb | hb
      ·rcases u9 with u9 | u9
       ·exact .inl (hb.trans u9)
       ·exact .inr fun g hg=>u9 g (by rw [<- hb];exact hg)
      ·refine .inr fun g hg=>?_;have:=hb g hg;have:=h.fr.size;omega
    ·exact ⟨q1,y1,by rw [<- h5];exact ht j hj,by rw [<- h6];exact si j hj,h7,h8,h9,u9⟩
   tn:=fun j y g1 DU hy pI=>by
    by_cases hj:j=k
    ·subst hj;have mK:(E.τ.set j v')[j]? = some y:=hy;rw [kL] at mK;simp only [oI] at mK;subst mK;rcases hb with hb | hb
     ·exact h.nw.tn j v g1 DU hv (by rw [<- hb];exact pI)
     ·have:=hb g1 pI;have:=h.fr.size;omega
    ·exact h.nw.tn j y g1 DU (by rw [<- si j hj];exact hy) pI
   l0:=h.nw.l0 }
 ·refine h.fr.cu qZ htp hou di fun j hj=>?_;by_cases hjo:some j=v.ownBlock
  ·left;rcases h.nw.own hv hjo.symm with h5 | h5
   ·exact .inl (.inr h5)
   ·exact .inr h5
  ·exact .inr (qY j hj hjo)
end
end Dv
end Go.Proofs.YtfdedoiiahbnnaaGreat
namespace Go.Proofs.YtfdedoiiahbnnaaGreat
namespace Dv
open Go Go.RowKit
def Snd (X:Ctx) (G:List It->St->Prop):Prop:=∀ k st,G k st->∀ E a w,Rel X E st a w->kq X k .normal a w
section
variable {X:Ctx} {E:En} {st:St} {a:Act} {w:World}
theorem nT {x:Option Addr} (h:okA x):x=some ⟨ab x,ao x,none⟩:=by
 cases x with
 | none=>exact h.elim
 | some y=>obtain ⟨b,o,s⟩:=y;simp only [okA] at h;subst h;rfl
theorem bc {C:World->Prop} (h:Rl E st.bx C st.sl a) {x:Operand} {s:DV} (hx:rv st [] x=some s):Rv E s (a.eval x):=ct h (aX _) hx
theorem fO {P:Program} {t:TypeId} {i:TypeInfo} (h:P.info? t=some i):iA P t=some i.size:=by simp [iA,h]
theorem dT {C:World->Prop} (h:Rl E st.bx C st.sl a) {d:Int} {y:Operand} {z:Int} (hb:bound st d (some y)=some z):∃ k,a.eval y = .int k z:=by
 simp only [bound] at hb;split at hb
 ·rename_i k z' hy;simp only [oI] at hb;subst hb;exact ⟨k,cC (bc h hy)⟩
 ·cases hb
theorem RvEs.uY:∀ {es:List (List DV)} {E:En} {e b o:Nat},RvEs E e b o es->∃ arr,RvC E es.flatten arr/\arr.length=es.length * e/\∀ (j:Nat) u,arr[j]? = some u->E.c ⟨b,o + j,none⟩=some u
 | [],E,e,b,o,_=>⟨[],⟨cO E,by simp⟩,by simp,by simp⟩
 | cs :: r,E,e,b,o,h=>by
  simp only [RvEs] at h;obtain ⟨h1,h2,h3⟩:=h;obtain ⟨a1,h4,h5⟩:=h2.uY;obtain ⟨a2,h6,h7,h8⟩:=RvEs.uY h3;have hl:a1.length=e:=by rw [h4.1.length];exact h1
  refine ⟨a1 ++ a2,by simpa using h4.append h6,by simp [hl,h7,Nat.add_mul];omega,fun j u hj=>?_⟩
  grind
theorem B8:∀ {bs:List UInt8} {vs:List Value},RvL E (u8L bs) vs->vs=(bs.map fun b=>(b.toNat:Int)).map (Value.int .u8)
 | [],vs,h=>by simpa [u8L,RvL] using h
 | b :: r,vs,h=>by
  simp only [u8L,RvL] at h;obtain ⟨v,s,rfl,h1,h2⟩:=h;unfold Rv at h1;rw [h1.1,B8 h2];rfl
theorem foldl_push (bs:List UInt8):∀ r:ByteArray,(bs.map fun b=>(b.toNat:Int)).foldl (fun r n=>r.push (UInt8.ofNat n.toNat)) r=⟨(r.data.toList ++ bs).toArray⟩:=by
 induction bs with
 | nil=>intro r;simp
 | cons b t ih=>simp_all
theorem Hf {E:En}:∀ {l vs:List Value},RvL E (vL l) vs->vs=l
 | [],vs,h=>by simpa [vL,RvL] using h
 | x :: r,vs,h=>by
  simp only [vL,RvL] at h;obtain ⟨v,s,rfl,h1,h2⟩:=h;unfold Rv at h1;rw [h1.1,Hf h2]
theorem mL {C:World->Prop} (h:Rl E st.bx C st.sl a) {o:Oper} {K:DV->Prop} {p:Prop} (he:effR X st o.op K=some p) (hp:p):∃ y,K y/\aag X.P C E a o y:=by
 have hT:=X.hT;obtain ⟨dst,op,ty,pos,after,gu⟩:=o;cases op<;>simp only [effR] at he<;>try (cases he;done)
 case indexAddr t x i=>
  split at he
  ·rename_i e es tk kd z hx hi;split at he
   ·rename_i n b et e' jS zz hf;split at he
    ·rename_i Jv;have Jv:e=e':=sU Jv;subst Jv;simp only [oI] at he;subst he;obtain ⟨cs,⟨hz,cx⟩,hk⟩:=hp;refine ⟨_,hk,?_⟩;have e1:=bc h hx;have e2:=cC (bc h hi);unfold Rv at e1;obtain ⟨b,n',cap,e1,⟨rfl,_⟩,hr,_⟩:=e1;have aE:=(gS cx).1;have bo:es ≠ []:=by rintro rfl;simp at aE
     obtain ⟨jh,px⟩:=hr bo;have NK:=(px.get cx).2;obtain ⟨hu,ii,zv,v7,_,di,_,_⟩:=fo hT hf;have nJ:iA X.P et=some e:=by rw [fO v7,di]
     have hb:=nT jh;refine ⟨.pointer (some ⟨ab b,ao b + z.toNat * e,none⟩),by unfold Rv;exact ⟨_,_,rfl,NK⟩,fun w' _=>?_⟩;have h2:z < es.length:=by omega
     have bS:(Instr.indexAt t (.slice b es.length cap) (.int kd z)).run X.P w' = .ok (.pointer (some ⟨ab b,ao b + z.toNat * e,none⟩)) w':=by
      rw [hb];simp [Instr.indexAt,asIntOf,run_underlying hu,hz,h2,aV nJ,Addr.add_lit,ab,ao]
     simp only [execOp,e1,e2,Sem.run_bind,bS,Result.andThen_ok,Sem.run_pure]
    ·cases he
   ·cases he
  ·rename_i j e off n cap kd z hx hi;split at he
   ·rename_i n2 b et e' jS zz hf;split at he
    ·rename_i Jv;have Jv:e=e':=sU Jv;subst Jv;simp only [oI] at he;subst he;obtain ⟨⟨hz,h2⟩,hk⟩:=hp;refine ⟨_,hk,?_⟩;have e1:=bc h hx;have e2:=cC (bc h hi);unfold Rv at e1;obtain ⟨b,aa,hb,Zy,e1,ha⟩:=e1;have ha:=ha (by omega);subst ha;obtain ⟨hu,ii,zv,v7,_,di,_,_⟩:=fo hT hf;have nJ:iA X.P et=some e:=by rw [fO v7,di]
     refine ⟨.pointer (some ⟨b,off + z.toNat * e,none⟩),by unfold Rv;exact ⟨_,hb,rfl⟩,fun w' _=>?_⟩
     have bS:(Instr.indexAt t (.slice (some ⟨b,off,none⟩) n cap) (.int kd z)).run X.P w' = .ok (.pointer (some ⟨b,off + z.toNat * e,none⟩)) w':=by
      simp [Instr.indexAt,asIntOf,run_underlying hu,hz,h2,aV nJ,Addr.add_lit]
     simp only [execOp,e1,e2,Sem.run_bind,bS,Result.andThen_ok,Sem.run_pure]
    ·cases he
   ·cases he
  ·rename_i j off kd z hx hi;split at he
   ·rename_i n2 b n e zz hf;split at he
    all_goals
     simp only [oI] at he;subst he;obtain ⟨⟨hz,h2⟩,hk⟩:=hp;refine ⟨_,hk,?_⟩;have e1:=bc h hx;have e2:=cC (bc h hi);unfold Rv at e1;obtain ⟨b,hb,e1⟩:=e1;obtain ⟨et,hu,di⟩:=nS hT hf;refine ⟨.pointer (some ⟨b,off + z.toNat * e,none⟩),by unfold Rv;exact ⟨_,hb,rfl⟩,fun w' _=>?_⟩
     have bS:(Instr.indexAt t (.pointer (some ⟨b,off,none⟩)) (.int kd z)).run X.P w' = .ok (.pointer (some ⟨b,off + z.toNat * e,none⟩)) w':=by
      simp [Instr.indexAt,asIntOf,run_underlying hu,Instr.sureAddr,hz,h2,aV di,Addr.add_lit]
     simp only [execOp,e1,e2,Sem.run_bind,bS,Result.andThen_ok,Sem.run_pure]
   ·cases he
  ·rename_i j off kd z hx hi;split at he
   ·rename_i n2 b n e zz hf;simp only [oI] at he;subst he;obtain ⟨⟨hz,h2⟩,hk⟩:=hp;refine ⟨_,hk,?_⟩;have e1:=bc h hx;have e2:=cC (bc h hi);unfold Rv at e1;obtain ⟨b,hb,e1⟩:=e1;obtain ⟨et,hu,di⟩:=nS hT hf;refine ⟨.pointer (some ⟨b,off + z.toNat * e,none⟩),by unfold Rv;exact ⟨_,hb,rfl⟩,fun w' _=>?_⟩
    have bS:(Instr.indexAt t (.pointer (some ⟨b,off,none⟩)) (.int kd z)).run X.P w' = .ok (.pointer (some ⟨b,off + z.toNat * e,none⟩)) w':=by
     simp [Instr.indexAt,asIntOf,run_underlying hu,Instr.sureAddr,hz,h2,aV di,Addr.add_lit]
    simp only [execOp,e1,e2,Sem.run_bind,bS,Result.andThen_ok,Sem.run_pure]
   ·cases he
  ·rename_i cs off kd z hx hi;split at he
   ·rename_i n2 b n e zz hf;split at he
    ·simp only [oI] at he;subst he;obtain ⟨⟨hz,h2⟩,hk⟩:=hp;refine ⟨_,hk,?_⟩;have e1:=bc h hx;have e2:=cC (bc h hi);unfold Rv at e1;obtain ⟨b,q,e1,hb⟩:=e1;obtain ⟨et,hu,di⟩:=nS hT hf;refine ⟨.pointer (some ⟨b,q + (off + z.toNat * e),none⟩),by unfold Rv;exact ⟨_,_,rfl,hb⟩,fun w' _=>?_⟩
     have bS:(Instr.indexAt t (.pointer (some ⟨b,q + off,none⟩)) (.int kd z)).run X.P w' = .ok (.pointer (some ⟨b,q + (off + z.toNat * e),none⟩)) w':=by
      simp [Instr.indexAt,asIntOf,run_underlying hu,Instr.sureAddr,hz,h2,aV di,Addr.add_lit,Nat.add_assoc]
     simp only [execOp,e1,e2,Sem.run_bind,bS,Result.andThen_ok,Sem.run_pure]
    ·simp only [oI] at he;subst he;obtain ⟨ds,⟨⟨hz,h2⟩,SS⟩,hk⟩:=hp;subst SS;refine ⟨_,hk,?_⟩;have e1:=bc h hx;have e2:=cC (bc h hi);unfold Rv at e1;obtain ⟨b,q,e1,hb⟩:=e1;obtain ⟨et,hu,di⟩:=nS hT hf;refine ⟨.pointer (some ⟨b,q + (off + z.toNat * e),none⟩),by unfold Rv;exact ⟨b,q + (off + z.toNat * e),rfl,(hb.drop _).take _⟩,fun w' _=>?_⟩
     have bS:(Instr.indexAt t (.pointer (some ⟨b,q + off,none⟩)) (.int kd z)).run X.P w' = .ok (.pointer (some ⟨b,q + (off + z.toNat * e),none⟩)) w':=by
      simp [Instr.indexAt,asIntOf,run_underlying hu,Instr.sureAddr,hz,h2,aV di,Addr.add_lit,Nat.add_assoc]
     simp only [execOp,e1,e2,Sem.run_bind,bS,Result.andThen_ok,Sem.run_pure]
   ·cases he
  ·cases he
 case load t x=>
  split at he
  ·rename_i i off hx;split at he
   ·rename_i cs cx;simp only [oI] at he;subst he;obtain ⟨d,hy,hk⟩:=hp;refine ⟨d,hk,?_⟩;have e1:=bc h hx;unfold Rv at e1;obtain ⟨b,hb,e1⟩:=e1;obtain ⟨b',arr,ef,hc,hw⟩:=h.dY i cs cx;rw [hb] at ef;simp only [oI] at ef;subst ef;obtain ⟨v,hv,hl⟩:=mH hT hc (b:=b) (p:=0) hy;refine ⟨v,hv,fun w hC=>?_⟩;have hl:=hl w (fun j u hj=>by rw [Nat.zero_add];exact hw w (hC rfl) j u hj);rw [Nat.zero_add] at hl;simp only [execOp,e1,Sem.run_bind,Instr.loadAt,Instr.sureAddr,Sem.run_pure,Result.andThen_ok,hl]
   ·cases he
  ·cases he
 case index t x i=>
  split at he
  ·rename_i s kd z n b zz hx hi hf;simp only [oI] at he;subst he;obtain ⟨⟨h1,h2⟩,hk⟩:=hp;refine ⟨_,hk,?_⟩;have e1:=bL (bc h hx);have e2:=cC (bc h hi);have hu:=oK hT hf;have hz:z.toNat < s.size:=by omega
   refine ⟨.int .u8 (aA s z.toNat),fm rfl,fun w' _=>?_⟩
   have hr:(Instr.index t (.string s) (.int kd z)).run X.P w' = .ok (.int .u8 (aA s z.toNat)) w':=by
    have hb:s[z.toNat]? = some (s[z.toNat]'hz):=by simp [hz]
    have iW:aA s z.toNat=(s[z.toNat]'hz).toNat:=by
     simp only [aA];congr 1;have hz':z.toNat < s.data.toList.length:=sU hz;rw [nz,gE hz'];rfl
    simp [Instr.index,asIntOf,run_underlying hu,h1,hb,iW]
   simp only [execOp,e1,e2,Sem.run_bind,hr,Result.andThen_ok,Sem.run_pure]
  ·cases he
 case slice t x lo hi mx=>
  split at he
  ·cases he
  ·split at he
   ·rename_i s n b zz hx hf;split at he
    ·rename_i l g hlo sD;simp only [oI] at he;subst he;obtain ⟨⟨h1,h2,h3⟩,hk⟩:=hp;refine ⟨_,hk,?_⟩;have e1:=bL (bc h hx);have hu:=oK hT hf;refine ⟨.string (s.extract l.toNat g.toNat),fm rfl,fun w' _=>?_⟩;have eg:(g.toNat:Int)=g:=Int.toNat_of_nonneg (by omega)
     have hr:(Instr.sliceAt t (.string s) (lo.map a.eval) (hi.map a.eval) none).run X.P w' = .ok (.string (s.extract l.toNat g.toNat)) w':=by
      rw [run_sliceAt_string w' t _ _ _ _ hu]
      cases lo with
      | none=>
       simp only [bound,oI] at hlo;subst hlo
       cases hi with
       | none=>
        simp only [bound,oI] at sD;subst sD;simp [Instr.slice,run_underlying hu,Instr.sliceBounds]
       | some y=>
        obtain ⟨k,hy⟩:=dT h sD;simp [Instr.slice,run_underlying hu,Instr.sliceBounds,hy,run_sliceBound,h2,h3]
      | some z=>
       obtain ⟨k,hz⟩:=dT h hlo
       cases hi with
       | none=>
        simp only [bound,oI] at sD;subst sD;simp [Instr.slice,run_underlying hu,Instr.sliceBounds,hz,run_sliceBound,h1,h2]
       | some y=>
        obtain ⟨k',hy⟩:=dT h sD;have h0:0<=g:=by omega
        simp [Instr.slice,run_underlying hu,Instr.sliceBounds,hz,hy,run_sliceBound,h0,h1,h2,h3,eg]
     simp only [execOp,e1,Option.map_none,Sem.run_bind,hr,Result.andThen_ok,Sem.run_pure]
    ·cases he
   ·rename_i e es tk n b et e' jS zz hx hf;split at he
    ·rename_i Jv;have Jv:e=e':=sU Jv;subst Jv;split at he
     ·rename_i l g hlo sD;simp only [oI] at he;subst he;obtain ⟨⟨h1,h2,h3⟩,hk⟩:=hp;refine ⟨_,hk,?_⟩;have e1:=bc h hx;unfold Rv at e1;obtain ⟨bb,n',cap,e1,⟨rfl,B9⟩,hr,_⟩:=e1;obtain ⟨hu,ii,zv,v7,_,di,_,_⟩:=fo hT hf;have nJ:iA X.P et=some e:=by rw [fO v7,di]
      have bS:∀ w',(Instr.sliceAt t (.slice bb es.length cap) (lo.map a.eval) (hi.map a.eval) none).run X.P w' = .ok (.slice (if cap=l.toNat then bb else bb.map (·.add (l.toNat * e))) (g.toNat - l.toNat) (cap - l.toNat)) w':=by
       intro w'
       have v8:∀ x y,(Instr.sliceAt t (.slice bb es.length cap) x y none).run X.P w'=(Instr.slice t (.slice bb es.length cap) x y none).run X.P w':=by
        intro x y;simp [Instr.sliceAt,run_underlying hu]
       rw [v8];have NI:g<=(cap:Int):=by omega
       cases lo with
       | none=>
        simp only [bound,oI] at hlo;subst hlo
        cases hi with
        | none=>
         simp only [bound,oI] at sD;subst sD;simp [Instr.slice,run_underlying hu,Instr.sliceBounds,aV nJ]
        | some y=>
         obtain ⟨k,hy⟩:=dT h sD;simp [Instr.slice,run_underlying hu,Instr.sliceBounds,hy,run_sliceBound,h2,NI,aV nJ]
       | some z=>
        obtain ⟨k,hz⟩:=dT h hlo
        cases hi with
        | none=>
         simp only [bound,oI] at sD;subst sD;simp [Instr.slice,run_underlying hu,Instr.sliceBounds,hz,run_sliceBound,h1,h2,aV nJ]
        | some y=>
         obtain ⟨k',hy⟩:=dT h sD;have h0:0<=g:=by omega
         have eg:(g.toNat:Int)=g:=Int.toNat_of_nonneg h0;simp [Instr.slice,run_underlying hu,Instr.sliceBounds,hz,hy,run_sliceBound,h0,h1,h2,NI,eg,aV nJ]
      refine ⟨_,?_,fun w' _=>by simp only [execOp,e1,Option.map_none,Sem.run_bind,bS w',Result.andThen_ok,Sem.run_pure];rfl⟩;unfold Rv;have hlen:((es.take g.toNat).drop l.toNat).length=g.toNat - l.toNat:=by simp;omega
      refine ⟨_,_,_,rfl,⟨hlen.symm,by omega⟩,fun bo=>?_,fun k hk=>by cases hk⟩
      have aE:l.toNat < g.toNat:=by
       have:=List.length_pos_iff.2 bo;omega
      have Xf:es ≠ []:=by rintro rfl;simp at bo
      obtain ⟨jh,px⟩:=hr Xf;have hb:=nT jh;rw [ag (by omega),hb];refine ⟨?_,?_⟩
      ·simp [okA,Addr.add_lit]
      ·simp only [Option.map_some,Addr.add_lit,ab,ao];refine Jr fun j cs hj=>?_;rw [List.getElem?_drop,cQ] at hj;split at hj
       ·have:=px.get hj
        grind
       ·cases hj
     ·cases he
    ·cases he
   ·rename_i j off n1 b1 n2 e zz1 hx G1;split at he
    ·rename_i l g hlo sD;simp only [oI] at he;subst he;obtain ⟨⟨h1,h2,h3⟩,hk⟩:=hp;refine ⟨_,hk,?_⟩;have e1:=bc h hx;unfold Rv at e1;obtain ⟨b,hb,e1⟩:=e1;obtain ⟨et2,SV,di⟩:=nS hT G1
     have bS:∀ w',(Instr.sliceAt t (.pointer (some ⟨b,off,none⟩)) (lo.map a.eval) (hi.map a.eval) none).run X.P w' = .ok (.slice (some (if n2 - l.toNat=0 then ⟨b,off,none⟩ else (⟨b,off,none⟩:Addr).add (l.toNat * e))) (g.toNat - l.toNat) (n2 - l.toNat)) w':=by
      intro w';have hif:∀ (m:Nat) (p q:Addr),m=n2->l.toNat<=n2->(if m=l.toNat then p else q)=(if n2 - l.toNat=0 then p else q):=by grind
      rw [<- hif n2 _ _ rfl (by omega)]
      cases lo with
      | none=>
       simp only [bound,oI] at hlo;subst hlo
       cases hi with
       | none=>
        simp only [bound,oI] at sD;subst sD;simp [Instr.sliceAt,run_underlying SV,Instr.sureAddr,Instr.sliceBounds,aV di]
       | some y=>
        obtain ⟨k,hy⟩:=dT h sD;simp [Instr.sliceAt,run_underlying SV,Instr.sureAddr,Instr.sliceBounds,hy,run_sliceBound,h2,h3,aV di]
      | some z=>
       obtain ⟨k,hz⟩:=dT h hlo
       cases hi with
       | none=>
        simp only [bound,oI] at sD;subst sD;simp [Instr.sliceAt,run_underlying SV,Instr.sureAddr,Instr.sliceBounds,hz,run_sliceBound,h1,h2,aV di]
       | some y=>
        obtain ⟨k',hy⟩:=dT h sD;have h0:0<=g:=by omega
        have eg:(g.toNat:Int)=g:=Int.toNat_of_nonneg h0;simp [Instr.sliceAt,run_underlying SV,Instr.sureAddr,Instr.sliceBounds,hz,hy,run_sliceBound,h0,h1,h2,h3,eg,aV di]
     refine ⟨_,?_,fun w' _=>by simp only [execOp,e1,Option.map_none,Sem.run_bind,bS w',Result.andThen_ok,Sem.run_pure];rfl⟩;unfold Rv;refine ⟨b,_,hb,by omega,rfl,fun hc=>?_⟩;rw [ag hc,Addr.add_lit]
    ·cases he
   ·rename_i j off n b et zz hx hf;split at he
    ·rename_i n1 b1 n2 e zz1 G1;split at he
     ·rename_i l g hlo sD;simp only [oI] at he;subst he;obtain ⟨⟨h1,h2,h3⟩,hk⟩:=hp;refine ⟨_,hk,?_⟩;have e1:=bc h hx;unfold Rv at e1;obtain ⟨b,hb,e1⟩:=e1;have hu:=qT hT hf;obtain ⟨et2,SV,di⟩:=nS hT G1
      have bS:∀ w',(Instr.sliceAt t (.pointer (some ⟨b,off,none⟩)) (lo.map a.eval) (hi.map a.eval) none).run X.P w' = .ok (.slice (some (if n2=l.toNat then ⟨b,off,none⟩ else (⟨b,off,none⟩:Addr).add (l.toNat * e))) (g.toNat - l.toNat) (n2 - l.toNat)) w':=by
       intro w'
       have v8:∀ x y,(Instr.sliceAt t (.pointer (some ⟨b,off,none⟩)) x y none).run X.P w'=(Instr.slice t (.pointer (some ⟨b,off,none⟩)) x y none).run X.P w':=by
        intro x y;simp [Instr.sliceAt,run_underlying hu,Instr.sureAddr]
       rw [v8]
       cases lo with
       | none=>
        simp only [bound,oI] at hlo;subst hlo
        cases hi with
        | none=>
         simp only [bound,oI] at sD;subst sD;simp [Instr.slice,run_underlying hu,run_underlying SV,asAddr,Instr.sliceBounds,aV di]
        | some y=>
         obtain ⟨k,hy⟩:=dT h sD;simp [Instr.slice,run_underlying hu,run_underlying SV,asAddr,Instr.sliceBounds,hy,run_sliceBound,h2,h3,aV di]
       | some z=>
        obtain ⟨k,hz⟩:=dT h hlo
        cases hi with
        | none=>
         simp only [bound,oI] at sD;subst sD;simp [Instr.slice,run_underlying hu,run_underlying SV,asAddr,Instr.sliceBounds,hz,run_sliceBound,h1,h2,aV di]
        | some y=>
         obtain ⟨k',hy⟩:=dT h sD;have h0:0<=g:=by omega
         have eg:(g.toNat:Int)=g:=Int.toNat_of_nonneg h0;simp [Instr.slice,run_underlying hu,run_underlying SV,asAddr,Instr.sliceBounds,hz,hy,run_sliceBound,h0,h1,h2,h3,eg,aV di]
      refine ⟨_,?_,fun w' _=>by simp only [execOp,e1,Option.map_none,Sem.run_bind,bS w',Result.andThen_ok,Sem.run_pure];rfl⟩;unfold Rv;refine ⟨b,_,hb,by omega,rfl,fun hc=>?_⟩;rw [ag (by omega),Addr.add_lit]
     ·cases he
    ·cases he
   ·cases he
 case convert s t x=>
  split at he
  ·rename_i es tk n1 b1 et jS z1 n2 b2 z2 hx Zz hfd;split at he
   ·rename_i n3 b3 z3 NL;simp only [oI] at he;subst he;obtain ⟨bs,Xg,hk⟩:=hp;obtain ⟨hu,_⟩:=fo hT Zz;have e1:=bc h hx;unfold Rv at e1;obtain ⟨b,n',cap,e1,⟨rfl,_⟩,hr,_⟩:=e1;refine ⟨_,hk,_,fm rfl,fun w' hC=>?_⟩;simp only [execOp,e1,Sem.run_bind,Sem.run_pure,run_convert_bytes_string w' s t et b es.length cap hu (vv hT NL) (oK hT hfd)];by_cases bo:es=[]
    ·subst bo
     have:bs=[]:=by
      cases bs with
      | nil=>rfl
      | cons=>simp [u8L] at Xg
     subst this
     cases b with
     | none=>simp [Conv.bytesToString,Result.andThen];rfl
     | some ad=>
      rw [List.length_nil,run_bytesToString w' ad 0 cap [] (by simpa using run_loadCells_list (P:=X.P) (w:=w') ad [] (by simp))];simp [Result.andThen];rfl
    ·obtain ⟨jh,px⟩:=hr bo;obtain ⟨arr,ha1,Sy,SX⟩:=px.uY;have hb:=nT jh;rw [Xg] at ha1;have va:=B8 ha1.1
     have hl:=run_loadCells_list (P:=X.P) (w:=w') ⟨ab b,ao b,none⟩ arr (fun j v hj=>by
      rw [Addr.add_lit]
      exact h.cc _ _ (SX j v hj) w' (hC rfl))
     rw [Sy,Nat.mul_one,va] at hl;rw [hb,run_bytesToString w' ⟨ab b,ao b,none⟩ es.length cap _ hl,foldl_push];simp only [Result.andThen];congr 2
   ·cases he
  ·cases he
 case binOp op t x y t'=>
  split at he
  ·rename_i s u hx hy;have e1:=bL (bc h hx);have e2:=bL (bc h hy);split at he
   ·simp only [oI] at he;subst he;obtain ⟨h1,hk⟩:=hp;have hn:¬ (9223372036854775807 < (s.size:Int) + (u.size:Int)):=by omega
    exact ⟨_,hk,_,fm rfl,fun w' _=>by simp [execOp,e1,e2,eqGuard,binOp,Op.stringOp,hn]⟩
   ·cases he
  ·rename_i k1 p' k2 q hx hy;have e1:=cC (bc h hx);have e2:=cC (bc h hy);split at he
   ·simp only [oI] at he;subst he;obtain ⟨⟨rfl,h1⟩,hk⟩:=hp;exact ⟨_,hk,_,fm rfl,fun w' _=>by simp [execOp,e1,e2,eqGuard,binOp,Op.intDiv,h1]⟩
   ·simp only [oI] at he;subst he;obtain ⟨⟨rfl,h1⟩,hk⟩:=hp;exact ⟨_,hk,_,fm rfl,fun w' _=>by simp [execOp,e1,e2,eqGuard,binOp,Op.intDiv,h1]⟩
   ·simp only [oI] at he;subst he;obtain ⟨h1,hk⟩:=hp;have kL:¬ q < 0:=by omega
    exact ⟨_,hk,_,fm rfl,fun w' _=>by simp [execOp,e1,e2,eqGuard,binOp,Op.shift,kL]⟩
   ·simp only [oI] at he;subst he;obtain ⟨h1,hk⟩:=hp;have kL:¬ q < 0:=by omega
    exact ⟨_,hk,_,fm rfl,fun w' _=>by simp [execOp,e1,e2,eqGuard,binOp,Op.shift,kL]⟩
   ·cases he
  ·rename_i l l' hx hy;simp only [oI] at he;subst he;obtain ⟨b,⟨vs,vs',rfl,rfl,bS⟩,hk⟩:=hp;have e1:=bc h hx;have e2:=bc h hy;unfold Rv at e1 e2;obtain ⟨us,e1,hu,_⟩:=e1;obtain ⟨us',e2,hu',_⟩:=e2;rw [Hf hu] at e1;rw [Hf hu'] at e2;refine ⟨_,hk,_,fm rfl,fun w' _=>?_⟩;simp only [execOp,e1,e2,Sem.run_bind,(bS w').1,(bS w').2,Result.andThen_ok,Sem.run_pure]
  ·cases he
theorem lM {P:Program} {o:Oper} {K:Act->World->Prop} {Q:Exit->Act->World->Prop} {v:Value} {w w':World} (h:(execOp a.eval o).run P w = .ok (.value v) w') (hK:K (a.put o.dst v) w'):o.wp P a w K Q:=by
 unfold Oper.wp;rw [h];exact hK
theorem SY {P:Program} {o:Oper} {K:Act->World->Prop} {Q:Exit->Act->World->Prop} {w w':World} (h:(execOp a.eval o).run P w = .ok .skip w') (hK:K (a.put o.dst undef) w'):o.wp P a w K Q:=by
 unfold Oper.wp;rw [h];exact hK
theorem rvEs_flat:∀ {es:List (List DV)} {E:En} {e b o:Nat} {arr:List Value},RvC E es.flatten arr->(∀ cs∈es,cs.length=e)->(∀ (j:Nat) u,arr[j]? = some u->E.c ⟨b,o + j,none⟩=some u)->RvEs E e b o es
 | [],E,e,b,o,arr,_,_,_=>by simp only [RvEs]
 | cs :: r,E,e,b,o,arr,hc,hl,hm=>by
  simp only [RvEs];have h1:=hl cs (by simp);simp only [List.flatten_cons] at hc;have t1:=hc.take e;have t2:=hc.drop e;rw [List.take_append_of_le_length (by omega),List.take_of_length_le (by omega)] at t1;rw [List.drop_append_of_le_length (by omega),List.drop_eq_nil_of_le (by omega),List.nil_append] at t2;refine ⟨h1,BX t1 fun j u hj=>?_,rvEs_flat t2 (fun c hcm=>hl c (fA _ hcm)) fun j u hj=>?_⟩
  all_goals grind
theorem RvEs.len:∀ {es:List (List DV)} {E:En} {e b o:Nat},RvEs E e b o es->∀ cs∈es,cs.length=e
 | x :: r,E,e,b,o,h,cs,hc=>by
  simp only [RvEs] at h;rcases dM hc with rfl | hc
  ·exact h.1
  ·exact RvEs.len h.2.2 cs hc
theorem wb {d d':DV} {v:Value} (h:eraD d=some d') (hv:Rv E d v):Rv E.cl d' v:=by
 unfold eraD at h;split at h
 ·grind [Rv]
 ·simp only [oI] at h;subst h;unfold Rv at hv ⊢;obtain ⟨b,n,cap,h1,h2,h3,_⟩:=hv;exact ⟨b,n,cap,h1,h2,h3,fun k hk=>by cases hk⟩
 ·simp only [oI] at h;subst h;unfold Rv at hv ⊢;exact hv
 ·cases h
theorem p8 {γ:Type}:∀ {l:List DV} {K:List DV->Option γ} {r:γ} {vs:List Value},eraL l K=some r->RvC E l vs->∃ l',K l'=some r/\RvC E.cl l' vs/\l'.length=l.length
 | [],K,r,vs,h,hv=>by
  simp only [RvC,RvL] at hv;obtain ⟨rfl,_⟩:=hv;exact ⟨[],h,⟨cO _,by simp⟩,rfl⟩
 | d :: l,K,r,vs,h,hv=>by
  simp only [eraL] at h;split at h
  ·rename_i d' hd;obtain ⟨hv,h1⟩:=hv;simp only [RvL] at hv;obtain ⟨v,s,rfl,h2,h3⟩:=hv;obtain ⟨l',h4,h5,h6⟩:=p8 h ⟨h3,fun u hu=>h1 u (fA _ hu)⟩;exact ⟨d' :: l',h4,⟨rvL_cons (wb hd h2) h5.1,h1⟩,by simp [h6]⟩
  ·cases h
theorem p9 {C:World->Prop} (h:Rl E st.bx C st.sl a) {e:Nat} (he:0 < e):∀ {parts:List (Nat × Operand)} {i:Nat} {es:List (List DV)},litL e st parts i=some es ->
  ∃ xs vs,parts=enumF i xs/\vs=xs.map a.eval/\vs.length=es.length/\(∀ v∈vs,v.cells.toList.length=e)/\RvC E.cl es.flatten (cellsL vs)/\∀ cs∈es,cs.length=e
 | [],i,es,hl=>by
  simp only [litL,oI] at hl;subst hl;exact ⟨[],[],rfl,rfl,rfl,by simp,⟨cO _,by simp [cellsL]⟩,by simp⟩
 | (j,x) :: r,i,es,hl=>by
  simp only [litL] at hl;split at hl
  ·rename_i d l hj hx hr;split at hl
   ·rename_i hlen;have hlen:d.cells.length=e:=sU hlen;have Xh:j=i:=sU hj;subst Xh;have hv:=(bc h hx).cells (gJ hlen (by omega));obtain ⟨cs,hK,cx,fD⟩:=p8 hl hv;simp only [oI] at hK;subst hK;obtain ⟨xs,vs,h1,h2,h3,h4,h5,h6⟩:=p9 h he hr;refine ⟨x :: xs,a.eval x :: vs,by rw [h1];rfl,by rw [h2];rfl,by simp [h3],?_,by simpa [cellsL] using cx.append h5,?_⟩
    ·intro v hvm;rcases dM hvm with rfl | hvm
     ·rw [hv.1.length];exact hlen
     ·exact h4 v hvm
    all_goals grind
   ·cases hl
  ·cases hl
structure Hg (t:Option Nat) (E:En) (w:World) (E':En) (w':World):Prop where
 x:Ext E E'
 β:∃ r,E'.β=E.β ++ r
 o:∀ (i:Nat) b,E.β[i]? = some b->t≠some i->w'.heap[b]? = w.heap[b]?
def stObj (st:St):Op->Option Nat
 | .store _ x _=>
  match rv st [] x with
  | some (.loc i _)=>some i
  | some (.el i _)=>some i
  | _=>none
 | _=>none
def wq (P:Program) (o:Oper) (a:Act) (w:World) (K:Act->World->Prop):Prop:=
 match (execOp a.eval o).run P w with
 | .ok (.value v) w'=>K (a.put o.dst v) w'
 | .ok .skip w'=>K (a.put o.dst undef) w'
 | .ok (.enter f args) w'=>Calls P f args w' fun e w''=>∃ v,e = .returned v/\K (a.put o.dst v) w''
 | _=>False
theorem Jw {P:Program} {o:Oper} {a:Act} {w:World} {K:Act->World->Prop} {Q:Exit->Act->World->Prop} (h:wq P o a w K):o.wp P a w K Q:=by
 unfold wq at h;unfold Oper.wp;split at h
 ·rename_i hr;rw [hr];exact h
 ·rename_i hr;rw [hr];exact h
 ·rename_i hr;rw [hr,Oper.upon_enter];refine h.mono ?_;rintro e w' ⟨v,rfl,hk⟩;exact hk
 ·exact h.elim
theorem kM {P:Program} {o:Oper} {a:Act} {w:World} {K K':Act->World->Prop} (hk:∀ a w,K a w->K' a w) (h:wq P o a w K):wq P o a w K':=by
 unfold wq at *;split at h
 ·exact hk _ _ h
 ·exact hk _ _ h
 ·refine h.mono ?_
  grind
 ·exact h.elim
theorem ej {P:Program} {o:Oper} {K:Act->World->Prop} {v:Value} {w w':World} (h:(execOp a.eval o).run P w = .ok (.value v) w') (hK:K (a.put o.dst v) w'):wq P o a w K:=by
 unfold wq;rw [h];exact hK
theorem oO {P:Program} {o:Oper} {K:Act->World->Prop} {w w':World} (h:(execOp a.eval o).run P w = .ok .skip w') (hK:K (a.put o.dst undef) w'):wq P o a w K:=by
 unfold wq;rw [h];exact hK
theorem Hg.same (E:En) (w:World) (t:Option Nat):Hg t E w E w:=⟨Ext.refl E,⟨[],by simp⟩,fun _ _ _ _=>rfl⟩
theorem madeCells_list (z:Array Value):∀ n:Nat,(madeCells z (n * z.size)).toList=(List.replicate n z.toList).flatten
 | 0=>by simp [madeCells]
 | n + 1=>by
  have ih:=madeCells_list z n;simp only [madeCells,Array.toList_map,Array.toList_range] at ih ⊢;rw [Nat.add_mul,Nat.one_mul,List.range_add,List.map_append,ih,List.replicate_succ',List.flatten_append];congr 1;simp only [List.map_map,List.flatten_cons,List.flatten_nil,List.append_nil];apply List.ext_getElem
  ·simp
  ·intro i h1 h2;simp only [List.length_map,List.length_range] at h1;simp only [List.getElem_map,List.getElem_range,Function.comp];rw [Nat.add_comm,Nat.add_mul_mod_self_right,Nat.mod_eq_of_lt h1,getElem!_pos z i h1];simp
theorem rvC_rep {E:En} {l:List DV} {vs:List Value} (h:RvC E l vs):∀ n:Nat,RvC E (List.replicate n l).flatten (List.replicate n vs).flatten
 | 0=>⟨cO E,by simp⟩
 | n + 1=>by
  simp only [List.replicate_succ,List.flatten_cons];exact h.append (rvC_rep h n)
theorem zS (E:En) (b o:Nat):∀ n:Nat,RvEs E 0 b o (List.replicate n [])
 | 0=>by simp [RvEs]
 | n + 1=>by
  simp only [List.replicate_succ,RvEs];exact ⟨rfl,by simp only [RvAt],zS E b (o + 0) n⟩
theorem mM {G:St->Prop} {o:Oper} {p:Prop} (hd:eV X.nt st.sl o.dst=true) (h:Rel X E st a w) (dV:effC X st o G=some p) (he:p) :
  wq X.P o a w fun a' w'=>∃ st' E',G st' /\ Rel X E' st' a' w' /\ Hg (stObj st o.op) E w E' w':=by
 have hT:=X.hT;have gY:=h.rl;unfold effC at dV;split at dV
 ·rename_i p' hr;simp only [oI] at dV;subst dV;obtain ⟨y,hk,v,hv,bS⟩:=mL gY hr he;rw [oJ] at hk;exact ej (bS w fun _=>rfl) ⟨_,_,hk,bh h hd y v hv,Hg.same _ _ _⟩
 ·rename_i hnr;have bp:X.still=false:=by grind
  rw [bp] at dV;simp only at dV;clear hnr;obtain ⟨dst,op,ty,pos,after,gu⟩:=o;cases op
  case box t x=>
   simp only at dV;split at dV
   ·rename_i d t' hx;split at dV
    ·cases dV
    ·rename_i c r hc;split at dV
     ·rename_i hbt;simp only [oI] at dV;subst dV;rw [Jm] at he;have hv:=bc gY hx;have hvc:=hv.cells (DN (by rw [hc];simp));rw [hc] at hvc;refine ej (v:=.pointer (some ⟨w.heap.size,0,none⟩)) (w':=w.alloc (.cells (a.eval x).cells t)) ?_ ?_
      ·simp [execOp,Instr.box,newVar,newRow]
      ·have:=Jt h bp hd hvc t hbt;simp only [Array.toArray_toList] at this;exact ⟨_,_,he,this,oM E _,⟨_,rfl⟩,fun i b hb _=>alloc_old w _ (h.env.bm (mG hb))⟩
     ·cases dV
   ·cases dV
  case alloc t=>
   simp only at dV;split at dV
   ·rename_i n b kd z d hf;split at dV
    ·rename_i hbt;simp only [oI] at dV;subst dV;rw [Jm] at he;obtain ⟨zv,hz,Lj,hz1,_⟩:=oL hT hf;refine ej (v:=.pointer (some ⟨w.heap.size,0,none⟩)) (w':=w.alloc (.cells zv.cells t)) ?_ ?_
     ·simp [execOp,Instr.alloc,newVar,newRow,ss hz]
     ·have:=Jt h bp hd (rvC_vL (E:=E) hz1) t hbt;have e1:(List.toArray z)=zv.cells:=by apply Array.ext';simpa using Lj.symm
      simp only [e1] at this;exact ⟨_,_,he,this,oM E _,⟨_,rfl⟩,fun i b hb _=>alloc_old w _ (h.env.bm (mG hb))⟩
    ·cases dV
   ·cases dV
  case store t x y=>
   simp only at dV;split at dV
   ·rename_i i off d n hx hy hn;split at dV
    ·rename_i cs cx;simp only [oI] at dV;subst dV;cases hc:(Nat.blt 0 n && Nat.beq d.cells.length n && Nat.ble (off + n) cs.length)
     ·exact (he.f hc).elim
     ·have he:=he.t hc;simp only [bg,Nat.beq_eq,Nat.ble_eq,Nat.blt_eq] at hc;rw [oJ] at he;simp only [Jn,vu] at he;have hn:=zN hT hn;have e1:=bc gY hx;unfold Rv at e1;obtain ⟨b,hb,e1⟩:=e1;have e2:=bc gY hy;have hvc:=e2.cells (gJ hc.1.2 (by omega));obtain ⟨b',Dz,arr,ef,hw,hca⟩:=h.env.dY i cs cx;rw [hb] at ef;simp only [oI] at ef;subst ef;have ZA:arr.length=cs.length:=hca.1.length;have we:(a.eval y).cells.toList.length=n:=by rw [hvc.1.length];exact hc.1.2
      have Sz:=gV (P:=X.P) (off:=off) hw hn we (by simp;omega) (List.all_eq_true.2 hvc.2);refine oO (w':=World.c8 w b (.cells ((arr.take off ++ (a.eval y).cells.toList ++ arr.drop (off + n)).toArray) Dz (0,0))) ?_ ?_
      ·simp only [execOp,e1,Instr.storeAt,Instr.sureAddr,Sem.run_bind,Sem.run_pure,Result.andThen_ok,Sz]
      ·have dB:RvC E (cs.take off ++ d.cells ++ cs.drop (off + d.cells.length)) (arr.take off ++ (a.eval y).cells.toList ++ arr.drop (off + n)):=by
        rw [hc.1.2];exact ((hca.take off).append hvc).append (hca.drop _)
       have h1:=jT (ty:=Dz) h bp hb dB ⟨_,hw⟩;have h2:=bh h1 hd .ud undef (ub E);refine ⟨_,E,he,?_,Ext.refl E,⟨[],by simp⟩,fun i' b' ef bo=>?_⟩
       ·cases dst<;>simpa [St.put] using h2
       ·refine cS ?_;rintro rfl;refine bo ?_;simp only [stObj,hx];rw [(List.getElem?_inj (gS hb).1 h.env.inj).1 (hb.trans ef.symm)]
    ·cases dV
   ·rename_i i off d n hx hy hn;split at dV
    ·rename_i cs cx;simp only [oI] at dV;subst dV;cases hc:(Nat.blt 0 n && Nat.beq d.cells.length n)
     ·exact (he.f hc).elim
     ·obtain ⟨jk,he⟩:=he.t hc;simp only [bg,Nat.beq_eq,Nat.blt_eq] at hc;rw [oJ] at he;simp only [Jn] at he;rw [N8 _ _ _ _ (by omega)] at he;have hn:=zN hT hn;have e1:=bc gY hx;unfold Rv at e1;obtain ⟨b,hb,e1⟩:=e1;have e2:=bc gY hy;have hvc:=e2.cells (gJ hc.2 (by omega));obtain ⟨b',Dz,arr,ef,hw,hca⟩:=h.env.dY i cs cx;rw [hb] at ef;simp only [oI] at ef;subst ef;have ZA:arr.length=cs.length:=hca.1.length;have we:(a.eval y).cells.toList.length=n:=by rw [hvc.1.length];exact hc.2
      have Sz:=gV (P:=X.P) (off:=off) hw hn we (by simp;omega) (List.all_eq_true.2 hvc.2);refine oO (w':=World.c8 w b (.cells ((arr.take off ++ (a.eval y).cells.toList ++ arr.drop (off + n)).toArray) Dz (0,0))) ?_ ?_
      ·simp only [execOp,e1,Instr.storeAt,Instr.sureAddr,Sem.run_bind,Sem.run_pure,Result.andThen_ok,Sz]
      ·have dB:RvC E (cs.take off ++ d.cells ++ cs.drop (off + d.cells.length)) (arr.take off ++ (a.eval y).cells.toList ++ arr.drop (off + n)):=by
        rw [hc.2];exact ((hca.take off).append hvc).append (hca.drop _)
       have h1:=jT (ty:=Dz) h bp hb dB ⟨_,hw⟩;have h2:=bh h1 hd .ud undef (ub E);refine ⟨_,E,he,?_,Ext.refl E,⟨[],by simp⟩,fun i' b' ef bo=>?_⟩
       ·cases dst<;>simpa [St.put] using h2
       ·refine cS ?_;rintro rfl;refine bo ?_;simp only [stObj,hx];rw [(List.getElem?_inj (gS hb).1 h.env.inj).1 (hb.trans ef.symm)]
    ·cases dV
   ·cases dV
  case buildSlice t len parts=>
   simp only at dV;split at dV
   ·rename_i n b et e jS z d hf;split at dV
    ·cases dV
    split at dV
    ·rename_i es px;split at dV
     ·rename_i hc;simp only [bg,Nat.beq_eq,Nat.ble_eq,Nat.blt_eq] at hc;obtain ⟨hlen,⟨nK,DX⟩,hsm⟩:=hc;simp only [oI] at dV;subst dV;rw [oJ] at he;obtain ⟨hu,ii,zv,v7,hz,di,zh,NH⟩:=fo hT hf;obtain ⟨xs,vs,hp,va,we,fD,Xi,Hh⟩:=p9 gY DX px;subst di
      have Lj:len * ii.size≠0:=by
       have:=Nat.mul_pos nK DX;omega
      have lG:Instr.fill (fun i=>some (i * ii.size,ii.size)) ((Array.range (len * ii.size)).map (zv.cells[·% zv.cells.size]!)) (parts.map fun (i,x)=>(i,a.eval x)).toList=some (cellsL vs).toArray:=by
       have h0:=qP ii.size vs 0 ((Array.range (len * ii.size)).map (zv.cells[·% zv.cells.size]!)).toList fD (by simp [we,hlen])
       have h1:(parts.map fun (i,x)=>(i,a.eval x)).toList=enumF 0 vs:=by
        rw [Array.toList_map,hp,va,<- sw]
       rw [h1];simp only [Array.toArray_toList] at h0;rw [h0];simp [we,hlen]
      have bS:(execOp a.eval ⟨some d,.buildSlice t len parts,ty,pos,after,gu⟩).run X.P w = .ok (.value (.slice (some ⟨w.heap.size,0,none⟩) len len)) (w.alloc (.cells (cellsL vs).toArray et)):=by
       unfold execOp;simp only [Sem.run_bind,run_buildSlice w t et len _ _ ii zv hu v7 hz (by omega) Lj lG,Result.andThen_ok,Sem.run_pure]
      have hr:=sC (arr:=cellsL vs) h bp et
      have jk:∀ x v,E.c x=some v->eW E.c (w.alloc (.cells (cellsL vs).toArray et)) w.heap.size (cellsL vs).length x=some v:=fun x v hx=>by
       have aE:=World.block_lt_of_cell? w x (h.env.sub x v hx);unfold eW;rw [ag (by omega)];exact hx
      refine ej bS ⟨_,_,he,bh hr hd (.sl ii.size es none) (.slice (some ⟨w.heap.size,0,none⟩) len len) ?_,⟨jk,fun _ _ h=>h,fun k q h=>⟨q,h,.inl ⟨rfl,rfl⟩⟩⟩,⟨[],by simp⟩,fun i b hb _=>alloc_old w _ (h.env.bm (mG hb))⟩;unfold Rv;refine ⟨_,_,_,rfl,⟨hlen.symm,bn _⟩,fun bo=>⟨rfl,?_⟩,fun k hk=>by cases hk⟩
      have hm:RvC (En.cl ⟨eW E.c (w.alloc (.cells (cellsL vs).toArray et)) w.heap.size (cellsL vs).length,E.β,E.tk,E.τ⟩) es.flatten (cellsL vs):=by
       exact Xi.mono (Ext.SN (E:=E) jk)
      refine rvEs_flat hm Hh fun j u hj=>?_;show eW _ _ _ _ _=_;have jw:=(gS hj).1;simp only [ab,ao,Nat.zero_add];rw [vw jw,cJ (gI w _)];simpa using hj
     ·cases dV
    ·cases dV
   ·cases dV
  case makeSlice t l c=>
   simp only at dV;split at dV
   ·rename_i n0 b0 et e jS z0 kl n kc m d hf hl hc;split at dV
    ·rename_i sz b1 kd z G1 DX;split at dV
     ·cases dV
     ·rename_i hbt;simp only [oI] at dV;subst dV;obtain ⟨⟨rfl,h0,hb,Sr⟩,hk⟩:=he;rw [Jo] at hk;obtain ⟨hu,ii,zv,hi,hz,di,zh,NH⟩:=fo hT hf;obtain ⟨zv',hz',Lj,hz1,_⟩:=oL hT G1;have DY:zv'=zv:=by grind [zL]
      subst DY;have DX:0 < e:=sU DX;have el:=bL (bc gY hl);have ec:=bL (bc gY hc);have hr:=run_make (P:=X.P) w t et ii zv' hu hi hz kl kc n n h0 (Int.le_refl _) (by rw [zh];exact hb) (by omega);refine ej (v:=.slice (some ⟨w.heap.size,0,none⟩) n.toNat n.toNat) (w':=w.alloc (.cells (madeCells zv'.cells (n.toNat * ii.size)) et)) ?_ ?_
      ·simp only [execOp,el,ec,Sem.run_bind,Sem.run_pure,Result.andThen_ok,hr]
      ·have h1:=vX h bp (rvC_rep (rvC_vL (E:=E) hz1) n.toNat) et hbt;have e1:(List.replicate n.toNat z).flatten.toArray=madeCells zv'.cells (n.toNat * ii.size):=by grind [madeCells_list]
       rw [e1] at h1;refine ⟨_,_,hk,bh h1 hd (.ms st.bx.length e 0 n.toNat n.toNat) _ ?_,oM E _,⟨_,rfl⟩,fun i b hb _=>alloc_old w _ (h.env.bm (mG hb))⟩;unfold Rv;refine ⟨w.heap.size,_,?_,bn _,rfl,fun _=>rfl⟩;show (E.β ++ [w.heap.size])[st.bx.length]? = _;rw [List.getElem?_append_right (by rw [h.env.len];omega),h.env.len];simp
    ·cases dV
   ·cases dV
  case convert s t x=>
   simp only at dV;split at dV
   ·rename_i i off n cap n1 b1 et jS z1 n2 b2 z2 dd hx Zz hfd;split at dV
    ·rename_i cs n3 b3 z3 cx NL;simp only [oI] at dV;subst dV;obtain ⟨bs,Xg,hbl,hk⟩:=he;rw [oJ] at hk;obtain ⟨hu,_⟩:=fo hT Zz;have e1:=bc gY hx;unfold Rv at e1;obtain ⟨b,ad,hb,Zy,e1,hca⟩:=e1;obtain ⟨b',Dz,arr,ef,hw,pJ⟩:=h.env.dY i cs cx;rw [hb] at ef;simp only [oI] at ef;subst ef
     have bS:(execOp a.eval ⟨some dd,.convert s t x,ty,pos,after,gu⟩).run X.P w = .ok (.value (.string ⟨bs.toArray⟩)) w:=by
      simp only [execOp,e1,Sem.run_bind,Sem.run_pure,run_convert_bytes_string w s t et ad n cap hu (vv hT NL) (oK hT hfd)]
      have va:RvL E (u8L bs) ((arr.drop off).take n):=by
       rw [<- Xg];exact ((pJ.drop off).take n).1
      have aam:=B8 va;by_cases hn:n=0
      ·subst hn;have:bs=[]:=List.eq_nil_of_length_eq_zero hbl;subst this
       cases ad with
       | none=>simp [Conv.bytesToString,Result.andThen];rfl
       | some ad=>
        rw [run_bytesToString w ad 0 cap [] (by simpa using run_loadCells_list (P:=X.P) (w:=w) ad [] (by simp))];simp [Result.andThen];rfl
      ·have had:=hca (by omega);subst had
       have hl:=run_loadCells_list (P:=X.P) (w:=w) ⟨b,off,none⟩ ((arr.drop off).take n) (fun j v hj=>by
        rw [Addr.add_lit,cJ hw];rw [cQ] at hj;split at hj
        ·rw [List.getElem?_drop] at hj;simpa using hj
        ·cases hj)
       have hlen:((arr.drop off).take n).length=n:=by rw [aam];simpa using hbl
       rw [hlen,aam] at hl;rw [run_bytesToString w ⟨b,off,none⟩ n cap _ hl,foldl_push];simp only [Result.andThen];congr 2
     refine ej bS ⟨_,_,hk,bh h hd (.v _) _ (by unfold Rv;exact ⟨rfl,rfl⟩),Hg.same _ _ _⟩
    ·cases dV
   ·cases dV
  case call c=>
   obtain ⟨callee,args,argTypes⟩:=c;simp only at dV;split at dV
   ·split at dV
    ·rename_i s x t t' d hargs W6;have ea:args = #[s,x]:=Array.ext' (sU hargs);have et0:argTypes = #[t,t']:=Array.ext' (sU W6);subst ea et0;split at dV
     ·rename_i n b et e jS z ds e' xs tk hf htt hs hx;have htt:t=t':=sU htt;subst htt;split at dV
      ·rename_i Jv;simp only [bg,Nat.beq_eq,Nat.blt_eq] at Jv;obtain ⟨rfl,DX⟩:=Jv;obtain ⟨hu,ii,zv,v7,hz,di,zh,NH⟩:=fo hT hf;have e2:=bc gY hx;unfold Rv at e2;obtain ⟨bx,nx,Og,e2,⟨rfl,hxc⟩,hxr,_⟩:=e2;split at dV
       ·unfold appMs at dV;split at dV
        case h_2=>cases dV
        rename_i n1 b1 kd1 z G1 hbt;simp only [oI] at dV;subst dV;obtain ⟨⟨bo,nU,iW⟩,hk⟩:=he;obtain ⟨jh,Jx⟩:=hxr bo;obtain ⟨arr,ha1,Sy,SX⟩:=Jx.uY;have kN:=nT jh;have wg:0 < xs.length:=List.length_pos_iff.2 bo;obtain ⟨zv',hz',Lj,hz1,_⟩:=oL hT G1;have DY:zv'=zv:=by grind [zL]
        subst DY;have ev:=bL (bc gY hs);obtain ⟨B9,hr⟩:=vS (P:=X.P) w t ty et ii zv' e jS hu v7 hz di zh NH DX ⟨ab bx,ao bx,none⟩ xs.length Og arr Sy (fun j u hj=>by rw [Addr.add_lit];exact h.env.sub _ _ (SX j u hj)) ha1.2 wg nU iW;have hk:=hk _ B9;rw [Jo] at hk;refine ej (v:=.slice (some ⟨w.heap.size,0,none⟩) xs.length (grownCap w xs.length 0 et)) (w':=w.drew.alloc (.cells (arr.toArray ++ madeCells zv'.cells ((grownCap w xs.length 0 et - xs.length) * zv'.cells.size)) et)) ?_ ?_
        ·unfold execOp;rw [kN] at e2;simp only [resolve,invoke,builtin,Sem.run_bind,Sem.run_pure,Result.andThen_ok,List.map_toArray,List.map_cons,List.map_nil,ev,e2,hr];rfl
        ·have h1:=vX (lK h) bp ((ha1.mono (Ext.un E)).append (rvC_rep (rvC_vL (E:=E) hz1) (grownCap w xs.length 0 et - xs.length))) et (by rw [hbt];rfl);have e1:(arr ++ (List.replicate (grownCap w xs.length 0 et - xs.length) z).flatten).toArray=arr.toArray ++ madeCells zv'.cells ((grownCap w xs.length 0 et - xs.length) * zv'.cells.size):=by grind [madeCells_list]
         rw [e1] at h1;refine ⟨_,_,hk,bh h1 hd (.ms st.bx.length e 0 xs.length (grownCap w xs.length 0 et)) _ ?_,oM E _,⟨_,rfl⟩,fun i b hb _=>alloc_old w.drew _ (h.env.bm (mG hb))⟩;unfold Rv;refine ⟨w.heap.size,_,?_,B9,rfl,fun _=>rfl⟩;show (E.β ++ [w.heap.size])[st.bx.length]? = _;rw [List.getElem?_append_right (by rw [h.env.len];omega),h.env.len];simp
       split at dV
       ·rename_i hod;clear hod;simp only [oI] at dV;subst dV;unfold appOwn at he;split at he
        case h_2=>exact he.elim
        rename_i es k;split at he
        case h_2=>exact he.elim
        rename_i n Dz e' cs hq;split at he
        case h_2=>exact he.elim
        rename_i hc;simp only [bg,Nat.beq_eq] at hc;obtain ⟨rfl,rfl⟩:=hc;obtain ⟨⟨⟨hn,bo⟩,nU,iW⟩,zu⟩:=he;rw [vt] at zu;have e1:=bc gY hs;unfold Rv at e1;obtain ⟨bs,ns,lN,e1,⟨rfl,wh⟩,Vl,wi⟩:=e1;obtain ⟨q',nQ,_,Xj⟩:=wi k rfl;have kF:E.tk[k]? = some ⟨n,Dz,e',some cs⟩:=by rw [h.tk];exact hq
        rw [kF] at nQ;simp only [oI] at nQ;subst nQ;have hy:=Xj hn;rw [e1] at hy;rw [hn] at hy e1;obtain ⟨jh,Jx⟩:=hxr bo;obtain ⟨arr,ha1,Sy,SX⟩:=Jx.uY;have kN:=nT jh;have wg:0 < xs.length:=List.length_pos_iff.2 bo
        have wj:∃ cells,w.ownsRow 0 Dz e' (.slice bs n lN) n cells/\RvC E.cl cs cells:=by
         rcases h.env.c9 k _ _ kF hy with ⟨oN,tX,ho0⟩ | ⟨g0,Xk,Oh,oN,hw0,⟨q7,DZ⟩,wm,zw,iT,D0⟩
         ·have cx:=ho0 cs rfl;simp only at tX;subst cx tX;exact ⟨[],⟨by simp,.inl ⟨oN,rfl⟩⟩,cO _,by simp⟩
         ·obtain ⟨h5,h6⟩:=DZ cs rfl;exact ⟨_,⟨by rw [h6.1.length,h5],.inr ⟨g0,Xk,Oh,oN,Nat.zero_le _,hw0,wm,zw,q7,rfl⟩⟩,h6⟩
        obtain ⟨cells,dG,Xl⟩:=wj;obtain ⟨g,cap,w',hr,g2,g3,g4⟩:=jj (P:=X.P) w t ty Dz ii zv e' jS hu v7 hz di zh NH DX (.slice bs n lN) n cells dG ⟨ab bx,ao bx,none⟩ xs.length Og arr Sy (fun j u hj=>by rw [Addr.add_lit];exact h.env.sub _ _ (SX j u hj)) ha1.2 wg nU iW;have hold:∀ g0,(Value.slice bs n lN).ownBlock=some g0->g0 < w.heap.size/\g0 ∉ E.β:=fun g0 B6=>iD (h.env.c9 k _ _ kF hy) B6
        have hgβ:g ∉ E.β:=by
         rcases g4 with g4 | g4
         ·exact (hold g g4).2
         ·intro hm;have:=h.env.bm hm;omega
        have NK:DK w' E.c E.β ⟨n + xs.length,Dz,e',some (cs ++ xs.flatten)⟩ (.slice (some ⟨g,0,none⟩) (n + xs.length) cap):=by
         rcases g2.2 with ⟨hv,_⟩ | ⟨g',aaj,cur,hv,_,SP,zj,hcm,cx,htake⟩
         ·cases hv
         ·injection hv with Dy Ss hv3
          injection Dy with Dy
          injection Dy with Dy
          subst Dy hv3;refine .inr ⟨g,cap,cur,rfl,SP,⟨cx,fun cs' zR=>?_⟩,zj,hcm,hgβ,fun x u hx GZ=>?_⟩
          ·simp only [oI] at zR;subst zR;have hm:=Xl.append ha1;simp only;refine ⟨by rw [<- hm.1.length,g2.1],?_⟩;rw [htake];exact hm
          ·exfalso;have aE:=World.block_lt_of_cell? w x (h.env.sub x u hx);rcases g4 with g4 | g4
           ·rcases h.env.c9 k _ _ kF hy with ⟨oN,_⟩ | ⟨g0,Xk,Oh,oN,_,_,_,_,_,D0⟩
            ·injection oN with i1 i2 i3
             subst i1;simp [Value.ownBlock] at g4
            ·injection oN with i1 i2 i3
             subst i1;simp only [Value.ownBlock,oI] at g4;have:=D0 x u hx (GZ.trans g4.symm);simp only [TkE.kn] at this;omega
           ·rw [GZ] at aE;omega
        obtain ⟨cm,hext⟩:=B7 h bp (q':=⟨n + xs.length,Dz,e',some (cs ++ xs.flatten)⟩) kF hy rfl rfl rfl (.inr (by simp only;omega)) NK (by
         rcases g4 with g4 | g4
         ·exact .inl g4.symm
         ·refine .inr fun g0 B6=>?_;simp only [Value.ownBlock,oI] at B6
          omega) g3.os g3.tape g3.output g3.size g3.block
        have bS:(execOp a.eval ⟨some d,.call ⟨.builtin .append,#[s,x],#[t,t]⟩,ty,pos,after,gu⟩).run X.P w = .ok (.value (.slice (some ⟨g,0,none⟩) (n + xs.length) cap)) w':=by
         unfold execOp;rw [kN] at e2;simp only [resolve,invoke,builtin,Sem.run_bind,Sem.run_pure,Result.andThen_ok,List.map_toArray,List.map_cons,List.map_nil,e1,e2,hr]
        refine ej bS ⟨_,_,zu,bh cm hd (.sl 0 (List.replicate (n + xs.length) []) (some k)) _ ?_,hext,⟨[],by simp⟩,fun i b hb _=>?_⟩
        ·unfold Rv;refine ⟨_,_,_,rfl,⟨by simp,?_⟩,fun _=>⟨rfl,?_⟩,?_⟩
         ·rcases NK with ⟨hv,_⟩ | ⟨_,_,_,hv,_,_,zj,_⟩
          ·cases hv
          ·injection hv with _ _ i3
           omega
         ·exact zS _ _ _ _
         ·intro k' gU;cases gU;have DW:=(gS kF).1;have hkτ:=(gS hy).1;exact ⟨_,j5 DW,bn _,fun _=>j5 hkτ⟩
        ·refine g3.block b (h.env.bm (mG hb)) fun bN=>?_;exact (hold b bN.symm).2 (mG hb)
       rename_i hod;clear hod;simp only [oI] at dV;subst dV
       have core:∀ (kt n:Nat) (v:Value) (es:List (List DV)) (cells:List Value) (cA:List TkE) (τ':List Value),
         xs ≠ []->a.eval s=v->es.length=n->RvC E.cl es.flatten cells->(∀ cs∈es,cs.length=e)->w.ownsRow 0 et e v n cells ->
         ((∃ q,E.tk[kt]? = some q/\E.τ[kt]? = some v/\q.n=n/\q.ty=et/\q.e=e/\q.own=none)∨(E.tk[kt]? = none/\E.τ[kt]? = none/\v = .slice none 0 0/\n=0)) ->
         cA[kt]? = some ⟨n + xs.length,et,e,none⟩->(∀ j,j≠kt->cA[j]? = E.tk[j]?)->(∀ y:Value,∃ τ':List Value,τ'[kt]? = some y/\τ'.length=cA.length/\∀ j,j≠kt->τ'[j]? = E.τ[j]?) ->
         ((es.length + xs.length<=maxLen/\(es.length + xs.length) * jS <= 140737488355328)/\G ⟨(d,⟨[],.sl e (es ++ xs) (some kt)⟩) :: st.sl,st.bx,cA⟩) ->
         wq X.P ⟨some d,.call ⟨.builtin .append,#[s,x],#[t,t]⟩,ty,pos,after,gu⟩ a w fun a' w'=>∃ st' E',G st' /\ Rel X E' st' a' w' /\ Hg (stObj st (.call ⟨.builtin .append,#[s,x],#[t,t]⟩)) E w E' w':=by
        intro kt n v es cells cA _ aao SA aap Xi Hh dG hk h1 ht hτ ⟨⟨nU,iW⟩,zu⟩;obtain ⟨jh,Jx⟩:=hxr aao;obtain ⟨arr,ha1,Sy,SX⟩:=Jx.uY;have kN:=nT jh;have wg:0 < xs.length:=List.length_pos_iff.2 aao;obtain ⟨g,cap,w',hr,g2,g3,g4⟩:=jj (P:=X.P) w t ty et ii zv e jS hu v7 hz di zh NH DX v n cells dG ⟨ab bx,ao bx,none⟩ xs.length Og arr Sy (fun j u hj=>by rw [Addr.add_lit];exact h.env.sub _ _ (SX j u hj)) ha1.2 wg (by omega) (by rw [<- aap];exact iW);obtain ⟨τ',hτ1,ZB,NM⟩:=hτ (.slice (some ⟨g,0,none⟩) (n + xs.length) cap);obtain ⟨cm,hext,kO⟩:=DQ h bp hk wg DX h1 hτ1 ZB ht NM dG g2 g3 g4
        have bS:(execOp a.eval ⟨some d,.call ⟨.builtin .append,#[s,x],#[t,t]⟩,ty,pos,after,gu⟩).run X.P w = .ok (.value (.slice (some ⟨g,0,none⟩) (n + xs.length) cap)) w':=by
         unfold execOp;rw [kN] at e2;simp only [resolve,invoke,builtin,Sem.run_bind,Sem.run_pure,Result.andThen_ok,List.map_toArray,List.map_cons,List.map_nil,SA,e2,hr]
        have ZC:∀ (i:Nat) b,E.β[i]? = some b->w'.heap[b]? = w.heap[b]?:=fun i b hb=>by
         refine g3.block b (h.env.bm (mG hb)) fun bN=>?_;rcases hk with ⟨q,hq,hy,_⟩ | ⟨_,_,rfl,_⟩
         ·exact (iD (h.env.c9 kt q v hq hy) bN.symm).2 (mG hb)
         ·simp [Value.ownBlock] at bN
        refine ej bS ⟨_,_,zu,bh cm hd (.sl e (es ++ xs) (some kt)) _ ?_,hext,⟨[],by simp⟩,fun i b hb _=>ZC i b hb⟩;unfold Rv;refine ⟨_,_,_,rfl,⟨by simp [aap],?_⟩,fun _=>⟨rfl,?_⟩,?_⟩
        ·rcases g2.2 with ⟨hv,_⟩ | ⟨_,_,_,hv,_,_,zj,_⟩
         ·cases hv
         ·injection hv with _ _ i3
          omega
        ·have hm:=(Xi.append ha1).mono hext.cl;rw [<- List.flatten_append] at hm;refine rvEs_flat hm (fun cs hcm=>?_) fun j u hj=>?_
         ·rcases List.mem_append.1 hcm with hcm | hcm
          ·exact Hh cs hcm
          ·exact Jx.len cs hcm
         ·simp only [ab,ao,Nat.zero_add];exact kO j u hj
        ·intro k' gU;cases gU;exact ⟨_,h1,bn _,fun _=>hτ1⟩
       unfold appTo at he;split at he
       ·rw [vq] at he;have e1:=bL (bc gY hs);by_cases Oi:xs=[]
        ·subst Oi;obtain ⟨_,zu⟩:=he
         have bS:(execOp a.eval ⟨some d,.call ⟨.builtin .append,#[s,x],#[t,t]⟩,ty,pos,after,gu⟩).run X.P w = .ok (.value (.slice none 0 0)) w:=by
          unfold execOp;simp only [resolve,invoke,builtin,Sem.run_bind,Sem.run_pure,Result.andThen_ok,List.map_toArray,List.map_cons,List.map_nil,e1,e2,List.length_nil,nA w t ty et ii hu v7 none bx 0 0 Og (bn _)]
         obtain ⟨cm,hext⟩:=Hb h ⟨([]:List (List DV)).length,et,e,none⟩ rfl;refine ej bS ⟨_,_,zu,bh cm hd (.sl e ([] ++ []) (some st.tk.length)) _ ?_,hext,⟨[],by simp⟩,fun i b hb _=>rfl⟩;unfold Rv;refine ⟨none,0,0,rfl,⟨rfl,bn _⟩,fun hn=>(hn rfl).elim,fun k' gU=>?_⟩;cases gU;refine ⟨⟨0,et,e,none⟩,?_,bn _,fun _=>?_⟩
         ·show (E.tk ++ _)[st.tk.length]? = _;rw [h.tk];simp
         ·show (E.τ ++ _)[st.tk.length]? = _;rw [<- h.tk,<- h.env.tl];simp
        refine core st.tk.length 0 _ [] [] _ [] Oi e1 rfl ⟨cO _,by simp⟩ (by simp) ⟨by simp,.inl ⟨rfl,rfl⟩⟩ (.inr ?_) ?_ ?_ ?_ he
        ·rw [<- h.tk];exact ⟨by simp,by simp [<- h.env.tl],rfl,rfl⟩
        ·simp
        ·intro j hj;rw [h.tk];rcases Nat.lt_or_ge j st.tk.length with h1 | h1
         ·rw [ei h1]
         ·grind
        ·intro y;refine ⟨E.τ ++ [y],?_,by simp [h.env.tl,h.tk],fun j hj=>?_⟩
         ·rw [List.getElem?_append_right (by rw [h.env.tl,h.tk];omega),h.env.tl,h.tk];simp
         ·rcases Nat.lt_or_ge j E.τ.length with h1 | h1
          ·rw [ei h1]
          ·rw [List.getElem?_append_right h1,zK (l:=E.τ) h1];have:=h.env.tl;rw [h.tk] at this;exact zK (by simp;omega)
       ·rename_i e' es k;split at he
        ·rename_i q hq;split at he
         ·rename_i hc;simp only [bg,Nat.beq_eq] at hc;obtain ⟨⟨⟨rfl,Sw⟩,Oe⟩,NJ⟩:=hc;have NJ:q.own=none:=sU NJ;obtain ⟨hn,he⟩:=he;rw [vt] at he;have e1:=bc gY hs;unfold Rv at e1;obtain ⟨bs,ns,lN,e1,⟨rfl,wh⟩,Vl,wi⟩:=e1;obtain ⟨q',nQ,_,Xj⟩:=wi k rfl;have kF:E.tk[k]? = some q:=by rw [h.tk];exact hq
          rw [kF] at nQ;simp only [oI] at nQ;subst nQ;have hy:=Xj hn;rw [e1] at hy;have aar:=(gS hq).1
          have hτ0:∀ y:Value,∃ τ':List Value,τ'[k]? = some y/\τ'.length=(st.tk.set k ⟨q.n + xs.length,et,e',none⟩).length/\∀ j,j≠k->τ'[j]? = E.τ[j]?:=by
           intro y;refine ⟨E.τ.set k y,?_,by simp [h.env.tl,h.tk],fun j hj=>List.getElem?_set_ne (Ne.symm hj)⟩;rw [j5];rw [h.env.tl,h.tk];exact aar
          have kL:(st.tk.set k ⟨q.n + xs.length,et,e',none⟩)[k]? = some ⟨es.length + xs.length,et,e',none⟩:=by rw [j5 aar,hn]
          have si:∀ j,j≠k->(st.tk.set k ⟨q.n + xs.length,et,e',none⟩)[j]? = E.tk[j]?:=fun j hj=>by rw [List.getElem?_set_ne (Ne.symm hj),h.tk]
          by_cases Oi:xs=[]
          ·subst Oi;obtain ⟨_,zu⟩:=he
           have bS:(execOp a.eval ⟨some d,.call ⟨.builtin .append,#[s,x],#[t,t]⟩,ty,pos,after,gu⟩).run X.P w = .ok (.value (.slice bs es.length lN)) w:=by
            unfold execOp;simp only [resolve,invoke,builtin,Sem.run_bind,Sem.run_pure,Result.andThen_ok,List.map_toArray,List.map_cons,List.map_nil,e1,e2,List.length_nil,nA w t ty et ii hu v7 bs bx es.length lN Og wh]
           have Xm:st.tk.set k ⟨q.n + ([]:List (List DV)).length,et,e',none⟩=st.tk:=by
            have hqe':(⟨q.n + ([]:List (List DV)).length,et,e',none⟩:TkE)=q:=by
             obtain ⟨qn,qt,qe,qo⟩:=q;simp only at Sw Oe NJ;rw [Sw,Oe,NJ];all_goals rfl
            rw [hqe'];apply List.ext_getElem?;intro j;by_cases hj:j=k
            ·grind
            ·rw [List.getElem?_set_ne (Ne.symm hj)]
           rw [Xm] at zu;refine ej bS ⟨_,_,zu,bh h hd (.sl e' (es ++ []) (some k)) _ ?_,Ext.refl E,⟨[],by simp⟩,fun i b hb _=>rfl⟩;rw [List.append_nil];unfold Rv;exact ⟨bs,_,lN,rfl,⟨rfl,wh⟩,Vl,fun k' gU=>by cases gU;exact ⟨q,kF,by omega,fun _=>hy⟩⟩
          rcases h.env.c9 k q _ kF hy with ⟨oN,tX⟩ | ⟨g0,Xk,Oh,oN,hw0,q7,wm,zw,iT,D0⟩
          ·have px:es=[]:=List.eq_nil_of_length_eq_zero (by omega);subst px;injection oN with i1 i2 i3
           subst i1 i3;exact core k 0 _ [] [] _ [] Oi e1 rfl ⟨cO _,by simp⟩ (by simp) ⟨by simp,.inl ⟨rfl,rfl⟩⟩ (.inl ⟨q,kF,hy,by omega,Sw,Oe,NJ⟩) kL si hτ0 he
          ·injection oN with i1 i2 i3
           subst i1 i3;by_cases bo:es=[]
           ·subst bo;refine core k 0 _ [] [] _ [] Oi e1 rfl ⟨cO _,by simp⟩ (by simp) ⟨by simp,.inr ⟨g0,lN,Oh,rfl,Nat.zero_le _,by rw [hw0,Sw],Nat.zero_le _,zw,by rw [q7.1,Oe],by simp⟩⟩ (.inl ⟨q,kF,hy,hn.symm,Sw,Oe,NJ⟩) kL si hτ0 he
           ·obtain ⟨_,SZ⟩:=Vl bo;obtain ⟨Lo,nU,iW,Jy⟩:=SZ.uY;refine core k es.length _ es Lo _ [] Oi e1 rfl nU SZ.len ⟨iW,.inr ⟨g0,lN,Oh,rfl,Nat.zero_le _,by rw [hw0,Sw],by omega,zw,by rw [q7.1,Oe],?_⟩⟩ (.inl ⟨q,kF,hy,hn.symm,Sw,Oe,NJ⟩) kL si hτ0 he;apply List.ext_getElem?;intro j;rcases Nat.lt_or_ge j Lo.length with hj | hj
            ·have h5:=h.env.sub _ _ (Jy j _ (gE hj));simp only [ab,ao,Nat.zero_add] at h5;rw [cJ hw0] at h5;rw [cQ,ah (by omega),gE hj];simpa using h5
            ·grind
         ·exact he.elim
        ·exact he.elim
       ·exact he.elim
      ·cases dV
     ·cases dV
    ·cases dV
   ·cases dV
  all_goals (simp only at dV;cases dV)
theorem zT {G:List It->St->Prop} (hG:Snd X G) {o:Oper} {k:List It} (hd:eV X.nt st.sl o.dst=true) (h:Rel X E st a w) (he:eff X G o k st) :
  o.wp X.P a w (kq X k .normal) (fun _ _ _=>False):=by
 have gY:=h.rl;unfold eff at he;split at he
 ·rename_i p hp;refine Jw (kM ?_ (mM hd h hp he));rintro a' w' ⟨st',E',hg,hr,_⟩;exact hG _ _ hg _ _ _ hr
 ·rename_i aas;clear aas;obtain ⟨dst,op,ty,pos,after,gu⟩:=o;cases op
  case call c=>
   obtain ⟨callee,args,argTypes⟩:=c;simp only at he;split at he
   ·rename_i f;split at he
    ·rename_i g first captured l hf hl
     obtain ⟨gh,_,he⟩:=he;have e1:=bc gY hf;unfold Rv at e1;obtain ⟨l1,r1,e1,py,hr1⟩:=e1;have hargs:=gz gY (aX _) _ _ hl;have hc:=he E a w _ h ((py.append hargs).append hr1)
     have hr:(execOp a.eval ⟨dst,.call ⟨.value f,args,argTypes⟩,ty,pos,after,gu⟩).run X.P w = .ok (.enter g (l1 ++ args.toList.map a.eval ++ r1).toArray) w:=by
      have e3:(l1.toArray ++ args.map a.eval ++ r1.toArray)=(l1 ++ args.toList.map a.eval ++ r1).toArray:=by apply Array.ext';simp
      simp only [execOp,resolve,e1,Deferred.ofValue,Sem.run_bind,Sem.run_pure,Result.andThen_ok,invoke,e3];exact gh _ _
     unfold Oper.wp;rw [hr,Oper.upon_enter];refine hc.mono ?_
     grind
    ·exact he.elim
   ·exact he E a w h
  all_goals (simp only at he;exact he E a w h)
end
end Dv
end Go.Proofs.YtfdedoiiahbnnaaGreat
