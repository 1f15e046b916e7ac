/- Part 1 of the proof: General laws: sizes, fields, stores into a block, append onto a row of one's own; The symbolic evaluator 'Dv', its definitions: data that stand for Go values (slices by their content), what they mean in memory, a state, and 'go', which says as a proposition what is left to be shown; What data mean: laws of the relation between data and values; the table of types; The evaluator's pure operations are sound; The evaluator 'go' is sound: how a state goes on when a temporary is written, an object is made or written, a row grows; The evaluator 'go' is sound: each operation; the end of a call. No condition. -/
import Derived.WalkKit
import Derived.Deep.QuietTactic
import Derived.Shelf.Abstract
import Derived.Laws.AppendOwn
import Derived.Still
import Derived.IntWalk
import Derived.Deep.Draws
import Derived.Great.BuildSlice
import Derived.Laws.MakeOwn
import Derived.Laws.BytesString
set_option linter.all false
namespace Go.Proofs.YtfdedoiiahbnnaaGreat
theorem gE {α : Type _} {l : List α} {i : Nat} (h : i < l.length) : l[i]? = some l[i] := List.getElem?_eq_getElem h
theorem oI {α : Type _} (a b : α) : (some a = some b) = (a = b) := Option.some.injEq a b
theorem nL {n m : Nat} (h : Nat.ble n m = true) : n <= m := Nat.le_of_ble_eq_true h
theorem mG {α : Type _} {l : List α} {i : Nat} {a : α} (h : l[i]? = some a) : a ∈ l := List.mem_of_getElem? h
theorem gS {α : Type _} {l : List α} {i : Nat} {a : α} (h : l[i]? = some a) : ∃ h : i < l.length, l[i] = a := List.getElem?_eq_some_iff.1 h
theorem rE {α:Type _} {A B:α->Prop} {s:α} (h:B s) (w:A s):∃ s,A s/\B s:=⟨s,w,h⟩
theorem gX {α:Type _} {l:List α} {i:Nat} (h:i < l.length):∃ x,l[i]? = some x:=⟨_,List.getElem?_eq_getElem h⟩
theorem sU {p q:Prop} (h:p) (e:p->q:=by intro h;simpa using h):q:=e h
theorem sV {p q r:Prop} (x:r) (h:p) (e:r->p->q:=by intro x h;simpa [x] using h):q:=e x h
theorem sW {p q r:Prop} (x:r) (h:p) (e:r->p->q:=by intro x h;simp [x] at h;omega):q:=e x h
theorem ah {c:Prop} {h:Decidable c} (k:¬c) {α:Sort _} {t e:α}:(if c then t else e)=e:=if_neg k
theorem zIfP {c:Prop} {h:Decidable c} (k:c) {α:Sort _} {t e:α}:(if c then t else e)=t:=if_pos k
theorem bA (a b:Bool):((a && b)=true)=(a=true/\b=true):=Bool.and_eq_true a b
theorem dz {α:Type _} {l:List α} {i:Nat} {a:α}:l.getD i a=l[i]?.getD a:=List.getD_eq_getElem?_getD
theorem zLeR (n:Nat):n<=n:=Nat.le_refl n
theorem dF {α:Type _} {l m:List α} {i:Nat} (h:i < l.length):(l ++ m)[i]? = l[i]?:=List.getElem?_append_left h
theorem ka {m n:Nat} (h:m < n.succ):m < n∨m=n:=Nat.lt_succ_iff_lt_or_eq.1 h
theorem sG (n:Nat):((n:Int)).toNat=n:=Int.toNat_natCast n
theorem wJ (n:Nat):0<=(n:Int):=Int.natCast_nonneg n
theorem fT {α:Type _} {l:List α} {i:Nat} {a:α} (h:i < l.length):(l.set i a)[i]? = some a:=List.getElem?_set_self h
theorem td {α:Type _} {l:List α} {i:Nat} (h:l.length<=i):l[i]? = none:=List.getElem?_eq_none h
theorem bM {α:Type _} {l:List α} {i j:Nat}:(List.take i l)[j]? = if j < i then l[j]? else none:=List.getElem?_take
theorem cY {α:Type _} {b:α} {l:List α} {a:α} (h:a ∈ b :: l):a=b∨a ∈ l:=List.mem_cons.1 h
theorem gA {α:Type _} (y:α) {a:α} {l:List α} (h:a ∈ l):a ∈ y :: l:=List.mem_cons_of_mem y h
theorem eP {α:Type _} {i:Nat} {l:List α}:(List.take i l).length=min i l.length:=List.length_take
end Go.Proofs.YtfdedoiiahbnnaaGreat
namespace Go.Proofs.YtfdedoiiahbnnaaGreat
namespace Dv
open Go Go.RowKit
def fU (P:Program) (t:TypeId):Option Nat:=(P.info? t).map (·.size)
def tf (P:Program) (t:TypeId):Option Value:=(P.info? t).bind (·.zero)
def aggOf (P:Program) (t:TypeId):Option Bool:=
 match P.underlying t with
 | some (.struct _)=>some true
 | some (.array _ _)=>some true
 | some _=>some false
 | none=>none
def offOf (P:Program) (s:TypeId) (f:Nat):Option (Nat × TypeId):=
 match P.underlying s with
 | some (.struct fs)=>
  match fs[f]? with
  | some x=>if fU P x.type=some 0∨fU P x.type=none then none else some (x.offset,x.type)
  | none=>none
 | _=>none
def arrOf (P:Program) (t:TypeId):Option (Nat × Nat):=
 match P.underlying t with
 | some (.array n e)=>(fU P e).map fun s=>(n,s)
 | _=>none
def bitsOf (op:BinOp) (k:IntKind) (x y:Int):Option Int:=
 let a:=BitVec.ofInt k.bits x
 let b:=BitVec.ofInt k.bits y
 match op with
 | .and=>some (k.wrap (a &&& b).toNat)
 | .or=>some (k.wrap (a ||| b).toNat)
 | .xor=>some (k.wrap (a ^^^ b).toNat)
 | .andNot=>some (k.wrap (a &&& ~~~b).toNat)
 | _=>none
def binI (op:BinOp) (k:IntKind) (a b:Int):Option Value:=
 match op with
 | .add=>some (.int k (k.wrap (a + b)))
 | .sub=>some (.int k (k.wrap (a - b)))
 | .mul=>some (.int k (k.wrap (a * b)))
 | .eql=>some (.bool (decide (a=b)))
 | .neq=>some (.bool (!decide (a=b)))
 | .lss=>some (.bool (decide (a < b)))
 | .leq=>some (.bool (decide (a<=b)))
 | .gtr=>some (.bool (decide (b < a)))
 | .geq=>some (.bool (decide (b<=a)))
 | .and=>(bitsOf .and k a b).map (.int k)
 | .or=>(bitsOf .or k a b).map (.int k)
 | .xor=>(bitsOf .xor k a b).map (.int k)
 | .andNot=>(bitsOf .andNot k a b).map (.int k)
 | _=>none
def binS (op:BinOp) (a b:ByteArray):Option Value:=
 match op with
 | .eql=>some (.bool (decide (a=b)))
 | .neq=>some (.bool (!decide (a=b)))
 | .lss=>some (.bool (Op.bytesLess a.data.toList b.data.toList))
 | .geq=>some (.bool (!Op.bytesLess a.data.toList b.data.toList))
 | _=>none
def pickB (x a b:Bool):Bool:=
 match x with
 | true=>a
 | false=>b
def bq (s:ByteArray) (k:Nat):Nat:=((s.data.toList.getD k 0)).toNat
abbrev Br (b:Bool) (A B:Prop):Prop:=@Bool.rec (fun _=>Prop) B A b
theorem Br.t {b:Bool} {A B:Prop} (h:Br b A B) (hb:b=true):A:=by subst hb;exact h
theorem Br.f {b:Bool} {A B:Prop} (h:Br b A B) (hb:b=false):B:=by subst hb;exact h
theorem mq {π:Nat->Nat}:∀ {l:List Nat},l.Pairwise (fun a b=>π a < π b)->l.Nodup
 | [],_=>List.nodup_nil
 | x :: r,h=>by
  rw [List.pairwise_cons] at h;rw [List.nodup_cons];exact ⟨fun hm=>Nat.lt_irrefl _ (h.1 x hm),mq h.2⟩
def gslot (all:List Oper) (j:Nat):Option Nat:=
 match all[j]? with
 | some oj=>oj.dst
 | none=>none
def okA:Option Addr->Prop
 | some a=>a.spot=none
 | none=>False
def ab:Option Addr->Nat
 | some a=>a.block
 | none=>0
def ao:Option Addr->Nat
 | some a=>a.off
 | none=>0
section
variable {P:Program}
theorem aG {t:TypeId} {n:Nat} (h:fU P t=some n) (w:World):(sizeOf t).run P w = .ok n w:=by
 unfold fU at h
 cases hi:P.info? t with
 | none=>simp [hi] at h
 | some i=>simp only [hi,Option.map_some,oI] at h;subst h;simp [sizeOf,typeInfo,hi]
theorem nK {t:TypeId} {z:Value} (h:tf P t=some z) (w:World):(zeroValue t).run P w = .ok z w:=by
 unfold tf at h
 cases hi:P.info? t with
 | none=>simp [hi] at h
 | some i=>
  simp only [hi,Option.bind_some] at h;simp [zeroValue,typeInfo,hi,h]
theorem gV {t:TypeId} {b:Bool} (h:aggOf P t=some b) (w:World):(isAgg t).run P w = .ok b w:=by
 unfold aggOf at h
 cases hd:P.underlying t with
 | none=>simp [hd] at h
 | some d=>
  simp only [hd] at h;cases d<;>simp at h<;>subst h<;>simp [isAgg,run_underlying hd]
theorem mr {s:TypeId} {f o:Nat} {ft:TypeId} (h:offOf P s f=some (o,ft)) :
  ∃ fs x n,P.underlying s=some (.struct fs)/\fs[f]? = some x/\x.offset=o/\x.type=ft/\fU P ft=some n/\n≠0:=by
 unfold offOf at h
 cases hd:P.underlying s with
 | none=>simp [hd] at h
 | some d=>
  cases d<;>simp only [hd] at h<;>try (cases h;done)
  rename_i fs
  cases hf:fs[f]? with
  | none=>simp [hf] at h
  | some x=>
   simp only [hf] at h;split at h
   ·simp at h
   ·rename_i bi;simp only [oI,Prod.mk.injEq] at h
    cases hs:fU P x.type with
    | none=>simp [hs] at bi
    | some n=>grind
theorem jw {op:BinOp} {k:IntKind} {x y n:Int} (h:bitsOf op k x y=some n) (w:World):(Op.intBits op k x y).run P w = .ok (.int k n) w:=by
 cases op<;>simp [bitsOf] at h<;>subst h<;>simp [Op.intBits]
theorem EC {op:BinOp} {k:IntKind} {x y:Int} {v:Value} (h:binI op k x y=some v) (t:TypeId) (w:World) :
  (binOp op t (.int k x) (.int k y)).run P w = .ok v w:=by
 cases op<;>simp [binI] at h
 case and=>obtain ⟨n,hn,rfl⟩:=h;rw [binOp_and];exact jw hn w
 case or=>obtain ⟨n,hn,rfl⟩:=h;rw [binOp_or];exact jw hn w
 case xor=>obtain ⟨n,hn,rfl⟩:=h;rw [binOp_xor];exact jw hn w
 case andNot=>obtain ⟨n,hn,rfl⟩:=h;rw [binOp_andNot];exact jw hn w
 all_goals (subst h;simp [binOp,Op.intArith,Op.intCmp,bne,BEq.beq,GT.gt,GE.ge])
theorem u0 {t:TypeId} (hu:P.underlying t=some .bool) (d:Nat) (x y:Bool) (w:World):(Op.equalIn (d + 1) t (.bool x) (.bool y)).run P w = .ok (x == y) w:=by
 simp [Op.equalIn,run_underlying hu]
theorem wK {t e:TypeId} (hu:P.underlying t=some (.pointer e)) (d:Nat) (x:Option Addr) (w:World):(Op.equalIn (d + 1) t (.pointer x) (.pointer none)).run P w = .ok x.isNone w:=by
 cases x<;>simp [Op.equalIn,run_underlying hu]
theorem zi {t:TypeId} (hu:P.underlying t=some .bool) (x y:Bool) (w:World):(Op.equal t (.bool x) (.bool y)).run P w = .ok (x == y) w:=u0 hu 9999 x y w
theorem nM {t e:TypeId} (hu:P.underlying t=some (.pointer e)) (x:Option Addr) (w:World):(Op.equal t (.pointer x) (.pointer none)).run P w = .ok x.isNone w:=wK hu 9999 x w
theorem H5 (x y:ByteArray):(x.data == y.data)=decide (x=y):=by
 rw [Bool.eq_iff_iff];cases x;cases y;simp
theorem ED {op:BinOp} {x y:ByteArray} {v:Value} (h:binS op x y=some v) (t:TypeId) (w:World) :
  (binOp op t (.string x) (.string y)).run P w = .ok v w:=by
 cases op<;>simp [binS] at h<;>subst h<;>simp [binOp,Op.stringOp,ByteArray.toList_eq,H5]
theorem gF {s:TypeId} {f o:Nat} {ft:TypeId} (h:offOf P s f=some (o,ft)) (b p:Nat) (w:World) :
  (Instr.fieldAt s (.pointer (some ⟨b,p,none⟩)) f).run P w = .ok (.pointer (some ⟨b,p + o,none⟩)) w:=by
 obtain ⟨fs,x,n,hu,hf,ho,ht,hs,hn⟩:=mr h;subst ho ht;simp [Instr.fieldAt,run_underlying hu,hf,Instr.sureAddr,fieldPlace,aG hs,hn,Addr.add_lit]
end
theorem tg (off:Nat):∀ (l:List Value) (k:Nat) (cs:Array Value),off + k + l.length<=cs.size ->
  ((l.zipIdx k).foldl (fun cs (x:Value × Nat)=>cs.setIfInBounds (off + x.2) x.1) cs).toList=cs.toList.take (off + k) ++ l ++ cs.toList.drop (off + k + l.length)
 | [],k,cs,_=>by simp
 | c :: l,k,cs,h=>by
  have h':off + k + 1 + l.length<=cs.size:=by simp only [List.length_cons] at h;omega
  have ih:=tg off l (k + 1) (cs.setIfInBounds (off + k) c) (by simp;omega);simp only [List.zipIdx_cons,List.foldl_cons];rw [ih];simp only [Array.toList_setIfInBounds,List.length_cons]
  have e1:(cs.toList.set (off + k) c).take (off + (k + 1))=cs.toList.take (off + k) ++ [c]:=by
   rw [show off + (k + 1)=off + k + 1 by omega,List.take_add_one];simp only [List.getElem?_set_self',Array.getElem?_toList];have:(cs[off + k]?)=some (cs[off + k]'(by omega)):=Array.getElem?_eq_getElem (by omega);simp [this,List.take_set_of_le]
  have e2:(cs.toList.set (off + k) c).drop (off + (k + 1) + l.length)=cs.toList.drop (off + k + (l.length + 1)):=by
   rw [List.drop_set_of_lt (by omega)];congr 1;omega
  rw [e1,e2];simp
theorem lG (off:Nat) (v:Value) (cs:Array Value) (h:off + v.cells.toList.length<=cs.toList.length) :
  v.cells.zipIdx.foldl (fun cs (x:Value × Nat)=>cs.setIfInBounds (off + x.2) x.1) cs=(cs.toList.take off ++ v.cells.toList ++ cs.toList.drop (off + v.cells.toList.length)).toArray:=by
 apply Array.ext';have:=tg off v.cells.toList 0 cs (sU h);rw [<- Array.foldl_toList];simpa using this
section
variable {P:Program} {w:World}
theorem qj:∀ (l:List Field),l.all (fun f=>(fU P f.type).isSome)=true ->
  (l.mapM fun f=>(do pure (f.offset,<- sizeOf f.type):Sem (Nat × Nat))).run P w = .ok (l.map fun f=>(f.offset,(fU P f.type).getD 0)) w
 | [],_=>rfl
 | f :: l,h=>by
  simp only [List.all_cons,bA] at h;obtain ⟨n,hn⟩:=Option.isSome_iff_exists.1 h.1;have ih:=qj l h.2;simp only [List.mapM_cons,Sem.run_bind,aG hn,Result.andThen_ok,Sem.run_pure,ih,hn,List.map_cons,Option.getD_some]
theorem nN {t ty e:TypeId} (ht:P.underlying t=some (.slice e)) (b:Option Addr) (n c:Nat):(Builtin.len_ #[t] ty #[.slice b n c]).run P w = .ok (.int .i64 n) w:=by
 simp [Builtin.len_,run_underlying ht,goInt]
theorem wM {t ty:TypeId} (ht:P.underlying t=some .string) (s:ByteArray):(Builtin.len_ #[t] ty #[.string s]).run P w = .ok (.int .i64 s.size) w:=by
 simp [Builtin.len_,run_underlying ht,goInt]
end
theorem gK (w:World) (o:Obj):(w.alloc o).heap[w.heap.size]? = some o:=by
 show (w.heap.push o)[w.heap.size]? = some o;simp
def World.cS (w:World) (b:Nat) (o:Obj):World:={ w with heap:=w.heap.setIfInBounds b o }
theorem cI {w:World} {b:Nat} {o:Obj} (h:w.heap[b]? = some o):b < w.heap.size:=(Array.getElem?_eq_some_iff.1 h).1
theorem fV {w:World} {b:Nat} {o o':Obj} (h:w.heap[b]? = some o):(World.cS w b o').heap[b]? = some o':=by grind [cI,World.cS]
theorem cx {w:World} {b k:Nat} {o:Obj} (h:k≠b):(World.cS w b o).heap[k]? = w.heap[k]?:=by grind [World.cS]
theorem eJ {w:World} {b:Nat} {o:Obj}:(World.cS w b o).heap.size=w.heap.size:=by simp [World.cS]
theorem qk {w:World} {b:Nat} {cur:Array Value} {ty:TypeId} {fz:Nat × Nat} (h:w.heap[b]? = some (.cells cur ty fz)) (o:Nat) (v:Value) :
  w.setCell ⟨b,o,none⟩ v=World.cS w b (.cells (cur.setIfInBounds o v) ty fz):=by
 have hb:=cI h;have hg:w.heap[b] = .cells cur ty fz:=by simpa [Array.getElem?_eq_getElem hb] using h
 simp only [World.setCell,World.cS];congr 1;apply Array.ext
 ·simp
 ·grind
theorem bX {w:World} {b:Nat} {cur:Array Value} {ty:TypeId} {fz:Nat × Nat} (h:w.heap[b]? = some (.cells cur ty fz)) (o:Nat):w.cell? ⟨b,o,none⟩=cur[o]?:=by
 simp [World.cell?,h]
theorem kb {P:Program} {b off:Nat} {ty:TypeId}:∀ (l:List Value) (i:Nat) (cur:Array Value) (w:World),w.heap[b]? = some (.cells cur ty (0,0))->off + i + l.length<=cur.size ->
  l.all Value.oneCell'=true ->
  (storeCells ⟨b,off,none⟩ l i).run P w = .ok () (World.cS w b (.cells (cur.toList.take (off + i) ++ l ++ cur.toList.drop (off + i + l.length)).toArray ty (0,0)))
 | [],i,cur,w,hw,_,_=>by
  simp only [storeCells,Sem.run_pure,List.append_nil,List.length_nil,Nat.add_zero,List.take_append_drop,Array.toArray_toList,Result.ok.injEq,true_and];have hb:=cI hw;have hg:w.heap[b] = .cells cur ty (0,0):=by simpa [Array.getElem?_eq_getElem hb] using hw
  simp only [World.cS];rw [<- hg];simp [Array.setIfInBounds,hb]
 | v :: l,i,cur,w,hw,hl,ho=>by
  simp only [List.length_cons] at hl;simp only [List.all_cons,bA] at ho;have hc:w.cell? ⟨b,off + i,none⟩=some (cur[off + i]'(by omega)):=by rw [bX hw];exact Array.getElem?_eq_getElem (by omega)
  have hf:w.frozen? ⟨b,off + i,none⟩=false:=by simp [World.frozen?,hw]
  have hs:=qk hw (off + i) v;have ih:=kb (P:=P) (b:=b) (off:=off) (ty:=ty) l (i + 1) (cur.setIfInBounds (off + i) v) (w.setCell ⟨b,off + i,none⟩ v) (by rw [hs];exact fV hw) (by simp;omega) ho.2;simp only [storeCells,Sem.run_bind,Addr.add_lit];rw [run_store P w _ v .plain ho.1,hc];simp only [hf,Bool.false_eq_true,if_false,Result.andThen_ok];rw [ih,hs];congr 1;simp only [World.cS];rw [Array.setIfInBounds_setIfInBounds];congr 3;apply Array.ext';simp only [Array.toList_setIfInBounds,List.length_cons]
  have e1:(cur.toList.set (off + i) v).take (off + (i + 1))=cur.toList.take (off + i) ++ [v]:=by
   rw [show off + (i + 1)=off + i + 1 by omega,List.take_add_one];rw [fT (by simp;omega)];simp [List.take_set_of_le]
  have e2:(cur.toList.set (off + i) v).drop (off + (i + 1) + l.length)=cur.toList.drop (off + i + (l.length + 1)):=by
   rw [List.drop_set_of_lt (by omega)];congr 1;omega
  rw [e1,e2];simp
theorem jx {P:Program} {b off n:Nat} {t ty:TypeId} {cur:Array Value} {w:World} {v:Value} (hw:w.heap[b]? = some (.cells cur ty (0,0))) (hn:fU P t=some n)
  (hv:v.cells.toList.length=n) (hl:off + n<=cur.size) (ho:v.cells.toList.all Value.oneCell'=true) :
  (storeVar t ⟨b,off,none⟩ v).run P w = .ok () (World.cS w b (.cells (cur.toList.take off ++ v.cells.toList ++ cur.toList.drop (off + n)).toArray ty (0,0))):=by
 have h:=kb (P:=P) (off:=off) v.cells.toList 0 cur w hw (by omega) ho;simp only [Nat.add_zero,hv] at h;have Lq:v.cells.size=n:=sU hv;simp [storeVar,aG hn,Lq,h]
theorem iS {w w':World} {x:Addr} (h:w'.heap[x.block]? = w.heap[x.block]?):w'.cell? x=w.cell? x:=by simp [World.cell?,h]
section
variable {P:Program} (w:World)
theorem gn (t ty e:TypeId) (i:TypeInfo) (z:Value) (size bytes:Nat) (ht:P.underlying t=some (.slice e)) (hi:P.info? e=some i) (hz:i.zero=some z)
  (ql:i.size=size) (zj:i.bytes=bytes) (EE:z.cells.size=size) (cR:0 < size)
  (v:Value) (n:Nat) (xs:List Value) (eA:w.ownsRow 0 e size v n xs)
  (a:Addr) (m c:Nat) (news:List Value) (hl:news.length=m * size) (qm:∀ j u,news[j]? = some u->w.cell? (a.add j)=some u) (h1:∀ u∈news,u.oneCell'=true) (hm:0 < m)
  (N5:n + m<=maxLen) (qp:(n + m) * bytes<=140737488355328) :
  ∃ g cap w',(Builtin.append_ #[t,t] ty #[v,.slice (some a) m c]).run P w = .ok (.slice (some ⟨g,0,none⟩) (n + m) cap) w' /\ w'.ownsRow 0 e size (.slice (some ⟨g,0,none⟩) (n + m) cap) (n + m) (xs ++ news)/\w.grownBy w' v.ownBlock /\
   ((v.ownBlock=some g)∨(w.heap.size<=g/\∀ k,k < w.heap.size->w'.heap[k]? = w.heap[k]?)):=by
 obtain ⟨v',w',hr,h2,h3,h4⟩:=run_append_own (P:=P) w 0 t ty e i z size bytes ht hi hz ql zj EE cR v n xs eA a m c news hl qm h1 N5 qp (Nat.zero_le _);have Lr:n + m<=9223372036854775807:=by simp only [maxLen] at N5;omega
 subst ql;rcases eA.2 with ⟨rfl,rfl⟩ | ⟨g,cap,cur,rfl,hbg,hg,J2,hcm,cm,htake⟩
 ·have lu:=run_append_nil (P:=P) w t ty e i z ht hi hz a m c news hl qm hm (by omega) (by have hb:=qp;simp only [Nat.zero_add] at hb;rw [zj];omega);rw [lu] at hr;injection hr with e1 e2
  subst e1;simp only [Nat.zero_add] at *;exact ⟨_,_,w',by rw [lu,e2],h2,h3,.inr ⟨zLeR _,fun k hk=>by rw [<- e2];exact Below.heap_alloc w.drew _ k hk⟩⟩
 ·by_cases J3:n + m<=cap
  ·have N6:n * i.size + news.length<=cur.size:=by rw [hl,cm,<- Nat.add_mul];exact Nat.mul_le_mul_right _ J3
   have lu:=run_append_room (P:=P) w t ty e i ht hi g n cap cur hg a m c news hl qm h1 J3 N6;rw [lu] at hr;injection hr with e1 e2
   subst e1;exact ⟨_,_,w',by rw [lu,e2],h2,h3,.inl rfl⟩
  ·have holds:∀ j u,xs[j]? = some u->w.cell? ((⟨g,0,none⟩:Addr).add j)=some u:=eA.cells (g:=g) rfl;have lu:=run_append_grow (P:=P) w t ty e i z ht hi hz ⟨g,0,none⟩ n cap xs eA.1 holds a m c news hl qm (by omega) (by omega) (growslice_fits (by omega) (by rw [zj];exact qp));rw [lu] at hr;injection hr with e1 e2
   subst e1;exact ⟨_,_,w',by rw [lu,e2],h2,h3,.inr ⟨zLeR _,fun k hk=>by rw [<- e2];exact Below.heap_alloc w.drew _ k hk⟩⟩
theorem qq (t ty e:TypeId) (i:TypeInfo) (z:Value) (size bytes:Nat) (ht:P.underlying t=some (.slice e)) (hi:P.info? e=some i) (hz:i.zero=some z)
  (ql:i.size=size) (zj:i.bytes=bytes) (EE:z.cells.size=size) (cR:0 < size)
  (a:Addr) (m c:Nat) (news:List Value) (hl:news.length=m * size) (qm:∀ j u,news[j]? = some u->w.cell? (a.add j)=some u) (h1:∀ u∈news,u.oneCell'=true) (hm:0 < m)
  (N5:m<=maxLen) (qp:m * bytes<=140737488355328) :
  m<=grownCap w m 0 e/\(Builtin.append_ #[t,t] ty #[.slice none 0 0,.slice (some a) m c]).run P w = .ok (.slice (some ⟨w.heap.size,0,none⟩) m (grownCap w m 0 e)) (w.drew.alloc (.cells (news.toArray ++ Builtin.zeroCells z.cells (grownCap w m 0 e - m)) e)):=by
 have Lr:m<=9223372036854775807:=by simp only [maxLen] at N5;omega
 have lu:=run_append_nil (P:=P) w t ty e i z ht hi hz a m c news (by rw [ql];exact hl) qm hm (by omega) (by rw [zj];omega);refine ⟨?_,lu⟩;obtain ⟨g,cap,w',hr,h2,_⟩:=gn (P:=P) w t ty e i z size bytes ht hi hz ql zj EE cR (.slice none 0 0) 0 [] ⟨by simp,.inl ⟨rfl,rfl⟩⟩ a m c news hl qm h1 hm (by omega) (by rw [Nat.zero_add];exact qp);rw [lu] at hr;injection hr with e1 e2
 rcases h2.2 with ⟨hv,_⟩ | ⟨_,_,_,hv,_,_,J2,_⟩
 ·cases hv
 ·grind
end
theorem jZ {P:Program} (w:World) (t ty e:TypeId) (i:TypeInfo) (ht:P.underlying t=some (.slice e)) (hi:P.info? e=some i) (b b':Option Addr) (n cap c:Nat) (hn:n<=cap) :
  (Builtin.append_ #[t,t] ty #[.slice b n cap,.slice b' 0 c]).run P w = .ok (.slice b n cap) w:=by
 have hl:∀ a:Addr,(loadCells a 0).run P w = .ok #[] w:=fun a=>by
  have:=run_loadCells_list (P:=P) w a [] (fun j v hj=>by simp at hj);simpa using this
 cases b'<;>cases b<;>simp [Builtin.append_,run_underlying ht,sizeOf,typeInfo,hi,Builtin.lenOf,Builtin.firstCells,hn,storeCells,hl]
def enumF {α:Type _}:Nat->List α->List (Nat × α)
 | _,[]=>[]
 | i,x :: r=>(i,x) :: enumF (i + 1) r
theorem nO {α γ:Type _} (f:α->γ):∀ (l:List α) (i:Nat),(enumF i l).map (fun p=>(p.1,f p.2))=enumF i (l.map f)
 | [],_=>rfl
 | x :: r,i=>by simp only [enumF,List.map_cons,nO f r]
def cellsL:List Value->List Value
 | []=>[]
 | v :: r=>v.cells.toList ++ cellsL r
theorem qu (size:Nat):∀ (vs:List Value) (i:Nat) (cs:List Value),(∀ v∈vs,v.cells.toList.length=size)->(i + vs.length) * size<=cs.length ->
  Instr.fill (fun i=>some (i * size,size)) cs.toArray (enumF i vs)=some (cs.take (i * size) ++ cellsL vs ++ cs.drop ((i + vs.length) * size)).toArray
 | [],i,cs,_,_=>by simp [enumF,Instr.fill,cellsL]
 | v :: r,i,cs,hv,hl=>by
  have h1:=hv v (by simp);have h2:v.cells.size=size:=sU h1;have fN:(i + 1) * size<=(i + (v :: r).length) * size:=Nat.mul_le_mul_right _ (by simp only [List.length_cons];omega);have hm:(i + 1) * size=i * size + size:=by rw [Nat.add_mul,Nat.one_mul]
  have hi:i * size + size<=cs.length:=by rw [<- hm];exact Nat.le_trans fN hl
  simp only [enumF,Instr.fill];rw [ah (by simp [h2,hi])];have:=lG (i * size) v cs.toArray (by simp only [h1];exact hi);rw [h1] at this;rw [this]
  have ih:=qu size r (i + 1) (cs.take (i * size) ++ v.cells.toList ++ cs.drop (i * size + size)) (fun u hu=>hv u (gA _ hu)) (by
   simp only [List.length_append,eP,List.length_drop,h1];have:(i + 1 + r.length) * size=(i + (v :: r).length) * size:=by congr 1;simp only [List.length_cons];omega
   omega)
  rw [ih];congr 2;have ap:(cs.take (i * size)).length=i * size:=by simp;omega
  have e1:(cs.take (i * size) ++ v.cells.toList ++ cs.drop (i * size + size)).take ((i + 1) * size)=cs.take (i * size) ++ v.cells.toList:=by grind
  have e2:(cs.take (i * size) ++ v.cells.toList ++ cs.drop (i * size + size)).drop ((i + 1 + r.length) * size)=cs.drop ((i + (v :: r).length) * size):=by
   have e3:(i + (v :: r).length) * size=(i + 1 + r.length) * size:=by congr 1;simp only [List.length_cons];omega
   have e4:(i + 1) * size<=(i + 1 + r.length) * size:=Nat.mul_le_mul_right _ (by omega);rw [e3,List.drop_append,List.drop_eq_nil_of_le (by simp only [List.length_append,ap,h1];omega)]
   simp_all
  grind [cellsL]
end Dv
end Go.Proofs.YtfdedoiiahbnnaaGreat
namespace Go.Proofs.YtfdedoiiahbnnaaGreat
namespace Dv
open Go Go.RowKit
inductive DV where
 | v (x:Value)
 | ud
 | agg (l:List DV)
 | bS (l:List DV)
 | sl (e:Nat) (es:List (List DV)) (tk:Option Nat)
 | pt (cs:List DV) (off:Nat)
 | loc (i off:Nat)
 | el (i off:Nat)
 | ms (i e off len cap:Nat)
 | fn (f:Nat) (first captured:List DV)
 | lH (t:TypeId) (x:DV)
structure TkE where
 n:Nat
 ty:TypeId
 e:Nat
 own:Option (List DV)
def TkE.kn (q:TkE):Nat:=match q.own with
 | none=>q.n * q.e
 | some _=>0
def TkE.new (q:TkE):Bool:=Nat.beq q.n 0 && match q.own with
 | none=>true
 | some []=>true
 | _=>false
theorem TkE.EG {q:TkE} (h:q.new=true):q.n=0:=by simp_all [TkE.new]
theorem TkE.J4 {q:TkE} (h:q.new=true):∀ cs,q.own=some cs->cs=[]:=by grind [TkE.new]
structure En where
 c:Addr->Option Value
 β:List Nat
 tk:List TkE
 τ:List Value
def En.cl (E:En):En:=⟨E.c,[],[],[]⟩
def H6 (E:En) (tk:Option Nat) (n:Nat) (y:Value):Prop:=
 ∀ k,tk=some k->∃ q,E.tk[k]? = some q/\n<=q.n/\(n=q.n->E.τ[k]? = some y)
mutual
def Rv:En->DV->Value->Prop
 | _,.v x,y=>y=x/\x.oneCell'=true
 | _,.ud,y=>y=undef
 | E,.agg l,y=>∃ vs:List Value,y = .agg vs.toArray/\RvL E l vs/\(∀ v∈vs,v.oneCell'=true)
 | E,.bS l,y=>∃ vs:List Value,y = .tuple vs.toArray/\RvL E l vs
 | E,.sl e es tk,y=>∃ b n cap,y = .slice b n cap/\(n=es.length/\n<=cap)/\(es ≠ []->okA b/\RvEs E.cl e (ab b) (ao b) es)/\H6 E tk n y
 | E,.pt cs off,y=>∃ b p,y = .pointer (some ⟨b,p + off,none⟩)/\RvAt E.cl b p cs
 | E,.loc i off,y=>∃ b,E.β[i]? = some b/\y = .pointer (some ⟨b,off,none⟩)
 | E,.el i off,y=>∃ b,E.β[i]? = some b/\y = .pointer (some ⟨b,off,none⟩)
 | E,.ms i _ off len cap,y=>∃ b a,E.β[i]? = some b/\len<=cap/\y = .slice a len cap/\(cap≠0->a=some ⟨b,off,none⟩)
 | E,.fn f first captured,y=>∃ l r:List Value,y = .func (.func f) l.toArray r.toArray/\RvL E first l/\RvL E captured r
 | E,.lH t x,y=>∃ z,y = .iface t z/\Rv E x z
def RvL:En->List DV->List Value->Prop
 | _,[],l=>l=[]
 | E,d :: r,l=>∃ v s,l=v :: s/\Rv E d v/\RvL E r s
def RvAt:En->Nat->Nat->List DV->Prop
 | _,_,_,[]=>True
 | E,b,p,d :: r=>(∃ v,E.c ⟨b,p,none⟩=some v/\v.oneCell'=true/\Rv E d v)/\RvAt E b (p + 1) r
def RvEs:En->Nat->Nat->Nat->List (List DV)->Prop
 | _,_,_,_,[]=>True
 | E,e,b,o,cs :: r=>cs.length=e/\RvAt E b o cs/\RvEs E e b (o + e) r
end
def RvC (E:En) (l:List DV) (vs:List Value):Prop:=RvL E l vs/\∀ v∈vs,v.oneCell'=true
def DV.cells:DV->List DV
 | .agg l=>l
 | .ud=>[]
 | .bS _=>[]
 | d=>[d]
structure Sl where
 gs:List (Nat × Bool)
 s:DV
structure St where
 sl:List (Nat × Sl)
 bx:List (List DV)
 tk:List TkE
def get:List (Nat × Sl)->Nat->Option Sl
 | [],_=>none
 | (k,x) :: r,i=>
  match Nat.beq k i with
  | true=>some x
  | false=>get r i
def Holds (tmps:Array Value) (gs:List (Nat × Bool)):Prop:=∀ p∈gs,tmps[p.1]? = some (.bool p.2)
def St.put (st:St) (dst:Option Nat) (x:Sl):St:=
 match dst with
 | some d=>⟨(d,x) :: st.sl,st.bx,st.tk⟩
 | none=>st
def putK (st:St) (dst:Option Nat) (x:Sl) (K:St->Prop):Prop:=
 match dst with
 | some d=>
  match st with
  | ⟨sl,bx,tk⟩=>K ⟨(d,x) :: sl,bx,tk⟩
 | none=>K st
theorem kQ (st:St) (dst:Option Nat) (x:Sl) (K:St->Prop):putK st dst x K=K (st.put dst x):=by
 cases dst<;>rfl
def appF {α γ:Type _} (c:α):List α->(Nat->List α->γ)->γ
 | [],K=>K 0 [c]
 | b :: r,K=>appF c r (fun n r'=>K (n + 1) (b :: r'))
theorem pP {α γ:Type _} (c:α):∀ (l:List α) (K:Nat->List α->γ),appF c l K=K l.length (l ++ [c])
 | [],K=>rfl
 | b :: r,K=>by simp only [appF];rw [pP c r];all_goals rfl
def setF {α γ:Type _} (c:α):List α->Nat->(List α->γ)->γ
 | [],_,K=>K []
 | _ :: r,0,K=>K (c :: r)
 | b :: r,i + 1,K=>setF c r i (fun r'=>K (b :: r'))
theorem pQ {α γ:Type _} (c:α):∀ (l:List α) (i:Nat) (K:List α->γ),setF c l i K=K (l.set i c)
 | [],_,K=>rfl
 | _ :: r,0,K=>rfl
 | b :: r,i + 1,K=>by simp only [setF];rw [pQ c r i];all_goals rfl
def H7 (st:St) (d:Nat) (cs:List DV) (K:St->Prop):Prop:=
 match st with
 | ⟨sl,bx,tk⟩=>appF cs bx (fun n J5=>K ⟨(d,⟨[],.loc n 0⟩) :: sl,J5,tk⟩)
theorem Bj (st:St) (d:Nat) (cs:List DV) (K:St->Prop):H7 st d cs K=K ⟨(d,⟨[],.loc st.bx.length 0⟩) :: st.sl,st.bx ++ [cs],st.tk⟩:=by
 simp only [H7,pP]
def H8 (st:St) (i:Nat) (cs:List DV) (K:St->Prop):Prop:=
 match st with
 | ⟨sl,bx,tk⟩=>setF cs bx i (fun J5=>K ⟨sl,J5,tk⟩)
theorem Bl (st:St) (i:Nat) (cs:List DV) (K:St->Prop):H8 st i cs K=K ⟨st.sl,st.bx.set i cs,st.tk⟩:=by
 simp only [H8,pQ]
structure mv (S:Nat->Prop) (w w':World):Prop where
 os:w'.os=w.os
 tape:w'.tape=w.tape
 output:w'.output=w.output
 size:w.heap.size<=w'.heap.size
 block:∀ k,k < w.heap.size->¬ S k->w'.heap[k]? = w.heap[k]?
inductive TK where
 | st (wN:List (Nat × Nat))
 | sl (et e bytes:Nat)
 | ar (n e:Nat)
 | int (k:IntKind)
 | bool
 | str
 | ptr (et:Nat)
 | fn
 | lH
 | ot
structure TE where
 size:Nat
 agg:Bool
 kd:TK
 z:List Value
inductive TT where
 | nil
 | ag (k:Nat) (e:TE) (l r:TT)
def TT.find:TT->Nat->Option TE
 | .nil,_=>none
 | .ag k e l r,t=>
  match Nat.beq t k with
  | true=>some e
  | false=>
   match Nat.blt t k with
   | true=>l.find t
   | false=>r.find t
def okOffs (P:Program) (t:TypeId):Nat->List (Nat × Nat)->Bool
 | _,[]=>true
 | i,p :: r=>decide (offOf P t i=some p) && okOffs P t (i + 1) r
def veq:Value->Value->Bool
 | .bool a,.bool b=>a == b
 | .int k a,.int k' b=>decide (k=k') && decide (a=b)
 | .string a,.string b=>decide (a.size=0) && decide (b.size=0)
 | .pointer none,.pointer none=>true
 | .slice none 0 0,.slice none 0 0=>true
 | .map none,.map none=>true
 | .nilFunc,.nilFunc=>true
 | .nilIface,.nilIface=>true
 | _,_=>false
def veqL:List Value->List Value->Bool
 | [],[]=>true
 | a :: r,b :: s=>veq a b && veqL r s
 | _,_=>false
def slOf (P:Program) (t:TypeId):Option (Nat × Nat × Nat):=
 match P.underlying t with
 | some (.slice e)=>
  match P.info? e with
  | some i=>
   match i.zero with
   | some z=>if z.cells.size=i.size then some (e,i.size,i.bytes) else none
   | none=>none
  | none=>none
 | _=>none
def zok (P:Program) (t:TypeId) (agg:Bool) (z:List Value):Bool:=
 match tf P t with
 | some (.agg cs)=>agg && veqL cs.toList z
 | some v=>!agg && veqL [v] z
 | none=>false
def TE.ok (P:Program) (t:TypeId) (e:TE):Bool:=
 decide (fU P t=some e.size) && decide (aggOf P t=some e.agg) && zok P t e.agg e.z &&
 match e.kd with
 | .st wN=>(match P.underlying t with
  | some (.struct fs)=>fs.all (fun f=>(fU P f.type).isSome)
  | _=>false) && okOffs P t 0 wN
 | .sl et s iQ=>decide (slOf P t=some (et,s,iQ))
 | .ar n s=>decide (arrOf P t=some (n,s))
 | .int k=>match P.underlying t with
  | some (.int k')=>decide (k'=k)
  | _=>false
 | .bool=>match P.underlying t with
  | some .bool=>true
  | _=>false
 | .str=>match P.underlying t with
  | some .string=>true
  | _=>false
 | .ptr et=>match P.underlying t with
  | some (.pointer S1)=>decide (S1=et)
  | _=>false
 | .lH=>true
 | .fn=>true
 | .ot=>true
def TT.ok (P:Program):TT->Bool
 | .nil=>true
 | .ag k e l r=>e.ok P k && l.ok P && r.ok P
def TT.off (T:TT) (s f:Nat):Option (Nat × Nat):=
 match T.find s with
 | some ⟨_,_,.st wN,_⟩=>wN[f]?
 | _=>none
def TT.sz (T:TT) (t:Nat):Option Nat:=
 match T.find t with
 | some ⟨n,_,_,_⟩=>some n
 | none=>none
def takeF {α γ:Type _}:Nat->List α->(List α->Option γ)->Option γ
 | 0,_,K=>K []
 | _ + 1,[],_=>none
 | n + 1,x :: r,K=>takeF n r (fun l=>K (x :: l))
theorem qv {α γ:Type _}:∀ (n:Nat) (l:List α) (K:List α->Option γ),takeF n l K=if (l.take n).length=n then K (l.take n) else none
 | 0,l,K=>by simp [takeF]
 | n + 1,[],K=>by simp [takeF]
 | n + 1,x :: r,K=>by simp only [takeF,qv n r,List.take_succ_cons,List.length_cons,Nat.add_right_cancel_iff]
def overF {α γ:Type _}:List α->List α->(List α->γ)->γ
 | [],cs,K=>K cs
 | v :: r,_ :: cs,K=>overF r cs (fun l=>K (v :: l))
 | v :: r,[],K=>K (v :: r)
def splF {α γ:Type _}:List α->Nat->List α->(List α->γ)->γ
 | cs,0,vs,K=>overF vs cs K
 | [],_ + 1,vs,K=>K vs
 | c :: r,o + 1,vs,K=>splF r o vs (fun l=>K (c :: l))
theorem wO {α γ:Type _}:∀ (vs cs:List α) (K:List α->γ),overF vs cs K=K (vs ++ cs.drop vs.length)
 | [],cs,K=>by simp [overF]
 | v :: r,c :: cs,K=>by simp only [overF,wO r cs,List.length_cons,List.drop_succ_cons,List.cons_append]
 | v :: r,[],K=>by simp [overF]
theorem pS {α γ:Type _}:∀ (cs:List α) (o:Nat) (vs:List α) (K:List α->γ),splF cs o vs K=K (cs.take o ++ vs ++ cs.drop (o + vs.length))
 | cs,0,vs,K=>by cases cs<;>simp [splF,wO]
 | [],o + 1,vs,K=>by simp [splF]
 | c :: r,o + 1,vs,K=>by
  simp only [splF,pS r o vs,List.take_succ_cons,List.cons_append]
  grind
def cellsT (T:TT) (t:TypeId) (cs:List DV) (off:Nat):Option DV:=
 match T.find t with
 | some ⟨n,true,_,_⟩=>takeF n (cs.drop off) (fun l=>some (.agg l))
 | some ⟨_,false,_,_⟩=>cs[off]?
 | none=>none
def subG:List (Nat × Bool)->List (Nat × Bool)->Bool
 | [],_=>true
 | p :: r,G=>G.contains p && subG r G
def rv (st:St) (G:List (Nat × Bool)):Operand->Option DV
 | .tmp t=>
  match get st.sl t with
  | some ⟨gs,s⟩=>
   match subG gs G with
   | true=>some s
   | false=>none
  | none=>none
 | .const v=>
  match v.oneCell' with
  | true=>some (.v v)
  | false=>none
 | .global g=>some (.v (.pointer (some ⟨g,0,none⟩)))
 | .func f=>some (.fn f [] [])
def pickD (x:Bool):DV->DV->DV
 | .v (.bool a),.v (.bool b)=>.v (.bool (pickB x a b))
 | a,b=>
  match x with
  | true=>a
  | false=>b
def Cw:Option Value->Option DV
 | some v=>some (.v v)
 | none=>none
def binD (T:TT) (op:BinOp) (t:TypeId):DV->DV->Option DV
 | .v (.int k a),.v (.int k' b)=>if k=k' then Cw (binI op k a b) else none
 | .v (.string a),.v (.string b)=>Cw (binS op a b)
 | .v (.bool a),.v (.bool b)=>
  match T.find t with
  | some ⟨_,_,.bool,_⟩=>
   match op with
   | .eql=>some (.v (.bool (a == b)))
   | .neq=>some (.v (.bool (!(a == b))))
   | _=>none
  | _=>none
 | .v (.pointer a),.v (.pointer none)=>
  match T.find t with
  | some ⟨_,_,.ptr _,_⟩=>
   match op with
   | .eql=>some (.v (.bool a.isNone))
   | .neq=>some (.v (.bool (!a.isNone)))
   | _=>none
  | _=>none
 | .pt _ _,.v (.pointer none)=>
  match T.find t with
  | some ⟨_,_,.ptr _,_⟩=>
   match op with
   | .eql=>some (.v (.bool false))
   | .neq=>some (.v (.bool true))
   | _=>none
  | _=>none
 | .loc _ _,.v (.pointer none)=>
  match T.find t with
  | some ⟨_,_,.ptr _,_⟩=>
   match op with
   | .eql=>some (.v (.bool false))
   | .neq=>some (.v (.bool true))
   | _=>none
  | _=>none
 | _,_=>none
def fillT (T:TT) (t:TypeId) (st:St) (G:List (Nat × Bool)) (cs:List DV):List (Nat × Operand)->Option DV
 | []=>some (.agg cs)
 | (f,x) :: r=>
  match T.off t f,rv st G x with
  | some (off,ft),some d=>
   match T.sz ft with
   | some n=>
    match Nat.beq d.cells.length n && Nat.ble (off + n) cs.length with
    | true=>splF cs off d.cells (fun cs'=>fillT T t st G cs' r)
    | false=>none
   | none=>none
  | _,_=>none
def argsV (st:St) (G:List (Nat × Bool)):List Operand->Option (List DV)
 | []=>some []
 | x :: r=>
  match rv st G x,argsV st G r with
  | some d,some l=>some (d :: l)
  | _,_=>none
def vL:List Value->List DV
 | []=>[]
 | v :: r=>.v v :: vL r
def fillAr (e:Nat) (st:St) (G:List (Nat × Bool)) (cs:List DV):List (Nat × Operand)->Option DV
 | []=>some (.agg cs)
 | (f,x) :: r=>
  match rv st G x with
  | some d=>
   match Nat.blt 0 e && Nat.beq d.cells.length e && Nat.ble (f * e + e) cs.length with
   | true=>splF cs (f * e) d.cells (fun cs'=>fillAr e st G cs' r)
   | false=>none
  | none=>none
def pureT (P:Program) (T:TT) (st:St) (G:List (Nat × Bool)):Op->Option DV
 | .move x=>rv st G x
 | .assign x=>rv st G x
 | .pick c a b=>
  match c with
  | .tmp d=>
   match rv st G c,rv st ((d,true) :: G) a,rv st ((d,false) :: G) b with
   | some (.v (.bool x)),some da,some db=>some (pickD x da db)
   | _,_,_=>none
  | _=>none
 | .binOp op t x y _=>
  match rv st G x,rv st G y with
  | some a,some b=>binD T op t a b
  | _,_=>none
 | .unOp op _ x=>
  match rv st G x with
  | some (.v (.bool b))=>
   match op with
   | .not=>some (.v (.bool (!b)))
   | _=>none
  | some (.v (.int k n))=>
   match op with
   | .neg=>some (.v (.int k (k.wrap (0 - n))))
   | _=>none
  | _=>none
 | .fieldAddr s x f=>
  match T.off s f,rv st G x with
  | some (o,_),some (.loc i off)=>some (.loc i (off + o))
  | some (o,_),some (.pt cs off)=>some (.pt cs (off + o))
  | some (o,_),some (.el i off)=>some (.el i (off + o))
  | _,_=>none
 | .load t x=>
  match rv st G x with
  | some (.loc i off)=>
   match st.bx[i]? with
   | some cs=>cellsT T t cs off
   | none=>none
  | some (.pt cs off)=>cellsT T t cs off
  | _=>none
 | .extract x i=>
  match rv st G x with
  | some (.bS vs)=>vs[i]?
  | _=>none
 | .field t x f=>
  match T.off t f,rv st G x with
  | some (off,ft),some (.agg cs)=>cellsT T ft cs off
  | _,_=>none
 | .build t parts=>
  match T.find t with
  | some ⟨_,_,.st _,z⟩=>fillT T t st G (vL z) parts.toList
  | some ⟨_,_,.ar _ e,z⟩=>fillAr e st G (vL z) parts.toList
  | _=>none
 | .makeFunc fn first captured=>
  match fn with
  | .func f=>
   match argsV st G first.toList,argsV st G captured.toList with
   | some l,some r=>some (.fn f l r)
   | _,_=>none
  | _=>none
 | .makeInterface t x=>
  match rv st G x,T.find t with
  | some d,some ⟨_,_,kd,_⟩=>
   match kd with
   | .lH=>none
   | .ot=>none
   | .fn=>none
   | _=>some (.lH t d)
  | _,_=>none
 | .nilCheck x=>
  match rv st G x with
  | some (.loc i off)=>some (.loc i off)
  | some (.el i off)=>some (.el i off)
  | some (.pt cs off)=>some (.pt cs off)
  | some (.v (.pointer (some a)))=>some (.v (.pointer (some a)))
  | some (.fn f first captured)=>some (.fn f first captured)
  | _=>none
 | .convert s d x=>
  match rv st G x,T.find s,T.find d with
  | some (.v (.int _ n)),some _,some ⟨_,_,.int k,_⟩=>some (.v (.int k (k.wrap n)))
  | _,_,_=>none
 | .call c=>
  match c.callee with
  | .builtin .len=>
   match c.args.toList,c.argTypes.toList with
   | [x],[t]=>
    match rv st G x,T.find t with
    | some (.sl _ es _),some ⟨_,_,.sl _ _ _,_⟩=>some (.v (.int .i64 es.length))
    | some (.ms _ _ _ n _),some ⟨_,_,.sl _ _ _,_⟩=>some (.v (.int .i64 n))
    | some (.v (.slice _ n _)),some ⟨_,_,.sl _ _ _,_⟩=>some (.v (.int .i64 n))
    | some (.v (.string s)),some ⟨_,_,.str,_⟩=>some (.v (.int .i64 s.size))
    | _,_=>none
   | _,_=>none
  | .builtin .max=>
   match c.args.toList with
   | [x,y]=>
    match rv st G x,rv st G y with
    | some (.v (.int k a)),some (.v (.int _ b))=>some (.v (.int k (max a b)))
    | _,_=>none
   | _=>none
  | .builtin .min=>
   match c.args.toList with
   | [x,y]=>
    match rv st G x,rv st G y with
    | some (.v (.int k a)),some (.v (.int _ b))=>some (.v (.int k (min a b)))
    | _,_=>none
   | _=>none
  | _=>none
 | _=>none
def S2 (bx:List (List DV)) (N e:Nat) (es:List (List DV)) (d:DV):Prop:=
 ∃ i off c cs,d = .ms i e off es.length c/\N<=i/\bx[i]? = some cs/\es.flatten=(cs.drop off).take (es.length * e)/\(∀ x∈es,x.length=e)/\∀ x∈es.flatten,(∃ y,x = .v y)∨∃ e' wx,x = .sl e' wx none
mutual
def Cc (bx:List (List DV)) (N:Nat):Nat->Nat->DV->DV->Prop
 | _,_,.v y,d=>d = .v y
 | _,_,.ud,d=>d = .ud
 | n0,m0,.agg l',d=>∃ l,d = .agg l/\CcL bx N n0 m0 l' l
 | n0,m0,.bS l',d=>∃ l,d = .bS l/\CcL bx N n0 m0 l' l
 | _,m0,.sl e es tk,d=>
  match tk with
  | none=>(es=[]/\d = .v (.slice none 0 0))∨(∃ tk',d = .sl e es tk')∨S2 bx N e es d∨∃ S3 tk',d = .sl e S3 tk' /\ CcE bx N es S3
  | some k=>k < m0/\d = .sl e es (some k)
 | _,_,.pt cs' o,d=>d = .pt cs' o∨∃ i cs,d = .loc i o/\N<=i/\bx[i]? = some cs/\CcL bx N 0 0 cs' cs
 | n0,_,.loc i o,d=>i < n0/\d = .loc i o
 | n0,_,.el i o,d=>i < n0/\d = .el i o
 | n0,_,.ms i e o l c,d=>i < n0/\d = .ms i e o l c
 | n0,m0,.fn f a' b',d=>∃ a b,d = .fn f a b/\CcL bx N n0 m0 a' a/\CcL bx N n0 m0 b' b
 | n0,m0,.lH t x',d=>∃ x,d = .lH t x/\Cc bx N n0 m0 x' x
def CcL (bx:List (List DV)) (N:Nat):Nat->Nat->List DV->List DV->Prop
 | _,_,[],l=>l=[]
 | n0,m0,d' :: r',l=>∃ d r,l=d :: r/\Cc bx N n0 m0 d' d/\CcL bx N n0 m0 r' r
def CcE (bx:List (List DV)) (N:Nat):List (List DV)->List (List DV)->Prop
 | [],l=>l=[]
 | a' :: r',l=>∃ a r,l=a :: r/\(a'=a∨CcL bx N 0 0 a' a)/\CcE bx N r' r
end
def jy (bx:List (List DV)) (N n0 m0:Nat):List (List DV)->List (List DV)->Prop
 | [],l=>l=[]
 | a' :: r',l=>∃ a r,l=a :: r/\CcL bx N n0 m0 a' a/\jy bx N n0 m0 r' r
structure Ctx where
 P:Program
 T:TT
 hT:T.ok P=true
 fn:Func
 nt:Nat
 rs:List ResultVar
 qw:fn.results.toList=rs
 w0:World
 E0:En
 n0:Nat
 m0:Nat
 ti:E0.β.length=n0
 mw:E0.tk.length=m0
 still:Bool
 Φ:DV->List (List DV)->List TkE->Prop
 bt:List (Nat × TypeId):=[]
 mu:List Nat:=[]
 fr:Bool:=false
def btOK:List (Nat × TypeId)->Nat->TypeId->Bool
 | [],_,_=>true
 | p :: r,n,t=>(!(Nat.beq p.1 n) || Nat.beq p.2 t) && btOK r n t
def lm (bt:List (Nat × TypeId)) (β:List Nat) (w:World):Prop:=∀ p∈bt,∀ b,β[p.1]? = some b->∃ cs,w.heap[b]? = some (.cells cs p.2 (0,0))
def En.S (E:En) (b:Nat):Prop:=b∈E.β∨∃ y∈E.τ,y.ownBlock=some b
def my (c:Addr->Option Value) (q:TkE) (cur:Array Value):Prop:=∀ cs,q.own=some cs->cs.length=q.n * q.e/\RvC ⟨c,[],[],[]⟩ cs (cur.toList.take (q.n * q.e))
def zk (w:World) (c:Addr->Option Value) (β:List Nat) (q:TkE) (y:Value):Prop:=
 (y = .slice none 0 0/\q.n=0/\∀ cs,q.own=some cs->cs=[]) ∨
 ∃ g cap,∃ cur:Array Value,y = .slice (some ⟨g,0,none⟩) q.n cap/\w.heap[g]? = some (.cells cur q.ty (0,0))/\(cur.size=cap * q.e/\my c q cur)/\q.n<=cap/\cap<=maxLen/\g ∉ β/\∀ a v,c a=some v->a.block=g->a.off < q.kn
structure Env (E:En) (bx:List (List DV)) (w:World):Prop where
 len:E.β.length=bx.length
 tl:E.τ.length=E.tk.length
 dn:∀ (i:Nat) cs,bx[i]? = some cs->∃ b ty arr,E.β[i]? = some b/\w.heap[b]? = some (.cells (List.toArray arr) ty (0,0))/\RvC E cs arr
 inj:E.β.Nodup
 sub:∀ a v,E.c a=some v->w.cell? a=some v
 pc:∀ a v,E.c a=some v->a.block ∉ E.β
 b9:∀ (k:Nat) q y,E.tk[k]? = some q->E.τ[k]? = some y->zk w E.c E.β q y
 gp:∀ (k k':Nat) y y' g,k≠k' -> E.τ[k]? = some y->E.τ[k']? = some y' -> y.ownBlock=some g->y'.ownBlock≠some g
structure Nw (E0 E:En) (w0:World):Prop where
 c:∀ a v,E0.c a=some v->E.c a=some v
 cn:∀ a v,E.c a=some v->E0.c a=some v∨w0.heap.size<=a.block∨∃ y∈E0.τ,y.ownBlock=some a.block
 β:∃ r,E.β=E0.β ++ r/\∀ b∈r,w0.heap.size<=b
 tk:∀ (k:Nat) q y,E0.tk[k]? = some q->E0.τ[k]? = some y->∃ q' y',E.tk[k]? = some q' /\ E.τ[k]? = some y' /\ q.ty=q'.ty/\q.e=q'.e/\((q'.n=q.n/\y'=y)∨q.n < q'.n)/\(y'.ownBlock=y.ownBlock∨∀ g,y'.ownBlock=some g->w0.heap.size<=g)
 tn:∀ (k:Nat) y g,E0.tk.length<=k->E.τ[k]? = some y->y.ownBlock=some g->w0.heap.size<=g
 l0:E0.τ.length=E0.tk.length
structure Rel (X:Ctx) (E:En) (st:St) (a:Act) (w:World):Prop where
 env:Env E st.bx w
 tk:E.tk=st.tk
 sz:a.tmps.size=X.nt
 tm:∀ i x,get st.sl i=some x->(Holds a.tmps x.gs->∃ v,a.tmps[i]? = some v/\Rv E x.s v)/\(¬ Holds a.tmps x.gs->a.tmps[i]? = some undef)
 df:a.defers=[]
 nw:Nw X.E0 E X.w0
 fr:mv X.E0.S X.w0 w
 sh:X.still=true->∃ q,w=X.w0.drewN q
 bt:lm X.bt E.β w
inductive It where
 | code (c:Code)
 | ops (all:Array Oper) (l:List Oper)
 | wP (id:Nat)
 | y8 (J:St->Prop)
def VT:Bool->Nat->Nat->Prop
 | false,n,n0=>n=n0
 | true,n,n0=>n0<=n
def wQ (s:Bool) (E0:En) (w0:World) (Φ:DV->List (List DV)->List TkE->Prop) (v:Value) (w:World) (fr:Bool:=false):Prop:=
 mv E0.S w0 w/\(s=true->∃ q,w=w0.drewN q)/\∃ d os E,Env E os w/\E.β=E0.β/\VT fr E.tk.length E0.tk.length/\Nw E0 E w0/\Rv E d v/\Φ d os E.tk
def kq (X:Ctx):List It->Exit->Act->World->Prop
 | [],e,a,w=>
  match e with
  | .normal | .ret=>a.defers=[]/\∃ v,(results X.fn a.tmps).run X.P w = .ok v w/\wQ X.still X.E0 X.w0 X.Φ v w X.fr/\lm X.bt X.E0.β w
  | _=>False
 | .code c :: k,e,a,w=>
  match e with
  | .normal=>c.wp X.P (kq X k) a w
  | e=>kq X k e a w
 | .ops all l :: k,e,a,w=>
  match e with
  | .normal=>wpList X.P all (kq X k) l a w
  | e=>kq X k e a w
 | .wP id :: k,e,a,w=>
  match e with
  | .exit VU=>if VU=id then kq X k .normal a w else kq X k (.exit VU) a w
  | e=>kq X k e a w
 | .y8 J :: k,e,a,w=>
  match e with
  | .normal=>∃ st E,Rel X E st a w/\J st
  | e=>kq X k e a w
def CallG (X:Ctx) (f:FuncId) (args:List DV) (dst:Option Nat) (k:List It) (st:St):Prop:=
 Go.Proofs.Enters X.P f/\X.still=false/\∀ E a w vs,Rel X E st a w->RvL E args vs->Calls X.P f vs.toArray w fun
  | .returned v,w'=>kq X k .normal (a.put dst v) w'
  | _,_=>False
def EH (X:Ctx) (o:Oper) (k:List It) (st:St):Prop:=
 ∀ E a w,Rel X E st a w->o.wp X.P a w (kq X k .normal) (fun _ _ _=>False)
def oU (X:Ctx) (c:Code) (k:List It) (st:St):Prop:=
 ∀ E a w,Rel X E st a w->(Code.loop c).wp X.P (kq X k) a w
def qx (X:Ctx) (id:Nat) (ops:Array Oper) (k:List It) (st:St):Prop:=
 ∀ E a w,Rel X E st a w->(Code.region id ops true).wp X.P (kq X k) a w
def u8L:List UInt8->List DV
 | []=>[]
 | b :: r=>.v (.int .u8 b.toNat) :: u8L r
def u1 (P:Program) (op:BinOp) (x y:Operand) (t:TypeId) (l l':List DV) (b:Bool):Prop:=
 ∃ vs vs':List Value,l=vL vs/\l'=vL vs' /\ ∀ w:World,(eqGuard op t x y (.agg vs.toArray) (.agg vs'.toArray)).run P w = .ok () w/\(binOp op t (.agg vs.toArray) (.agg vs'.toArray)).run P w = .ok (.bool b) w
def bound (st:St) (d:Int):Option Operand->Option Int
 | none=>some d
 | some x=>
  match rv st [] x with
  | some (.v (.int _ z))=>some z
  | _=>none
def effR (X:Ctx) (st:St) (op:Op) (K:DV->Prop):Option Prop:=
 match op with
 | .indexAddr t x i=>
  match rv st [] x,rv st [] i with
  | some (.sl e es _),some (.v (.int _ z))=>
   match X.T.find t with
   | some ⟨_,_,.sl _ e' _,_⟩=>
    match Nat.beq e e' with
    | true=>some (∃ cs,(0<=z/\es[z.toNat]? = some cs)/\K (.pt cs 0))
    | false=>none
   | _=>none
  | some (.ms j e off n _),some (.v (.int _ z))=>
   match X.T.find t with
   | some ⟨_,_,.sl _ e' _,_⟩=>
    match Nat.beq e e' with
    | true=>some ((0<=z/\z < n)/\K (.el j (off + z.toNat * e)))
    | false=>none
   | _=>none
  | some (.loc j off),some (.v (.int _ z))=>
   match X.T.find t with
   | some ⟨_,_,.ar n e,_⟩=>
    match i with
    | .const _=>some ((0<=z/\z < n)/\K (.loc j (off + z.toNat * e)))
    | _=>some ((0<=z/\z < n)/\K (.el j (off + z.toNat * e)))
   | _=>none
  | some (.el j off),some (.v (.int _ z))=>
   match X.T.find t with
   | some ⟨_,_,.ar n e,_⟩=>some ((0<=z/\z < n)/\K (.el j (off + z.toNat * e)))
   | _=>none
  | some (.pt cs off),some (.v (.int _ z))=>
   match X.T.find t with
   | some ⟨_,_,.ar n e,_⟩=>
    match i with
    | .const _=>some ((0<=z/\z < n)/\K (.pt cs (off + z.toNat * e)))
    | _=>some (∃ ds,((0<=z/\z < n)/\(cs.drop (off + z.toNat * e)).take e=ds)/\K (.pt ds 0))
   | _=>none
  | _,_=>none
 | .load t x=>
  match rv st [] x with
  | some (.el i off)=>
   match st.bx[i]? with
   | some cs=>some (∃ d,cellsT X.T t cs off=some d/\K d)
   | none=>none
  | _=>none
 | .index t x i=>
  match rv st [] x,rv st [] i,X.T.find t with
  | some (.v (.string s)),some (.v (.int _ z)),some ⟨_,_,.str,_⟩=>some ((0<=z/\z < s.size)/\K (.v (.int .u8 (bq s z.toNat))))
  | _,_,_=>none
 | .slice t x lo hi mx=>
  match mx with
  | some _=>none
  | none=>
   match rv st [] x,X.T.find t with
   | some (.v (.string s)),some ⟨_,_,.str,_⟩=>
    match bound st 0 lo,bound st s.size hi with
    | some l,some h=>some ((0<=l/\l<=h/\h<=s.size)/\K (.v (.string (s.extract l.toNat h.toNat))))
    | _,_=>none
   | some (.sl e es _),some ⟨_,_,.sl _ e' _,_⟩=>
    match Nat.beq e e' with
    | true=>
     match bound st 0 lo,bound st es.length hi with
     | some l,some h=>some ((0<=l/\l<=h/\h<=es.length)/\K (.sl e ((es.take h.toNat).drop l.toNat) none))
     | _,_=>none
    | false=>none
   | some (.loc j off),some ⟨_,_,.ar n e,_⟩=>
    match bound st 0 lo,bound st n hi with
    | some l,some h=>some ((0<=l/\l<=h/\h<=n)/\K (.ms j e (off + l.toNat * e) (h.toNat - l.toNat) (n - l.toNat)))
    | _,_=>none
   | some (.loc j off),some ⟨_,_,.ptr et,_⟩=>
    match X.T.find et with
    | some ⟨_,_,.ar n e,_⟩=>
     match bound st 0 lo,bound st n hi with
     | some l,some h=>some ((0<=l/\l<=h/\h<=n)/\K (.ms j e (off + l.toNat * e) (h.toNat - l.toNat) (n - l.toNat)))
     | _,_=>none
    | _=>none
   | _,_=>none
 | .binOp op xt x y _=>
  match rv st [] x,rv st [] y with
  | some (.v (.string s)),some (.v (.string t))=>
   match op with
   | .add=>some (s.size + t.size<=9223372036854775807/\K (.v (.string (s ++ t))))
   | _=>none
  | some (.v (.int k1 p)),some (.v (.int k2 q))=>
   match op with
   | .quo=>some ((k1=k2/\q≠0)/\K (.v (.int k1 (k1.wrap (p.tdiv q)))))
   | .rem=>some ((k1=k2/\q≠0)/\K (.v (.int k1 (p.tmod q))))
   | .shl=>some ((0<=q)/\K (.v (.int k1 (k1.wrap (p * 2 ^ (min q.toNat k1.bits))))))
   | .shr=>some ((0<=q)/\K (.v (.int k1 (p.fdiv (2 ^ (min q.toNat k1.bits))))))
   | _=>none
  | some (.agg l),some (.agg l')=>some (∃ b,u1 X.P op x y xt l l' b/\K (.v (.bool b)))
  | _,_=>none
 | .convert s d x=>
  match rv st [] x,X.T.find s,X.T.find d with
  | some (.sl 1 es _),some ⟨_,_,.sl et 1 _,_⟩,some ⟨_,_,.str,_⟩=>
   match X.T.find et with
   | some ⟨_,_,.int .u8,_⟩=>some (∃ bs:List UInt8,es.flatten=u8L bs/\K (.v (.string ⟨bs.toArray⟩)))
   | _=>none
  | _,_,_=>none
 | _=>none
def ownD:DV->Bool
 | .sl 0 _ (some _)=>true
 | _=>false
def appTo (st:St) (d:DV) (K:Nat->List TkE->List (List DV)->Prop) (m:Nat) (ty e:Nat):Prop:=
 match d with
 | .v (.slice none 0 0)=>appF (⟨m,ty,e,none⟩:TkE) st.tk (fun n tk'=>K n tk' [])
 | .sl e' es (some k)=>
  match st.tk[k]? with
  | some q=>
   match Nat.beq e' e && Nat.beq q.ty ty && Nat.beq q.e e && q.own.isNone with
   | true=>es.length=q.n/\setF (⟨q.n + m,ty,e,none⟩:TkE) st.tk k (fun tk'=>K k tk' es)
   | false=>False
  | none=>False
 | _=>False
def appOwn (st:St) (d et e iQ:Nat) (ds:DV) (xs:List (List DV)) (K:St->Prop):Prop:=
 match ds with
 | .sl 0 es (some k)=>
  match st.tk[k]? with
  | some ⟨n,ty,e',some cs⟩=>
   match Nat.beq ty et && Nat.beq e' e with
   | true=>((es.length=n/\xs ≠ [])/\n + xs.length<=maxLen/\(n + xs.length) * iQ <= 140737488355328)/\setF (⟨n + xs.length,et,e,some (cs ++ xs.flatten)⟩:TkE) st.tk k (fun tk'=>
     match st with
     | ⟨sl,bx,_⟩=>K ⟨(d,⟨[],.sl 0 (List.replicate (n + xs.length) []) (some k)⟩) :: sl,bx,tk'⟩)
   | false=>False
  | _=>False
 | _=>False
def eraD:DV->Option DV
 | .v x=>some (.v x)
 | .sl e es _=>some (.sl e es none)
 | .pt cs o=>some (.pt cs o)
 | _=>none
def eraL {γ:Type}:List DV->(List DV->Option γ)->Option γ
 | [],K=>K []
 | d :: r,K=>
  match eraD d with
  | some d'=>eraL r (fun r'=>K (d' :: r'))
  | none=>none
def H9 (st:St) (d:Nat) (cs:List DV) (f:Nat->DV) (K:St->Prop):Prop:=
 match st with
 | ⟨sl,bx,tk⟩=>appF cs bx (fun n J5=>K ⟨(d,⟨[],f n⟩) :: sl,J5,tk⟩)
theorem Bm (st:St) (d:Nat) (cs:List DV) (f:Nat->DV) (K:St->Prop):H9 st d cs f K=K ⟨(d,⟨[],f st.bx.length⟩) :: st.sl,st.bx ++ [cs],st.tk⟩:=by
 simp only [H9,pP]
def litL (e:Nat) (st:St):List (Nat × Operand)->Nat->Option (List (List DV))
 | [],_=>some []
 | (j,x) :: r,i=>
  match Nat.beq j i,rv st [] x,litL e st r (i + 1) with
  | true,some d,some l=>
   match Nat.beq d.cells.length e with
   | true=>eraL d.cells (fun cs=>some (cs :: l))
   | false=>none
  | _,_,_=>none
def muB:List Nat->Nat->Bool
 | [],_=>false
 | m :: r,d=>Nat.beq m d || muB r d
def appMs (X:Ctx) (st:St) (d et e iQ:Nat) (ds:DV) (xs:List (List DV)) (K:St->Prop):Option Prop:=
 match ds,X.T.find et,X.bt with
 | .v (.slice none 0 0),some ⟨_,_,_,z⟩,[]=>some ((xs ≠ []/\xs.length<=maxLen/\xs.length * iQ <= 140737488355328)/\∀ cap,xs.length<=cap->H9 st d (xs.flatten ++ (List.replicate (cap - xs.length) (vL z)).flatten) (fun i=>.ms i e 0 xs.length cap) K)
 | _,_,_=>none
def J6 {γ:Type} (cs:List DV) (off:Nat) (vs:List DV) (K:List DV->γ):γ:=
 match vs with
 | [x]=>K (cs.set off x)
 | l=>K (cs.take off ++ l ++ cs.drop (off + l.length))
theorem EI {γ:Type} (cs:List DV) (off:Nat) (vs:List DV) (K:List DV->γ) (h:off + vs.length<=cs.length):J6 cs off vs K=K (cs.take off ++ vs ++ cs.drop (off + vs.length)):=by
 match vs,h with
 | [x],h=>
  simp only [List.length_cons,List.length_nil] at h;show K _=_;rw [List.set_eq_take_append_cons_drop,zIfP (by omega)];simp
 | [],_=>rfl
 | _ :: _ :: _,_=>rfl
def effC (X:Ctx) (st:St) (o:Oper) (K:St->Prop):Option Prop:=
 match effR X st o.op (fun s=>putK st o.dst ⟨[],s⟩ K) with
 | some p=>some p
 | none=>
 match X.still with
 | true=>none
 | false=>
  match o.op with
  | .box ty x=>
   match rv st [] x,o.dst with
   | some d,some t=>
    match d.cells with
    | []=>none
    | c :: r=>
     match btOK X.bt st.bx.length ty with
     | true=>some (H7 st t (c :: r) K)
     | false=>none
   | _,_=>none
  | .alloc t=>
   match X.T.find t,o.dst with
   | some ⟨_,_,_,z⟩,some d=>
    match btOK X.bt st.bx.length t with
    | true=>some (H7 st d (vL z) K)
    | false=>none
   | _,_=>none
  | .store t x y=>
   match rv st [] x,rv st [] y,X.T.sz t with
   | some (.loc i off),some d,some n=>
    match st.bx[i]? with
    | some cs=>some (Br (Nat.blt 0 n && Nat.beq d.cells.length n && Nat.ble (off + n) cs.length)
      (putK st o.dst ⟨[],.ud⟩ fun st'=>splF cs off d.cells fun cs'=>H8 st' i cs' K) False)
    | none=>none
   | some (.el i off),some d,some n=>
    match st.bx[i]? with
    | some cs=>some (Br (Nat.blt 0 n && Nat.beq d.cells.length n) (off + n<=cs.length/\putK st o.dst ⟨[],.ud⟩ fun st'=>J6 cs off d.cells fun cs'=>H8 st' i cs' K) False)
    | none=>none
   | _,_,_=>none
  | .makeSlice t l c=>
   match X.T.find t,rv st [] l,rv st [] c,o.dst with
   | some ⟨_,_,.sl et e iQ,_⟩,some (.v (.int _ n)),some (.v (.int _ m)),some d=>
    match X.T.find et,Nat.blt 0 e with
    | some ⟨_,_,_,z⟩,true=>
     match btOK X.bt st.bx.length et with
     | false=>none
     | true=>some ((n=m/\0<=n/\(iQ:Int) * n<=281474976710656/\n<=4611686018427387904)/\H9 st d (List.replicate n.toNat (vL z)).flatten (fun i=>.ms i e 0 n.toNat n.toNat) K)
    | _,_=>none
   | _,_,_,_=>none
  | .convert s d x=>
   match rv st [] x,X.T.find s,X.T.find d,o.dst with
   | some (.ms i 1 off n _),some ⟨_,_,.sl et 1 _,_⟩,some ⟨_,_,.str,_⟩,some dd=>
    match st.bx[i]?,X.T.find et with
    | some cs,some ⟨_,_,.int .u8,_⟩=>some (∃ bs:List UInt8,(cs.drop off).take n=u8L bs/\bs.length=n/\putK st (some dd) ⟨[],.v (.string ⟨bs.toArray⟩)⟩ K)
    | _,_=>none
   | _,_,_,_=>none
  | .buildSlice t len parts=>
   match X.T.find t,o.dst with
   | some ⟨_,_,.sl _ e _,_⟩,some d=>
    match muB X.mu d with
    | true=>none
    | false=>
    match litL e st parts.toList 0 with
    | some es=>
     match Nat.beq es.length len && (Nat.blt 0 len && Nat.blt 0 e && Nat.ble (len * e) 16777216) with
     | true=>some (putK st (some d) ⟨[],.sl e es none⟩ K)
     | false=>none
    | none=>none
   | _,_=>none
  | .call c=>
   match c.callee with
   | .builtin .append=>
    match c.args.toList,c.argTypes.toList,o.dst with
    | [s,x],[t,t'],some d=>
     match X.T.find t,Nat.beq t t',rv st [] s,rv st [] x with
     | some ⟨_,_,.sl et e iQ,_⟩,true,some ds,some (.sl e' xs _)=>
      match Nat.beq e e' && Nat.blt 0 e with
      | true=>
       match muB X.mu d with
       | true=>appMs X st d et e iQ ds xs K
       | false=>
       match ownD ds with
       | true=>some (appOwn st d et e iQ ds xs K)
       | false=>some (appTo st ds (fun n tk' es=>(es.length + xs.length<=maxLen/\(es.length + xs.length) * iQ <= 140737488355328) /\
        match st with
        | ⟨sl,bx,_⟩=>K ⟨(d,⟨[],.sl e (es ++ xs) (some n)⟩) :: sl,bx,tk'⟩) xs.length et e)
      | false=>none
     | _,_,_,_=>none
    | _,_,_=>none
   | _=>none
  | _=>none
def eff (X:Ctx) (G:List It->St->Prop) (o:Oper) (k:List It) (st:St):Prop:=
 match effC X st o (G k) with
 | some p=>p
 | none=>
  match o.op with
  | .call c=>
   match c.callee with
   | .value f=>
    match rv st [] f,argsV st [] c.args.toList with
    | some (.fn g first captured),some l=>CallG X g (first ++ l ++ captured) o.dst k st
    | _,_=>False
   | _=>EH X o k st
  | _=>EH X o k st
def dropBlk (id:Nat):List It->Option (List It)
 | []=>none
 | .wP i :: k=>
  match Nat.beq id i with
  | true=>some k
  | false=>dropBlk id k
 | _ :: k=>dropBlk id k
def noMen (d:Nat):List (Nat × Sl)->Bool
 | []=>true
 | (_,x) :: r=>
  match x.gs with
  | []=>noMen d r
  | g :: gs=>(g :: gs).all (fun p=>!Nat.beq p.1 d) && noMen d r
def eK (nt:Nat) (sl:List (Nat × Sl)):Option Nat->Bool
 | some d=>Nat.blt d nt && noMen d sl
 | none=>true
def S4 (G:List (Nat × Bool)):Option Nat->Bool
 | some e=>G.all (fun p=>!Nat.beq p.1 e)
 | none=>true
def lastG:Nat × Bool->List (Nat × Bool)->Nat × Bool
 | p,[]=>p
 | _,q :: r=>lastG q r
def bo (d:Nat) (w:Bool) (x:Nat × Sl):Nat × Sl:=
 match Nat.beq x.1 d with
 | true=>(x.1,⟨[],.v (.bool w)⟩)
 | false=>
  match x.2.gs.contains (d,!w) with
  | true=>(x.1,⟨[],.ud⟩)
  | false=>(x.1,⟨x.2.gs.filter (fun p=>p != (d,w)),x.2.s⟩)
def filtK {γ:Type _} (p:Nat × Bool):List (Nat × Bool)->(List (Nat × Bool)->γ)->γ
 | [],K=>K []
 | q :: r,K=>
  match q != p with
  | true=>filtK p r (fun r'=>K (q :: r'))
  | false=>filtK p r K
theorem qy {γ:Type _} (p:Nat × Bool):∀ (l:List (Nat × Bool)) (K:List (Nat × Bool)->γ),filtK p l K=K (l.filter (fun q=>q != p))
 | [],K=>rfl
 | q :: r,K=>by
  simp only [filtK,List.filter_cons];cases h:(q != p)
  ·rw [qy p r K];simp
  ·rw [qy p r];simp
def res1K {γ:Type _} (d:Nat) (w:Bool) (k:Nat) (x:Sl) (K:Sl->γ):γ:=
 match Nat.beq k d with
 | true=>K ⟨[],.v (.bool w)⟩
 | false=>
  match x with
  | ⟨[],s⟩=>K ⟨[],s⟩
  | ⟨g :: gs,s⟩=>
   match (g :: gs).contains (d,!w) with
   | true=>K ⟨[],.ud⟩
   | false=>filtK (d,w) (g :: gs) (fun gs'=>K ⟨gs',s⟩)
theorem EJ {γ:Type _} (d:Nat) (w:Bool) (k:Nat) (x:Sl) (K:Sl->γ):res1K d w k x K=K (bo d w (k,x)).2:=by
 obtain ⟨gs,s⟩:=x;cases hb:Nat.beq k d
 ·cases gs with
  | nil=>simp [res1K,bo,hb]
  | cons g r=>grind [res1K,bo,qy]
 ·simp only [res1K,bo,hb]
def resL {γ:Type _} (d:Nat) (w:Bool):List (Nat × Sl)->(List (Nat × Sl)->γ)->γ
 | [],K=>K []
 | (k,x) :: r,K=>res1K d w k x (fun y=>resL d w r (fun r'=>K ((k,y) :: r')))
theorem mz (d:Nat) (w:Bool) (k:Nat) (x:Sl):(bo d w (k,x)).1=k:=by
 unfold bo;split
 ·rfl
 ·split<;>rfl
theorem u2 {γ:Type _} (d:Nat) (w:Bool):∀ (l:List (Nat × Sl)) (K:List (Nat × Sl)->γ),resL d w l K=K (l.map (bo d w))
 | [],K=>rfl
 | (k,x) :: r,K=>by
  simp only [resL,EJ,List.map_cons];rw [u2 d w r]
  grind [mz]
def St.resolve (st:St) (d:Nat) (w:Bool):St:=⟨st.sl.map (bo d w),st.bx,st.tk⟩
def sH (st:St) (d:Nat) (w:Bool) (K:St->Prop):Prop:=
 match st with
 | ⟨sl,bx,tk⟩=>resL d w sl (fun sl'=>K ⟨sl',bx,tk⟩)
theorem Bn (st:St) (d:Nat) (w:Bool) (K:St->Prop):sH st d w K=K (st.resolve d w):=by
 simp only [sH,u2,St.resolve]
def res1 (T:TT) (st:St):ResultVar->Option DV
 | .tmp t=>
  match get st.sl t with
  | some ⟨[],d⟩=>some d
  | _=>none
 | .cell a t=>
  match get st.sl a with
  | some ⟨[],.loc i off⟩=>
   match st.bx[i]? with
   | some cs=>cellsT T t cs off
   | none=>none
  | _=>none
def resD (T:TT) (st:St):List ResultVar->Option (List DV)
 | []=>some []
 | r :: rs=>
  match res1 T st r,resD T st rs with
  | some d,some l=>some (d :: l)
  | _,_=>none
def finD (X:Ctx) (st:St) (d:DV):Prop:=
 match X.fr with
 | true=>∃ d' os,Cc st.bx X.n0 X.n0 st.tk.length d' d/\jy st.bx X.n0 X.n0 st.tk.length os (st.bx.take X.n0)/\X.Φ d' os st.tk
 | false=>
  match X.n0,X.m0 with
  | 0,0=>
   match d with
   | .v x=>X.Φ (.v x) [] []
   | d=>∃ d',Cc st.bx 0 0 0 d' d/\X.Φ d' [] []
  | n0,m0=>∃ d' os,Cc st.bx n0 n0 m0 d' d/\jy st.bx n0 n0 m0 os (st.bx.take n0)/\X.Φ d' os (st.tk.take m0)
def fin (X:Ctx) (st:St):Prop:=
 match resD X.T st X.rs with
 | some []=>finD X st (.bS [])
 | some [d]=>finD X st d
 | some (d :: e :: l)=>finD X st (.bS (d :: e :: l))
 | none=>False
def go (X:Ctx):Nat->List It->St->Prop
 | 0,_,_=>False
 | _ + 1,[],st=>fin X st
 | n + 1,.wP _ :: k,st=>go X n k st
 | _ + 1,.y8 J :: _,st=>J st
 | n + 1,.ops _ [] :: k,st=>go X n k st
 | n + 1,.ops all (o :: r) :: k,st=>
  match eK X.nt st.sl o.dst with
  | false=>False
  | true=>
   match o.guard with
   | none=>
    match pureT X.P X.T st [] o.op with
    | some s=>putK st o.dst ⟨[],s⟩ (go X n (.ops all r :: k))
    | none=>eff X (go X n) o (.ops all r :: k) st
   | some (j,want)=>
    match gslot all.toList j with
    | none=>False
    | some d=>
     match get st.sl d with
     | none=>False
     | some ⟨ju,_⟩=>
      match pureT X.P X.T st ((d,want) :: ju) o.op with
      | some s=>
       match S4 ((d,want) :: ju) o.dst with
       | true=>putK st o.dst ⟨(d,want) :: ju,s⟩ (go X n (.ops all r :: k))
       | false=>False
      | none=>
       match get st.sl (lastG (d,want) ju).1 with
       | some ⟨[],.v (.bool b)⟩=>
        match ju with
        | []=>Br (b == want) (sH st d want (eff X (go X n) o (.ops all r :: k))) (sH st d (!want) fun st'=>putK st' o.dst ⟨[],.ud⟩ (go X n (.ops all r :: k)))
        | _ :: _=>Br (b == (lastG (d,want) ju).2) (sH st (lastG (d,want) ju).1 (lastG (d,want) ju).2 (go X n (.ops all (o :: r) :: k)))
          (sH st (lastG (d,want) ju).1 (!(lastG (d,want) ju).2) (go X n (.ops all (o :: r) :: k)))
       | some ⟨[],.ud⟩=>
        match ju with
        | []=>putK st o.dst ⟨[],.ud⟩ (go X n (.ops all r :: k))
        | _ :: _=>False
       | _=>False
 | n + 1,.code c :: k,st=>
  match c with
  | .skip=>go X n k st
  | .seq a b=>go X n (.code a :: .code b :: k) st
  | .block id b=>go X n (.code b :: .wP id :: k) st
  | .exit id=>
   match dropBlk id k with
   | some k'=>go X n k' st
   | none=>False
  | .cond x a b=>
   match rv st [] x with
   | some (.v (.bool b'))=>Br b' (go X n (.code a :: k) st) (go X n (.code b :: k) st)
   | _=>False
  | .region id ops d=>
   match d with
   | true=>qx X id ops k st
   | false=>go X n (.ops ops ops.toList :: k) st
  | .loop b=>oU X b k st
  | .ret=>fin X st
  | .scope c=>go X n (.code c :: k) st
  | .label _=>go X n k st
  | _=>False
end Dv
end Go.Proofs.YtfdedoiiahbnnaaGreat
namespace Go.Proofs.YtfdedoiiahbnnaaGreat
namespace Dv
open Go Go.RowKit
structure Ext (E E':En):Prop where
 c:∀ a v,E.c a=some v->E'.c a=some v
 β:∀ (i:Nat) b,E.β[i]? = some b->E'.β[i]? = some b
 tk:∀ (k:Nat) q,E.tk[k]? = some q->∃ q',E'.tk[k]? = some q' /\ ((q'.n=q.n/\E'.τ[k]? = E.τ[k]?)∨q.n < q'.n)
theorem Ext.refl (E:En):Ext E E:=⟨fun _ _ h=>h,fun _ _ h=>h,fun _ q h=>⟨q,h,.inl ⟨rfl,rfl⟩⟩⟩
theorem Ext.cl {E E':En} (h:Ext E E'):Ext E.cl E'.cl:=⟨h.c,fun _ _ h=>by simp [En.cl] at h,fun _ _ h=>by simp [En.cl] at h⟩
theorem H6.mono {E E':En} (h:Ext E E') {tk:Option Nat} {n:Nat} {y:Value} (ht:H6 E tk n y):H6 E' tk n y:=by
 intro k hk;obtain ⟨q,h1,h2,h3⟩:=ht k hk;obtain ⟨q',h4,h5⟩:=h.tk k q h1
 grind
mutual
theorem Rv.mono:∀ {d:DV} {E E':En} {v:Value},Ext E E' -> Rv E d v->Rv E' d v
 | .v x,E,E',v,_,h=>by simpa only [Rv] using h
 | .ud,E,E',v,_,h=>by simpa only [Rv] using h
 | .agg l,E,E',v,hE,h=>by
  simp only [Rv] at h ⊢;obtain ⟨vs,h1,h2,h3⟩:=h;exact ⟨vs,h1,RvL.mono hE h2,h3⟩
 | .bS l,E,E',v,hE,h=>by
  simp only [Rv] at h ⊢;obtain ⟨vs,h1,h2⟩:=h;exact ⟨vs,h1,RvL.mono hE h2⟩
 | .sl e es tk,E,E',v,hE,h=>by
  simp only [Rv] at h ⊢;obtain ⟨b,n,cap,h1,h2,h3,h4⟩:=h;exact ⟨b,n,cap,h1,h2,fun hn=>⟨(h3 hn).1,RvEs.mono hE.cl (h3 hn).2⟩,h4.mono hE⟩
 | .pt cs off,E,E',v,hE,h=>by
  simp only [Rv] at h ⊢;obtain ⟨b,p,h1,h2⟩:=h;exact ⟨b,p,h1,RvAt.mono hE.cl h2⟩
 | .loc i off,E,E',v,hE,h=>by
  simp only [Rv] at h ⊢;obtain ⟨b,h1,h2⟩:=h;exact ⟨b,hE.β i b h1,h2⟩
 | .el i off,E,E',v,hE,h=>by
  simp only [Rv] at h ⊢;obtain ⟨b,h1,h2⟩:=h;exact ⟨b,hE.β i b h1,h2⟩
 | .ms i e off len cap,E,E',v,hE,h=>by
  simp only [Rv] at h ⊢;obtain ⟨b,a,h1,h2⟩:=h;exact ⟨b,a,hE.β i b h1,h2⟩
 | .fn f a b,E,E',v,hE,h=>by
  simp only [Rv] at h ⊢;obtain ⟨l,r,h1,h2,h3⟩:=h;exact ⟨l,r,h1,RvL.mono hE h2,RvL.mono hE h3⟩
 | .lH t x,E,E',v,hE,h=>by
  simp only [Rv] at h ⊢;obtain ⟨z,h1,h2⟩:=h;exact ⟨z,h1,Rv.mono hE h2⟩
theorem RvL.mono:∀ {l:List DV} {E E':En} {vs:List Value},Ext E E' -> RvL E l vs->RvL E' l vs
 | [],E,E',vs,_,h=>by simpa only [RvL] using h
 | d :: r,E,E',vs,hE,h=>by
  simp only [RvL] at h ⊢;obtain ⟨v,s,h1,h2,h3⟩:=h;exact ⟨v,s,h1,Rv.mono hE h2,RvL.mono hE h3⟩
theorem RvAt.mono:∀ {l:List DV} {E E':En} {b p:Nat},Ext E E' -> RvAt E b p l->RvAt E' b p l
 | [],E,E',b,p,_,h=>by simp only [RvAt]
 | d :: r,E,E',b,p,hE,h=>by
  simp only [RvAt] at h ⊢;obtain ⟨⟨v,h1,h2,h3⟩,h4⟩:=h;exact ⟨⟨v,hE.c _ v h1,h2,Rv.mono hE h3⟩,RvAt.mono hE h4⟩
theorem RvEs.mono:∀ {l:List (List DV)} {E E':En} {e b o:Nat},Ext E E' -> RvEs E e b o l->RvEs E' e b o l
 | [],E,E',e,b,o,_,h=>by simp only [RvEs]
 | d :: r,E,E',e,b,o,hE,h=>by
  simp only [RvEs] at h ⊢;exact ⟨h.1,RvAt.mono hE h.2.1,RvEs.mono hE h.2.2⟩
end
theorem RvC.mono {E E':En} (hE:Ext E E') {l:List DV} {vs:List Value} (h:RvC E l vs):RvC E' l vs:=⟨RvL.mono hE h.1,h.2⟩
theorem my.mono {c c':Addr->Option Value} (h:∀ a v,c a=some v->c' a=some v) {q:TkE} {cur:Array Value} (ho:my c q cur):my c' q cur:=fun cs hc=>
 ⟨(ho cs hc).1,(ho cs hc).2.mono (E:=⟨c,[],[],[]⟩) (E':=⟨c',[],[],[]⟩) ⟨h,fun _ _ h=>by simp at h,fun _ _ h=>by simp at h⟩⟩
theorem my.none {c:Addr->Option Value} {q:TkE} {cur:Array Value} (h:q.own=none):my c q cur:=fun cs hc=>by rw [h] at hc;cases hc
theorem Ext.Ls {E:En} {E':En} (h:∀ a v,E.c a=some v->E'.c a=some v):Ext E.cl E':=⟨h,fun _ _ h=>by simp [En.cl] at h,fun _ _ h=>by simp [En.cl] at h⟩
theorem Ext.Bo {E E':En} (h:∀ a v,E.c a=some v->E'.c a=some v):Ext E.cl E'.cl:=⟨h,fun _ _ h=>by simp [En.cl] at h,fun _ _ h=>by simp [En.cl] at h⟩
theorem Ext.un (E:En):Ext E.cl E:=Ext.Ls fun _ _ h=>h
theorem RvL.length:∀ {l:List DV} {E:En} {vs:List Value},RvL E l vs->vs.length=l.length
 | [],E,vs,h=>by simp only [RvL] at h;subst h;rfl
 | d :: r,E,vs,h=>by
  simp only [RvL] at h;obtain ⟨v,s,rfl,_,h3⟩:=h;simp [RvL.length h3]
theorem RvL.get:∀ {l:List DV} {E:En} {vs:List Value} {i:Nat} {d:DV},RvL E l vs->l[i]? = some d->∃ v,vs[i]? = some v/\Rv E d v
 | [],E,vs,i,d,h,hi=>by simp at hi
 | d :: r,E,vs,0,d',h,hi=>by
  simp only [RvL] at h
  grind
 | d :: r,E,vs,i + 1,d',h,hi=>by
  simp only [RvL] at h;obtain ⟨v,s,rfl,_,h3⟩:=h;simp only [List.getElem?_cons_succ] at hi ⊢;exact RvL.get h3 hi
theorem RvL.append:∀ {l l':List DV} {E:En} {vs vs':List Value},RvL E l vs->RvL E l' vs' -> RvL E (l ++ l') (vs ++ vs')
 | [],l',E,vs,vs',h,h'=>by simp only [RvL] at h;subst h;simpa using h'
 | d :: r,l',E,vs,vs',h,h'=>by
  simp only [RvL] at h;obtain ⟨v,s,rfl,h2,h3⟩:=h;simp only [List.cons_append,RvL];exact ⟨v,_,rfl,h2,RvL.append h3 h'⟩
theorem RvL.take:∀ {l:List DV} {E:En} {vs:List Value} (n:Nat),RvL E l vs->RvL E (l.take n) (vs.take n)
 | l,E,vs,0,h=>by simp [RvL]
 | [],E,vs,n + 1,h=>by simp only [RvL] at h;subst h;simp [RvL]
 | d :: r,E,vs,n + 1,h=>by
  simp only [RvL] at h;obtain ⟨v,s,rfl,h2,h3⟩:=h;simp only [List.take_succ_cons,RvL];exact ⟨v,_,rfl,h2,RvL.take n h3⟩
theorem RvL.drop:∀ {l:List DV} {E:En} {vs:List Value} (n:Nat),RvL E l vs->RvL E (l.drop n) (vs.drop n)
 | l,E,vs,0,h=>by simpa using h
 | [],E,vs,n + 1,h=>by simp only [RvL] at h;subst h;simp [RvL]
 | d :: r,E,vs,n + 1,h=>by
  simp only [RvL] at h;obtain ⟨v,s,rfl,h2,h3⟩:=h;simp only [List.drop_succ_cons];exact RvL.drop n h3
theorem RvC.append {l l':List DV} {E:En} {vs vs':List Value} (h:RvC E l vs) (h':RvC E l' vs'):RvC E (l ++ l') (vs ++ vs'):=
 ⟨h.1.append h'.1,fun v hv=>(List.mem_append.1 hv).elim (h.2 v) (h'.2 v)⟩
theorem RvC.take {l:List DV} {E:En} {vs:List Value} (n:Nat) (h:RvC E l vs):RvC E (l.take n) (vs.take n):=⟨h.1.take n,fun v hv=>h.2 v (List.mem_of_mem_take hv)⟩
theorem RvC.drop {l:List DV} {E:En} {vs:List Value} (n:Nat) (h:RvC E l vs):RvC E (l.drop n) (vs.drop n):=⟨h.1.drop n,fun v hv=>h.2 v (List.mem_of_mem_drop hv)⟩
theorem rvL_cons {E:En} {d:DV} {v:Value} {l:List DV} {vs:List Value} (h1:Rv E d v) (h2:RvL E l vs):RvL E (d :: l) (v :: vs):=by
 simp only [RvL];exact ⟨v,vs,rfl,h1,h2⟩
theorem bW (E:En):RvL E [] []:=by simp only [RvL]
theorem rvL_one {E:En} {d:DV} {v:Value} (h1:Rv E d v):RvL E [d] [v]:=rvL_cons h1 (bW E)
theorem dQ {E:En} {x:Value} (h:x.oneCell'=true):Rv E (.v x) x:=by unfold Rv;exact ⟨rfl,h⟩
theorem oV (E:En):Rv E .ud undef:=by simp only [Rv]
theorem cells_one {x:Value} (h:x.oneCell'=true):x.cells = #[x]:=by
 cases x<;>first | rfl | simp [Value.oneCell'] at h
theorem RvAt.drop {E:En} {b:Nat}:∀ {p:Nat} {cs:List DV} (k:Nat),RvAt E b p cs->RvAt E b (p + k) (cs.drop k)
 | p,cs,0,h=>by simpa using h
 | p,[],k + 1,h=>by simp only [List.drop_nil,RvAt]
 | p,d :: r,k + 1,h=>by
  simp only [RvAt] at h;have:=RvAt.drop k h.2
  grind
theorem RvAt.take {E:En} {b:Nat}:∀ {p:Nat} {cs:List DV} (k:Nat),RvAt E b p cs->RvAt E b p (cs.take k)
 | p,cs,0,h=>by simp only [List.take_zero,RvAt]
 | p,[],k + 1,h=>by simp only [List.take_nil,RvAt]
 | p,d :: r,k + 1,h=>by
  simp only [List.take_succ_cons,RvAt] at h ⊢;exact ⟨h.1,RvAt.take k h.2⟩
def DV.EK:DV->Prop
 | .ud=>False
 | .bS _=>False
 | _=>True
theorem Rv.cells {E:En}:∀ {d:DV} {v:Value},Rv E d v->d.EK->RvC E d.cells v.cells.toList
 | .v x,v,h,_=>by
  have h0:=h;simp only [Rv] at h;obtain ⟨rfl,h2⟩:=h;rw [cells_one h2];exact ⟨rvL_one h0,by simpa using h2⟩
 | .agg l,v,h,_=>by
  simp only [Rv] at h;obtain ⟨vs,rfl,h2,h3⟩:=h;simp only [DV.cells,Value.cells];exact ⟨by simpa using h2,by simpa using h3⟩
 | .sl e es tk,v,h,_=>by
  have h0:=h;simp only [Rv] at h;obtain ⟨b,n,cap,rfl,_⟩:=h;exact ⟨rvL_one h0,by simp [Value.cells,Value.oneCell']⟩
 | .pt cs off,v,h,_=>by
  have h0:=h;simp only [Rv] at h;obtain ⟨b,p,rfl,_⟩:=h;exact ⟨rvL_one h0,by simp [Value.cells,Value.oneCell']⟩
 | .loc i off,v,h,_=>by
  have h0:=h;simp only [Rv] at h;obtain ⟨b,_,rfl⟩:=h;exact ⟨rvL_one h0,by simp [Value.cells,Value.oneCell']⟩
 | .el i off,v,h,_=>by
  have h0:=h;simp only [Rv] at h;obtain ⟨b,_,rfl⟩:=h;exact ⟨rvL_one h0,by simp [Value.cells,Value.oneCell']⟩
 | .ms i e off len cap,v,h,_=>by
  have h0:=h;simp only [Rv] at h;obtain ⟨b,a,_,_,rfl,_⟩:=h;exact ⟨rvL_one h0,by simp [Value.cells,Value.oneCell']⟩
 | .fn f a b,v,h,_=>by
  have h0:=h;simp only [Rv] at h;obtain ⟨l,r,rfl,_⟩:=h;exact ⟨rvL_one h0,by simp [Value.cells,Value.oneCell']⟩
 | .lH t x,v,h,_=>by
  have h0:=h;simp only [Rv] at h;obtain ⟨z,rfl,_⟩:=h;exact ⟨rvL_one h0,by simp [Value.cells,Value.oneCell']⟩
 | .ud,v,_,hf=>hf.elim
 | .bS _,v,_,hf=>hf.elim
theorem wR {d:DV} (h:d.cells ≠ []):d.EK:=by
 cases d<;>first | trivial | exact (h rfl).elim
theorem gL {d:DV} {n:Nat} (h:d.cells.length=n) (hn:n≠0):d.EK:=wR fun e=>hn (by rw [<- h,e];rfl)
theorem rvC_vL {E:En}:∀ {l:List Value},(∀ v∈l,v.oneCell'=true)->RvC E (vL l) l
 | [],_=>⟨bW E,by simp⟩
 | x :: r,h=>by
  have ih:=rvC_vL (E:=E) (l:=r) (fun v hv=>h v (gA _ hv));exact ⟨rvL_cons (dQ (h x (by simp))) ih.1,h⟩
theorem RvAt.sI:∀ {cs:List DV} {E:En} {b p:Nat},RvAt E b p cs->∃ arr,RvC E cs arr/\∀ (j:Nat) u,arr[j]? = some u->E.c ⟨b,p + j,none⟩=some u
 | [],E,b,p,_=>⟨[],⟨bW E,by simp⟩,by simp⟩
 | d :: r,E,b,p,h=>by
  simp only [RvAt] at h;obtain ⟨⟨v,h1,h2,h3⟩,h4⟩:=h;obtain ⟨arr,h5,h6⟩:=RvAt.sI h4;refine ⟨v :: arr,⟨rvL_cons h3 h5.1,?_⟩,?_⟩
  ·intro u hu;rcases cY hu with rfl | hu
   ·exact h2
   ·exact h5.2 u hu
  all_goals grind
theorem u3:∀ {cs:List DV} {E:En} {b p:Nat} {arr:List Value},RvC E cs arr->(∀ (j:Nat) u,arr[j]? = some u->E.c ⟨b,p + j,none⟩=some u)->RvAt E b p cs
 | [],E,b,p,arr,_,_=>by simp only [RvAt]
 | d :: r,E,b,p,arr,h,hc=>by
  obtain ⟨h,h1⟩:=h;simp only [RvL] at h;obtain ⟨v,s,rfl,h2,h3⟩:=h;simp only [RvAt];refine ⟨⟨v,by simpa using hc 0 v rfl,h1 v (by simp),h2⟩,u3 ⟨h3,fun u hu=>h1 u (gA _ hu)⟩ fun j u hj=>?_⟩;have:=hc (j + 1) u (sU hj)
  grind
theorem RvEs.get:∀ {es:List (List DV)} {E:En} {e b o j:Nat} {cs:List DV},RvEs E e b o es->es[j]? = some cs->cs.length=e/\RvAt E b (o + j * e) cs
 | [],E,e,b,o,j,cs,_,hj=>by simp at hj
 | x :: r,E,e,b,o,0,cs,h,hj=>by
  simp only [RvEs] at h
  grind
 | x :: r,E,e,b,o,j + 1,cs,h,hj=>by
  simp only [RvEs] at h;simp only [List.getElem?_cons_succ] at hj;have:=RvEs.get h.2.2 hj
  grind
theorem Bp:∀ {es:List (List DV)} {E:En} {e b o:Nat},(∀ (j:Nat) cs,es[j]? = some cs->cs.length=e/\RvAt E b (o + j * e) cs)->RvEs E e b o es
 | [],E,e,b,o,_=>by simp only [RvEs]
 | x :: r,E,e,b,o,h=>by
  simp only [RvEs];have h0:=h 0 x rfl;refine ⟨h0.1,by simpa using h0.2,Bp fun j cs hj=>?_⟩;have:=h (j + 1) cs (sU hj)
  grind
theorem Lt:∀ {a b:Value},veq a b=true->a=b/\b.oneCell'=true:=by
 intro a b h;unfold veq at h;split at h<;>first | (cases h;done) | skip
 ·simp at h;subst h;exact ⟨rfl,rfl⟩
 ·simp at h;obtain ⟨rfl,rfl⟩:=h;exact ⟨rfl,rfl⟩
 ·rename_i s t;simp only [bA,decide_eq_true_eq] at h;refine ⟨?_,rfl⟩
  simp_all
 all_goals exact ⟨rfl,rfl⟩
theorem u4:∀ {a b:List Value},veqL a b=true->a=b/\∀ v∈b,v.oneCell'=true
 | [],[],_=>⟨rfl,by simp⟩
 | x :: r,y :: s,h=>by
  simp only [veqL,bA] at h;obtain ⟨rfl,h1⟩:=Lt h.1;obtain ⟨rfl,h2⟩:=u4 h.2
  grind
 | [],_ :: _,h=>by simp [veqL] at h
 | _ :: _,[],h=>by simp [veqL] at h
theorem TT.u5 {P:Program}:∀ {T:TT},T.ok P=true->∀ {t:Nat} {e:TE},T.find t=some e->e.ok P t=true
 | .nil,_,t,e,hf=>by cases hf
 | .ag k e' l r,h,t,e,hf=>by
  simp only [TT.ok,bA] at h;simp only [TT.find] at hf;split at hf
  ·simp_all
  ·split at hf
   ·exact TT.u5 h.1.2 hf
   ·exact TT.u5 h.2 hf
theorem oW {P:Program} {t:TypeId}:∀ {l:List (Nat × Nat)} {i:Nat},okOffs P t i l=true->∀ {f:Nat} {p:Nat × Nat},l[f]? = some p->offOf P t (i + f)=some p
 | [],i,_,f,p,hf=>by simp at hf
 | q :: r,i,h,f,p,hf=>by
  simp only [okOffs,bA,decide_eq_true_eq] at h
  cases f with
  | zero=>simp only [List.getElem?_cons_zero,oI] at hf;subst hf;exact h.1
  | succ f=>
   simp only [List.getElem?_cons_succ] at hf;have:=oW h.2 hf
   grind
section
variable {P:Program} {T:TT} (hT:T.ok P=true)
include hT
theorem te_parts {t:Nat} {e:TE} (hf:T.find t=some e):fU P t=some e.size/\aggOf P t=some e.agg/\zok P t e.agg e.z=true/\(match e.kd with
 | .st wN=>(match P.underlying t with
  | some (.struct fs)=>fs.all (fun f=>(fU P f.type).isSome)
  | _=>false) && okOffs P t 0 wN
 | .sl et s iQ=>decide (slOf P t=some (et,s,iQ))
 | .ar n s=>decide (arrOf P t=some (n,s))
 | .int k=>match P.underlying t with
  | some (.int k')=>decide (k'=k)
  | _=>false
 | .bool=>match P.underlying t with
  | some .bool=>true
  | _=>false
 | .str=>match P.underlying t with
  | some .string=>true
  | _=>false
 | .ptr et=>match P.underlying t with
  | some (.pointer S1)=>decide (S1=et)
  | _=>false
 | .lH=>true
 | .fn=>true
 | .ot=>true)=true:=by
 have:=TT.u5 hT hf;simp only [TE.ok,bA,decide_eq_true_eq] at this;exact ⟨this.1.1.1,this.1.1.2,this.1.2,this.2⟩
theorem Bq {t n:Nat} (hf:T.sz t=some n):fU P t=some n:=by
 unfold TT.sz at hf;split at hf
 ·rename_i he;simp only [oI] at hf;subst hf;exact (te_parts hT he).1
 ·cases hf
theorem nP {s f:Nat} {p:Nat × Nat} (hf:T.off s f=some p):offOf P s f=some p:=by
 unfold TT.off at hf;split at hf
 ·rename_i he;have:=(te_parts hT he).2.2.2;simp only [bA] at this;have:=oW this.2 hf;simpa using this
 ·cases hf
theorem dV {t:Nat} {n:Nat} {b:Bool} {et e iQ:Nat} {z:List Value} (hf:T.find t=some ⟨n,b,.sl et e iQ,z⟩):P.underlying t=some (.slice et)/\∃ i z,P.info? et=some i/\i.zero=some z/\i.size=e/\i.bytes=iQ /\ z.cells.size=e:=by
 have:=(te_parts hT hf).2.2.2;simp only [decide_eq_true_eq] at this;unfold slOf at this
 grind
theorem ke {t:Nat} {n m:Nat} {b:Bool} {e:Nat} {z:List Value} (hf:T.find t=some ⟨n,b,.ar m e,z⟩):∃ et,P.underlying t=some (.array m et)/\fU P et=some e:=by
 have:=(te_parts hT hf).2.2.2;simp only [decide_eq_true_eq] at this;unfold arrOf at this;split at this
 all_goals simp_all
theorem pT {t:Nat} {n:Nat} {b:Bool} {k:IntKind} {z:List Value} (hf:T.find t=some ⟨n,b,.int k,z⟩):P.underlying t=some (.int k):=by
 have:=(te_parts hT hf).2.2.2
 grind
theorem wS {t:Nat} {n:Nat} {b:Bool} {z:List Value} (hf:T.find t=some ⟨n,b,.bool,z⟩):P.underlying t=some .bool:=by
 have:=(te_parts hT hf).2.2.2
 grind
theorem kR {t:Nat} {n:Nat} {b:Bool} {z:List Value} (hf:T.find t=some ⟨n,b,.str,z⟩):P.underlying t=some .string:=by
 have:=(te_parts hT hf).2.2.2
 grind
theorem mA {t:Nat} {n:Nat} {b:Bool} {et:Nat} {z:List Value} (hf:T.find t=some ⟨n,b,.ptr et,z⟩):P.underlying t=some (.pointer et):=by
 have:=(te_parts hT hf).2.2.2
 grind
theorem EL {t:Nat} {e:TE} (hf:T.find t=some e) (h1:e.kd ≠ .lH) (h2:e.kd ≠ .ot) (h3:e.kd ≠ .fn):∃ d,P.underlying t=some d/\∀ m,d ≠ .interface m:=by
 obtain ⟨n,b,kd,z⟩:=e;simp only at h1 h2 h3
 cases kd with
 | st wN=>
  have:=(te_parts hT hf).2.2.2
  grind
 | sl et e iQ=>exact ⟨_,(dV hT hf).1,fun m hm=>by cases hm⟩
 | ar n e=>obtain ⟨et,hu,_⟩:=ke hT hf;exact ⟨_,hu,fun m hm=>by cases hm⟩
 | int k=>exact ⟨_,pT hT hf,fun m hm=>by cases hm⟩
 | bool=>exact ⟨_,wS hT hf,fun m hm=>by cases hm⟩
 | str=>exact ⟨_,kR hT hf,fun m hm=>by cases hm⟩
 | ptr et=>exact ⟨_,mA hT hf,fun m hm=>by cases hm⟩
 | fn=>exact (h3 rfl).elim
 | lH=>exact (h1 rfl).elim
 | ot=>exact (h2 rfl).elim
theorem EM {t:Nat} {e:TE} (hf:T.find t=some e):∃ d,P.underlying t=some d:=by
 have:=(te_parts hT hf).2.1;unfold aggOf at this
 grind
theorem mB {t:Nat} {e:TE} (hf:T.find t=some e):∃ v,tf P t=some v/\v.cells.toList=e.z/\(∀ u∈e.z,u.oneCell'=true)/\(e.agg=true->v = .agg e.z.toArray):=by
 have:=(te_parts hT hf).2.2.1;unfold zok at this;split at this
 ·rename_i cs hz;simp only [bA] at this;obtain ⟨h1,h2⟩:=u4 this.2;exact ⟨_,hz,h1,h2,fun _=>by rw [<- h1]⟩
 ·rename_i v hna hz;simp only [bA,Bool.not_eq_true'] at this;obtain ⟨h1,h2⟩:=u4 this.2;refine ⟨_,hz,?_,h2,fun h=>by rw [this.1] at h;cases h⟩;rw [<- h1];have hv:v.oneCell'=true:=h2 v (by rw [<- h1];simp);rw [cells_one hv]
 ·cases this
end
theorem jz {P:Program} {T:TT} (hT:T.ok P=true) {E:En} {cs:List DV} {arr:List Value} (hc:RvC E cs arr) {t off b p:Nat} {d:DV} (h:cellsT T t cs off=some d) :
  ∃ v,Rv E d v/\∀ w:World,(∀ (j:Nat) u,arr[j]? = some u->w.cell? ⟨b,p + j,none⟩=some u)->(loadVar t ⟨b,p + off,none⟩).run P w = .ok v w:=by
 unfold cellsT at h;split at h
 ·rename_i n _ _ he;have Ia:=(te_parts hT he).2.1;have cR:=(te_parts hT he).1;rw [qv] at h;split at h
  ·rename_i hl;simp only [oI] at h;subst h;have mC:=(hc.drop off).take n;refine ⟨.agg ((arr.drop off).take n).toArray,by simp only [Rv];exact ⟨_,rfl,mC.1,mC.2⟩,fun w hw=>?_⟩;have hlen:((arr.drop off).take n).length=n:=by rw [mC.1.length];exact hl
   have:=run_loadCells_list (P:=P) w ⟨b,p + off,none⟩ ((arr.drop off).take n) (fun j v hj=>by
    rw [Addr.add_lit];rw [bM] at hj;split at hj
    ·rw [List.getElem?_drop] at hj;have:=hw _ _ hj;rw [show p + off + j=p + (off + j) by omega];exact this
    ·cases hj)
   rw [hlen] at this;simp [loadVar,gV Ia,aG cR,this]
  ·cases h
 ·rename_i _ he;have Ia:=(te_parts hT he).2.1;obtain ⟨v,hv,hr⟩:=hc.1.get h;refine ⟨v,hr,fun w hw=>?_⟩;simp [loadVar,gV Ia,hw _ _ hv]
 ·cases h
theorem zl {P:Program} {T:TT} (hT:T.ok P=true) {E:En} {cs:List DV} {arr:List Value} (hc:RvC E cs arr) {t off:Nat} {d:DV} (h:cellsT T t cs off=some d) :
  ∃ v,Rv E d v/\∀ w:World,(part t arr.toArray off).run P w = .ok v w:=by
 unfold cellsT at h;split at h
 ·rename_i n _ _ he;have Ia:=(te_parts hT he).2.1;have cR:=(te_parts hT he).1;rw [qv] at h;split at h
  ·rename_i hl;simp only [oI] at h;subst h;have mC:=(hc.drop off).take n;refine ⟨.agg ((arr.drop off).take n).toArray,by simp only [Rv];exact ⟨_,rfl,mC.1,mC.2⟩,fun w=>?_⟩;simp only [part,Sem.run_bind,gV Ia,Result.andThen_ok,if_true,aG cR,Sem.run_pure,Result.ok.injEq,Value.agg.injEq,and_true];apply Array.ext';simp
  ·cases h
 ·rename_i _ he;have Ia:=(te_parts hT he).2.1;obtain ⟨v,hv,hr⟩:=hc.1.get h;refine ⟨v,hr,fun w=>?_⟩;simp [part,gV Ia,hv]
 ·cases h
end Dv
end Go.Proofs.YtfdedoiiahbnnaaGreat
namespace Go.Proofs.YtfdedoiiahbnnaaGreat
namespace Dv
open Go Go.RowKit
def oX:Op->Bool
 | .call c=>
  match c.callee with
  | .builtin .len=>false
  | .builtin .max=>false
  | .builtin .min=>false
  | _=>true
 | .store .. | .alloc .. | .box .. | .buildSlice .. | .makeSlice .. | .makeMap .. | .mapUpdate ..=>true
 | _=>false
def nQ:Op->Bool
 | .load .. | .convert ..=>true
 | _=>false
structure Rl (E:En) (bx:List (List DV)) (C:World->Prop) (sl:List (Nat × Sl)) (a:Act):Prop where
 tm:∀ i x,get sl i=some x->(Holds a.tmps x.gs->∃ v,a.tmps[i]? = some v/\Rv E x.s v)/\(¬ Holds a.tmps x.gs->a.tmps[i]? = some undef)
 dn:∀ (i:Nat) cs,bx[i]? = some cs->∃ b arr,E.β[i]? = some b/\RvC E cs arr/\∀ w:World,C w->∀ (j:Nat) u,arr[j]? = some u->w.cell? ⟨b,j,none⟩=some u
 cc:∀ a v,E.c a=some v->∀ w:World,C w->w.cell? a=some v
theorem ct (k i:Nat) (x:Sl) (r:List (Nat × Sl)):get ((k,x) :: r) i=if k=i then some x else get r i:=by
 simp only [get];split
 ·rename_i h;rw [zIfP (sU h)]
 ·rename_i h;rw [ah (fun e=>by rw [e,Nat.beq_refl] at h;cases h)]
theorem aM (tmps:Array Value):Holds tmps []:=fun p hp=>by cases hp
theorem gW {tmps:Array Value} {d:Nat} {b:Bool} {G:List (Nat × Bool)} (h1:tmps[d]? = some (.bool b)) (h2:Holds tmps G):Holds tmps ((d,b) :: G):=by
 intro p hp
 cases hp with
 | head=>exact h1
 | tail _ hp=>exact h2 p hp
theorem nR {tmps:Array Value} {G:List (Nat × Bool)} (hG:Holds tmps G):∀ {gs:List (Nat × Bool)},subG gs G=true->Holds tmps gs
 | [],_=>fun p hp=>by cases hp
 | q :: r,h=>by
  simp only [subG,bA] at h;intro p hp
  cases hp with
  | head=>exact hG q (by simpa using h.1)
  | tail _ hp=>exact nR hG h.2 p hp
theorem gY {E:En} {b:Bool} {v:Value} (h:Rv E (.v (.bool b)) v):v = .bool b:=by
 unfold Rv at h;exact h.1
theorem bH {E:En} {k:IntKind} {n:Int} {v:Value} (h:Rv E (.v (.int k n)) v):v = .int k n:=by
 unfold Rv at h;exact h.1
theorem bn {E:En} {x v:Value} (h:Rv E (.v x) v):v=x:=by
 unfold Rv at h;exact h.1
section
variable {P:Program} {T:TT} {E:En} {C:World->Prop} {st:St} {a:Act}
theorem bu (h:Rl E st.bx C st.sl a) {G:List (Nat × Bool)} (hG:Holds a.tmps G) {x:Operand} {d:DV} (hx:rv st G x=some d):Rv E d (a.eval x):=by
 cases x with
 | tmp t=>
  simp only [rv] at hx;split at hx
  ·rename_i gs s' hg;split at hx
   ·rename_i hs;simp only [oI] at hx;subst hx;obtain ⟨v,h1,h2⟩:=(h.tm t _ hg).1 (nR hG hs);have:a.eval (.tmp t)=v:=by simp [Act.eval,Array.getD_eq_getD_getElem?,h1]
    rw [this];exact h2
   ·cases hx
  ·cases hx
 | const v=>
  simp only [rv] at hx;split at hx
  ·rename_i hv;simp only [oI] at hx;subst hx;exact dQ hv
  ·cases hx
 | global g=>simp only [rv,oI] at hx;subst hx;exact dQ rfl
 | func f=>simp only [rv,oI] at hx;subst hx;unfold Rv;exact ⟨[],[],rfl,bW E,bW E⟩
theorem fu {op:BinOp} {t:TypeId} {x y:Operand} {u v:Value} (w:World) (h:∀ l,u ≠ .agg l) (h2:∀ t' z,u ≠ .iface t' z) (h3:u ≠ .nilIface) (h4:∀ l,v ≠ .agg l) (h5:∀ t' z,v ≠ .iface t' z) (h6:v ≠ .nilIface):(eqGuard op t x y u v).run P w = .ok () w:=by
 cases op<;>first
  | rfl
  | (cases u<;>first | (exact (h _ rfl).elim) | (exact (h2 _ _ rfl).elim) | (exact (h3 rfl).elim) | (cases v<;>first | rfl | (exact (h4 _ rfl).elim) | (exact (h5 _ _ rfl).elim) | (exact (h6 rfl).elim)))
theorem Cx (hT:T.ok P=true) {op:BinOp} {t:TypeId} {s u y:DV} {x z:Value} (h:binD T op t s u=some y) (h1:Rv E s x) (h2:Rv E u z) :
  ∃ v,Rv E y v/\∀ (w:World) (o1 o2:Operand),(eqGuard op t o1 o2 x z).run P w = .ok () w/\(binOp op t x z).run P w = .ok v w:=by
 unfold binD at h;split at h
 ·rename_i k p k' q;have e1:=bn h1;have e2:=bn h2;subst e1 e2;split at h
  ·rename_i hk;subst hk
   cases hv:binI op k p q with
   | none=>simp [Cw,hv] at h
   | some v=>
    simp only [Cw,hv,oI] at h;subst h;refine ⟨v,dQ ?_,fun w o1 o2=>⟨fu w (by simp) (by simp) (by simp) (by simp) (by simp) (by simp),EC hv t w⟩⟩;cases op<;>simp [binI] at hv<;>first | (subst hv;rfl) | (obtain ⟨n,_,rfl⟩:=hv;rfl)
  ·cases h
 ·rename_i p q;have e1:=bn h1;have e2:=bn h2;subst e1 e2
  cases hv:binS op p q with
  | none=>simp [Cw,hv] at h
  | some v=>
   simp only [Cw,hv,oI] at h;subst h;refine ⟨v,dQ ?_,fun w o1 o2=>⟨fu w (by simp) (by simp) (by simp) (by simp) (by simp) (by simp),ED hv t w⟩⟩;cases op<;>simp [binS] at hv<;>subst hv<;>rfl
 ·have e1:=bn h1;have e2:=bn h2;subst e1 e2;split at h
  ·rename_i hf;have hu:=wS hT hf;split at h<;>first | (cases h;done) | skip
   all_goals
    simp only [oI] at h;subst h;refine ⟨_,dQ rfl,fun w o1 o2=>⟨fu w (by simp) (by simp) (by simp) (by simp) (by simp) (by simp),?_⟩⟩;simp [binOp,zi hu]
  ·cases h
 ·have e1:=bn h1;have e2:=bn h2;subst e1 e2;split at h
  ·rename_i hf;have hu:=mA hT hf;split at h<;>first | (cases h;done) | skip
   all_goals
    simp only [oI] at h;subst h;refine ⟨_,dQ rfl,fun w o1 o2=>⟨fu w (by simp) (by simp) (by simp) (by simp) (by simp) (by simp),?_⟩⟩;simp [binOp,nM hu]
  ·cases h
 ·have e2:=bn h2;unfold Rv at h1;obtain ⟨b,p,rfl,_⟩:=h1;subst e2;split at h
  ·rename_i hf;have hu:=mA hT hf;split at h<;>first | (cases h;done) | skip
   all_goals
    simp only [oI] at h;subst h;refine ⟨_,dQ rfl,fun w o1 o2=>⟨fu w (by simp) (by simp) (by simp) (by simp) (by simp) (by simp),?_⟩⟩;simp [binOp,nM hu]
  ·cases h
 ·have e2:=bn h2;unfold Rv at h1;obtain ⟨b,_,rfl⟩:=h1;subst e2;split at h
  ·rename_i hf;have hu:=mA hT hf;split at h<;>first | (cases h;done) | skip
   all_goals
    simp only [oI] at h;subst h;refine ⟨_,dQ rfl,fun w o1 o2=>⟨fu w (by simp) (by simp) (by simp) (by simp) (by simp) (by simp),?_⟩⟩;simp [binOp,nM hu]
  ·cases h
 ·cases h
theorem qz (hT:T.ok P=true) (h:Rl E st.bx C st.sl a) {G:List (Nat × Bool)} (hG:Holds a.tmps G) {t:TypeId} (pl:Nat->Option (Nat × Nat))
  (ml:∀ f o ft n,offOf P t f=some (o,ft)->fU P ft=some n->pl f=some (o,n)) :
  ∀ (parts:List (Nat × Operand)) (cs:List DV) (arr:List Value) (y:DV),RvC E cs arr->fillT T t st G cs parts=some y ->
   ∃ cs' arr',Instr.fill pl arr.toArray (parts.map fun p=>(p.1,a.eval p.2))=some (List.toArray arr')/\y = .agg cs' /\ RvC E cs' arr'
 | [],cs,arr,y,hc,hy=>by
  simp only [fillT,oI] at hy;subst hy;exact ⟨cs,arr,rfl,rfl,hc⟩
 | (f,x) :: r,cs,arr,y,hc,hy=>by
  simp only [fillT] at hy;split at hy
  ·rename_i off ft d ho hx;split at hy
   ·rename_i n hn;split at hy
    ·rename_i qA;simp only [bA,Nat.beq_eq,Nat.ble_eq] at qA;rw [pS] at hy;have J7:=nP hT ho;have J8:=Bq hT hn;obtain ⟨_,_,n1,_,_,_,_,N7,wT⟩:=mr J7;rw [J8] at N7;simp only [oI] at N7;subst N7;have hv:=bu h hG hx;have hvc:=hv.cells (gL qA.1 wT);have hl:(a.eval x).cells.toList.length=n:=by rw [hvc.1.length];exact qA.1
     have Sb:arr.length=cs.length:=hc.1.length
     have mC:RvC E (cs.take off ++ d.cells ++ cs.drop (off + d.cells.length)) (arr.take off ++ (a.eval x).cells.toList ++ arr.drop (off + n)):=by
      rw [qA.1];exact ((hc.take off).append hvc).append (hc.drop _)
     obtain ⟨cs',arr',kf,N8,Eg⟩:=qz hT h hG pl ml r _ _ y mC hy;refine ⟨cs',arr',?_,N8,Eg⟩;simp only [List.map_cons,Instr.fill,ml f off ft n J7 J8];have hs:(a.eval x).cells.size=n:=sU hl;rw [ah (by simp [hs,Sb,qA.2])];have:=lG off (a.eval x) arr.toArray (by rw [hl];simp;omega);rw [hl] at this;rw [this];simpa using kf
    ·cases hy
   ·cases hy
  ·cases hy
theorem mD (h:Rl E st.bx C st.sl a) {G:List (Nat × Bool)} (hG:Holds a.tmps G) {e:Nat} :
  ∀ (parts:List (Nat × Operand)) (cs:List DV) (arr:List Value) (y:DV),RvC E cs arr->fillAr e st G cs parts=some y ->
   ∃ cs' arr',Instr.fill (fun i=>some (i * e,e)) arr.toArray (parts.map fun p=>(p.1,a.eval p.2))=some (List.toArray arr')/\y = .agg cs' /\ RvC E cs' arr'
 | [],cs,arr,y,hc,hy=>by
  simp only [fillAr,oI] at hy;subst hy;exact ⟨cs,arr,rfl,rfl,hc⟩
 | (f,x) :: r,cs,arr,y,hc,hy=>by
  simp only [fillAr] at hy;split at hy
  ·rename_i d hx;split at hy
   ·rename_i qA;simp only [bA,Nat.beq_eq,Nat.ble_eq,Nat.blt_eq] at qA;rw [pS] at hy;have hv:=bu h hG hx;have hvc:=hv.cells (gL qA.1.2 (by omega));have hl:(a.eval x).cells.toList.length=e:=by rw [hvc.1.length];exact qA.1.2
    have Sb:arr.length=cs.length:=hc.1.length
    have mC:RvC E (cs.take (f * e) ++ d.cells ++ cs.drop (f * e + d.cells.length)) (arr.take (f * e) ++ (a.eval x).cells.toList ++ arr.drop (f * e + e)):=by
     rw [qA.1.2];exact ((hc.take (f * e)).append hvc).append (hc.drop _)
    obtain ⟨cs',arr',kf,N8,Eg⟩:=mD h hG r _ _ y mC hy;refine ⟨cs',arr',?_,N8,Eg⟩;simp only [List.map_cons,Instr.fill];have hs:(a.eval x).cells.size=e:=sU hl;rw [ah (by simp [hs,Sb,qA.2])];have:=lG (f * e) (a.eval x) arr.toArray (by rw [hl];simp;omega);rw [hl] at this;rw [this];simpa using kf
   ·cases hy
  ·cases hy
theorem fv (h:Rl E st.bx C st.sl a) {G:List (Nat × Bool)} (hG:Holds a.tmps G):∀ (l:List Operand) (ds:List DV),argsV st G l=some ds->RvL E ds (l.map a.eval)
 | [],ds,hv=>by simp only [argsV,oI] at hv;subst hv;exact bW E
 | x :: r,ds,hv=>by
  simp only [argsV] at hv;split at hv
  ·rename_i d l hx hl;simp only [oI] at hv;subst hv;exact rvL_cons (bu h hG hx) (fv h hG r l hl)
  ·cases hv
def N9 (P:Program) (C:World->Prop) (E:En) (a:Act) (o:Oper) (y:DV):Prop:=
 ∃ v,Rv E y v/\∀ w:World,(nQ o.op=true->C w)->(execOp a.eval o).run P w = .ok (.value v) w
theorem fw (hT:T.ok P=true) (h:Rl E st.bx C st.sl a) {G:List (Nat × Bool)} (hG:Holds a.tmps G) {o:Oper} {y:DV} (hy:pureT P T st G o.op=some y):N9 P C E a o y:=by
 obtain ⟨dst,op,ty,pos,after,gu⟩:=o;cases op<;>simp only [pureT] at hy<;>try (cases hy;done)
 case move x=>exact ⟨_,bu h hG hy,fun w _=>by simp [execOp]⟩
 case assign x=>exact ⟨_,bu h hG hy,fun w _=>by simp [execOp]⟩
 case pick c p q=>
  split at hy
  ·rename_i d;split at hy
   ·rename_i x da db hc ha hb;simp only [oI] at hy;subst hy;have e1:=gY (bu h hG hc)
    have hd:a.tmps[d]? = some (.bool x):=by
     simp only [rv] at hc;split at hc
     ·rename_i gs s' hg;split at hc
      ·rename_i hs;simp only [oI] at hc;subst hc;obtain ⟨v,h1,h2⟩:=(h.tm d _ hg).1 (nR hG hs);rw [h1,gY h2]
      ·cases hc
     ·cases hc
    have hT1:pickD true da db=da:=by unfold pickD;split<;>rfl
    have hF1:pickD false da db=db:=by unfold pickD;split<;>rfl
    cases x
    ·exact ⟨_,by rw [hF1];exact bu h (gW hd hG) hb,fun w _=>by simp [execOp,e1,asBool]⟩
    ·exact ⟨_,by rw [hT1];exact bu h (gW hd hG) ha,fun w _=>by simp [execOp,e1,asBool]⟩
   ·cases hy
  ·cases hy
 case binOp op t x z t'=>
  split at hy
  ·rename_i s u hx hz;obtain ⟨v,hv,hr⟩:=Cx (P:=P) hT hy (bu h hG hx) (bu h hG hz);exact ⟨v,hv,fun w _=>by simp only [execOp,Sem.run_bind,(hr w x z).1,(hr w x z).2,Result.andThen_ok,Sem.run_pure]⟩
  ·cases hy
 case unOp op t x=>
  split at hy
  ·rename_i b hx;split at hy
   ·simp only [oI] at hy;subst hy;have e1:=gY (bu h hG hx);exact ⟨_,dQ rfl,fun w _=>by simp [execOp,e1,Op.unary]⟩
   ·cases hy
  ·rename_i k n hx;split at hy
   ·simp only [oI] at hy;subst hy;have e1:=bH (bu h hG hx);exact ⟨_,dQ rfl,fun w _=>by simp [execOp,e1,Op.unary,Op.intArith]⟩
   ·cases hy
  ·cases hy
 case fieldAddr s x f=>
  split at hy
  ·rename_i o _ i off ho hx;simp only [oI] at hy;subst hy;have e1:=bu h hG hx;unfold Rv at e1;obtain ⟨b,hb,e1⟩:=e1;refine ⟨.pointer (some ⟨b,off + o,none⟩),by unfold Rv;exact ⟨b,hb,rfl⟩,fun w _=>?_⟩;simp only [execOp,e1,Sem.run_bind,gF (nP hT ho),Result.andThen_ok,Sem.run_pure]
  ·rename_i o _ cs off ho hx;simp only [oI] at hy;subst hy;have e1:=bu h hG hx;unfold Rv at e1;obtain ⟨b,p,e1,hb⟩:=e1;refine ⟨.pointer (some ⟨b,p + (off + o),none⟩),by unfold Rv;exact ⟨b,p,rfl,hb⟩,fun w _=>?_⟩;simp only [execOp,e1,Sem.run_bind,gF (nP hT ho),Result.andThen_ok,Sem.run_pure,Nat.add_assoc]
  ·rename_i o _ i off ho hx;simp only [oI] at hy;subst hy;have e1:=bu h hG hx;unfold Rv at e1;obtain ⟨b,hb,e1⟩:=e1;refine ⟨.pointer (some ⟨b,off + o,none⟩),by unfold Rv;exact ⟨b,hb,rfl⟩,fun w _=>?_⟩;simp only [execOp,e1,Sem.run_bind,gF (nP hT ho),Result.andThen_ok,Sem.run_pure]
  ·cases hy
 case load t x=>
  split at hy
  ·rename_i i off hx;split at hy
   ·rename_i cs cm;have e1:=bu h hG hx;unfold Rv at e1;obtain ⟨b,hb,e1⟩:=e1;obtain ⟨b',arr,ee,hc,hw⟩:=h.dn i cs cm;rw [hb] at ee;simp only [oI] at ee;subst ee;obtain ⟨v,hv,hl⟩:=jz hT hc (b:=b) (p:=0) hy;refine ⟨v,hv,fun w hC=>?_⟩;have hl:=hl w (fun j u hj=>by rw [Nat.zero_add];exact hw w (hC rfl) j u hj);rw [Nat.zero_add] at hl;simp only [execOp,e1,Sem.run_bind,Instr.loadAt,Instr.sureAddr,Sem.run_pure,Result.andThen_ok,hl]
   ·cases hy
  ·rename_i cs off hx;have e1:=bu h hG hx;unfold Rv at e1;obtain ⟨b,p,e1,hb⟩:=e1;obtain ⟨arr,hc,hm⟩:=hb.sI;obtain ⟨v,hv,hl⟩:=jz hT hc (b:=b) (p:=p) hy;refine ⟨v,Rv.mono (Ext.un E) hv,fun w hC=>?_⟩;have hl:=hl w (fun j u hj=>h.cc _ _ (hm j u hj) w (hC rfl));simp only [execOp,e1,Sem.run_bind,Instr.loadAt,Instr.sureAddr,Sem.run_pure,Result.andThen_ok,hl]
  ·cases hy
 case extract x i=>
  split at hy
  ·rename_i vs hx;have e1:=bu h hG hx;unfold Rv at e1;obtain ⟨l,e1,hl⟩:=e1;obtain ⟨v,hv,hr⟩:=hl.get hy;refine ⟨v,hr,fun w _=>?_⟩;simp [execOp,e1,Instr.extract,hv]
  ·cases hy
 case field t x f=>
  split at hy
  ·rename_i off ft cs ho hx;have e1:=bu h hG hx;unfold Rv at e1;obtain ⟨arr,e1,hc⟩:=e1;obtain ⟨v,hv,hp⟩:=zl hT ⟨hc.1,hc.2⟩ hy;refine ⟨v,hv,fun w _=>?_⟩;obtain ⟨fs,x',n,hu,hf,J7,ht,hs,hn⟩:=mr (nP hT ho);subst J7 ht;simp only [execOp,e1,Instr.field,Sem.run_bind,run_underlying hu,Result.andThen_ok,hf,asAgg,Sem.run_pure,hp w]
  ·cases hy
 case build t parts=>
  split at hy
  ·rename_i n b wN z hf;obtain ⟨zv,hz,EN,hz1,_⟩:=mB hT hf;have Sc:=(te_parts hT hf).2.2.2;simp only [bA] at Sc;have gG:=Sc.1;split at gG
   ·rename_i fs hd;have hm:=fun w=>qj (P:=P) (w:=w) fs.toList (sU gG)
    have j1:∀ w,(fs.mapM fun f=>(do pure (f.offset,<- sizeOf f.type):Sem (Nat × Nat))).run P w = .ok (fs.toList.map fun f=>(f.offset,(fU P f.type).getD 0)).toArray w:=by
     intro w;rw [Array.mapM_eq_mapM_toList,Sem.run_map,hm w];all_goals rfl
    obtain ⟨cs',arr',kf,rfl,Eg⟩:=qz hT h hG (t:=t) (fun i=>((fs.toList.map fun f=>(f.offset,(fU P f.type).getD 0)).toArray)[i]?) (by
     intro f o ft n ho hn;obtain ⟨fs',x,n',Oa,hf,Ob,hxt,hs,_⟩:=mr ho;rw [hd] at Oa;simp only [oI,TypeDesc.struct.injEq] at Oa;subst Oa;subst hxt Ob
     simp [hf,hn]) parts.toList _ z y (rvC_vL hz1) hy
    refine ⟨.agg arr'.toArray,by unfold Rv;exact ⟨arr',rfl,Eg.1,Eg.2⟩,fun w _=>?_⟩;have e:(parts.map fun (x:Nat × Operand)=>(x.1,a.eval x.2)).toList=parts.toList.map fun p=>(p.1,a.eval p.2):=by simp
    have Lu:zv.cells=z.toArray:=by apply Array.ext';simpa using EN
    have hb:(Instr.build t (parts.map fun (i,x)=>(i,a.eval x))).run P w = .ok (.agg arr'.toArray) w:=by
     simp only [Instr.build,Sem.run_bind,nK hz,Result.andThen_ok,run_underlying hd,j1 w,e,Lu];rw [kf];simp
    simp only [execOp,Sem.run_bind,hb,Result.andThen_ok,Sem.run_pure]
   ·cases gG
  ·rename_i n b m e z hf;obtain ⟨zv,hz,EN,hz1,_⟩:=mB hT hf;obtain ⟨et,hu,cR⟩:=ke hT hf;obtain ⟨cs',arr',kf,rfl,Eg⟩:=mD h hG parts.toList _ z y (rvC_vL hz1) hy;refine ⟨.agg arr'.toArray,by unfold Rv;exact ⟨arr',rfl,Eg.1,Eg.2⟩,fun w _=>?_⟩;have e1:(parts.map fun (x:Nat × Operand)=>(x.1,a.eval x.2)).toList=parts.toList.map fun p=>(p.1,a.eval p.2):=by simp
   have Lu:zv.cells=z.toArray:=by apply Array.ext';simpa using EN
   have hb:(Instr.build t (parts.map fun (i,x)=>(i,a.eval x))).run P w = .ok (.agg arr'.toArray) w:=by
    simp only [Instr.build,Sem.run_bind,nK hz,Result.andThen_ok,run_underlying hu,aG cR,e1,Lu];rw [kf];simp
   simp only [execOp,Sem.run_bind,hb,Result.andThen_ok,Sem.run_pure]
  ·cases hy
 case makeFunc fn first captured=>
  split at hy
  ·rename_i f;split at hy
   ·rename_i l r hl hr;simp only [oI] at hy;subst hy;have e1:=fv h hG _ _ hl;have e2:=fv h hG _ _ hr;refine ⟨.func (.func f) (first.map a.eval) (captured.map a.eval),by unfold Rv;exact ⟨_,_,by congr 1<;>(apply Array.ext';simp),e1,e2⟩,fun w _=>?_⟩;simp [execOp,Instr.makeFunc]
   ·cases hy
  ·cases hy
 case makeInterface t x=>
  split at hy
  ·rename_i d n b kd z hx hf
   have bi:kd ≠ .lH/\kd ≠ .ot/\kd ≠ .fn/\y = .lH t d:=by
    split at hy<;>first | (cases hy;done) | skip
    rename_i h1 h2 h3;simp only [oI] at hy;exact ⟨h1,h2,h3,hy.symm⟩
   obtain ⟨h1,h2,h3,rfl⟩:=bi;obtain ⟨ud,hu,hni⟩:=EL hT hf h1 h2 h3;have e1:=bu h hG hx;refine ⟨.iface t (a.eval x),by unfold Rv;exact ⟨_,rfl,e1⟩,fun w _=>?_⟩
   have hr:(Instr.makeInterface t (a.eval x)).run P w = .ok (.iface t (a.eval x)) w:=by
    cases ud<;>first | (exact (hni _ rfl).elim) | simp [Instr.makeInterface,run_underlying hu]
   simp only [execOp,Sem.run_bind,hr,Result.andThen_ok,Sem.run_pure]
  ·cases hy
 case nilCheck x=>
  split at hy<;>first | (cases hy;done) | (simp only [oI] at hy;subst hy)
  ·rename_i i off hx;have e1:=bu h hG hx;have e0:=e1;unfold Rv at e1;obtain ⟨b,hb,e1⟩:=e1;exact ⟨_,e0,fun w _=>by simp [execOp,e1]⟩
  ·rename_i i off hx;have e1:=bu h hG hx;have e0:=e1;unfold Rv at e1;obtain ⟨b,hb,e1⟩:=e1;exact ⟨_,e0,fun w _=>by simp [execOp,e1]⟩
  ·rename_i cs off hx;have e1:=bu h hG hx;have e0:=e1;unfold Rv at e1;obtain ⟨b,p,e1,hb⟩:=e1;exact ⟨_,e0,fun w _=>by simp [execOp,e1]⟩
  ·rename_i ad hx;have e1:=bu h hG hx;have e0:=e1;exact ⟨_,e0,fun w _=>by simp [execOp,bn e1]⟩
  ·rename_i f l r hx;have e1:=bu h hG hx;have e0:=e1;unfold Rv at e1;obtain ⟨l',r',e1,_⟩:=e1;exact ⟨_,e0,fun w _=>by simp [execOp,e1]⟩
 case convert s d x=>
  split at hy
  ·rename_i k' n te1 n1 b1 k z hx hs hd;simp only [oI] at hy;subst hy;have e1:=bH (bu h hG hx);obtain ⟨ds,hs⟩:=EM hT hs;have hd:=pT hT hd;refine ⟨_,dQ rfl,fun w _=>?_⟩
   have hr:(convert s d (.int k' n)).run P w = .ok (.int k (k.wrap n)) w:=by
    simp [convert,run_underlying hs,run_underlying hd,Conv.intToInt]
   simp only [execOp,e1,Sem.run_bind,hr,Result.andThen_ok,Sem.run_pure]
  ·cases hy
 case call c=>
  obtain ⟨callee,args,argTypes⟩:=c;simp only at hy;split at hy
  ·rename_i hc;split at hy
   ·rename_i x t hargs Lv;have ea:args = #[x]:=Array.ext' (sU hargs);have et:argTypes = #[t]:=Array.ext' (sU Lv);subst ea et;split at hy
    ·rename_i e es tk n b et e' iQ z hx hf;simp only [oI] at hy;subst hy;have e1:=bu h hG hx;unfold Rv at e1;obtain ⟨bb,n',cap,e1,⟨rfl,_⟩,_⟩:=e1;exact ⟨_,dQ rfl,fun w _=>by simp [execOp,resolve,invoke,builtin,e1,nN (dV hT hf).1]⟩
    ·rename_i i e off n cap n1 b et e' iQ z hx hf;simp only [oI] at hy;subst hy;have e1:=bu h hG hx;unfold Rv at e1;obtain ⟨bb,aa,_,_,e1,_⟩:=e1;exact ⟨_,dQ rfl,fun w _=>by simp [execOp,resolve,invoke,builtin,e1,nN (dV hT hf).1]⟩
    ·rename_i ad n cap n1 b et e' iQ z hx hf;simp only [oI] at hy;subst hy;have e1:=bn (bu h hG hx);exact ⟨_,dQ rfl,fun w _=>by simp [execOp,resolve,invoke,builtin,e1,nN (dV hT hf).1]⟩
    ·rename_i s n1 b z hx hf;simp only [oI] at hy;subst hy;have e1:=bn (bu h hG hx);exact ⟨_,dQ rfl,fun w _=>by simp [execOp,resolve,invoke,builtin,e1,wM (kR hT hf)]⟩
    ·cases hy
   ·cases hy
  ·rename_i hc;split at hy
   ·rename_i x z hargs;have ea:args = #[x,z]:=Array.ext' (sU hargs);split at hy
    ·rename_i k p k' q hx hz;simp only [oI] at hy;subst hy;have e1:=bH (bu h hG hx);have e2:=bH (bu h hG hz);subst ea
     have e3:(if q > p then q else p)=max p q:=by
      simp only [Int.max_def];split<;>split<;>omega
     exact ⟨_,dQ rfl,fun w _=>by simp [execOp,resolve,invoke,builtin,e1,e2,Builtin.max_,Builtin.max2,e3]⟩
    ·cases hy
   ·cases hy
  ·rename_i hc;split at hy
   ·rename_i x z hargs;have ea:args = #[x,z]:=Array.ext' (sU hargs);split at hy
    ·rename_i k p k' q hx hz;simp only [oI] at hy;subst hy;have e1:=bH (bu h hG hx);have e2:=bH (bu h hG hz);subst ea
     have e3:(if q < p then q else p)=min p q:=by
      simp only [Int.min_def];split<;>split<;>omega
     exact ⟨_,dQ rfl,fun w _=>by simp [execOp,resolve,invoke,builtin,e1,e2,Builtin.min_,Builtin.min2,e3]⟩
    ·cases hy
   ·cases hy
  ·cases hy
end
end Dv
end Go.Proofs.YtfdedoiiahbnnaaGreat
namespace Go.Proofs.YtfdedoiiahbnnaaGreat
namespace Dv
open Go Go.RowKit
theorem jA {d:Nat}:∀ {sl:List (Nat × Sl)},noMen d sl=true->∀ i x,get sl i=some x->∀ p∈x.gs,p.1≠d
 | [],_,i,x,hx=>by simp [get] at hx
 | (k,y) :: r,h,i,x,hx=>by
  simp only [noMen] at h
  have h2:noMen d r=true/\∀ p∈y.gs,p.1≠d:=by
   split at h
   ·rename_i hg;exact ⟨h,by rw [hg];simp⟩
   ·rename_i g gs hg;simp only [bA] at h;refine ⟨h.2,?_⟩;rw [hg];intro p hp;have:=(List.all_eq_true.1 h.1) p hp;intro e;rw [e] at this;simp at this
  simp only [ct] at hx;split at hx
  ·grind
  ·exact jA h2.1 i x hx
theorem iT {tmps:Array Value} {d:Nat} {v:Value} {gs:List (Nat × Bool)} (h:∀ p∈gs,p.1≠d):Holds (tmps.setIfInBounds d v) gs↔Holds tmps gs:=by
 constructor
 ·intro hh p hp;have:=hh p hp
  grind
 ·intro hh p hp;rw [Array.getElem?_setIfInBounds_ne (Ne.symm (h p hp))];exact hh p hp
section
variable {X:Ctx} {E:En} {st:St} {a:Act} {w:World}
theorem Rel.rl (h:Rel X E st a w):Rl E st.bx (fun w'=>w'=w) st.sl a where
 tm:=h.tm
 dn:=fun i cs hi=>by
  obtain ⟨b,ty,arr,hb,hw,hc⟩:=h.env.dn i cs hi;exact ⟨b,arr,hb,hc,fun w' Oc j u hj=>by rw [Oc,bX hw];simpa using hj⟩
 cc:=fun x v hx w' Oc=>by rw [Oc];exact h.env.sub x v hx
theorem mE (h:Rel X E st a w) {dst:Option Nat} (hd:eK X.nt st.sl dst=true) (gs:List (Nat × Bool)) (s:DV) (v:Value) (Cy:∀ d,dst=some d->∀ p∈gs,p.1≠d)
  (pU:Holds a.tmps gs->Rv E s v) (Cz:¬ Holds a.tmps gs->v=undef):Rel X E (st.put dst ⟨gs,s⟩) (a.put dst v) w where
 env:=by have:=h.env;cases dst<;>simpa [St.put] using this
 tk:=by have:=h.tk;cases dst<;>simpa [St.put] using this
 sz:=by have:=h.sz;cases dst<;>simpa [Act.put] using this
 tm:=by
  intro i y hy
  cases dst with
  | none=>exact h.tm i y hy
  | some d=>
   simp only [eK,bA,Nat.blt_eq] at hd;simp only [St.put,ct] at hy;simp only [Act.put];split at hy
   ·rename_i Eh;subst Eh;simp only [oI] at hy;subst hy;have h1:=h.sz;rw [iT (Cy d rfl)]
    grind
   ·rename_i Eh;rw [Array.getElem?_setIfInBounds_ne Eh,iT (jA hd.2 i y hy)];exact h.tm i y hy
 df:=by have:=h.df;cases dst<;>simpa [Act.put] using this
 nw:=h.nw
 fr:=h.fr
 sh:=h.sh
 bt:=h.bt
theorem bl (h:Rel X E st a w) {dst:Option Nat} (hd:eK X.nt st.sl dst=true) (s:DV) (v:Value) (hv:Rv E s v):Rel X E (st.put dst ⟨[],s⟩) (a.put dst v) w:=
 mE h hd [] s v (fun _ _ p hp=>by cases hp) (fun _=>hv) (fun hn=>(hn (aM _)).elim)
theorem get_map (d:Nat) (b:Bool):∀ (sl:List (Nat × Sl)) (i:Nat),get (sl.map (bo d b)) i=(get sl i).map fun x=>(bo d b (i,x)).2
 | [],i=>rfl
 | (k,x) :: r,i=>by
  have hk:(bo d b (k,x)).1=k:=mz d b k x;simp only [List.map_cons];rw [show bo d b (k,x)=(k,(bo d b (k,x)).2) from Prod.ext hk rfl];rw [ct,ct];split
  ·rename_i sJ;subst sJ;rfl
  ·exact get_map d b r i
theorem iz (h:Rel X E st a w) {d:Nat} {b:Bool} (hd:a.tmps[d]? = some (.bool b)):Rel X E (st.resolve d b) a w where
 env:=h.env
 tk:=h.tk
 sz:=h.sz
 tm:=by
  intro i y hy;simp only [St.resolve,get_map,Option.map_eq_some_iff] at hy;obtain ⟨x,hx,rfl⟩:=hy;have ht:=h.tm i x hx;unfold bo;split
  ·rename_i hi;have j9:i=d:=sU hi;subst j9;exact ⟨fun _=>⟨_,hd,dQ rfl⟩,fun hn=>(hn (aM _)).elim⟩
  ·split
   ·rename_i hc
    have hn:¬ Holds a.tmps x.gs:=by
     intro hh;have:=hh (d,!b) (sU hc)
     grind
    exact ⟨fun _=>⟨_,ht.2 hn,oV E⟩,fun hn=>(hn (aM _)).elim⟩
   ·have he:Holds a.tmps (x.gs.filter fun p=>p != (d,b))↔Holds a.tmps x.gs:=by
     constructor
     ·intro hh p hp;by_cases Ei:p=(d,b)
      ·subst Ei;exact hd
      ·exact hh p (by simp [List.mem_filter,hp,Ei])
     ·intro hh p hp;exact hh p (List.mem_filter.1 hp).1
    simp only [he];exact ht
 df:=h.df
 nw:=h.nw
 fr:=h.fr
 sh:=h.sh
 bt:=h.bt
theorem tj (d e:Nat) (b:Bool):∀ {sl:List (Nat × Sl)},noMen d sl=true->noMen d (sl.map (bo e b))=true
 | [],_=>rfl
 | (k,y) :: r,h=>by
  have h2:noMen d r=true/\∀ p∈y.gs,(!Nat.beq p.1 d)=true:=by
   simp only [noMen] at h
   grind
  have ih:=tj d e b h2.1
  have h3:∀ p∈(bo e b (k,y)).2.gs,(!Nat.beq p.1 d)=true:=by
   unfold bo
   grind
  simp only [List.map_cons];rw [show bo e b (k,y)=((bo e b (k,y)).1,(bo e b (k,y)).2) from rfl];simp only [noMen]
  grind
theorem iA {nt d:Nat} {b:Bool} {dst:Option Nat} (h:eK nt st.sl dst=true):eK nt (st.resolve d b).sl dst=true:=by
 cases dst with
 | none=>rfl
 | some e=>
  simp only [eK,bA] at h ⊢;exact ⟨h.1,tj e d b h.2⟩
theorem cy (h:Rel X E st a w) {E':En} {J5:List (List DV)} {tk':List TkE} {w':World} (hx:Ext E E') (he:Env E' J5 w') (ht:E'.tk=tk') (hn:Nw X.E0 E' X.w0) (hf:mv X.E0.S X.w0 w') (hs:X.still=true->∃ q,w'=X.w0.drewN q) (hbt:lm X.bt E'.β w'):Rel X E' ⟨st.sl,J5,tk'⟩ a w' where
 env:=he
 tk:=ht
 sz:=h.sz
 tm:=fun i x hi=>by
  have:=h.tm i x hi;refine ⟨fun hh=>?_,this.2⟩;obtain ⟨v,h1,h2⟩:=this.1 hh;exact ⟨v,h1,Rv.mono hx h2⟩
 df:=h.df
 nw:=hn
 fr:=hf
 sh:=hs
 bt:=hbt
theorem lm.fx {bt:List (Nat × TypeId)} {β:List Nat} {w w':World} (h:lm bt β w) (hh:∀ b∈β,w'.heap[b]? = w.heap[b]?):lm bt β w':=fun p hp b hb=>by
 obtain ⟨cs,hc⟩:=h p hp b hb
 grind
theorem lm.nil {bt:List (Nat × TypeId)} {β:List Nat} {w:World} (h:bt=[]):lm bt β w:=fun p hp=>by rw [h] at hp;cases hp
theorem lm.sub {bt:List (Nat × TypeId)} {β:List Nat} {w:World} (h:lm bt β w) (n:Nat):lm bt (β.take n) w:=fun p hp b hb=>by
 rw [bM] at hb;split at hb
 ·exact h p hp b hb
 ·cases hb
theorem tp:∀ {bt:List (Nat × TypeId)} {n:Nat} {t:TypeId},btOK bt n t=true->∀ p∈bt,p.1=n->p.2=t
 | [],n,t,_,p,hp,_=>by cases hp
 | q :: r,n,t,h,p,hp,hn=>by
  simp only [btOK,bA,Bool.or_eq_true,Bool.not_eq_true'] at h;rcases cY hp with rfl | hp
  ·simp_all
  ·exact tp h.2 p hp hn
theorem Env.aQ {bx:List (List DV)} (h:Env E bx w) {b:Nat} (hb:b∈E.β):b < w.heap.size:=by
 obtain ⟨i,hi,rfl⟩:=List.getElem_of_mem hb;have:i < bx.length:=by rw [<- h.len];exact hi
 obtain ⟨b',ty,arr,ee,hw,_⟩:=h.dn i _ (gE this)
 grind
theorem fy {c:Addr->Option Value} {β:List Nat} {q:TkE} {y:Value} (h:zk w c β q y) {g:Nat} (hg:y.ownBlock=some g):g < w.heap.size/\g ∉ β:=by
 rcases h with ⟨rfl,_⟩ | ⟨g',cap,cur,rfl,hw,_,_,_,hb,_⟩
 ·simp [Value.ownBlock] at hg
 ·simp only [Value.ownBlock,oI] at hg;subst hg;exact ⟨cI hw,hb⟩
theorem Env.own {bx:List (List DV)} (h:Env E bx w) {y:Value} {g:Nat} (hy:y∈E.τ) (hg:y.ownBlock=some g):g < w.heap.size/\g ∉ E.β:=by
 obtain ⟨k,hk,rfl⟩:=List.getElem_of_mem hy;have fl:k < E.tk.length:=by rw [<- h.tl];exact hk
 exact fy (h.b9 k _ _ (gE fl) (gE hk)) hg
theorem nS {c:Addr->Option Value} {β:List Nat} {q:TkE} {y:Value} {w':World} (h:zk w c β q y) (hw:∀ g,y.ownBlock=some g->w'.heap[g]? = w.heap[g]?):zk w' c β q y:=by
 rcases h with h | ⟨g',cap,cur,rfl,h1,h2,h3,h4,h5,h6⟩
 ·exact .inl h
 ·exact .inr ⟨g',cap,cur,rfl,by rw [hw g' rfl];exact h1,h2,h3,h4,h5,h6⟩
theorem Env.fx {bx:List (List DV)} {w':World} (h:Env E bx w) (hw:∀ i,i < w.heap.size->w'.heap[i]? = w.heap[i]?):Env E bx w' where
 len:=h.len
 tl:=h.tl
 dn:=fun i cs hi=>by
  obtain ⟨b,ty,arr,hb,VV,hc⟩:=h.dn i cs hi
  grind
 inj:=h.inj
 sub:=fun x v hx=>by
  have tq:=h.sub x v hx;rw [iS (w:=w) (hw _ (World.block_lt_of_cell? w x tq))];exact tq
 pc:=h.pc
 b9:=fun k q y hq hy=>nS (h.b9 k q y hq hy) fun g hg=>hw g (fy (h.b9 k q y hq hy) hg).1
 gp:=h.gp
theorem mv.bN {S:Nat->Prop} {w0 w w':World} (h:mv S w0 w) (h1:w'.os=w.os) (h2:w'.tape=w.tape) (h3:w'.output=w.output) (h4:w.heap.size<=w'.heap.size) (hw:∀ i,i < w.heap.size->(S i∨w0.heap.size<=i)∨w'.heap[i]? = w.heap[i]?):mv S w0 w':=
 ⟨h1.trans h.os,h2.trans h.tape,h3.trans h.output,Nat.le_trans h.size h4,fun k hk hS=>by
  rcases hw k (Nat.lt_of_lt_of_le hk h.size) with (h5 | h5) | h5
  ·exact (hS h5).elim
  ·omega
  ·rw [h5];exact h.block k hk hS⟩
theorem alloc_old (w:World) (o:Obj) {k:Nat} (hk:k < w.heap.size):(w.alloc o).heap[k]? = w.heap[k]?:=Below.heap_alloc w o k hk
theorem mv.alloc {S:Nat->Prop} {w0 w:World} (h:mv S w0 w) (o:Obj):mv S w0 (w.alloc o):=
 h.bN rfl rfl rfl (by simp) fun i hi=>.inr (alloc_old w o hi)
theorem kS (E:En) (b:Nat):Ext E ⟨E.c,E.β ++ [b],E.tk,E.τ⟩:=
 ⟨fun _ _ h=>h,fun i x h=>by rw [dF (gS h).1];exact h,fun k q h=>⟨q,h,.inl ⟨rfl,rfl⟩⟩⟩
theorem Env.box {bx:List (List DV)} (h:Env E bx w) {cs:List DV} {arr:List Value} (hc:RvC E cs arr) (t:TypeId):Env ⟨E.c,E.β ++ [w.heap.size],E.tk,E.τ⟩ (bx ++ [cs]) (w.alloc (.cells arr.toArray t)):=by
 have hk:=h.fx (w':=w.alloc (.cells arr.toArray t)) fun i hi=>alloc_old w _ hi;have hx:=kS E w.heap.size
 exact {
  len:=by simp [h.len]
  tl:=h.tl
  dn:=fun i cs' cm=>by
   rw [List.getElem?_append] at cm;split at cm
   ·rename_i hi;obtain ⟨b,ty,arr',hb,hw,Bs⟩:=hk.dn i cs' cm;exact ⟨b,ty,arr',hx.β i b hb,hw,Bs.mono hx⟩
   ·rename_i hi;have EO:i - bx.length=0:=by grind
    rw [EO] at cm;simp only [List.getElem?_cons_zero,oI] at cm;subst cm;refine ⟨w.heap.size,t,arr,?_,gK w _,hc.mono hx⟩;show (E.β ++ [w.heap.size])[i]? = _;rw [List.getElem?_append_right (by rw [h.len];omega),h.len,EO];rfl
  inj:=by
   rw [List.nodup_append];refine ⟨h.inj,by simp,?_⟩;intro b hb c hc;simp only [List.mem_singleton] at hc;have:=h.aQ hb;omega
  sub:=hk.sub
  pc:=fun x v hv hm=>by
   rcases List.mem_append.1 hm with hm | hm
   ·exact h.pc x v hv hm
   ·simp only [List.mem_singleton] at hm;have:=World.block_lt_of_cell? w x (h.sub x v hv);omega
  b9:=fun k q y hq hy=>by
   have h1:=hk.b9 k q y hq hy;rcases h1 with h1 | ⟨g',cap,cur,rfl,h1,h2,h3,h4,h5,h6⟩
   ·exact .inl h1
   ·refine .inr ⟨g',cap,cur,rfl,h1,h2,h3,h4,?_,h6⟩;intro hm;rcases List.mem_append.1 hm with hm | hm
    ·exact h5 hm
    ·simp only [List.mem_singleton] at hm;have:=(fy (h.b9 k q _ hq hy) (g:=g') rfl).1;omega
  gp:=h.gp }
theorem Lw {E0:En} {w0:World} (h:Nw E0 E w0) {b:Nat} (hb:w0.heap.size<=b):Nw E0 ⟨E.c,E.β ++ [b],E.tk,E.τ⟩ w0 where
 c:=h.c
 cn:=h.cn
 β:=by
  obtain ⟨r,hr,hl⟩:=h.β
  grind
 tk:=h.tk
 tn:=h.tn
 l0:=h.l0
theorem ln {X:Ctx} (hs:X.still=false) {p:Prop}:X.still=true->p:=fun h=>by rw [hs] at h;cases h
theorem qB (h:Rel X E st a w) (hst:X.still=false) {cs:List DV} {arr:List Value} (hc:RvC E cs arr) (t:TypeId) (hbt:btOK X.bt st.bx.length t=true) :
  Rel X ⟨E.c,E.β ++ [w.heap.size],E.tk,E.τ⟩ ⟨st.sl,st.bx ++ [cs],st.tk⟩ a (w.alloc (.cells arr.toArray t)):=
 cy h (kS E w.heap.size) (h.env.box hc t) h.tk (Lw h.nw h.fr.size) (h.fr.alloc _) (ln hst) fun p hp b hb=>by
  have hb:(E.β ++ [w.heap.size])[p.1]? = some b:=hb;rw [List.getElem?_append] at hb;split at hb
  ·obtain ⟨cs,hc⟩:=h.bt p hp b hb;exact ⟨cs,by rw [alloc_old w _ (cI hc)];exact hc⟩
  ·rename_i hi;have h0:p.1 - E.β.length=0:=by grind
   rw [h0] at hb;simp only [List.getElem?_cons_zero,oI] at hb;subst hb;have ht:=tp hbt p hp (by rw [<- h.env.len];omega);exact ⟨_,by rw [ht];exact gK w _⟩
theorem Bt (h:Rel X E st a w) (hst:X.still=false) {d:Nat} (hd:eK X.nt st.sl (some d)=true) {cs:List DV} {arr:List Value} (hc:RvC E cs arr) (t:TypeId) (hbt:btOK X.bt st.bx.length t=true) :
  Rel X ⟨E.c,E.β ++ [w.heap.size],E.tk,E.τ⟩ ⟨(d,⟨[],.loc st.bx.length 0⟩) :: st.sl,st.bx ++ [cs],st.tk⟩ (a.put (some d) (.pointer (some ⟨w.heap.size,0,none⟩))) (w.alloc (.cells arr.toArray t)):=by
 have h1:=qB h hst hc t hbt;refine bl h1 hd (.loc st.bx.length 0) _ ?_;unfold Rv;refine ⟨w.heap.size,?_,rfl⟩;show (E.β ++ [w.heap.size])[st.bx.length]? = _;rw [List.getElem?_append_right (by rw [h.env.len];omega),h.env.len];simp
theorem Env.set {bx:List (List DV)} (h:Env E bx w) {i b:Nat} {cs':List DV} {arr':List Value} {ty:TypeId} (hb:E.β[i]? = some b) (hw:b < w.heap.size) (hc:RvC E cs' arr'):Env E (bx.set i cs') (World.cS w b (.cells arr'.toArray ty (0,0))):=by
 have hm:b∈E.β:=mG hb;have hs:(World.cS w b (.cells arr'.toArray ty (0,0))).heap[b]? = some (.cells arr'.toArray ty (0,0)):=fV (Array.getElem?_eq_getElem hw)
 exact {
  len:=by simpa using h.len
  tl:=h.tl
  dn:=fun j c Ly=>by
   rw [List.getElem?_set] at Ly;split at Ly
   ·grind
   ·rename_i wy;obtain ⟨b',zm,arr,ee,Oc,Bs⟩:=h.dn j c Ly;refine ⟨b',zm,arr,ee,?_,Bs⟩;rw [cx]
    ·exact Oc
    ·rintro rfl;exact wy ((List.getElem?_inj (gS hb).1 h.inj).1 (hb.trans ee.symm))
  inj:=h.inj
  sub:=fun x v hx=>by
   have:=h.pc x v hx;rw [iS (w:=w)]
   ·exact h.sub x v hx
   ·exact cx (fun e=>this (e ▸ hm))
  pc:=h.pc
  b9:=fun k q y hq hy=>nS (h.b9 k q y hq hy) fun g hg=>cx fun e=>(fy (h.b9 k q y hq hy) hg).2 (e ▸ hm)
  gp:=h.gp }
theorem nT (h:Rel X E st a w) (hst:X.still=false) {i b:Nat} {cs':List DV} {arr':List Value} {ty:TypeId} (hb:E.β[i]? = some b) (hc:RvC E cs' arr') (hold:∃ c0,w.heap[b]? = some (.cells c0 ty (0,0))) :
  Rel X E ⟨st.sl,st.bx.set i cs',st.tk⟩ a (World.cS w b (.cells arr'.toArray ty (0,0))):=by
 have hm:b∈E.β:=mG hb;refine cy h (Ext.refl E) (h.env.set hb (h.env.aQ hm) hc) h.tk h.nw (h.fr.bN rfl rfl rfl (by rw [eJ];exact zLeR _) fun j hj=>?_) (ln hst) ?_
 ·by_cases Lz:j=b
  ·left;obtain ⟨r,hr,hl⟩:=h.nw.β;rw [hr] at hm;rcases List.mem_append.1 hm with hm | hm
   ·exact .inl (.inl (Lz ▸ hm))
   ·exact .inr (Lz ▸ hl b hm)
  ·right;exact cx Lz
 ·intro p hp b' ee;obtain ⟨cs,cm⟩:=h.bt p hp b' ee;by_cases he:b'=b
  ·subst he;obtain ⟨c0,h0⟩:=hold;rw [h0] at cm;simp only [oI,Obj.cells.injEq] at cm;exact ⟨_,by rw [<- cm.2.1];exact fV h0⟩
  ·exact ⟨cs,by rw [cx he];exact cm⟩
def fj (c:Addr->Option Value) (w:World) (g n:Nat):Addr->Option Value:=
 fun a=>if a.block=g/\a.spot=none/\a.off < n then w.cell? a else c a
theorem u6 {c:Addr->Option Value} {w:World} {g n o:Nat} (h:o < n):fj c w g n ⟨g,o,none⟩=w.cell? ⟨g,o,none⟩:=by simp [fj,h]
theorem kg (hr:Rel X E st a w):Rel X E st a w.drew:=
 cy hr (Ext.refl E) (hr.env.fx fun _ _=>rfl) hr.tk hr.nw (hr.fr.bN rfl rfl rfl (zLeR _) fun _ _=>.inr rfl) (fun hs=>by
  obtain ⟨q,hq⟩:=hr.sh hs
  exact ⟨q + 1,by rw [hq];rfl⟩) (hr.bt.fx fun _ _=>rfl)
theorem tu (h:Rel X E st a w) (hst:X.still=false) {arr:List Value} (t:TypeId) :
  Rel X ⟨fj E.c (w.alloc (.cells arr.toArray t)) w.heap.size arr.length,E.β,E.tk,E.τ⟩ st a (w.alloc (.cells arr.toArray t)):=by
 have hk:=h.env.fx (w':=w.alloc (.cells arr.toArray t)) fun i hi=>alloc_old w _ hi;have hold:∀ x v,E.c x=some v->x.block < w.heap.size:=fun x v hx=>World.block_lt_of_cell? w x (h.env.sub x v hx)
 have fN:∀ x v,E.c x=some v->fj E.c (w.alloc (.cells arr.toArray t)) w.heap.size arr.length x=some v:=fun x v hx=>by
  have:=hold x v hx;unfold fj;rw [ah (by omega)];exact hx
 have cm:∀ x v,fj E.c (w.alloc (.cells arr.toArray t)) w.heap.size arr.length x=some v->E.c x=some v∨x.block=w.heap.size:=fun x v hx=>by
  unfold fj at hx
  grind
 have hext:Ext E ⟨fj E.c (w.alloc (.cells arr.toArray t)) w.heap.size arr.length,E.β,E.tk,E.τ⟩:=⟨fN,fun _ _ h=>h,fun k q h=>⟨q,h,.inl ⟨rfl,rfl⟩⟩⟩;refine cy h hext ?_ h.tk ?_ (h.fr.alloc _) (ln hst) (h.bt.fx fun b hb=>alloc_old w _ (h.env.aQ hb))
 ·exact {
   len:=h.env.len
   tl:=h.env.tl
   dn:=fun i cs hi=>by
    obtain ⟨b,ty,arr',hb,hw,hc⟩:=hk.dn i cs hi;exact ⟨b,ty,arr',hb,hw,hc.mono hext⟩
   inj:=h.env.inj
   sub:=fun x v hx=>by
    have hx:fj E.c (w.alloc (.cells arr.toArray t)) w.heap.size arr.length x=some v:=hx;unfold fj at hx;split at hx
    ·exact hx
    ·exact hk.sub x v hx
   pc:=fun x v hx hm=>by
    rcases cm x v hx with h1 | h1
    ·exact h.env.pc x v h1 hm
    ·have:=h.env.aQ hm;omega
   b9:=fun k q y hq hy=>by
    rcases hk.b9 k q y hq hy with h1 | ⟨g',cap,cur,rfl,h1,h2,h3,h4,h5,h6⟩
    ·exact .inl h1
    ·refine .inr ⟨g',cap,cur,rfl,h1,⟨h2.1,h2.2.mono fN⟩,h3,h4,h5,fun x v hx hg=>?_⟩;rcases cm x v hx with h7 | h7
     ·exact h6 x v h7 hg
     ·have:=(fy (h.env.b9 k q _ hq hy) (g:=g') rfl).1;omega
   gp:=h.env.gp }
 ·exact {
   c:=fun x v hx=>fN x v (h.nw.c x v hx)
   cn:=fun x v hx=>by
    rcases cm x v hx with h1 | h1
    ·exact h.nw.cn x v h1
    ·have:=h.fr.size;exact .inr (.inl (by omega))
   β:=h.nw.β
   tk:=h.nw.tk
   tn:=h.nw.tn
   l0:=h.nw.l0 }
theorem Nw.own {E0:En} {w0:World} (h:Nw E0 E w0) {k:Nat} {y:Value} {g:Nat} (hy:E.τ[k]? = some y) (hg:y.ownBlock=some g):(∃ y0∈E0.τ,y0.ownBlock=some g)∨w0.heap.size<=g:=by
 rcases Nat.lt_or_ge k E0.tk.length with hk | hk
 ·have fl:k < E0.τ.length:=by rw [h.l0];exact hk
  obtain ⟨q',y',_,h2,_,_,_,h6⟩:=h.tk k _ _ (gE hk) (gE fl)
  grind
 ·exact .inr (h.tn k y g hk hy hg)
theorem gZ {c:Addr->Option Value} {w:World} {g n:Nat} {x:Addr} {v:Value} (h:fj c w g n x=some v):(x.block=g/\x.spot=none/\x.off < n/\w.cell? x=some v)∨(c x=some v):=by
 unfold fj at h
 grind
theorem zn (h:Rel X E st a w) (q:TkE) (hq:q.new=true):Rel X ⟨E.c,E.β,E.tk ++ [q],E.τ ++ [.slice none 0 0]⟩ ⟨st.sl,st.bx,st.tk ++ [q]⟩ a w/\Ext E ⟨E.c,E.β,E.tk ++ [q],E.τ ++ [.slice none 0 0]⟩:=by
 have hτ:∀ (k:Nat) y,(E.τ ++ [Value.slice none 0 0])[k]? = some y->(k < E.τ.length/\E.τ[k]? = some y)∨(k=E.τ.length/\y = .slice none 0 0):=fun k y hy=>by grind
 have hext:Ext E ⟨E.c,E.β,E.tk ++ [q],E.τ ++ [.slice none 0 0]⟩:=⟨fun _ _ h=>h,fun _ _ h=>h,fun k q' hk=>by
  have ap:=(gS hk).1;refine ⟨q',by rw [dF ap];exact hk,.inl ⟨rfl,?_⟩⟩
  rw [dF (by rw [h.env.tl];exact ap)]⟩
 refine ⟨cy h hext ?_ (by rw [h.tk]) ?_ h.fr h.sh h.bt,hext⟩
 ·exact {
   len:=h.env.len
   tl:=by simp [h.env.tl]
   dn:=fun i cs hi=>by
    obtain ⟨b,t,arr,hb,hw,hc⟩:=h.env.dn i cs hi;exact ⟨b,t,arr,hb,hw,hc.mono hext⟩
   inj:=h.env.inj
   sub:=h.env.sub
   pc:=h.env.pc
   b9:=fun k q' y hk hy=>by
    rcases hτ k y hy with ⟨ap,fm⟩ | ⟨rfl,rfl⟩
    ·have fl:(E.tk ++ [q])[k]? = some q':=hk;rw [dF (by rw [<- h.env.tl];exact ap)] at fl;exact h.env.b9 k q' y fl fm
    ·have fl:(E.tk ++ [q])[E.τ.length]? = some q':=hk;rw [List.getElem?_append_right (by rw [h.env.tl];exact zLeR _),h.env.tl] at fl;simp only [Nat.sub_self,List.getElem?_cons_zero,oI] at fl;subst fl;exact .inl ⟨rfl,TkE.EG hq,TkE.J4 hq⟩
   gp:=fun k k' y y' g CA hy fm hg sK=>by
    rcases hτ k y hy with ⟨_,sL⟩ | ⟨_,rfl⟩
    ·rcases hτ k' y' fm with ⟨_,jB⟩ | ⟨_,rfl⟩
     ·exact h.env.gp k k' y y' g CA sL jB hg sK
     ·simp [Value.ownBlock] at sK
    ·simp [Value.ownBlock] at hg }
 ·exact {
   c:=h.nw.c
   cn:=h.nw.cn
   β:=h.nw.β
   tk:=fun j q0 y0 wU zo=>by
    obtain ⟨q',y',h1,h2,h3⟩:=h.nw.tk j q0 y0 wU zo
    grind
   tn:=fun j y g hj hy hg=>by
    rcases hτ j y hy with ⟨_,sL⟩ | ⟨_,rfl⟩
    ·exact h.nw.tn j y g hj sL hg
    ·simp [Value.ownBlock] at hg
   l0:=h.nw.l0 }
theorem EP (h:Rel X E st a w) (hst:X.still=false) {k n m ty e g cap:Nat} {v:Value} {xs news:List Value} {tk':List TkE} {τ':List Value} {w':World}
  (hk:(∃ q,E.tk[k]? = some q/\E.τ[k]? = some v/\q.n=n/\q.ty=ty/\q.e=e/\q.own=none)∨(E.tk[k]? = none/\E.τ[k]? = none/\v = .slice none 0 0/\n=0))
  (hm:0 < m) (he:0 < e) (h1:tk'[k]? = some ⟨n + m,ty,e,none⟩) (oY:τ'[k]? = some (.slice (some ⟨g,0,none⟩) (n + m) cap)) (hl:τ'.length=tk'.length)
  (ht:∀ j,j≠k->tk'[j]? = E.tk[j]?) (py:∀ j,j≠k->τ'[j]? = E.τ[j]?)
  (eA:w.ownsRow 0 ty e v n xs) (h2:w'.ownsRow 0 ty e (.slice (some ⟨g,0,none⟩) (n + m) cap) (n + m) (xs ++ news)) (h3:w.grownBy w' v.ownBlock)
  (h4:v.ownBlock=some g∨(w.heap.size<=g/\∀ j,j < w.heap.size->w'.heap[j]? = w.heap[j]?)) :
  Rel X ⟨fj E.c w' g ((n + m) * e),E.β,tk',τ'⟩ ⟨st.sl,st.bx,tk'⟩ a w' /\ Ext E ⟨fj E.c w' g ((n + m) * e),E.β,tk',τ'⟩/\∀ (j:Nat) u,(xs ++ news)[j]? = some u->fj E.c w' g ((n + m) * e) ⟨g,j,none⟩=some u:=by
 have hlen:=h2.1;rcases h2.2 with ⟨hv,_⟩ | ⟨g',Od,cur,hv,_,Ib,J2,hcm,cm,htake⟩
 ·cases hv
 injection hv with pU Cz S5
 injection pU with pU
 injection pU with pU
 subst pU S5
 have Oe:∀ g0,v.ownBlock=some g0->g0 < w.heap.size/\g0 ∉ E.β/\((∃ y0∈X.E0.τ,y0.ownBlock=some g0)∨X.w0.heap.size<=g0):=by
  intro g0 CB;rcases hk with ⟨q,hq,hy,_⟩ | ⟨_,_,rfl,_⟩
  ·have:=fy (h.env.b9 k q v hq hy) CB;exact ⟨this.1,this.2,h.nw.own hy CB⟩
  ·simp [Value.ownBlock] at CB
 have cR:w.heap.size<=w'.heap.size:=h3.size
 have CB:g ∉ E.β/\((∃ y0∈X.E0.τ,y0.ownBlock=some g)∨X.w0.heap.size<=g):=by
  rcases h4 with h4 | h4
  ·exact (Oe g h4).2
  ·exact ⟨fun hb=>by have:=h.env.aQ hb;omega,.inr (Nat.le_trans h.fr.size h4.1)⟩
 have mF:∀ j,j < w.heap.size->some j≠v.ownBlock->w'.heap[j]? = w.heap[j]?:=fun j hj bi=>h3.block j hj bi
 have cG:∀ (j:Nat) u,(xs ++ news)[j]? = some u->w'.cell? ⟨g,j,none⟩=some u:=by
  intro j u hj;rw [bX Ib];rw [<- htake,bM] at hj;split at hj
  ·simpa using hj
  ·cases hj
 have hold:∀ x u,E.c x=some u->w'.cell? x=some u:=by
  intro x u hx;have tq:=h.env.sub x u hx;have ap:=World.block_lt_of_cell? w x tq;by_cases ho:some x.block=v.ownBlock
  ·rcases h4 with h4 | h4
   ·rw [h4] at ho;simp only [oI] at ho;rcases hk with ⟨q,hq,hy,rfl,rfl,rfl,Ej⟩ | ⟨_,_,rfl,_⟩
    ·rcases h.env.b9 k q v hq hy with ⟨rfl,_⟩ | ⟨g2,LA,LB,rfl,zp,zq,LD,_,_,mC⟩
     ·simp [Value.ownBlock] at h4
     ·simp only [Value.ownBlock,oI] at h4;subst h4;have u7:=mC x u hx ho;simp only [TkE.kn,Ej] at u7;rcases eA.2 with ⟨pz,_⟩ | ⟨g3,cap3,cur3,pz,_,Ek,_,_,_,S6⟩
      ·cases pz
      ·injection pz with e1 e2 e3
       injection e1 with e1
       injection e1 with e1
       subst e1;obtain ⟨xb,xo,VW⟩:=x;simp only at ho u7;subst ho
       have LF:VW=none:=by
        cases VW with
        | none=>rfl
        | some _=>simp [World.cell?,Ek] at tq
       subst LF;rw [bX Ek] at tq
       have:xs[xo]? = some u:=by
        rw [<- S6,bM,zIfP u7];simpa using tq
       exact cG xo u (by rw [dF (gS this).1];exact this)
    ·simp [Value.ownBlock] at h4
   ·rw [iS (w:=w) (h4.2 _ ap)];exact tq
  ·rw [iS (w:=w) (mF _ ap ho)];exact tq
 have gM:(xs ++ news).length=(n + m) * e:=hlen
 have zr:∀ x u,E.c x=some u->fj E.c w' g ((n + m) * e) x=some u:=by
  intro x u hx;unfold fj;split
  ·exact hold x u hx
  ·exact hx
 have hext:Ext E ⟨fj E.c w' g ((n + m) * e),E.β,tk',τ'⟩:={
  c:=zr
  β:=fun _ _ h=>h
  tk:=fun j q hq=>by
   by_cases hj:j=k
   ·subst hj;rcases hk with ⟨q2,iR,_,hn,_⟩ | ⟨hn,_⟩
    ·rw [hq] at iR;simp only [oI] at iR;subst iR;exact ⟨_,h1,.inr (by simp only;omega)⟩
    ·rw [hq] at hn;cases hn
   ·exact ⟨q,by rw [<- hq];exact ht j hj,.inl ⟨rfl,py j hj⟩⟩ }
 have hβ:∀ b' ∈ E.β,w'.heap[b']? = w.heap[b']?:=fun b' ee=>mF b' (h.env.aQ ee) fun he=>(Oe b' he.symm).2.1 ee
 have lK:∀ j y g1,j≠k->E.τ[j]? = some y->y.ownBlock=some g1->g1≠g/\w'.heap[g1]? = w.heap[g1]?:=by
  intro j y g1 hj hy lx;have pA:j < E.tk.length:=by rw [<- h.env.tl];exact (gS hy).1
  have ap:=(fy (h.env.b9 j _ y (gE pA) hy) lx).1
  have bi:v.ownBlock≠some g1:=by
   rcases hk with ⟨q,hq,Ic,_⟩ | ⟨_,_,rfl,_⟩
   ·exact h.env.gp j k y v g1 hj hy Ic lx
   ·simp [Value.ownBlock]
  refine ⟨?_,mF g1 ap (Ne.symm bi)⟩;rintro rfl;rcases h4 with h4 | h4
  ·exact bi h4
  ·omega
 refine ⟨cy h hext ?_ rfl ?_ ?_ (ln hst) (h.bt.fx hβ),hext,fun j u hj=>?_⟩
 ·exact {
   len:=h.env.len
   tl:=hl
   dn:=fun i cs hi=>by
    obtain ⟨b,t,arr,hb,hw,hc⟩:=h.env.dn i cs hi;exact ⟨b,t,arr,hb,by rw [hβ b (mG hb)];exact hw,hc.mono hext⟩
   inj:=h.env.inj
   sub:=fun x u hx=>by
    rcases gZ hx with ⟨_,_,_,h5⟩ | h5
    ·exact h5
    ·exact hold x u h5
   pc:=fun x u hx Og=>by
    rcases gZ hx with ⟨h5,_⟩ | h5
    ·exact CB.1 (h5 ▸ Og)
    ·exact h.env.pc x u h5 Og
   b9:=fun j q y hq hy=>by
    by_cases hj:j=k
    ·subst hj;rw [show E.c=E.c from rfl] at *;have j3:tk'[j]? = some q:=hq;have fm:τ'[j]? = some y:=hy;rw [h1] at j3;rw [oY] at fm;simp only [oI] at j3 fm;subst j3 fm;refine .inr ⟨g,cap,cur,rfl,Ib,⟨cm,my.none rfl⟩,J2,hcm,CB.1,fun x u hx zs=>?_⟩;rcases gZ hx with ⟨_,_,h5,_⟩ | h5
     ·exact h5
     ·-- an old known cell of this block
      have tq:=h.env.sub x u h5;have ap:=World.block_lt_of_cell? w x tq;rcases h4 with h4 | h4
      ·rcases hk with ⟨q,hq,Ic,VX,HR,EQ,Ej⟩ | ⟨_,_,rfl,_⟩
       ·rcases h.env.b9 j q v hq Ic with ⟨rfl,_⟩ | ⟨g2,LA,LB,rfl,zp,zq,LD,_,_,mC⟩
        ·simp [Value.ownBlock] at h4
        ·simp only [Value.ownBlock,oI] at h4;have:=mC x u h5 (zs.trans h4.symm);simp only [TkE.kn,Ej] at this;rw [VX,EQ] at this;show x.off < (n + m) * e;exact Nat.lt_of_lt_of_le this (Nat.mul_le_mul_right _ (Nat.le_add_right _ _))
       ·simp [Value.ownBlock] at h4
      ·have:=h4.1;rw [zs] at ap;omega
    ·have j3:E.tk[j]? = some q:=by rw [<- ht j hj];exact hq
     have fm:E.τ[j]? = some y:=by rw [<- py j hj];exact hy
     rcases h.env.b9 j q y j3 fm with h5 | ⟨g2,LA,LB,rfl,zp,zq,LD,zt,iU,mC⟩
     ·exact .inl h5
     ·obtain ⟨bi,wV⟩:=lK j _ g2 hj fm rfl;refine .inr ⟨g2,LA,LB,rfl,by rw [wV];exact zp,⟨zq.1,zq.2.mono zr⟩,LD,zt,iU,fun x u hx zs=>?_⟩;rcases gZ hx with ⟨h5,_⟩ | h5
      ·exact (bi (zs.symm.trans h5)).elim
      ·exact mC x u h5 zs
   gp:=fun j j' y y' g1 Bu hy fm lx wW=>by
    by_cases hj:j=k
    ·subst hj;have jB:τ'[j]? = some y:=hy;rw [oY] at jB;simp only [oI] at jB;subst jB;simp only [Value.ownBlock,oI] at lx;have y9:E.τ[j']? = some y':=by rw [<- py j' (Ne.symm Bu)];exact fm
     exact (lK j' y' g1 (Ne.symm Bu) y9 wW).1 lx.symm
    ·have y9:E.τ[j]? = some y:=by rw [<- py j hj];exact hy
     by_cases gN:j'=k
     ·subst gN;have jB:τ'[j']? = some y':=fm;rw [oY] at jB;simp only [oI] at jB;subst jB;simp only [Value.ownBlock,oI] at wW;exact (lK j y g1 hj y9 lx).1 wW.symm
     ·have S7:E.τ[j']? = some y':=by rw [<- py j' gN];exact fm
      exact h.env.gp j j' y y' g1 Bu y9 S7 lx wW }
 ·exact {
   c:=fun x u hx=>zr x u (h.nw.c x u hx)
   cn:=fun x u hx=>by
    rcases gZ hx with ⟨h5,_⟩ | h5
    ·rcases CB.2 with h6 | h6
     ·exact .inr (.inr (by rw [h5];exact h6))
     ·exact .inr (.inl (by rw [h5];exact h6))
    ·exact h.nw.cn x u h5
   β:=h.nw.β
   tk:=fun j q0 y0 wU zo=>by
    obtain ⟨q',y',h5,h6,h7,h8,h9,tv⟩:=h.nw.tk j q0 y0 wU zo;by_cases hj:j=k
    ·subst hj;rcases hk with ⟨q,hq,Ic,VX,HR,EQ,_⟩ | ⟨hn,_⟩
     ·rw [h5] at hq;rw [h6] at Ic;simp only [oI] at hq Ic;subst hq Ic;refine ⟨_,_,h1,oY,by rw [h7];exact HR,by rw [h8];exact EQ,.inr ?_,?_⟩
      ·rcases h9 with ⟨h9,_⟩ | h9
       ·simp only;omega
       ·simp only;omega
      ·rcases h4 with h4 | h4
       ·rcases tv with tv | tv
        ·left;rw [<- tv,h4];all_goals rfl
        ·right;intro g1 lx;simp only [Value.ownBlock,oI] at lx;exact lx ▸ tv g h4
       ·right;intro g1 lx;simp only [Value.ownBlock,oI] at lx;have:=h.fr.size;omega
     ·rw [h5] at hn;cases hn
    ·exact ⟨q',y',by rw [<- h5];exact ht j hj,by rw [<- h6];exact py j hj,h7,h8,h9,tv⟩
   tn:=fun j y g1 wX hy lx=>by
    by_cases hj:j=k
    ·subst hj;have jB:τ'[j]? = some y:=hy;rw [oY] at jB;simp only [oI] at jB;subst jB;simp only [Value.ownBlock,oI] at lx;subst lx;rcases h4 with h4 | h4
     ·rcases hk with ⟨q,hq,Ic,_⟩ | ⟨_,_,rfl,_⟩
      ·exact h.nw.tn j v g wX Ic h4
      ·simp [Value.ownBlock] at h4
     ·have:=h.fr.size;omega
    ·exact h.nw.tn j y g1 wX (by rw [<- py j hj];exact hy) lx
   l0:=h.nw.l0 }
 ·refine h.fr.bN h3.os h3.tape h3.output h3.size fun j hj=>?_;by_cases ho:some j=v.ownBlock
  ·left;rcases (Oe j ho.symm).2.2 with h5 | h5
   ·exact .inl (.inr h5)
   ·exact .inr h5
  ·exact .inr (mF j hj ho)
 ·have gN:=(gS hj).1;rw [u6 (by omega)];exact cG j u hj
theorem Bv (h:Rel X E st a w) (hst:X.still=false) {k:Nat} {q q':TkE} {v v':Value} {w':World} (hq:E.tk[k]? = some q) (hv:E.τ[k]? = some v) (Ej:q.kn=0) (hty:q'.ty=q.ty) (he:q'.e=q.e)
  (hn:(q'.n=q.n/\v'=v)∨q.n < q'.n) (J9:zk w' E.c E.β q' v') (hb:v'.ownBlock=v.ownBlock∨∀ g,v'.ownBlock=some g->w.heap.size<=g)
  (wY:w'.os=w.os) (htp:w'.tape=w.tape) (hou:w'.output=w.output) (cR:w.heap.size<=w'.heap.size) (mF:∀ j,j < w.heap.size->some j≠v.ownBlock->w'.heap[j]? = w.heap[j]?) :
  Rel X ⟨E.c,E.β,E.tk.set k q',E.τ.set k v'⟩ ⟨st.sl,st.bx,st.tk.set k q'⟩ a w' /\ Ext E ⟨E.c,E.β,E.tk.set k q',E.τ.set k v'⟩:=by
 have eo:=(gS hq).1;have Oh:=(gS hv).1;have ho:=h.env.b9 k q v hq hv;have Oe:∀ g0,v.ownBlock=some g0->g0 < w.heap.size/\g0 ∉ E.β:=fun g0 CB=>fy ho CB
 have hc:∀ x u,E.c x=some u->some x.block≠v.ownBlock:=fun x u hx Ob=>by
  rcases ho with ⟨rfl,_⟩ | ⟨g,cap,cur,rfl,_,_,_,_,_,h6⟩
  ·simp [Value.ownBlock] at Ob
  ·simp only [Value.ownBlock,oI] at Ob;have:=h6 x u hx Ob;omega
 have hold:∀ x u,E.c x=some u->w'.cell? x=some u:=fun x u hx=>by
  have tq:=h.env.sub x u hx;rw [iS (w:=w) (mF _ (World.block_lt_of_cell? w x tq) (hc x u hx))];exact tq
 have ht:∀ j,j≠k->(E.tk.set k q')[j]? = E.tk[j]?:=fun j hj=>List.getElem?_set_ne (Ne.symm hj);have py:∀ j,j≠k->(E.τ.set k v')[j]? = E.τ[j]?:=fun j hj=>List.getElem?_set_ne (Ne.symm hj);have h1:(E.tk.set k q')[k]? = some q':=fT eo;have oY:(E.τ.set k v')[k]? = some v':=fT Oh
 have hext:Ext E ⟨E.c,E.β,E.tk.set k q',E.τ.set k v'⟩:=⟨fun _ _ h=>h,fun _ _ h=>h,fun j q2 iR=>by
  by_cases hj:j=k
  ·subst hj;rw [hq] at iR;simp only [oI] at iR;subst iR;refine ⟨q',h1,?_⟩;rcases hn with ⟨hn,rfl⟩ | hn
   ·exact .inl ⟨hn,by rw [hv];exact oY⟩
   ·exact .inr hn
  ·exact ⟨q2,by rw [<- iR];exact ht j hj,.inl ⟨rfl,py j hj⟩⟩⟩
 have hβ:∀ b' ∈ E.β,w'.heap[b']? = w.heap[b']?:=fun b' ee=>mF b' (h.env.aQ ee) fun he=>(Oe b' he.symm).2 ee
 have lK:∀ j y g1,j≠k->E.τ[j]? = some y->y.ownBlock=some g1->v'.ownBlock≠some g1/\w'.heap[g1]? = w.heap[g1]?:=fun j y g1 hj hy lx=>by
  have ap:=(h.env.own (mG hy) lx).1;have bi:v.ownBlock≠some g1:=h.env.gp j k y v g1 hj hy hv lx;refine ⟨?_,mF g1 ap (Ne.symm bi)⟩;rcases hb with hb | hb
  ·rw [hb];exact bi
  ·intro h2;have:=hb g1 h2;omega
 refine ⟨cy h hext ?_ (by rw [h.tk]) ?_ ?_ (ln hst) (h.bt.fx hβ),hext⟩
 ·exact {
   len:=h.env.len
   tl:=by simp only [List.length_set];exact h.env.tl
   dn:=fun i cs hi=>by
    obtain ⟨b,t,arr,hb,hw,hc⟩:=h.env.dn i cs hi;exact ⟨b,t,arr,hb,by rw [hβ b (mG hb)];exact hw,hc.mono hext⟩
   inj:=h.env.inj
   sub:=hold
   pc:=h.env.pc
   b9:=fun j q2 y iR hy=>by
    by_cases hj:j=k
    ·subst hj;have CD:(E.tk.set j q')[j]? = some q2:=iR;have y9:(E.τ.set j v')[j]? = some y:=hy;rw [h1] at CD;rw [oY] at y9;simp only [oI] at CD y9;subst CD y9;exact J9
    ·have CD:E.tk[j]? = some q2:=by rw [<- ht j hj];exact iR
     have y9:E.τ[j]? = some y:=by rw [<- py j hj];exact hy
     exact nS (h.env.b9 j q2 y CD y9) fun g hg=>(lK j y g hj y9 hg).2
   gp:=fun j j' y y' g1 Bu hy fm lx wW=>by
    by_cases hj:j=k
    ·subst hj;have jB:(E.τ.set j v')[j]? = some y:=hy;rw [oY] at jB;simp only [oI] at jB;subst jB;have y9:E.τ[j']? = some y':=by rw [<- py j' (Ne.symm Bu)];exact fm
     exact (lK j' y' g1 (Ne.symm Bu) y9 wW).1 lx
    ·have y9:E.τ[j]? = some y:=by rw [<- py j hj];exact hy
     by_cases gN:j'=k
     ·subst gN;have jB:(E.τ.set j' v')[j']? = some y':=fm;rw [oY] at jB;simp only [oI] at jB;subst jB;exact (lK j y g1 hj y9 lx).1 wW
     ·have S7:E.τ[j']? = some y':=by rw [<- py j' gN];exact fm
      exact h.env.gp j j' y y' g1 Bu y9 S7 lx wW }
 ·exact {
   c:=h.nw.c
   cn:=h.nw.cn
   β:=h.nw.β
   tk:=fun j q0 y0 wU zo=>by
    obtain ⟨q1,y1,h5,h6,h7,h8,h9,tv⟩:=h.nw.tk j q0 y0 wU zo;by_cases hj:j=k
    ·subst hj;rw [h5] at hq;rw [h6] at hv;simp only [oI] at hq hv;subst hq hv;refine ⟨_,_,h1,oY,h7.trans hty.symm,h8.trans he.symm,?_,?_⟩
     ·rcases hn with ⟨hn,rfl⟩ | hn
      ·rcases h9 with ⟨h9,rfl⟩ | h9
       ·exact .inl ⟨by omega,rfl⟩
       ·exact .inr (by omega)
      ·rcases h9 with ⟨h9,_⟩ | h9
       ·exact .inr (by omega)
       ·exact .inr (by omega)
     ·rcases hb with hb | hb
      ·rcases tv with tv | tv
       ·exact .inl (hb.trans tv)
       ·exact .inr fun g hg=>tv g (by rw [<- hb];exact hg)
      ·refine .inr fun g hg=>?_;have:=hb g hg;have:=h.fr.size;omega
    ·exact ⟨q1,y1,by rw [<- h5];exact ht j hj,by rw [<- h6];exact py j hj,h7,h8,h9,tv⟩
   tn:=fun j y g1 wX hy lx=>by
    by_cases hj:j=k
    ·subst hj;have jB:(E.τ.set j v')[j]? = some y:=hy;rw [oY] at jB;simp only [oI] at jB;subst jB;rcases hb with hb | hb
     ·exact h.nw.tn j v g1 wX hv (by rw [<- hb];exact lx)
     ·have:=hb g1 lx;have:=h.fr.size;omega
    ·exact h.nw.tn j y g1 wX (by rw [<- py j hj];exact hy) lx
   l0:=h.nw.l0 }
 ·refine h.fr.bN wY htp hou cR fun j hj=>?_;by_cases VY:some j=v.ownBlock
  ·left;rcases h.nw.own hv VY.symm with h5 | h5
   ·exact .inl (.inr h5)
   ·exact .inr h5
  ·exact .inr (mF j hj VY)
end
end Dv
end Go.Proofs.YtfdedoiiahbnnaaGreat
namespace Go.Proofs.YtfdedoiiahbnnaaGreat
namespace Dv
open Go Go.RowKit
def VZ (X:Ctx) (G:List It->St->Prop):Prop:=∀ k st,G k st->∀ E a w,Rel X E st a w->kq X k .normal a w
section
variable {X:Ctx} {E:En} {st:St} {a:Act} {w:World}
theorem lL {x:Option Addr} (h:okA x):x=some ⟨ab x,ao x,none⟩:=by
 cases x with
 | none=>exact h.elim
 | some y=>obtain ⟨b,o,s⟩:=y;simp only [okA] at h;subst h;rfl
theorem aP {C:World->Prop} (h:Rl E st.bx C st.sl a) {x:Operand} {s:DV} (hx:rv st [] x=some s):Rv E s (a.eval x):=bu h (aM _) hx
theorem eQ {P:Program} {t:TypeId} {i:TypeInfo} (h:P.info? t=some i):fU P t=some i.size:=by simp [fU,h]
theorem cJ {C:World->Prop} (h:Rl E st.bx C st.sl a) {d:Int} {y:Operand} {z:Int} (hb:bound st d (some y)=some z):∃ k,a.eval y = .int k z:=by
 simp only [bound] at hb;split at hb
 ·rename_i k z' hy;simp only [oI] at hb;subst hb;exact ⟨k,bH (aP h hy)⟩
 ·cases hb
theorem RvEs.sI:∀ {es:List (List DV)} {E:En} {e b o:Nat},RvEs E e b o es->∃ arr,RvC E es.flatten arr/\arr.length=es.length * e/\∀ (j:Nat) u,arr[j]? = some u->E.c ⟨b,o + j,none⟩=some u
 | [],E,e,b,o,_=>⟨[],⟨bW E,by simp⟩,by simp,by simp⟩
 | cs :: r,E,e,b,o,h=>by
  simp only [RvEs] at h;obtain ⟨h1,h2,h3⟩:=h;obtain ⟨a1,h4,h5⟩:=h2.sI;obtain ⟨a2,h6,h7,h8⟩:=RvEs.sI h3;have hl:a1.length=e:=by rw [h4.1.length];exact h1
  refine ⟨a1 ++ a2,by simpa using h4.append h6,by simp [hl,h7,Nat.add_mul];omega,fun j u hj=>?_⟩
  grind
theorem u9:∀ {bs:List UInt8} {vs:List Value},RvL E (u8L bs) vs->vs=(bs.map fun b=>(b.toNat:Int)).map (Value.int .u8)
 | [],vs,h=>by simpa [u8L,RvL] using h
 | b :: r,vs,h=>by
  simp only [u8L,RvL] at h;obtain ⟨v,s,rfl,h1,h2⟩:=h;unfold Rv at h1;rw [h1.1,u9 h2];rfl
theorem foldl_push (bs:List UInt8):∀ r:ByteArray,(bs.map fun b=>(b.toNat:Int)).foldl (fun r n=>r.push (UInt8.ofNat n.toNat)) r=⟨(r.data.toList ++ bs).toArray⟩:=by
 induction bs with
 | nil=>intro r;simp
 | cons b t ih=>simp_all
theorem zu {E:En}:∀ {l vs:List Value},RvL E (vL l) vs->vs=l
 | [],vs,h=>by simpa [vL,RvL] using h
 | x :: r,vs,h=>by
  simp only [vL,RvL] at h;obtain ⟨v,s,rfl,h1,h2⟩:=h;unfold Rv at h1;rw [h1.1,zu h2]
theorem jC {C:World->Prop} (h:Rl E st.bx C st.sl a) {o:Oper} {K:DV->Prop} {p:Prop} (he:effR X st o.op K=some p) (hp:p):∃ y,K y/\N9 X.P C E a o y:=by
 have hT:=X.hT;obtain ⟨dst,op,ty,pos,after,gu⟩:=o;cases op<;>simp only [effR] at he<;>try (cases he;done)
 case indexAddr t x i=>
  split at he
  ·rename_i e es tk kd z hx hi;split at he
   ·rename_i n b et e' iQ zz hf;split at he
    ·rename_i Bw;have Bw:e=e':=sU Bw;subst Bw;simp only [oI] at he;subst he;obtain ⟨cs,⟨hz,cm⟩,hk⟩:=hp;refine ⟨_,hk,?_⟩;have e1:=aP h hx;have e2:=bH (aP h hi);unfold Rv at e1;obtain ⟨b,n',cap,e1,⟨rfl,_⟩,hr,_⟩:=e1;have ap:=(gS cm).1;have bi:es ≠ []:=by rintro rfl;simp at ap
     obtain ⟨ef,qC⟩:=hr bi;have J9:=(qC.get cm).2;obtain ⟨hu,ii,zv,va,_,cR,_,_⟩:=dV hT hf;have pB:fU X.P et=some e:=by rw [eQ va,cR]
     have hb:=lL ef;refine ⟨.pointer (some ⟨ab b,ao b + z.toNat * e,none⟩),by unfold Rv;exact ⟨_,_,rfl,J9⟩,fun w' _=>?_⟩;have h2:z < es.length:=by omega
     have bO:(Instr.indexAt t (.slice b es.length cap) (.int kd z)).run X.P w' = .ok (.pointer (some ⟨ab b,ao b + z.toNat * e,none⟩)) w':=by
      rw [hb];simp [Instr.indexAt,asIntOf,run_underlying hu,hz,h2,aG pB,Addr.add_lit,ab,ao]
     simp only [execOp,e1,e2,Sem.run_bind,bO,Result.andThen_ok,Sem.run_pure]
    ·cases he
   ·cases he
  ·rename_i j e off n cap kd z hx hi;split at he
   ·rename_i n2 b et e' iQ zz hf;split at he
    ·rename_i Bw;have Bw:e=e':=sU Bw;subst Bw;simp only [oI] at he;subst he;obtain ⟨⟨hz,h2⟩,hk⟩:=hp;refine ⟨_,hk,?_⟩;have e1:=aP h hx;have e2:=bH (aP h hi);unfold Rv at e1;obtain ⟨b,aa,hb,NC,e1,ha⟩:=e1;have ha:=ha (by omega);subst ha;obtain ⟨hu,ii,zv,va,_,cR,_,_⟩:=dV hT hf;have pB:fU X.P et=some e:=by rw [eQ va,cR]
     refine ⟨.pointer (some ⟨b,off + z.toNat * e,none⟩),by unfold Rv;exact ⟨_,hb,rfl⟩,fun w' _=>?_⟩
     have bO:(Instr.indexAt t (.slice (some ⟨b,off,none⟩) n cap) (.int kd z)).run X.P w' = .ok (.pointer (some ⟨b,off + z.toNat * e,none⟩)) w':=by
      simp [Instr.indexAt,asIntOf,run_underlying hu,hz,h2,aG pB,Addr.add_lit]
     simp only [execOp,e1,e2,Sem.run_bind,bO,Result.andThen_ok,Sem.run_pure]
    ·cases he
   ·cases he
  ·rename_i j off kd z hx hi;split at he
   ·rename_i n2 b n e zz hf;split at he
    all_goals
     simp only [oI] at he;subst he;obtain ⟨⟨hz,h2⟩,hk⟩:=hp;refine ⟨_,hk,?_⟩;have e1:=aP h hx;have e2:=bH (aP h hi);unfold Rv at e1;obtain ⟨b,hb,e1⟩:=e1;obtain ⟨et,hu,cR⟩:=ke hT hf;refine ⟨.pointer (some ⟨b,off + z.toNat * e,none⟩),by unfold Rv;exact ⟨_,hb,rfl⟩,fun w' _=>?_⟩
     have bO:(Instr.indexAt t (.pointer (some ⟨b,off,none⟩)) (.int kd z)).run X.P w' = .ok (.pointer (some ⟨b,off + z.toNat * e,none⟩)) w':=by
      simp [Instr.indexAt,asIntOf,run_underlying hu,Instr.sureAddr,hz,h2,aG cR,Addr.add_lit]
     simp only [execOp,e1,e2,Sem.run_bind,bO,Result.andThen_ok,Sem.run_pure]
   ·cases he
  ·rename_i j off kd z hx hi;split at he
   ·rename_i n2 b n e zz hf;simp only [oI] at he;subst he;obtain ⟨⟨hz,h2⟩,hk⟩:=hp;refine ⟨_,hk,?_⟩;have e1:=aP h hx;have e2:=bH (aP h hi);unfold Rv at e1;obtain ⟨b,hb,e1⟩:=e1;obtain ⟨et,hu,cR⟩:=ke hT hf;refine ⟨.pointer (some ⟨b,off + z.toNat * e,none⟩),by unfold Rv;exact ⟨_,hb,rfl⟩,fun w' _=>?_⟩
    have bO:(Instr.indexAt t (.pointer (some ⟨b,off,none⟩)) (.int kd z)).run X.P w' = .ok (.pointer (some ⟨b,off + z.toNat * e,none⟩)) w':=by
     simp [Instr.indexAt,asIntOf,run_underlying hu,Instr.sureAddr,hz,h2,aG cR,Addr.add_lit]
    simp only [execOp,e1,e2,Sem.run_bind,bO,Result.andThen_ok,Sem.run_pure]
   ·cases he
  ·rename_i cs off kd z hx hi;split at he
   ·rename_i n2 b n e zz hf;split at he
    ·simp only [oI] at he;subst he;obtain ⟨⟨hz,h2⟩,hk⟩:=hp;refine ⟨_,hk,?_⟩;have e1:=aP h hx;have e2:=bH (aP h hi);unfold Rv at e1;obtain ⟨b,q,e1,hb⟩:=e1;obtain ⟨et,hu,cR⟩:=ke hT hf;refine ⟨.pointer (some ⟨b,q + (off + z.toNat * e),none⟩),by unfold Rv;exact ⟨_,_,rfl,hb⟩,fun w' _=>?_⟩
     have bO:(Instr.indexAt t (.pointer (some ⟨b,q + off,none⟩)) (.int kd z)).run X.P w' = .ok (.pointer (some ⟨b,q + (off + z.toNat * e),none⟩)) w':=by
      simp [Instr.indexAt,asIntOf,run_underlying hu,Instr.sureAddr,hz,h2,aG cR,Addr.add_lit,Nat.add_assoc]
     simp only [execOp,e1,e2,Sem.run_bind,bO,Result.andThen_ok,Sem.run_pure]
    ·simp only [oI] at he;subst he;obtain ⟨ds,⟨⟨hz,h2⟩,Sd⟩,hk⟩:=hp;subst Sd;refine ⟨_,hk,?_⟩;have e1:=aP h hx;have e2:=bH (aP h hi);unfold Rv at e1;obtain ⟨b,q,e1,hb⟩:=e1;obtain ⟨et,hu,cR⟩:=ke hT hf;refine ⟨.pointer (some ⟨b,q + (off + z.toNat * e),none⟩),by unfold Rv;exact ⟨b,q + (off + z.toNat * e),rfl,(hb.drop _).take _⟩,fun w' _=>?_⟩
     have bO:(Instr.indexAt t (.pointer (some ⟨b,q + off,none⟩)) (.int kd z)).run X.P w' = .ok (.pointer (some ⟨b,q + (off + z.toNat * e),none⟩)) w':=by
      simp [Instr.indexAt,asIntOf,run_underlying hu,Instr.sureAddr,hz,h2,aG cR,Addr.add_lit,Nat.add_assoc]
     simp only [execOp,e1,e2,Sem.run_bind,bO,Result.andThen_ok,Sem.run_pure]
   ·cases he
  ·cases he
 case load t x=>
  split at he
  ·rename_i i off hx;split at he
   ·rename_i cs cm;simp only [oI] at he;subst he;obtain ⟨d,hy,hk⟩:=hp;refine ⟨d,hk,?_⟩;have e1:=aP h hx;unfold Rv at e1;obtain ⟨b,hb,e1⟩:=e1;obtain ⟨b',arr,ee,hc,hw⟩:=h.dn i cs cm;rw [hb] at ee;simp only [oI] at ee;subst ee;obtain ⟨v,hv,hl⟩:=jz hT hc (b:=b) (p:=0) hy;refine ⟨v,hv,fun w hC=>?_⟩;have hl:=hl w (fun j u hj=>by rw [Nat.zero_add];exact hw w (hC rfl) j u hj);rw [Nat.zero_add] at hl;simp only [execOp,e1,Sem.run_bind,Instr.loadAt,Instr.sureAddr,Sem.run_pure,Result.andThen_ok,hl]
   ·cases he
  ·cases he
 case index t x i=>
  split at he
  ·rename_i s kd z n b zz hx hi hf;simp only [oI] at he;subst he;obtain ⟨⟨h1,h2⟩,hk⟩:=hp;refine ⟨_,hk,?_⟩;have e1:=bn (aP h hx);have e2:=bH (aP h hi);have hu:=kR hT hf;have hz:z.toNat < s.size:=by omega
   refine ⟨.int .u8 (bq s z.toNat),dQ rfl,fun w' _=>?_⟩
   have hr:(Instr.index t (.string s) (.int kd z)).run X.P w' = .ok (.int .u8 (bq s z.toNat)) w':=by
    have hb:s[z.toNat]? = some (s[z.toNat]'hz):=by simp [hz]
    have iU:bq s z.toNat=(s[z.toNat]'hz).toNat:=by
     simp only [bq];congr 1;have S8:z.toNat < s.data.toList.length:=sU hz;rw [dz,gE S8];rfl
    simp [Instr.index,asIntOf,run_underlying hu,h1,hb,iU]
   simp only [execOp,e1,e2,Sem.run_bind,hr,Result.andThen_ok,Sem.run_pure]
  ·cases he
 case slice t x lo hi mx=>
  split at he
  ·cases he
  ·split at he
   ·rename_i s n b zz hx hf;split at he
    ·rename_i l g hlo nU;simp only [oI] at he;subst he;obtain ⟨⟨h1,h2,h3⟩,hk⟩:=hp;refine ⟨_,hk,?_⟩;have e1:=bn (aP h hx);have hu:=kR hT hf;refine ⟨.string (s.extract l.toNat g.toNat),dQ rfl,fun w' _=>?_⟩;have eg:(g.toNat:Int)=g:=Int.toNat_of_nonneg (by omega)
     have hr:(Instr.sliceAt t (.string s) (lo.map a.eval) (hi.map a.eval) none).run X.P w' = .ok (.string (s.extract l.toNat g.toNat)) w':=by
      rw [run_sliceAt_string w' t _ _ _ _ hu]
      cases lo with
      | none=>
       simp only [bound,oI] at hlo;subst hlo
       cases hi with
       | none=>
        simp only [bound,oI] at nU;subst nU;simp [Instr.slice,run_underlying hu,Instr.sliceBounds]
       | some y=>
        obtain ⟨k,hy⟩:=cJ h nU;simp [Instr.slice,run_underlying hu,Instr.sliceBounds,hy,run_sliceBound,h2,h3]
      | some z=>
       obtain ⟨k,hz⟩:=cJ h hlo
       cases hi with
       | none=>
        simp only [bound,oI] at nU;subst nU;simp [Instr.slice,run_underlying hu,Instr.sliceBounds,hz,run_sliceBound,h1,h2]
       | some y=>
        obtain ⟨k',hy⟩:=cJ h nU;have h0:0<=g:=by omega
        simp [Instr.slice,run_underlying hu,Instr.sliceBounds,hz,hy,run_sliceBound,h0,h1,h2,h3,eg]
     simp only [execOp,e1,Option.map_none,Sem.run_bind,hr,Result.andThen_ok,Sem.run_pure]
    ·cases he
   ·rename_i e es tk n b et e' iQ zz hx hf;split at he
    ·rename_i Bw;have Bw:e=e':=sU Bw;subst Bw;split at he
     ·rename_i l g hlo nU;simp only [oI] at he;subst he;obtain ⟨⟨h1,h2,h3⟩,hk⟩:=hp;refine ⟨_,hk,?_⟩;have e1:=aP h hx;unfold Rv at e1;obtain ⟨bb,n',cap,e1,⟨rfl,CE⟩,hr,_⟩:=e1;obtain ⟨hu,ii,zv,va,_,cR,_,_⟩:=dV hT hf;have pB:fU X.P et=some e:=by rw [eQ va,cR]
      have bO:∀ w',(Instr.sliceAt t (.slice bb es.length cap) (lo.map a.eval) (hi.map a.eval) none).run X.P w' = .ok (.slice (if cap=l.toNat then bb else bb.map (·.add (l.toNat * e))) (g.toNat - l.toNat) (cap - l.toNat)) w':=by
       intro w'
       have nV:∀ x y,(Instr.sliceAt t (.slice bb es.length cap) x y none).run X.P w'=(Instr.slice t (.slice bb es.length cap) x y none).run X.P w':=by
        intro x y;simp [Instr.sliceAt,run_underlying hu]
       rw [nV];have Eg:g<=(cap:Int):=by omega
       cases lo with
       | none=>
        simp only [bound,oI] at hlo;subst hlo
        cases hi with
        | none=>
         simp only [bound,oI] at nU;subst nU;simp [Instr.slice,run_underlying hu,Instr.sliceBounds,aG pB]
        | some y=>
         obtain ⟨k,hy⟩:=cJ h nU;simp [Instr.slice,run_underlying hu,Instr.sliceBounds,hy,run_sliceBound,h2,Eg,aG pB]
       | some z=>
        obtain ⟨k,hz⟩:=cJ h hlo
        cases hi with
        | none=>
         simp only [bound,oI] at nU;subst nU;simp [Instr.slice,run_underlying hu,Instr.sliceBounds,hz,run_sliceBound,h1,h2,aG pB]
        | some y=>
         obtain ⟨k',hy⟩:=cJ h nU;have h0:0<=g:=by omega
         have eg:(g.toNat:Int)=g:=Int.toNat_of_nonneg h0;simp [Instr.slice,run_underlying hu,Instr.sliceBounds,hz,hy,run_sliceBound,h0,h1,h2,Eg,eg,aG pB]
      refine ⟨_,?_,fun w' _=>by simp only [execOp,e1,Option.map_none,Sem.run_bind,bO w',Result.andThen_ok,Sem.run_pure];rfl⟩;unfold Rv;have hlen:((es.take g.toNat).drop l.toNat).length=g.toNat - l.toNat:=by simp;omega
      refine ⟨_,_,_,rfl,⟨hlen.symm,by omega⟩,fun bi=>?_,fun k hk=>by cases hk⟩
      have ap:l.toNat < g.toNat:=by
       have:=List.length_pos_iff.2 bi;omega
      have S9:es ≠ []:=by rintro rfl;simp at bi
      obtain ⟨ef,qC⟩:=hr S9;have hb:=lL ef;rw [ah (by omega),hb];refine ⟨?_,?_⟩
      ·simp [okA,Addr.add_lit]
      ·simp only [Option.map_some,Addr.add_lit,ab,ao];refine Bp fun j cs hj=>?_;rw [List.getElem?_drop,bM] at hj;split at hj
       ·have:=qC.get hj
        grind
       ·cases hj
     ·cases he
    ·cases he
   ·rename_i j off n1 b1 n2 e zz1 hx sM;split at he
    ·rename_i l g hlo nU;simp only [oI] at he;subst he;obtain ⟨⟨h1,h2,h3⟩,hk⟩:=hp;refine ⟨_,hk,?_⟩;have e1:=aP h hx;unfold Rv at e1;obtain ⟨b,hb,e1⟩:=e1;obtain ⟨et2,Ie,cR⟩:=ke hT sM
     have bO:∀ w',(Instr.sliceAt t (.pointer (some ⟨b,off,none⟩)) (lo.map a.eval) (hi.map a.eval) none).run X.P w' = .ok (.slice (some (if n2 - l.toNat=0 then ⟨b,off,none⟩ else (⟨b,off,none⟩:Addr).add (l.toNat * e))) (g.toNat - l.toNat) (n2 - l.toNat)) w':=by
      intro w';have hif:∀ (m:Nat) (p q:Addr),m=n2->l.toNat<=n2->(if m=l.toNat then p else q)=(if n2 - l.toNat=0 then p else q):=by grind
      rw [<- hif n2 _ _ rfl (by omega)]
      cases lo with
      | none=>
       simp only [bound,oI] at hlo;subst hlo
       cases hi with
       | none=>
        simp only [bound,oI] at nU;subst nU;simp [Instr.sliceAt,run_underlying Ie,Instr.sureAddr,Instr.sliceBounds,aG cR]
       | some y=>
        obtain ⟨k,hy⟩:=cJ h nU;simp [Instr.sliceAt,run_underlying Ie,Instr.sureAddr,Instr.sliceBounds,hy,run_sliceBound,h2,h3,aG cR]
      | some z=>
       obtain ⟨k,hz⟩:=cJ h hlo
       cases hi with
       | none=>
        simp only [bound,oI] at nU;subst nU;simp [Instr.sliceAt,run_underlying Ie,Instr.sureAddr,Instr.sliceBounds,hz,run_sliceBound,h1,h2,aG cR]
       | some y=>
        obtain ⟨k',hy⟩:=cJ h nU;have h0:0<=g:=by omega
        have eg:(g.toNat:Int)=g:=Int.toNat_of_nonneg h0;simp [Instr.sliceAt,run_underlying Ie,Instr.sureAddr,Instr.sliceBounds,hz,hy,run_sliceBound,h0,h1,h2,h3,eg,aG cR]
     refine ⟨_,?_,fun w' _=>by simp only [execOp,e1,Option.map_none,Sem.run_bind,bO w',Result.andThen_ok,Sem.run_pure];rfl⟩;unfold Rv;refine ⟨b,_,hb,by omega,rfl,fun hc=>?_⟩;rw [ah hc,Addr.add_lit]
    ·cases he
   ·rename_i j off n b et zz hx hf;split at he
    ·rename_i n1 b1 n2 e zz1 sM;split at he
     ·rename_i l g hlo nU;simp only [oI] at he;subst he;obtain ⟨⟨h1,h2,h3⟩,hk⟩:=hp;refine ⟨_,hk,?_⟩;have e1:=aP h hx;unfold Rv at e1;obtain ⟨b,hb,e1⟩:=e1;have hu:=mA hT hf;obtain ⟨et2,Ie,cR⟩:=ke hT sM
      have bO:∀ w',(Instr.sliceAt t (.pointer (some ⟨b,off,none⟩)) (lo.map a.eval) (hi.map a.eval) none).run X.P w' = .ok (.slice (some (if n2=l.toNat then ⟨b,off,none⟩ else (⟨b,off,none⟩:Addr).add (l.toNat * e))) (g.toNat - l.toNat) (n2 - l.toNat)) w':=by
       intro w'
       have nV:∀ x y,(Instr.sliceAt t (.pointer (some ⟨b,off,none⟩)) x y none).run X.P w'=(Instr.slice t (.pointer (some ⟨b,off,none⟩)) x y none).run X.P w':=by
        intro x y;simp [Instr.sliceAt,run_underlying hu,Instr.sureAddr]
       rw [nV]
       cases lo with
       | none=>
        simp only [bound,oI] at hlo;subst hlo
        cases hi with
        | none=>
         simp only [bound,oI] at nU;subst nU;simp [Instr.slice,run_underlying hu,run_underlying Ie,asAddr,Instr.sliceBounds,aG cR]
        | some y=>
         obtain ⟨k,hy⟩:=cJ h nU;simp [Instr.slice,run_underlying hu,run_underlying Ie,asAddr,Instr.sliceBounds,hy,run_sliceBound,h2,h3,aG cR]
       | some z=>
        obtain ⟨k,hz⟩:=cJ h hlo
        cases hi with
        | none=>
         simp only [bound,oI] at nU;subst nU;simp [Instr.slice,run_underlying hu,run_underlying Ie,asAddr,Instr.sliceBounds,hz,run_sliceBound,h1,h2,aG cR]
        | some y=>
         obtain ⟨k',hy⟩:=cJ h nU;have h0:0<=g:=by omega
         have eg:(g.toNat:Int)=g:=Int.toNat_of_nonneg h0;simp [Instr.slice,run_underlying hu,run_underlying Ie,asAddr,Instr.sliceBounds,hz,hy,run_sliceBound,h0,h1,h2,h3,eg,aG cR]
      refine ⟨_,?_,fun w' _=>by simp only [execOp,e1,Option.map_none,Sem.run_bind,bO w',Result.andThen_ok,Sem.run_pure];rfl⟩;unfold Rv;refine ⟨b,_,hb,by omega,rfl,fun hc=>?_⟩;rw [ah (by omega),Addr.add_lit]
     ·cases he
    ·cases he
   ·cases he
 case convert s t x=>
  split at he
  ·rename_i es tk n1 b1 et iQ z1 n2 b2 z2 hx NE Ta;split at he
   ·rename_i n3 b3 z3 Ka;simp only [oI] at he;subst he;obtain ⟨bs,LG,hk⟩:=hp;obtain ⟨hu,_⟩:=dV hT NE;have e1:=aP h hx;unfold Rv at e1;obtain ⟨b,n',cap,e1,⟨rfl,_⟩,hr,_⟩:=e1;refine ⟨_,hk,_,dQ rfl,fun w' hC=>?_⟩;simp only [execOp,e1,Sem.run_bind,Sem.run_pure,run_convert_bytes_string w' s t et b es.length cap hu (pT hT Ka) (kR hT Ta)];by_cases bi:es=[]
    ·subst bi
     have:bs=[]:=by
      cases bs with
      | nil=>rfl
      | cons=>simp [u8L] at LG
     subst this
     cases b with
     | none=>simp [Conv.bytesToString,Result.andThen];rfl
     | some ad=>
      rw [List.length_nil,run_bytesToString w' ad 0 cap [] (by simpa using run_loadCells_list (P:=X.P) (w:=w') ad [] (by simp))];simp [Result.andThen];rfl
    ·obtain ⟨ef,qC⟩:=hr bi;obtain ⟨arr,ha1,Ig,LH⟩:=qC.sI;have hb:=lL ef;rw [LG] at ha1;have nW:=u9 ha1.1
     have hl:=run_loadCells_list (P:=X.P) (w:=w') ⟨ab b,ao b,none⟩ arr (fun j v hj=>by
      rw [Addr.add_lit]
      exact h.cc _ _ (LH j v hj) w' (hC rfl))
     rw [Ig,Nat.mul_one,nW] at hl;rw [hb,run_bytesToString w' ⟨ab b,ao b,none⟩ es.length cap _ hl,foldl_push];simp only [Result.andThen];congr 2
   ·cases he
  ·cases he
 case binOp op t x y t'=>
  split at he
  ·rename_i s u hx hy;have e1:=bn (aP h hx);have e2:=bn (aP h hy);split at he
   ·simp only [oI] at he;subst he;obtain ⟨h1,hk⟩:=hp;have hn:¬ (9223372036854775807 < (s.size:Int) + (u.size:Int)):=by omega
    exact ⟨_,hk,_,dQ rfl,fun w' _=>by simp [execOp,e1,e2,eqGuard,binOp,Op.stringOp,hn]⟩
   ·cases he
  ·rename_i k1 p' k2 q hx hy;have e1:=bH (aP h hx);have e2:=bH (aP h hy);split at he
   ·simp only [oI] at he;subst he;obtain ⟨⟨rfl,h1⟩,hk⟩:=hp;exact ⟨_,hk,_,dQ rfl,fun w' _=>by simp [execOp,e1,e2,eqGuard,binOp,Op.intDiv,h1]⟩
   ·simp only [oI] at he;subst he;obtain ⟨⟨rfl,h1⟩,hk⟩:=hp;exact ⟨_,hk,_,dQ rfl,fun w' _=>by simp [execOp,e1,e2,eqGuard,binOp,Op.intDiv,h1]⟩
   ·simp only [oI] at he;subst he;obtain ⟨h1,hk⟩:=hp;have oY:¬ q < 0:=by omega
    exact ⟨_,hk,_,dQ rfl,fun w' _=>by simp [execOp,e1,e2,eqGuard,binOp,Op.shift,oY]⟩
   ·simp only [oI] at he;subst he;obtain ⟨h1,hk⟩:=hp;have oY:¬ q < 0:=by omega
    exact ⟨_,hk,_,dQ rfl,fun w' _=>by simp [execOp,e1,e2,eqGuard,binOp,Op.shift,oY]⟩
   ·cases he
  ·rename_i l l' hx hy;simp only [oI] at he;subst he;obtain ⟨b,⟨vs,vs',rfl,rfl,bO⟩,hk⟩:=hp;have e1:=aP h hx;have e2:=aP h hy;unfold Rv at e1 e2;obtain ⟨us,e1,hu,_⟩:=e1;obtain ⟨us',e2,Oa,_⟩:=e2;rw [zu hu] at e1;rw [zu Oa] at e2;refine ⟨_,hk,_,dQ rfl,fun w' _=>?_⟩;simp only [execOp,e1,e2,Sem.run_bind,(bO w').1,(bO w').2,Result.andThen_ok,Sem.run_pure]
  ·cases he
theorem iV {P:Program} {o:Oper} {K:Act->World->Prop} {Q:Exit->Act->World->Prop} {v:Value} {w w':World} (h:(execOp a.eval o).run P w = .ok (.value v) w') (hK:K (a.put o.dst v) w'):o.wp P a w K Q:=by
 unfold Oper.wp;rw [h];exact hK
theorem Ih {P:Program} {o:Oper} {K:Act->World->Prop} {Q:Exit->Act->World->Prop} {w w':World} (h:(execOp a.eval o).run P w = .ok .skip w') (hK:K (a.put o.dst undef) w'):o.wp P a w K Q:=by
 unfold Oper.wp;rw [h];exact hK
theorem rvEs_flat:∀ {es:List (List DV)} {E:En} {e b o:Nat} {arr:List Value},RvC E es.flatten arr->(∀ cs∈es,cs.length=e)->(∀ (j:Nat) u,arr[j]? = some u->E.c ⟨b,o + j,none⟩=some u)->RvEs E e b o es
 | [],E,e,b,o,arr,_,_,_=>by simp only [RvEs]
 | cs :: r,E,e,b,o,arr,hc,hl,hm=>by
  simp only [RvEs];have h1:=hl cs (by simp);simp only [List.flatten_cons] at hc;have t1:=hc.take e;have t2:=hc.drop e;rw [List.take_append_of_le_length (by omega),List.take_of_length_le (by omega)] at t1;rw [List.drop_append_of_le_length (by omega),List.drop_eq_nil_of_le (by omega),List.nil_append] at t2;refine ⟨h1,u3 t1 fun j u hj=>?_,rvEs_flat t2 (fun c hcm=>hl c (gA _ hcm)) fun j u hj=>?_⟩
  all_goals grind
theorem RvEs.len:∀ {es:List (List DV)} {E:En} {e b o:Nat},RvEs E e b o es->∀ cs∈es,cs.length=e
 | x :: r,E,e,b,o,h,cs,hc=>by
  simp only [RvEs] at h;rcases cY hc with rfl | hc
  ·exact h.1
  ·exact RvEs.len h.2.2 cs hc
theorem qD {d d':DV} {v:Value} (h:eraD d=some d') (hv:Rv E d v):Rv E.cl d' v:=by
 unfold eraD at h;split at h
 ·grind [Rv]
 ·simp only [oI] at h;subst h;unfold Rv at hv ⊢;obtain ⟨b,n,cap,h1,h2,h3,_⟩:=hv;exact ⟨b,n,cap,h1,h2,h3,fun k hk=>by cases hk⟩
 ·simp only [oI] at h;subst h;unfold Rv at hv ⊢;exact hv
 ·cases h
theorem qE {γ:Type}:∀ {l:List DV} {K:List DV->Option γ} {r:γ} {vs:List Value},eraL l K=some r->RvC E l vs->∃ l',K l'=some r/\RvC E.cl l' vs/\l'.length=l.length
 | [],K,r,vs,h,hv=>by
  simp only [RvC,RvL] at hv;obtain ⟨rfl,_⟩:=hv;exact ⟨[],h,⟨bW _,by simp⟩,rfl⟩
 | d :: l,K,r,vs,h,hv=>by
  simp only [eraL] at h;split at h
  ·rename_i d' hd;obtain ⟨hv,h1⟩:=hv;simp only [RvL] at hv;obtain ⟨v,s,rfl,h2,h3⟩:=hv;obtain ⟨l',h4,h5,h6⟩:=qE h ⟨h3,fun u hu=>h1 u (gA _ hu)⟩;exact ⟨d' :: l',h4,⟨rvL_cons (qD hd h2) h5.1,h1⟩,by simp [h6]⟩
  ·cases h
theorem lM {C:World->Prop} (h:Rl E st.bx C st.sl a) {e:Nat} (he:0 < e):∀ {parts:List (Nat × Operand)} {i:Nat} {es:List (List DV)},litL e st parts i=some es ->
  ∃ xs vs,parts=enumF i xs/\vs=xs.map a.eval/\vs.length=es.length/\(∀ v∈vs,v.cells.toList.length=e)/\RvC E.cl es.flatten (cellsL vs)/\∀ cs∈es,cs.length=e
 | [],i,es,hl=>by
  simp only [litL,oI] at hl;subst hl;exact ⟨[],[],rfl,rfl,rfl,by simp,⟨bW _,by simp [cellsL]⟩,by simp⟩
 | (j,x) :: r,i,es,hl=>by
  simp only [litL] at hl;split at hl
  ·rename_i d l hj hx hr;split at hl
   ·rename_i hlen;have hlen:d.cells.length=e:=sU hlen;have LI:j=i:=sU hj;subst LI;have hv:=(aP h hx).cells (gL hlen (by omega));obtain ⟨cs,hK,cm,gM⟩:=qE hl hv;simp only [oI] at hK;subst hK;obtain ⟨xs,vs,h1,h2,h3,h4,h5,h6⟩:=lM h he hr;refine ⟨x :: xs,a.eval x :: vs,by rw [h1];rfl,by rw [h2];rfl,by simp [h3],?_,by simpa [cellsL] using cm.append h5,?_⟩
    ·intro v NF;rcases cY NF with rfl | NF
     ·rw [hv.1.length];exact hlen
     ·exact h4 v NF
    all_goals grind
   ·cases hl
  ·cases hl
structure El (t:Option Nat) (E:En) (w:World) (E':En) (w':World):Prop where
 x:Ext E E'
 β:∃ r,E'.β=E.β ++ r
 o:∀ (i:Nat) b,E.β[i]? = some b->t≠some i->w'.heap[b]? = w.heap[b]?
def stObj (st:St):Op->Option Nat
 | .store _ x _=>
  match rv st [] x with
  | some (.loc i _)=>some i
  | some (.el i _)=>some i
  | _=>none
 | _=>none
def wq (P:Program) (o:Oper) (a:Act) (w:World) (K:Act->World->Prop):Prop:=
 match (execOp a.eval o).run P w with
 | .ok (.value v) w'=>K (a.put o.dst v) w'
 | .ok .skip w'=>K (a.put o.dst undef) w'
 | .ok (.enter f args) w'=>Calls P f args w' fun e w''=>∃ v,e = .returned v/\K (a.put o.dst v) w''
 | _=>False
theorem wZ {P:Program} {o:Oper} {a:Act} {w:World} {K:Act->World->Prop} {Q:Exit->Act->World->Prop} (h:wq P o a w K):o.wp P a w K Q:=by
 unfold wq at h;unfold Oper.wp;split at h
 ·rename_i hr;rw [hr];exact h
 ·rename_i hr;rw [hr];exact h
 ·rename_i hr;rw [hr,Oper.upon_enter];refine h.mono ?_;rintro e w' ⟨v,rfl,hk⟩;exact hk
 ·exact h.elim
theorem jD {P:Program} {o:Oper} {a:Act} {w:World} {K K':Act->World->Prop} (hk:∀ a w,K a w->K' a w) (h:wq P o a w K):wq P o a w K':=by
 unfold wq at *;split at h
 ·exact hk _ _ h
 ·exact hk _ _ h
 ·refine h.mono ?_
  grind
 ·exact h.elim
theorem dA {P:Program} {o:Oper} {K:Act->World->Prop} {v:Value} {w w':World} (h:(execOp a.eval o).run P w = .ok (.value v) w') (hK:K (a.put o.dst v) w'):wq P o a w K:=by
 unfold wq;rw [h];exact hK
theorem Bz {P:Program} {o:Oper} {K:Act->World->Prop} {w w':World} (h:(execOp a.eval o).run P w = .ok .skip w') (hK:K (a.put o.dst undef) w'):wq P o a w K:=by
 unfold wq;rw [h];exact hK
theorem El.same (E:En) (w:World) (t:Option Nat):El t E w E w:=⟨Ext.refl E,⟨[],by simp⟩,fun _ _ _ _=>rfl⟩
theorem madeCells_list (z:Array Value):∀ n:Nat,(madeCells z (n * z.size)).toList=(List.replicate n z.toList).flatten
 | 0=>by simp [madeCells]
 | n + 1=>by
  have ih:=madeCells_list z n;simp only [madeCells,Array.toList_map,Array.toList_range] at ih ⊢;rw [Nat.add_mul,Nat.one_mul,List.range_add,List.map_append,ih,List.replicate_succ',List.flatten_append];congr 1;simp only [List.map_map,List.flatten_cons,List.flatten_nil,List.append_nil];apply List.ext_getElem
  ·simp
  ·intro i h1 h2;simp only [List.length_map,List.length_range] at h1;simp only [List.getElem_map,List.getElem_range,Function.comp];rw [Nat.add_comm,Nat.add_mul_mod_self_right,Nat.mod_eq_of_lt h1,getElem!_pos z i h1];simp
theorem rvC_rep {E:En} {l:List DV} {vs:List Value} (h:RvC E l vs):∀ n:Nat,RvC E (List.replicate n l).flatten (List.replicate n vs).flatten
 | 0=>⟨bW E,by simp⟩
 | n + 1=>by
  simp only [List.replicate_succ,List.flatten_cons];exact h.append (rvC_rep h n)
theorem tw (E:En) (b o:Nat):∀ n:Nat,RvEs E 0 b o (List.replicate n [])
 | 0=>by simp [RvEs]
 | n + 1=>by
  simp only [List.replicate_succ,RvEs];exact ⟨rfl,by simp only [RvAt],tw E b (o + 0) n⟩
theorem jE {G:St->Prop} {o:Oper} {p:Prop} (hd:eK X.nt st.sl o.dst=true) (h:Rel X E st a w) (cK:effC X st o G=some p) (he:p) :
  wq X.P o a w fun a' w'=>∃ st' E',G st' /\ Rel X E' st' a' w' /\ El (stObj st o.op) E w E' w':=by
 have hT:=X.hT;have iv:=h.rl;unfold effC at cK;split at cK
 ·rename_i p' hr;simp only [oI] at cK;subst cK;obtain ⟨y,hk,v,hv,bO⟩:=jC iv hr he;rw [kQ] at hk;exact dA (bO w fun _=>rfl) ⟨_,_,hk,bl h hd y v hv,El.same _ _ _⟩
 ·rename_i Se;have hst:X.still=false:=by grind
  rw [hst] at cK;simp only at cK;clear Se;obtain ⟨dst,op,ty,pos,after,gu⟩:=o;cases op
  case box t x=>
   simp only at cK;split at cK
   ·rename_i d t' hx;split at cK
    ·cases cK
    ·rename_i c r hc;split at cK
     ·rename_i hbt;simp only [oI] at cK;subst cK;rw [Bj] at he;have hv:=aP iv hx;have hvc:=hv.cells (wR (by rw [hc];simp));rw [hc] at hvc;refine dA (v:=.pointer (some ⟨w.heap.size,0,none⟩)) (w':=w.alloc (.cells (a.eval x).cells t)) ?_ ?_
      ·simp [execOp,Instr.box,newVar,newRow]
      ·have:=Bt h hst hd hvc t hbt;simp only [Array.toArray_toList] at this;exact ⟨_,_,he,this,kS E _,⟨_,rfl⟩,fun i b hb _=>alloc_old w _ (h.env.aQ (mG hb))⟩
     ·cases cK
   ·cases cK
  case alloc t=>
   simp only at cK;split at cK
   ·rename_i n b kd z d hf;split at cK
    ·rename_i hbt;simp only [oI] at cK;subst cK;rw [Bj] at he;obtain ⟨zv,hz,EN,hz1,_⟩:=mB hT hf;refine dA (v:=.pointer (some ⟨w.heap.size,0,none⟩)) (w':=w.alloc (.cells zv.cells t)) ?_ ?_
     ·simp [execOp,Instr.alloc,newVar,newRow,nK hz]
     ·have:=Bt h hst hd (rvC_vL (E:=E) hz1) t hbt;have e1:(List.toArray z)=zv.cells:=by apply Array.ext';simpa using EN.symm
      simp only [e1] at this;exact ⟨_,_,he,this,kS E _,⟨_,rfl⟩,fun i b hb _=>alloc_old w _ (h.env.aQ (mG hb))⟩
    ·cases cK
   ·cases cK
  case store t x y=>
   simp only at cK;split at cK
   ·rename_i i off d n hx hy hn;split at cK
    ·rename_i cs cm;simp only [oI] at cK;subst cK;cases hc:(Nat.blt 0 n && Nat.beq d.cells.length n && Nat.ble (off + n) cs.length)
     ·exact (he.f hc).elim
     ·have he:=he.t hc;simp only [bA,Nat.beq_eq,Nat.ble_eq,Nat.blt_eq] at hc;rw [kQ] at he;simp only [Bl,pS] at he;have hn:=Bq hT hn;have e1:=aP iv hx;unfold Rv at e1;obtain ⟨b,hb,e1⟩:=e1;have e2:=aP iv hy;have hvc:=e2.cells (gL hc.1.2 (by omega));obtain ⟨b',zm,arr,ee,hw,hca⟩:=h.env.dn i cs cm;rw [hb] at ee;simp only [oI] at ee;subst ee;have LJ:arr.length=cs.length:=hca.1.length;have CF:(a.eval y).cells.toList.length=n:=by rw [hvc.1.length];exact hc.1.2
      have Oi:=jx (P:=X.P) (off:=off) hw hn CF (by simp;omega) (List.all_eq_true.2 hvc.2);refine Bz (w':=World.cS w b (.cells ((arr.take off ++ (a.eval y).cells.toList ++ arr.drop (off + n)).toArray) zm (0,0))) ?_ ?_
      ·simp only [execOp,e1,Instr.storeAt,Instr.sureAddr,Sem.run_bind,Sem.run_pure,Result.andThen_ok,Oi]
      ·have cG:RvC E (cs.take off ++ d.cells ++ cs.drop (off + d.cells.length)) (arr.take off ++ (a.eval y).cells.toList ++ arr.drop (off + n)):=by
        rw [hc.1.2];exact ((hca.take off).append hvc).append (hca.drop _)
       have h1:=nT (ty:=zm) h hst hb cG ⟨_,hw⟩;have h2:=bl h1 hd .ud undef (oV E);refine ⟨_,E,he,?_,Ext.refl E,⟨[],by simp⟩,fun i' b' ee bi=>?_⟩
       ·cases dst<;>simpa [St.put] using h2
       ·refine cx ?_;rintro rfl;refine bi ?_;simp only [stObj,hx];rw [(List.getElem?_inj (gS hb).1 h.env.inj).1 (hb.trans ee.symm)]
    ·cases cK
   ·rename_i i off d n hx hy hn;split at cK
    ·rename_i cs cm;simp only [oI] at cK;subst cK;cases hc:(Nat.blt 0 n && Nat.beq d.cells.length n)
     ·exact (he.f hc).elim
     ·obtain ⟨fN,he⟩:=he.t hc;simp only [bA,Nat.beq_eq,Nat.blt_eq] at hc;rw [kQ] at he;simp only [Bl] at he;rw [EI _ _ _ _ (by omega)] at he;have hn:=Bq hT hn;have e1:=aP iv hx;unfold Rv at e1;obtain ⟨b,hb,e1⟩:=e1;have e2:=aP iv hy;have hvc:=e2.cells (gL hc.2 (by omega));obtain ⟨b',zm,arr,ee,hw,hca⟩:=h.env.dn i cs cm;rw [hb] at ee;simp only [oI] at ee;subst ee;have LJ:arr.length=cs.length:=hca.1.length;have CF:(a.eval y).cells.toList.length=n:=by rw [hvc.1.length];exact hc.2
      have Oi:=jx (P:=X.P) (off:=off) hw hn CF (by simp;omega) (List.all_eq_true.2 hvc.2);refine Bz (w':=World.cS w b (.cells ((arr.take off ++ (a.eval y).cells.toList ++ arr.drop (off + n)).toArray) zm (0,0))) ?_ ?_
      ·simp only [execOp,e1,Instr.storeAt,Instr.sureAddr,Sem.run_bind,Sem.run_pure,Result.andThen_ok,Oi]
      ·have cG:RvC E (cs.take off ++ d.cells ++ cs.drop (off + d.cells.length)) (arr.take off ++ (a.eval y).cells.toList ++ arr.drop (off + n)):=by
        rw [hc.2];exact ((hca.take off).append hvc).append (hca.drop _)
       have h1:=nT (ty:=zm) h hst hb cG ⟨_,hw⟩;have h2:=bl h1 hd .ud undef (oV E);refine ⟨_,E,he,?_,Ext.refl E,⟨[],by simp⟩,fun i' b' ee bi=>?_⟩
       ·cases dst<;>simpa [St.put] using h2
       ·refine cx ?_;rintro rfl;refine bi ?_;simp only [stObj,hx];rw [(List.getElem?_inj (gS hb).1 h.env.inj).1 (hb.trans ee.symm)]
    ·cases cK
   ·cases cK
  case buildSlice t len parts=>
   simp only at cK;split at cK
   ·rename_i n b et e iQ z d hf;split at cK
    ·cases cK
    split at cK
    ·rename_i es qC;split at cK
     ·rename_i hc;simp only [bA,Nat.beq_eq,Nat.ble_eq,Nat.blt_eq] at hc;obtain ⟨hlen,⟨mH,BA⟩,hsm⟩:=hc;simp only [oI] at cK;subst cK;rw [kQ] at he;obtain ⟨hu,ii,zv,va,hz,cR,zj,EE⟩:=dV hT hf;obtain ⟨xs,vs,hp,nW,CF,gM,Oj,za⟩:=lM iv BA qC;subst cR
      have EN:len * ii.size≠0:=by
       have:=Nat.mul_pos mH BA;omega
      have kf:Instr.fill (fun i=>some (i * ii.size,ii.size)) ((Array.range (len * ii.size)).map (zv.cells[·% zv.cells.size]!)) (parts.map fun (i,x)=>(i,a.eval x)).toList=some (cellsL vs).toArray:=by
       have h0:=qu ii.size vs 0 ((Array.range (len * ii.size)).map (zv.cells[·% zv.cells.size]!)).toList gM (by simp [CF,hlen])
       have h1:(parts.map fun (i,x)=>(i,a.eval x)).toList=enumF 0 vs:=by
        rw [Array.toList_map,hp,nW,<- nO]
       rw [h1];simp only [Array.toArray_toList] at h0;rw [h0];simp [CF,hlen]
      have bO:(execOp a.eval ⟨some d,.buildSlice t len parts,ty,pos,after,gu⟩).run X.P w = .ok (.value (.slice (some ⟨w.heap.size,0,none⟩) len len)) (w.alloc (.cells (cellsL vs).toArray et)):=by
       unfold execOp;simp only [Sem.run_bind,run_buildSlice w t et len _ _ ii zv hu va hz (by omega) EN kf,Result.andThen_ok,Sem.run_pure]
      have hr:=tu (arr:=cellsL vs) h hst et
      have fN:∀ x v,E.c x=some v->fj E.c (w.alloc (.cells (cellsL vs).toArray et)) w.heap.size (cellsL vs).length x=some v:=fun x v hx=>by
       have ap:=World.block_lt_of_cell? w x (h.env.sub x v hx);unfold fj;rw [ah (by omega)];exact hx
      refine dA bO ⟨_,_,he,bl hr hd (.sl ii.size es none) (.slice (some ⟨w.heap.size,0,none⟩) len len) ?_,⟨fN,fun _ _ h=>h,fun k q h=>⟨q,h,.inl ⟨rfl,rfl⟩⟩⟩,⟨[],by simp⟩,fun i b hb _=>alloc_old w _ (h.env.aQ (mG hb))⟩;unfold Rv;refine ⟨_,_,_,rfl,⟨hlen.symm,zLeR _⟩,fun bi=>⟨rfl,?_⟩,fun k hk=>by cases hk⟩
      have hm:RvC (En.cl ⟨fj E.c (w.alloc (.cells (cellsL vs).toArray et)) w.heap.size (cellsL vs).length,E.β,E.tk,E.τ⟩) es.flatten (cellsL vs):=by
       exact Oj.mono (Ext.Ls (E:=E) fN)
      refine rvEs_flat hm za fun j u hj=>?_;show fj _ _ _ _ _=_;have gN:=(gS hj).1;simp only [ab,ao,Nat.zero_add];rw [u6 gN,bX (gK w _)];simpa using hj
     ·cases cK
    ·cases cK
   ·cases cK
  case makeSlice t l c=>
   simp only at cK;split at cK
   ·rename_i n0 b0 et e iQ z0 kl n kc m d hf hl hc;split at cK
    ·rename_i sz b1 kd z sM BA;split at cK
     ·cases cK
     ·rename_i hbt;simp only [oI] at cK;subst cK;obtain ⟨⟨rfl,h0,hb,N5⟩,hk⟩:=he;rw [Bm] at hk;obtain ⟨hu,ii,zv,hi,hz,cR,zj,EE⟩:=dV hT hf;obtain ⟨zv',S8,EN,hz1,_⟩:=mB hT sM;have w7:zv'=zv:=by grind [tf]
      subst w7;have BA:0 < e:=sU BA;have el:=bn (aP iv hl);have ec:=bn (aP iv hc);have hr:=run_make (P:=X.P) w t et ii zv' hu hi hz kl kc n n h0 (Int.le_refl _) (by rw [zj];exact hb) (by omega);refine dA (v:=.slice (some ⟨w.heap.size,0,none⟩) n.toNat n.toNat) (w':=w.alloc (.cells (madeCells zv'.cells (n.toNat * ii.size)) et)) ?_ ?_
      ·simp only [execOp,el,ec,Sem.run_bind,Sem.run_pure,Result.andThen_ok,hr]
      ·have h1:=qB h hst (rvC_rep (rvC_vL (E:=E) hz1) n.toNat) et hbt;have e1:(List.replicate n.toNat z).flatten.toArray=madeCells zv'.cells (n.toNat * ii.size):=by grind [madeCells_list]
       rw [e1] at h1;refine ⟨_,_,hk,bl h1 hd (.ms st.bx.length e 0 n.toNat n.toNat) _ ?_,kS E _,⟨_,rfl⟩,fun i b hb _=>alloc_old w _ (h.env.aQ (mG hb))⟩;unfold Rv;refine ⟨w.heap.size,_,?_,zLeR _,rfl,fun _=>rfl⟩;show (E.β ++ [w.heap.size])[st.bx.length]? = _;rw [List.getElem?_append_right (by rw [h.env.len];omega),h.env.len];simp
    ·cases cK
   ·cases cK
  case convert s t x=>
   simp only at cK;split at cK
   ·rename_i i off n cap n1 b1 et iQ z1 n2 b2 z2 dd hx NE Ta;split at cK
    ·rename_i cs n3 b3 z3 cm Ka;simp only [oI] at cK;subst cK;obtain ⟨bs,LG,hbl,hk⟩:=he;rw [kQ] at hk;obtain ⟨hu,_⟩:=dV hT NE;have e1:=aP iv hx;unfold Rv at e1;obtain ⟨b,ad,hb,NC,e1,hca⟩:=e1;obtain ⟨b',zm,arr,ee,hw,pV⟩:=h.env.dn i cs cm;rw [hb] at ee;simp only [oI] at ee;subst ee
     have bO:(execOp a.eval ⟨some dd,.convert s t x,ty,pos,after,gu⟩).run X.P w = .ok (.value (.string ⟨bs.toArray⟩)) w:=by
      simp only [execOp,e1,Sem.run_bind,Sem.run_pure,run_convert_bytes_string w s t et ad n cap hu (pT hT Ka) (kR hT Ta)]
      have nW:RvL E (u8L bs) ((arr.drop off).take n):=by
       rw [<- LG];exact ((pV.drop off).take n).1
      have Ol:=u9 nW;by_cases hn:n=0
      ·subst hn;have:bs=[]:=List.eq_nil_of_length_eq_zero hbl;subst this
       cases ad with
       | none=>simp [Conv.bytesToString,Result.andThen];rfl
       | some ad=>
        rw [run_bytesToString w ad 0 cap [] (by simpa using run_loadCells_list (P:=X.P) (w:=w) ad [] (by simp))];simp [Result.andThen];rfl
      ·have Om:=hca (by omega);subst Om
       have hl:=run_loadCells_list (P:=X.P) (w:=w) ⟨b,off,none⟩ ((arr.drop off).take n) (fun j v hj=>by
        rw [Addr.add_lit,bX hw];rw [bM] at hj;split at hj
        ·rw [List.getElem?_drop] at hj;simpa using hj
        ·cases hj)
       have hlen:((arr.drop off).take n).length=n:=by rw [Ol];simpa using hbl
       rw [hlen,Ol] at hl;rw [run_bytesToString w ⟨b,off,none⟩ n cap _ hl,foldl_push];simp only [Result.andThen];congr 2
     refine dA bO ⟨_,_,hk,bl h hd (.v _) _ (by unfold Rv;exact ⟨rfl,rfl⟩),El.same _ _ _⟩
    ·cases cK
   ·cases cK
  case call c=>
   obtain ⟨callee,args,argTypes⟩:=c;simp only at cK;split at cK
   ·split at cK
    ·rename_i s x t t' d hargs Lv;have ea:args = #[s,x]:=Array.ext' (sU hargs);have et0:argTypes = #[t,t']:=Array.ext' (sU Lv);subst ea et0;split at cK
     ·rename_i n b et e iQ z ds e' xs tk hf Tb hs hx;have Tb:t=t':=sU Tb;subst Tb;split at cK
      ·rename_i Bw;simp only [bA,Nat.beq_eq,Nat.blt_eq] at Bw;obtain ⟨rfl,BA⟩:=Bw;obtain ⟨hu,ii,zv,va,hz,cR,zj,EE⟩:=dV hT hf;have e2:=aP iv hx;unfold Rv at e2;obtain ⟨bx,nx,ER,e2,⟨rfl,hxc⟩,Tc,_⟩:=e2;split at cK
       ·unfold appMs at cK;split at cK
        case h_2=>cases cK
        rename_i n1 b1 kd1 z sM hbt;simp only [oI] at cK;subst cK;obtain ⟨⟨bi,lp,iU⟩,hk⟩:=he;obtain ⟨ef,BB⟩:=Tc bi;obtain ⟨arr,ha1,Ig,LH⟩:=BB.sI;have kT:=lL ef;have w9:0 < xs.length:=List.length_pos_iff.2 bi;obtain ⟨zv',S8,EN,hz1,_⟩:=mB hT sM;have w7:zv'=zv:=by grind [tf]
        subst w7;have ev:=bn (aP iv hs);obtain ⟨CE,hr⟩:=qq (P:=X.P) w t ty et ii zv' e iQ hu va hz cR zj EE BA ⟨ab bx,ao bx,none⟩ xs.length ER arr Ig (fun j u hj=>by rw [Addr.add_lit];exact h.env.sub _ _ (LH j u hj)) ha1.2 w9 lp iU;have hk:=hk _ CE;rw [Bm] at hk;refine dA (v:=.slice (some ⟨w.heap.size,0,none⟩) xs.length (grownCap w xs.length 0 et)) (w':=w.drew.alloc (.cells (arr.toArray ++ madeCells zv'.cells ((grownCap w xs.length 0 et - xs.length) * zv'.cells.size)) et)) ?_ ?_
        ·unfold execOp;rw [kT] at e2;simp only [resolve,invoke,builtin,Sem.run_bind,Sem.run_pure,Result.andThen_ok,List.map_toArray,List.map_cons,List.map_nil,ev,e2,hr];rfl
        ·have h1:=qB (kg h) hst ((ha1.mono (Ext.un E)).append (rvC_rep (rvC_vL (E:=E) hz1) (grownCap w xs.length 0 et - xs.length))) et (by rw [hbt];rfl);have e1:(arr ++ (List.replicate (grownCap w xs.length 0 et - xs.length) z).flatten).toArray=arr.toArray ++ madeCells zv'.cells ((grownCap w xs.length 0 et - xs.length) * zv'.cells.size):=by grind [madeCells_list]
         rw [e1] at h1;refine ⟨_,_,hk,bl h1 hd (.ms st.bx.length e 0 xs.length (grownCap w xs.length 0 et)) _ ?_,kS E _,⟨_,rfl⟩,fun i b hb _=>alloc_old w.drew _ (h.env.aQ (mG hb))⟩;unfold Rv;refine ⟨w.heap.size,_,?_,CE,rfl,fun _=>rfl⟩;show (E.β ++ [w.heap.size])[st.bx.length]? = _;rw [List.getElem?_append_right (by rw [h.env.len];omega),h.env.len];simp
       split at cK
       ·rename_i Td;clear Td;simp only [oI] at cK;subst cK;unfold appOwn at he;split at he
        case h_2=>exact he.elim
        rename_i es k;split at he
        case h_2=>exact he.elim
        rename_i n zm e' cs hq;split at he
        case h_2=>exact he.elim
        rename_i hc;simp only [bA,Nat.beq_eq] at hc;obtain ⟨rfl,rfl⟩:=hc;obtain ⟨⟨⟨hn,bi⟩,lp,iU⟩,qF⟩:=he;rw [pQ] at qF;have e1:=aP iv hs;unfold Rv at e1;obtain ⟨bs,ns,lN,e1,⟨rfl,ES⟩,Sf,ET⟩:=e1;obtain ⟨q',j3,_,On⟩:=ET k rfl;have iR:E.tk[k]? = some ⟨n,zm,e',some cs⟩:=by rw [h.tk];exact hq
        rw [iR] at j3;simp only [oI] at j3;subst j3;have hy:=On hn;rw [e1] at hy;rw [hn] at hy e1;obtain ⟨ef,BB⟩:=Tc bi;obtain ⟨arr,ha1,Ig,LH⟩:=BB.sI;have kT:=lL ef;have w9:0 < xs.length:=List.length_pos_iff.2 bi
        have nX:∃ cells,w.ownsRow 0 zm e' (.slice bs n lN) n cells/\RvC E.cl cs cells:=by
         rcases h.env.b9 k _ _ iR hy with ⟨pz,ti,ho0⟩ | ⟨g0,LK,EU,pz,hw0,⟨EV,EW⟩,CG,CH,gk,Ii⟩
         ·have cm:=ho0 cs rfl;simp only at ti;subst cm ti;exact ⟨[],⟨by simp,.inl ⟨pz,rfl⟩⟩,bW _,by simp⟩
         ·obtain ⟨h5,h6⟩:=EW cs rfl;exact ⟨_,⟨by rw [h6.1.length,h5],.inr ⟨g0,LK,EU,pz,Nat.zero_le _,hw0,CG,CH,EV,rfl⟩⟩,h6⟩
        obtain ⟨cells,eA,LL⟩:=nX;obtain ⟨g,cap,w',hr,g2,g3,g4⟩:=gn (P:=X.P) w t ty zm ii zv e' iQ hu va hz cR zj EE BA (.slice bs n lN) n cells eA ⟨ab bx,ao bx,none⟩ xs.length ER arr Ig (fun j u hj=>by rw [Addr.add_lit];exact h.env.sub _ _ (LH j u hj)) ha1.2 w9 lp iU;have hold:∀ g0,(Value.slice bs n lN).ownBlock=some g0->g0 < w.heap.size/\g0 ∉ E.β:=fun g0 CB=>fy (h.env.b9 k _ _ iR hy) CB
        have hgβ:g ∉ E.β:=by
         rcases g4 with g4 | g4
         ·exact (hold g g4).2
         ·intro hm;have:=h.env.aQ hm;omega
        have J9:zk w' E.c E.β ⟨n + xs.length,zm,e',some (cs ++ xs.flatten)⟩ (.slice (some ⟨g,0,none⟩) (n + xs.length) cap):=by
         rcases g2.2 with ⟨hv,_⟩ | ⟨g',Od,cur,hv,_,Ib,J2,hcm,cm,htake⟩
         ·cases hv
         ·injection hv with pU Cz S5
          injection pU with pU
          injection pU with pU
          subst pU S5;refine .inr ⟨g,cap,cur,rfl,Ib,⟨cm,fun cs' Bs=>?_⟩,J2,hcm,hgβ,fun x u hx zs=>?_⟩
          ·simp only [oI] at Bs;subst Bs;have hm:=LL.append ha1;simp only;refine ⟨by rw [<- hm.1.length,g2.1],?_⟩;rw [htake];exact hm
          ·exfalso;have ap:=World.block_lt_of_cell? w x (h.env.sub x u hx);rcases g4 with g4 | g4
           ·rcases h.env.b9 k _ _ iR hy with ⟨pz,_⟩ | ⟨g0,LK,EU,pz,_,_,_,_,_,Ii⟩
            ·injection pz with i1 i2 i3
             subst i1;simp [Value.ownBlock] at g4
            ·injection pz with i1 i2 i3
             subst i1;simp only [Value.ownBlock,oI] at g4;have:=Ii x u hx (zs.trans g4.symm);simp only [TkE.kn] at this;omega
           ·rw [zs] at ap;omega
        obtain ⟨bD,hext⟩:=Bv h hst (q':=⟨n + xs.length,zm,e',some (cs ++ xs.flatten)⟩) iR hy rfl rfl rfl (.inr (by simp only;omega)) J9 (by
         rcases g4 with g4 | g4
         ·exact .inl g4.symm
         ·refine .inr fun g0 CB=>?_;simp only [Value.ownBlock,oI] at CB
          omega) g3.os g3.tape g3.output g3.size g3.block
        have bO:(execOp a.eval ⟨some d,.call ⟨.builtin .append,#[s,x],#[t,t]⟩,ty,pos,after,gu⟩).run X.P w = .ok (.value (.slice (some ⟨g,0,none⟩) (n + xs.length) cap)) w':=by
         unfold execOp;rw [kT] at e2;simp only [resolve,invoke,builtin,Sem.run_bind,Sem.run_pure,Result.andThen_ok,List.map_toArray,List.map_cons,List.map_nil,e1,e2,hr]
        refine dA bO ⟨_,_,qF,bl bD hd (.sl 0 (List.replicate (n + xs.length) []) (some k)) _ ?_,hext,⟨[],by simp⟩,fun i b hb _=>?_⟩
        ·unfold Rv;refine ⟨_,_,_,rfl,⟨by simp,?_⟩,fun _=>⟨rfl,?_⟩,?_⟩
         ·rcases J9 with ⟨hv,_⟩ | ⟨_,_,_,hv,_,_,J2,_⟩
          ·cases hv
          ·injection hv with _ _ i3
           omega
         ·exact tw _ _ _ _
         ·intro k' fl;cases fl;have eo:=(gS iR).1;have Oh:=(gS hy).1;exact ⟨_,fT eo,zLeR _,fun _=>fT Oh⟩
        ·refine g3.block b (h.env.aQ (mG hb)) fun aD=>?_;exact (hold b aD.symm).2 (mG hb)
       rename_i Td;clear Td;simp only [oI] at cK;subst cK
       have core:∀ (kt n:Nat) (v:Value) (es:List (List DV)) (cells:List Value) (tk':List TkE) (τ':List Value),
         xs ≠ []->a.eval s=v->es.length=n->RvC E.cl es.flatten cells->(∀ cs∈es,cs.length=e)->w.ownsRow 0 et e v n cells ->
         ((∃ q,E.tk[kt]? = some q/\E.τ[kt]? = some v/\q.n=n/\q.ty=et/\q.e=e/\q.own=none)∨(E.tk[kt]? = none/\E.τ[kt]? = none/\v = .slice none 0 0/\n=0)) ->
         tk'[kt]? = some ⟨n + xs.length,et,e,none⟩->(∀ j,j≠kt->tk'[j]? = E.tk[j]?)->(∀ y:Value,∃ τ':List Value,τ'[kt]? = some y/\τ'.length=tk'.length/\∀ j,j≠kt->τ'[j]? = E.τ[j]?) ->
         ((es.length + xs.length<=maxLen/\(es.length + xs.length) * iQ <= 140737488355328)/\G ⟨(d,⟨[],.sl e (es ++ xs) (some kt)⟩) :: st.sl,st.bx,tk'⟩) ->
         wq X.P ⟨some d,.call ⟨.builtin .append,#[s,x],#[t,t]⟩,ty,pos,after,gu⟩ a w fun a' w'=>∃ st' E',G st' /\ Rel X E' st' a' w' /\ El (stObj st (.call ⟨.builtin .append,#[s,x],#[t,t]⟩)) E w E' w':=by
        intro kt n v es cells tk' _ Oo LM Oq Oj za eA hk h1 ht hτ ⟨⟨lp,iU⟩,qF⟩;obtain ⟨ef,BB⟩:=Tc Oo;obtain ⟨arr,ha1,Ig,LH⟩:=BB.sI;have kT:=lL ef;have w9:0 < xs.length:=List.length_pos_iff.2 Oo;obtain ⟨g,cap,w',hr,g2,g3,g4⟩:=gn (P:=X.P) w t ty et ii zv e iQ hu va hz cR zj EE BA v n cells eA ⟨ab bx,ao bx,none⟩ xs.length ER arr Ig (fun j u hj=>by rw [Addr.add_lit];exact h.env.sub _ _ (LH j u hj)) ha1.2 w9 (by omega) (by rw [<- Oq];exact iU);obtain ⟨τ',V0,Sg,HS⟩:=hτ (.slice (some ⟨g,0,none⟩) (n + xs.length) cap);obtain ⟨bD,hext,mI⟩:=EP h hst hk w9 BA h1 V0 Sg ht HS eA g2 g3 g4
        have bO:(execOp a.eval ⟨some d,.call ⟨.builtin .append,#[s,x],#[t,t]⟩,ty,pos,after,gu⟩).run X.P w = .ok (.value (.slice (some ⟨g,0,none⟩) (n + xs.length) cap)) w':=by
         unfold execOp;rw [kT] at e2;simp only [resolve,invoke,builtin,Sem.run_bind,Sem.run_pure,Result.andThen_ok,List.map_toArray,List.map_cons,List.map_nil,LM,e2,hr]
        have hgb:∀ (i:Nat) b,E.β[i]? = some b->w'.heap[b]? = w.heap[b]?:=fun i b hb=>by
         refine g3.block b (h.env.aQ (mG hb)) fun aD=>?_;rcases hk with ⟨q,hq,hy,_⟩ | ⟨_,_,rfl,_⟩
         ·exact (fy (h.env.b9 kt q v hq hy) aD.symm).2 (mG hb)
         ·simp [Value.ownBlock] at aD
        refine dA bO ⟨_,_,qF,bl bD hd (.sl e (es ++ xs) (some kt)) _ ?_,hext,⟨[],by simp⟩,fun i b hb _=>hgb i b hb⟩;unfold Rv;refine ⟨_,_,_,rfl,⟨by simp [Oq],?_⟩,fun _=>⟨rfl,?_⟩,?_⟩
        ·rcases g2.2 with ⟨hv,_⟩ | ⟨_,_,_,hv,_,_,J2,_⟩
         ·cases hv
         ·injection hv with _ _ i3
          omega
        ·have hm:=(Oj.append ha1).mono hext.cl;rw [<- List.flatten_append] at hm;refine rvEs_flat hm (fun cs hcm=>?_) fun j u hj=>?_
         ·rcases List.mem_append.1 hcm with hcm | hcm
          ·exact za cs hcm
          ·exact BB.len cs hcm
         ·simp only [ab,ao,Nat.zero_add];exact mI j u hj
        ·intro k' fl;cases fl;exact ⟨_,h1,zLeR _,fun _=>V0⟩
       unfold appTo at he;split at he
       ·rw [pP] at he;have e1:=bn (aP iv hs);by_cases EY:xs=[]
        ·subst EY;obtain ⟨_,qF⟩:=he
         have bO:(execOp a.eval ⟨some d,.call ⟨.builtin .append,#[s,x],#[t,t]⟩,ty,pos,after,gu⟩).run X.P w = .ok (.value (.slice none 0 0)) w:=by
          unfold execOp;simp only [resolve,invoke,builtin,Sem.run_bind,Sem.run_pure,Result.andThen_ok,List.map_toArray,List.map_cons,List.map_nil,e1,e2,List.length_nil,jZ w t ty et ii hu va none bx 0 0 ER (zLeR _)]
         obtain ⟨bD,hext⟩:=zn h ⟨([]:List (List DV)).length,et,e,none⟩ rfl;refine dA bO ⟨_,_,qF,bl bD hd (.sl e ([] ++ []) (some st.tk.length)) _ ?_,hext,⟨[],by simp⟩,fun i b hb _=>rfl⟩;unfold Rv;refine ⟨none,0,0,rfl,⟨rfl,zLeR _⟩,fun hn=>(hn rfl).elim,fun k' fl=>?_⟩;cases fl;refine ⟨⟨0,et,e,none⟩,?_,zLeR _,fun _=>?_⟩
         ·show (E.tk ++ _)[st.tk.length]? = _;rw [h.tk];simp
         ·show (E.τ ++ _)[st.tk.length]? = _;rw [<- h.tk,<- h.env.tl];simp
        refine core st.tk.length 0 _ [] [] _ [] EY e1 rfl ⟨bW _,by simp⟩ (by simp) ⟨by simp,.inl ⟨rfl,rfl⟩⟩ (.inr ?_) ?_ ?_ ?_ he
        ·rw [<- h.tk];exact ⟨by simp,by simp [<- h.env.tl],rfl,rfl⟩
        ·simp
        ·intro j hj;rw [h.tk];rcases Nat.lt_or_ge j st.tk.length with h1 | h1
         ·rw [dF h1]
         ·grind
        ·intro y;refine ⟨E.τ ++ [y],?_,by simp [h.env.tl,h.tk],fun j hj=>?_⟩
         ·rw [List.getElem?_append_right (by rw [h.env.tl,h.tk];omega),h.env.tl,h.tk];simp
         ·rcases Nat.lt_or_ge j E.τ.length with h1 | h1
          ·rw [dF h1]
          ·rw [List.getElem?_append_right h1,td (l:=E.τ) h1];have:=h.env.tl;rw [h.tk] at this;exact td (by simp;omega)
       ·rename_i e' es k;split at he
        ·rename_i q hq;split at he
         ·rename_i hc;simp only [bA,Nat.beq_eq] at hc;obtain ⟨⟨⟨rfl,HR⟩,EQ⟩,Ej⟩:=hc;have Ej:q.own=none:=sU Ej;obtain ⟨hn,he⟩:=he;rw [pQ] at he;have e1:=aP iv hs;unfold Rv at e1;obtain ⟨bs,ns,lN,e1,⟨rfl,ES⟩,Sf,ET⟩:=e1;obtain ⟨q',j3,_,On⟩:=ET k rfl;have iR:E.tk[k]? = some q:=by rw [h.tk];exact hq
          rw [iR] at j3;simp only [oI] at j3;subst j3;have hy:=On hn;rw [e1] at hy;have Ot:=(gS hq).1
          have Te:∀ y:Value,∃ τ':List Value,τ'[k]? = some y/\τ'.length=(st.tk.set k ⟨q.n + xs.length,et,e',none⟩).length/\∀ j,j≠k->τ'[j]? = E.τ[j]?:=by
           intro y;refine ⟨E.τ.set k y,?_,by simp [h.env.tl,h.tk],fun j hj=>List.getElem?_set_ne (Ne.symm hj)⟩;rw [fT];rw [h.env.tl,h.tk];exact Ot
          have oY:(st.tk.set k ⟨q.n + xs.length,et,e',none⟩)[k]? = some ⟨es.length + xs.length,et,e',none⟩:=by rw [fT Ot,hn]
          have py:∀ j,j≠k->(st.tk.set k ⟨q.n + xs.length,et,e',none⟩)[j]? = E.tk[j]?:=fun j hj=>by rw [List.getElem?_set_ne (Ne.symm hj),h.tk]
          by_cases EY:xs=[]
          ·subst EY;obtain ⟨_,qF⟩:=he
           have bO:(execOp a.eval ⟨some d,.call ⟨.builtin .append,#[s,x],#[t,t]⟩,ty,pos,after,gu⟩).run X.P w = .ok (.value (.slice bs es.length lN)) w:=by
            unfold execOp;simp only [resolve,invoke,builtin,Sem.run_bind,Sem.run_pure,Result.andThen_ok,List.map_toArray,List.map_cons,List.map_nil,e1,e2,List.length_nil,jZ w t ty et ii hu va bs bx es.length lN ER ES]
           have LN:st.tk.set k ⟨q.n + ([]:List (List DV)).length,et,e',none⟩=st.tk:=by
            have Tf:(⟨q.n + ([]:List (List DV)).length,et,e',none⟩:TkE)=q:=by
             obtain ⟨qn,qt,qe,qo⟩:=q;simp only at HR EQ Ej;rw [HR,EQ,Ej];all_goals rfl
            rw [Tf];apply List.ext_getElem?;intro j;by_cases hj:j=k
            ·grind
            ·rw [List.getElem?_set_ne (Ne.symm hj)]
           rw [LN] at qF;refine dA bO ⟨_,_,qF,bl h hd (.sl e' (es ++ []) (some k)) _ ?_,Ext.refl E,⟨[],by simp⟩,fun i b hb _=>rfl⟩;rw [List.append_nil];unfold Rv;exact ⟨bs,_,lN,rfl,⟨rfl,ES⟩,Sf,fun k' fl=>by cases fl;exact ⟨q,iR,by omega,fun _=>hy⟩⟩
          rcases h.env.b9 k q _ iR hy with ⟨pz,ti⟩ | ⟨g0,LK,EU,pz,hw0,EV,CG,CH,gk,Ii⟩
          ·have qC:es=[]:=List.eq_nil_of_length_eq_zero (by omega);subst qC;injection pz with i1 i2 i3
           subst i1 i3;exact core k 0 _ [] [] _ [] EY e1 rfl ⟨bW _,by simp⟩ (by simp) ⟨by simp,.inl ⟨rfl,rfl⟩⟩ (.inl ⟨q,iR,hy,by omega,HR,EQ,Ej⟩) oY py Te he
          ·injection pz with i1 i2 i3
           subst i1 i3;by_cases bi:es=[]
           ·subst bi;refine core k 0 _ [] [] _ [] EY e1 rfl ⟨bW _,by simp⟩ (by simp) ⟨by simp,.inr ⟨g0,lN,EU,rfl,Nat.zero_le _,by rw [hw0,HR],Nat.zero_le _,CH,by rw [EV.1,EQ],by simp⟩⟩ (.inl ⟨q,iR,hy,hn.symm,HR,EQ,Ej⟩) oY py Te he
           ·obtain ⟨_,Ou⟩:=Sf bi;obtain ⟨EZ,lp,iU,HT⟩:=Ou.sI;refine core k es.length _ es EZ _ [] EY e1 rfl lp Ou.len ⟨iU,.inr ⟨g0,lN,EU,rfl,Nat.zero_le _,by rw [hw0,HR],by omega,CH,by rw [EV.1,EQ],?_⟩⟩ (.inl ⟨q,iR,hy,hn.symm,HR,EQ,Ej⟩) oY py Te he;apply List.ext_getElem?;intro j;rcases Nat.lt_or_ge j EZ.length with hj | hj
            ·have h5:=h.env.sub _ _ (HT j _ (gE hj));simp only [ab,ao,Nat.zero_add] at h5;rw [bX hw0] at h5;rw [bM,zIfP (by omega),gE hj];simpa using h5
            ·grind
         ·exact he.elim
        ·exact he.elim
       ·exact he.elim
      ·cases cK
     ·cases cK
    ·cases cK
   ·cases cK
  all_goals (simp only at cK;cases cK)
theorem tz {G:List It->St->Prop} (hG:VZ X G) {o:Oper} {k:List It} (hd:eK X.nt st.sl o.dst=true) (h:Rel X E st a w) (he:eff X G o k st) :
  o.wp X.P a w (kq X k .normal) (fun _ _ _=>False):=by
 have iv:=h.rl;unfold eff at he;split at he
 ·rename_i p hp;refine wZ (jD ?_ (jE hd h hp he));rintro a' w' ⟨st',E',hg,hr,_⟩;exact hG _ _ hg _ _ _ hr
 ·rename_i Ov;clear Ov;obtain ⟨dst,op,ty,pos,after,gu⟩:=o;cases op
  case call c=>
   obtain ⟨callee,args,argTypes⟩:=c;simp only at he;split at he
   ·rename_i f;split at he
    ·rename_i g first captured l hf hl
     obtain ⟨iW,_,he⟩:=he;have e1:=aP iv hf;unfold Rv at e1;obtain ⟨l1,r1,e1,wz,hr1⟩:=e1;have hargs:=fv iv (aM _) _ _ hl;have hc:=he E a w _ h ((wz.append hargs).append hr1)
     have hr:(execOp a.eval ⟨dst,.call ⟨.value f,args,argTypes⟩,ty,pos,after,gu⟩).run X.P w = .ok (.enter g (l1 ++ args.toList.map a.eval ++ r1).toArray) w:=by
      have e3:(l1.toArray ++ args.map a.eval ++ r1.toArray)=(l1 ++ args.toList.map a.eval ++ r1).toArray:=by apply Array.ext';simp
      simp only [execOp,resolve,e1,Deferred.ofValue,Sem.run_bind,Sem.run_pure,Result.andThen_ok,invoke,e3];exact iW _ _
     unfold Oper.wp;rw [hr,Oper.upon_enter];refine hc.mono ?_
     grind
    ·exact he.elim
   ·exact he E a w h
  all_goals (simp only at he;exact he E a w h)
end
end Dv
end Go.Proofs.YtfdedoiiahbnnaaGreat
