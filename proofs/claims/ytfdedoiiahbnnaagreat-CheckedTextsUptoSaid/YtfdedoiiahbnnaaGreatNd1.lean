/- Part 1 of the proof: General laws: sizes, fields, stores into a block, append onto a row of one's own; The symbolic evaluator 'Dv', its definitions: data that stand for Go values (slices by their content), what they mean in memory, a state, and 'go', which says as a proposition what is left to be shown; What data mean: laws of the relation between data and values; the table of types; The evaluator's pure operations are sound; The evaluator 'go' is sound: how a state goes on when a temporary is written, an object is made or written, a row grows; The evaluator 'go' is sound: each operation; the end of a call. No condition. -/
import Derived.WalkKit
import Derived.Deep.QuietTactic
import Derived.Shelf.Abstract
import Derived.Laws.AppendOwn
import Derived.Still
import Derived.IntWalk
import Derived.Deep.Draws
import Derived.Great.BuildSlice
import Derived.Laws.MakeOwn
import Derived.Laws.BytesString
set_option linter.all false
namespace Go.Proofs.YtfdedoiiahbnnaaGreat
theorem gE {α : Type _} {l : List α} {i : Nat} (h : i < l.length) : l[i]? = some l[i] := List.getElem?_eq_getElem h
theorem oI {α : Type _} (a b : α) : (some a = some b) = (a = b) := Option.some.injEq a b
theorem nL {n m : Nat} (h : Nat.ble n m = true) : n <= m := Nat.le_of_ble_eq_true h
theorem mG {α : Type _} {l : List α} {i : Nat} {a : α} (h : l[i]? = some a) : a ∈ l := List.mem_of_getElem? h
theorem gS {α : Type _} {l : List α} {i : Nat} {a : α} (h : l[i]? = some a) : ∃ h : i < l.length, l[i] = a := List.getElem?_eq_some_iff.1 h
theorem rE {α:Type _} {A B:α->Prop} {s:α} (h:B s) (w:A s):∃ s,A s/\B s:=⟨s,w,h⟩
theorem gX {α:Type _} {l:List α} {i:Nat} (h:i < l.length):∃ x,l[i]? = some x:=⟨_,List.getElem?_eq_getElem h⟩
theorem sU {p q:Prop} (h:p) (e:p->q:=by intro h;simpa using h):q:=e h
theorem sV {p q r:Prop} (x:r) (h:p) (e:r->p->q:=by intro x h;simpa [x] using h):q:=e x h
theorem sW {p q r:Prop} (x:r) (h:p) (e:r->p->q:=by intro x h;simp [x] at h;omega):q:=e x h
theorem af {c:Prop} {h:Decidable c} (k:¬c) {α:Sort _} {t e:α}:(if c then t else e)=e:=if_neg k
theorem zIfP {c:Prop} {h:Decidable c} (k:c) {α:Sort _} {t e:α}:(if c then t else e)=t:=if_pos k
theorem bh (a b:Bool):((a && b)=true)=(a=true/\b=true):=Bool.and_eq_true a b
theorem eo {α:Type _} {l:List α} {i:Nat} {a:α}:l.getD i a=l[i]?.getD a:=List.getD_eq_getElem?_getD
theorem zLeR (n:Nat):n<=n:=Nat.le_refl n
theorem eT {α:Type _} {l m:List α} {i:Nat} (h:i < l.length):(l ++ m)[i]? = l[i]?:=List.getElem?_append_left h
theorem rP {m n:Nat} (h:m < n.succ):m < n∨m=n:=Nat.lt_succ_iff_lt_or_eq.1 h
theorem dV (n:Nat):((n:Int)).toNat=n:=Int.toNat_natCast n
theorem GL (n:Nat):0<=(n:Int):=Int.natCast_nonneg n
theorem iR {α:Type _} {l:List α} {i:Nat} {a:α} (h:i < l.length):(l.set i a)[i]? = some a:=List.getElem?_set_self h
theorem rr {α:Type _} {l:List α} {i:Nat} (h:l.length<=i):l[i]? = none:=List.getElem?_eq_none h
theorem cJ {α:Type _} {l:List α} {i j:Nat}:(List.take i l)[j]? = if j < i then l[j]? else none:=List.getElem?_take
theorem eU {α:Type _} {b:α} {l:List α} {a:α} (h:a ∈ b :: l):a=b∨a ∈ l:=List.mem_cons.1 h
theorem iS {α:Type _} (y:α) {a:α} {l:List α} (h:a ∈ l):a ∈ y :: l:=List.mem_cons_of_mem y h
theorem zLenT {α:Type _} {i:Nat} {l:List α}:(List.take i l).length=min i l.length:=List.length_take
end Go.Proofs.YtfdedoiiahbnnaaGreat
namespace Go.Proofs.YtfdedoiiahbnnaaGreat
namespace Dv
open Go Go.RowKit
def jF (P:Program) (t:TypeId):Option Nat:=(P.info? t).map (·.size)
def Co (P:Program) (t:TypeId):Option Value:=(P.info? t).bind (·.zero)
def aggOf (P:Program) (t:TypeId):Option Bool:=
 match P.underlying t with
 | some (.struct _)=>some true
 | some (.array _ _)=>some true
 | some _=>some false
 | none=>none
def offOf (P:Program) (s:TypeId) (f:Nat):Option (Nat × TypeId):=
 match P.underlying s with
 | some (.struct fs)=>
  match fs[f]? with
  | some x=>if jF P x.type=some 0∨jF P x.type=none then none else some (x.offset,x.type)
  | none=>none
 | _=>none
def arrOf (P:Program) (t:TypeId):Option (Nat × Nat):=
 match P.underlying t with
 | some (.array n e)=>(jF P e).map fun s=>(n,s)
 | _=>none
def bitsOf (op:BinOp) (k:IntKind) (x y:Int):Option Int:=
 let a:=BitVec.ofInt k.bits x
 let b:=BitVec.ofInt k.bits y
 match op with
 | .and=>some (k.wrap (a &&& b).toNat)
 | .or=>some (k.wrap (a ||| b).toNat)
 | .xor=>some (k.wrap (a ^^^ b).toNat)
 | .andNot=>some (k.wrap (a &&& ~~~b).toNat)
 | _=>none
def binI (op:BinOp) (k:IntKind) (a b:Int):Option Value:=
 match op with
 | .add=>some (.int k (k.wrap (a + b)))
 | .sub=>some (.int k (k.wrap (a - b)))
 | .mul=>some (.int k (k.wrap (a * b)))
 | .eql=>some (.bool (decide (a=b)))
 | .neq=>some (.bool (!decide (a=b)))
 | .lss=>some (.bool (decide (a < b)))
 | .leq=>some (.bool (decide (a<=b)))
 | .gtr=>some (.bool (decide (b < a)))
 | .geq=>some (.bool (decide (b<=a)))
 | .and=>(bitsOf .and k a b).map (.int k)
 | .or=>(bitsOf .or k a b).map (.int k)
 | .xor=>(bitsOf .xor k a b).map (.int k)
 | .andNot=>(bitsOf .andNot k a b).map (.int k)
 | _=>none
def binS (op:BinOp) (a b:ByteArray):Option Value:=
 match op with
 | .eql=>some (.bool (decide (a=b)))
 | .neq=>some (.bool (!decide (a=b)))
 | .lss=>some (.bool (Op.bytesLess a.data.toList b.data.toList))
 | .geq=>some (.bool (!Op.bytesLess a.data.toList b.data.toList))
 | _=>none
def pickB (x a b:Bool):Bool:=
 match x with
 | true=>a
 | false=>b
def aq (s:ByteArray) (k:Nat):Nat:=((s.data.toList.getD k 0)).toNat
abbrev Br (b:Bool) (A B:Prop):Prop:=@Bool.rec (fun _=>Prop) B A b
theorem Br.t {b:Bool} {A B:Prop} (h:Br b A B) (hb:b=true):A:=by subst hb;exact h
theorem Br.f {b:Bool} {A B:Prop} (h:Br b A B) (hb:b=false):B:=by subst hb;exact h
theorem s9 {π:Nat->Nat}:∀ {l:List Nat},l.Pairwise (fun a b=>π a < π b)->l.Nodup
 | [],_=>List.nodup_nil
 | x :: r,h=>by
  rw [List.pairwise_cons] at h;rw [List.nodup_cons];exact ⟨fun hm=>Nat.lt_irrefl _ (h.1 x hm),s9 h.2⟩
def gslot (all:List Oper) (j:Nat):Option Nat:=
 match all[j]? with
 | some oj=>oj.dst
 | none=>none
def okA:Option Addr->Prop
 | some a=>a.spot=none
 | none=>False
def ab:Option Addr->Nat
 | some a=>a.block
 | none=>0
def ao:Option Addr->Nat
 | some a=>a.off
 | none=>0
section
variable {P:Program}
theorem aX {t:TypeId} {n:Nat} (h:jF P t=some n) (w:World):(sizeOf t).run P w = .ok n w:=by
 unfold jF at h
 cases hi:P.info? t with
 | none=>simp [hi] at h
 | some i=>simp only [hi,Option.map_some,oI] at h;subst h;simp [sizeOf,typeInfo,hi]
theorem vg {t:TypeId} {z:Value} (h:Co P t=some z) (w:World):(zeroValue t).run P w = .ok z w:=by
 unfold Co at h
 cases hi:P.info? t with
 | none=>simp [hi] at h
 | some i=>
  simp only [hi,Option.bind_some] at h;simp [zeroValue,typeInfo,hi,h]
theorem kZ {t:TypeId} {b:Bool} (h:aggOf P t=some b) (w:World):(isAgg t).run P w = .ok b w:=by
 unfold aggOf at h
 cases hd:P.underlying t with
 | none=>simp [hd] at h
 | some d=>
  simp only [hd] at h;cases d<;>simp at h<;>subst h<;>simp [isAgg,run_underlying hd]
theorem td {s:TypeId} {f o:Nat} {ft:TypeId} (h:offOf P s f=some (o,ft)) :
  ∃ fs x n,P.underlying s=some (.struct fs)/\fs[f]? = some x/\x.offset=o/\x.type=ft/\jF P ft=some n/\n≠0:=by
 unfold offOf at h
 cases hd:P.underlying s with
 | none=>simp [hd] at h
 | some d=>
  cases d<;>simp only [hd] at h<;>try (cases h;done)
  rename_i fs
  cases hf:fs[f]? with
  | none=>simp [hf] at h
  | some x=>
   simp only [hf] at h;split at h
   ·simp at h
   ·rename_i bF;simp only [oI,Prod.mk.injEq] at h
    cases hs:jF P x.type with
    | none=>simp [hs] at bF
    | some n=>grind
theorem oa {op:BinOp} {k:IntKind} {x y n:Int} (h:bitsOf op k x y=some n) (w:World):(Op.intBits op k x y).run P w = .ok (.int k n) w:=by
 cases op<;>simp [bitsOf] at h<;>subst h<;>simp [Op.intBits]
theorem Ra {op:BinOp} {k:IntKind} {x y:Int} {v:Value} (h:binI op k x y=some v) (t:TypeId) (w:World) :
  (binOp op t (.int k x) (.int k y)).run P w = .ok v w:=by
 cases op<;>simp [binI] at h
 case and=>obtain ⟨n,hn,rfl⟩:=h;rw [binOp_and];exact oa hn w
 case or=>obtain ⟨n,hn,rfl⟩:=h;rw [binOp_or];exact oa hn w
 case xor=>obtain ⟨n,hn,rfl⟩:=h;rw [binOp_xor];exact oa hn w
 case andNot=>obtain ⟨n,hn,rfl⟩:=h;rw [binOp_andNot];exact oa hn w
 all_goals (subst h;simp [binOp,Op.intArith,Op.intCmp,bne,BEq.beq,GT.gt,GE.ge])
theorem EI {t:TypeId} (hu:P.underlying t=some .bool) (d:Nat) (x y:Bool) (w:World):(Op.equalIn (d + 1) t (.bool x) (.bool y)).run P w = .ok (x == y) w:=by
 simp [Op.equalIn,run_underlying hu]
theorem GM {t e:TypeId} (hu:P.underlying t=some (.pointer e)) (d:Nat) (x:Option Addr) (w:World):(Op.equalIn (d + 1) t (.pointer x) (.pointer none)).run P w = .ok x.isNone w:=by
 cases x<;>simp [Op.equalIn,run_underlying hu]
theorem JW {t:TypeId} (hu:P.underlying t=some .bool) (x y:Bool) (w:World):(Op.equal t (.bool x) (.bool y)).run P w = .ok (x == y) w:=EI hu 9999 x y w
theorem vi {t e:TypeId} (hu:P.underlying t=some (.pointer e)) (x:Option Addr) (w:World):(Op.equal t (.pointer x) (.pointer none)).run P w = .ok x.isNone w:=GM hu 9999 x w
theorem VN (x y:ByteArray):(x.data == y.data)=decide (x=y):=by
 rw [Bool.eq_iff_iff];cases x;cases y;simp
theorem Rb {op:BinOp} {x y:ByteArray} {v:Value} (h:binS op x y=some v) (t:TypeId) (w:World) :
  (binOp op t (.string x) (.string y)).run P w = .ok v w:=by
 cases op<;>simp [binS] at h<;>subst h<;>simp [binOp,Op.stringOp,ByteArray.toList_eq,VN]
theorem kz {s:TypeId} {f o:Nat} {ft:TypeId} (h:offOf P s f=some (o,ft)) (b p:Nat) (w:World) :
  (Instr.fieldAt s (.pointer (some ⟨b,p,none⟩)) f).run P w = .ok (.pointer (some ⟨b,p + o,none⟩)) w:=by
 obtain ⟨fs,x,n,hu,hf,ho,ht,hs,hn⟩:=td h;subst ho ht;simp [Instr.fieldAt,run_underlying hu,hf,Instr.sureAddr,fieldPlace,aX hs,hn,Addr.add_lit]
end
theorem Cp (off:Nat):∀ (l:List Value) (k:Nat) (cs:Array Value),off + k + l.length<=cs.size ->
  ((l.zipIdx k).foldl (fun cs (x:Value × Nat)=>cs.setIfInBounds (off + x.2) x.1) cs).toList=cs.toList.take (off + k) ++ l ++ cs.toList.drop (off + k + l.length)
 | [],k,cs,_=>by simp
 | c :: l,k,cs,h=>by
  have h':off + k + 1 + l.length<=cs.size:=by simp only [List.length_cons] at h;omega
  have ih:=Cp off l (k + 1) (cs.setIfInBounds (off + k) c) (by simp;omega);simp only [List.zipIdx_cons,List.foldl_cons];rw [ih];simp only [Array.toList_setIfInBounds,List.length_cons]
  have e1:(cs.toList.set (off + k) c).take (off + (k + 1))=cs.toList.take (off + k) ++ [c]:=by
   rw [show off + (k + 1)=off + k + 1 by omega,List.take_add_one];simp only [List.getElem?_set_self',Array.getElem?_toList];have:(cs[off + k]?)=some (cs[off + k]'(by omega)):=Array.getElem?_eq_getElem (by omega);simp [this,List.take_set_of_le]
  have e2:(cs.toList.set (off + k) c).drop (off + (k + 1) + l.length)=cs.toList.drop (off + k + (l.length + 1)):=by
   rw [List.drop_set_of_lt (by omega)];congr 1;omega
  rw [e1,e2];simp
theorem rQ (off:Nat) (v:Value) (cs:Array Value) (h:off + v.cells.toList.length<=cs.toList.length) :
  v.cells.zipIdx.foldl (fun cs (x:Value × Nat)=>cs.setIfInBounds (off + x.2) x.1) cs=(cs.toList.take off ++ v.cells.toList ++ cs.toList.drop (off + v.cells.toList.length)).toArray:=by
 apply Array.ext';have:=Cp off v.cells.toList 0 cs (sU h);rw [<- Array.foldl_toList];simpa using this
section
variable {P:Program} {w:World}
theorem yU:∀ (l:List Field),l.all (fun f=>(jF P f.type).isSome)=true ->
  (l.mapM fun f=>(do pure (f.offset,<- sizeOf f.type):Sem (Nat × Nat))).run P w = .ok (l.map fun f=>(f.offset,(jF P f.type).getD 0)) w
 | [],_=>rfl
 | f :: l,h=>by
  simp only [List.all_cons,bh] at h;obtain ⟨n,hn⟩:=Option.isSome_iff_exists.1 h.1;have ih:=yU l h.2;simp only [List.mapM_cons,Sem.run_bind,aX hn,Result.andThen_ok,Sem.run_pure,ih,hn,List.map_cons,Option.getD_some]
theorem vj {t ty e:TypeId} (ht:P.underlying t=some (.slice e)) (b:Option Addr) (n c:Nat):(Builtin.len_ #[t] ty #[.slice b n c]).run P w = .ok (.int .i64 n) w:=by
 simp [Builtin.len_,run_underlying ht,goInt]
theorem GN {t ty:TypeId} (ht:P.underlying t=some .string) (s:ByteArray):(Builtin.len_ #[t] ty #[.string s]).run P w = .ok (.int .i64 s.size) w:=by
 simp [Builtin.len_,run_underlying ht,goInt]
end
theorem iF (w:World) (o:Obj):(w.alloc o).heap[w.heap.size]? = some o:=by
 show (w.heap.push o)[w.heap.size]? = some o;simp
def World.dc (w:World) (b:Nat) (o:Obj):World:={ w with heap:=w.heap.setIfInBounds b o }
theorem dE {w:World} {b:Nat} {o:Obj} (h:w.heap[b]? = some o):b < w.heap.size:=(Array.getElem?_eq_some_iff.1 h).1
theorem fl {w:World} {b:Nat} {o o':Obj} (h:w.heap[b]? = some o):(World.dc w b o').heap[b]? = some o':=by grind [dE,World.dc]
theorem cV {w:World} {b k:Nat} {o:Obj} (h:k≠b):(World.dc w b o).heap[k]? = w.heap[k]?:=by grind [World.dc]
theorem gq {w:World} {b:Nat} {o:Obj}:(World.dc w b o).heap.size=w.heap.size:=by simp [World.dc]
theorem k0 {w:World} {b:Nat} {cur:Array Value} {ty:TypeId} {fz:Nat × Nat} (h:w.heap[b]? = some (.cells cur ty fz)) (o:Nat) (v:Value) :
  w.setCell ⟨b,o,none⟩ v=World.dc w b (.cells (cur.setIfInBounds o v) ty fz):=by
 have hb:=dE h;have hg:w.heap[b] = .cells cur ty fz:=by simpa [Array.getElem?_eq_getElem hb] using h
 simp only [World.setCell,World.dc];congr 1;apply Array.ext
 ·simp
 ·grind
theorem cO {w:World} {b:Nat} {cur:Array Value} {ty:TypeId} {fz:Nat × Nat} (h:w.heap[b]? = some (.cells cur ty fz)) (o:Nat):w.cell? ⟨b,o,none⟩=cur[o]?:=by
 simp [World.cell?,h]
theorem pB {P:Program} {b off:Nat} {ty:TypeId}:∀ (l:List Value) (i:Nat) (cur:Array Value) (w:World),w.heap[b]? = some (.cells cur ty (0,0))->off + i + l.length<=cur.size ->
  l.all Value.oneCell'=true ->
  (storeCells ⟨b,off,none⟩ l i).run P w = .ok () (World.dc w b (.cells (cur.toList.take (off + i) ++ l ++ cur.toList.drop (off + i + l.length)).toArray ty (0,0)))
 | [],i,cur,w,hw,_,_=>by
  simp only [storeCells,Sem.run_pure,List.append_nil,List.length_nil,Nat.add_zero,List.take_append_drop,Array.toArray_toList,Result.ok.injEq,true_and];have hb:=dE hw;have hg:w.heap[b] = .cells cur ty (0,0):=by simpa [Array.getElem?_eq_getElem hb] using hw
  simp only [World.dc];rw [<- hg];simp [Array.setIfInBounds,hb]
 | v :: l,i,cur,w,hw,hl,ho=>by
  simp only [List.length_cons] at hl;simp only [List.all_cons,bh] at ho;have hc:w.cell? ⟨b,off + i,none⟩=some (cur[off + i]'(by omega)):=by rw [cO hw];exact Array.getElem?_eq_getElem (by omega)
  have hf:w.frozen? ⟨b,off + i,none⟩=false:=by simp [World.frozen?,hw]
  have hs:=k0 hw (off + i) v;have ih:=pB (P:=P) (b:=b) (off:=off) (ty:=ty) l (i + 1) (cur.setIfInBounds (off + i) v) (w.setCell ⟨b,off + i,none⟩ v) (by rw [hs];exact fl hw) (by simp;omega) ho.2;simp only [storeCells,Sem.run_bind,Addr.add_lit];rw [run_store P w _ v .plain ho.1,hc];simp only [hf,Bool.false_eq_true,if_false,Result.andThen_ok];rw [ih,hs];congr 1;simp only [World.dc];rw [Array.setIfInBounds_setIfInBounds];congr 3;apply Array.ext';simp only [Array.toList_setIfInBounds,List.length_cons]
  have e1:(cur.toList.set (off + i) v).take (off + (i + 1))=cur.toList.take (off + i) ++ [v]:=by
   rw [show off + (i + 1)=off + i + 1 by omega,List.take_add_one];rw [iR (by simp;omega)];simp [List.take_set_of_le]
  have e2:(cur.toList.set (off + i) v).drop (off + (i + 1) + l.length)=cur.toList.drop (off + i + (l.length + 1)):=by
   rw [List.drop_set_of_lt (by omega)];congr 1;omega
  rw [e1,e2];simp
theorem iT {P:Program} {b off n:Nat} {t ty:TypeId} {cur:Array Value} {w:World} {v:Value} (hw:w.heap[b]? = some (.cells cur ty (0,0))) (hn:jF P t=some n)
  (hv:v.cells.toList.length=n) (hl:off + n<=cur.size) (ho:v.cells.toList.all Value.oneCell'=true) :
  (storeVar t ⟨b,off,none⟩ v).run P w = .ok () (World.dc w b (.cells (cur.toList.take off ++ v.cells.toList ++ cur.toList.drop (off + n)).toArray ty (0,0))):=by
 have h:=pB (P:=P) (off:=off) v.cells.toList 0 cur w hw (by omega) ho;simp only [Nat.add_zero,hv] at h;have Z8:v.cells.size=n:=sU hv;simp [storeVar,aX hn,Z8,h]
theorem mS {w w':World} {x:Addr} (h:w'.heap[x.block]? = w.heap[x.block]?):w'.cell? x=w.cell? x:=by simp [World.cell?,h]
section
variable {P:Program} (w:World)
theorem kh (t ty e:TypeId) (i:TypeInfo) (z:Value) (size bytes:Nat) (ht:P.underlying t=some (.slice e)) (hi:P.info? e=some i) (hz:i.zero=some z)
  (mT:i.size=size) (BL:i.bytes=bytes) (OC:z.cells.size=size) (cK:0 < size)
  (v:Value) (n:Nat) (xs:List Value) (dW:w.ownsRow 0 e size v n xs)
  (a:Addr) (m c:Nat) (news:List Value) (hl:news.length=m * size) (yV:∀ j u,news[j]? = some u->w.cell? (a.add j)=some u) (h1:∀ u∈news,u.oneCell'=true) (hm:0 < m)
  (Vt:n + m<=maxLen) (ob:(n + m) * bytes<=140737488355328) :
  ∃ g cap w',(Builtin.append_ #[t,t] ty #[v,.slice (some a) m c]).run P w = .ok (.slice (some ⟨g,0,none⟩) (n + m) cap) w' /\ w'.ownsRow 0 e size (.slice (some ⟨g,0,none⟩) (n + m) cap) (n + m) (xs ++ news)/\w.grownBy w' v.ownBlock /\
   ((v.ownBlock=some g)∨(w.heap.size<=g/\∀ k,k < w.heap.size->w'.heap[k]? = w.heap[k]?)):=by
 obtain ⟨v',w',hr,h2,h3,h4⟩:=run_append_own (P:=P) w 0 t ty e i z size bytes ht hi hz mT BL OC cK v n xs dW a m c news hl yV h1 Vt ob (Nat.zero_le _);have Rc:n + m<=9223372036854775807:=by simp only [maxLen] at Vt;omega
 subst mT;rcases dW.2 with ⟨rfl,rfl⟩ | ⟨g,cap,cur,rfl,hbg,hg,Cq,hcm,cx,htake⟩
 ·have ki:=run_append_nil (P:=P) w t ty e i z ht hi hz a m c news hl yV hm (by omega) (by have hb:=ob;simp only [Nat.zero_add] at hb;rw [BL];omega);rw [ki] at hr;injection hr with e1 e2
  subst e1;simp only [Nat.zero_add] at *;exact ⟨_,_,w',by rw [ki,e2],h2,h3,.inr ⟨zLeR _,fun k hk=>by rw [<- e2];exact Below.heap_alloc w.drew _ k hk⟩⟩
 ·by_cases Mr:n + m<=cap
  ·have adw:n * i.size + news.length<=cur.size:=by rw [hl,cx,<- Nat.add_mul];exact Nat.mul_le_mul_right _ Mr
   have ki:=run_append_room (P:=P) w t ty e i ht hi g n cap cur hg a m c news hl yV h1 Mr adw;rw [ki] at hr;injection hr with e1 e2
   subst e1;exact ⟨_,_,w',by rw [ki,e2],h2,h3,.inl rfl⟩
  ·have holds:∀ j u,xs[j]? = some u->w.cell? ((⟨g,0,none⟩:Addr).add j)=some u:=dW.cells (g:=g) rfl;have ki:=run_append_grow (P:=P) w t ty e i z ht hi hz ⟨g,0,none⟩ n cap xs dW.1 holds a m c news hl yV (by omega) (by omega) (growslice_fits (by omega) (by rw [BL];exact ob));rw [ki] at hr;injection hr with e1 e2
   subst e1;exact ⟨_,_,w',by rw [ki,e2],h2,h3,.inr ⟨zLeR _,fun k hk=>by rw [<- e2];exact Below.heap_alloc w.drew _ k hk⟩⟩
theorem yW (t ty e:TypeId) (i:TypeInfo) (z:Value) (size bytes:Nat) (ht:P.underlying t=some (.slice e)) (hi:P.info? e=some i) (hz:i.zero=some z)
  (mT:i.size=size) (BL:i.bytes=bytes) (OC:z.cells.size=size) (cK:0 < size)
  (a:Addr) (m c:Nat) (news:List Value) (hl:news.length=m * size) (yV:∀ j u,news[j]? = some u->w.cell? (a.add j)=some u) (h1:∀ u∈news,u.oneCell'=true) (hm:0 < m)
  (Vt:m<=maxLen) (ob:m * bytes<=140737488355328) :
  m<=grownCap w m 0 e/\(Builtin.append_ #[t,t] ty #[.slice none 0 0,.slice (some a) m c]).run P w = .ok (.slice (some ⟨w.heap.size,0,none⟩) m (grownCap w m 0 e)) (w.drew.alloc (.cells (news.toArray ++ Builtin.zeroCells z.cells (grownCap w m 0 e - m)) e)):=by
 have Rc:m<=9223372036854775807:=by simp only [maxLen] at Vt;omega
 have ki:=run_append_nil (P:=P) w t ty e i z ht hi hz a m c news (by rw [mT];exact hl) yV hm (by omega) (by rw [BL];omega);refine ⟨?_,ki⟩;obtain ⟨g,cap,w',hr,h2,_⟩:=kh (P:=P) w t ty e i z size bytes ht hi hz mT BL OC cK (.slice none 0 0) 0 [] ⟨by simp,.inl ⟨rfl,rfl⟩⟩ a m c news hl yV h1 hm (by omega) (by rw [Nat.zero_add];exact ob);rw [ki] at hr;injection hr with e1 e2
 rcases h2.2 with ⟨hv,_⟩ | ⟨_,_,_,hv,_,_,Cq,_⟩
 ·cases hv
 ·grind
end
theorem oY {P:Program} (w:World) (t ty e:TypeId) (i:TypeInfo) (ht:P.underlying t=some (.slice e)) (hi:P.info? e=some i) (b b':Option Addr) (n cap c:Nat) (hn:n<=cap) :
  (Builtin.append_ #[t,t] ty #[.slice b n cap,.slice b' 0 c]).run P w = .ok (.slice b n cap) w:=by
 have hl:∀ a:Addr,(loadCells a 0).run P w = .ok #[] w:=fun a=>by
  have:=run_loadCells_list (P:=P) w a [] (fun j v hj=>by simp at hj);simpa using this
 cases b'<;>cases b<;>simp [Builtin.append_,run_underlying ht,sizeOf,typeInfo,hi,Builtin.lenOf,Builtin.firstCells,hn,storeCells,hl]
def enumF {α:Type _}:Nat->List α->List (Nat × α)
 | _,[]=>[]
 | i,x :: r=>(i,x) :: enumF (i + 1) r
theorem vk {α γ:Type _} (f:α->γ):∀ (l:List α) (i:Nat),(enumF i l).map (fun p=>(p.1,f p.2))=enumF i (l.map f)
 | [],_=>rfl
 | x :: r,i=>by simp only [enumF,List.map_cons,vk f r]
def cellsL:List Value->List Value
 | []=>[]
 | v :: r=>v.cells.toList ++ cellsL r
theorem tf (size:Nat):∀ (vs:List Value) (i:Nat) (cs:List Value),(∀ v∈vs,v.cells.toList.length=size)->(i + vs.length) * size<=cs.length ->
  Instr.fill (fun i=>some (i * size,size)) cs.toArray (enumF i vs)=some (cs.take (i * size) ++ cellsL vs ++ cs.drop ((i + vs.length) * size)).toArray
 | [],i,cs,_,_=>by simp [enumF,Instr.fill,cellsL]
 | v :: r,i,cs,hv,hl=>by
  have h1:=hv v (by simp);have h2:v.cells.size=size:=sU h1;have fO:(i + 1) * size<=(i + (v :: r).length) * size:=Nat.mul_le_mul_right _ (by simp only [List.length_cons];omega);have hm:(i + 1) * size=i * size + size:=by rw [Nat.add_mul,Nat.one_mul]
  have hi:i * size + size<=cs.length:=by rw [<- hm];exact Nat.le_trans fO hl
  simp only [enumF,Instr.fill];rw [af (by simp [h2,hi])];have:=rQ (i * size) v cs.toArray (by simp only [h1];exact hi);rw [h1] at this;rw [this]
  have ih:=tf size r (i + 1) (cs.take (i * size) ++ v.cells.toList ++ cs.drop (i * size + size)) (fun u hu=>hv u (iS _ hu)) (by
   simp only [List.length_append,zLenT,List.length_drop,h1];have:(i + 1 + r.length) * size=(i + (v :: r).length) * size:=by congr 1;simp only [List.length_cons];omega
   omega)
  rw [ih];congr 2;have az:(cs.take (i * size)).length=i * size:=by simp;omega
  have e1:(cs.take (i * size) ++ v.cells.toList ++ cs.drop (i * size + size)).take ((i + 1) * size)=cs.take (i * size) ++ v.cells.toList:=by grind
  have e2:(cs.take (i * size) ++ v.cells.toList ++ cs.drop (i * size + size)).drop ((i + 1 + r.length) * size)=cs.drop ((i + (v :: r).length) * size):=by
   have e3:(i + (v :: r).length) * size=(i + 1 + r.length) * size:=by congr 1;simp only [List.length_cons];omega
   have e4:(i + 1) * size<=(i + 1 + r.length) * size:=Nat.mul_le_mul_right _ (by omega);rw [e3,List.drop_append,List.drop_eq_nil_of_le (by simp only [List.length_append,az,h1];omega)]
   simp_all
  grind [cellsL]
end Dv
end Go.Proofs.YtfdedoiiahbnnaaGreat
namespace Go.Proofs.YtfdedoiiahbnnaaGreat
namespace Dv
open Go Go.RowKit
inductive DV where
 | v (x:Value)
 | ud
 | agg (l:List DV)
 | bo (l:List DV)
 | sl (e:Nat) (es:List (List DV)) (tk:Option Nat)
 | pt (cs:List DV) (off:Nat)
 | loc (i off:Nat)
 | el (i off:Nat)
 | ms (i e off len cap:Nat)
 | fn (f:Nat) (first captured:List DV)
 | rR (t:TypeId) (x:DV)
structure TkE where
 n:Nat
 ty:TypeId
 e:Nat
 own:Option (List DV)
def TkE.kn (q:TkE):Nat:=match q.own with
 | none=>q.n * q.e
 | some _=>0
def TkE.new (q:TkE):Bool:=Nat.beq q.n 0 && match q.own with
 | none=>true
 | some []=>true
 | _=>false
theorem TkE.Re {q:TkE} (h:q.new=true):q.n=0:=by simp_all [TkE.new]
theorem TkE.Yk {q:TkE} (h:q.new=true):∀ cs,q.own=some cs->cs=[]:=by grind [TkE.new]
structure En where
 c:Addr->Option Value
 β:List Nat
 tk:List TkE
 τ:List Value
def En.cl (E:En):En:=⟨E.c,[],[],[]⟩
def VO (E:En) (tk:Option Nat) (n:Nat) (y:Value):Prop:=
 ∀ k,tk=some k->∃ q,E.tk[k]? = some q/\n<=q.n/\(n=q.n->E.τ[k]? = some y)
mutual
def Rv:En->DV->Value->Prop
 | _,.v x,y=>y=x/\x.oneCell'=true
 | _,.ud,y=>y=undef
 | E,.agg l,y=>∃ vs:List Value,y = .agg vs.toArray/\RvL E l vs/\(∀ v∈vs,v.oneCell'=true)
 | E,.bo l,y=>∃ vs:List Value,y = .tuple vs.toArray/\RvL E l vs
 | E,.sl e es tk,y=>∃ b n cap,y = .slice b n cap/\(n=es.length/\n<=cap)/\(es ≠ []->okA b/\RvEs E.cl e (ab b) (ao b) es)/\VO E tk n y
 | E,.pt cs off,y=>∃ b p,y = .pointer (some ⟨b,p + off,none⟩)/\RvAt E.cl b p cs
 | E,.loc i off,y=>∃ b,E.β[i]? = some b/\y = .pointer (some ⟨b,off,none⟩)
 | E,.el i off,y=>∃ b,E.β[i]? = some b/\y = .pointer (some ⟨b,off,none⟩)
 | E,.ms i _ off len cap,y=>∃ b a,E.β[i]? = some b/\len<=cap/\y = .slice a len cap/\(cap≠0->a=some ⟨b,off,none⟩)
 | E,.fn f first captured,y=>∃ l r:List Value,y = .func (.func f) l.toArray r.toArray/\RvL E first l/\RvL E captured r
 | E,.rR t x,y=>∃ z,y = .iface t z/\Rv E x z
def RvL:En->List DV->List Value->Prop
 | _,[],l=>l=[]
 | E,d :: r,l=>∃ v s,l=v :: s/\Rv E d v/\RvL E r s
def RvAt:En->Nat->Nat->List DV->Prop
 | _,_,_,[]=>True
 | E,b,p,d :: r=>(∃ v,E.c ⟨b,p,none⟩=some v/\v.oneCell'=true/\Rv E d v)/\RvAt E b (p + 1) r
def RvEs:En->Nat->Nat->Nat->List (List DV)->Prop
 | _,_,_,_,[]=>True
 | E,e,b,o,cs :: r=>cs.length=e/\RvAt E b o cs/\RvEs E e b (o + e) r
end
def RvC (E:En) (l:List DV) (vs:List Value):Prop:=RvL E l vs/\∀ v∈vs,v.oneCell'=true
def DV.cells:DV->List DV
 | .agg l=>l
 | .ud=>[]
 | .bo _=>[]
 | d=>[d]
structure Sl where
 gs:List (Nat × Bool)
 s:DV
structure St where
 sl:List (Nat × Sl)
 bx:List (List DV)
 tk:List TkE
def get:List (Nat × Sl)->Nat->Option Sl
 | [],_=>none
 | (k,x) :: r,i=>
  match Nat.beq k i with
  | true=>some x
  | false=>get r i
def Holds (tmps:Array Value) (gs:List (Nat × Bool)):Prop:=∀ p∈gs,tmps[p.1]? = some (.bool p.2)
def St.put (st:St) (dst:Option Nat) (x:Sl):St:=
 match dst with
 | some d=>⟨(d,x) :: st.sl,st.bx,st.tk⟩
 | none=>st
def putK (st:St) (dst:Option Nat) (x:Sl) (K:St->Prop):Prop:=
 match dst with
 | some d=>
  match st with
  | ⟨sl,bx,tk⟩=>K ⟨(d,x) :: sl,bx,tk⟩
 | none=>K st
theorem qE (st:St) (dst:Option Nat) (x:Sl) (K:St->Prop):putK st dst x K=K (st.put dst x):=by
 cases dst<;>rfl
def appF {α γ:Type _} (c:α):List α->(Nat->List α->γ)->γ
 | [],K=>K 0 [c]
 | b :: r,K=>appF c r (fun n r'=>K (n + 1) (b :: r'))
theorem yt {α γ:Type _} (c:α):∀ (l:List α) (K:Nat->List α->γ),appF c l K=K l.length (l ++ [c])
 | [],K=>rfl
 | b :: r,K=>by simp only [appF];rw [yt c r];all_goals rfl
def setF {α γ:Type _} (c:α):List α->Nat->(List α->γ)->γ
 | [],_,K=>K []
 | _ :: r,0,K=>K (c :: r)
 | b :: r,i + 1,K=>setF c r i (fun r'=>K (b :: r'))
theorem yu {α γ:Type _} (c:α):∀ (l:List α) (i:Nat) (K:List α->γ),setF c l i K=K (l.set i c)
 | [],_,K=>rfl
 | _ :: r,0,K=>rfl
 | b :: r,i + 1,K=>by simp only [setF];rw [yu c r i];all_goals rfl
def VP (st:St) (d:Nat) (cs:List DV) (K:St->Prop):Prop:=
 match st with
 | ⟨sl,bx,tk⟩=>appF cs bx (fun n Ym=>K ⟨(d,⟨[],.loc n 0⟩) :: sl,Ym,tk⟩)
theorem Ms (st:St) (d:Nat) (cs:List DV) (K:St->Prop):VP st d cs K=K ⟨(d,⟨[],.loc st.bx.length 0⟩) :: st.sl,st.bx ++ [cs],st.tk⟩:=by
 simp only [VP,yt]
def VQ (st:St) (i:Nat) (cs:List DV) (K:St->Prop):Prop:=
 match st with
 | ⟨sl,bx,tk⟩=>setF cs bx i (fun Ym=>K ⟨sl,Ym,tk⟩)
theorem Mt (st:St) (i:Nat) (cs:List DV) (K:St->Prop):VQ st i cs K=K ⟨st.sl,st.bx.set i cs,st.tk⟩:=by
 simp only [VQ,yu]
structure tg (S:Nat->Prop) (w w':World):Prop where
 os:w'.os=w.os
 tape:w'.tape=w.tape
 output:w'.output=w.output
 size:w.heap.size<=w'.heap.size
 block:∀ k,k < w.heap.size->¬ S k->w'.heap[k]? = w.heap[k]?
inductive TK where
 | st (GO:List (Nat × Nat))
 | sl (et e bytes:Nat)
 | ar (n e:Nat)
 | int (k:IntKind)
 | bool
 | str
 | ptr (et:Nat)
 | fn
 | rR
 | ot
structure TE where
 size:Nat
 agg:Bool
 kd:TK
 z:List Value
inductive TT where
 | nil
 | aj (k:Nat) (e:TE) (l r:TT)
def TT.find:TT->Nat->Option TE
 | .nil,_=>none
 | .aj k e l r,t=>
  match Nat.beq t k with
  | true=>some e
  | false=>
   match Nat.blt t k with
   | true=>l.find t
   | false=>r.find t
def okOffs (P:Program) (t:TypeId):Nat->List (Nat × Nat)->Bool
 | _,[]=>true
 | i,p :: r=>decide (offOf P t i=some p) && okOffs P t (i + 1) r
def veq:Value->Value->Bool
 | .bool a,.bool b=>a == b
 | .int k a,.int k' b=>decide (k=k') && decide (a=b)
 | .string a,.string b=>decide (a.size=0) && decide (b.size=0)
 | .pointer none,.pointer none=>true
 | .slice none 0 0,.slice none 0 0=>true
 | .map none,.map none=>true
 | .nilFunc,.nilFunc=>true
 | .nilIface,.nilIface=>true
 | _,_=>false
def veqL:List Value->List Value->Bool
 | [],[]=>true
 | a :: r,b :: s=>veq a b && veqL r s
 | _,_=>false
def slOf (P:Program) (t:TypeId):Option (Nat × Nat × Nat):=
 match P.underlying t with
 | some (.slice e)=>
  match P.info? e with
  | some i=>
   match i.zero with
   | some z=>if z.cells.size=i.size then some (e,i.size,i.bytes) else none
   | none=>none
  | none=>none
 | _=>none
def zok (P:Program) (t:TypeId) (agg:Bool) (z:List Value):Bool:=
 match Co P t with
 | some (.agg cs)=>agg && veqL cs.toList z
 | some v=>!agg && veqL [v] z
 | none=>false
def TE.ok (P:Program) (t:TypeId) (e:TE):Bool:=
 decide (jF P t=some e.size) && decide (aggOf P t=some e.agg) && zok P t e.agg e.z &&
 match e.kd with
 | .st GO=>(match P.underlying t with
  | some (.struct fs)=>fs.all (fun f=>(jF P f.type).isSome)
  | _=>false) && okOffs P t 0 GO
 | .sl et s kL=>decide (slOf P t=some (et,s,kL))
 | .ar n s=>decide (arrOf P t=some (n,s))
 | .int k=>match P.underlying t with
  | some (.int k')=>decide (k'=k)
  | _=>false
 | .bool=>match P.underlying t with
  | some .bool=>true
  | _=>false
 | .str=>match P.underlying t with
  | some .string=>true
  | _=>false
 | .ptr et=>match P.underlying t with
  | some (.pointer et')=>decide (et'=et)
  | _=>false
 | .rR=>true
 | .fn=>true
 | .ot=>true
def TT.ok (P:Program):TT->Bool
 | .nil=>true
 | .aj k e l r=>e.ok P k && l.ok P && r.ok P
def TT.off (T:TT) (s f:Nat):Option (Nat × Nat):=
 match T.find s with
 | some ⟨_,_,.st GO,_⟩=>GO[f]?
 | _=>none
def TT.sz (T:TT) (t:Nat):Option Nat:=
 match T.find t with
 | some ⟨n,_,_,_⟩=>some n
 | none=>none
def takeF {α γ:Type _}:Nat->List α->(List α->Option γ)->Option γ
 | 0,_,K=>K []
 | _ + 1,[],_=>none
 | n + 1,x :: r,K=>takeF n r (fun l=>K (x :: l))
theorem yX {α γ:Type _}:∀ (n:Nat) (l:List α) (K:List α->Option γ),takeF n l K=if (l.take n).length=n then K (l.take n) else none
 | 0,l,K=>by simp [takeF]
 | n + 1,[],K=>by simp [takeF]
 | n + 1,x :: r,K=>by simp only [takeF,yX n r,List.take_succ_cons,List.length_cons,Nat.add_right_cancel_iff]
def overF {α γ:Type _}:List α->List α->(List α->γ)->γ
 | [],cs,K=>K cs
 | v :: r,_ :: cs,K=>overF r cs (fun l=>K (v :: l))
 | v :: r,[],K=>K (v :: r)
def splF {α γ:Type _}:List α->Nat->List α->(List α->γ)->γ
 | cs,0,vs,K=>overF vs cs K
 | [],_ + 1,vs,K=>K vs
 | c :: r,o + 1,vs,K=>splF r o vs (fun l=>K (c :: l))
theorem GP {α γ:Type _}:∀ (vs cs:List α) (K:List α->γ),overF vs cs K=K (vs ++ cs.drop vs.length)
 | [],cs,K=>by simp [overF]
 | v :: r,c :: cs,K=>by simp only [overF,GP r cs,List.length_cons,List.drop_succ_cons,List.cons_append]
 | v :: r,[],K=>by simp [overF]
theorem yv {α γ:Type _}:∀ (cs:List α) (o:Nat) (vs:List α) (K:List α->γ),splF cs o vs K=K (cs.take o ++ vs ++ cs.drop (o + vs.length))
 | cs,0,vs,K=>by cases cs<;>simp [splF,GP]
 | [],o + 1,vs,K=>by simp [splF]
 | c :: r,o + 1,vs,K=>by
  simp only [splF,yv r o vs,List.take_succ_cons,List.cons_append]
  grind
def cellsT (T:TT) (t:TypeId) (cs:List DV) (off:Nat):Option DV:=
 match T.find t with
 | some ⟨n,true,_,_⟩=>takeF n (cs.drop off) (fun l=>some (.agg l))
 | some ⟨_,false,_,_⟩=>cs[off]?
 | none=>none
def subG:List (Nat × Bool)->List (Nat × Bool)->Bool
 | [],_=>true
 | p :: r,G=>G.contains p && subG r G
def rv (st:St) (G:List (Nat × Bool)):Operand->Option DV
 | .tmp t=>
  match get st.sl t with
  | some ⟨gs,s⟩=>
   match subG gs G with
   | true=>some s
   | false=>none
  | none=>none
 | .const v=>
  match v.oneCell' with
  | true=>some (.v v)
  | false=>none
 | .global g=>some (.v (.pointer (some ⟨g,0,none⟩)))
 | .func f=>some (.fn f [] [])
def pickD (x:Bool):DV->DV->DV
 | .v (.bool a),.v (.bool b)=>.v (.bool (pickB x a b))
 | a,b=>
  match x with
  | true=>a
  | false=>b
def OD:Option Value->Option DV
 | some v=>some (.v v)
 | none=>none
def binD (T:TT) (op:BinOp) (t:TypeId):DV->DV->Option DV
 | .v (.int k a),.v (.int k' b)=>if k=k' then OD (binI op k a b) else none
 | .v (.string a),.v (.string b)=>OD (binS op a b)
 | .v (.bool a),.v (.bool b)=>
  match T.find t with
  | some ⟨_,_,.bool,_⟩=>
   match op with
   | .eql=>some (.v (.bool (a == b)))
   | .neq=>some (.v (.bool (!(a == b))))
   | _=>none
  | _=>none
 | .v (.pointer a),.v (.pointer none)=>
  match T.find t with
  | some ⟨_,_,.ptr _,_⟩=>
   match op with
   | .eql=>some (.v (.bool a.isNone))
   | .neq=>some (.v (.bool (!a.isNone)))
   | _=>none
  | _=>none
 | .pt _ _,.v (.pointer none)=>
  match T.find t with
  | some ⟨_,_,.ptr _,_⟩=>
   match op with
   | .eql=>some (.v (.bool false))
   | .neq=>some (.v (.bool true))
   | _=>none
  | _=>none
 | .loc _ _,.v (.pointer none)=>
  match T.find t with
  | some ⟨_,_,.ptr _,_⟩=>
   match op with
   | .eql=>some (.v (.bool false))
   | .neq=>some (.v (.bool true))
   | _=>none
  | _=>none
 | _,_=>none
def fillT (T:TT) (t:TypeId) (st:St) (G:List (Nat × Bool)) (cs:List DV):List (Nat × Operand)->Option DV
 | []=>some (.agg cs)
 | (f,x) :: r=>
  match T.off t f,rv st G x with
  | some (off,ft),some d=>
   match T.sz ft with
   | some n=>
    match Nat.beq d.cells.length n && Nat.ble (off + n) cs.length with
    | true=>splF cs off d.cells (fun cs'=>fillT T t st G cs' r)
    | false=>none
   | none=>none
  | _,_=>none
def argsV (st:St) (G:List (Nat × Bool)):List Operand->Option (List DV)
 | []=>some []
 | x :: r=>
  match rv st G x,argsV st G r with
  | some d,some l=>some (d :: l)
  | _,_=>none
def vL:List Value->List DV
 | []=>[]
 | v :: r=>.v v :: vL r
def fillAr (e:Nat) (st:St) (G:List (Nat × Bool)) (cs:List DV):List (Nat × Operand)->Option DV
 | []=>some (.agg cs)
 | (f,x) :: r=>
  match rv st G x with
  | some d=>
   match Nat.blt 0 e && Nat.beq d.cells.length e && Nat.ble (f * e + e) cs.length with
   | true=>splF cs (f * e) d.cells (fun cs'=>fillAr e st G cs' r)
   | false=>none
  | none=>none
def pureT (P:Program) (T:TT) (st:St) (G:List (Nat × Bool)):Op->Option DV
 | .move x=>rv st G x
 | .assign x=>rv st G x
 | .pick c a b=>
  match c with
  | .tmp d=>
   match rv st G c,rv st ((d,true) :: G) a,rv st ((d,false) :: G) b with
   | some (.v (.bool x)),some da,some db=>some (pickD x da db)
   | _,_,_=>none
  | _=>none
 | .binOp op t x y _=>
  match rv st G x,rv st G y with
  | some a,some b=>binD T op t a b
  | _,_=>none
 | .unOp op _ x=>
  match rv st G x with
  | some (.v (.bool b))=>
   match op with
   | .not=>some (.v (.bool (!b)))
   | _=>none
  | some (.v (.int k n))=>
   match op with
   | .neg=>some (.v (.int k (k.wrap (0 - n))))
   | _=>none
  | _=>none
 | .fieldAddr s x f=>
  match T.off s f,rv st G x with
  | some (o,_),some (.loc i off)=>some (.loc i (off + o))
  | some (o,_),some (.pt cs off)=>some (.pt cs (off + o))
  | some (o,_),some (.el i off)=>some (.el i (off + o))
  | _,_=>none
 | .load t x=>
  match rv st G x with
  | some (.loc i off)=>
   match st.bx[i]? with
   | some cs=>cellsT T t cs off
   | none=>none
  | some (.pt cs off)=>cellsT T t cs off
  | _=>none
 | .extract x i=>
  match rv st G x with
  | some (.bo vs)=>vs[i]?
  | _=>none
 | .field t x f=>
  match T.off t f,rv st G x with
  | some (off,ft),some (.agg cs)=>cellsT T ft cs off
  | _,_=>none
 | .build t parts=>
  match T.find t with
  | some ⟨_,_,.st _,z⟩=>fillT T t st G (vL z) parts.toList
  | some ⟨_,_,.ar _ e,z⟩=>fillAr e st G (vL z) parts.toList
  | _=>none
 | .makeFunc fn first captured=>
  match fn with
  | .func f=>
   match argsV st G first.toList,argsV st G captured.toList with
   | some l,some r=>some (.fn f l r)
   | _,_=>none
  | _=>none
 | .makeInterface t x=>
  match rv st G x,T.find t with
  | some d,some ⟨_,_,kd,_⟩=>
   match kd with
   | .rR=>none
   | .ot=>none
   | .fn=>none
   | _=>some (.rR t d)
  | _,_=>none
 | .nilCheck x=>
  match rv st G x with
  | some (.loc i off)=>some (.loc i off)
  | some (.el i off)=>some (.el i off)
  | some (.pt cs off)=>some (.pt cs off)
  | some (.v (.pointer (some a)))=>some (.v (.pointer (some a)))
  | some (.fn f first captured)=>some (.fn f first captured)
  | _=>none
 | .convert s d x=>
  match rv st G x,T.find s,T.find d with
  | some (.v (.int _ n)),some _,some ⟨_,_,.int k,_⟩=>some (.v (.int k (k.wrap n)))
  | _,_,_=>none
 | .call c=>
  match c.callee with
  | .builtin .len=>
   match c.args.toList,c.argTypes.toList with
   | [x],[t]=>
    match rv st G x,T.find t with
    | some (.sl _ es _),some ⟨_,_,.sl _ _ _,_⟩=>some (.v (.int .i64 es.length))
    | some (.ms _ _ _ n _),some ⟨_,_,.sl _ _ _,_⟩=>some (.v (.int .i64 n))
    | some (.v (.slice _ n _)),some ⟨_,_,.sl _ _ _,_⟩=>some (.v (.int .i64 n))
    | some (.v (.string s)),some ⟨_,_,.str,_⟩=>some (.v (.int .i64 s.size))
    | _,_=>none
   | _,_=>none
  | .builtin .max=>
   match c.args.toList with
   | [x,y]=>
    match rv st G x,rv st G y with
    | some (.v (.int k a)),some (.v (.int _ b))=>some (.v (.int k (max a b)))
    | _,_=>none
   | _=>none
  | .builtin .min=>
   match c.args.toList with
   | [x,y]=>
    match rv st G x,rv st G y with
    | some (.v (.int k a)),some (.v (.int _ b))=>some (.v (.int k (min a b)))
    | _,_=>none
   | _=>none
  | _=>none
 | _=>none
def CcMs (bx:List (List DV)) (N e:Nat) (es:List (List DV)) (d:DV):Prop:=
 ∃ i off c cs,d = .ms i e off es.length c/\N<=i/\bx[i]? = some cs/\es.flatten=(cs.drop off).take (es.length * e)/\(∀ x∈es,x.length=e)/\∀ x∈es.flatten,(∃ y,x = .v y)∨∃ e' Gv,x = .sl e' Gv none
mutual
def Cc (bx:List (List DV)) (N:Nat):Nat->Nat->DV->DV->Prop
 | _,_,.v y,d=>d = .v y
 | _,_,.ud,d=>d = .ud
 | n0,m0,.agg l',d=>∃ l,d = .agg l/\CcL bx N n0 m0 l' l
 | n0,m0,.bo l',d=>∃ l,d = .bo l/\CcL bx N n0 m0 l' l
 | _,m0,.sl e es tk,d=>
  match tk with
  | none=>(es=[]/\d = .v (.slice none 0 0))∨(∃ Zi,d = .sl e es Zi)∨CcMs bx N e es d∨∃ es0 Zi,d = .sl e es0 Zi /\ CcE bx N es es0
  | some k=>k < m0/\d = .sl e es (some k)
 | _,_,.pt cs' o,d=>d = .pt cs' o∨∃ i cs,d = .loc i o/\N<=i/\bx[i]? = some cs/\CcL bx N 0 0 cs' cs
 | n0,_,.loc i o,d=>i < n0/\d = .loc i o
 | n0,_,.el i o,d=>i < n0/\d = .el i o
 | n0,_,.ms i e o l c,d=>i < n0/\d = .ms i e o l c
 | n0,m0,.fn f a' b',d=>∃ a b,d = .fn f a b/\CcL bx N n0 m0 a' a/\CcL bx N n0 m0 b' b
 | n0,m0,.rR t x',d=>∃ x,d = .rR t x/\Cc bx N n0 m0 x' x
def CcL (bx:List (List DV)) (N:Nat):Nat->Nat->List DV->List DV->Prop
 | _,_,[],l=>l=[]
 | n0,m0,d' :: r',l=>∃ d r,l=d :: r/\Cc bx N n0 m0 d' d/\CcL bx N n0 m0 r' r
def CcE (bx:List (List DV)) (N:Nat):List (List DV)->List (List DV)->Prop
 | [],l=>l=[]
 | a' :: r',l=>∃ a r,l=a :: r/\(a'=a∨CcL bx N 0 0 a' a)/\CcE bx N r' r
end
def mU (bx:List (List DV)) (N n0 m0:Nat):List (List DV)->List (List DV)->Prop
 | [],l=>l=[]
 | a' :: r',l=>∃ a r,l=a :: r/\CcL bx N n0 m0 a' a/\mU bx N n0 m0 r' r
structure Ctx where
 P:Program
 T:TT
 hT:T.ok P=true
 fn:Func
 nt:Nat
 rs:List ResultVar
 ti:fn.results.toList=rs
 w0:World
 E0:En
 n0:Nat
 m0:Nat
 tj:E0.β.length=n0
 oZ:E0.tk.length=m0
 still:Bool
 Φ:DV->List (List DV)->List TkE->Prop
 bt:List (Nat × TypeId):=[]
 mu:List Nat:=[]
 fr:Bool:=false
def btOK:List (Nat × TypeId)->Nat->TypeId->Bool
 | [],_,_=>true
 | p :: r,n,t=>(!(Nat.beq p.1 n) || Nat.beq p.2 t) && btOK r n t
def rj (bt:List (Nat × TypeId)) (β:List Nat) (w:World):Prop:=∀ p∈bt,∀ b,β[p.1]? = some b->∃ cs,w.heap[b]? = some (.cells cs p.2 (0,0))
def En.S (E:En) (b:Nat):Prop:=b∈E.β∨∃ y∈E.τ,y.ownBlock=some b
def tq (c:Addr->Option Value) (q:TkE) (cur:Array Value):Prop:=∀ cs,q.own=some cs->cs.length=q.n * q.e/\RvC ⟨c,[],[],[]⟩ cs (cur.toList.take (q.n * q.e))
def GQ (w:World) (c:Addr->Option Value) (β:List Nat) (q:TkE) (y:Value):Prop:=
 (y = .slice none 0 0/\q.n=0/\∀ cs,q.own=some cs->cs=[]) ∨
 ∃ g cap,∃ cur:Array Value,y = .slice (some ⟨g,0,none⟩) q.n cap/\w.heap[g]? = some (.cells cur q.ty (0,0))/\(cur.size=cap * q.e/\tq c q cur)/\q.n<=cap/\cap<=maxLen/\g ∉ β/\∀ a v,c a=some v->a.block=g->a.off < q.kn
structure Env (E:En) (bx:List (List DV)) (w:World):Prop where
 len:E.β.length=bx.length
 tl:E.τ.length=E.tk.length
 eQ:∀ (i:Nat) cs,bx[i]? = some cs->∃ b ty arr,E.β[i]? = some b/\w.heap[b]? = some (.cells (List.toArray arr) ty (0,0))/\RvC E cs arr
 inj:E.β.Nodup
 sub:∀ a v,E.c a=some v->w.cell? a=some v
 pc:∀ a v,E.c a=some v->a.block ∉ E.β
 dh:∀ (k:Nat) q y,E.tk[k]? = some q->E.τ[k]? = some y->GQ w E.c E.β q y
 jY:∀ (k k':Nat) y y' g,k≠k' -> E.τ[k]? = some y->E.τ[k']? = some y' -> y.ownBlock=some g->y'.ownBlock≠some g
structure Nw (E0 E:En) (w0:World):Prop where
 c:∀ a v,E0.c a=some v->E.c a=some v
 cn:∀ a v,E.c a=some v->E0.c a=some v∨w0.heap.size<=a.block∨∃ y∈E0.τ,y.ownBlock=some a.block
 β:∃ r,E.β=E0.β ++ r/\∀ b∈r,w0.heap.size<=b
 tk:∀ (k:Nat) q y,E0.tk[k]? = some q->E0.τ[k]? = some y->∃ q' y',E.tk[k]? = some q' /\ E.τ[k]? = some y' /\ q.ty=q'.ty/\q.e=q'.e/\((q'.n=q.n/\y'=y)∨q.n < q'.n)/\(y'.ownBlock=y.ownBlock∨∀ g,y'.ownBlock=some g->w0.heap.size<=g)
 tn:∀ (k:Nat) y g,E0.tk.length<=k->E.τ[k]? = some y->y.ownBlock=some g->w0.heap.size<=g
 l0:E0.τ.length=E0.tk.length
structure Rel (X:Ctx) (E:En) (st:St) (a:Act) (w:World):Prop where
 env:Env E st.bx w
 tk:E.tk=st.tk
 sz:a.tmps.size=X.nt
 tm:∀ i x,get st.sl i=some x->(Holds a.tmps x.gs->∃ v,a.tmps[i]? = some v/\Rv E x.s v)/\(¬ Holds a.tmps x.gs->a.tmps[i]? = some undef)
 df:a.defers=[]
 nw:Nw X.E0 E X.w0
 fr:tg X.E0.S X.w0 w
 sh:X.still=true->∃ q,w=X.w0.drewN q
 bt:rj X.bt E.β w
inductive It where
 | code (c:Code)
 | ops (all:Array Oper) (l:List Oper)
 | Cr (id:Nat)
 | Gw (J:St->Prop)
def tkL:Bool->Nat->Nat->Prop
 | false,n,n0=>n=n0
 | true,n,n0=>n0<=n
def GR (s:Bool) (E0:En) (w0:World) (Φ:DV->List (List DV)->List TkE->Prop) (v:Value) (w:World) (fr:Bool:=false):Prop:=
 tg E0.S w0 w/\(s=true->∃ q,w=w0.drewN q)/\∃ d os E,Env E os w/\E.β=E0.β/\tkL fr E.tk.length E0.tk.length/\Nw E0 E w0/\Rv E d v/\Φ d os E.tk
def kq (X:Ctx):List It->Exit->Act->World->Prop
 | [],e,a,w=>
  match e with
  | .normal | .ret=>a.defers=[]/\∃ v,(results X.fn a.tmps).run X.P w = .ok v w/\GR X.still X.E0 X.w0 X.Φ v w X.fr/\rj X.bt X.E0.β w
  | _=>False
 | .code c :: k,e,a,w=>
  match e with
  | .normal=>c.wp X.P (kq X k) a w
  | e=>kq X k e a w
 | .ops all l :: k,e,a,w=>
  match e with
  | .normal=>wpList X.P all (kq X k) l a w
  | e=>kq X k e a w
 | .Cr id :: k,e,a,w=>
  match e with
  | .exit id'=>if id'=id then kq X k .normal a w else kq X k (.exit id') a w
  | e=>kq X k e a w
 | .Gw J :: k,e,a,w=>
  match e with
  | .normal=>∃ st E,Rel X E st a w/\J st
  | e=>kq X k e a w
def CallG (X:Ctx) (f:FuncId) (args:List DV) (dst:Option Nat) (k:List It) (st:St):Prop:=
 Go.Proofs.Enters X.P f/\X.still=false/\∀ E a w vs,Rel X E st a w->RvL E args vs->Calls X.P f vs.toArray w fun
  | .returned v,w'=>kq X k .normal (a.put dst v) w'
  | _,_=>False
def Rf (X:Ctx) (o:Oper) (k:List It) (st:St):Prop:=
 ∀ E a w,Rel X E st a w->o.wp X.P a w (kq X k .normal) (fun _ _ _=>False)
def ru (X:Ctx) (c:Code) (k:List It) (st:St):Prop:=
 ∀ E a w,Rel X E st a w->(Code.loop c).wp X.P (kq X k) a w
def xi (X:Ctx) (id:Nat) (ops:Array Oper) (k:List It) (st:St):Prop:=
 ∀ E a w,Rel X E st a w->(Code.region id ops true).wp X.P (kq X k) a w
def u8L:List UInt8->List DV
 | []=>[]
 | b :: r=>.v (.int .u8 b.toNat) :: u8L r
def EJ (P:Program) (op:BinOp) (x y:Operand) (t:TypeId) (l l':List DV) (b:Bool):Prop:=
 ∃ vs vs':List Value,l=vL vs/\l'=vL vs' /\ ∀ w:World,(eqGuard op t x y (.agg vs.toArray) (.agg vs'.toArray)).run P w = .ok () w/\(binOp op t (.agg vs.toArray) (.agg vs'.toArray)).run P w = .ok (.bool b) w
def bound (st:St) (d:Int):Option Operand->Option Int
 | none=>some d
 | some x=>
  match rv st [] x with
  | some (.v (.int _ z))=>some z
  | _=>none
def effR (X:Ctx) (st:St) (op:Op) (K:DV->Prop):Option Prop:=
 match op with
 | .indexAddr t x i=>
  match rv st [] x,rv st [] i with
  | some (.sl e es _),some (.v (.int _ z))=>
   match X.T.find t with
   | some ⟨_,_,.sl _ e' _,_⟩=>
    match Nat.beq e e' with
    | true=>some (∃ cs,(0<=z/\es[z.toNat]? = some cs)/\K (.pt cs 0))
    | false=>none
   | _=>none
  | some (.ms j e off n _),some (.v (.int _ z))=>
   match X.T.find t with
   | some ⟨_,_,.sl _ e' _,_⟩=>
    match Nat.beq e e' with
    | true=>some ((0<=z/\z < n)/\K (.el j (off + z.toNat * e)))
    | false=>none
   | _=>none
  | some (.loc j off),some (.v (.int _ z))=>
   match X.T.find t with
   | some ⟨_,_,.ar n e,_⟩=>
    match i with
    | .const _=>some ((0<=z/\z < n)/\K (.loc j (off + z.toNat * e)))
    | _=>some ((0<=z/\z < n)/\K (.el j (off + z.toNat * e)))
   | _=>none
  | some (.el j off),some (.v (.int _ z))=>
   match X.T.find t with
   | some ⟨_,_,.ar n e,_⟩=>some ((0<=z/\z < n)/\K (.el j (off + z.toNat * e)))
   | _=>none
  | some (.pt cs off),some (.v (.int _ z))=>
   match X.T.find t with
   | some ⟨_,_,.ar n e,_⟩=>
    match i with
    | .const _=>some ((0<=z/\z < n)/\K (.pt cs (off + z.toNat * e)))
    | _=>some (∃ ds,((0<=z/\z < n)/\(cs.drop (off + z.toNat * e)).take e=ds)/\K (.pt ds 0))
   | _=>none
  | _,_=>none
 | .load t x=>
  match rv st [] x with
  | some (.el i off)=>
   match st.bx[i]? with
   | some cs=>some (∃ d,cellsT X.T t cs off=some d/\K d)
   | none=>none
  | _=>none
 | .index t x i=>
  match rv st [] x,rv st [] i,X.T.find t with
  | some (.v (.string s)),some (.v (.int _ z)),some ⟨_,_,.str,_⟩=>some ((0<=z/\z < s.size)/\K (.v (.int .u8 (aq s z.toNat))))
  | _,_,_=>none
 | .slice t x lo hi mx=>
  match mx with
  | some _=>none
  | none=>
   match rv st [] x,X.T.find t with
   | some (.v (.string s)),some ⟨_,_,.str,_⟩=>
    match bound st 0 lo,bound st s.size hi with
    | some l,some h=>some ((0<=l/\l<=h/\h<=s.size)/\K (.v (.string (s.extract l.toNat h.toNat))))
    | _,_=>none
   | some (.sl e es _),some ⟨_,_,.sl _ e' _,_⟩=>
    match Nat.beq e e' with
    | true=>
     match bound st 0 lo,bound st es.length hi with
     | some l,some h=>some ((0<=l/\l<=h/\h<=es.length)/\K (.sl e ((es.take h.toNat).drop l.toNat) none))
     | _,_=>none
    | false=>none
   | some (.loc j off),some ⟨_,_,.ar n e,_⟩=>
    match bound st 0 lo,bound st n hi with
    | some l,some h=>some ((0<=l/\l<=h/\h<=n)/\K (.ms j e (off + l.toNat * e) (h.toNat - l.toNat) (n - l.toNat)))
    | _,_=>none
   | some (.loc j off),some ⟨_,_,.ptr et,_⟩=>
    match X.T.find et with
    | some ⟨_,_,.ar n e,_⟩=>
     match bound st 0 lo,bound st n hi with
     | some l,some h=>some ((0<=l/\l<=h/\h<=n)/\K (.ms j e (off + l.toNat * e) (h.toNat - l.toNat) (n - l.toNat)))
     | _,_=>none
    | _=>none
   | _,_=>none
 | .binOp op xt x y _=>
  match rv st [] x,rv st [] y with
  | some (.v (.string s)),some (.v (.string t))=>
   match op with
   | .add=>some (s.size + t.size<=9223372036854775807/\K (.v (.string (s ++ t))))
   | _=>none
  | some (.v (.int k1 p)),some (.v (.int k2 q))=>
   match op with
   | .quo=>some ((k1=k2/\q≠0)/\K (.v (.int k1 (k1.wrap (p.tdiv q)))))
   | .rem=>some ((k1=k2/\q≠0)/\K (.v (.int k1 (p.tmod q))))
   | .shl=>some ((0<=q)/\K (.v (.int k1 (k1.wrap (p * 2 ^ (min q.toNat k1.bits))))))
   | .shr=>some ((0<=q)/\K (.v (.int k1 (p.fdiv (2 ^ (min q.toNat k1.bits))))))
   | _=>none
  | some (.agg l),some (.agg l')=>some (∃ b,EJ X.P op x y xt l l' b/\K (.v (.bool b)))
  | _,_=>none
 | .convert s d x=>
  match rv st [] x,X.T.find s,X.T.find d with
  | some (.sl 1 es _),some ⟨_,_,.sl et 1 _,_⟩,some ⟨_,_,.str,_⟩=>
   match X.T.find et with
   | some ⟨_,_,.int .u8,_⟩=>some (∃ bs:List UInt8,es.flatten=u8L bs/\K (.v (.string ⟨bs.toArray⟩)))
   | _=>none
  | _,_,_=>none
 | _=>none
def ownD:DV->Bool
 | .sl 0 _ (some _)=>true
 | _=>false
def appTo (st:St) (d:DV) (K:Nat->List TkE->List (List DV)->Prop) (m:Nat) (ty e:Nat):Prop:=
 match d with
 | .v (.slice none 0 0)=>appF (⟨m,ty,e,none⟩:TkE) st.tk (fun n Zi=>K n Zi [])
 | .sl e' es (some k)=>
  match st.tk[k]? with
  | some q=>
   match Nat.beq e' e && Nat.beq q.ty ty && Nat.beq q.e e && q.own.isNone with
   | true=>es.length=q.n/\setF (⟨q.n + m,ty,e,none⟩:TkE) st.tk k (fun Zi=>K k Zi es)
   | false=>False
  | none=>False
 | _=>False
def appOwn (st:St) (d et e kL:Nat) (ds:DV) (xs:List (List DV)) (K:St->Prop):Prop:=
 match ds with
 | .sl 0 es (some k)=>
  match st.tk[k]? with
  | some ⟨n,ty,e',some cs⟩=>
   match Nat.beq ty et && Nat.beq e' e with
   | true=>((es.length=n/\xs ≠ [])/\n + xs.length<=maxLen/\(n + xs.length) * kL <= 140737488355328)/\setF (⟨n + xs.length,et,e,some (cs ++ xs.flatten)⟩:TkE) st.tk k (fun Zi=>
     match st with
     | ⟨sl,bx,_⟩=>K ⟨(d,⟨[],.sl 0 (List.replicate (n + xs.length) []) (some k)⟩) :: sl,bx,Zi⟩)
   | false=>False
  | _=>False
 | _=>False
def eraD:DV->Option DV
 | .v x=>some (.v x)
 | .sl e es _=>some (.sl e es none)
 | .pt cs o=>some (.pt cs o)
 | _=>none
def eraL {γ:Type}:List DV->(List DV->Option γ)->Option γ
 | [],K=>K []
 | d :: r,K=>
  match eraD d with
  | some d'=>eraL r (fun r'=>K (d' :: r'))
  | none=>none
def VR (st:St) (d:Nat) (cs:List DV) (f:Nat->DV) (K:St->Prop):Prop:=
 match st with
 | ⟨sl,bx,tk⟩=>appF cs bx (fun n Ym=>K ⟨(d,⟨[],f n⟩) :: sl,Ym,tk⟩)
theorem Mu (st:St) (d:Nat) (cs:List DV) (f:Nat->DV) (K:St->Prop):VR st d cs f K=K ⟨(d,⟨[],f st.bx.length⟩) :: st.sl,st.bx ++ [cs],st.tk⟩:=by
 simp only [VR,yt]
def litL (e:Nat) (st:St):List (Nat × Operand)->Nat->Option (List (List DV))
 | [],_=>some []
 | (j,x) :: r,i=>
  match Nat.beq j i,rv st [] x,litL e st r (i + 1) with
  | true,some d,some l=>
   match Nat.beq d.cells.length e with
   | true=>eraL d.cells (fun cs=>some (cs :: l))
   | false=>none
  | _,_,_=>none
def muB:List Nat->Nat->Bool
 | [],_=>false
 | m :: r,d=>Nat.beq m d || muB r d
def appMs (X:Ctx) (st:St) (d et e kL:Nat) (ds:DV) (xs:List (List DV)) (K:St->Prop):Option Prop:=
 match ds,X.T.find et,X.bt with
 | .v (.slice none 0 0),some ⟨_,_,_,z⟩,[]=>some ((xs ≠ []/\xs.length<=maxLen/\xs.length * kL <= 140737488355328)/\∀ cap,xs.length<=cap->VR st d (xs.flatten ++ (List.replicate (cap - xs.length) (vL z)).flatten) (fun i=>.ms i e 0 xs.length cap) K)
 | _,_,_=>none
def Yn {γ:Type} (cs:List DV) (off:Nat) (vs:List DV) (K:List DV->γ):γ:=
 match vs with
 | [x]=>K (cs.set off x)
 | l=>K (cs.take off ++ l ++ cs.drop (off + l.length))
theorem Rg {γ:Type} (cs:List DV) (off:Nat) (vs:List DV) (K:List DV->γ) (h:off + vs.length<=cs.length):Yn cs off vs K=K (cs.take off ++ vs ++ cs.drop (off + vs.length)):=by
 match vs,h with
 | [x],h=>
  simp only [List.length_cons,List.length_nil] at h;show K _=_;rw [List.set_eq_take_append_cons_drop,zIfP (by omega)];simp
 | [],_=>rfl
 | _ :: _ :: _,_=>rfl
def effC (X:Ctx) (st:St) (o:Oper) (K:St->Prop):Option Prop:=
 match effR X st o.op (fun s=>putK st o.dst ⟨[],s⟩ K) with
 | some p=>some p
 | none=>
 match X.still with
 | true=>none
 | false=>
  match o.op with
  | .box ty x=>
   match rv st [] x,o.dst with
   | some d,some t=>
    match d.cells with
    | []=>none
    | c :: r=>
     match btOK X.bt st.bx.length ty with
     | true=>some (VP st t (c :: r) K)
     | false=>none
   | _,_=>none
  | .alloc t=>
   match X.T.find t,o.dst with
   | some ⟨_,_,_,z⟩,some d=>
    match btOK X.bt st.bx.length t with
    | true=>some (VP st d (vL z) K)
    | false=>none
   | _,_=>none
  | .store t x y=>
   match rv st [] x,rv st [] y,X.T.sz t with
   | some (.loc i off),some d,some n=>
    match st.bx[i]? with
    | some cs=>some (Br (Nat.blt 0 n && Nat.beq d.cells.length n && Nat.ble (off + n) cs.length)
      (putK st o.dst ⟨[],.ud⟩ fun st'=>splF cs off d.cells fun cs'=>VQ st' i cs' K) False)
    | none=>none
   | some (.el i off),some d,some n=>
    match st.bx[i]? with
    | some cs=>some (Br (Nat.blt 0 n && Nat.beq d.cells.length n) (off + n<=cs.length/\putK st o.dst ⟨[],.ud⟩ fun st'=>Yn cs off d.cells fun cs'=>VQ st' i cs' K) False)
    | none=>none
   | _,_,_=>none
  | .makeSlice t l c=>
   match X.T.find t,rv st [] l,rv st [] c,o.dst with
   | some ⟨_,_,.sl et e kL,_⟩,some (.v (.int _ n)),some (.v (.int _ m)),some d=>
    match X.T.find et,Nat.blt 0 e with
    | some ⟨_,_,_,z⟩,true=>
     match btOK X.bt st.bx.length et with
     | false=>none
     | true=>some ((n=m/\0<=n/\(kL:Int) * n<=281474976710656/\n<=4611686018427387904)/\VR st d (List.replicate n.toNat (vL z)).flatten (fun i=>.ms i e 0 n.toNat n.toNat) K)
    | _,_=>none
   | _,_,_,_=>none
  | .convert s d x=>
   match rv st [] x,X.T.find s,X.T.find d,o.dst with
   | some (.ms i 1 off n _),some ⟨_,_,.sl et 1 _,_⟩,some ⟨_,_,.str,_⟩,some dd=>
    match st.bx[i]?,X.T.find et with
    | some cs,some ⟨_,_,.int .u8,_⟩=>some (∃ bs:List UInt8,(cs.drop off).take n=u8L bs/\bs.length=n/\putK st (some dd) ⟨[],.v (.string ⟨bs.toArray⟩)⟩ K)
    | _,_=>none
   | _,_,_,_=>none
  | .buildSlice t len parts=>
   match X.T.find t,o.dst with
   | some ⟨_,_,.sl _ e _,_⟩,some d=>
    match muB X.mu d with
    | true=>none
    | false=>
    match litL e st parts.toList 0 with
    | some es=>
     match Nat.beq es.length len && (Nat.blt 0 len && Nat.blt 0 e && Nat.ble (len * e) 16777216) with
     | true=>some (putK st (some d) ⟨[],.sl e es none⟩ K)
     | false=>none
    | none=>none
   | _,_=>none
  | .call c=>
   match c.callee with
   | .builtin .append=>
    match c.args.toList,c.argTypes.toList,o.dst with
    | [s,x],[t,t'],some d=>
     match X.T.find t,Nat.beq t t',rv st [] s,rv st [] x with
     | some ⟨_,_,.sl et e kL,_⟩,true,some ds,some (.sl e' xs _)=>
      match Nat.beq e e' && Nat.blt 0 e with
      | true=>
       match muB X.mu d with
       | true=>appMs X st d et e kL ds xs K
       | false=>
       match ownD ds with
       | true=>some (appOwn st d et e kL ds xs K)
       | false=>some (appTo st ds (fun n Zi es=>(es.length + xs.length<=maxLen/\(es.length + xs.length) * kL <= 140737488355328) /\
        match st with
        | ⟨sl,bx,_⟩=>K ⟨(d,⟨[],.sl e (es ++ xs) (some n)⟩) :: sl,bx,Zi⟩) xs.length et e)
      | false=>none
     | _,_,_,_=>none
    | _,_,_=>none
   | _=>none
  | _=>none
def eff (X:Ctx) (G:List It->St->Prop) (o:Oper) (k:List It) (st:St):Prop:=
 match effC X st o (G k) with
 | some p=>p
 | none=>
  match o.op with
  | .call c=>
   match c.callee with
   | .value f=>
    match rv st [] f,argsV st [] c.args.toList with
    | some (.fn g first captured),some l=>CallG X g (first ++ l ++ captured) o.dst k st
    | _,_=>False
   | _=>Rf X o k st
  | _=>Rf X o k st
def dropBlk (id:Nat):List It->Option (List It)
 | []=>none
 | .Cr i :: k=>
  match Nat.beq id i with
  | true=>some k
  | false=>dropBlk id k
 | _ :: k=>dropBlk id k
def noMen (d:Nat):List (Nat × Sl)->Bool
 | []=>true
 | (_,x) :: r=>
  match x.gs with
  | []=>noMen d r
  | g :: gs=>(g :: gs).all (fun p=>!Nat.beq p.1 d) && noMen d r
def fU (nt:Nat) (sl:List (Nat × Sl)):Option Nat->Bool
 | some d=>Nat.blt d nt && noMen d sl
 | none=>true
def okG (G:List (Nat × Bool)):Option Nat->Bool
 | some e=>G.all (fun p=>!Nat.beq p.1 e)
 | none=>true
def lastG:Nat × Bool->List (Nat × Bool)->Nat × Bool
 | p,[]=>p
 | _,q :: r=>lastG q r
def b6 (d:Nat) (w:Bool) (x:Nat × Sl):Nat × Sl:=
 match Nat.beq x.1 d with
 | true=>(x.1,⟨[],.v (.bool w)⟩)
 | false=>
  match x.2.gs.contains (d,!w) with
  | true=>(x.1,⟨[],.ud⟩)
  | false=>(x.1,⟨x.2.gs.filter (fun p=>p != (d,w)),x.2.s⟩)
def filtK {γ:Type _} (p:Nat × Bool):List (Nat × Bool)->(List (Nat × Bool)->γ)->γ
 | [],K=>K []
 | q :: r,K=>
  match q != p with
  | true=>filtK p r (fun r'=>K (q :: r'))
  | false=>filtK p r K
theorem yY {γ:Type _} (p:Nat × Bool):∀ (l:List (Nat × Bool)) (K:List (Nat × Bool)->γ),filtK p l K=K (l.filter (fun q=>q != p))
 | [],K=>rfl
 | q :: r,K=>by
  simp only [filtK,List.filter_cons];cases h:(q != p)
  ·rw [yY p r K];simp
  ·rw [yY p r];simp
def res1K {γ:Type _} (d:Nat) (w:Bool) (k:Nat) (x:Sl) (K:Sl->γ):γ:=
 match Nat.beq k d with
 | true=>K ⟨[],.v (.bool w)⟩
 | false=>
  match x with
  | ⟨[],s⟩=>K ⟨[],s⟩
  | ⟨g :: gs,s⟩=>
   match (g :: gs).contains (d,!w) with
   | true=>K ⟨[],.ud⟩
   | false=>filtK (d,w) (g :: gs) (fun gs'=>K ⟨gs',s⟩)
theorem Rh {γ:Type _} (d:Nat) (w:Bool) (k:Nat) (x:Sl) (K:Sl->γ):res1K d w k x K=K (b6 d w (k,x)).2:=by
 obtain ⟨gs,s⟩:=x;cases hb:Nat.beq k d
 ·cases gs with
  | nil=>simp [res1K,b6,hb]
  | cons g r=>grind [res1K,b6,yY]
 ·simp only [res1K,b6,hb]
def resL {γ:Type _} (d:Nat) (w:Bool):List (Nat × Sl)->(List (Nat × Sl)->γ)->γ
 | [],K=>K []
 | (k,x) :: r,K=>res1K d w k x (fun y=>resL d w r (fun r'=>K ((k,y) :: r')))
theorem tu (d:Nat) (w:Bool) (k:Nat) (x:Sl):(b6 d w (k,x)).1=k:=by
 unfold b6;split
 ·rfl
 ·split<;>rfl
theorem EK {γ:Type _} (d:Nat) (w:Bool):∀ (l:List (Nat × Sl)) (K:List (Nat × Sl)->γ),resL d w l K=K (l.map (b6 d w))
 | [],K=>rfl
 | (k,x) :: r,K=>by
  simp only [resL,Rh,List.map_cons];rw [EK d w r]
  grind [tu]
def St.resolve (st:St) (d:Nat) (w:Bool):St:=⟨st.sl.map (b6 d w),st.bx,st.tk⟩
def BT (st:St) (d:Nat) (w:Bool) (K:St->Prop):Prop:=
 match st with
 | ⟨sl,bx,tk⟩=>resL d w sl (fun sl'=>K ⟨sl',bx,tk⟩)
theorem Mv (st:St) (d:Nat) (w:Bool) (K:St->Prop):BT st d w K=K (st.resolve d w):=by
 simp only [BT,EK,St.resolve]
def res1 (T:TT) (st:St):ResultVar->Option DV
 | .tmp t=>
  match get st.sl t with
  | some ⟨[],d⟩=>some d
  | _=>none
 | .cell a t=>
  match get st.sl a with
  | some ⟨[],.loc i off⟩=>
   match st.bx[i]? with
   | some cs=>cellsT T t cs off
   | none=>none
  | _=>none
def resD (T:TT) (st:St):List ResultVar->Option (List DV)
 | []=>some []
 | r :: rs=>
  match res1 T st r,resD T st rs with
  | some d,some l=>some (d :: l)
  | _,_=>none
def finD (X:Ctx) (st:St) (d:DV):Prop:=
 match X.fr with
 | true=>∃ d' os,Cc st.bx X.n0 X.n0 st.tk.length d' d/\mU st.bx X.n0 X.n0 st.tk.length os (st.bx.take X.n0)/\X.Φ d' os st.tk
 | false=>
  match X.n0,X.m0 with
  | 0,0=>
   match d with
   | .v x=>X.Φ (.v x) [] []
   | d=>∃ d',Cc st.bx 0 0 0 d' d/\X.Φ d' [] []
  | n0,m0=>∃ d' os,Cc st.bx n0 n0 m0 d' d/\mU st.bx n0 n0 m0 os (st.bx.take n0)/\X.Φ d' os (st.tk.take m0)
def fin (X:Ctx) (st:St):Prop:=
 match resD X.T st X.rs with
 | some []=>finD X st (.bo [])
 | some [d]=>finD X st d
 | some (d :: e :: l)=>finD X st (.bo (d :: e :: l))
 | none=>False
def go (X:Ctx):Nat->List It->St->Prop
 | 0,_,_=>False
 | _ + 1,[],st=>fin X st
 | n + 1,.Cr _ :: k,st=>go X n k st
 | _ + 1,.Gw J :: _,st=>J st
 | n + 1,.ops _ [] :: k,st=>go X n k st
 | n + 1,.ops all (o :: r) :: k,st=>
  match fU X.nt st.sl o.dst with
  | false=>False
  | true=>
   match o.guard with
   | none=>
    match pureT X.P X.T st [] o.op with
    | some s=>putK st o.dst ⟨[],s⟩ (go X n (.ops all r :: k))
    | none=>eff X (go X n) o (.ops all r :: k) st
   | some (j,want)=>
    match gslot all.toList j with
    | none=>False
    | some d=>
     match get st.sl d with
     | none=>False
     | some ⟨nX,_⟩=>
      match pureT X.P X.T st ((d,want) :: nX) o.op with
      | some s=>
       match okG ((d,want) :: nX) o.dst with
       | true=>putK st o.dst ⟨(d,want) :: nX,s⟩ (go X n (.ops all r :: k))
       | false=>False
      | none=>
       match get st.sl (lastG (d,want) nX).1 with
       | some ⟨[],.v (.bool b)⟩=>
        match nX with
        | []=>Br (b == want) (BT st d want (eff X (go X n) o (.ops all r :: k))) (BT st d (!want) fun st'=>putK st' o.dst ⟨[],.ud⟩ (go X n (.ops all r :: k)))
        | _ :: _=>Br (b == (lastG (d,want) nX).2) (BT st (lastG (d,want) nX).1 (lastG (d,want) nX).2 (go X n (.ops all (o :: r) :: k)))
          (BT st (lastG (d,want) nX).1 (!(lastG (d,want) nX).2) (go X n (.ops all (o :: r) :: k)))
       | some ⟨[],.ud⟩=>
        match nX with
        | []=>putK st o.dst ⟨[],.ud⟩ (go X n (.ops all r :: k))
        | _ :: _=>False
       | _=>False
 | n + 1,.code c :: k,st=>
  match c with
  | .skip=>go X n k st
  | .seq a b=>go X n (.code a :: .code b :: k) st
  | .block id b=>go X n (.code b :: .Cr id :: k) st
  | .exit id=>
   match dropBlk id k with
   | some k'=>go X n k' st
   | none=>False
  | .cond x a b=>
   match rv st [] x with
   | some (.v (.bool b'))=>Br b' (go X n (.code a :: k) st) (go X n (.code b :: k) st)
   | _=>False
  | .region id ops d=>
   match d with
   | true=>xi X id ops k st
   | false=>go X n (.ops ops ops.toList :: k) st
  | .loop b=>ru X b k st
  | .ret=>fin X st
  | .scope c=>go X n (.code c :: k) st
  | .label _=>go X n k st
  | _=>False
end Dv
end Go.Proofs.YtfdedoiiahbnnaaGreat
namespace Go.Proofs.YtfdedoiiahbnnaaGreat
namespace Dv
open Go Go.RowKit
structure Ext (E E':En):Prop where
 c:∀ a v,E.c a=some v->E'.c a=some v
 β:∀ (i:Nat) b,E.β[i]? = some b->E'.β[i]? = some b
 tk:∀ (k:Nat) q,E.tk[k]? = some q->∃ q',E'.tk[k]? = some q' /\ ((q'.n=q.n/\E'.τ[k]? = E.τ[k]?)∨q.n < q'.n)
theorem Ext.refl (E:En):Ext E E:=⟨fun _ _ h=>h,fun _ _ h=>h,fun _ q h=>⟨q,h,.inl ⟨rfl,rfl⟩⟩⟩
theorem Ext.cl {E E':En} (h:Ext E E'):Ext E.cl E'.cl:=⟨h.c,fun _ _ h=>by simp [En.cl] at h,fun _ _ h=>by simp [En.cl] at h⟩
theorem VO.mono {E E':En} (h:Ext E E') {tk:Option Nat} {n:Nat} {y:Value} (ht:VO E tk n y):VO E' tk n y:=by
 intro k hk;obtain ⟨q,h1,h2,h3⟩:=ht k hk;obtain ⟨q',h4,h5⟩:=h.tk k q h1
 grind
mutual
theorem Rv.mono:∀ {d:DV} {E E':En} {v:Value},Ext E E' -> Rv E d v->Rv E' d v
 | .v x,E,E',v,_,h=>by simpa only [Rv] using h
 | .ud,E,E',v,_,h=>by simpa only [Rv] using h
 | .agg l,E,E',v,hE,h=>by
  simp only [Rv] at h ⊢;obtain ⟨vs,h1,h2,h3⟩:=h;exact ⟨vs,h1,RvL.mono hE h2,h3⟩
 | .bo l,E,E',v,hE,h=>by
  simp only [Rv] at h ⊢;obtain ⟨vs,h1,h2⟩:=h;exact ⟨vs,h1,RvL.mono hE h2⟩
 | .sl e es tk,E,E',v,hE,h=>by
  simp only [Rv] at h ⊢;obtain ⟨b,n,cap,h1,h2,h3,h4⟩:=h;exact ⟨b,n,cap,h1,h2,fun hn=>⟨(h3 hn).1,RvEs.mono hE.cl (h3 hn).2⟩,h4.mono hE⟩
 | .pt cs off,E,E',v,hE,h=>by
  simp only [Rv] at h ⊢;obtain ⟨b,p,h1,h2⟩:=h;exact ⟨b,p,h1,RvAt.mono hE.cl h2⟩
 | .loc i off,E,E',v,hE,h=>by
  simp only [Rv] at h ⊢;obtain ⟨b,h1,h2⟩:=h;exact ⟨b,hE.β i b h1,h2⟩
 | .el i off,E,E',v,hE,h=>by
  simp only [Rv] at h ⊢;obtain ⟨b,h1,h2⟩:=h;exact ⟨b,hE.β i b h1,h2⟩
 | .ms i e off len cap,E,E',v,hE,h=>by
  simp only [Rv] at h ⊢;obtain ⟨b,a,h1,h2⟩:=h;exact ⟨b,a,hE.β i b h1,h2⟩
 | .fn f a b,E,E',v,hE,h=>by
  simp only [Rv] at h ⊢;obtain ⟨l,r,h1,h2,h3⟩:=h;exact ⟨l,r,h1,RvL.mono hE h2,RvL.mono hE h3⟩
 | .rR t x,E,E',v,hE,h=>by
  simp only [Rv] at h ⊢;obtain ⟨z,h1,h2⟩:=h;exact ⟨z,h1,Rv.mono hE h2⟩
theorem RvL.mono:∀ {l:List DV} {E E':En} {vs:List Value},Ext E E' -> RvL E l vs->RvL E' l vs
 | [],E,E',vs,_,h=>by simpa only [RvL] using h
 | d :: r,E,E',vs,hE,h=>by
  simp only [RvL] at h ⊢;obtain ⟨v,s,h1,h2,h3⟩:=h;exact ⟨v,s,h1,Rv.mono hE h2,RvL.mono hE h3⟩
theorem RvAt.mono:∀ {l:List DV} {E E':En} {b p:Nat},Ext E E' -> RvAt E b p l->RvAt E' b p l
 | [],E,E',b,p,_,h=>by simp only [RvAt]
 | d :: r,E,E',b,p,hE,h=>by
  simp only [RvAt] at h ⊢;obtain ⟨⟨v,h1,h2,h3⟩,h4⟩:=h;exact ⟨⟨v,hE.c _ v h1,h2,Rv.mono hE h3⟩,RvAt.mono hE h4⟩
theorem RvEs.mono:∀ {l:List (List DV)} {E E':En} {e b o:Nat},Ext E E' -> RvEs E e b o l->RvEs E' e b o l
 | [],E,E',e,b,o,_,h=>by simp only [RvEs]
 | d :: r,E,E',e,b,o,hE,h=>by
  simp only [RvEs] at h ⊢;exact ⟨h.1,RvAt.mono hE h.2.1,RvEs.mono hE h.2.2⟩
end
theorem RvC.mono {E E':En} (hE:Ext E E') {l:List DV} {vs:List Value} (h:RvC E l vs):RvC E' l vs:=⟨RvL.mono hE h.1,h.2⟩
theorem tq.mono {c c':Addr->Option Value} (h:∀ a v,c a=some v->c' a=some v) {q:TkE} {cur:Array Value} (ho:tq c q cur):tq c' q cur:=fun cs hc=>
 ⟨(ho cs hc).1,(ho cs hc).2.mono (E:=⟨c,[],[],[]⟩) (E':=⟨c',[],[],[]⟩) ⟨h,fun _ _ h=>by simp at h,fun _ _ h=>by simp at h⟩⟩
theorem tq.none {c:Addr->Option Value} {q:TkE} {cur:Array Value} (h:q.own=none):tq c q cur:=fun cs hc=>by rw [h] at hc;cases hc
theorem Ext.VS {E:En} {E':En} (h:∀ a v,E.c a=some v->E'.c a=some v):Ext E.cl E':=⟨h,fun _ _ h=>by simp [En.cl] at h,fun _ _ h=>by simp [En.cl] at h⟩
theorem Ext.Mw {E E':En} (h:∀ a v,E.c a=some v->E'.c a=some v):Ext E.cl E'.cl:=⟨h,fun _ _ h=>by simp [En.cl] at h,fun _ _ h=>by simp [En.cl] at h⟩
theorem Ext.un (E:En):Ext E.cl E:=Ext.VS fun _ _ h=>h
theorem RvL.length:∀ {l:List DV} {E:En} {vs:List Value},RvL E l vs->vs.length=l.length
 | [],E,vs,h=>by simp only [RvL] at h;subst h;rfl
 | d :: r,E,vs,h=>by
  simp only [RvL] at h;obtain ⟨v,s,rfl,_,h3⟩:=h;simp [RvL.length h3]
theorem RvL.get:∀ {l:List DV} {E:En} {vs:List Value} {i:Nat} {d:DV},RvL E l vs->l[i]? = some d->∃ v,vs[i]? = some v/\Rv E d v
 | [],E,vs,i,d,h,hi=>by simp at hi
 | d :: r,E,vs,0,d',h,hi=>by
  simp only [RvL] at h
  grind
 | d :: r,E,vs,i + 1,d',h,hi=>by
  simp only [RvL] at h;obtain ⟨v,s,rfl,_,h3⟩:=h;simp only [List.getElem?_cons_succ] at hi ⊢;exact RvL.get h3 hi
theorem RvL.append:∀ {l l':List DV} {E:En} {vs vs':List Value},RvL E l vs->RvL E l' vs' -> RvL E (l ++ l') (vs ++ vs')
 | [],l',E,vs,vs',h,h'=>by simp only [RvL] at h;subst h;simpa using h'
 | d :: r,l',E,vs,vs',h,h'=>by
  simp only [RvL] at h;obtain ⟨v,s,rfl,h2,h3⟩:=h;simp only [List.cons_append,RvL];exact ⟨v,_,rfl,h2,RvL.append h3 h'⟩
theorem RvL.take:∀ {l:List DV} {E:En} {vs:List Value} (n:Nat),RvL E l vs->RvL E (l.take n) (vs.take n)
 | l,E,vs,0,h=>by simp [RvL]
 | [],E,vs,n + 1,h=>by simp only [RvL] at h;subst h;simp [RvL]
 | d :: r,E,vs,n + 1,h=>by
  simp only [RvL] at h;obtain ⟨v,s,rfl,h2,h3⟩:=h;simp only [List.take_succ_cons,RvL];exact ⟨v,_,rfl,h2,RvL.take n h3⟩
theorem RvL.drop:∀ {l:List DV} {E:En} {vs:List Value} (n:Nat),RvL E l vs->RvL E (l.drop n) (vs.drop n)
 | l,E,vs,0,h=>by simpa using h
 | [],E,vs,n + 1,h=>by simp only [RvL] at h;subst h;simp [RvL]
 | d :: r,E,vs,n + 1,h=>by
  simp only [RvL] at h;obtain ⟨v,s,rfl,h2,h3⟩:=h;simp only [List.drop_succ_cons];exact RvL.drop n h3
theorem RvC.append {l l':List DV} {E:En} {vs vs':List Value} (h:RvC E l vs) (h':RvC E l' vs'):RvC E (l ++ l') (vs ++ vs'):=
 ⟨h.1.append h'.1,fun v hv=>(List.mem_append.1 hv).elim (h.2 v) (h'.2 v)⟩
theorem RvC.take {l:List DV} {E:En} {vs:List Value} (n:Nat) (h:RvC E l vs):RvC E (l.take n) (vs.take n):=⟨h.1.take n,fun v hv=>h.2 v (List.mem_of_mem_take hv)⟩
theorem RvC.drop {l:List DV} {E:En} {vs:List Value} (n:Nat) (h:RvC E l vs):RvC E (l.drop n) (vs.drop n):=⟨h.1.drop n,fun v hv=>h.2 v (List.mem_of_mem_drop hv)⟩
theorem rvL_cons {E:En} {d:DV} {v:Value} {l:List DV} {vs:List Value} (h1:Rv E d v) (h2:RvL E l vs):RvL E (d :: l) (v :: vs):=by
 simp only [RvL];exact ⟨v,vs,rfl,h1,h2⟩
theorem cW (E:En):RvL E [] []:=by simp only [RvL]
theorem rvL_one {E:En} {d:DV} {v:Value} (h1:Rv E d v):RvL E [d] [v]:=rvL_cons h1 (cW E)
theorem gl {E:En} {x:Value} (h:x.oneCell'=true):Rv E (.v x) x:=by unfold Rv;exact ⟨rfl,h⟩
theorem xj (E:En):Rv E .ud undef:=by simp only [Rv]
theorem cells_one {x:Value} (h:x.oneCell'=true):x.cells = #[x]:=by
 cases x<;>first | rfl | simp [Value.oneCell'] at h
theorem RvAt.drop {E:En} {b:Nat}:∀ {p:Nat} {cs:List DV} (k:Nat),RvAt E b p cs->RvAt E b (p + k) (cs.drop k)
 | p,cs,0,h=>by simpa using h
 | p,[],k + 1,h=>by simp only [List.drop_nil,RvAt]
 | p,d :: r,k + 1,h=>by
  simp only [RvAt] at h;have:=RvAt.drop k h.2
  grind
theorem RvAt.take {E:En} {b:Nat}:∀ {p:Nat} {cs:List DV} (k:Nat),RvAt E b p cs->RvAt E b p (cs.take k)
 | p,cs,0,h=>by simp only [List.take_zero,RvAt]
 | p,[],k + 1,h=>by simp only [List.take_nil,RvAt]
 | p,d :: r,k + 1,h=>by
  simp only [List.take_succ_cons,RvAt] at h ⊢;exact ⟨h.1,RvAt.take k h.2⟩
def DV.Ri:DV->Prop
 | .ud=>False
 | .bo _=>False
 | _=>True
theorem Rv.cells {E:En}:∀ {d:DV} {v:Value},Rv E d v->d.Ri->RvC E d.cells v.cells.toList
 | .v x,v,h,_=>by
  have h0:=h;simp only [Rv] at h;obtain ⟨rfl,h2⟩:=h;rw [cells_one h2];exact ⟨rvL_one h0,by simpa using h2⟩
 | .agg l,v,h,_=>by
  simp only [Rv] at h;obtain ⟨vs,rfl,h2,h3⟩:=h;simp only [DV.cells,Value.cells];exact ⟨by simpa using h2,by simpa using h3⟩
 | .sl e es tk,v,h,_=>by
  have h0:=h;simp only [Rv] at h;obtain ⟨b,n,cap,rfl,_⟩:=h;exact ⟨rvL_one h0,by simp [Value.cells,Value.oneCell']⟩
 | .pt cs off,v,h,_=>by
  have h0:=h;simp only [Rv] at h;obtain ⟨b,p,rfl,_⟩:=h;exact ⟨rvL_one h0,by simp [Value.cells,Value.oneCell']⟩
 | .loc i off,v,h,_=>by
  have h0:=h;simp only [Rv] at h;obtain ⟨b,_,rfl⟩:=h;exact ⟨rvL_one h0,by simp [Value.cells,Value.oneCell']⟩
 | .el i off,v,h,_=>by
  have h0:=h;simp only [Rv] at h;obtain ⟨b,_,rfl⟩:=h;exact ⟨rvL_one h0,by simp [Value.cells,Value.oneCell']⟩
 | .ms i e off len cap,v,h,_=>by
  have h0:=h;simp only [Rv] at h;obtain ⟨b,a,_,_,rfl,_⟩:=h;exact ⟨rvL_one h0,by simp [Value.cells,Value.oneCell']⟩
 | .fn f a b,v,h,_=>by
  have h0:=h;simp only [Rv] at h;obtain ⟨l,r,rfl,_⟩:=h;exact ⟨rvL_one h0,by simp [Value.cells,Value.oneCell']⟩
 | .rR t x,v,h,_=>by
  have h0:=h;simp only [Rv] at h;obtain ⟨z,rfl,_⟩:=h;exact ⟨rvL_one h0,by simp [Value.cells,Value.oneCell']⟩
 | .ud,v,_,hf=>hf.elim
 | .bo _,v,_,hf=>hf.elim
theorem GS {d:DV} (h:d.cells ≠ []):d.Ri:=by
 cases d<;>first | trivial | exact (h rfl).elim
theorem iG {d:DV} {n:Nat} (h:d.cells.length=n) (hn:n≠0):d.Ri:=GS fun e=>hn (by rw [<- h,e];rfl)
theorem rvC_vL {E:En}:∀ {l:List Value},(∀ v∈l,v.oneCell'=true)->RvC E (vL l) l
 | [],_=>⟨cW E,by simp⟩
 | x :: r,h=>by
  have ih:=rvC_vL (E:=E) (l:=r) (fun v hv=>h v (iS _ hv));exact ⟨rvL_cons (gl (h x (by simp))) ih.1,h⟩
theorem RvAt.yZ:∀ {cs:List DV} {E:En} {b p:Nat},RvAt E b p cs->∃ arr,RvC E cs arr/\∀ (j:Nat) u,arr[j]? = some u->E.c ⟨b,p + j,none⟩=some u
 | [],E,b,p,_=>⟨[],⟨cW E,by simp⟩,by simp⟩
 | d :: r,E,b,p,h=>by
  simp only [RvAt] at h;obtain ⟨⟨v,h1,h2,h3⟩,h4⟩:=h;obtain ⟨arr,h5,h6⟩:=RvAt.yZ h4;refine ⟨v :: arr,⟨rvL_cons h3 h5.1,?_⟩,?_⟩
  ·intro u hu;rcases eU hu with rfl | hu
   ·exact h2
   ·exact h5.2 u hu
  all_goals grind
theorem EL:∀ {cs:List DV} {E:En} {b p:Nat} {arr:List Value},RvC E cs arr->(∀ (j:Nat) u,arr[j]? = some u->E.c ⟨b,p + j,none⟩=some u)->RvAt E b p cs
 | [],E,b,p,arr,_,_=>by simp only [RvAt]
 | d :: r,E,b,p,arr,h,hc=>by
  obtain ⟨h,h1⟩:=h;simp only [RvL] at h;obtain ⟨v,s,rfl,h2,h3⟩:=h;simp only [RvAt];refine ⟨⟨v,by simpa using hc 0 v rfl,h1 v (by simp),h2⟩,EL ⟨h3,fun u hu=>h1 u (iS _ hu)⟩ fun j u hj=>?_⟩;have:=hc (j + 1) u (sU hj)
  grind
theorem RvEs.get:∀ {es:List (List DV)} {E:En} {e b o j:Nat} {cs:List DV},RvEs E e b o es->es[j]? = some cs->cs.length=e/\RvAt E b (o + j * e) cs
 | [],E,e,b,o,j,cs,_,hj=>by simp at hj
 | x :: r,E,e,b,o,0,cs,h,hj=>by
  simp only [RvEs] at h
  grind
 | x :: r,E,e,b,o,j + 1,cs,h,hj=>by
  simp only [RvEs] at h;simp only [List.getElem?_cons_succ] at hj;have:=RvEs.get h.2.2 hj
  grind
theorem Mx:∀ {es:List (List DV)} {E:En} {e b o:Nat},(∀ (j:Nat) cs,es[j]? = some cs->cs.length=e/\RvAt E b (o + j * e) cs)->RvEs E e b o es
 | [],E,e,b,o,_=>by simp only [RvEs]
 | x :: r,E,e,b,o,h=>by
  simp only [RvEs];have h0:=h 0 x rfl;refine ⟨h0.1,by simpa using h0.2,Mx fun j cs hj=>?_⟩;have:=h (j + 1) cs (sU hj)
  grind
theorem Z9:∀ {a b:Value},veq a b=true->a=b/\b.oneCell'=true:=by
 intro a b h;unfold veq at h;split at h<;>first | (cases h;done) | skip
 ·simp at h;subst h;exact ⟨rfl,rfl⟩
 ·simp at h;obtain ⟨rfl,rfl⟩:=h;exact ⟨rfl,rfl⟩
 ·rename_i s t;simp only [bh,decide_eq_true_eq] at h;refine ⟨?_,rfl⟩
  simp_all
 all_goals exact ⟨rfl,rfl⟩
theorem EM:∀ {a b:List Value},veqL a b=true->a=b/\∀ v∈b,v.oneCell'=true
 | [],[],_=>⟨rfl,by simp⟩
 | x :: r,y :: s,h=>by
  simp only [veqL,bh] at h;obtain ⟨rfl,h1⟩:=Z9 h.1;obtain ⟨rfl,h2⟩:=EM h.2
  grind
 | [],_ :: _,h=>by simp [veqL] at h
 | _ :: _,[],h=>by simp [veqL] at h
theorem TT.EN {P:Program}:∀ {T:TT},T.ok P=true->∀ {t:Nat} {e:TE},T.find t=some e->e.ok P t=true
 | .nil,_,t,e,hf=>by cases hf
 | .aj k e' l r,h,t,e,hf=>by
  simp only [TT.ok,bh] at h;simp only [TT.find] at hf;split at hf
  ·simp_all
  ·split at hf
   ·exact TT.EN h.1.2 hf
   ·exact TT.EN h.2 hf
theorem xk {P:Program} {t:TypeId}:∀ {l:List (Nat × Nat)} {i:Nat},okOffs P t i l=true->∀ {f:Nat} {p:Nat × Nat},l[f]? = some p->offOf P t (i + f)=some p
 | [],i,_,f,p,hf=>by simp at hf
 | q :: r,i,h,f,p,hf=>by
  simp only [okOffs,bh,decide_eq_true_eq] at h
  cases f with
  | zero=>simp only [List.getElem?_cons_zero,oI] at hf;subst hf;exact h.1
  | succ f=>
   simp only [List.getElem?_cons_succ] at hf;have:=xk h.2 hf
   grind
section
variable {P:Program} {T:TT} (hT:T.ok P=true)
include hT
theorem te_parts {t:Nat} {e:TE} (hf:T.find t=some e):jF P t=some e.size/\aggOf P t=some e.agg/\zok P t e.agg e.z=true/\(match e.kd with
 | .st GO=>(match P.underlying t with
  | some (.struct fs)=>fs.all (fun f=>(jF P f.type).isSome)
  | _=>false) && okOffs P t 0 GO
 | .sl et s kL=>decide (slOf P t=some (et,s,kL))
 | .ar n s=>decide (arrOf P t=some (n,s))
 | .int k=>match P.underlying t with
  | some (.int k')=>decide (k'=k)
  | _=>false
 | .bool=>match P.underlying t with
  | some .bool=>true
  | _=>false
 | .str=>match P.underlying t with
  | some .string=>true
  | _=>false
 | .ptr et=>match P.underlying t with
  | some (.pointer et')=>decide (et'=et)
  | _=>false
 | .rR=>true
 | .fn=>true
 | .ot=>true)=true:=by
 have:=TT.EN hT hf;simp only [TE.ok,bh,decide_eq_true_eq] at this;exact ⟨this.1.1.1,this.1.1.2,this.1.2,this.2⟩
theorem Ct {t n:Nat} (hf:T.sz t=some n):jF P t=some n:=by
 unfold TT.sz at hf;split at hf
 ·rename_i he;simp only [oI] at hf;subst hf;exact (te_parts hT he).1
 ·cases hf
theorem vl {s f:Nat} {p:Nat × Nat} (hf:T.off s f=some p):offOf P s f=some p:=by
 unfold TT.off at hf;split at hf
 ·rename_i he;have:=(te_parts hT he).2.2.2;simp only [bh] at this;have:=xk this.2 hf;simpa using this
 ·cases hf
theorem fV {t:Nat} {n:Nat} {b:Bool} {et e kL:Nat} {z:List Value} (hf:T.find t=some ⟨n,b,.sl et e kL,z⟩):P.underlying t=some (.slice et)/\∃ i z,P.info? et=some i/\i.zero=some z/\i.size=e/\i.bytes=kL /\ z.cells.size=e:=by
 have:=(te_parts hT hf).2.2.2;simp only [decide_eq_true_eq] at this;unfold slOf at this
 grind
theorem pD {t:Nat} {n m:Nat} {b:Bool} {e:Nat} {z:List Value} (hf:T.find t=some ⟨n,b,.ar m e,z⟩):∃ et,P.underlying t=some (.array m et)/\jF P et=some e:=by
 have:=(te_parts hT hf).2.2.2;simp only [decide_eq_true_eq] at this;unfold arrOf at this;split at this
 all_goals simp_all
theorem yw {t:Nat} {n:Nat} {b:Bool} {k:IntKind} {z:List Value} (hf:T.find t=some ⟨n,b,.int k,z⟩):P.underlying t=some (.int k):=by
 have:=(te_parts hT hf).2.2.2
 grind
theorem GU {t:Nat} {n:Nat} {b:Bool} {z:List Value} (hf:T.find t=some ⟨n,b,.bool,z⟩):P.underlying t=some .bool:=by
 have:=(te_parts hT hf).2.2.2
 grind
theorem qF {t:Nat} {n:Nat} {b:Bool} {z:List Value} (hf:T.find t=some ⟨n,b,.str,z⟩):P.underlying t=some .string:=by
 have:=(te_parts hT hf).2.2.2
 grind
theorem tv {t:Nat} {n:Nat} {b:Bool} {et:Nat} {z:List Value} (hf:T.find t=some ⟨n,b,.ptr et,z⟩):P.underlying t=some (.pointer et):=by
 have:=(te_parts hT hf).2.2.2
 grind
theorem Rj {t:Nat} {e:TE} (hf:T.find t=some e) (h1:e.kd ≠ .rR) (h2:e.kd ≠ .ot) (h3:e.kd ≠ .fn):∃ d,P.underlying t=some d/\∀ m,d ≠ .interface m:=by
 obtain ⟨n,b,kd,z⟩:=e;simp only at h1 h2 h3
 cases kd with
 | st GO=>
  have:=(te_parts hT hf).2.2.2
  grind
 | sl et e kL=>exact ⟨_,(fV hT hf).1,fun m hm=>by cases hm⟩
 | ar n e=>obtain ⟨et,hu,_⟩:=pD hT hf;exact ⟨_,hu,fun m hm=>by cases hm⟩
 | int k=>exact ⟨_,yw hT hf,fun m hm=>by cases hm⟩
 | bool=>exact ⟨_,GU hT hf,fun m hm=>by cases hm⟩
 | str=>exact ⟨_,qF hT hf,fun m hm=>by cases hm⟩
 | ptr et=>exact ⟨_,tv hT hf,fun m hm=>by cases hm⟩
 | fn=>exact (h3 rfl).elim
 | rR=>exact (h1 rfl).elim
 | ot=>exact (h2 rfl).elim
theorem Rk {t:Nat} {e:TE} (hf:T.find t=some e):∃ d,P.underlying t=some d:=by
 have:=(te_parts hT hf).2.1;unfold aggOf at this
 grind
theorem qG {t:Nat} {e:TE} (hf:T.find t=some e):∃ v,Co P t=some v/\v.cells.toList=e.z/\(∀ u∈e.z,u.oneCell'=true)/\(e.agg=true->v = .agg e.z.toArray):=by
 have:=(te_parts hT hf).2.2.1;unfold zok at this;split at this
 ·rename_i cs hz;simp only [bh] at this;obtain ⟨h1,h2⟩:=EM this.2;exact ⟨_,hz,h1,h2,fun _=>by rw [<- h1]⟩
 ·rename_i v hna hz;simp only [bh,Bool.not_eq_true'] at this;obtain ⟨h1,h2⟩:=EM this.2;refine ⟨_,hz,?_,h2,fun h=>by rw [this.1] at h;cases h⟩;rw [<- h1];have hv:v.oneCell'=true:=h2 v (by rw [<- h1];simp);rw [cells_one hv]
 ·cases this
end
theorem oc {P:Program} {T:TT} (hT:T.ok P=true) {E:En} {cs:List DV} {arr:List Value} (hc:RvC E cs arr) {t off b p:Nat} {d:DV} (h:cellsT T t cs off=some d) :
  ∃ v,Rv E d v/\∀ w:World,(∀ (j:Nat) u,arr[j]? = some u->w.cell? ⟨b,p + j,none⟩=some u)->(loadVar t ⟨b,p + off,none⟩).run P w = .ok v w:=by
 unfold cellsT at h;split at h
 ·rename_i n _ _ he;have VT:=(te_parts hT he).2.1;have cK:=(te_parts hT he).1;rw [yX] at h;split at h
  ·rename_i hl;simp only [oI] at h;subst h;have tw:=(hc.drop off).take n;refine ⟨.agg ((arr.drop off).take n).toArray,by simp only [Rv];exact ⟨_,rfl,tw.1,tw.2⟩,fun w hw=>?_⟩;have hlen:((arr.drop off).take n).length=n:=by rw [tw.1.length];exact hl
   have:=run_loadCells_list (P:=P) w ⟨b,p + off,none⟩ ((arr.drop off).take n) (fun j v hj=>by
    rw [Addr.add_lit];rw [cJ] at hj;split at hj
    ·rw [List.getElem?_drop] at hj;have:=hw _ _ hj;rw [show p + off + j=p + (off + j) by omega];exact this
    ·cases hj)
   rw [hlen] at this;simp [loadVar,kZ VT,aX cK,this]
  ·cases h
 ·rename_i _ he;have VT:=(te_parts hT he).2.1;obtain ⟨v,hv,hr⟩:=hc.1.get h;refine ⟨v,hr,fun w hw=>?_⟩;simp [loadVar,kZ VT,hw _ _ hv]
 ·cases h
theorem JX {P:Program} {T:TT} (hT:T.ok P=true) {E:En} {cs:List DV} {arr:List Value} (hc:RvC E cs arr) {t off:Nat} {d:DV} (h:cellsT T t cs off=some d) :
  ∃ v,Rv E d v/\∀ w:World,(part t arr.toArray off).run P w = .ok v w:=by
 unfold cellsT at h;split at h
 ·rename_i n _ _ he;have VT:=(te_parts hT he).2.1;have cK:=(te_parts hT he).1;rw [yX] at h;split at h
  ·rename_i hl;simp only [oI] at h;subst h;have tw:=(hc.drop off).take n;refine ⟨.agg ((arr.drop off).take n).toArray,by simp only [Rv];exact ⟨_,rfl,tw.1,tw.2⟩,fun w=>?_⟩;simp only [part,Sem.run_bind,kZ VT,Result.andThen_ok,if_true,aX cK,Sem.run_pure,Result.ok.injEq,Value.agg.injEq,and_true];apply Array.ext';simp
  ·cases h
 ·rename_i _ he;have VT:=(te_parts hT he).2.1;obtain ⟨v,hv,hr⟩:=hc.1.get h;refine ⟨v,hr,fun w=>?_⟩;simp [part,kZ VT,hv]
 ·cases h
end Dv
end Go.Proofs.YtfdedoiiahbnnaaGreat
namespace Go.Proofs.YtfdedoiiahbnnaaGreat
namespace Dv
open Go Go.RowKit
def isE:Op->Bool
 | .call c=>
  match c.callee with
  | .builtin .len=>false
  | .builtin .max=>false
  | .builtin .min=>false
  | _=>true
 | .store .. | .alloc .. | .box .. | .buildSlice .. | .makeSlice .. | .makeMap .. | .mapUpdate ..=>true
 | _=>false
def isL:Op->Bool
 | .load .. | .convert ..=>true
 | _=>false
structure Rl (E:En) (bx:List (List DV)) (C:World->Prop) (sl:List (Nat × Sl)) (a:Act):Prop where
 tm:∀ i x,get sl i=some x->(Holds a.tmps x.gs->∃ v,a.tmps[i]? = some v/\Rv E x.s v)/\(¬ Holds a.tmps x.gs->a.tmps[i]? = some undef)
 eQ:∀ (i:Nat) cs,bx[i]? = some cs->∃ b arr,E.β[i]? = some b/\RvC E cs arr/\∀ w:World,C w->∀ (j:Nat) u,arr[j]? = some u->w.cell? ⟨b,j,none⟩=some u
 cc:∀ a v,E.c a=some v->∀ w:World,C w->w.cell? a=some v
theorem dJ (k i:Nat) (x:Sl) (r:List (Nat × Sl)):get ((k,x) :: r) i=if k=i then some x else get r i:=by
 simp only [get];split
 ·rename_i h;rw [zIfP (sU h)]
 ·rename_i h;rw [af (fun e=>by rw [e,Nat.beq_refl] at h;cases h)]
theorem bi (tmps:Array Value):Holds tmps []:=fun p hp=>by cases hp
theorem lf {tmps:Array Value} {d:Nat} {b:Bool} {G:List (Nat × Bool)} (h1:tmps[d]? = some (.bool b)) (h2:Holds tmps G):Holds tmps ((d,b) :: G):=by
 intro p hp
 cases hp with
 | head=>exact h1
 | tail _ hp=>exact h2 p hp
theorem vm {tmps:Array Value} {G:List (Nat × Bool)} (hG:Holds tmps G):∀ {gs:List (Nat × Bool)},subG gs G=true->Holds tmps gs
 | [],_=>fun p hp=>by cases hp
 | q :: r,h=>by
  simp only [subG,bh] at h;intro p hp
  cases hp with
  | head=>exact hG q (by simpa using h.1)
  | tail _ hp=>exact vm hG h.2 p hp
theorem lg {E:En} {b:Bool} {v:Value} (h:Rv E (.v (.bool b)) v):v = .bool b:=by
 unfold Rv at h;exact h.1
theorem cH {E:En} {k:IntKind} {n:Int} {v:Value} (h:Rv E (.v (.int k n)) v):v = .int k n:=by
 unfold Rv at h;exact h.1
theorem bN {E:En} {x v:Value} (h:Rv E (.v x) v):v=x:=by
 unfold Rv at h;exact h.1
section
variable {P:Program} {T:TT} {E:En} {C:World->Prop} {st:St} {a:Act}
theorem cf (h:Rl E st.bx C st.sl a) {G:List (Nat × Bool)} (hG:Holds a.tmps G) {x:Operand} {d:DV} (hx:rv st G x=some d):Rv E d (a.eval x):=by
 cases x with
 | tmp t=>
  simp only [rv] at hx;split at hx
  ·rename_i gs s' hg;split at hx
   ·rename_i hs;simp only [oI] at hx;subst hx;obtain ⟨v,h1,h2⟩:=(h.tm t _ hg).1 (vm hG hs);have:a.eval (.tmp t)=v:=by simp [Act.eval,Array.getD_eq_getD_getElem?,h1]
    rw [this];exact h2
   ·cases hx
  ·cases hx
 | const v=>
  simp only [rv] at hx;split at hx
  ·rename_i hv;simp only [oI] at hx;subst hx;exact gl hv
  ·cases hx
 | global g=>simp only [rv,oI] at hx;subst hx;exact gl rfl
 | func f=>simp only [rv,oI] at hx;subst hx;unfold Rv;exact ⟨[],[],rfl,cW E,cW E⟩
theorem jG {op:BinOp} {t:TypeId} {x y:Operand} {u v:Value} (w:World) (h:∀ l,u ≠ .agg l) (h2:∀ t' z,u ≠ .iface t' z) (h3:u ≠ .nilIface) (h4:∀ l,v ≠ .agg l) (h5:∀ t' z,v ≠ .iface t' z) (h6:v ≠ .nilIface):(eqGuard op t x y u v).run P w = .ok () w:=by
 cases op<;>first
  | rfl
  | (cases u<;>first | (exact (h _ rfl).elim) | (exact (h2 _ _ rfl).elim) | (exact (h3 rfl).elim) | (cases v<;>first | rfl | (exact (h4 _ rfl).elim) | (exact (h5 _ _ rfl).elim) | (exact (h6 rfl).elim)))
theorem OE (hT:T.ok P=true) {op:BinOp} {t:TypeId} {s u y:DV} {x z:Value} (h:binD T op t s u=some y) (h1:Rv E s x) (h2:Rv E u z) :
  ∃ v,Rv E y v/\∀ (w:World) (o1 o2:Operand),(eqGuard op t o1 o2 x z).run P w = .ok () w/\(binOp op t x z).run P w = .ok v w:=by
 unfold binD at h;split at h
 ·rename_i k p k' q;have e1:=bN h1;have e2:=bN h2;subst e1 e2;split at h
  ·rename_i hk;subst hk
   cases hv:binI op k p q with
   | none=>simp [OD,hv] at h
   | some v=>
    simp only [OD,hv,oI] at h;subst h;refine ⟨v,gl ?_,fun w o1 o2=>⟨jG w (by simp) (by simp) (by simp) (by simp) (by simp) (by simp),Ra hv t w⟩⟩;cases op<;>simp [binI] at hv<;>first | (subst hv;rfl) | (obtain ⟨n,_,rfl⟩:=hv;rfl)
  ·cases h
 ·rename_i p q;have e1:=bN h1;have e2:=bN h2;subst e1 e2
  cases hv:binS op p q with
  | none=>simp [OD,hv] at h
  | some v=>
   simp only [OD,hv,oI] at h;subst h;refine ⟨v,gl ?_,fun w o1 o2=>⟨jG w (by simp) (by simp) (by simp) (by simp) (by simp) (by simp),Rb hv t w⟩⟩;cases op<;>simp [binS] at hv<;>subst hv<;>rfl
 ·have e1:=bN h1;have e2:=bN h2;subst e1 e2;split at h
  ·rename_i hf;have hu:=GU hT hf;split at h<;>first | (cases h;done) | skip
   all_goals
    simp only [oI] at h;subst h;refine ⟨_,gl rfl,fun w o1 o2=>⟨jG w (by simp) (by simp) (by simp) (by simp) (by simp) (by simp),?_⟩⟩;simp [binOp,JW hu]
  ·cases h
 ·have e1:=bN h1;have e2:=bN h2;subst e1 e2;split at h
  ·rename_i hf;have hu:=tv hT hf;split at h<;>first | (cases h;done) | skip
   all_goals
    simp only [oI] at h;subst h;refine ⟨_,gl rfl,fun w o1 o2=>⟨jG w (by simp) (by simp) (by simp) (by simp) (by simp) (by simp),?_⟩⟩;simp [binOp,vi hu]
  ·cases h
 ·have e2:=bN h2;unfold Rv at h1;obtain ⟨b,p,rfl,_⟩:=h1;subst e2;split at h
  ·rename_i hf;have hu:=tv hT hf;split at h<;>first | (cases h;done) | skip
   all_goals
    simp only [oI] at h;subst h;refine ⟨_,gl rfl,fun w o1 o2=>⟨jG w (by simp) (by simp) (by simp) (by simp) (by simp) (by simp),?_⟩⟩;simp [binOp,vi hu]
  ·cases h
 ·have e2:=bN h2;unfold Rv at h1;obtain ⟨b,_,rfl⟩:=h1;subst e2;split at h
  ·rename_i hf;have hu:=tv hT hf;split at h<;>first | (cases h;done) | skip
   all_goals
    simp only [oI] at h;subst h;refine ⟨_,gl rfl,fun w o1 o2=>⟨jG w (by simp) (by simp) (by simp) (by simp) (by simp) (by simp),?_⟩⟩;simp [binOp,vi hu]
  ·cases h
 ·cases h
theorem y7 (hT:T.ok P=true) (h:Rl E st.bx C st.sl a) {G:List (Nat × Bool)} (hG:Holds a.tmps G) {t:TypeId} (pl:Nat->Option (Nat × Nat))
  (jZ:∀ f o ft n,offOf P t f=some (o,ft)->jF P ft=some n->pl f=some (o,n)) :
  ∀ (parts:List (Nat × Operand)) (cs:List DV) (arr:List Value) (y:DV),RvC E cs arr->fillT T t st G cs parts=some y ->
   ∃ cs' arr',Instr.fill pl arr.toArray (parts.map fun p=>(p.1,a.eval p.2))=some (List.toArray arr')/\y = .agg cs' /\ RvC E cs' arr'
 | [],cs,arr,y,hc,hy=>by
  simp only [fillT,oI] at hy;subst hy;exact ⟨cs,arr,rfl,rfl,hc⟩
 | (f,x) :: r,cs,arr,y,hc,hy=>by
  simp only [fillT] at hy;split at hy
  ·rename_i off ft d ho hx;split at hy
   ·rename_i n hn;split at hy
    ·rename_i y8;simp only [bh,Nat.beq_eq,Nat.ble_eq] at y8;rw [yv] at hy;have My:=vl hT ho;have Yo:=Ct hT hn;obtain ⟨_,_,n1,_,_,_,_,hs1,BM⟩:=td My;rw [Yo] at hs1;simp only [oI] at hs1;subst hs1;have hv:=cf h hG hx;have hvc:=hv.cells (iG y8.1 BM);have hl:(a.eval x).cells.toList.length=n:=by rw [hvc.1.length];exact y8.1
     have hla:arr.length=cs.length:=hc.1.length
     have tw:RvC E (cs.take off ++ d.cells ++ cs.drop (off + d.cells.length)) (arr.take off ++ (a.eval x).cells.toList ++ arr.drop (off + n)):=by
      rw [y8.1];exact ((hc.take off).append hvc).append (hc.drop _)
     obtain ⟨cs',arr',mV,hys,QN⟩:=y7 hT h hG pl jZ r _ _ y tw hy;refine ⟨cs',arr',?_,hys,QN⟩;simp only [List.map_cons,Instr.fill,jZ f off ft n My Yo];have hs:(a.eval x).cells.size=n:=sU hl;rw [af (by simp [hs,hla,y8.2])];have:=rQ off (a.eval x) arr.toArray (by rw [hl];simp;omega);rw [hl] at this;rw [this];simpa using mV
    ·cases hy
   ·cases hy
  ·cases hy
theorem tz (h:Rl E st.bx C st.sl a) {G:List (Nat × Bool)} (hG:Holds a.tmps G) {e:Nat} :
  ∀ (parts:List (Nat × Operand)) (cs:List DV) (arr:List Value) (y:DV),RvC E cs arr->fillAr e st G cs parts=some y ->
   ∃ cs' arr',Instr.fill (fun i=>some (i * e,e)) arr.toArray (parts.map fun p=>(p.1,a.eval p.2))=some (List.toArray arr')/\y = .agg cs' /\ RvC E cs' arr'
 | [],cs,arr,y,hc,hy=>by
  simp only [fillAr,oI] at hy;subst hy;exact ⟨cs,arr,rfl,rfl,hc⟩
 | (f,x) :: r,cs,arr,y,hc,hy=>by
  simp only [fillAr] at hy;split at hy
  ·rename_i d hx;split at hy
   ·rename_i y8;simp only [bh,Nat.beq_eq,Nat.ble_eq,Nat.blt_eq] at y8;rw [yv] at hy;have hv:=cf h hG hx;have hvc:=hv.cells (iG y8.1.2 (by omega));have hl:(a.eval x).cells.toList.length=e:=by rw [hvc.1.length];exact y8.1.2
    have hla:arr.length=cs.length:=hc.1.length
    have tw:RvC E (cs.take (f * e) ++ d.cells ++ cs.drop (f * e + d.cells.length)) (arr.take (f * e) ++ (a.eval x).cells.toList ++ arr.drop (f * e + e)):=by
     rw [y8.1.2];exact ((hc.take (f * e)).append hvc).append (hc.drop _)
    obtain ⟨cs',arr',mV,hys,QN⟩:=tz h hG r _ _ y tw hy;refine ⟨cs',arr',?_,hys,QN⟩;simp only [List.map_cons,Instr.fill];have hs:(a.eval x).cells.size=e:=sU hl;rw [af (by simp [hs,hla,y8.2])];have:=rQ (f * e) (a.eval x) arr.toArray (by rw [hl];simp;omega);rw [hl] at this;rw [this];simpa using mV
   ·cases hy
  ·cases hy
theorem ik (h:Rl E st.bx C st.sl a) {G:List (Nat × Bool)} (hG:Holds a.tmps G):∀ (l:List Operand) (ds:List DV),argsV st G l=some ds->RvL E ds (l.map a.eval)
 | [],ds,hv=>by simp only [argsV,oI] at hv;subst hv;exact cW E
 | x :: r,ds,hv=>by
  simp only [argsV] at hv;split at hv
  ·rename_i d l hx hl;simp only [oI] at hv;subst hv;exact rvL_cons (cf h hG hx) (ik h hG r l hl)
  ·cases hv
def ady (P:Program) (C:World->Prop) (E:En) (a:Act) (o:Oper) (y:DV):Prop:=
 ∃ v,Rv E y v/\∀ w:World,(isL o.op=true->C w)->(execOp a.eval o).run P w = .ok (.value v) w
theorem gv (hT:T.ok P=true) (h:Rl E st.bx C st.sl a) {G:List (Nat × Bool)} (hG:Holds a.tmps G) {o:Oper} {y:DV} (hy:pureT P T st G o.op=some y):ady P C E a o y:=by
 obtain ⟨dst,op,ty,pos,after,gu⟩:=o;cases op<;>simp only [pureT] at hy<;>try (cases hy;done)
 case move x=>exact ⟨_,cf h hG hy,fun w _=>by simp [execOp]⟩
 case assign x=>exact ⟨_,cf h hG hy,fun w _=>by simp [execOp]⟩
 case pick c p q=>
  split at hy
  ·rename_i d;split at hy
   ·rename_i x da db hc ha hb;simp only [oI] at hy;subst hy;have e1:=lg (cf h hG hc)
    have hd:a.tmps[d]? = some (.bool x):=by
     simp only [rv] at hc;split at hc
     ·rename_i gs s' hg;split at hc
      ·rename_i hs;simp only [oI] at hc;subst hc;obtain ⟨v,h1,h2⟩:=(h.tm d _ hg).1 (vm hG hs);rw [h1,lg h2]
      ·cases hc
     ·cases hc
    have hT1:pickD true da db=da:=by unfold pickD;split<;>rfl
    have hF1:pickD false da db=db:=by unfold pickD;split<;>rfl
    cases x
    ·exact ⟨_,by rw [hF1];exact cf h (lf hd hG) hb,fun w _=>by simp [execOp,e1,asBool]⟩
    ·exact ⟨_,by rw [hT1];exact cf h (lf hd hG) ha,fun w _=>by simp [execOp,e1,asBool]⟩
   ·cases hy
  ·cases hy
 case binOp op t x z t'=>
  split at hy
  ·rename_i s u hx hz;obtain ⟨v,hv,hr⟩:=OE (P:=P) hT hy (cf h hG hx) (cf h hG hz);exact ⟨v,hv,fun w _=>by simp only [execOp,Sem.run_bind,(hr w x z).1,(hr w x z).2,Result.andThen_ok,Sem.run_pure]⟩
  ·cases hy
 case unOp op t x=>
  split at hy
  ·rename_i b hx;split at hy
   ·simp only [oI] at hy;subst hy;have e1:=lg (cf h hG hx);exact ⟨_,gl rfl,fun w _=>by simp [execOp,e1,Op.unary]⟩
   ·cases hy
  ·rename_i k n hx;split at hy
   ·simp only [oI] at hy;subst hy;have e1:=cH (cf h hG hx);exact ⟨_,gl rfl,fun w _=>by simp [execOp,e1,Op.unary,Op.intArith]⟩
   ·cases hy
  ·cases hy
 case fieldAddr s x f=>
  split at hy
  ·rename_i o _ i off ho hx;simp only [oI] at hy;subst hy;have e1:=cf h hG hx;unfold Rv at e1;obtain ⟨b,hb,e1⟩:=e1;refine ⟨.pointer (some ⟨b,off + o,none⟩),by unfold Rv;exact ⟨b,hb,rfl⟩,fun w _=>?_⟩;simp only [execOp,e1,Sem.run_bind,kz (vl hT ho),Result.andThen_ok,Sem.run_pure]
  ·rename_i o _ cs off ho hx;simp only [oI] at hy;subst hy;have e1:=cf h hG hx;unfold Rv at e1;obtain ⟨b,p,e1,hb⟩:=e1;refine ⟨.pointer (some ⟨b,p + (off + o),none⟩),by unfold Rv;exact ⟨b,p,rfl,hb⟩,fun w _=>?_⟩;simp only [execOp,e1,Sem.run_bind,kz (vl hT ho),Result.andThen_ok,Sem.run_pure,Nat.add_assoc]
  ·rename_i o _ i off ho hx;simp only [oI] at hy;subst hy;have e1:=cf h hG hx;unfold Rv at e1;obtain ⟨b,hb,e1⟩:=e1;refine ⟨.pointer (some ⟨b,off + o,none⟩),by unfold Rv;exact ⟨b,hb,rfl⟩,fun w _=>?_⟩;simp only [execOp,e1,Sem.run_bind,kz (vl hT ho),Result.andThen_ok,Sem.run_pure]
  ·cases hy
 case load t x=>
  split at hy
  ·rename_i i off hx;split at hy
   ·rename_i cs cx;have e1:=cf h hG hx;unfold Rv at e1;obtain ⟨b,hb,e1⟩:=e1;obtain ⟨b',arr,fj,hc,hw⟩:=h.eQ i cs cx;rw [hb] at fj;simp only [oI] at fj;subst fj;obtain ⟨v,hv,hl⟩:=oc hT hc (b:=b) (p:=0) hy;refine ⟨v,hv,fun w hC=>?_⟩;have hl:=hl w (fun j u hj=>by rw [Nat.zero_add];exact hw w (hC rfl) j u hj);rw [Nat.zero_add] at hl;simp only [execOp,e1,Sem.run_bind,Instr.loadAt,Instr.sureAddr,Sem.run_pure,Result.andThen_ok,hl]
   ·cases hy
  ·rename_i cs off hx;have e1:=cf h hG hx;unfold Rv at e1;obtain ⟨b,p,e1,hb⟩:=e1;obtain ⟨arr,hc,hm⟩:=hb.yZ;obtain ⟨v,hv,hl⟩:=oc hT hc (b:=b) (p:=p) hy;refine ⟨v,Rv.mono (Ext.un E) hv,fun w hC=>?_⟩;have hl:=hl w (fun j u hj=>h.cc _ _ (hm j u hj) w (hC rfl));simp only [execOp,e1,Sem.run_bind,Instr.loadAt,Instr.sureAddr,Sem.run_pure,Result.andThen_ok,hl]
  ·cases hy
 case extract x i=>
  split at hy
  ·rename_i vs hx;have e1:=cf h hG hx;unfold Rv at e1;obtain ⟨l,e1,hl⟩:=e1;obtain ⟨v,hv,hr⟩:=hl.get hy;refine ⟨v,hr,fun w _=>?_⟩;simp [execOp,e1,Instr.extract,hv]
  ·cases hy
 case field t x f=>
  split at hy
  ·rename_i off ft cs ho hx;have e1:=cf h hG hx;unfold Rv at e1;obtain ⟨arr,e1,hc⟩:=e1;obtain ⟨v,hv,hp⟩:=JX hT ⟨hc.1,hc.2⟩ hy;refine ⟨v,hv,fun w _=>?_⟩;obtain ⟨fs,x',n,hu,hf,My,ht,hs,hn⟩:=td (vl hT ho);subst My ht;simp only [execOp,e1,Instr.field,Sem.run_bind,run_underlying hu,Result.andThen_ok,hf,asAgg,Sem.run_pure,hp w]
  ·cases hy
 case build t parts=>
  split at hy
  ·rename_i n b GO z hf;obtain ⟨zv,hz,OG,hz1,_⟩:=qG hT hf;have hpt:=(te_parts hT hf).2.2.2;simp only [bh] at hpt;have fW:=hpt.1;split at fW
   ·rename_i fs hd;have hm:=fun w=>yU (P:=P) (w:=w) fs.toList (sU fW)
    have nY:∀ w,(fs.mapM fun f=>(do pure (f.offset,<- sizeOf f.type):Sem (Nat × Nat))).run P w = .ok (fs.toList.map fun f=>(f.offset,(jF P f.type).getD 0)).toArray w:=by
     intro w;rw [Array.mapM_eq_mapM_toList,Sem.run_map,hm w];all_goals rfl
    obtain ⟨cs',arr',mV,rfl,QN⟩:=y7 hT h hG (t:=t) (fun i=>((fs.toList.map fun f=>(f.offset,(jF P f.type).getD 0)).toArray)[i]?) (by
     intro f o ft n ho hn;obtain ⟨fs',x,n',hu',hf,hxo,hxt,hs,_⟩:=td ho;rw [hd] at hu';simp only [oI,TypeDesc.struct.injEq] at hu';subst hu';subst hxt hxo
     simp [hf,hn]) parts.toList _ z y (rvC_vL hz1) hy
    refine ⟨.agg arr'.toArray,by unfold Rv;exact ⟨arr',rfl,QN.1,QN.2⟩,fun w _=>?_⟩;have e:(parts.map fun (x:Nat × Operand)=>(x.1,a.eval x.2)).toList=parts.toList.map fun p=>(p.1,a.eval p.2):=by simp
    have aab:zv.cells=z.toArray:=by apply Array.ext';simpa using OG
    have hb:(Instr.build t (parts.map fun (i,x)=>(i,a.eval x))).run P w = .ok (.agg arr'.toArray) w:=by
     simp only [Instr.build,Sem.run_bind,vg hz,Result.andThen_ok,run_underlying hd,nY w,e,aab];rw [mV];simp
    simp only [execOp,Sem.run_bind,hb,Result.andThen_ok,Sem.run_pure]
   ·cases fW
  ·rename_i n b m e z hf;obtain ⟨zv,hz,OG,hz1,_⟩:=qG hT hf;obtain ⟨et,hu,cK⟩:=pD hT hf;obtain ⟨cs',arr',mV,rfl,QN⟩:=tz h hG parts.toList _ z y (rvC_vL hz1) hy;refine ⟨.agg arr'.toArray,by unfold Rv;exact ⟨arr',rfl,QN.1,QN.2⟩,fun w _=>?_⟩;have e1:(parts.map fun (x:Nat × Operand)=>(x.1,a.eval x.2)).toList=parts.toList.map fun p=>(p.1,a.eval p.2):=by simp
   have aab:zv.cells=z.toArray:=by apply Array.ext';simpa using OG
   have hb:(Instr.build t (parts.map fun (i,x)=>(i,a.eval x))).run P w = .ok (.agg arr'.toArray) w:=by
    simp only [Instr.build,Sem.run_bind,vg hz,Result.andThen_ok,run_underlying hu,aX cK,e1,aab];rw [mV];simp
   simp only [execOp,Sem.run_bind,hb,Result.andThen_ok,Sem.run_pure]
  ·cases hy
 case makeFunc fn first captured=>
  split at hy
  ·rename_i f;split at hy
   ·rename_i l r hl hr;simp only [oI] at hy;subst hy;have e1:=ik h hG _ _ hl;have e2:=ik h hG _ _ hr;refine ⟨.func (.func f) (first.map a.eval) (captured.map a.eval),by unfold Rv;exact ⟨_,_,by congr 1<;>(apply Array.ext';simp),e1,e2⟩,fun w _=>?_⟩;simp [execOp,Instr.makeFunc]
   ·cases hy
  ·cases hy
 case makeInterface t x=>
  split at hy
  ·rename_i d n b kd z hx hf
   have bF:kd ≠ .rR/\kd ≠ .ot/\kd ≠ .fn/\y = .rR t d:=by
    split at hy<;>first | (cases hy;done) | skip
    rename_i h1 h2 h3;simp only [oI] at hy;exact ⟨h1,h2,h3,hy.symm⟩
   obtain ⟨h1,h2,h3,rfl⟩:=bF;obtain ⟨ud,hu,hni⟩:=Rj hT hf h1 h2 h3;have e1:=cf h hG hx;refine ⟨.iface t (a.eval x),by unfold Rv;exact ⟨_,rfl,e1⟩,fun w _=>?_⟩
   have hr:(Instr.makeInterface t (a.eval x)).run P w = .ok (.iface t (a.eval x)) w:=by
    cases ud<;>first | (exact (hni _ rfl).elim) | simp [Instr.makeInterface,run_underlying hu]
   simp only [execOp,Sem.run_bind,hr,Result.andThen_ok,Sem.run_pure]
  ·cases hy
 case nilCheck x=>
  split at hy<;>first | (cases hy;done) | (simp only [oI] at hy;subst hy)
  ·rename_i i off hx;have e1:=cf h hG hx;have e0:=e1;unfold Rv at e1;obtain ⟨b,hb,e1⟩:=e1;exact ⟨_,e0,fun w _=>by simp [execOp,e1]⟩
  ·rename_i i off hx;have e1:=cf h hG hx;have e0:=e1;unfold Rv at e1;obtain ⟨b,hb,e1⟩:=e1;exact ⟨_,e0,fun w _=>by simp [execOp,e1]⟩
  ·rename_i cs off hx;have e1:=cf h hG hx;have e0:=e1;unfold Rv at e1;obtain ⟨b,p,e1,hb⟩:=e1;exact ⟨_,e0,fun w _=>by simp [execOp,e1]⟩
  ·rename_i ad hx;have e1:=cf h hG hx;have e0:=e1;exact ⟨_,e0,fun w _=>by simp [execOp,bN e1]⟩
  ·rename_i f l r hx;have e1:=cf h hG hx;have e0:=e1;unfold Rv at e1;obtain ⟨l',r',e1,_⟩:=e1;exact ⟨_,e0,fun w _=>by simp [execOp,e1]⟩
 case convert s d x=>
  split at hy
  ·rename_i k' n te1 n1 b1 k z hx hs hd;simp only [oI] at hy;subst hy;have e1:=cH (cf h hG hx);obtain ⟨ds,hs⟩:=Rk hT hs;have hd:=yw hT hd;refine ⟨_,gl rfl,fun w _=>?_⟩
   have hr:(convert s d (.int k' n)).run P w = .ok (.int k (k.wrap n)) w:=by
    simp [convert,run_underlying hs,run_underlying hd,Conv.intToInt]
   simp only [execOp,e1,Sem.run_bind,hr,Result.andThen_ok,Sem.run_pure]
  ·cases hy
 case call c=>
  obtain ⟨callee,args,argTypes⟩:=c;simp only at hy;split at hy
  ·rename_i hc;split at hy
   ·rename_i x t hargs aac;have ea:args = #[x]:=Array.ext' (sU hargs);have et:argTypes = #[t]:=Array.ext' (sU aac);subst ea et;split at hy
    ·rename_i e es tk n b et e' kL z hx hf;simp only [oI] at hy;subst hy;have e1:=cf h hG hx;unfold Rv at e1;obtain ⟨bb,n',cap,e1,⟨rfl,_⟩,_⟩:=e1;exact ⟨_,gl rfl,fun w _=>by simp [execOp,resolve,invoke,builtin,e1,vj (fV hT hf).1]⟩
    ·rename_i i e off n cap n1 b et e' kL z hx hf;simp only [oI] at hy;subst hy;have e1:=cf h hG hx;unfold Rv at e1;obtain ⟨bb,aa,_,_,e1,_⟩:=e1;exact ⟨_,gl rfl,fun w _=>by simp [execOp,resolve,invoke,builtin,e1,vj (fV hT hf).1]⟩
    ·rename_i ad n cap n1 b et e' kL z hx hf;simp only [oI] at hy;subst hy;have e1:=bN (cf h hG hx);exact ⟨_,gl rfl,fun w _=>by simp [execOp,resolve,invoke,builtin,e1,vj (fV hT hf).1]⟩
    ·rename_i s n1 b z hx hf;simp only [oI] at hy;subst hy;have e1:=bN (cf h hG hx);exact ⟨_,gl rfl,fun w _=>by simp [execOp,resolve,invoke,builtin,e1,GN (qF hT hf)]⟩
    ·cases hy
   ·cases hy
  ·rename_i hc;split at hy
   ·rename_i x z hargs;have ea:args = #[x,z]:=Array.ext' (sU hargs);split at hy
    ·rename_i k p k' q hx hz;simp only [oI] at hy;subst hy;have e1:=cH (cf h hG hx);have e2:=cH (cf h hG hz);subst ea
     have e3:(if q > p then q else p)=max p q:=by
      simp only [Int.max_def];split<;>split<;>omega
     exact ⟨_,gl rfl,fun w _=>by simp [execOp,resolve,invoke,builtin,e1,e2,Builtin.max_,Builtin.max2,e3]⟩
    ·cases hy
   ·cases hy
  ·rename_i hc;split at hy
   ·rename_i x z hargs;have ea:args = #[x,z]:=Array.ext' (sU hargs);split at hy
    ·rename_i k p k' q hx hz;simp only [oI] at hy;subst hy;have e1:=cH (cf h hG hx);have e2:=cH (cf h hG hz);subst ea
     have e3:(if q < p then q else p)=min p q:=by
      simp only [Int.min_def];split<;>split<;>omega
     exact ⟨_,gl rfl,fun w _=>by simp [execOp,resolve,invoke,builtin,e1,e2,Builtin.min_,Builtin.min2,e3]⟩
    ·cases hy
   ·cases hy
  ·cases hy
end
end Dv
end Go.Proofs.YtfdedoiiahbnnaaGreat
namespace Go.Proofs.YtfdedoiiahbnnaaGreat
namespace Dv
open Go Go.RowKit
theorem oe {d:Nat}:∀ {sl:List (Nat × Sl)},noMen d sl=true->∀ i x,get sl i=some x->∀ p∈x.gs,p.1≠d
 | [],_,i,x,hx=>by simp [get] at hx
 | (k,y) :: r,h,i,x,hx=>by
  simp only [noMen] at h
  have h2:noMen d r=true/\∀ p∈y.gs,p.1≠d:=by
   split at h
   ·rename_i hg;exact ⟨h,by rw [hg];simp⟩
   ·rename_i g gs hg;simp only [bh] at h;refine ⟨h.2,?_⟩;rw [hg];intro p hp;have:=(List.all_eq_true.1 h.1) p hp;intro e;rw [e] at this;simp at this
  simp only [dJ] at hx;split at hx
  ·grind
  ·exact oe h2.1 i x hx
theorem mW {tmps:Array Value} {d:Nat} {v:Value} {gs:List (Nat × Bool)} (h:∀ p∈gs,p.1≠d):Holds (tmps.setIfInBounds d v) gs↔Holds tmps gs:=by
 constructor
 ·intro hh p hp;have:=hh p hp
  grind
 ·intro hh p hp;rw [Array.getElem?_setIfInBounds_ne (Ne.symm (h p hp))];exact hh p hp
section
variable {X:Ctx} {E:En} {st:St} {a:Act} {w:World}
theorem Rel.rl (h:Rel X E st a w):Rl E st.bx (fun w'=>w'=w) st.sl a where
 tm:=h.tm
 eQ:=fun i cs hi=>by
  obtain ⟨b,ty,arr,hb,hw,hc⟩:=h.env.eQ i cs hi;exact ⟨b,arr,hb,hc,fun w' hw' j u hj=>by rw [hw',cO hw];simpa using hj⟩
 cc:=fun x v hx w' hw'=>by rw [hw'];exact h.env.sub x v hx
theorem tC (h:Rel X E st a w) {dst:Option Nat} (hd:fU X.nt st.sl dst=true) (gs:List (Nat × Bool)) (s:DV) (v:Value) (Gx:∀ d,dst=some d->∀ p∈gs,p.1≠d)
  (yx:Holds a.tmps gs->Rv E s v) (JY:¬ Holds a.tmps gs->v=undef):Rel X E (st.put dst ⟨gs,s⟩) (a.put dst v) w where
 env:=by have:=h.env;cases dst<;>simpa [St.put] using this
 tk:=by have:=h.tk;cases dst<;>simpa [St.put] using this
 sz:=by have:=h.sz;cases dst<;>simpa [Act.put] using this
 tm:=by
  intro i y hy
  cases dst with
  | none=>exact h.tm i y hy
  | some d=>
   simp only [fU,bh,Nat.blt_eq] at hd;simp only [St.put,dJ] at hy;simp only [Act.put];split at hy
   ·rename_i JG;subst JG;simp only [oI] at hy;subst hy;have h1:=h.sz;rw [mW (Gx d rfl)]
    grind
   ·rename_i JG;rw [Array.getElem?_setIfInBounds_ne JG,mW (oe hd.2 i y hy)];exact h.tm i y hy
 df:=by have:=h.df;cases dst<;>simpa [Act.put] using this
 nw:=h.nw
 fr:=h.fr
 sh:=h.sh
 bt:=h.bt
theorem bu (h:Rel X E st a w) {dst:Option Nat} (hd:fU X.nt st.sl dst=true) (s:DV) (v:Value) (hv:Rv E s v):Rel X E (st.put dst ⟨[],s⟩) (a.put dst v) w:=
 tC h hd [] s v (fun _ _ p hp=>by cases hp) (fun _=>hv) (fun hn=>(hn (bi _)).elim)
theorem get_map (d:Nat) (b:Bool):∀ (sl:List (Nat × Sl)) (i:Nat),get (sl.map (b6 d b)) i=(get sl i).map fun x=>(b6 d b (i,x)).2
 | [],i=>rfl
 | (k,x) :: r,i=>by
  have hk:(b6 d b (k,x)).1=k:=tu d b k x;simp only [List.map_cons];rw [show b6 d b (k,x)=(k,(b6 d b (k,x)).2) from Prod.ext hk rfl];rw [dJ,dJ];split
  ·rename_i xl;subst xl;rfl
  ·exact get_map d b r i
theorem l8 (h:Rel X E st a w) {d:Nat} {b:Bool} (hd:a.tmps[d]? = some (.bool b)):Rel X E (st.resolve d b) a w where
 env:=h.env
 tk:=h.tk
 sz:=h.sz
 tm:=by
  intro i y hy;simp only [St.resolve,get_map,Option.map_eq_some_iff] at hy;obtain ⟨x,hx,rfl⟩:=hy;have ht:=h.tm i x hx;unfold b6;split
  ·rename_i hi;have o0:i=d:=sU hi;subst o0;exact ⟨fun _=>⟨_,hd,gl rfl⟩,fun hn=>(hn (bi _)).elim⟩
  ·split
   ·rename_i hc
    have hn:¬ Holds a.tmps x.gs:=by
     intro hh;have:=hh (d,!b) (sU hc)
     grind
    exact ⟨fun _=>⟨_,ht.2 hn,xj E⟩,fun hn=>(hn (bi _)).elim⟩
   ·have he:Holds a.tmps (x.gs.filter fun p=>p != (d,b))↔Holds a.tmps x.gs:=by
     constructor
     ·intro hh p hp;by_cases QO:p=(d,b)
      ·subst QO;exact hd
      ·exact hh p (by simp [List.mem_filter,hp,QO])
     ·intro hh p hp;exact hh p (List.mem_filter.1 hp).1
    simp only [he];exact ht
 df:=h.df
 nw:=h.nw
 fr:=h.fr
 sh:=h.sh
 bt:=h.bt
theorem Cu (d e:Nat) (b:Bool):∀ {sl:List (Nat × Sl)},noMen d sl=true->noMen d (sl.map (b6 e b))=true
 | [],_=>rfl
 | (k,y) :: r,h=>by
  have h2:noMen d r=true/\∀ p∈y.gs,(!Nat.beq p.1 d)=true:=by
   simp only [noMen] at h
   grind
  have ih:=Cu d e b h2.1
  have h3:∀ p∈(b6 e b (k,y)).2.gs,(!Nat.beq p.1 d)=true:=by
   unfold b6
   grind
  simp only [List.map_cons];rw [show b6 e b (k,y)=((b6 e b (k,y)).1,(b6 e b (k,y)).2) from rfl];simp only [noMen]
  grind
theorem l9 {nt d:Nat} {b:Bool} {dst:Option Nat} (h:fU nt st.sl dst=true):fU nt (st.resolve d b).sl dst=true:=by
 cases dst with
 | none=>rfl
 | some e=>
  simp only [fU,bh] at h ⊢;exact ⟨h.1,Cu e d b h.2⟩
theorem dF (h:Rel X E st a w) {E':En} {Ym:List (List DV)} {Zi:List TkE} {w':World} (hx:Ext E E') (he:Env E' Ym w') (ht:E'.tk=Zi) (hn:Nw X.E0 E' X.w0) (hf:tg X.E0.S X.w0 w') (hs:X.still=true->∃ q,w'=X.w0.drewN q) (hbt:rj X.bt E'.β w'):Rel X E' ⟨st.sl,Ym,Zi⟩ a w' where
 env:=he
 tk:=ht
 sz:=h.sz
 tm:=fun i x hi=>by
  have:=h.tm i x hi;refine ⟨fun hh=>?_,this.2⟩;obtain ⟨v,h1,h2⟩:=this.1 hh;exact ⟨v,h1,Rv.mono hx h2⟩
 df:=h.df
 nw:=hn
 fr:=hf
 sh:=hs
 bt:=hbt
theorem rj.iU {bt:List (Nat × TypeId)} {β:List Nat} {w w':World} (h:rj bt β w) (hh:∀ b∈β,w'.heap[b]? = w.heap[b]?):rj bt β w':=fun p hp b hb=>by
 obtain ⟨cs,hc⟩:=h p hp b hb
 grind
theorem rj.nil {bt:List (Nat × TypeId)} {β:List Nat} {w:World} (h:bt=[]):rj bt β w:=fun p hp=>by rw [h] at hp;cases hp
theorem rj.sub {bt:List (Nat × TypeId)} {β:List Nat} {w:World} (h:rj bt β w) (n:Nat):rj bt (β.take n) w:=fun p hp b hb=>by
 rw [cJ] at hb;split at hb
 ·exact h p hp b hb
 ·cases hb
theorem Cv:∀ {bt:List (Nat × TypeId)} {n:Nat} {t:TypeId},btOK bt n t=true->∀ p∈bt,p.1=n->p.2=t
 | [],n,t,_,p,hp,_=>by cases hp
 | q :: r,n,t,h,p,hp,hn=>by
  simp only [btOK,bh,Bool.or_eq_true,Bool.not_eq_true'] at h;rcases eU hp with rfl | hp
  ·simp_all
  ·exact Cv h.2 p hp hn
theorem Env.bw {bx:List (List DV)} (h:Env E bx w) {b:Nat} (hb:b∈E.β):b < w.heap.size:=by
 obtain ⟨i,hi,rfl⟩:=List.getElem_of_mem hb;have:i < bx.length:=by rw [<- h.len];exact hi
 obtain ⟨b',ty,arr,fj,hw,_⟩:=h.eQ i _ (gE this)
 grind
theorem jH {c:Addr->Option Value} {β:List Nat} {q:TkE} {y:Value} (h:GQ w c β q y) {g:Nat} (hg:y.ownBlock=some g):g < w.heap.size/\g ∉ β:=by
 rcases h with ⟨rfl,_⟩ | ⟨g',cap,cur,rfl,hw,_,_,_,hb,_⟩
 ·simp [Value.ownBlock] at hg
 ·simp only [Value.ownBlock,oI] at hg;subst hg;exact ⟨dE hw,hb⟩
theorem Env.own {bx:List (List DV)} (h:Env E bx w) {y:Value} {g:Nat} (hy:y∈E.τ) (hg:y.ownBlock=some g):g < w.heap.size/\g ∉ E.β:=by
 obtain ⟨k,hk,rfl⟩:=List.getElem_of_mem hy;have iH:k < E.tk.length:=by rw [<- h.tl];exact hk
 exact jH (h.dh k _ _ (gE iH) (gE hk)) hg
theorem vn {c:Addr->Option Value} {β:List Nat} {q:TkE} {y:Value} {w':World} (h:GQ w c β q y) (hw:∀ g,y.ownBlock=some g->w'.heap[g]? = w.heap[g]?):GQ w' c β q y:=by
 rcases h with h | ⟨g',cap,cur,rfl,h1,h2,h3,h4,h5,h6⟩
 ·exact .inl h
 ·exact .inr ⟨g',cap,cur,rfl,by rw [hw g' rfl];exact h1,h2,h3,h4,h5,h6⟩
theorem Env.iU {bx:List (List DV)} {w':World} (h:Env E bx w) (hw:∀ i,i < w.heap.size->w'.heap[i]? = w.heap[i]?):Env E bx w' where
 len:=h.len
 tl:=h.tl
 eQ:=fun i cs hi=>by
  obtain ⟨b,ty,arr,hb,hwb,hc⟩:=h.eQ i cs hi
  grind
 inj:=h.inj
 sub:=fun x v hx=>by
  have Cw:=h.sub x v hx;rw [mS (w:=w) (hw _ (World.block_lt_of_cell? w x Cw))];exact Cw
 pc:=h.pc
 dh:=fun k q y hq hy=>vn (h.dh k q y hq hy) fun g hg=>hw g (jH (h.dh k q y hq hy) hg).1
 jY:=h.jY
theorem tg.cy {S:Nat->Prop} {w0 w w':World} (h:tg S w0 w) (h1:w'.os=w.os) (h2:w'.tape=w.tape) (h3:w'.output=w.output) (h4:w.heap.size<=w'.heap.size) (hw:∀ i,i < w.heap.size->(S i∨w0.heap.size<=i)∨w'.heap[i]? = w.heap[i]?):tg S w0 w':=
 ⟨h1.trans h.os,h2.trans h.tape,h3.trans h.output,Nat.le_trans h.size h4,fun k hk hS=>by
  rcases hw k (Nat.lt_of_lt_of_le hk h.size) with (h5 | h5) | h5
  ·exact (hS h5).elim
  ·omega
  ·rw [h5];exact h.block k hk hS⟩
theorem alloc_old (w:World) (o:Obj) {k:Nat} (hk:k < w.heap.size):(w.alloc o).heap[k]? = w.heap[k]?:=Below.heap_alloc w o k hk
theorem tg.alloc {S:Nat->Prop} {w0 w:World} (h:tg S w0 w) (o:Obj):tg S w0 (w.alloc o):=
 h.cy rfl rfl rfl (by simp) fun i hi=>.inr (alloc_old w o hi)
theorem qH (E:En) (b:Nat):Ext E ⟨E.c,E.β ++ [b],E.tk,E.τ⟩:=
 ⟨fun _ _ h=>h,fun i x h=>by rw [eT (gS h).1];exact h,fun k q h=>⟨q,h,.inl ⟨rfl,rfl⟩⟩⟩
theorem Env.box {bx:List (List DV)} (h:Env E bx w) {cs:List DV} {arr:List Value} (hc:RvC E cs arr) (t:TypeId):Env ⟨E.c,E.β ++ [w.heap.size],E.tk,E.τ⟩ (bx ++ [cs]) (w.alloc (.cells arr.toArray t)):=by
 have hk:=h.iU (w':=w.alloc (.cells arr.toArray t)) fun i hi=>alloc_old w _ hi;have hx:=qH E w.heap.size
 exact {
  len:=by simp [h.len]
  tl:=h.tl
  eQ:=fun i cs' cx=>by
   rw [List.getElem?_append] at cx;split at cx
   ·rename_i hi;obtain ⟨b,ty,arr',hb,hw,Cx⟩:=hk.eQ i cs' cx;exact ⟨b,ty,arr',hx.β i b hb,hw,Cx.mono hx⟩
   ·rename_i hi;have Rm:i - bx.length=0:=by grind
    rw [Rm] at cx;simp only [List.getElem?_cons_zero,oI] at cx;subst cx;refine ⟨w.heap.size,t,arr,?_,iF w _,hc.mono hx⟩;show (E.β ++ [w.heap.size])[i]? = _;rw [List.getElem?_append_right (by rw [h.len];omega),h.len,Rm];rfl
  inj:=by
   rw [List.nodup_append];refine ⟨h.inj,by simp,?_⟩;intro b hb c hc;simp only [List.mem_singleton] at hc;have:=h.bw hb;omega
  sub:=hk.sub
  pc:=fun x v hv hm=>by
   rcases List.mem_append.1 hm with hm | hm
   ·exact h.pc x v hv hm
   ·simp only [List.mem_singleton] at hm;have:=World.block_lt_of_cell? w x (h.sub x v hv);omega
  dh:=fun k q y hq hy=>by
   have h1:=hk.dh k q y hq hy;rcases h1 with h1 | ⟨g',cap,cur,rfl,h1,h2,h3,h4,h5,h6⟩
   ·exact .inl h1
   ·refine .inr ⟨g',cap,cur,rfl,h1,h2,h3,h4,?_,h6⟩;intro hm;rcases List.mem_append.1 hm with hm | hm
    ·exact h5 hm
    ·simp only [List.mem_singleton] at hm;have:=(jH (h.dh k q _ hq hy) (g:=g') rfl).1;omega
  jY:=h.jY }
theorem aad {E0:En} {w0:World} (h:Nw E0 E w0) {b:Nat} (hb:w0.heap.size<=b):Nw E0 ⟨E.c,E.β ++ [b],E.tk,E.τ⟩ w0 where
 c:=h.c
 cn:=h.cn
 β:=by
  obtain ⟨r,hr,hl⟩:=h.β
  grind
 tk:=h.tk
 tn:=h.tn
 l0:=h.l0
theorem pj {X:Ctx} (hs:X.still=false) {p:Prop}:X.still=true->p:=fun h=>by rw [hs] at h;cases h
theorem y9 (h:Rel X E st a w) (hst:X.still=false) {cs:List DV} {arr:List Value} (hc:RvC E cs arr) (t:TypeId) (hbt:btOK X.bt st.bx.length t=true) :
  Rel X ⟨E.c,E.β ++ [w.heap.size],E.tk,E.τ⟩ ⟨st.sl,st.bx ++ [cs],st.tk⟩ a (w.alloc (.cells arr.toArray t)):=
 dF h (qH E w.heap.size) (h.env.box hc t) h.tk (aad h.nw h.fr.size) (h.fr.alloc _) (pj hst) fun p hp b hb=>by
  have hb:(E.β ++ [w.heap.size])[p.1]? = some b:=hb;rw [List.getElem?_append] at hb;split at hb
  ·obtain ⟨cs,hc⟩:=h.bt p hp b hb;exact ⟨cs,by rw [alloc_old w _ (dE hc)];exact hc⟩
  ·rename_i hi;have h0:p.1 - E.β.length=0:=by grind
   rw [h0] at hb;simp only [List.getElem?_cons_zero,oI] at hb;subst hb;have ht:=Cv hbt p hp (by rw [<- h.env.len];omega);exact ⟨_,by rw [ht];exact iF w _⟩
theorem Mz (h:Rel X E st a w) (hst:X.still=false) {d:Nat} (hd:fU X.nt st.sl (some d)=true) {cs:List DV} {arr:List Value} (hc:RvC E cs arr) (t:TypeId) (hbt:btOK X.bt st.bx.length t=true) :
  Rel X ⟨E.c,E.β ++ [w.heap.size],E.tk,E.τ⟩ ⟨(d,⟨[],.loc st.bx.length 0⟩) :: st.sl,st.bx ++ [cs],st.tk⟩ (a.put (some d) (.pointer (some ⟨w.heap.size,0,none⟩))) (w.alloc (.cells arr.toArray t)):=by
 have h1:=y9 h hst hc t hbt;refine bu h1 hd (.loc st.bx.length 0) _ ?_;unfold Rv;refine ⟨w.heap.size,?_,rfl⟩;show (E.β ++ [w.heap.size])[st.bx.length]? = _;rw [List.getElem?_append_right (by rw [h.env.len];omega),h.env.len];simp
theorem Env.set {bx:List (List DV)} (h:Env E bx w) {i b:Nat} {cs':List DV} {arr':List Value} {ty:TypeId} (hb:E.β[i]? = some b) (hw:b < w.heap.size) (hc:RvC E cs' arr'):Env E (bx.set i cs') (World.dc w b (.cells arr'.toArray ty (0,0))):=by
 have hm:b∈E.β:=mG hb;have hs:(World.dc w b (.cells arr'.toArray ty (0,0))).heap[b]? = some (.cells arr'.toArray ty (0,0)):=fl (Array.getElem?_eq_getElem hw)
 exact {
  len:=by simpa using h.len
  tl:=h.tl
  eQ:=fun j c hcj=>by
   rw [List.getElem?_set] at hcj;split at hcj
   ·grind
   ·rename_i tD;obtain ⟨b',Gy,arr,fj,hw',Cx⟩:=h.eQ j c hcj;refine ⟨b',Gy,arr,fj,?_,Cx⟩;rw [cV]
    ·exact hw'
    ·rintro rfl;exact tD ((List.getElem?_inj (gS hb).1 h.inj).1 (hb.trans fj.symm))
  inj:=h.inj
  sub:=fun x v hx=>by
   have:=h.pc x v hx;rw [mS (w:=w)]
   ·exact h.sub x v hx
   ·exact cV (fun e=>this (e ▸ hm))
  pc:=h.pc
  dh:=fun k q y hq hy=>vn (h.dh k q y hq hy) fun g hg=>cV fun e=>(jH (h.dh k q y hq hy) hg).2 (e ▸ hm)
  jY:=h.jY }
theorem kM (h:Rel X E st a w) (hst:X.still=false) {i b:Nat} {cs':List DV} {arr':List Value} {ty:TypeId} (hb:E.β[i]? = some b) (hc:RvC E cs' arr') (hold:∃ c0,w.heap[b]? = some (.cells c0 ty (0,0))) :
  Rel X E ⟨st.sl,st.bx.set i cs',st.tk⟩ a (World.dc w b (.cells arr'.toArray ty (0,0))):=by
 have hm:b∈E.β:=mG hb;refine dF h (Ext.refl E) (h.env.set hb (h.env.bw hm) hc) h.tk h.nw (h.fr.cy rfl rfl rfl (by rw [gq];exact zLeR _) fun j hj=>?_) (pj hst) ?_
 ·by_cases hjb:j=b
  ·left;obtain ⟨r,hr,hl⟩:=h.nw.β;rw [hr] at hm;rcases List.mem_append.1 hm with hm | hm
   ·exact .inl (.inl (hjb ▸ hm))
   ·exact .inr (hjb ▸ hl b hm)
  ·right;exact cV hjb
 ·intro p hp b' fj;obtain ⟨cs,cx⟩:=h.bt p hp b' fj;by_cases he:b'=b
  ·subst he;obtain ⟨c0,h0⟩:=hold;rw [h0] at cx;simp only [oI,Obj.cells.injEq] at cx;exact ⟨_,by rw [<- cx.2.1];exact fl h0⟩
  ·exact ⟨cs,by rw [cV he];exact cx⟩
def fJ (c:Addr->Option Value) (w:World) (g n:Nat):Addr->Option Value:=
 fun a=>if a.block=g/\a.spot=none/\a.off < n then w.cell? a else c a
theorem yy {c:Addr->Option Value} {w:World} {g n o:Nat} (h:o < n):fJ c w g n ⟨g,o,none⟩=w.cell? ⟨g,o,none⟩:=by simp [fJ,h]
theorem mX (hr:Rel X E st a w):Rel X E st a w.drew:=
 dF hr (Ext.refl E) (hr.env.iU fun _ _=>rfl) hr.tk hr.nw (hr.fr.cy rfl rfl rfl (zLeR _) fun _ _=>.inr rfl) (fun hs=>by
  obtain ⟨q,hq⟩:=hr.sh hs
  exact ⟨q + 1,by rw [hq];rfl⟩) (hr.bt.iU fun _ _=>rfl)
theorem vo (h:Rel X E st a w) (hst:X.still=false) {arr:List Value} (t:TypeId) :
  Rel X ⟨fJ E.c (w.alloc (.cells arr.toArray t)) w.heap.size arr.length,E.β,E.tk,E.τ⟩ st a (w.alloc (.cells arr.toArray t)):=by
 have hk:=h.env.iU (w':=w.alloc (.cells arr.toArray t)) fun i hi=>alloc_old w _ hi;have hold:∀ x v,E.c x=some v->x.block < w.heap.size:=fun x v hx=>World.block_lt_of_cell? w x (h.env.sub x v hx)
 have fO:∀ x v,E.c x=some v->fJ E.c (w.alloc (.cells arr.toArray t)) w.heap.size arr.length x=some v:=fun x v hx=>by
  have:=hold x v hx;unfold fJ;rw [af (by omega)];exact hx
 have cx:∀ x v,fJ E.c (w.alloc (.cells arr.toArray t)) w.heap.size arr.length x=some v->E.c x=some v∨x.block=w.heap.size:=fun x v hx=>by
  unfold fJ at hx
  grind
 have hext:Ext E ⟨fJ E.c (w.alloc (.cells arr.toArray t)) w.heap.size arr.length,E.β,E.tk,E.τ⟩:=⟨fO,fun _ _ h=>h,fun k q h=>⟨q,h,.inl ⟨rfl,rfl⟩⟩⟩;refine dF h hext ?_ h.tk ?_ (h.fr.alloc _) (pj hst) (h.bt.iU fun b hb=>alloc_old w _ (h.env.bw hb))
 ·exact {
   len:=h.env.len
   tl:=h.env.tl
   eQ:=fun i cs hi=>by
    obtain ⟨b,ty,arr',hb,hw,hc⟩:=hk.eQ i cs hi;exact ⟨b,ty,arr',hb,hw,hc.mono hext⟩
   inj:=h.env.inj
   sub:=fun x v hx=>by
    have hx:fJ E.c (w.alloc (.cells arr.toArray t)) w.heap.size arr.length x=some v:=hx;unfold fJ at hx;split at hx
    ·exact hx
    ·exact hk.sub x v hx
   pc:=fun x v hx hm=>by
    rcases cx x v hx with h1 | h1
    ·exact h.env.pc x v h1 hm
    ·have:=h.env.bw hm;omega
   dh:=fun k q y hq hy=>by
    rcases hk.dh k q y hq hy with h1 | ⟨g',cap,cur,rfl,h1,h2,h3,h4,h5,h6⟩
    ·exact .inl h1
    ·refine .inr ⟨g',cap,cur,rfl,h1,⟨h2.1,h2.2.mono fO⟩,h3,h4,h5,fun x v hx hg=>?_⟩;rcases cx x v hx with h7 | h7
     ·exact h6 x v h7 hg
     ·have:=(jH (h.env.dh k q _ hq hy) (g:=g') rfl).1;omega
   jY:=h.env.jY }
 ·exact {
   c:=fun x v hx=>fO x v (h.nw.c x v hx)
   cn:=fun x v hx=>by
    rcases cx x v hx with h1 | h1
    ·exact h.nw.cn x v h1
    ·have:=h.fr.size;exact .inr (.inl (by omega))
   β:=h.nw.β
   tk:=h.nw.tk
   tn:=h.nw.tn
   l0:=h.nw.l0 }
theorem Nw.own {E0:En} {w0:World} (h:Nw E0 E w0) {k:Nat} {y:Value} {g:Nat} (hy:E.τ[k]? = some y) (hg:y.ownBlock=some g):(∃ y0∈E0.τ,y0.ownBlock=some g)∨w0.heap.size<=g:=by
 rcases Nat.lt_or_ge k E0.tk.length with hk | hk
 ·have iH:k < E0.τ.length:=by rw [h.l0];exact hk
  obtain ⟨q',y',_,h2,_,_,_,h6⟩:=h.tk k _ _ (gE hk) (gE iH)
  grind
 ·exact .inr (h.tn k y g hk hy hg)
theorem lh {c:Addr->Option Value} {w:World} {g n:Nat} {x:Addr} {v:Value} (h:fJ c w g n x=some v):(x.block=g/\x.spot=none/\x.off < n/\w.cell? x=some v)∨(c x=some v):=by
 unfold fJ at h
 grind
theorem JZ (h:Rel X E st a w) (q:TkE) (hq:q.new=true):Rel X ⟨E.c,E.β,E.tk ++ [q],E.τ ++ [.slice none 0 0]⟩ ⟨st.sl,st.bx,st.tk ++ [q]⟩ a w/\Ext E ⟨E.c,E.β,E.tk ++ [q],E.τ ++ [.slice none 0 0]⟩:=by
 have hτ:∀ (k:Nat) y,(E.τ ++ [Value.slice none 0 0])[k]? = some y->(k < E.τ.length/\E.τ[k]? = some y)∨(k=E.τ.length/\y = .slice none 0 0):=fun k y hy=>by grind
 have hext:Ext E ⟨E.c,E.β,E.tk ++ [q],E.τ ++ [.slice none 0 0]⟩:=⟨fun _ _ h=>h,fun _ _ h=>h,fun k q' hk=>by
  have az:=(gS hk).1;refine ⟨q',by rw [eT az];exact hk,.inl ⟨rfl,?_⟩⟩
  rw [eT (by rw [h.env.tl];exact az)]⟩
 refine ⟨dF h hext ?_ (by rw [h.tk]) ?_ h.fr h.sh h.bt,hext⟩
 ·exact {
   len:=h.env.len
   tl:=by simp [h.env.tl]
   eQ:=fun i cs hi=>by
    obtain ⟨b,t,arr,hb,hw,hc⟩:=h.env.eQ i cs hi;exact ⟨b,t,arr,hb,hw,hc.mono hext⟩
   inj:=h.env.inj
   sub:=h.env.sub
   pc:=h.env.pc
   dh:=fun k q' y hk hy=>by
    rcases hτ k y hy with ⟨az,jw⟩ | ⟨rfl,rfl⟩
    ·have iH:(E.tk ++ [q])[k]? = some q':=hk;rw [eT (by rw [<- h.env.tl];exact az)] at iH;exact h.env.dh k q' y iH jw
    ·have iH:(E.tk ++ [q])[E.τ.length]? = some q':=hk;rw [List.getElem?_append_right (by rw [h.env.tl];exact zLeR _),h.env.tl] at iH;simp only [Nat.sub_self,List.getElem?_cons_zero,oI] at iH;subst iH;exact .inl ⟨rfl,TkE.Re hq,TkE.Yk hq⟩
   jY:=fun k k' y y' g BN hy jw hg za=>by
    rcases hτ k y hy with ⟨_,BU⟩ | ⟨_,rfl⟩
    ·rcases hτ k' y' jw with ⟨_,og⟩ | ⟨_,rfl⟩
     ·exact h.env.jY k k' y y' g BN BU og hg za
     ·simp [Value.ownBlock] at za
    ·simp [Value.ownBlock] at hg }
 ·exact {
   c:=h.nw.c
   cn:=h.nw.cn
   β:=h.nw.β
   tk:=fun j q0 y0 vq J0=>by
    obtain ⟨q',y',h1,h2,h3⟩:=h.nw.tk j q0 y0 vq J0
    grind
   tn:=fun j y g hj hy hg=>by
    rcases hτ j y hy with ⟨_,BU⟩ | ⟨_,rfl⟩
    ·exact h.nw.tn j y g hj BU hg
    ·simp [Value.ownBlock] at hg
   l0:=h.nw.l0 }
theorem GV (h:Rel X E st a w) (hst:X.still=false) {k n m ty e g cap:Nat} {v:Value} {xs news:List Value} {Zi:List TkE} {τ':List Value} {w':World}
  (hk:(∃ q,E.tk[k]? = some q/\E.τ[k]? = some v/\q.n=n/\q.ty=ty/\q.e=e/\q.own=none)∨(E.tk[k]? = none/\E.τ[k]? = none/\v = .slice none 0 0/\n=0))
  (hm:0 < m) (he:0 < e) (h1:Zi[k]? = some ⟨n + m,ty,e,none⟩) (gV:τ'[k]? = some (.slice (some ⟨g,0,none⟩) (n + m) cap)) (hl:τ'.length=Zi.length)
  (ht:∀ j,j≠k->Zi[j]? = E.tk[j]?) (tE:∀ j,j≠k->τ'[j]? = E.τ[j]?)
  (dW:w.ownsRow 0 ty e v n xs) (h2:w'.ownsRow 0 ty e (.slice (some ⟨g,0,none⟩) (n + m) cap) (n + m) (xs ++ news)) (h3:w.grownBy w' v.ownBlock)
  (h4:v.ownBlock=some g∨(w.heap.size<=g/\∀ j,j < w.heap.size->w'.heap[j]? = w.heap[j]?)) :
  Rel X ⟨fJ E.c w' g ((n + m) * e),E.β,Zi,τ'⟩ ⟨st.sl,st.bx,Zi⟩ a w' /\ Ext E ⟨fJ E.c w' g ((n + m) * e),E.β,Zi,τ'⟩/\∀ (j:Nat) u,(xs ++ news)[j]? = some u->fJ E.c w' g ((n + m) * e) ⟨g,j,none⟩=some u:=by
 have hlen:=h2.1;rcases h2.2 with ⟨hv,_⟩ | ⟨g',adC,cur,hv,_,VU,Cq,hcm,cx,htake⟩
 ·cases hv
 injection hv with yx JY hv3
 injection yx with yx
 injection yx with yx
 subst yx hv3
 have hgk:∀ g0,v.ownBlock=some g0->g0 < w.heap.size/\g0 ∉ E.β/\((∃ y0∈X.E0.τ,y0.ownBlock=some g0)∨X.w0.heap.size<=g0):=by
  intro g0 GW;rcases hk with ⟨q,hq,hy,_⟩ | ⟨_,_,rfl,_⟩
  ·have:=jH (h.env.dh k q v hq hy) GW;exact ⟨this.1,this.2,h.nw.own hy GW⟩
  ·simp [Value.ownBlock] at GW
 have cK:w.heap.size<=w'.heap.size:=h3.size
 have GW:g ∉ E.β/\((∃ y0∈X.E0.τ,y0.ownBlock=some g)∨X.w0.heap.size<=g):=by
  rcases h4 with h4 | h4
  ·exact (hgk g h4).2
  ·exact ⟨fun hb=>by have:=h.env.bw hb;omega,.inr (Nat.le_trans h.fr.size h4.1)⟩
 have tF:∀ j,j < w.heap.size->some j≠v.ownBlock->w'.heap[j]? = w.heap[j]?:=fun j hj bF=>h3.block j hj bF
 have dO:∀ (j:Nat) u,(xs ++ news)[j]? = some u->w'.cell? ⟨g,j,none⟩=some u:=by
  intro j u hj;rw [cO VU];rw [<- htake,cJ] at hj;split at hj
  ·simpa using hj
  ·cases hj
 have hold:∀ x u,E.c x=some u->w'.cell? x=some u:=by
  intro x u hx;have Cw:=h.env.sub x u hx;have az:=World.block_lt_of_cell? w x Cw;by_cases ho:some x.block=v.ownBlock
  ·rcases h4 with h4 | h4
   ·rw [h4] at ho;simp only [oI] at ho;rcases hk with ⟨q,hq,hy,rfl,rfl,rfl,QP⟩ | ⟨_,_,rfl,_⟩
    ·rcases h.env.dh k q v hq hy with ⟨rfl,_⟩ | ⟨g2,aag,aah,rfl,rk,Cy,EO,_,_,tw⟩
     ·simp [Value.ownBlock] at h4
     ·simp only [Value.ownBlock,oI] at h4;subst h4;have EP:=tw x u hx ho;simp only [TkE.kn,QP] at EP;rcases dW.2 with ⟨qI,_⟩ | ⟨g3,cap3,cur3,qI,_,BV,_,_,_,ht3⟩
      ·cases qI
      ·injection qI with e1 e2 e3
       injection e1 with e1
       injection e1 with e1
       subst e1;obtain ⟨xb,xo,xs'⟩:=x;simp only at ho EP;subst ho
       have hsp:xs'=none:=by
        cases xs' with
        | none=>rfl
        | some _=>simp [World.cell?,BV] at Cw
       subst hsp;rw [cO BV] at Cw
       have:xs[xo]? = some u:=by
        rw [<- ht3,cJ,zIfP EP];simpa using Cw
       exact dO xo u (by rw [eT (gS this).1];exact this)
    ·simp [Value.ownBlock] at h4
   ·rw [mS (w:=w) (h4.2 _ az)];exact Cw
  ·rw [mS (w:=w) (tF _ az ho)];exact Cw
 have fX:(xs ++ news).length=(n + m) * e:=hlen
 have J1:∀ x u,E.c x=some u->fJ E.c w' g ((n + m) * e) x=some u:=by
  intro x u hx;unfold fJ;split
  ·exact hold x u hx
  ·exact hx
 have hext:Ext E ⟨fJ E.c w' g ((n + m) * e),E.β,Zi,τ'⟩:={
  c:=J1
  β:=fun _ _ h=>h
  tk:=fun j q hq=>by
   by_cases hj:j=k
   ·subst hj;rcases hk with ⟨q2,kN,_,hn,_⟩ | ⟨hn,_⟩
    ·rw [hq] at kN;simp only [oI] at kN;subst kN;exact ⟨_,h1,.inr (by simp only;omega)⟩
    ·rw [hq] at hn;cases hn
   ·exact ⟨q,by rw [<- hq];exact ht j hj,.inl ⟨rfl,tE j hj⟩⟩ }
 have hβ:∀ b' ∈ E.β,w'.heap[b']? = w.heap[b']?:=fun b' fj=>tF b' (h.env.bw fj) fun he=>(hgk b' he.symm).2.1 fj
 have rS:∀ j y g1,j≠k->E.τ[j]? = some y->y.ownBlock=some g1->g1≠g/\w'.heap[g1]? = w.heap[g1]?:=by
  intro j y g1 hj hy ry;have zc:j < E.tk.length:=by rw [<- h.env.tl];exact (gS hy).1
  have az:=(jH (h.env.dh j _ y (gE zc) hy) ry).1
  have bF:v.ownBlock≠some g1:=by
   rcases hk with ⟨q,hq,VV,_⟩ | ⟨_,_,rfl,_⟩
   ·exact h.env.jY j k y v g1 hj hy VV ry
   ·simp [Value.ownBlock]
  refine ⟨?_,tF g1 az (Ne.symm bF)⟩;rintro rfl;rcases h4 with h4 | h4
  ·exact bF h4
  ·omega
 refine ⟨dF h hext ?_ rfl ?_ ?_ (pj hst) (h.bt.iU hβ),hext,fun j u hj=>?_⟩
 ·exact {
   len:=h.env.len
   tl:=hl
   eQ:=fun i cs hi=>by
    obtain ⟨b,t,arr,hb,hw,hc⟩:=h.env.eQ i cs hi;exact ⟨b,t,arr,hb,by rw [hβ b (mG hb)];exact hw,hc.mono hext⟩
   inj:=h.env.inj
   sub:=fun x u hx=>by
    rcases lh hx with ⟨_,_,_,h5⟩ | h5
    ·exact h5
    ·exact hold x u h5
   pc:=fun x u hx OH=>by
    rcases lh hx with ⟨h5,_⟩ | h5
    ·exact GW.1 (h5 ▸ OH)
    ·exact h.env.pc x u h5 OH
   dh:=fun j q y hq hy=>by
    by_cases hj:j=k
    ·subst hj;rw [show E.c=E.c from rfl] at *;have mY:Zi[j]? = some q:=hq;have jw:τ'[j]? = some y:=hy;rw [h1] at mY;rw [gV] at jw;simp only [oI] at mY jw;subst mY jw;refine .inr ⟨g,cap,cur,rfl,VU,⟨cx,tq.none rfl⟩,Cq,hcm,GW.1,fun x u hx JH=>?_⟩;rcases lh hx with ⟨_,_,h5,_⟩ | h5
     ·exact h5
     ·-- an old known cell of this block
      have Cw:=h.env.sub x u h5;have az:=World.block_lt_of_cell? w x Cw;rcases h4 with h4 | h4
      ·rcases hk with ⟨q,hq,VV,hqn,Vu,Rn,QP⟩ | ⟨_,_,rfl,_⟩
       ·rcases h.env.dh j q v hq VV with ⟨rfl,_⟩ | ⟨g2,aag,aah,rfl,rk,Cy,EO,_,_,tw⟩
        ·simp [Value.ownBlock] at h4
        ·simp only [Value.ownBlock,oI] at h4;have:=tw x u h5 (JH.trans h4.symm);simp only [TkE.kn,QP] at this;rw [hqn,Rn] at this;show x.off < (n + m) * e;exact Nat.lt_of_lt_of_le this (Nat.mul_le_mul_right _ (Nat.le_add_right _ _))
       ·simp [Value.ownBlock] at h4
      ·have:=h4.1;rw [JH] at az;omega
    ·have mY:E.tk[j]? = some q:=by rw [<- ht j hj];exact hq
     have jw:E.τ[j]? = some y:=by rw [<- tE j hj];exact hy
     rcases h.env.dh j q y mY jw with h5 | ⟨g2,aag,aah,rfl,rk,Cy,EO,GX,iI,tw⟩
     ·exact .inl h5
     ·obtain ⟨bF,GY⟩:=rS j _ g2 hj jw rfl;refine .inr ⟨g2,aag,aah,rfl,by rw [GY];exact rk,⟨Cy.1,Cy.2.mono J1⟩,EO,GX,iI,fun x u hx JH=>?_⟩;rcases lh hx with ⟨h5,_⟩ | h5
      ·exact (bF (JH.symm.trans h5)).elim
      ·exact tw x u h5 JH
   jY:=fun j j' y y' g1 MA hy jw ry GZ=>by
    by_cases hj:j=k
    ·subst hj;have og:τ'[j]? = some y:=hy;rw [gV] at og;simp only [oI] at og;subst og;simp only [Value.ownBlock,oI] at ry;have JI:E.τ[j']? = some y':=by rw [<- tE j' (Ne.symm MA)];exact jw
     exact (rS j' y' g1 (Ne.symm MA) JI GZ).1 ry.symm
    ·have JI:E.τ[j]? = some y:=by rw [<- tE j hj];exact hy
     by_cases ku:j'=k
     ·subst ku;have og:τ'[j']? = some y':=jw;rw [gV] at og;simp only [oI] at og;subst og;simp only [Value.ownBlock,oI] at GZ;exact (rS j y g1 hj JI ry).1 GZ.symm
     ·have hy4:E.τ[j']? = some y':=by rw [<- tE j' ku];exact jw
      exact h.env.jY j j' y y' g1 MA JI hy4 ry GZ }
 ·exact {
   c:=fun x u hx=>J1 x u (h.nw.c x u hx)
   cn:=fun x u hx=>by
    rcases lh hx with ⟨h5,_⟩ | h5
    ·rcases GW.2 with h6 | h6
     ·exact .inr (.inr (by rw [h5];exact h6))
     ·exact .inr (.inl (by rw [h5];exact h6))
    ·exact h.nw.cn x u h5
   β:=h.nw.β
   tk:=fun j q0 y0 vq J0=>by
    obtain ⟨q',y',h5,h6,h7,h8,h9,u7⟩:=h.nw.tk j q0 y0 vq J0;by_cases hj:j=k
    ·subst hj;rcases hk with ⟨q,hq,VV,hqn,Vu,Rn,_⟩ | ⟨hn,_⟩
     ·rw [h5] at hq;rw [h6] at VV;simp only [oI] at hq VV;subst hq VV;refine ⟨_,_,h1,gV,by rw [h7];exact Vu,by rw [h8];exact Rn,.inr ?_,?_⟩
      ·rcases h9 with ⟨h9,_⟩ | h9
       ·simp only;omega
       ·simp only;omega
      ·rcases h4 with h4 | h4
       ·rcases u7 with u7 | u7
        ·left;rw [<- u7,h4];all_goals rfl
        ·right;intro g1 ry;simp only [Value.ownBlock,oI] at ry;exact ry ▸ u7 g h4
       ·right;intro g1 ry;simp only [Value.ownBlock,oI] at ry;have:=h.fr.size;omega
     ·rw [h5] at hn;cases hn
    ·exact ⟨q',y',by rw [<- h5];exact ht j hj,by rw [<- h6];exact tE j hj,h7,h8,h9,u7⟩
   tn:=fun j y g1 G0 hy ry=>by
    by_cases hj:j=k
    ·subst hj;have og:τ'[j]? = some y:=hy;rw [gV] at og;simp only [oI] at og;subst og;simp only [Value.ownBlock,oI] at ry;subst ry;rcases h4 with h4 | h4
     ·rcases hk with ⟨q,hq,VV,_⟩ | ⟨_,_,rfl,_⟩
      ·exact h.nw.tn j v g G0 VV h4
      ·simp [Value.ownBlock] at h4
     ·have:=h.fr.size;omega
    ·exact h.nw.tn j y g1 G0 (by rw [<- tE j hj];exact hy) ry
   l0:=h.nw.l0 }
 ·refine h.fr.cy h3.os h3.tape h3.output h3.size fun j hj=>?_;by_cases ho:some j=v.ownBlock
  ·left;rcases (hgk j ho.symm).2.2 with h5 | h5
   ·exact .inl (.inr h5)
   ·exact .inr h5
  ·exact .inr (tF j hj ho)
 ·have ku:=(gS hj).1;rw [yy (by omega)];exact dO j u hj
theorem EQ (h:Rel X E st a w) (hst:X.still=false) {k:Nat} {q q':TkE} {v v':Value} {w':World} (hq:E.tk[k]? = some q) (hv:E.τ[k]? = some v) (QP:q.kn=0) (hty:q'.ty=q.ty) (he:q'.e=q.e)
  (hn:(q'.n=q.n/\v'=v)∨q.n < q'.n) (QQ:GQ w' E.c E.β q' v') (hb:v'.ownBlock=v.ownBlock∨∀ g,v'.ownBlock=some g->w.heap.size<=g)
  (rT:w'.os=w.os) (htp:w'.tape=w.tape) (hou:w'.output=w.output) (cK:w.heap.size<=w'.heap.size) (tF:∀ j,j < w.heap.size->some j≠v.ownBlock->w'.heap[j]? = w.heap[j]?) :
  Rel X ⟨E.c,E.β,E.tk.set k q',E.τ.set k v'⟩ ⟨st.sl,st.bx,st.tk.set k q'⟩ a w' /\ Ext E ⟨E.c,E.β,E.tk.set k q',E.τ.set k v'⟩:=by
 have il:=(gS hq).1;have hkτ:=(gS hv).1;have ho:=h.env.dh k q v hq hv;have hgk:∀ g0,v.ownBlock=some g0->g0 < w.heap.size/\g0 ∉ E.β:=fun g0 GW=>jH ho GW
 have hc:∀ x u,E.c x=some u->some x.block≠v.ownBlock:=fun x u hx hxo=>by
  rcases ho with ⟨rfl,_⟩ | ⟨g,cap,cur,rfl,_,_,_,_,_,h6⟩
  ·simp [Value.ownBlock] at hxo
  ·simp only [Value.ownBlock,oI] at hxo;have:=h6 x u hx hxo;omega
 have hold:∀ x u,E.c x=some u->w'.cell? x=some u:=fun x u hx=>by
  have Cw:=h.env.sub x u hx;rw [mS (w:=w) (tF _ (World.block_lt_of_cell? w x Cw) (hc x u hx))];exact Cw
 have ht:∀ j,j≠k->(E.tk.set k q')[j]? = E.tk[j]?:=fun j hj=>List.getElem?_set_ne (Ne.symm hj);have tE:∀ j,j≠k->(E.τ.set k v')[j]? = E.τ[j]?:=fun j hj=>List.getElem?_set_ne (Ne.symm hj);have h1:(E.tk.set k q')[k]? = some q':=iR il;have gV:(E.τ.set k v')[k]? = some v':=iR hkτ
 have hext:Ext E ⟨E.c,E.β,E.tk.set k q',E.τ.set k v'⟩:=⟨fun _ _ h=>h,fun _ _ h=>h,fun j q2 kN=>by
  by_cases hj:j=k
  ·subst hj;rw [hq] at kN;simp only [oI] at kN;subst kN;refine ⟨q',h1,?_⟩;rcases hn with ⟨hn,rfl⟩ | hn
   ·exact .inl ⟨hn,by rw [hv];exact gV⟩
   ·exact .inr hn
  ·exact ⟨q2,by rw [<- kN];exact ht j hj,.inl ⟨rfl,tE j hj⟩⟩⟩
 have hβ:∀ b' ∈ E.β,w'.heap[b']? = w.heap[b']?:=fun b' fj=>tF b' (h.env.bw fj) fun he=>(hgk b' he.symm).2 fj
 have rS:∀ j y g1,j≠k->E.τ[j]? = some y->y.ownBlock=some g1->v'.ownBlock≠some g1/\w'.heap[g1]? = w.heap[g1]?:=fun j y g1 hj hy ry=>by
  have az:=(h.env.own (mG hy) ry).1;have bF:v.ownBlock≠some g1:=h.env.jY j k y v g1 hj hy hv ry;refine ⟨?_,tF g1 az (Ne.symm bF)⟩;rcases hb with hb | hb
  ·rw [hb];exact bF
  ·intro h2;have:=hb g1 h2;omega
 refine ⟨dF h hext ?_ (by rw [h.tk]) ?_ ?_ (pj hst) (h.bt.iU hβ),hext⟩
 ·exact {
   len:=h.env.len
   tl:=by simp only [List.length_set];exact h.env.tl
   eQ:=fun i cs hi=>by
    obtain ⟨b,t,arr,hb,hw,hc⟩:=h.env.eQ i cs hi;exact ⟨b,t,arr,hb,by rw [hβ b (mG hb)];exact hw,hc.mono hext⟩
   inj:=h.env.inj
   sub:=hold
   pc:=h.env.pc
   dh:=fun j q2 y kN hy=>by
    by_cases hj:j=k
    ·subst hj;have OI:(E.tk.set j q')[j]? = some q2:=kN;have JI:(E.τ.set j v')[j]? = some y:=hy;rw [h1] at OI;rw [gV] at JI;simp only [oI] at OI JI;subst OI JI;exact QQ
    ·have OI:E.tk[j]? = some q2:=by rw [<- ht j hj];exact kN
     have JI:E.τ[j]? = some y:=by rw [<- tE j hj];exact hy
     exact vn (h.env.dh j q2 y OI JI) fun g hg=>(rS j y g hj JI hg).2
   jY:=fun j j' y y' g1 MA hy jw ry GZ=>by
    by_cases hj:j=k
    ·subst hj;have og:(E.τ.set j v')[j]? = some y:=hy;rw [gV] at og;simp only [oI] at og;subst og;have JI:E.τ[j']? = some y':=by rw [<- tE j' (Ne.symm MA)];exact jw
     exact (rS j' y' g1 (Ne.symm MA) JI GZ).1 ry
    ·have JI:E.τ[j]? = some y:=by rw [<- tE j hj];exact hy
     by_cases ku:j'=k
     ·subst ku;have og:(E.τ.set j' v')[j']? = some y':=jw;rw [gV] at og;simp only [oI] at og;subst og;exact (rS j y g1 hj JI ry).1 GZ
     ·have hy4:E.τ[j']? = some y':=by rw [<- tE j' ku];exact jw
      exact h.env.jY j j' y y' g1 MA JI hy4 ry GZ }
 ·exact {
   c:=h.nw.c
   cn:=h.nw.cn
   β:=h.nw.β
   tk:=fun j q0 y0 vq J0=>by
    obtain ⟨q1,y1,h5,h6,h7,h8,h9,u7⟩:=h.nw.tk j q0 y0 vq J0;by_cases hj:j=k
    ·subst hj;rw [h5] at hq;rw [h6] at hv;simp only [oI] at hq hv;subst hq hv;refine ⟨_,_,h1,gV,h7.trans hty.symm,h8.trans he.symm,?_,?_⟩
     ·rcases hn with ⟨hn,rfl⟩ | hn
      ·rcases h9 with ⟨h9,rfl⟩ | h9
       ·exact .inl ⟨by omega,rfl⟩
       ·exact .inr (by omega)
      ·rcases h9 with ⟨h9,_⟩ | h9
       ·exact .inr (by omega)
       ·exact .inr (by omega)
     ·rcases hb with hb | hb
      ·rcases u7 with u7 | u7
       ·exact .inl (hb.trans u7)
       ·exact .inr fun g hg=>u7 g (by rw [<- hb];exact hg)
      ·refine .inr fun g hg=>?_;have:=hb g hg;have:=h.fr.size;omega
    ·exact ⟨q1,y1,by rw [<- h5];exact ht j hj,by rw [<- h6];exact tE j hj,h7,h8,h9,u7⟩
   tn:=fun j y g1 G0 hy ry=>by
    by_cases hj:j=k
    ·subst hj;have og:(E.τ.set j v')[j]? = some y:=hy;rw [gV] at og;simp only [oI] at og;subst og;rcases hb with hb | hb
     ·exact h.nw.tn j v g1 G0 hv (by rw [<- hb];exact ry)
     ·have:=hb g1 ry;have:=h.fr.size;omega
    ·exact h.nw.tn j y g1 G0 (by rw [<- tE j hj];exact hy) ry
   l0:=h.nw.l0 }
 ·refine h.fr.cy rT htp hou cK fun j hj=>?_;by_cases hjo:some j=v.ownBlock
  ·left;rcases h.nw.own hv hjo.symm with h5 | h5
   ·exact .inl (.inr h5)
   ·exact .inr h5
  ·exact .inr (tF j hj hjo)
end
end Dv
end Go.Proofs.YtfdedoiiahbnnaaGreat
namespace Go.Proofs.YtfdedoiiahbnnaaGreat
namespace Dv
open Go Go.RowKit
def Snd (X:Ctx) (G:List It->St->Prop):Prop:=∀ k st,G k st->∀ E a w,Rel X E st a w->kq X k .normal a w
section
variable {X:Ctx} {E:En} {st:St} {a:Act} {w:World}
theorem rU {x:Option Addr} (h:okA x):x=some ⟨ab x,ao x,none⟩:=by
 cases x with
 | none=>exact h.elim
 | some y=>obtain ⟨b,o,s⟩:=y;simp only [okA] at h;subst h;rfl
theorem bm {C:World->Prop} (h:Rl E st.bx C st.sl a) {x:Operand} {s:DV} (hx:rv st [] x=some s):Rv E s (a.eval x):=cf h (bi _) hx
theorem gH {P:Program} {t:TypeId} {i:TypeInfo} (h:P.info? t=some i):jF P t=some i.size:=by simp [jF,h]
theorem eB {C:World->Prop} (h:Rl E st.bx C st.sl a) {d:Int} {y:Operand} {z:Int} (hb:bound st d (some y)=some z):∃ k,a.eval y = .int k z:=by
 simp only [bound] at hb;split at hb
 ·rename_i k z' hy;simp only [oI] at hb;subst hb;exact ⟨k,cH (bm h hy)⟩
 ·cases hb
theorem RvEs.yZ:∀ {es:List (List DV)} {E:En} {e b o:Nat},RvEs E e b o es->∃ arr,RvC E es.flatten arr/\arr.length=es.length * e/\∀ (j:Nat) u,arr[j]? = some u->E.c ⟨b,o + j,none⟩=some u
 | [],E,e,b,o,_=>⟨[],⟨cW E,by simp⟩,by simp,by simp⟩
 | cs :: r,E,e,b,o,h=>by
  simp only [RvEs] at h;obtain ⟨h1,h2,h3⟩:=h;obtain ⟨a1,h4,h5⟩:=h2.yZ;obtain ⟨a2,h6,h7,h8⟩:=RvEs.yZ h3;have hl:a1.length=e:=by rw [h4.1.length];exact h1
  refine ⟨a1 ++ a2,by simpa using h4.append h6,by simp [hl,h7,Nat.add_mul];omega,fun j u hj=>?_⟩
  grind
theorem ER:∀ {bs:List UInt8} {vs:List Value},RvL E (u8L bs) vs->vs=(bs.map fun b=>(b.toNat:Int)).map (Value.int .u8)
 | [],vs,h=>by simpa [u8L,RvL] using h
 | b :: r,vs,h=>by
  simp only [u8L,RvL] at h;obtain ⟨v,s,rfl,h1,h2⟩:=h;unfold Rv at h1;rw [h1.1,ER h2];rfl
theorem foldl_push (bs:List UInt8):∀ r:ByteArray,(bs.map fun b=>(b.toNat:Int)).foldl (fun r n=>r.push (UInt8.ofNat n.toNat)) r=⟨(r.data.toList ++ bs).toArray⟩:=by
 induction bs with
 | nil=>intro r;simp
 | cons b t ih=>simp_all
theorem J2 {E:En}:∀ {l vs:List Value},RvL E (vL l) vs->vs=l
 | [],vs,h=>by simpa [vL,RvL] using h
 | x :: r,vs,h=>by
  simp only [vL,RvL] at h;obtain ⟨v,s,rfl,h1,h2⟩:=h;unfold Rv at h1;rw [h1.1,J2 h2]
theorem oh {C:World->Prop} (h:Rl E st.bx C st.sl a) {o:Oper} {K:DV->Prop} {p:Prop} (he:effR X st o.op K=some p) (hp:p):∃ y,K y/\ady X.P C E a o y:=by
 have hT:=X.hT;obtain ⟨dst,op,ty,pos,after,gu⟩:=o;cases op<;>simp only [effR] at he<;>try (cases he;done)
 case indexAddr t x i=>
  split at he
  ·rename_i e es tk kd z hx hi;split at he
   ·rename_i n b et e' kL zz hf;split at he
    ·rename_i MB;have MB:e=e':=sU MB;subst MB;simp only [oI] at he;subst he;obtain ⟨cs,⟨hz,cx⟩,hk⟩:=hp;refine ⟨_,hk,?_⟩;have e1:=bm h hx;have e2:=cH (bm h hi);unfold Rv at e1;obtain ⟨b,n',cap,e1,⟨rfl,_⟩,hr,_⟩:=e1;have az:=(gS cx).1;have bF:es ≠ []:=by rintro rfl;simp at az
     obtain ⟨fh,tG⟩:=hr bF;have QQ:=(tG.get cx).2;obtain ⟨hu,ii,zv,zd,_,cK,_,_⟩:=fV hT hf;have pk:jF X.P et=some e:=by rw [gH zd,cK]
     have hb:=rU fh;refine ⟨.pointer (some ⟨ab b,ao b + z.toNat * e,none⟩),by unfold Rv;exact ⟨_,_,rfl,QQ⟩,fun w' _=>?_⟩;have h2:z < es.length:=by omega
     have bV:(Instr.indexAt t (.slice b es.length cap) (.int kd z)).run X.P w' = .ok (.pointer (some ⟨ab b,ao b + z.toNat * e,none⟩)) w':=by
      rw [hb];simp [Instr.indexAt,asIntOf,run_underlying hu,hz,h2,aX pk,Addr.add_lit,ab,ao]
     simp only [execOp,e1,e2,Sem.run_bind,bV,Result.andThen_ok,Sem.run_pure]
    ·cases he
   ·cases he
  ·rename_i j e off n cap kd z hx hi;split at he
   ·rename_i n2 b et e' kL zz hf;split at he
    ·rename_i MB;have MB:e=e':=sU MB;subst MB;simp only [oI] at he;subst he;obtain ⟨⟨hz,h2⟩,hk⟩:=hp;refine ⟨_,hk,?_⟩;have e1:=bm h hx;have e2:=cH (bm h hi);unfold Rv at e1;obtain ⟨b,aa,hb,hlc,e1,ha⟩:=e1;have ha:=ha (by omega);subst ha;obtain ⟨hu,ii,zv,zd,_,cK,_,_⟩:=fV hT hf;have pk:jF X.P et=some e:=by rw [gH zd,cK]
     refine ⟨.pointer (some ⟨b,off + z.toNat * e,none⟩),by unfold Rv;exact ⟨_,hb,rfl⟩,fun w' _=>?_⟩
     have bV:(Instr.indexAt t (.slice (some ⟨b,off,none⟩) n cap) (.int kd z)).run X.P w' = .ok (.pointer (some ⟨b,off + z.toNat * e,none⟩)) w':=by
      simp [Instr.indexAt,asIntOf,run_underlying hu,hz,h2,aX pk,Addr.add_lit]
     simp only [execOp,e1,e2,Sem.run_bind,bV,Result.andThen_ok,Sem.run_pure]
    ·cases he
   ·cases he
  ·rename_i j off kd z hx hi;split at he
   ·rename_i n2 b n e zz hf;split at he
    all_goals
     simp only [oI] at he;subst he;obtain ⟨⟨hz,h2⟩,hk⟩:=hp;refine ⟨_,hk,?_⟩;have e1:=bm h hx;have e2:=cH (bm h hi);unfold Rv at e1;obtain ⟨b,hb,e1⟩:=e1;obtain ⟨et,hu,cK⟩:=pD hT hf;refine ⟨.pointer (some ⟨b,off + z.toNat * e,none⟩),by unfold Rv;exact ⟨_,hb,rfl⟩,fun w' _=>?_⟩
     have bV:(Instr.indexAt t (.pointer (some ⟨b,off,none⟩)) (.int kd z)).run X.P w' = .ok (.pointer (some ⟨b,off + z.toNat * e,none⟩)) w':=by
      simp [Instr.indexAt,asIntOf,run_underlying hu,Instr.sureAddr,hz,h2,aX cK,Addr.add_lit]
     simp only [execOp,e1,e2,Sem.run_bind,bV,Result.andThen_ok,Sem.run_pure]
   ·cases he
  ·rename_i j off kd z hx hi;split at he
   ·rename_i n2 b n e zz hf;simp only [oI] at he;subst he;obtain ⟨⟨hz,h2⟩,hk⟩:=hp;refine ⟨_,hk,?_⟩;have e1:=bm h hx;have e2:=cH (bm h hi);unfold Rv at e1;obtain ⟨b,hb,e1⟩:=e1;obtain ⟨et,hu,cK⟩:=pD hT hf;refine ⟨.pointer (some ⟨b,off + z.toNat * e,none⟩),by unfold Rv;exact ⟨_,hb,rfl⟩,fun w' _=>?_⟩
    have bV:(Instr.indexAt t (.pointer (some ⟨b,off,none⟩)) (.int kd z)).run X.P w' = .ok (.pointer (some ⟨b,off + z.toNat * e,none⟩)) w':=by
     simp [Instr.indexAt,asIntOf,run_underlying hu,Instr.sureAddr,hz,h2,aX cK,Addr.add_lit]
    simp only [execOp,e1,e2,Sem.run_bind,bV,Result.andThen_ok,Sem.run_pure]
   ·cases he
  ·rename_i cs off kd z hx hi;split at he
   ·rename_i n2 b n e zz hf;split at he
    ·simp only [oI] at he;subst he;obtain ⟨⟨hz,h2⟩,hk⟩:=hp;refine ⟨_,hk,?_⟩;have e1:=bm h hx;have e2:=cH (bm h hi);unfold Rv at e1;obtain ⟨b,q,e1,hb⟩:=e1;obtain ⟨et,hu,cK⟩:=pD hT hf;refine ⟨.pointer (some ⟨b,q + (off + z.toNat * e),none⟩),by unfold Rv;exact ⟨_,_,rfl,hb⟩,fun w' _=>?_⟩
     have bV:(Instr.indexAt t (.pointer (some ⟨b,q + off,none⟩)) (.int kd z)).run X.P w' = .ok (.pointer (some ⟨b,q + (off + z.toNat * e),none⟩)) w':=by
      simp [Instr.indexAt,asIntOf,run_underlying hu,Instr.sureAddr,hz,h2,aX cK,Addr.add_lit,Nat.add_assoc]
     simp only [execOp,e1,e2,Sem.run_bind,bV,Result.andThen_ok,Sem.run_pure]
    ·simp only [oI] at he;subst he;obtain ⟨ds,⟨⟨hz,h2⟩,hds⟩,hk⟩:=hp;subst hds;refine ⟨_,hk,?_⟩;have e1:=bm h hx;have e2:=cH (bm h hi);unfold Rv at e1;obtain ⟨b,q,e1,hb⟩:=e1;obtain ⟨et,hu,cK⟩:=pD hT hf;refine ⟨.pointer (some ⟨b,q + (off + z.toNat * e),none⟩),by unfold Rv;exact ⟨b,q + (off + z.toNat * e),rfl,(hb.drop _).take _⟩,fun w' _=>?_⟩
     have bV:(Instr.indexAt t (.pointer (some ⟨b,q + off,none⟩)) (.int kd z)).run X.P w' = .ok (.pointer (some ⟨b,q + (off + z.toNat * e),none⟩)) w':=by
      simp [Instr.indexAt,asIntOf,run_underlying hu,Instr.sureAddr,hz,h2,aX cK,Addr.add_lit,Nat.add_assoc]
     simp only [execOp,e1,e2,Sem.run_bind,bV,Result.andThen_ok,Sem.run_pure]
   ·cases he
  ·cases he
 case load t x=>
  split at he
  ·rename_i i off hx;split at he
   ·rename_i cs cx;simp only [oI] at he;subst he;obtain ⟨d,hy,hk⟩:=hp;refine ⟨d,hk,?_⟩;have e1:=bm h hx;unfold Rv at e1;obtain ⟨b,hb,e1⟩:=e1;obtain ⟨b',arr,fj,hc,hw⟩:=h.eQ i cs cx;rw [hb] at fj;simp only [oI] at fj;subst fj;obtain ⟨v,hv,hl⟩:=oc hT hc (b:=b) (p:=0) hy;refine ⟨v,hv,fun w hC=>?_⟩;have hl:=hl w (fun j u hj=>by rw [Nat.zero_add];exact hw w (hC rfl) j u hj);rw [Nat.zero_add] at hl;simp only [execOp,e1,Sem.run_bind,Instr.loadAt,Instr.sureAddr,Sem.run_pure,Result.andThen_ok,hl]
   ·cases he
  ·cases he
 case index t x i=>
  split at he
  ·rename_i s kd z n b zz hx hi hf;simp only [oI] at he;subst he;obtain ⟨⟨h1,h2⟩,hk⟩:=hp;refine ⟨_,hk,?_⟩;have e1:=bN (bm h hx);have e2:=cH (bm h hi);have hu:=qF hT hf;have hz:z.toNat < s.size:=by omega
   refine ⟨.int .u8 (aq s z.toNat),gl rfl,fun w' _=>?_⟩
   have hr:(Instr.index t (.string s) (.int kd z)).run X.P w' = .ok (.int .u8 (aq s z.toNat)) w':=by
    have hb:s[z.toNat]? = some (s[z.toNat]'hz):=by simp [hz]
    have iI:aq s z.toNat=(s[z.toNat]'hz).toNat:=by
     simp only [aq];congr 1;have hz':z.toNat < s.data.toList.length:=sU hz;rw [eo,gE hz'];rfl
    simp [Instr.index,asIntOf,run_underlying hu,h1,hb,iI]
   simp only [execOp,e1,e2,Sem.run_bind,hr,Result.andThen_ok,Sem.run_pure]
  ·cases he
 case slice t x lo hi mx=>
  split at he
  ·cases he
  ·split at he
   ·rename_i s n b zz hx hf;split at he
    ·rename_i l g hlo vt;simp only [oI] at he;subst he;obtain ⟨⟨h1,h2,h3⟩,hk⟩:=hp;refine ⟨_,hk,?_⟩;have e1:=bN (bm h hx);have hu:=qF hT hf;refine ⟨.string (s.extract l.toNat g.toNat),gl rfl,fun w' _=>?_⟩;have eg:(g.toNat:Int)=g:=Int.toNat_of_nonneg (by omega)
     have hr:(Instr.sliceAt t (.string s) (lo.map a.eval) (hi.map a.eval) none).run X.P w' = .ok (.string (s.extract l.toNat g.toNat)) w':=by
      rw [run_sliceAt_string w' t _ _ _ _ hu]
      cases lo with
      | none=>
       simp only [bound,oI] at hlo;subst hlo
       cases hi with
       | none=>
        simp only [bound,oI] at vt;subst vt;simp [Instr.slice,run_underlying hu,Instr.sliceBounds]
       | some y=>
        obtain ⟨k,hy⟩:=eB h vt;simp [Instr.slice,run_underlying hu,Instr.sliceBounds,hy,run_sliceBound,h2,h3]
      | some z=>
       obtain ⟨k,hz⟩:=eB h hlo
       cases hi with
       | none=>
        simp only [bound,oI] at vt;subst vt;simp [Instr.slice,run_underlying hu,Instr.sliceBounds,hz,run_sliceBound,h1,h2]
       | some y=>
        obtain ⟨k',hy⟩:=eB h vt;have h0:0<=g:=by omega
        simp [Instr.slice,run_underlying hu,Instr.sliceBounds,hz,hy,run_sliceBound,h0,h1,h2,h3,eg]
     simp only [execOp,e1,Option.map_none,Sem.run_bind,hr,Result.andThen_ok,Sem.run_pure]
    ·cases he
   ·rename_i e es tk n b et e' kL zz hx hf;split at he
    ·rename_i MB;have MB:e=e':=sU MB;subst MB;split at he
     ·rename_i l g hlo vt;simp only [oI] at he;subst he;obtain ⟨⟨h1,h2,h3⟩,hk⟩:=hp;refine ⟨_,hk,?_⟩;have e1:=bm h hx;unfold Rv at e1;obtain ⟨bb,n',cap,e1,⟨rfl,OJ⟩,hr,_⟩:=e1;obtain ⟨hu,ii,zv,zd,_,cK,_,_⟩:=fV hT hf;have pk:jF X.P et=some e:=by rw [gH zd,cK]
      have bV:∀ w',(Instr.sliceAt t (.slice bb es.length cap) (lo.map a.eval) (hi.map a.eval) none).run X.P w' = .ok (.slice (if cap=l.toNat then bb else bb.map (·.add (l.toNat * e))) (g.toNat - l.toNat) (cap - l.toNat)) w':=by
       intro w'
       have qJ:∀ x y,(Instr.sliceAt t (.slice bb es.length cap) x y none).run X.P w'=(Instr.slice t (.slice bb es.length cap) x y none).run X.P w':=by
        intro x y;simp [Instr.sliceAt,run_underlying hu]
       rw [qJ];have QN:g<=(cap:Int):=by omega
       cases lo with
       | none=>
        simp only [bound,oI] at hlo;subst hlo
        cases hi with
        | none=>
         simp only [bound,oI] at vt;subst vt;simp [Instr.slice,run_underlying hu,Instr.sliceBounds,aX pk]
        | some y=>
         obtain ⟨k,hy⟩:=eB h vt;simp [Instr.slice,run_underlying hu,Instr.sliceBounds,hy,run_sliceBound,h2,QN,aX pk]
       | some z=>
        obtain ⟨k,hz⟩:=eB h hlo
        cases hi with
        | none=>
         simp only [bound,oI] at vt;subst vt;simp [Instr.slice,run_underlying hu,Instr.sliceBounds,hz,run_sliceBound,h1,h2,aX pk]
        | some y=>
         obtain ⟨k',hy⟩:=eB h vt;have h0:0<=g:=by omega
         have eg:(g.toNat:Int)=g:=Int.toNat_of_nonneg h0;simp [Instr.slice,run_underlying hu,Instr.sliceBounds,hz,hy,run_sliceBound,h0,h1,h2,QN,eg,aX pk]
      refine ⟨_,?_,fun w' _=>by simp only [execOp,e1,Option.map_none,Sem.run_bind,bV w',Result.andThen_ok,Sem.run_pure];rfl⟩;unfold Rv;have hlen:((es.take g.toNat).drop l.toNat).length=g.toNat - l.toNat:=by simp;omega
      refine ⟨_,_,_,rfl,⟨hlen.symm,by omega⟩,fun bF=>?_,fun k hk=>by cases hk⟩
      have az:l.toNat < g.toNat:=by
       have:=List.length_pos_iff.2 bF;omega
      have hne':es ≠ []:=by rintro rfl;simp at bF
      obtain ⟨fh,tG⟩:=hr hne';have hb:=rU fh;rw [af (by omega),hb];refine ⟨?_,?_⟩
      ·simp [okA,Addr.add_lit]
      ·simp only [Option.map_some,Addr.add_lit,ab,ao];refine Mx fun j cs hj=>?_;rw [List.getElem?_drop,cJ] at hj;split at hj
       ·have:=tG.get hj
        grind
       ·cases hj
     ·cases he
    ·cases he
   ·rename_i j off n1 b1 n2 e zz1 hx BW;split at he
    ·rename_i l g hlo vt;simp only [oI] at he;subst he;obtain ⟨⟨h1,h2,h3⟩,hk⟩:=hp;refine ⟨_,hk,?_⟩;have e1:=bm h hx;unfold Rv at e1;obtain ⟨b,hb,e1⟩:=e1;obtain ⟨et2,VW,cK⟩:=pD hT BW
     have bV:∀ w',(Instr.sliceAt t (.pointer (some ⟨b,off,none⟩)) (lo.map a.eval) (hi.map a.eval) none).run X.P w' = .ok (.slice (some (if n2 - l.toNat=0 then ⟨b,off,none⟩ else (⟨b,off,none⟩:Addr).add (l.toNat * e))) (g.toNat - l.toNat) (n2 - l.toNat)) w':=by
      intro w';have hif:∀ (m:Nat) (p q:Addr),m=n2->l.toNat<=n2->(if m=l.toNat then p else q)=(if n2 - l.toNat=0 then p else q):=by grind
      rw [<- hif n2 _ _ rfl (by omega)]
      cases lo with
      | none=>
       simp only [bound,oI] at hlo;subst hlo
       cases hi with
       | none=>
        simp only [bound,oI] at vt;subst vt;simp [Instr.sliceAt,run_underlying VW,Instr.sureAddr,Instr.sliceBounds,aX cK]
       | some y=>
        obtain ⟨k,hy⟩:=eB h vt;simp [Instr.sliceAt,run_underlying VW,Instr.sureAddr,Instr.sliceBounds,hy,run_sliceBound,h2,h3,aX cK]
      | some z=>
       obtain ⟨k,hz⟩:=eB h hlo
       cases hi with
       | none=>
        simp only [bound,oI] at vt;subst vt;simp [Instr.sliceAt,run_underlying VW,Instr.sureAddr,Instr.sliceBounds,hz,run_sliceBound,h1,h2,aX cK]
       | some y=>
        obtain ⟨k',hy⟩:=eB h vt;have h0:0<=g:=by omega
        have eg:(g.toNat:Int)=g:=Int.toNat_of_nonneg h0;simp [Instr.sliceAt,run_underlying VW,Instr.sureAddr,Instr.sliceBounds,hz,hy,run_sliceBound,h0,h1,h2,h3,eg,aX cK]
     refine ⟨_,?_,fun w' _=>by simp only [execOp,e1,Option.map_none,Sem.run_bind,bV w',Result.andThen_ok,Sem.run_pure];rfl⟩;unfold Rv;refine ⟨b,_,hb,by omega,rfl,fun hc=>?_⟩;rw [af hc,Addr.add_lit]
    ·cases he
   ·rename_i j off n b et zz hx hf;split at he
    ·rename_i n1 b1 n2 e zz1 BW;split at he
     ·rename_i l g hlo vt;simp only [oI] at he;subst he;obtain ⟨⟨h1,h2,h3⟩,hk⟩:=hp;refine ⟨_,hk,?_⟩;have e1:=bm h hx;unfold Rv at e1;obtain ⟨b,hb,e1⟩:=e1;have hu:=tv hT hf;obtain ⟨et2,VW,cK⟩:=pD hT BW
      have bV:∀ w',(Instr.sliceAt t (.pointer (some ⟨b,off,none⟩)) (lo.map a.eval) (hi.map a.eval) none).run X.P w' = .ok (.slice (some (if n2=l.toNat then ⟨b,off,none⟩ else (⟨b,off,none⟩:Addr).add (l.toNat * e))) (g.toNat - l.toNat) (n2 - l.toNat)) w':=by
       intro w'
       have qJ:∀ x y,(Instr.sliceAt t (.pointer (some ⟨b,off,none⟩)) x y none).run X.P w'=(Instr.slice t (.pointer (some ⟨b,off,none⟩)) x y none).run X.P w':=by
        intro x y;simp [Instr.sliceAt,run_underlying hu,Instr.sureAddr]
       rw [qJ]
       cases lo with
       | none=>
        simp only [bound,oI] at hlo;subst hlo
        cases hi with
        | none=>
         simp only [bound,oI] at vt;subst vt;simp [Instr.slice,run_underlying hu,run_underlying VW,asAddr,Instr.sliceBounds,aX cK]
        | some y=>
         obtain ⟨k,hy⟩:=eB h vt;simp [Instr.slice,run_underlying hu,run_underlying VW,asAddr,Instr.sliceBounds,hy,run_sliceBound,h2,h3,aX cK]
       | some z=>
        obtain ⟨k,hz⟩:=eB h hlo
        cases hi with
        | none=>
         simp only [bound,oI] at vt;subst vt;simp [Instr.slice,run_underlying hu,run_underlying VW,asAddr,Instr.sliceBounds,hz,run_sliceBound,h1,h2,aX cK]
        | some y=>
         obtain ⟨k',hy⟩:=eB h vt;have h0:0<=g:=by omega
         have eg:(g.toNat:Int)=g:=Int.toNat_of_nonneg h0;simp [Instr.slice,run_underlying hu,run_underlying VW,asAddr,Instr.sliceBounds,hz,hy,run_sliceBound,h0,h1,h2,h3,eg,aX cK]
      refine ⟨_,?_,fun w' _=>by simp only [execOp,e1,Option.map_none,Sem.run_bind,bV w',Result.andThen_ok,Sem.run_pure];rfl⟩;unfold Rv;refine ⟨b,_,hb,by omega,rfl,fun hc=>?_⟩;rw [af (by omega),Addr.add_lit]
     ·cases he
    ·cases he
   ·cases he
 case convert s t x=>
  split at he
  ·rename_i es tk n1 b1 et kL z1 n2 b2 z2 hx hfs hfd;split at he
   ·rename_i n3 b3 z3 Yp;simp only [oI] at he;subst he;obtain ⟨bs,Ro,hk⟩:=hp;obtain ⟨hu,_⟩:=fV hT hfs;have e1:=bm h hx;unfold Rv at e1;obtain ⟨b,n',cap,e1,⟨rfl,_⟩,hr,_⟩:=e1;refine ⟨_,hk,_,gl rfl,fun w' hC=>?_⟩;simp only [execOp,e1,Sem.run_bind,Sem.run_pure,run_convert_bytes_string w' s t et b es.length cap hu (yw hT Yp) (qF hT hfd)];by_cases bF:es=[]
    ·subst bF
     have:bs=[]:=by
      cases bs with
      | nil=>rfl
      | cons=>simp [u8L] at Ro
     subst this
     cases b with
     | none=>simp [Conv.bytesToString,Result.andThen];rfl
     | some ad=>
      rw [List.length_nil,run_bytesToString w' ad 0 cap [] (by simpa using run_loadCells_list (P:=X.P) (w:=w') ad [] (by simp))];simp [Result.andThen];rfl
    ·obtain ⟨fh,tG⟩:=hr bF;obtain ⟨arr,ha1,VX,ha3⟩:=tG.yZ;have hb:=rU fh;rw [Ro] at ha1;have vu:=ER ha1.1
     have hl:=run_loadCells_list (P:=X.P) (w:=w') ⟨ab b,ao b,none⟩ arr (fun j v hj=>by
      rw [Addr.add_lit]
      exact h.cc _ _ (ha3 j v hj) w' (hC rfl))
     rw [VX,Nat.mul_one,vu] at hl;rw [hb,run_bytesToString w' ⟨ab b,ao b,none⟩ es.length cap _ hl,foldl_push];simp only [Result.andThen];congr 2
   ·cases he
  ·cases he
 case binOp op t x y t'=>
  split at he
  ·rename_i s u hx hy;have e1:=bN (bm h hx);have e2:=bN (bm h hy);split at he
   ·simp only [oI] at he;subst he;obtain ⟨h1,hk⟩:=hp;have hn:¬ (9223372036854775807 < (s.size:Int) + (u.size:Int)):=by omega
    exact ⟨_,hk,_,gl rfl,fun w' _=>by simp [execOp,e1,e2,eqGuard,binOp,Op.stringOp,hn]⟩
   ·cases he
  ·rename_i k1 p' k2 q hx hy;have e1:=cH (bm h hx);have e2:=cH (bm h hy);split at he
   ·simp only [oI] at he;subst he;obtain ⟨⟨rfl,h1⟩,hk⟩:=hp;exact ⟨_,hk,_,gl rfl,fun w' _=>by simp [execOp,e1,e2,eqGuard,binOp,Op.intDiv,h1]⟩
   ·simp only [oI] at he;subst he;obtain ⟨⟨rfl,h1⟩,hk⟩:=hp;exact ⟨_,hk,_,gl rfl,fun w' _=>by simp [execOp,e1,e2,eqGuard,binOp,Op.intDiv,h1]⟩
   ·simp only [oI] at he;subst he;obtain ⟨h1,hk⟩:=hp;have gV:¬ q < 0:=by omega
    exact ⟨_,hk,_,gl rfl,fun w' _=>by simp [execOp,e1,e2,eqGuard,binOp,Op.shift,gV]⟩
   ·simp only [oI] at he;subst he;obtain ⟨h1,hk⟩:=hp;have gV:¬ q < 0:=by omega
    exact ⟨_,hk,_,gl rfl,fun w' _=>by simp [execOp,e1,e2,eqGuard,binOp,Op.shift,gV]⟩
   ·cases he
  ·rename_i l l' hx hy;simp only [oI] at he;subst he;obtain ⟨b,⟨vs,vs',rfl,rfl,bV⟩,hk⟩:=hp;have e1:=bm h hx;have e2:=bm h hy;unfold Rv at e1 e2;obtain ⟨us,e1,hu,_⟩:=e1;obtain ⟨us',e2,hu',_⟩:=e2;rw [J2 hu] at e1;rw [J2 hu'] at e2;refine ⟨_,hk,_,gl rfl,fun w' _=>?_⟩;simp only [execOp,e1,e2,Sem.run_bind,(bV w').1,(bV w').2,Result.andThen_ok,Sem.run_pure]
  ·cases he
theorem mZ {P:Program} {o:Oper} {K:Act->World->Prop} {Q:Exit->Act->World->Prop} {v:Value} {w w':World} (h:(execOp a.eval o).run P w = .ok (.value v) w') (hK:K (a.put o.dst v) w'):o.wp P a w K Q:=by
 unfold Oper.wp;rw [h];exact hK
theorem VY {P:Program} {o:Oper} {K:Act->World->Prop} {Q:Exit->Act->World->Prop} {w w':World} (h:(execOp a.eval o).run P w = .ok .skip w') (hK:K (a.put o.dst undef) w'):o.wp P a w K Q:=by
 unfold Oper.wp;rw [h];exact hK
theorem rvEs_flat:∀ {es:List (List DV)} {E:En} {e b o:Nat} {arr:List Value},RvC E es.flatten arr->(∀ cs∈es,cs.length=e)->(∀ (j:Nat) u,arr[j]? = some u->E.c ⟨b,o + j,none⟩=some u)->RvEs E e b o es
 | [],E,e,b,o,arr,_,_,_=>by simp only [RvEs]
 | cs :: r,E,e,b,o,arr,hc,hl,hm=>by
  simp only [RvEs];have h1:=hl cs (by simp);simp only [List.flatten_cons] at hc;have t1:=hc.take e;have t2:=hc.drop e;rw [List.take_append_of_le_length (by omega),List.take_of_length_le (by omega)] at t1;rw [List.drop_append_of_le_length (by omega),List.drop_eq_nil_of_le (by omega),List.nil_append] at t2;refine ⟨h1,EL t1 fun j u hj=>?_,rvEs_flat t2 (fun c hcm=>hl c (iS _ hcm)) fun j u hj=>?_⟩
  all_goals grind
theorem RvEs.len:∀ {es:List (List DV)} {E:En} {e b o:Nat},RvEs E e b o es->∀ cs∈es,cs.length=e
 | x :: r,E,e,b,o,h,cs,hc=>by
  simp only [RvEs] at h;rcases eU hc with rfl | hc
  ·exact h.1
  ·exact RvEs.len h.2.2 cs hc
theorem ze {d d':DV} {v:Value} (h:eraD d=some d') (hv:Rv E d v):Rv E.cl d' v:=by
 unfold eraD at h;split at h
 ·grind [Rv]
 ·simp only [oI] at h;subst h;unfold Rv at hv ⊢;obtain ⟨b,n,cap,h1,h2,h3,_⟩:=hv;exact ⟨b,n,cap,h1,h2,h3,fun k hk=>by cases hk⟩
 ·simp only [oI] at h;subst h;unfold Rv at hv ⊢;exact hv
 ·cases h
theorem rV {γ:Type}:∀ {l:List DV} {K:List DV->Option γ} {r:γ} {vs:List Value},eraL l K=some r->RvC E l vs->∃ l',K l'=some r/\RvC E.cl l' vs/\l'.length=l.length
 | [],K,r,vs,h,hv=>by
  simp only [RvC,RvL] at hv;obtain ⟨rfl,_⟩:=hv;exact ⟨[],h,⟨cW _,by simp⟩,rfl⟩
 | d :: l,K,r,vs,h,hv=>by
  simp only [eraL] at h;split at h
  ·rename_i d' hd;obtain ⟨hv,h1⟩:=hv;simp only [RvL] at hv;obtain ⟨v,s,rfl,h2,h3⟩:=hv;obtain ⟨l',h4,h5,h6⟩:=rV h ⟨h3,fun u hu=>h1 u (iS _ hu)⟩;exact ⟨d' :: l',h4,⟨rvL_cons (ze hd h2) h5.1,h1⟩,by simp [h6]⟩
  ·cases h
theorem rW {C:World->Prop} (h:Rl E st.bx C st.sl a) {e:Nat} (he:0 < e):∀ {parts:List (Nat × Operand)} {i:Nat} {es:List (List DV)},litL e st parts i=some es ->
  ∃ xs vs,parts=enumF i xs/\vs=xs.map a.eval/\vs.length=es.length/\(∀ v∈vs,v.cells.toList.length=e)/\RvC E.cl es.flatten (cellsL vs)/\∀ cs∈es,cs.length=e
 | [],i,es,hl=>by
  simp only [litL,oI] at hl;subst hl;exact ⟨[],[],rfl,rfl,rfl,by simp,⟨cW _,by simp [cellsL]⟩,by simp⟩
 | (j,x) :: r,i,es,hl=>by
  simp only [litL] at hl;split at hl
  ·rename_i d l hj hx hr;split at hl
   ·rename_i hlen;have hlen:d.cells.length=e:=sU hlen;have hji:j=i:=sU hj;subst hji;have hv:=(bm h hx).cells (iG hlen (by omega));obtain ⟨cs,hK,cx,fX⟩:=rV hl hv;simp only [oI] at hK;subst hK;obtain ⟨xs,vs,h1,h2,h3,h4,h5,h6⟩:=rW h he hr;refine ⟨x :: xs,a.eval x :: vs,by rw [h1];rfl,by rw [h2];rfl,by simp [h3],?_,by simpa [cellsL] using cx.append h5,?_⟩
    ·intro v hvm;rcases eU hvm with rfl | hvm
     ·rw [hv.1.length];exact hlen
     ·exact h4 v hvm
    all_goals grind
   ·cases hl
  ·cases hl
structure J3 (t:Option Nat) (E:En) (w:World) (E':En) (w':World):Prop where
 x:Ext E E'
 β:∃ r,E'.β=E.β ++ r
 o:∀ (i:Nat) b,E.β[i]? = some b->t≠some i->w'.heap[b]? = w.heap[b]?
def stObj (st:St):Op->Option Nat
 | .store _ x _=>
  match rv st [] x with
  | some (.loc i _)=>some i
  | some (.el i _)=>some i
  | _=>none
 | _=>none
def wq (P:Program) (o:Oper) (a:Act) (w:World) (K:Act->World->Prop):Prop:=
 match (execOp a.eval o).run P w with
 | .ok (.value v) w'=>K (a.put o.dst v) w'
 | .ok .skip w'=>K (a.put o.dst undef) w'
 | .ok (.enter f args) w'=>Calls P f args w' fun e w''=>∃ v,e = .returned v/\K (a.put o.dst v) w''
 | _=>False
theorem G1 {P:Program} {o:Oper} {a:Act} {w:World} {K:Act->World->Prop} {Q:Exit->Act->World->Prop} (h:wq P o a w K):o.wp P a w K Q:=by
 unfold wq at h;unfold Oper.wp;split at h
 ·rename_i hr;rw [hr];exact h
 ·rename_i hr;rw [hr];exact h
 ·rename_i hr;rw [hr,Oper.upon_enter];refine h.mono ?_;rintro e w' ⟨v,rfl,hk⟩;exact hk
 ·exact h.elim
theorem kA {P:Program} {o:Oper} {a:Act} {w:World} {K K':Act->World->Prop} (hk:∀ a w,K a w->K' a w) (h:wq P o a w K):wq P o a w K':=by
 unfold wq at *;split at h
 ·exact hk _ _ h
 ·exact hk _ _ h
 ·refine h.mono ?_
  grind
 ·exact h.elim
theorem eV {P:Program} {o:Oper} {K:Act->World->Prop} {v:Value} {w w':World} (h:(execOp a.eval o).run P w = .ok (.value v) w') (hK:K (a.put o.dst v) w'):wq P o a w K:=by
 unfold wq;rw [h];exact hK
theorem qK {P:Program} {o:Oper} {K:Act->World->Prop} {w w':World} (h:(execOp a.eval o).run P w = .ok .skip w') (hK:K (a.put o.dst undef) w'):wq P o a w K:=by
 unfold wq;rw [h];exact hK
theorem J3.same (E:En) (w:World) (t:Option Nat):J3 t E w E w:=⟨Ext.refl E,⟨[],by simp⟩,fun _ _ _ _=>rfl⟩
theorem madeCells_list (z:Array Value):∀ n:Nat,(madeCells z (n * z.size)).toList=(List.replicate n z.toList).flatten
 | 0=>by simp [madeCells]
 | n + 1=>by
  have ih:=madeCells_list z n;simp only [madeCells,Array.toList_map,Array.toList_range] at ih ⊢;rw [Nat.add_mul,Nat.one_mul,List.range_add,List.map_append,ih,List.replicate_succ',List.flatten_append];congr 1;simp only [List.map_map,List.flatten_cons,List.flatten_nil,List.append_nil];apply List.ext_getElem
  ·simp
  ·intro i h1 h2;simp only [List.length_map,List.length_range] at h1;simp only [List.getElem_map,List.getElem_range,Function.comp];rw [Nat.add_comm,Nat.add_mul_mod_self_right,Nat.mod_eq_of_lt h1,getElem!_pos z i h1];simp
theorem rvC_rep {E:En} {l:List DV} {vs:List Value} (h:RvC E l vs):∀ n:Nat,RvC E (List.replicate n l).flatten (List.replicate n vs).flatten
 | 0=>⟨cW E,by simp⟩
 | n + 1=>by
  simp only [List.replicate_succ,List.flatten_cons];exact h.append (rvC_rep h n)
theorem Cz (E:En) (b o:Nat):∀ n:Nat,RvEs E 0 b o (List.replicate n [])
 | 0=>by simp [RvEs]
 | n + 1=>by
  simp only [List.replicate_succ,RvEs];exact ⟨rfl,by simp only [RvAt],Cz E b (o + 0) n⟩
theorem lj {G:St->Prop} {o:Oper} {p:Prop} (hd:fU X.nt st.sl o.dst=true) (h:Rel X E st a w) (eC:effC X st o G=some p) (he:p) :
  wq X.P o a w fun a' w'=>∃ st' E',G st' /\ Rel X E' st' a' w' /\ J3 (stObj st o.op) E w E' w':=by
 have hT:=X.hT;have gW:=h.rl;unfold effC at eC;split at eC
 ·rename_i p' hr;simp only [oI] at eC;subst eC;obtain ⟨y,hk,v,hv,bV⟩:=oh gW hr he;rw [qE] at hk;exact eV (bV w fun _=>rfl) ⟨_,_,hk,bu h hd y v hv,J3.same _ _ _⟩
 ·rename_i hnr;have hst:X.still=false:=by grind
  rw [hst] at eC;simp only at eC;clear hnr;obtain ⟨dst,op,ty,pos,after,gu⟩:=o;cases op
  case box t x=>
   simp only at eC;split at eC
   ·rename_i d t' hx;split at eC
    ·cases eC
    ·rename_i c r hc;split at eC
     ·rename_i hbt;simp only [oI] at eC;subst eC;rw [Ms] at he;have hv:=bm gW hx;have hvc:=hv.cells (GS (by rw [hc];simp));rw [hc] at hvc;refine eV (v:=.pointer (some ⟨w.heap.size,0,none⟩)) (w':=w.alloc (.cells (a.eval x).cells t)) ?_ ?_
      ·simp [execOp,Instr.box,newVar,newRow]
      ·have:=Mz h hst hd hvc t hbt;simp only [Array.toArray_toList] at this;exact ⟨_,_,he,this,qH E _,⟨_,rfl⟩,fun i b hb _=>alloc_old w _ (h.env.bw (mG hb))⟩
     ·cases eC
   ·cases eC
  case alloc t=>
   simp only at eC;split at eC
   ·rename_i n b kd z d hf;split at eC
    ·rename_i hbt;simp only [oI] at eC;subst eC;rw [Ms] at he;obtain ⟨zv,hz,OG,hz1,_⟩:=qG hT hf;refine eV (v:=.pointer (some ⟨w.heap.size,0,none⟩)) (w':=w.alloc (.cells zv.cells t)) ?_ ?_
     ·simp [execOp,Instr.alloc,newVar,newRow,vg hz]
     ·have:=Mz h hst hd (rvC_vL (E:=E) hz1) t hbt;have e1:(List.toArray z)=zv.cells:=by apply Array.ext';simpa using OG.symm
      simp only [e1] at this;exact ⟨_,_,he,this,qH E _,⟨_,rfl⟩,fun i b hb _=>alloc_old w _ (h.env.bw (mG hb))⟩
    ·cases eC
   ·cases eC
  case store t x y=>
   simp only at eC;split at eC
   ·rename_i i off d n hx hy hn;split at eC
    ·rename_i cs cx;simp only [oI] at eC;subst eC;cases hc:(Nat.blt 0 n && Nat.beq d.cells.length n && Nat.ble (off + n) cs.length)
     ·exact (he.f hc).elim
     ·have he:=he.t hc;simp only [bh,Nat.beq_eq,Nat.ble_eq,Nat.blt_eq] at hc;rw [qE] at he;simp only [Mt,yv] at he;have hn:=Ct hT hn;have e1:=bm gW hx;unfold Rv at e1;obtain ⟨b,hb,e1⟩:=e1;have e2:=bm gW hy;have hvc:=e2.cells (iG hc.1.2 (by omega));obtain ⟨b',Gy,arr,fj,hw,hca⟩:=h.env.eQ i cs cx;rw [hb] at fj;simp only [oI] at fj;subst fj;have Yq:arr.length=cs.length:=hca.1.length;have zf:(a.eval y).cells.toList.length=n:=by rw [hvc.1.length];exact hc.1.2
      have Vv:=iT (P:=X.P) (off:=off) hw hn zf (by simp;omega) (List.all_eq_true.2 hvc.2);refine qK (w':=World.dc w b (.cells ((arr.take off ++ (a.eval y).cells.toList ++ arr.drop (off + n)).toArray) Gy (0,0))) ?_ ?_
      ·simp only [execOp,e1,Instr.storeAt,Instr.sureAddr,Sem.run_bind,Sem.run_pure,Result.andThen_ok,Vv]
      ·have dO:RvC E (cs.take off ++ d.cells ++ cs.drop (off + d.cells.length)) (arr.take off ++ (a.eval y).cells.toList ++ arr.drop (off + n)):=by
        rw [hc.1.2];exact ((hca.take off).append hvc).append (hca.drop _)
       have h1:=kM (ty:=Gy) h hst hb dO ⟨_,hw⟩;have h2:=bu h1 hd .ud undef (xj E);refine ⟨_,E,he,?_,Ext.refl E,⟨[],by simp⟩,fun i' b' fj bF=>?_⟩
       ·cases dst<;>simpa [St.put] using h2
       ·refine cV ?_;rintro rfl;refine bF ?_;simp only [stObj,hx];rw [(List.getElem?_inj (gS hb).1 h.env.inj).1 (hb.trans fj.symm)]
    ·cases eC
   ·rename_i i off d n hx hy hn;split at eC
    ·rename_i cs cx;simp only [oI] at eC;subst eC;cases hc:(Nat.blt 0 n && Nat.beq d.cells.length n)
     ·exact (he.f hc).elim
     ·obtain ⟨fO,he⟩:=he.t hc;simp only [bh,Nat.beq_eq,Nat.blt_eq] at hc;rw [qE] at he;simp only [Mt] at he;rw [Rg _ _ _ _ (by omega)] at he;have hn:=Ct hT hn;have e1:=bm gW hx;unfold Rv at e1;obtain ⟨b,hb,e1⟩:=e1;have e2:=bm gW hy;have hvc:=e2.cells (iG hc.2 (by omega));obtain ⟨b',Gy,arr,fj,hw,hca⟩:=h.env.eQ i cs cx;rw [hb] at fj;simp only [oI] at fj;subst fj;have Yq:arr.length=cs.length:=hca.1.length;have zf:(a.eval y).cells.toList.length=n:=by rw [hvc.1.length];exact hc.2
      have Vv:=iT (P:=X.P) (off:=off) hw hn zf (by simp;omega) (List.all_eq_true.2 hvc.2);refine qK (w':=World.dc w b (.cells ((arr.take off ++ (a.eval y).cells.toList ++ arr.drop (off + n)).toArray) Gy (0,0))) ?_ ?_
      ·simp only [execOp,e1,Instr.storeAt,Instr.sureAddr,Sem.run_bind,Sem.run_pure,Result.andThen_ok,Vv]
      ·have dO:RvC E (cs.take off ++ d.cells ++ cs.drop (off + d.cells.length)) (arr.take off ++ (a.eval y).cells.toList ++ arr.drop (off + n)):=by
        rw [hc.2];exact ((hca.take off).append hvc).append (hca.drop _)
       have h1:=kM (ty:=Gy) h hst hb dO ⟨_,hw⟩;have h2:=bu h1 hd .ud undef (xj E);refine ⟨_,E,he,?_,Ext.refl E,⟨[],by simp⟩,fun i' b' fj bF=>?_⟩
       ·cases dst<;>simpa [St.put] using h2
       ·refine cV ?_;rintro rfl;refine bF ?_;simp only [stObj,hx];rw [(List.getElem?_inj (gS hb).1 h.env.inj).1 (hb.trans fj.symm)]
    ·cases eC
   ·cases eC
  case buildSlice t len parts=>
   simp only at eC;split at eC
   ·rename_i n b et e kL z d hf;split at eC
    ·cases eC
    split at eC
    ·rename_i es tG;split at eC
     ·rename_i hc;simp only [bh,Nat.beq_eq,Nat.ble_eq,Nat.blt_eq] at hc;obtain ⟨hlen,⟨lk,G2⟩,hsm⟩:=hc;simp only [oI] at eC;subst eC;rw [qE] at he;obtain ⟨hu,ii,zv,zd,hz,cK,BL,OC⟩:=fV hT hf;obtain ⟨xs,vs,hp,vu,zf,fX,hrc,Gz⟩:=rW gW G2 tG;subst cK
      have OG:len * ii.size≠0:=by
       have:=Nat.mul_pos lk G2;omega
      have mV:Instr.fill (fun i=>some (i * ii.size,ii.size)) ((Array.range (len * ii.size)).map (zv.cells[·% zv.cells.size]!)) (parts.map fun (i,x)=>(i,a.eval x)).toList=some (cellsL vs).toArray:=by
       have h0:=tf ii.size vs 0 ((Array.range (len * ii.size)).map (zv.cells[·% zv.cells.size]!)).toList fX (by simp [zf,hlen])
       have h1:(parts.map fun (i,x)=>(i,a.eval x)).toList=enumF 0 vs:=by
        rw [Array.toList_map,hp,vu,<- vk]
       rw [h1];simp only [Array.toArray_toList] at h0;rw [h0];simp [zf,hlen]
      have bV:(execOp a.eval ⟨some d,.buildSlice t len parts,ty,pos,after,gu⟩).run X.P w = .ok (.value (.slice (some ⟨w.heap.size,0,none⟩) len len)) (w.alloc (.cells (cellsL vs).toArray et)):=by
       unfold execOp;simp only [Sem.run_bind,run_buildSlice w t et len _ _ ii zv hu zd hz (by omega) OG mV,Result.andThen_ok,Sem.run_pure]
      have hr:=vo (arr:=cellsL vs) h hst et
      have fO:∀ x v,E.c x=some v->fJ E.c (w.alloc (.cells (cellsL vs).toArray et)) w.heap.size (cellsL vs).length x=some v:=fun x v hx=>by
       have az:=World.block_lt_of_cell? w x (h.env.sub x v hx);unfold fJ;rw [af (by omega)];exact hx
      refine eV bV ⟨_,_,he,bu hr hd (.sl ii.size es none) (.slice (some ⟨w.heap.size,0,none⟩) len len) ?_,⟨fO,fun _ _ h=>h,fun k q h=>⟨q,h,.inl ⟨rfl,rfl⟩⟩⟩,⟨[],by simp⟩,fun i b hb _=>alloc_old w _ (h.env.bw (mG hb))⟩;unfold Rv;refine ⟨_,_,_,rfl,⟨hlen.symm,zLeR _⟩,fun bF=>⟨rfl,?_⟩,fun k hk=>by cases hk⟩
      have hm:RvC (En.cl ⟨fJ E.c (w.alloc (.cells (cellsL vs).toArray et)) w.heap.size (cellsL vs).length,E.β,E.tk,E.τ⟩) es.flatten (cellsL vs):=by
       exact hrc.mono (Ext.VS (E:=E) fO)
      refine rvEs_flat hm Gz fun j u hj=>?_;show fJ _ _ _ _ _=_;have ku:=(gS hj).1;simp only [ab,ao,Nat.zero_add];rw [yy ku,cO (iF w _)];simpa using hj
     ·cases eC
    ·cases eC
   ·cases eC
  case makeSlice t l c=>
   simp only at eC;split at eC
   ·rename_i n0 b0 et e kL z0 kl n kc m d hf hl hc;split at eC
    ·rename_i sz b1 kd z BW G2;split at eC
     ·cases eC
     ·rename_i hbt;simp only [oI] at eC;subst eC;obtain ⟨⟨rfl,h0,hb,Vt⟩,hk⟩:=he;rw [Mu] at hk;obtain ⟨hu,ii,zv,hi,hz,cK,BL,OC⟩:=fV hT hf;obtain ⟨zv',hz',OG,hz1,_⟩:=qG hT BW;have sX:zv'=zv:=by grind [Co]
      subst sX;have G2:0 < e:=sU G2;have el:=bN (bm gW hl);have ec:=bN (bm gW hc);have hr:=run_make (P:=X.P) w t et ii zv' hu hi hz kl kc n n h0 (Int.le_refl _) (by rw [BL];exact hb) (by omega);refine eV (v:=.slice (some ⟨w.heap.size,0,none⟩) n.toNat n.toNat) (w':=w.alloc (.cells (madeCells zv'.cells (n.toNat * ii.size)) et)) ?_ ?_
      ·simp only [execOp,el,ec,Sem.run_bind,Sem.run_pure,Result.andThen_ok,hr]
      ·have h1:=y9 h hst (rvC_rep (rvC_vL (E:=E) hz1) n.toNat) et hbt;have e1:(List.replicate n.toNat z).flatten.toArray=madeCells zv'.cells (n.toNat * ii.size):=by grind [madeCells_list]
       rw [e1] at h1;refine ⟨_,_,hk,bu h1 hd (.ms st.bx.length e 0 n.toNat n.toNat) _ ?_,qH E _,⟨_,rfl⟩,fun i b hb _=>alloc_old w _ (h.env.bw (mG hb))⟩;unfold Rv;refine ⟨w.heap.size,_,?_,zLeR _,rfl,fun _=>rfl⟩;show (E.β ++ [w.heap.size])[st.bx.length]? = _;rw [List.getElem?_append_right (by rw [h.env.len];omega),h.env.len];simp
    ·cases eC
   ·cases eC
  case convert s t x=>
   simp only at eC;split at eC
   ·rename_i i off n cap n1 b1 et kL z1 n2 b2 z2 dd hx hfs hfd;split at eC
    ·rename_i cs n3 b3 z3 cx Yp;simp only [oI] at eC;subst eC;obtain ⟨bs,Ro,hbl,hk⟩:=he;rw [qE] at hk;obtain ⟨hu,_⟩:=fV hT hfs;have e1:=bm gW hx;unfold Rv at e1;obtain ⟨b,ad,hb,hlc,e1,hca⟩:=e1;obtain ⟨b',Gy,arr,fj,hw,sY⟩:=h.env.eQ i cs cx;rw [hb] at fj;simp only [oI] at fj;subst fj
     have bV:(execOp a.eval ⟨some dd,.convert s t x,ty,pos,after,gu⟩).run X.P w = .ok (.value (.string ⟨bs.toArray⟩)) w:=by
      simp only [execOp,e1,Sem.run_bind,Sem.run_pure,run_convert_bytes_string w s t et ad n cap hu (yw hT Yp) (qF hT hfd)]
      have vu:RvL E (u8L bs) ((arr.drop off).take n):=by
       rw [<- Ro];exact ((sY.drop off).take n).1
      have adF:=ER vu;by_cases hn:n=0
      ·subst hn;have:bs=[]:=List.eq_nil_of_length_eq_zero hbl;subst this
       cases ad with
       | none=>simp [Conv.bytesToString,Result.andThen];rfl
       | some ad=>
        rw [run_bytesToString w ad 0 cap [] (by simpa using run_loadCells_list (P:=X.P) (w:=w) ad [] (by simp))];simp [Result.andThen];rfl
      ·have had:=hca (by omega);subst had
       have hl:=run_loadCells_list (P:=X.P) (w:=w) ⟨b,off,none⟩ ((arr.drop off).take n) (fun j v hj=>by
        rw [Addr.add_lit,cO hw];rw [cJ] at hj;split at hj
        ·rw [List.getElem?_drop] at hj;simpa using hj
        ·cases hj)
       have hlen:((arr.drop off).take n).length=n:=by rw [adF];simpa using hbl
       rw [hlen,adF] at hl;rw [run_bytesToString w ⟨b,off,none⟩ n cap _ hl,foldl_push];simp only [Result.andThen];congr 2
     refine eV bV ⟨_,_,hk,bu h hd (.v _) _ (by unfold Rv;exact ⟨rfl,rfl⟩),J3.same _ _ _⟩
    ·cases eC
   ·cases eC
  case call c=>
   obtain ⟨callee,args,argTypes⟩:=c;simp only at eC;split at eC
   ·split at eC
    ·rename_i s x t t' d hargs aac;have ea:args = #[s,x]:=Array.ext' (sU hargs);have et0:argTypes = #[t,t']:=Array.ext' (sU aac);subst ea et0;split at eC
     ·rename_i n b et e kL z ds e' xs tk hf htt hs hx;have htt:t=t':=sU htt;subst htt;split at eC
      ·rename_i MB;simp only [bh,Nat.beq_eq,Nat.blt_eq] at MB;obtain ⟨rfl,G2⟩:=MB;obtain ⟨hu,ii,zv,zd,hz,cK,BL,OC⟩:=fV hT hf;have e2:=bm gW hx;unfold Rv at e2;obtain ⟨bx,nx,Rp,e2,⟨rfl,hxc⟩,hxr,_⟩:=e2;split at eC
       ·unfold appMs at eC;split at eC
        case h_2=>cases eC
        rename_i n1 b1 kd1 z BW hbt;simp only [oI] at eC;subst eC;obtain ⟨⟨bF,mb,iI⟩,hk⟩:=he;obtain ⟨fh,CA⟩:=hxr bF;obtain ⟨arr,ha1,VX,ha3⟩:=CA.yZ;have lV:=rU fh;have MC:0 < xs.length:=List.length_pos_iff.2 bF;obtain ⟨zv',hz',OG,hz1,_⟩:=qG hT BW;have sX:zv'=zv:=by grind [Co]
        subst sX;have ev:=bN (bm gW hs);obtain ⟨OJ,hr⟩:=yW (P:=X.P) w t ty et ii zv' e kL hu zd hz cK BL OC G2 ⟨ab bx,ao bx,none⟩ xs.length Rp arr VX (fun j u hj=>by rw [Addr.add_lit];exact h.env.sub _ _ (ha3 j u hj)) ha1.2 MC mb iI;have hk:=hk _ OJ;rw [Mu] at hk;refine eV (v:=.slice (some ⟨w.heap.size,0,none⟩) xs.length (grownCap w xs.length 0 et)) (w':=w.drew.alloc (.cells (arr.toArray ++ madeCells zv'.cells ((grownCap w xs.length 0 et - xs.length) * zv'.cells.size)) et)) ?_ ?_
        ·unfold execOp;rw [lV] at e2;simp only [resolve,invoke,builtin,Sem.run_bind,Sem.run_pure,Result.andThen_ok,List.map_toArray,List.map_cons,List.map_nil,ev,e2,hr];rfl
        ·have h1:=y9 (mX h) hst ((ha1.mono (Ext.un E)).append (rvC_rep (rvC_vL (E:=E) hz1) (grownCap w xs.length 0 et - xs.length))) et (by rw [hbt];rfl);have e1:(arr ++ (List.replicate (grownCap w xs.length 0 et - xs.length) z).flatten).toArray=arr.toArray ++ madeCells zv'.cells ((grownCap w xs.length 0 et - xs.length) * zv'.cells.size):=by grind [madeCells_list]
         rw [e1] at h1;refine ⟨_,_,hk,bu h1 hd (.ms st.bx.length e 0 xs.length (grownCap w xs.length 0 et)) _ ?_,qH E _,⟨_,rfl⟩,fun i b hb _=>alloc_old w.drew _ (h.env.bw (mG hb))⟩;unfold Rv;refine ⟨w.heap.size,_,?_,OJ,rfl,fun _=>rfl⟩;show (E.β ++ [w.heap.size])[st.bx.length]? = _;rw [List.getElem?_append_right (by rw [h.env.len];omega),h.env.len];simp
       split at eC
       ·rename_i hod;clear hod;simp only [oI] at eC;subst eC;unfold appOwn at he;split at he
        case h_2=>exact he.elim
        rename_i es k;split at he
        case h_2=>exact he.elim
        rename_i n Gy e' cs hq;split at he
        case h_2=>exact he.elim
        rename_i hc;simp only [bh,Nat.beq_eq] at hc;obtain ⟨rfl,rfl⟩:=hc;obtain ⟨⟨⟨hn,bF⟩,mb,iI⟩,vv⟩:=he;rw [yu] at vv;have e1:=bm gW hs;unfold Rv at e1;obtain ⟨bs,ns,nb,e1,⟨rfl,nc⟩,Yr,zg⟩:=e1;obtain ⟨q',mY,_,hτk⟩:=zg k rfl;have kN:E.tk[k]? = some ⟨n,Gy,e',some cs⟩:=by rw [h.tk];exact hq
        rw [kN] at mY;simp only [oI] at mY;subst mY;have hy:=hτk hn;rw [e1] at hy;rw [hn] at hy e1;obtain ⟨fh,CA⟩:=hxr bF;obtain ⟨arr,ha1,VX,ha3⟩:=CA.yZ;have lV:=rU fh;have MC:0 < xs.length:=List.length_pos_iff.2 bF
        have vw:∃ cells,w.ownsRow 0 Gy e' (.slice bs n nb) n cells/\RvC E.cl cs cells:=by
         rcases h.env.dh k _ _ kN hy with ⟨qI,tj,ho0⟩ | ⟨g0,aap,Rq,qI,sZ,⟨xm,G3⟩,zh,BX,ib,J4⟩
         ·have cx:=ho0 cs rfl;simp only at tj;subst cx tj;exact ⟨[],⟨by simp,.inl ⟨qI,rfl⟩⟩,cW _,by simp⟩
         ·obtain ⟨h5,h6⟩:=G3 cs rfl;exact ⟨_,⟨by rw [h6.1.length,h5],.inr ⟨g0,aap,Rq,qI,Nat.zero_le _,sZ,zh,BX,xm,rfl⟩⟩,h6⟩
        obtain ⟨cells,dW,aaq⟩:=vw;obtain ⟨g,cap,w',hr,g2,g3,g4⟩:=kh (P:=X.P) w t ty Gy ii zv e' kL hu zd hz cK BL OC G2 (.slice bs n nb) n cells dW ⟨ab bx,ao bx,none⟩ xs.length Rp arr VX (fun j u hj=>by rw [Addr.add_lit];exact h.env.sub _ _ (ha3 j u hj)) ha1.2 MC mb iI;have hold:∀ g0,(Value.slice bs n nb).ownBlock=some g0->g0 < w.heap.size/\g0 ∉ E.β:=fun g0 GW=>jH (h.env.dh k _ _ kN hy) GW
        have hgβ:g ∉ E.β:=by
         rcases g4 with g4 | g4
         ·exact (hold g g4).2
         ·intro hm;have:=h.env.bw hm;omega
        have QQ:GQ w' E.c E.β ⟨n + xs.length,Gy,e',some (cs ++ xs.flatten)⟩ (.slice (some ⟨g,0,none⟩) (n + xs.length) cap):=by
         rcases g2.2 with ⟨hv,_⟩ | ⟨g',adC,cur,hv,_,VU,Cq,hcm,cx,htake⟩
         ·cases hv
         ·injection hv with yx JY hv3
          injection yx with yx
          injection yx with yx
          subst yx hv3;refine .inr ⟨g,cap,cur,rfl,VU,⟨cx,fun cs' Cx=>?_⟩,Cq,hcm,hgβ,fun x u hx JH=>?_⟩
          ·simp only [oI] at Cx;subst Cx;have hm:=aaq.append ha1;simp only;refine ⟨by rw [<- hm.1.length,g2.1],?_⟩;rw [htake];exact hm
          ·exfalso;have az:=World.block_lt_of_cell? w x (h.env.sub x u hx);rcases g4 with g4 | g4
           ·rcases h.env.dh k _ _ kN hy with ⟨qI,_⟩ | ⟨g0,aap,Rq,qI,_,_,_,_,_,J4⟩
            ·injection qI with i1 i2 i3
             subst i1;simp [Value.ownBlock] at g4
            ·injection qI with i1 i2 i3
             subst i1;simp only [Value.ownBlock,oI] at g4;have:=J4 x u hx (JH.trans g4.symm);simp only [TkE.kn] at this;omega
           ·rw [JH] at az;omega
        obtain ⟨cg,hext⟩:=EQ h hst (q':=⟨n + xs.length,Gy,e',some (cs ++ xs.flatten)⟩) kN hy rfl rfl rfl (.inr (by simp only;omega)) QQ (by
         rcases g4 with g4 | g4
         ·exact .inl g4.symm
         ·refine .inr fun g0 GW=>?_;simp only [Value.ownBlock,oI] at GW
          omega) g3.os g3.tape g3.output g3.size g3.block
        have bV:(execOp a.eval ⟨some d,.call ⟨.builtin .append,#[s,x],#[t,t]⟩,ty,pos,after,gu⟩).run X.P w = .ok (.value (.slice (some ⟨g,0,none⟩) (n + xs.length) cap)) w':=by
         unfold execOp;rw [lV] at e2;simp only [resolve,invoke,builtin,Sem.run_bind,Sem.run_pure,Result.andThen_ok,List.map_toArray,List.map_cons,List.map_nil,e1,e2,hr]
        refine eV bV ⟨_,_,vv,bu cg hd (.sl 0 (List.replicate (n + xs.length) []) (some k)) _ ?_,hext,⟨[],by simp⟩,fun i b hb _=>?_⟩
        ·unfold Rv;refine ⟨_,_,_,rfl,⟨by simp,?_⟩,fun _=>⟨rfl,?_⟩,?_⟩
         ·rcases QQ with ⟨hv,_⟩ | ⟨_,_,_,hv,_,_,Cq,_⟩
          ·cases hv
          ·injection hv with _ _ i3
           omega
         ·exact Cz _ _ _ _
         ·intro k' iH;cases iH;have il:=(gS kN).1;have hkτ:=(gS hy).1;exact ⟨_,iR il,zLeR _,fun _=>iR hkτ⟩
        ·refine g3.block b (h.env.bw (mG hb)) fun aQ=>?_;exact (hold b aQ.symm).2 (mG hb)
       rename_i hod;clear hod;simp only [oI] at eC;subst eC
       have core:∀ (kt n:Nat) (v:Value) (es:List (List DV)) (cells:List Value) (Zi:List TkE) (τ':List Value),
         xs ≠ []->a.eval s=v->es.length=n->RvC E.cl es.flatten cells->(∀ cs∈es,cs.length=e)->w.ownsRow 0 et e v n cells ->
         ((∃ q,E.tk[kt]? = some q/\E.τ[kt]? = some v/\q.n=n/\q.ty=et/\q.e=e/\q.own=none)∨(E.tk[kt]? = none/\E.τ[kt]? = none/\v = .slice none 0 0/\n=0)) ->
         Zi[kt]? = some ⟨n + xs.length,et,e,none⟩->(∀ j,j≠kt->Zi[j]? = E.tk[j]?)->(∀ y:Value,∃ τ':List Value,τ'[kt]? = some y/\τ'.length=Zi.length/\∀ j,j≠kt->τ'[j]? = E.τ[j]?) ->
         ((es.length + xs.length<=maxLen/\(es.length + xs.length) * kL <= 140737488355328)/\G ⟨(d,⟨[],.sl e (es ++ xs) (some kt)⟩) :: st.sl,st.bx,Zi⟩) ->
         wq X.P ⟨some d,.call ⟨.builtin .append,#[s,x],#[t,t]⟩,ty,pos,after,gu⟩ a w fun a' w'=>∃ st' E',G st' /\ Rel X E' st' a' w' /\ J3 (stObj st (.call ⟨.builtin .append,#[s,x],#[t,t]⟩)) E w E' w':=by
        intro kt n v es cells Zi _ adH QR adI hrc Gz dW hk h1 ht hτ ⟨⟨mb,iI⟩,vv⟩;obtain ⟨fh,CA⟩:=hxr adH;obtain ⟨arr,ha1,VX,ha3⟩:=CA.yZ;have lV:=rU fh;have MC:0 < xs.length:=List.length_pos_iff.2 adH;obtain ⟨g,cap,w',hr,g2,g3,g4⟩:=kh (P:=X.P) w t ty et ii zv e kL hu zd hz cK BL OC G2 v n cells dW ⟨ab bx,ao bx,none⟩ xs.length Rp arr VX (fun j u hj=>by rw [Addr.add_lit];exact h.env.sub _ _ (ha3 j u hj)) ha1.2 MC (by omega) (by rw [<- adI];exact iI);obtain ⟨τ',hτ1,hτ2,QS⟩:=hτ (.slice (some ⟨g,0,none⟩) (n + xs.length) cap);obtain ⟨cg,hext,zj⟩:=GV h hst hk MC G2 h1 hτ1 hτ2 ht QS dW g2 g3 g4
        have bV:(execOp a.eval ⟨some d,.call ⟨.builtin .append,#[s,x],#[t,t]⟩,ty,pos,after,gu⟩).run X.P w = .ok (.value (.slice (some ⟨g,0,none⟩) (n + xs.length) cap)) w':=by
         unfold execOp;rw [lV] at e2;simp only [resolve,invoke,builtin,Sem.run_bind,Sem.run_pure,Result.andThen_ok,List.map_toArray,List.map_cons,List.map_nil,QR,e2,hr]
        have hgb:∀ (i:Nat) b,E.β[i]? = some b->w'.heap[b]? = w.heap[b]?:=fun i b hb=>by
         refine g3.block b (h.env.bw (mG hb)) fun aQ=>?_;rcases hk with ⟨q,hq,hy,_⟩ | ⟨_,_,rfl,_⟩
         ·exact (jH (h.env.dh kt q v hq hy) aQ.symm).2 (mG hb)
         ·simp [Value.ownBlock] at aQ
        refine eV bV ⟨_,_,vv,bu cg hd (.sl e (es ++ xs) (some kt)) _ ?_,hext,⟨[],by simp⟩,fun i b hb _=>hgb i b hb⟩;unfold Rv;refine ⟨_,_,_,rfl,⟨by simp [adI],?_⟩,fun _=>⟨rfl,?_⟩,?_⟩
        ·rcases g2.2 with ⟨hv,_⟩ | ⟨_,_,_,hv,_,_,Cq,_⟩
         ·cases hv
         ·injection hv with _ _ i3
          omega
        ·have hm:=(hrc.append ha1).mono hext.cl;rw [<- List.flatten_append] at hm;refine rvEs_flat hm (fun cs hcm=>?_) fun j u hj=>?_
         ·rcases List.mem_append.1 hcm with hcm | hcm
          ·exact Gz cs hcm
          ·exact CA.len cs hcm
         ·simp only [ab,ao,Nat.zero_add];exact zj j u hj
        ·intro k' iH;cases iH;exact ⟨_,h1,zLeR _,fun _=>hτ1⟩
       unfold appTo at he;split at he
       ·rw [yt] at he;have e1:=bN (bm gW hs);by_cases OL:xs=[]
        ·subst OL;obtain ⟨_,vv⟩:=he
         have bV:(execOp a.eval ⟨some d,.call ⟨.builtin .append,#[s,x],#[t,t]⟩,ty,pos,after,gu⟩).run X.P w = .ok (.value (.slice none 0 0)) w:=by
          unfold execOp;simp only [resolve,invoke,builtin,Sem.run_bind,Sem.run_pure,Result.andThen_ok,List.map_toArray,List.map_cons,List.map_nil,e1,e2,List.length_nil,oY w t ty et ii hu zd none bx 0 0 Rp (zLeR _)]
         obtain ⟨cg,hext⟩:=JZ h ⟨([]:List (List DV)).length,et,e,none⟩ rfl;refine eV bV ⟨_,_,vv,bu cg hd (.sl e ([] ++ []) (some st.tk.length)) _ ?_,hext,⟨[],by simp⟩,fun i b hb _=>rfl⟩;unfold Rv;refine ⟨none,0,0,rfl,⟨rfl,zLeR _⟩,fun hn=>(hn rfl).elim,fun k' iH=>?_⟩;cases iH;refine ⟨⟨0,et,e,none⟩,?_,zLeR _,fun _=>?_⟩
         ·show (E.tk ++ _)[st.tk.length]? = _;rw [h.tk];simp
         ·show (E.τ ++ _)[st.tk.length]? = _;rw [<- h.tk,<- h.env.tl];simp
        refine core st.tk.length 0 _ [] [] _ [] OL e1 rfl ⟨cW _,by simp⟩ (by simp) ⟨by simp,.inl ⟨rfl,rfl⟩⟩ (.inr ?_) ?_ ?_ ?_ he
        ·rw [<- h.tk];exact ⟨by simp,by simp [<- h.env.tl],rfl,rfl⟩
        ·simp
        ·intro j hj;rw [h.tk];rcases Nat.lt_or_ge j st.tk.length with h1 | h1
         ·rw [eT h1]
         ·grind
        ·intro y;refine ⟨E.τ ++ [y],?_,by simp [h.env.tl,h.tk],fun j hj=>?_⟩
         ·rw [List.getElem?_append_right (by rw [h.env.tl,h.tk];omega),h.env.tl,h.tk];simp
         ·rcases Nat.lt_or_ge j E.τ.length with h1 | h1
          ·rw [eT h1]
          ·rw [List.getElem?_append_right h1,rr (l:=E.τ) h1];have:=h.env.tl;rw [h.tk] at this;exact rr (by simp;omega)
       ·rename_i e' es k;split at he
        ·rename_i q hq;split at he
         ·rename_i hc;simp only [bh,Nat.beq_eq] at hc;obtain ⟨⟨⟨rfl,Vu⟩,Rn⟩,QP⟩:=hc;have QP:q.own=none:=sU QP;obtain ⟨hn,he⟩:=he;rw [yu] at he;have e1:=bm gW hs;unfold Rv at e1;obtain ⟨bs,ns,nb,e1,⟨rfl,nc⟩,Yr,zg⟩:=e1;obtain ⟨q',mY,_,hτk⟩:=zg k rfl;have kN:E.tk[k]? = some q:=by rw [h.tk];exact hq
          rw [kN] at mY;simp only [oI] at mY;subst mY;have hy:=hτk hn;rw [e1] at hy;have adL:=(gS hq).1
          have hτ0:∀ y:Value,∃ τ':List Value,τ'[k]? = some y/\τ'.length=(st.tk.set k ⟨q.n + xs.length,et,e',none⟩).length/\∀ j,j≠k->τ'[j]? = E.τ[j]?:=by
           intro y;refine ⟨E.τ.set k y,?_,by simp [h.env.tl,h.tk],fun j hj=>List.getElem?_set_ne (Ne.symm hj)⟩;rw [iR];rw [h.env.tl,h.tk];exact adL
          have gV:(st.tk.set k ⟨q.n + xs.length,et,e',none⟩)[k]? = some ⟨es.length + xs.length,et,e',none⟩:=by rw [iR adL,hn]
          have tE:∀ j,j≠k->(st.tk.set k ⟨q.n + xs.length,et,e',none⟩)[j]? = E.tk[j]?:=fun j hj=>by rw [List.getElem?_set_ne (Ne.symm hj),h.tk]
          by_cases OL:xs=[]
          ·subst OL;obtain ⟨_,vv⟩:=he
           have bV:(execOp a.eval ⟨some d,.call ⟨.builtin .append,#[s,x],#[t,t]⟩,ty,pos,after,gu⟩).run X.P w = .ok (.value (.slice bs es.length nb)) w:=by
            unfold execOp;simp only [resolve,invoke,builtin,Sem.run_bind,Sem.run_pure,Result.andThen_ok,List.map_toArray,List.map_cons,List.map_nil,e1,e2,List.length_nil,oY w t ty et ii hu zd bs bx es.length nb Rp nc]
           have aar:st.tk.set k ⟨q.n + ([]:List (List DV)).length,et,e',none⟩=st.tk:=by
            have hqe':(⟨q.n + ([]:List (List DV)).length,et,e',none⟩:TkE)=q:=by
             obtain ⟨qn,qt,qe,qo⟩:=q;simp only at Vu Rn QP;rw [Vu,Rn,QP];all_goals rfl
            rw [hqe'];apply List.ext_getElem?;intro j;by_cases hj:j=k
            ·grind
            ·rw [List.getElem?_set_ne (Ne.symm hj)]
           rw [aar] at vv;refine eV bV ⟨_,_,vv,bu h hd (.sl e' (es ++ []) (some k)) _ ?_,Ext.refl E,⟨[],by simp⟩,fun i b hb _=>rfl⟩;rw [List.append_nil];unfold Rv;exact ⟨bs,_,nb,rfl,⟨rfl,nc⟩,Yr,fun k' iH=>by cases iH;exact ⟨q,kN,by omega,fun _=>hy⟩⟩
          rcases h.env.dh k q _ kN hy with ⟨qI,tj⟩ | ⟨g0,aap,Rq,qI,sZ,xm,zh,BX,ib,J4⟩
          ·have tG:es=[]:=List.eq_nil_of_length_eq_zero (by omega);subst tG;injection qI with i1 i2 i3
           subst i1 i3;exact core k 0 _ [] [] _ [] OL e1 rfl ⟨cW _,by simp⟩ (by simp) ⟨by simp,.inl ⟨rfl,rfl⟩⟩ (.inl ⟨q,kN,hy,by omega,Vu,Rn,QP⟩) gV tE hτ0 he
          ·injection qI with i1 i2 i3
           subst i1 i3;by_cases bF:es=[]
           ·subst bF;refine core k 0 _ [] [] _ [] OL e1 rfl ⟨cW _,by simp⟩ (by simp) ⟨by simp,.inr ⟨g0,nb,Rq,rfl,Nat.zero_le _,by rw [sZ,Vu],Nat.zero_le _,BX,by rw [xm.1,Rn],by simp⟩⟩ (.inl ⟨q,kN,hy,hn.symm,Vu,Rn,QP⟩) gV tE hτ0 he
           ·obtain ⟨_,VZ⟩:=Yr bF;obtain ⟨OM,mb,iI,MD⟩:=VZ.yZ;refine core k es.length _ es OM _ [] OL e1 rfl mb VZ.len ⟨iI,.inr ⟨g0,nb,Rq,rfl,Nat.zero_le _,by rw [sZ,Vu],by omega,BX,by rw [xm.1,Rn],?_⟩⟩ (.inl ⟨q,kN,hy,hn.symm,Vu,Rn,QP⟩) gV tE hτ0 he;apply List.ext_getElem?;intro j;rcases Nat.lt_or_ge j OM.length with hj | hj
            ·have h5:=h.env.sub _ _ (MD j _ (gE hj));simp only [ab,ao,Nat.zero_add] at h5;rw [cO sZ] at h5;rw [cJ,zIfP (by omega),gE hj];simpa using h5
            ·grind
         ·exact he.elim
        ·exact he.elim
       ·exact he.elim
      ·cases eC
     ·cases eC
    ·cases eC
   ·cases eC
  all_goals (simp only at eC;cases eC)
theorem CB {G:List It->St->Prop} (hG:Snd X G) {o:Oper} {k:List It} (hd:fU X.nt st.sl o.dst=true) (h:Rel X E st a w) (he:eff X G o k st) :
  o.wp X.P a w (kq X k .normal) (fun _ _ _=>False):=by
 have gW:=h.rl;unfold eff at he;split at he
 ·rename_i p hp;refine G1 (kA ?_ (lj hd h hp he));rintro a' w' ⟨st',E',hg,hr,_⟩;exact hG _ _ hg _ _ _ hr
 ·rename_i ME;clear ME;obtain ⟨dst,op,ty,pos,after,gu⟩:=o;cases op
  case call c=>
   obtain ⟨callee,args,argTypes⟩:=c;simp only at he;split at he
   ·rename_i f;split at he
    ·rename_i g first captured l hf hl
     obtain ⟨gY,_,he⟩:=he;have e1:=bm gW hf;unfold Rv at e1;obtain ⟨l1,r1,e1,jr,hr1⟩:=e1;have hargs:=ik gW (bi _) _ _ hl;have hc:=he E a w _ h ((jr.append hargs).append hr1)
     have hr:(execOp a.eval ⟨dst,.call ⟨.value f,args,argTypes⟩,ty,pos,after,gu⟩).run X.P w = .ok (.enter g (l1 ++ args.toList.map a.eval ++ r1).toArray) w:=by
      have e3:(l1.toArray ++ args.map a.eval ++ r1.toArray)=(l1 ++ args.toList.map a.eval ++ r1).toArray:=by apply Array.ext';simp
      simp only [execOp,resolve,e1,Deferred.ofValue,Sem.run_bind,Sem.run_pure,Result.andThen_ok,invoke,e3];exact gY _ _
     unfold Oper.wp;rw [hr,Oper.upon_enter];refine hc.mono ?_
     grind
    ·exact he.elim
   ·exact he E a w h
  all_goals (simp only at he;exact he E a w h)
end
end Dv
end Go.Proofs.YtfdedoiiahbnnaaGreat
