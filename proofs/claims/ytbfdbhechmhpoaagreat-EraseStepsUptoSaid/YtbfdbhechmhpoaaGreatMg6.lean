/- Part 6 of the proof: UTF-8, plain: the document's well-formed bytes are the program's; a text's first units; UTF-8: the document's begins, left, Decode; Tables of runes; the unit at a place: the program's and the document's; Values that are the same; Which values fit which nodes: plain, as the program finds it and as the document says it; tree's leaf, kids, Fits; tree.Fits; the document's To, Fits; Values as they are written: plain; tree.write, Raw; Paths: data, Step compared with itself; ref09.Begins, Same on the same path; ref25.Step; A lattice, as its readers know it; Leq; joins are the document's; Where steps lead in a plan, and how places are seen, plain; What is seen of values, and where that differs, plain; A text's first units: the document's Head, the program's heads, floors; Reading of values whose numbers are ints, and of arrays of two; The numbers of a plan's nodes are ints; The document's Bottom, Right of paths; the program's Right of paths; The least depths of the values of a plan's nodes: plain; The program's nodes, least depths; A region that draws its order, in which a new object may come at any time among calls: its run with the object made at each of these times serves every order; Where steps lead: the document's Edge, Walk; the program's; The program's way along steps: fits, step, Walk; The document's least depths; fine; the chapter's example; The program's Depths; The law of least depths: fine, the example, the call returns true; With which schemas nothing is wrong: the document's Wrong of chapters 20, 21; the law's fine; Which levels see a place: the program's Who; A region that draws its order, run by a schedule: at each point all that may come and has an effect is tried; The document's rows of an audit: With, Under, How, Rows; The document's Fits; What is seen of a value: the document's Edge, Coarse, Erase, Seen; What is seen of a value: the program's look, sees, coarsely, edge, coarse; Paths of a value: plain; tree.steps; Where steps lead in a value, and that value with another one there: plain; Rules for the evaluator: calls that hand back fresh rows; Rules for the evaluator: elements of rows whose cells nobody else knows, read and written whole; tree: slices.Index of steps, kid, clone, Get; tree.write, Raw; Written values: well formed; the document's Same on the same value; its Raw; The document's Kid, Get, Set of a value that fits; The document's Same of values, Set; ref25.Paths; The library's copyCheck of strings.Builder, laid at this program; The library's Builder at this program: what WriteString and String do to memory, exactly; Rules for the evaluator: the library's Builder, written and read; Rules for the evaluator: String of a Builder that holds nothing; The text of a path, of a row: plain, the program's, the document's; The document's rows of an audit; All rows of an audit, by the document; the law's bounds; Alike, differ: the document's; What is seen of a value: the program's erase, Erase, Hidden; Which values may be what is seen of one, plain; Which values may be what is seen of one: shell, May, outer, plain, the document's May; Which values may be what is seen of one: the program's fits, Fits, the document's Fits, Seeable. No condition. -/
import Derived.OpenShut
import Derived.Shelf.Strings.OnBuilder
import Derived.Shelf.RegionOpenPlain
import Derived.Lib.Strings
import Derived.Lib.Slices
import Derived.Lib.Walk
import Derived.Lib.Builder
import Derived.Lib.AppendStr
import Derived.Lib.UnsafeStr
import Derived.WalkKit
import Derived.Laws.Externs
import Derived.Lib.Hide
import Derived.Test.YtbfdbhechmhpoaaGreatMg2
import Derived.Test.YtbfdbhechmhpoaaGreatMg3
import Derived.Test.YtbfdbhechmhpoaaGreatMg4
import Derived.Test.YtbfdbhechmhpoaaGreatMg5
set_option linter.all false
set_option maxRecDepth 100000
namespace Go.Proofs.YtbfdbhechmhpoaaGreat
open Go Go.RowKit Dv Tryz
theorem okU_cons (c:UInt8) (r:List UInt8):okU (c :: r)=(decide (1≤leadN c.toNat) && allC c.toNat r (leadN c.toNat - 1)):=rfl
def wfB (l:List UInt8):Bool:=scalB (recV l) && decide (encS (recV l)=l)
theorem u8_eq {k:Nat} {a:UInt8} (hk:k < 256):UInt8.ofNat k=a↔k=a.toNat:=by
 constructor
 ·rintro rfl
  rw [UInt8.toNat_ofNat']
  omega
 ·rintro rfl
  exact UInt8.ofNat_toNat
theorem wfB_iff (l:List UInt8) {v:Int} (hv:recV l=v):wfB l=true↔(0≤v∧v≤1114111∧(v < 55296∨57343 < v))∧encV v.toNat=l:=by
 subst hv
 unfold wfB encS
 constructor
 ·intro h
  rw [Bool.and_eq_true] at h
  have h1:=h.1
  have h2:=of_decide_eq_true h.2
  rw [if_pos h1] at h2
  simp [scalB] at h1
  exact ⟨by omega,h2⟩
 ·intro ⟨h1,h2⟩
  have h3:scalB (recV l)=true:=by simp [scalB];omega
  rw [h3,if_pos rfl]
  simp [h2]
theorem leadL_sp (c:Nat):(c=224∧leadL c=160)∨(c=240∧leadL c=144)∨(c≠224∧c≠240∧leadL c=128):=by
 unfold leadL
 repeat' split
 all_goals omega
theorem leadH_sp (c:Nat):(c=237∧leadH c=159)∨(c=244∧leadH c=143)∨(c≠237∧c≠244∧leadH c=191):=by
 unfold leadH
 repeat' split
 all_goals omega
theorem contB_0 (c b:Nat):contB c 0 b=true↔leadL c≤b∧b≤leadH c:=by
 unfold contB
 rw [if_pos rfl,Bool.and_eq_true,decide_eq_true_iff,decide_eq_true_iff]
theorem contB_s (c k b:Nat):contB c (k + 1) b=true↔128≤b∧b≤191:=by
 unfold contB
 rw [if_neg (Nat.succ_ne_zero k),Bool.and_eq_true,decide_eq_true_iff,decide_eq_true_iff]
theorem allC_1 (c:Nat) (b:UInt8) (r:List UInt8):allC c (b :: r) 1=contB c 0 b.toNat:=by simp [allC,List.range_succ]
theorem allC_2 (c:Nat) (b d:UInt8) (r:List UInt8):allC c (b :: d :: r) 2=(contB c 0 b.toNat && contB c 1 d.toNat):=by simp [allC,List.range_succ]
theorem allC_3 (c:Nat) (b d e:UInt8) (r:List UInt8):allC c (b :: d :: e :: r) 3=(contB c 0 b.toNat && contB c 1 d.toNat && contB c 2 e.toNat):=by simp [allC,List.range_succ,Bool.and_assoc]
theorem lead_1 (a:Nat):leadN a=1↔a < 128:=by
 unfold leadN;repeat' split
 all_goals omega
theorem lead_2 (a:Nat):leadN a=2↔194≤a∧a≤223:=by
 unfold leadN;repeat' split
 all_goals omega
theorem lead_3 (a:Nat):leadN a=3↔224≤a∧a≤239:=by
 unfold leadN;repeat' split
 all_goals omega
theorem lead_4 (a:Nat):leadN a=4↔240≤a∧a≤244:=by
 unfold leadN;repeat' split
 all_goals omega
theorem wf_1 (a:UInt8) (r:List UInt8):wfB [a]=true↔okU (a :: r)=true∧leadN a.toNat=1:=by
 have ha:=a.toNat_lt
 rw [wfB_iff _ (v:=(a.toNat:Int)) rfl]
 rw [Int.toNat_natCast]
 unfold encV
 rw [okU_cons]
 constructor
 ·intro ⟨h1,h2⟩
  have:a.toNat < 128:=by
   by_cases c:a.toNat < 128
   ·exact c
   ·rw [if_neg c] at h2
    repeat' split at h2
    all_goals (simp at h2)
  have:=(lead_1 _).2 this
  rw [this]
  exact ⟨rfl,rfl⟩
 ·intro ⟨_,h2⟩
  have h2:=(lead_1 _).1 h2
  rw [if_pos h2]
  exact ⟨by omega,by rw [UInt8.ofNat_toNat]⟩
theorem wf_2 (a b:UInt8) (r:List UInt8):wfB [a,b]=true↔okU (a :: b :: r)=true∧leadN a.toNat=2:=by
 have ha:=a.toNat_lt
 have hb:=b.toNat_lt
 rw [wfB_iff _ (v:=((a.toNat:Int) - 192) * 64 + ((b.toNat:Int) - 128)) rfl]
 unfold encV
 rw [okU_cons]
 constructor
 ·intro ⟨h1,h2⟩
  generalize hn:((((a.toNat:Int) - 192) * 64 + ((b.toNat:Int) - 128))).toNat=n at h2
  repeat' split at h2
  any_goals (simp at h2;done)
  simp only [List.cons.injEq,and_true] at h2
  rw [u8_eq (by omega),u8_eq (by omega)] at h2
  have:=(lead_2 a.toNat).2 (by omega)
  rw [this]
  refine ⟨?_,rfl⟩
  show (true && allC _ _ 1)=true
  rw [Bool.true_and,allC_1,contB_0]
  have hL:=leadL_sp a.toNat
  have hH:=leadH_sp a.toNat
  omega
 ·intro ⟨h1,h2⟩
  rw [h2] at h1
  have h1:(true && allC _ _ 1)=true:=h1
  rw [Bool.true_and,allC_1,contB_0] at h1
  have hL:=leadL_sp a.toNat
  have hH:=leadH_sp a.toNat
  have h2:=(lead_2 _).1 h2
  rw [if_neg (by omega),if_pos (by omega)]
  simp only [List.cons.injEq,and_true]
  rw [u8_eq (by omega),u8_eq (by omega)]
  omega
theorem wf_3 (a b c:UInt8) (r:List UInt8):wfB [a,b,c]=true↔okU (a :: b :: c :: r)=true∧leadN a.toNat=3:=by
 have ha:=a.toNat_lt
 have hb:=b.toNat_lt
 have hc:=c.toNat_lt
 rw [wfB_iff _ (v:=((a.toNat:Int) - 224) * 4096 + ((b.toNat:Int) - 128) * 64 + ((c.toNat:Int) - 128)) rfl]
 unfold encV
 rw [okU_cons]
 constructor
 ·intro ⟨h1,h2⟩
  generalize hn:((((a.toNat:Int) - 224) * 4096 + ((b.toNat:Int) - 128) * 64 + ((c.toNat:Int) - 128))).toNat=n at h2
  repeat' split at h2
  any_goals (simp at h2;done)
  simp only [List.cons.injEq,and_true] at h2
  rw [u8_eq (by omega),u8_eq (by omega),u8_eq (by omega)] at h2
  have:=(lead_3 a.toNat).2 (by omega)
  rw [this]
  refine ⟨?_,rfl⟩
  show (true && allC _ _ 2)=true
  rw [Bool.true_and,allC_2,Bool.and_eq_true,contB_0,contB_s _ 0]
  have hL:=leadL_sp a.toNat
  have hH:=leadH_sp a.toNat
  omega
 ·intro ⟨h1,h2⟩
  rw [h2] at h1
  have h1:(true && allC _ _ 2)=true:=h1
  rw [Bool.true_and,allC_2,Bool.and_eq_true,contB_0,contB_s _ 0] at h1
  have hL:=leadL_sp a.toNat
  have hH:=leadH_sp a.toNat
  have h2:=(lead_3 _).1 h2
  rw [if_neg (by omega),if_neg (by omega),if_pos (by omega)]
  simp only [List.cons.injEq,and_true]
  rw [u8_eq (by omega),u8_eq (by omega),u8_eq (by omega)]
  omega
theorem wf_4 (a b c d:UInt8) (r:List UInt8):wfB [a,b,c,d]=true↔okU (a :: b :: c :: d :: r)=true∧leadN a.toNat=4:=by
 have ha:=a.toNat_lt
 have hb:=b.toNat_lt
 have hc:=c.toNat_lt
 have hd:=d.toNat_lt
 rw [wfB_iff _ (v:=((a.toNat:Int) - 240) * 262144 + ((b.toNat:Int) - 128) * 4096 + ((c.toNat:Int) - 128) * 64 + ((d.toNat:Int) - 128)) rfl]
 unfold encV
 rw [okU_cons]
 constructor
 ·intro ⟨h1,h2⟩
  generalize hn:((((a.toNat:Int) - 240) * 262144 + ((b.toNat:Int) - 128) * 4096 + ((c.toNat:Int) - 128) * 64 + ((d.toNat:Int) - 128))).toNat=n at h2
  repeat' split at h2
  any_goals (simp at h2;done)
  simp only [List.cons.injEq,and_true] at h2
  rw [u8_eq (by omega),u8_eq (by omega),u8_eq (by omega),u8_eq (by omega)] at h2
  have:=(lead_4 a.toNat).2 (by omega)
  rw [this]
  refine ⟨?_,rfl⟩
  show (true && allC _ _ 3)=true
  rw [Bool.true_and,allC_3,Bool.and_eq_true,Bool.and_eq_true,contB_0,contB_s _ 0,contB_s _ 1]
  have hL:=leadL_sp a.toNat
  have hH:=leadH_sp a.toNat
  omega
 ·intro ⟨h1,h2⟩
  rw [h2] at h1
  have h1:(true && allC _ _ 3)=true:=h1
  rw [Bool.true_and,allC_3,Bool.and_eq_true,Bool.and_eq_true,contB_0,contB_s _ 0,contB_s _ 1] at h1
  have hL:=leadL_sp a.toNat
  have hH:=leadH_sp a.toNat
  have h2:=(lead_4 _).1 h2
  rw [if_neg (by omega),if_neg (by omega),if_neg (by omega)]
  simp only [List.cons.injEq,and_true]
  rw [u8_eq (by omega),u8_eq (by omega),u8_eq (by omega),u8_eq (by omega)]
  omega
theorem lead_le (a:Nat):leadN a≤4:=by
 unfold leadN;repeat' split
 all_goals omega
theorem okU_len {l:List UInt8} (h:okU l=true):∃ c r,l=c :: r∧1≤leadN c.toNat∧leadN c.toNat≤l.length∧unN l=leadN c.toNat:=by
 cases l with
 | nil=>cases h
 | cons c r=>
  refine ⟨c,r,rfl,?_,?_,?_⟩
  ·unfold okU at h
   rw [Bool.and_eq_true] at h
   exact of_decide_eq_true h.1
  ·have h0:=h
   unfold okU at h
   rw [Bool.and_eq_true] at h
   rcases Nat.lt_or_ge r.length (leadN c.toNat - 1) with g | g
   ·have h2:=h.2
    unfold allC at h2
    rw [List.all_eq_true] at h2
    have:=h2 r.length (List.mem_range.2 g)
    rw [List.getElem?_eq_none (Nat.le_refl _)] at this
    cases this
   ·rw [List.length_cons]
    omega
  ·show (if _ then _ else _)=_
   rw [if_pos h]
theorem wf_n (c:UInt8) (r:List UInt8) (n:Nat) (h1:1≤n) (h4:n≤4) (hl:n≤r.length + 1):wfB ((c :: r).take n)=(okU (c :: r) && decide (leadN c.toNat=n)):=by
 apply Bool.eq_iff_iff.2
 rw [Bool.and_eq_true,decide_eq_true_iff]
 match n,h1,h4,hl with
 | 1,_,_,_=>exact wf_1 c r
 | 2,_,_,h=>match r,h with
  | b :: r,_=>exact wf_2 c b r
 | 3,_,_,h=>match r,h with
  | b :: d :: r,_=>exact wf_3 c b d r
 | 4,_,_,h=>match r,h with
  | b :: d :: e :: r,_=>exact wf_4 c b d e r
theorem unN_pos {l:List UInt8} (h:l ≠ []):1≤unN l∧unN l≤l.length:=by
 cases l with
 | nil=>exact absurd rfl h
 | cons c r=>
  show 1≤(if _ then _ else _)∧(if _ then _ else _)≤_
  split
  ·rename_i g
   obtain ⟨c',r',e,h1,h2,h3⟩:=okU_len g
   cases e
   exact ⟨h1,h2⟩
  ·exact ⟨Nat.le_refl _,by rw [List.length_cons];omega⟩
theorem unN_of_take {a b:List UInt8} (hb:2≤unN b) (h:a.take (unN b)=b.take (unN b)):unN a=unN b:=by
 have hok:okU b=true:=by
  cases b with
  | nil=>exact absurd hb (by decide)
  | cons c r=>
   cases hc:okU (c :: r)
   ·have:unN (c :: r)=1:=by show (if _ then _ else _)=_;rw [hc];all_goals rfl
    omega
   ·rfl
 obtain ⟨c,r,rfl,h1,h2,h3⟩:=okU_len hok
 rw [h3] at h ⊢
 have hl:leadN c.toNat≤a.length:=by
  have:=congrArg List.length h
  rw [List.length_take,List.length_take] at this
  omega
 have hw:=wf_n c r (leadN c.toNat) h1 (lead_le _) h2
 rw [hok,decide_eq_true rfl,← h] at hw
 cases a with
 | nil=>exact absurd hl (by rw [List.length_nil];omega)
 | cons d s=>
  rw [wf_n d s (leadN c.toNat) h1 (lead_le _) hl] at hw
  rw [Bool.true_and,Bool.and_eq_true,decide_eq_true_iff] at hw
  show (if _ then _ else _)=_
  rw [if_pos hw.1]
  exact hw.2
def headL:Nat→List UInt8→List UInt8
 | 0,_=>[]
 | u + 1,l=>l.take (unN l) ++ headL u (l.drop (unN l))
theorem headL_nil (u:Nat):headL u []=[]:=by
 induction u with
 | zero=>rfl
 | succ u ih=>show [].take _ ++ headL u ([].drop _)=[];rw [List.take_nil,List.drop_nil,ih];all_goals rfl
theorem headL_pre (u:Nat) (l:List UInt8):headL u l <+: l:=by
 induction u generalizing l with
 | zero=>exact List.nil_prefix
 | succ u ih=>
  obtain ⟨t,ht⟩:=ih (l.drop (unN l))
  refine ⟨t,?_⟩
  show (_ ++ _) ++ t=l
  rw [List.append_assoc,ht,List.take_append_drop]
end Go.Proofs.YtbfdbhechmhpoaaGreat

set_option maxRecDepth 100000
namespace Go.Proofs.YtbfdbhechmhpoaaGreat
open Go Go.RowKit Dv Tryz
theorem tx_take (s:ByteArray) (n:Nat):tx (s.extract 0 n)=(tx s).take n:=by simp [tx]
end Go.Proofs.YtbfdbhechmhpoaaGreat

set_option maxRecDepth 100000
namespace Go.Proofs.YtbfdbhechmhpoaaGreat
open Go Go.RowKit Dv Tryz
def spB:List DV→Bool
 | [.v (.int .i32 _),.v (.int .i32 _)]=>true
 | _=>false
theorem spB_some {cs:List DV} (h:spB cs=true):∃ a b:Int,cs=[.v (.int .i32 a),.v (.int .i32 b)]:=by
 unfold spB at h
 split at h
 ·exact ⟨_,_,rfl⟩
 ·cases h
theorem sp_at {es:List (List DV)} (h:es.all spB=true) {i:Nat} (hi:i < es.length):∃ a b:Int,es[i]? = some [.v (.int .i32 a),.v (.int .i32 b)]:=by
 rw [List.all_eq_true] at h
 obtain ⟨a,b,hab⟩:=spB_some (h es[i] (List.getElem_mem hi))
 exact ⟨a,b,by rw [List.getElem?_eq_getElem hi,hab]⟩
def TabΦ (d:DV) (_:List (List DV)) (_:List TkE):Prop:=∃ es:List (List DV),d = .sl 2 es none∧(Nat.ble es.length 1000 && es.all spB)=true
set_option maxHeartbeats 4000000 in
theorem wide_tab:Ev Tryz.prog 342 [] [] [] TabΦ:=by
 refine ev_go (P:=Tryz.prog) tt tt_ok 5000 118 [.tmp 0] Tryz.func342 rfl Tryz.ntmps342 rfl (Nat.le_of_ble_eq_true rfl) (fun E9 w9 hn9 hm9=>?_)
 exact ⟨_,ax,_,rfl,rfl⟩
set_option maxHeartbeats 4000000 in
theorem zero_tab:Ev Tryz.prog 343 [] [] [] TabΦ:=by
 refine ev_go (P:=Tryz.prog) tt tt_ok 5000 84 [.tmp 0] Tryz.func343 rfl Tryz.ntmps343 rfl (Nat.le_of_ble_eq_true rfl) (fun E9 w9 hn9 hm9=>?_)
 exact ⟨_,ax,_,rfl,rfl⟩
abbrev inSt (es:List (List DV)) (z:Int) (lo hi:Nat):St:=⟨[(0,⟨[],.sl 2 es none⟩),(1,⟨[],.v (.int .i32 z)⟩),(5,⟨[],.v (.int .i64 lo)⟩),(6,⟨[],.v (.int .i64 hi)⟩)],[],[]⟩
theorem in_spec (es:List (List DV)) (z:Int) (hl:es.length≤1000) (hs:es.all spB=true):Ev Tryz.prog 341 [.sl 2 es none,.v (.int .i32 z)] [] [] (fun d _ _=>∃ b:Bool,d = .v (.bool b)):=by
 refine ev_go (P:=Tryz.prog) tt tt_ok 5000 38 [.tmp 4] Tryz.func341 rfl Tryz.ntmps341 rfl (Nat.le_of_ble_eq_true rfl) (fun E9 w9 hn9 hm9=>?_)
 refine loop_i (fun j st=>∃ lo hi:Nat,st=inSt es z lo hi∧lo≤hi∧hi≤es.length∧j=hi - lo) es.length (inSt es z 0 es.length) (weak_mk ⟨_,rfl⟩ wA rfl rfl rfl (by repeat' (first | exact trivial | exact we_rfl rfl | exact we_int rfl | refine ⟨⟨_,rfl,?_⟩,?_⟩))) ⟨0,es.length,rfl,by omega,by omega,by omega⟩ ?_
 rintro j st ⟨lo,hi,rfl,h1,h2,rfl⟩
 refine br (fun hL=>?_) (fun hL=>?_)
 rotate_left
 ·exact ⟨_,rfl⟩
 have hlt:lo < hi:=by have:=of_decide_eq_true hL;omega
 have hm:IntKind.i64.wrap ((lo:Int) + IntKind.i64.wrap ((IntKind.i64.wrap ((hi:Int) - lo)).tdiv 2))=((lo + (hi - lo) / 2:Nat):Int):=by
  rw [wrap64 (n:=(hi:Int) - lo) (by omega) (by omega)]
  rw [Int.tdiv_eq_ediv_of_nonneg (by omega)]
  rw [wrap64 (n:=((hi:Int) - lo) / 2) (by omega) (by omega),wrap64 (by omega) (by omega)]
  omega
 obtain ⟨a,b,hab⟩:=sp_at hs (i:=lo + (hi - lo) / 2) (by omega)
 refine ⟨⟨rfl,by decide⟩,?_⟩
 refine ⟨_,⟨by rw [hm];omega,by rw [hm,Int.toNat_natCast];exact hab⟩,?_⟩
 refine br (fun c=>?_) (fun c=>?_)
 ·exact ⟨inSt es z lo (lo + (hi - lo) / 2),(weak_mk ⟨_,rfl⟩ wA rfl rfl rfl (by repeat' (first | exact trivial | exact we_rfl rfl | exact we_int hm | refine ⟨⟨_,rfl,?_⟩,?_⟩))),lo + (hi - lo) / 2 - lo,by omega,_,_,rfl,by omega,by omega,rfl⟩
 ·refine ⟨_,⟨by rw [hm];omega,by rw [hm,Int.toNat_natCast];exact hab⟩,?_⟩
  refine br (fun c=>?_) (fun c=>?_)
  ·have hm2:IntKind.i64.wrap (IntKind.i64.wrap ((lo:Int) + IntKind.i64.wrap ((IntKind.i64.wrap ((hi:Int) - lo)).tdiv 2)) + 1)=((lo + (hi - lo) / 2 + 1:Nat):Int):=by
    rw [hm,wrap64 (by omega) (by omega)]
    omega
   exact ⟨inSt es z (lo + (hi - lo) / 2 + 1) hi,(weak_mk ⟨_,rfl⟩ wA rfl rfl rfl (by repeat' (first | exact trivial | exact we_rfl rfl | exact we_int hm2 | refine ⟨⟨_,rfl,?_⟩,?_⟩))),hi - (lo + (hi - lo) / 2 + 1),by omega,_,_,rfl,by omega,by omega,rfl⟩
  ·exact ⟨_,rfl⟩
theorem iswide_spec (z:Int):Ev Tryz.prog 335 [.v (.int .i32 z)] [] [] (fun d _ _=>∃ b:Bool,d = .v (.bool b)):=by
 refine ev_go (P:=Tryz.prog) tt tt_ok 5000 6 [.tmp 2] Tryz.func335 rfl Tryz.ntmps335 rfl (Nat.le_of_ble_eq_true rfl) (fun E9 w9 hn9 hm9=>?_)
 refine call_e en342 rfl wide_tab ax (fun q hq=>?_)
 obtain ⟨es,rfl,he⟩:=hq
 rw [Bool.and_eq_true,Nat.ble_eq] at he
 refine call_e en341 rfl (in_spec es z he.1 he.2) ax (fun q hq=>?_)
 obtain ⟨b,rfl⟩:=hq
 exact ⟨_,rfl⟩
theorem iszero_spec (z:Int):Ev Tryz.prog 336 [.v (.int .i32 z)] [] [] (fun d _ _=>∃ b:Bool,d = .v (.bool b)):=by
 refine ev_go (P:=Tryz.prog) tt tt_ok 5000 6 [.tmp 2] Tryz.func336 rfl Tryz.ntmps336 rfl (Nat.le_of_ble_eq_true rfl) (fun E9 w9 hn9 hm9=>?_)
 refine call_e en343 rfl zero_tab ax (fun q hq=>?_)
 obtain ⟨es,rfl,he⟩:=hq
 rw [Bool.and_eq_true,Nat.ble_eq] at he
 refine call_e en341 rfl (in_spec es z he.1 he.2) ax (fun q hq=>?_)
 obtain ⟨b,rfl⟩:=hq
 exact ⟨_,rfl⟩
theorem rune_spec (z:Int):Ev Tryz.prog 317 [.v (.int .i32 z)] [] [] (fun d _ _=>∃ n:Int,d = .v (.int .i64 n)):=by
 refine ev_go (P:=Tryz.prog) tt tt_ok 5000 9 [.tmp 2] Tryz.func317 rfl Tryz.ntmps317 rfl (Nat.le_of_ble_eq_true rfl) (fun E9 w9 hn9 hm9=>?_)
 refine call_e en335 rfl (iswide_spec z) ax (fun q hq=>?_)
 obtain ⟨b,rfl⟩:=hq
 cases b with
 | true=>exact ⟨_,rfl⟩
 | false=>
  refine call_e en336 rfl (iszero_spec z) ax (fun q hq=>?_)
  obtain ⟨b,rfl⟩:=hq
  cases b with
  | true=>exact ⟨_,rfl⟩
  | false=>exact ⟨_,rfl⟩
theorem udec_end (s:ByteArray) (hs:s.size≤1099511627776):EvP Tryz.prog 316 [.v (.string s),.v (.int .i64 (s.size:Nat))] (.tup [.v (.int .i32 0),.v (.int .i64 0),.v (.bool false)]):=by
 refine ev_go (P:=Tryz.prog) tt tt_ok 5000 60 [.tmp 4,.tmp 5,.tmp 6] Tryz.func316 rfl Tryz.ntmps316 rfl (Nat.le_of_ble_eq_true rfl) (fun E9 w9 hn9 hm9=>?_)
 refine br (fun _=>?_) (fun c=>absurd c (by simp [pickB_or]))
 exact ⟨_,ax,rfl⟩
theorem unit_spec (s:ByteArray) (at':Nat) (hs:s.size≤1099511627776) (h:at' ≤ s.size):Ev Tryz.prog 290 [.v (.string s),.v (.int .i64 at')] [] [] (fun d _ _=>∃ c:Int,d = .tup [.v (.int .i64 c),.v (.int .i64 (unN ((tx s).drop at'):Nat))]):=by
 cases hd:(tx s).drop at' with
 | nil=>
  have he:at'=s.size:=by
   have:=congrArg List.length hd
   rw [List.length_drop,tx_len,List.length_nil] at this
   omega
  subst he
  refine ev_go (P:=Tryz.prog) tt tt_ok 5000 24 [.tmp 4,.tmp 5] Tryz.func290 rfl Tryz.ntmps290 rfl (Nat.le_of_ble_eq_true rfl) (fun E9 w9 hn9 hm9=>?_)
  refine call_p en316 (udec_end s hs) ax rfl ?_
  exact ⟨.tup [.v (.int .i64 0),.v (.int .i64 ((0:Nat):Int))],ax,_,rfl⟩
 | cons c r=>
  have hu:=udec_spec s at' hs c r hd
  have hun:unN (c :: r)=if okU (c :: r)=true then leadN c.toNat else 1:=rfl
  rw [hun]
  generalize okU (c :: r)=ok at hu ⊢
  refine ev_go (P:=Tryz.prog) tt tt_ok 5000 24 [.tmp 4,.tmp 5] Tryz.func290 rfl Tryz.ntmps290 rfl (Nat.le_of_ble_eq_true rfl) (fun E9 w9 hn9 hm9=>?_)
  refine call_e en316 rfl hu ax (fun q hq=>?_)
  obtain ⟨z,n,rfl,hn,hp⟩:=hq
  cases ok with
  | true=>
   have:=hn rfl
   subst this
   refine call_e en317 rfl (rune_spec z) ax (fun q hq=>?_)
   obtain ⟨m,rfl⟩:=hq
   exact ⟨.tup [.v (.int .i64 m),.v (.int .i64 (leadN c.toNat:Nat))],ax,_,rfl⟩
  | false=>
   refine br (fun _=>?_) (fun g=>absurd g (by simp;omega))
   exact ⟨.tup [.v (.int .i64 1),.v (.int .i64 ((1:Nat):Int))],ax,_,rfl⟩
end Go.Proofs.YtbfdbhechmhpoaaGreat

set_option maxRecDepth 100000
namespace Go.Proofs.YtbfdbhechmhpoaaGreat
open Go Go.RowKit Dv Tryz
mutual
def sameV:Val→Val→Bool
 | .mk k n s ks,.mk k' n' s' ks'=>decide (k=k') && decide (n=n') && decide (s=s') && sameVs ks ks'
def sameVs:List Val→List Val→Bool
 | [],[]=>true
 | v :: r,w :: q=>sameV v w && sameVs r q
 | _,_=>false
end
theorem sameVs_len:∀ {a b:List Val},a.length≠b.length→sameVs a b=false
 | [],[],h=>(h rfl).elim
 | v :: r,w :: q,h=>by rw [sameVs,sameVs_len (a:=r) (b:=q) (by simpa using h),Bool.and_false]
 | [],_ :: _,_=>by simp [sameVs]
 | _ :: _,[],_=>by simp [sameVs]
mutual
theorem sameV_iff:∀ {a b:Val},sameV a b=true↔a=b
 | .mk k n s ks,.mk k' n' s' ks'=>by
  have:=@sameVs_iff ks ks'
  simp only [sameV,Bool.and_eq_true,decide_eq_true_eq,this,Val.mk.injEq,and_assoc]
theorem sameVs_iff:∀ {a b:List Val},sameVs a b=true↔a=b
 | [],[]=>by simp [sameVs]
 | v :: r,w :: q=>by
  have h1:=@sameV_iff v w
  have h2:=@sameVs_iff r q
  simp only [sameVs,Bool.and_eq_true,h1,h2,List.cons.injEq]
 | [],_ :: _=>by simp [sameVs]
 | _ :: _,[]=>by simp [sameVs]
end
end Go.Proofs.YtbfdbhechmhpoaaGreat

set_option maxRecDepth 100000
namespace Go.Proofs.YtbfdbhechmhpoaaGreat
open Go Go.RowKit Dv Tryz
def leafF (n:Nd) (v:Val):Bool:=
 if 0 < v.ks.length∨(v.k≠3∧v.s≠emptyB)∨(v.k=3∧v.n≠0) then false
 else if n.kind=1 then decide (v.k=1) && (decide (v.n=0) || decide (v.n=1))
 else if n.kind=2 then decide (v.k=2) && decide (n.lo≤v.n) && decide (v.n≤n.hi)
 else if n.kind=3 then decide (v.k=3) && decide ((v.s.size:Int)≤n.most)
 else decide (v.k=4) && decide (0≤v.n) && decide (v.n < n.names.length)
def plainV (v:Val):Bool:=decide (v.s=emptyB) && (decide (v.n=0) || decide (v.k=8))
def to0 (n:Nd):Int:=match n.edges[0]? with | some e=>e.to | none=>0
def tagE (n:Nd) (v:Val):Option Ed:=if v.k=8∧0≤v.n∧v.n < n.edges.length then n.edges[v.n.toNat]? else none
def kidsL (n:Nd) (v:Val):List Int:=
 if n.kind=5∨n.kind=6 then List.replicate v.ks.length (to0 n)
 else if n.kind=7 then n.edges.map Ed.to
 else match tagE n v with | none=>[] | some e=>if e.bare=true then [] else [e.to]
def kidsB (n:Nd) (v:Val):Bool:=
 if n.kind=5∨n.kind=6 then plainV v && decide (v.k=n.kind) && decide ((v.ks.length:Int)≤if n.kind=6 then 1 else n.most)
 else if n.kind=7 then plainV v && decide (v.k=7) && decide (n.edges.length=v.ks.length)
 else match tagE n v with | none=>false | some _=>plainV v && decide ((kidsL n v).length=v.ks.length)
def nodeA (ND:List Nd) (i:Int):Option Nd:=if i < 0 then none else ND[i.toNat]?
mutual
def fitV (ND:List Nd):Val→Int→Bool
 | .mk k n s ks,i=>match nodeA ND i with
  | none=>false
  | some d=>if d.kind < 5 then leafF d (.mk k n s ks) else kidsB d (.mk k n s ks) && fitVs ND ks (kidsL d (.mk k n s ks))
def fitVs (ND:List Nd):List Val→List Int→Bool
 | v :: r,i :: l=>fitV ND v i && fitVs ND r l
 | _,_=>true
end
def toR (n:Nd) (v:Val) (j:Nat):Int:=
 if n.kind=5 then (if (j:Int) < n.most then to0 n else -1)
 else if n.kind=6 then (if j < 1 then to0 n else -1)
 else if n.kind=7 then (match n.edges[j]? with | some e=>e.to | none=>-1)
 else if n.kind=8 then (if j < 1∧0≤v.n∧v.n < n.edges.length then (match n.edges[v.n.toNat]? with | some e=>e.to | none=>-1) else -1)
 else -1
end Go.Proofs.YtbfdbhechmhpoaaGreat

set_option maxRecDepth 100000
namespace Go.Proofs.YtbfdbhechmhpoaaGreat
open Go Go.RowKit Dv Tryz
def dZs (l:List Int):List (List DV):=l.map fun z=>[DV.v (.int .i64 z)]
theorem dZs_len (l:List Int):(dZs l).length=l.length:=by simp [dZs]
theorem dZs_get {l:List Int} {i:Nat} {z:Int} (h:l[i]? = some z):(dZs l)[i]? = some [DV.v (.int .i64 z)]:=by simp [dZs,h]
theorem dZs_snoc (l:List Int) (z:Int):dZs l ++ [[DV.v (.int .i64 z)]]=dZs (l ++ [z]):=by simp [dZs]
theorem emptyB_eq:(⟨#[]⟩:ByteArray)=emptyB:=rfl
theorem leaf_spec (n:Nd) (v:Val):EvP Tryz.prog 119 [.agg (dNd n),.agg (dVal v)] (.v (.bool (leafF n v))):=by
 have hbl:=dBs_len n.names
 obtain ⟨kind,at',lo,hi,most,names,es⟩:=n
 obtain ⟨q,z,s,ks⟩:=v
 have hdl:=dVals_len ks
 simp only at hbl
 have hF:leafF ⟨kind,at',lo,hi,most,names,es⟩ (.mk q z s ks)=if 0 < ks.length∨(q≠3∧s≠emptyB)∨(q=3∧z≠0) then false
  else if kind=1 then decide (q=1) && (decide (z=0) || decide (z=1))
  else if kind=2 then decide (q=2) && decide (lo≤z) && decide (z≤hi)
  else if kind=3 then decide (q=3) && decide ((s.size:Int)≤most)
  else decide (q=4) && decide (0≤z) && decide (z < names.length):=rfl
 have hc:∀ b:Bool,b=pickB (pickB (decide (0 < ((dVals ks).length:Int))) true (pickB (!decide (q=3)) (!decide (s=⟨#[]⟩)) false)) true (pickB (decide (q=3)) (!decide (z=0)) false)→b=decide (0 < ks.length∨(q≠3∧s≠emptyB)∨(q=3∧z≠0)):=fun b h=>by
  rw [h,hdl,emptyB_eq,Bool.eq_iff_iff]
  simp [pickB_or,pickB_and,or_assoc]
 rw [hF]
 refine ev_go (P:=Tryz.prog) tt tt_ok 5000 94 [.tmp 4] Tryz.func119 rfl Tryz.ntmps119 rfl (Nat.le_of_ble_eq_true rfl) (fun E9 w9 hn9 hm9=>?_)
 refine br (fun c=>?_) (fun c=>?_)
 ·have c:=of_decide_eq_true ((hc _ rfl).symm.trans c)
  rw [if_pos c]
  exact (rfl:_=_)
 have c:=of_decide_eq_false ((hc _ rfl).symm.trans c)
 rw [if_neg c]
 refine br (fun c1=>?_) (fun c1=>?_)
 ·have c1:kind=1:=by simpa using c1
  refine (congrArg (fun b=>DV.v (.bool b)) ?_:_=_)
  simp [c1,pickB_and,pickB_or]
 have c1:¬ kind=1:=by simpa using c1
 refine br (fun c2=>?_) (fun c2=>?_)
 ·have c2:kind=2:=by simpa using c2
  refine (congrArg (fun b=>DV.v (.bool b)) ?_:_=_)
  simp [c2,pickB_and,pickB_or]
 have c2:¬ kind=2:=by simpa using c2
 refine br (fun c3=>?_) (fun c3=>?_)
 ·have c3:kind=3:=by simpa using c3
  refine (congrArg (fun b=>DV.v (.bool b)) ?_:_=_)
  simp [c3,pickB_and,pickB_or]
 have c3:¬ kind=3:=by simpa using c3
 refine (congrArg (fun b=>DV.v (.bool b)) ?_:_=_)
 simp [c1,c2,c3,pickB_and,pickB_or,hbl]
abbrev kd5St (n:Nd) (v:Val) (l:List Int) (p:Bool) (kd mo:Int) (q e:Nat):St:=
 ⟨[(2,⟨[],.loc 0 0⟩),(3,⟨[],.loc 1 0⟩),(6,⟨[],.sl 1 (dZs l) (some 0)⟩),(7,⟨[],.v (.bool p)⟩),(8,⟨[],.v (.int .i64 kd)⟩),(9,⟨[],.v (.int .i64 mo)⟩),(38,⟨[],.v (.int .i64 v.ks.length)⟩),(39,⟨[],.v (.int .i64 e)⟩)],[dNd n,dVal v],[⟨q,3,1,none⟩]⟩
abbrev kd7St (n:Nd) (v:Val) (l:List Int) (p:Bool) (q e:Nat):St:=
 ⟨[(2,⟨[],.loc 0 0⟩),(3,⟨[],.loc 1 0⟩),(6,⟨[],.sl 1 (dZs l) (some 0)⟩),(7,⟨[],.v (.bool p)⟩),(67,⟨[],.sl 10 (dEds n.edges) none⟩),(68,⟨[],.v (.int .i64 (dEds n.edges).length)⟩),(69,⟨[],.v (.int .i64 e)⟩)],[dNd n,dVal v],[⟨q,3,1,none⟩]⟩
theorem kids_spec {L N:Nat} {n:Nd} (hn:NdOK L N n) (h5:5≤n.kind) (v:Val) (hv:v.wt≤1099511627776) :
  EvP Tryz.prog 120 [.agg (dNd n),.agg (dVal v)] (.tup [.sl 1 (dZs (kidsL n v)) none,.v (.bool (kidsB n v))]):=by
 have hk8:=hn.k8
 have hone:=hn.one
 have hmany:=hn.many
 obtain ⟨kind,at',lo,hi,most,names,es⟩:=n
 obtain ⟨q,z,s,ks⟩:=v
 have hdl:=dVals_len ks
 have hel:=dEds_len es
 have hkl:=wtVs_len ks
 rw [Val.wt] at hv
 simp only at hk8 h5 hone hmany
 have hp:∀ b:Bool,b=pickB (decide (s=⟨#[]⟩)) (pickB (decide (z=0)) true (decide (q=8))) false→b=plainV (.mk q z s ks):=fun b h=>by
  rw [h]
  rw [pickB_and,pickB_or,emptyB_eq];all_goals rfl
 refine ev_go (P:=Tryz.prog) tt tt_ok 5000 134 [.tmp 4,.tmp 5] Tryz.func120 rfl Tryz.ntmps120 rfl (Nat.le_of_ble_eq_true rfl) (fun E9 w9 hn9 hm9=>?_)
 refine br (fun c=>?_) (fun c=>?_)
 ·have c:kind=5:=by simpa using c
  have c56:kind=5∨kind=6:=.inl c
  obtain ⟨x,hes,_,_⟩:=hone c56
  refine br (fun _=>?_) (fun h=>absurd h (by simp [c]))
  refine drawG_i (fun _=>false) mo (by decide +kernel) ?_
  refine br (fun h=>absurd h (by simp [c])) (fun _=>?_)
  obtain ⟨kd,mo,h1,h2,h3,h4⟩:∃ kd mo:Int,5=kd∧most=mo∧kd=kind∧mo=(if kind=6 then 1 else most):=⟨5,most,rfl,rfl,c.symm,by rw [if_neg (by omega)]⟩
  have hg0:(dEds es)[0]? = some (dEd x):=by rw [hes];all_goals rfl
  have ht0:to0 ⟨kind,at',lo,hi,most,names,es⟩=x.to:=by simp [to0,hes]
  refine loop_i (fun j st=>∃ e:Nat,st=kd5St ⟨kind,at',lo,hi,most,names,es⟩ (.mk q z s ks) (List.replicate e x.to) (plainV (.mk q z s ks)) kd mo e e∧e≤ks.length∧j=ks.length - e) ks.length (kd5St ⟨kind,at',lo,hi,most,names,es⟩ (.mk q z s ks) [] (plainV (.mk q z s ks)) kd mo 0 0) (weak_bt 2 ⟨0,3,1,none⟩ rfl rfl rfl (by repeat' (first | exact rfl | exact we_rfl rfl | exact we_bool (hp _ rfl) | exact we_int h1 | exact we_int h2 | exact we_int (congrArg Nat.cast hdl) | exact we_tok (Nat.le_refl _) rfl | exact we_tok (Nat.le_refl _) rfl | refine ⟨_,_,rfl,?_,?_⟩)) rfl rfl (by repeat' (first | exact trivial | exact we_rfl rfl | exact we_bool (hp _ rfl) | exact we_int h1 | exact we_int h2 | exact we_int (congrArg Nat.cast hdl) | exact we_tok (Nat.le_refl _) rfl | refine ⟨⟨_,rfl,?_⟩,?_⟩))) ⟨0,rfl,by omega,by omega⟩ ?_
  rintro j st ⟨e,rfl,he,rfl⟩
  refine br (fun hL=>?_) (fun hL=>?_)
  ·have hlt:e < ks.length:=by have:=hL;simp [Val.ks] at this;exact this
   have hml:(dZs (List.replicate e x.to)).length=e:=by rw [dZs_len,List.length_replicate]
   have hsn:dZs (List.replicate e x.to) ++ [[DV.v (.int .i64 x.to)]]=dZs (List.replicate (e + 1) x.to):=by rw [dZs_snoc,List.replicate_succ']
   refine ⟨_,⟨by omega,hg0⟩,?_⟩
   refine ⟨hml,⟨by rw [hml];simp [maxLen];omega,by rw [hml];simp;omega⟩,?_⟩
   exact ⟨kd5St ⟨kind,at',lo,hi,most,names,es⟩ (.mk q z s ks) (List.replicate (e + 1) x.to) (plainV (.mk q z s ks)) kd mo (e + 1) (e + 1),(weak_b 2 rfl (by repeat' (first | exact rfl | exact we_rfl rfl | exact we_int (nxt hlt (by omega)) | exact we_sl hsn rfl | refine ⟨_,_,rfl,?_,?_⟩)) rfl rfl rfl (by repeat' (first | exact trivial | exact we_rfl rfl | exact we_int (nxt hlt (by omega)) | exact we_sl hsn rfl | refine ⟨⟨_,rfl,?_⟩,?_⟩))),ks.length - (e + 1),by omega,e + 1,rfl,by omega,rfl⟩
  ·have hge:e=ks.length:=by have:=hL;simp [Val.ks] at this;omega
   subst hge
   have hkl2:kidsL ⟨kind,at',lo,hi,most,names,es⟩ (.mk q z s ks)=List.replicate ks.length x.to:=by unfold kidsL;rw [if_pos c56,ht0];all_goals rfl
   have hml:(dZs (List.replicate ks.length x.to)).length=ks.length:=by rw [dZs_len,List.length_replicate]
   have hB:pickB (pickB (plainV (.mk q z s ks)) (decide (q=kd)) false) (decide (((dZs (List.replicate ks.length x.to)).length:Int)≤mo)) false=kidsB ⟨kind,at',lo,hi,most,names,es⟩ (.mk q z s ks):=by
    rw [hml,h3,h4,pickB_and,pickB_and]
    unfold kidsB
    rw [if_pos c56]
    rfl
   rw [hkl2]
   exact ⟨_,(by repeat' (first | exact rfl | exact trivial | exact Or.inr (Or.inl ⟨_,rfl⟩) | exact Or.inr ⟨_,rfl⟩ | exact Or.inl ⟨rfl,rfl⟩ | exact Or.inl rfl | refine Or.inr ⟨_,_,rfl,Nat.zero_le _,rfl,?_⟩ | refine ⟨_,_,rfl,?_,?_⟩ | refine ⟨_,rfl,?_⟩ | exact congrArg (fun b=>DV.v (.bool b)) hB | refine Or.inr (Or.inr (Or.inr ⟨_,_,rfl,?_⟩)) | exact Or.inl rfl | refine Or.inr ?_)),rfl⟩
 have c5:¬ kind=5:=by simpa using c
 refine br (fun c=>?_) (fun c=>?_)
 ·have c:kind=6:=by simpa using c
  have c56:kind=5∨kind=6:=.inr c
  obtain ⟨x,hes,_,_⟩:=hone c56
  refine drawG_i (fun _=>false) mo (by decide +kernel) ?_
  refine br (fun _=>?_) (fun h=>absurd h (by simp [c]))
  obtain ⟨kd,mo,h1,h2,h3,h4⟩:∃ kd mo:Int,6=kd∧1=mo∧kd=kind∧mo=(if kind=6 then 1 else most):=⟨6,1,rfl,rfl,c.symm,by rw [if_pos c]⟩
  have hg0:(dEds es)[0]? = some (dEd x):=by rw [hes];all_goals rfl
  have ht0:to0 ⟨kind,at',lo,hi,most,names,es⟩=x.to:=by simp [to0,hes]
  refine loop_i (fun j st=>∃ e:Nat,st=kd5St ⟨kind,at',lo,hi,most,names,es⟩ (.mk q z s ks) (List.replicate e x.to) (plainV (.mk q z s ks)) kd mo e e∧e≤ks.length∧j=ks.length - e) ks.length (kd5St ⟨kind,at',lo,hi,most,names,es⟩ (.mk q z s ks) [] (plainV (.mk q z s ks)) kd mo 0 0) (weak_bt 2 ⟨0,3,1,none⟩ rfl rfl rfl (by repeat' (first | exact rfl | exact we_rfl rfl | exact we_bool (hp _ rfl) | exact we_int h1 | exact we_int h2 | exact we_int (congrArg Nat.cast hdl) | exact we_tok (Nat.le_refl _) rfl | exact we_tok (Nat.le_refl _) rfl | refine ⟨_,_,rfl,?_,?_⟩)) rfl rfl (by repeat' (first | exact trivial | exact we_rfl rfl | exact we_bool (hp _ rfl) | exact we_int h1 | exact we_int h2 | exact we_int (congrArg Nat.cast hdl) | exact we_tok (Nat.le_refl _) rfl | refine ⟨⟨_,rfl,?_⟩,?_⟩))) ⟨0,rfl,by omega,by omega⟩ ?_
  rintro j st ⟨e,rfl,he,rfl⟩
  refine br (fun hL=>?_) (fun hL=>?_)
  ·have hlt:e < ks.length:=by have:=hL;simp [Val.ks] at this;exact this
   have hml:(dZs (List.replicate e x.to)).length=e:=by rw [dZs_len,List.length_replicate]
   have hsn:dZs (List.replicate e x.to) ++ [[DV.v (.int .i64 x.to)]]=dZs (List.replicate (e + 1) x.to):=by rw [dZs_snoc,List.replicate_succ']
   refine ⟨_,⟨by omega,hg0⟩,?_⟩
   refine ⟨hml,⟨by rw [hml];simp [maxLen];omega,by rw [hml];simp;omega⟩,?_⟩
   exact ⟨kd5St ⟨kind,at',lo,hi,most,names,es⟩ (.mk q z s ks) (List.replicate (e + 1) x.to) (plainV (.mk q z s ks)) kd mo (e + 1) (e + 1),(weak_b 2 rfl (by repeat' (first | exact rfl | exact we_rfl rfl | exact we_int (nxt hlt (by omega)) | exact we_sl hsn rfl | refine ⟨_,_,rfl,?_,?_⟩)) rfl rfl rfl (by repeat' (first | exact trivial | exact we_rfl rfl | exact we_int (nxt hlt (by omega)) | exact we_sl hsn rfl | refine ⟨⟨_,rfl,?_⟩,?_⟩))),ks.length - (e + 1),by omega,e + 1,rfl,by omega,rfl⟩
  ·have hge:e=ks.length:=by have:=hL;simp [Val.ks] at this;omega
   subst hge
   have hkl2:kidsL ⟨kind,at',lo,hi,most,names,es⟩ (.mk q z s ks)=List.replicate ks.length x.to:=by unfold kidsL;rw [if_pos c56,ht0];all_goals rfl
   have hml:(dZs (List.replicate ks.length x.to)).length=ks.length:=by rw [dZs_len,List.length_replicate]
   have hB:pickB (pickB (plainV (.mk q z s ks)) (decide (q=kd)) false) (decide (((dZs (List.replicate ks.length x.to)).length:Int)≤mo)) false=kidsB ⟨kind,at',lo,hi,most,names,es⟩ (.mk q z s ks):=by
    rw [hml,h3,h4,pickB_and,pickB_and]
    unfold kidsB
    rw [if_pos c56]
    rfl
   rw [hkl2]
   exact ⟨_,(by repeat' (first | exact rfl | exact trivial | exact Or.inr (Or.inl ⟨_,rfl⟩) | exact Or.inr ⟨_,rfl⟩ | exact Or.inl ⟨rfl,rfl⟩ | exact Or.inl rfl | refine Or.inr ⟨_,_,rfl,Nat.zero_le _,rfl,?_⟩ | refine ⟨_,_,rfl,?_,?_⟩ | refine ⟨_,rfl,?_⟩ | exact congrArg (fun b=>DV.v (.bool b)) hB | refine Or.inr (Or.inr (Or.inr ⟨_,_,rfl,?_⟩)) | exact Or.inl rfl | refine Or.inr ?_)),rfl⟩
 have c6:¬ kind=6:=by simpa using c
 obtain ⟨hm64,hm8,_,_⟩:=hmany (by omega)
 refine br (fun c=>?_) (fun c=>?_)
 ·have c7:kind=7:=by simpa using c
  refine loop_i (fun j st=>∃ e:Nat,st=kd7St ⟨kind,at',lo,hi,most,names,es⟩ (.mk q z s ks) ((es.take e).map Ed.to) (plainV (.mk q z s ks)) e e∧e≤es.length∧j=es.length - e) es.length (kd7St ⟨kind,at',lo,hi,most,names,es⟩ (.mk q z s ks) [] (plainV (.mk q z s ks)) 0 0) (weak_bt 2 ⟨0,3,1,none⟩ rfl rfl rfl (by repeat' (first | exact rfl | exact we_rfl rfl | exact we_bool (hp _ rfl) | exact we_tok (Nat.le_refl _) rfl | exact we_tok (Nat.le_refl _) rfl | refine ⟨_,_,rfl,?_,?_⟩)) rfl rfl (by repeat' (first | exact trivial | exact we_rfl rfl | exact we_bool (hp _ rfl) | exact we_tok (Nat.le_refl _) rfl | refine ⟨⟨_,rfl,?_⟩,?_⟩))) ⟨0,rfl,by omega,by omega⟩ ?_
  rintro j st ⟨e,rfl,he,rfl⟩
  refine br (fun hL=>?_) (fun hL=>?_)
  ·have hlt:e < es.length:=by have:=hL;simp [hel] at this;exact this
   obtain ⟨x,hx⟩:∃ x,es[e]? = some x:=⟨_,List.getElem?_eq_getElem hlt⟩
   have hml:(dZs ((es.take e).map Ed.to)).length=e:=by rw [dZs_len,List.length_map,List.length_take];omega
   have hsn:dZs ((es.take e).map Ed.to) ++ [[DV.v (.int .i64 x.to)]]=dZs ((es.take (e + 1)).map Ed.to):=by rw [dZs_snoc,take_snoc hx,List.map_append];all_goals rfl
   refine ⟨_,⟨by omega,dEds_get hx⟩,?_⟩
   refine ⟨hml,⟨by rw [hml];simp [maxLen];omega,by rw [hml];simp;omega⟩,?_⟩
   exact ⟨kd7St ⟨kind,at',lo,hi,most,names,es⟩ (.mk q z s ks) ((es.take (e + 1)).map Ed.to) (plainV (.mk q z s ks)) (e + 1) (e + 1),(weak_b 2 rfl (by repeat' (first | exact rfl | exact we_rfl rfl | exact we_int (nxt hlt (by omega)) | exact we_sl hsn rfl | refine ⟨_,_,rfl,?_,?_⟩)) rfl rfl rfl (by repeat' (first | exact trivial | exact we_rfl rfl | exact we_int (nxt hlt (by omega)) | exact we_sl hsn rfl | refine ⟨⟨_,rfl,?_⟩,?_⟩))),es.length - (e + 1),by omega,e + 1,rfl,by omega,rfl⟩
  ·have hge:e=es.length:=by have:=hL;simp [hel] at this;omega
   subst hge
   rw [List.take_length]
   have hkl2:kidsL ⟨kind,at',lo,hi,most,names,es⟩ (.mk q z s ks)=es.map Ed.to:=by unfold kidsL;rw [if_neg (by simp only;omega),if_pos c7]
   have hml:(dZs (es.map Ed.to)).length=es.length:=by rw [dZs_len,List.length_map]
   have hB:pickB (pickB (plainV (.mk q z s ks)) (decide (q=7)) false) (decide (((dZs (es.map Ed.to)).length:Int)=((dVals ks).length:Int))) false=kidsB ⟨kind,at',lo,hi,most,names,es⟩ (.mk q z s ks):=by
    rw [hml,hdl,pickB_and,pickB_and]
    unfold kidsB
    rw [if_neg (by simp only;omega),if_pos c7]
    have:((es.length:Int)=(ks.length:Int))↔es.length=ks.length:=by omega
    simp only [this,Val.k,Val.ks]
    rfl
   rw [hkl2]
   refine drawG_i (fun _=>false) mo (by decide +kernel) ?_
   exact ⟨_,(by repeat' (first | exact rfl | exact trivial | exact Or.inr (Or.inl ⟨_,rfl⟩) | exact Or.inr ⟨_,rfl⟩ | exact Or.inl ⟨rfl,rfl⟩ | exact Or.inl rfl | refine Or.inr ⟨_,_,rfl,Nat.zero_le _,rfl,?_⟩ | refine ⟨_,_,rfl,?_,?_⟩ | refine ⟨_,rfl,?_⟩ | exact congrArg (fun b=>DV.v (.bool b)) hB | refine Or.inr (Or.inr (Or.inr ⟨_,_,rfl,?_⟩)) | exact Or.inl rfl | refine Or.inr ?_)),rfl⟩
 have c7:¬ kind=7:=by simpa using c
 have hkl2:kidsL ⟨kind,at',lo,hi,most,names,es⟩ (.mk q z s ks)=(match tagE ⟨kind,at',lo,hi,most,names,es⟩ (.mk q z s ks) with | none=>[] | some e=>if e.bare=true then [] else [e.to]):=by unfold kidsL;rw [if_neg (by simp only;omega),if_neg c7];all_goals rfl
 have hkb2:kidsB ⟨kind,at',lo,hi,most,names,es⟩ (.mk q z s ks)=(match tagE ⟨kind,at',lo,hi,most,names,es⟩ (.mk q z s ks) with | none=>false | some _=>plainV (.mk q z s ks) && decide ((kidsL ⟨kind,at',lo,hi,most,names,es⟩ (.mk q z s ks)).length=ks.length)):=by unfold kidsB;rw [if_neg (by simp only;omega),if_neg c7];all_goals rfl
 have hc:∀ b:Bool,b=pickB (pickB (!decide (q=8)) true (decide (z < 0))) true (decide (((dEds es).length:Int)≤z))→b = !decide (q=8∧0≤z∧z < es.length):=fun b h=>by
  rw [h,hel,pickB_or,pickB_or,Bool.eq_iff_iff]
  simp
  omega
 refine br (fun c=>?_) (fun c=>?_)
 ·have c:¬ (q=8∧0≤z∧z < es.length):=by have:=(hc _ rfl).symm.trans c;simpa only [Bool.not_eq_true',decide_eq_false_iff_not] using this
  have ht:tagE ⟨kind,at',lo,hi,most,names,es⟩ (.mk q z s ks)=none:=by show (if q=8∧0≤z∧z < es.length then es[z.toNat]? else none)=_;rw [if_neg c]
  rw [hkb2,hkl2,ht]
  exact ⟨_,ax,rfl⟩
 ·have c:q=8∧0≤z∧z < es.length:=by have:=(hc _ rfl).symm.trans c;simpa only [Bool.not_eq_false',decide_eq_true_eq] using this
  obtain ⟨x,hx⟩:∃ x,es[z.toNat]? = some x:=⟨_,List.getElem?_eq_getElem (by omega)⟩
  have ht:tagE ⟨kind,at',lo,hi,most,names,es⟩ (.mk q z s ks)=some x:=by show (if q=8∧0≤z∧z < es.length then es[z.toNat]? else none)=_;rw [if_pos c];exact hx
  rw [ht] at hkb2 hkl2
  refine ⟨_,⟨by omega,dEds_get hx⟩,?_⟩
  refine br (fun hb=>?_) (fun hb=>?_)
  ·have hb:x.bare=false:=by simpa using hb
   have hkl3:kidsL ⟨kind,at',lo,hi,most,names,es⟩ (.mk q z s ks)=[x.to]:=by rw [hkl2];simp [hb]
   have hB:pickB (plainV (.mk q z s ks)) (decide ((1:Int)=((dVals ks).length:Int))) false=kidsB ⟨kind,at',lo,hi,most,names,es⟩ (.mk q z s ks):=by
    rw [hkb2,hkl3,hdl,pickB_and]
    have:((1:Int)=(ks.length:Int)) ↔ [x.to].length=ks.length:=by simp;omega
    simp only [this]
   rw [hkl3,← hB]
   refine ⟨⟨by simp [maxLen],by simp⟩,?_⟩
   refine drawG_i (fun _=>false) mo (by decide +kernel) ?_
   exact ⟨_,(by repeat' (first | exact rfl | exact trivial | exact Or.inr (Or.inl ⟨_,rfl⟩) | exact Or.inr ⟨_,rfl⟩ | exact Or.inl ⟨rfl,rfl⟩ | exact Or.inl rfl | refine Or.inr ⟨_,_,rfl,Nat.zero_le _,rfl,?_⟩ | refine ⟨_,_,rfl,?_,?_⟩ | refine ⟨_,rfl,?_⟩ | exact congrArg (fun b=>DV.v (.bool (pickB b _ false))) (hp _ rfl) | refine Or.inr (Or.inr (Or.inr ⟨_,_,rfl,?_⟩)) | exact Or.inl rfl | refine Or.inr ?_)),rfl⟩
  ·have hb:x.bare=true:=by simpa using hb
   have hkl3:kidsL ⟨kind,at',lo,hi,most,names,es⟩ (.mk q z s ks)=[]:=by rw [hkl2];simp [hb]
   have hB:pickB (plainV (.mk q z s ks)) (decide ((0:Int)=((dVals ks).length:Int))) false=kidsB ⟨kind,at',lo,hi,most,names,es⟩ (.mk q z s ks):=by
    rw [hkb2,hkl3,hdl,pickB_and]
    have:((0:Int)=(ks.length:Int))↔([]:List Int).length=ks.length:=by simp;omega
    simp only [this]
   rw [hkl3,← hB]
   refine drawG_i (fun _=>false) mo (by decide +kernel) ?_
   exact ⟨_,(by repeat' (first | exact rfl | exact trivial | exact Or.inr (Or.inl ⟨_,rfl⟩) | exact Or.inr ⟨_,rfl⟩ | exact Or.inl ⟨rfl,rfl⟩ | exact Or.inl rfl | refine Or.inr ⟨_,_,rfl,Nat.zero_le _,rfl,?_⟩ | refine ⟨_,_,rfl,?_,?_⟩ | refine ⟨_,rfl,?_⟩ | exact congrArg (fun b=>DV.v (.bool (pickB b _ false))) (hp _ rfl) | refine Or.inr (Or.inr (Or.inr ⟨_,_,rfl,?_⟩)) | exact Or.inl rfl | refine Or.inr ?_)),rfl⟩
end Go.Proofs.YtbfdbhechmhpoaaGreat

set_option maxRecDepth 100000
namespace Go.Proofs.YtbfdbhechmhpoaaGreat
open Go Go.RowKit Dv Tryz
theorem kidsB_len {n:Nd} {v:Val} (hk:5≤n.kind) (h:kidsB n v=true):(kidsL n v).length=v.ks.length:=by
 unfold kidsB at h
 by_cases c:n.kind=5∨n.kind=6
 ·unfold kidsL;rw [if_pos c];simp
 rw [if_neg c] at h
 by_cases c7:n.kind=7
 ·rw [if_pos c7] at h
  unfold kidsL;rw [if_neg c,if_pos c7,List.length_map]
  simp at h;exact h.2
 rw [if_neg c7] at h
 cases ht:tagE n v with
 | none=>rw [ht] at h;cases h
 | some e=>rw [ht] at h;simp only [Bool.and_eq_true,decide_eq_true_eq] at h;exact h.2
theorem fitVs_drop {ND:List Nd} {ks:List Val} {l:List Int} {e:Nat} {x:Val} {i:Int} (h1:ks[e]? = some x) (h2:l[e]? = some i):fitVs ND (ks.drop e) (l.drop e)=(fitV ND x i && fitVs ND (ks.drop (e + 1)) (l.drop (e + 1))):=by
 rw [drop_cons h1,drop_cons h2,fitVs]
theorem nodeA_some {ND:List Nd} {i:Int} {d:Nd} (h:nodeA ND i=some d):0≤i∧ND[i.toNat]? = some d:=by
 unfold nodeA at h
 split at h
 ·cases h
 ·exact ⟨by omega,h⟩
theorem nodeA_none {ND:List Nd} {i:Int} (h:nodeA ND i=none):i < 0∨(ND.length:Int)≤i:=by
 unfold nodeA at h
 split at h
 ·left;assumption
 ·right
  have:=List.getElem?_eq_none_iff.1 h
  omega
abbrev tfSt (PC:List DV) (v:Val) (l:List Int) (e:Nat):St:=
 ⟨[(0,⟨[],.pt PC 0⟩),(5,⟨[],.loc 0 0⟩),(36,⟨[],.sl 1 (dZs l) none⟩),(37,⟨[],.v (.int .i64 l.length)⟩),(38,⟨[],.v (.int .i64 e)⟩)],[dVal v],[]⟩
theorem tfits_spec {S:Sch} {ND:List Nd} {PC:List DV} (hP:PlanR S ND PC):∀ (k:Nat) (v:Val),v.wt≤k→v.wt≤1099511627776→∀ i:Int,EvP Tryz.prog 56 [.pt PC 0,.v (.int .i64 i),.agg (dVal v)] (.v (.bool (fitV ND v i)))
 | 0,v,h,_=>by have:=v.wt_pos;omega
 | k + 1,.mk q z s ks,h,hb=>fun i=>by
  have ih:=tfits_spec hP k
  have hkl:=wtVs_len ks
  have hdl:=dVals_len ks
  have hb':=hb
  rw [Val.wt] at h hb
  rw [fitV]
  have hnode:=hP.node
  have hnodeN:=hP.nodeN
  have hok:=hP.ok
  cases hd:nodeA ND i with
  | none=>
   refine ev_go (P:=Tryz.prog) tt tt_ok 5000 53 [.tmp 6] Tryz.func56 rfl Tryz.ntmps56 rfl (Nat.le_of_ble_eq_true rfl) (fun E9 w9 hn9 hm9=>?_)
   refine call_p en18 (hnodeN i (nodeA_none hd)) ax rfl ?_
   exact (rfl:_=_)
  | some d=>
   obtain ⟨h0,hg⟩:=nodeA_some hd
   obtain ⟨j,rfl⟩:∃ j:Nat,i=j:=⟨i.toNat,by omega⟩
   have hg:ND[j]? = some d:=by simpa using hg
   have hN:=hok d (List.mem_of_getElem? hg)
   have hlf:=leaf_spec d (.mk q z s ks)
   have hkd:=fun h5=>kids_spec hN h5 (.mk q z s ks) hb'
   have hlen:=fun h5=>kidsB_len (n:=d) (v:=.mk q z s ks) h5
   simp only
   obtain ⟨kind,at',lo,hi,most,names,es⟩:=d
   simp only at hkd hlen
   refine ev_go (P:=Tryz.prog) tt tt_ok 5000 53 [.tmp 6] Tryz.func56 rfl Tryz.ntmps56 rfl (Nat.le_of_ble_eq_true rfl) (fun E9 w9 hn9 hm9=>?_)
   refine call_p en18 (hnode j _ hg) ax rfl ?_
   refine br (fun c=>?_) (fun c=>?_)
   ·have c:kind < 5:=by simpa using c
    rw [if_pos c]
    refine call_p en119 (hlf) ax rfl ?_
    exact (rfl:_=_)
   have c:¬ kind < 5:=by simpa using c
   rw [if_neg c]
   have hkd:=hkd (by omega)
   have hlen:=hlen (by omega)
   generalize kidsL ⟨kind,at',lo,hi,most,names,es⟩ (.mk q z s ks)=l at hkd hlen ⊢
   have hzl:=dZs_len l
   refine call_p en120 (hkd) ax rfl ?_
   cases hB:kidsB ⟨kind,at',lo,hi,most,names,es⟩ (.mk q z s ks) with
   | false=>
    exact (rfl:_=_)
   | true=>
    have hlen:l.length=ks.length:=hlen hB
    rw [Bool.true_and]
    refine loop_i (fun j st=>∃ e:Nat,st=tfSt PC (.mk q z s ks) l e∧e≤l.length∧fitVs ND ks l=fitVs ND (ks.drop e) (l.drop e)∧j=l.length - e) l.length (tfSt PC (.mk q z s ks) l 0) (weak_mk ⟨_,rfl⟩ wA rfl rfl rfl (by repeat' (first | exact trivial | exact we_rfl rfl | exact we_int (congrArg Nat.cast hzl) | refine ⟨⟨_,rfl,?_⟩,?_⟩))) ⟨0,rfl,by omega,rfl,by omega⟩ ?_
    rintro _ st ⟨e,rfl,he,heq,rfl⟩
    refine br (fun hL=>?_) (fun hL=>?_)
    ·have hlt:e < l.length:=by have:=hL;simp at this;exact this
     obtain ⟨x,hx⟩:∃ x,ks[e]? = some x:=⟨_,List.getElem?_eq_getElem (by omega)⟩
     obtain ⟨y,hy⟩:∃ y,l[e]? = some y:=⟨_,List.getElem?_eq_getElem hlt⟩
     have hxw:=wtVs_mem (List.mem_of_getElem? hx)
     rw [fitVs_drop hx hy] at heq
     have hi':=ih x (by omega) (by omega) y
     obtain ⟨xk,xn,xs,xl⟩:=x
     refine ⟨_,⟨by omega,dZs_get hy⟩,?_⟩
     refine ⟨_,⟨by omega,dVals_get hx⟩,?_⟩
     refine call_p en56 (hi') ax rfl ?_
     refine br (fun g=>?_) (fun g=>?_)
     ·have g:fitV ND (.mk xk xn xs xl) y=false:=by simpa using g
      rw [heq,g]
      exact (rfl:_=_)
     ·have g:fitV ND (.mk xk xn xs xl) y=true:=by simpa using g
      rw [g,Bool.true_and] at heq
      exact ⟨tfSt PC (.mk q z s ks) l (e + 1),(weak_mk ⟨_,rfl⟩ wA rfl rfl rfl (by repeat' (first | exact trivial | exact we_rfl rfl | exact we_int (nxt hlt (by omega)) | refine ⟨⟨_,rfl,?_⟩,?_⟩))),l.length - (e + 1),by omega,e + 1,rfl,by omega,heq,rfl⟩
    ·have hge:e=l.length:=by have:=hL;simp at this;omega
     rw [List.drop_of_length_le (by omega),List.drop_of_length_le (by omega)] at heq
     rw [heq]
     exact (rfl:_=_)
end Go.Proofs.YtbfdbhechmhpoaaGreat

set_option maxRecDepth 100000
namespace Go.Proofs.YtbfdbhechmhpoaaGreat
open Go Go.RowKit Dv Tryz
structure FitF (ND:List Nd) (v:Val) (i:Int) (d:Nd):Prop where
 node:nodeA ND i=some d
 k:v.k=d.kind
 leaf:d.kind < 5→v.ks=[]
 enum:d.kind=4→0≤v.n∧v.n < d.names.length
 kids:5≤d.kind→(kidsL d v).length=v.ks.length∧fitVs ND v.ks (kidsL d v)=true
 tag:d.kind=8→∃ e,tagE d v=some e∧d.edges[v.n.toNat]? = some e∧0≤v.n∧v.n < d.edges.length∧(e.bare=true↔v.ks=[])
 opt:d.kind=6→v.ks.length≤1
theorem fit_facts {L:Nat} {ND:List Nd} (hok:∀ n∈ND,NdOK L ND.length n) {v:Val} {i:Int} (h:fitV ND v i=true):∃ d,FitF ND v i d:=by
 obtain ⟨k,n,s,ks⟩:=v
 rw [fitV] at h
 cases hd:nodeA ND i with
 | none=>rw [hd] at h;cases h
 | some d=>
  rw [hd] at h
  simp only at h
  have hN:=hok d (List.mem_of_getElem? (nodeA_some hd).2)
  have hk1:=hN.k1
  have hk8:=hN.k8
  by_cases h5:d.kind < 5
  ·rw [if_pos h5] at h
   unfold leafF at h
   by_cases hc:0 < (Val.mk k n s ks).ks.length∨((Val.mk k n s ks).k≠3∧(Val.mk k n s ks).s≠emptyB)∨((Val.mk k n s ks).k=3∧(Val.mk k n s ks).n≠0)
   ·rw [if_pos hc] at h;cases h
   rw [if_neg hc] at h
   have hnil:ks=[]:=by
    cases ks with
    | nil=>rfl
    | cons a b=>exact (hc (.inl (by simp [Val.ks]))).elim
   have hk:k=d.kind∧(d.kind=4→0≤n∧n < d.names.length):=by
    rcases (show d.kind=1∨d.kind=2∨d.kind=3∨d.kind=4 by omega) with c | c | c | c
    all_goals
     simp [c,Val.k,Val.n] at h
     simp only [c]
     constructor
     ·first | exact of_decide_eq_true h.1 | exact of_decide_eq_true h.1.1
     ·first | (intro;omega) | exact fun _=>⟨of_decide_eq_true h.1.2,of_decide_eq_true h.2⟩
   exact ⟨d,{ node:=hd,k:=hk.1,leaf:=fun _=>hnil,enum:=hk.2,kids:=fun h=>by omega,tag:=fun h=>by omega,opt:=fun h=>by omega }⟩
  ·rw [if_neg h5,Bool.and_eq_true] at h
   obtain ⟨hB,hf⟩:=h
   have hlen:=kidsB_len (by omega) hB
   have hB2:=hB
   unfold kidsB at hB
   by_cases c:d.kind=5∨d.kind=6
   ·rw [if_pos c] at hB
    simp only [Bool.and_eq_true,decide_eq_true_eq] at hB
    exact ⟨d,{ node:=hd,k:=hB.1.2,leaf:=fun h=>by omega,enum:=fun h=>by omega,kids:=fun _=>⟨hlen,hf⟩,tag:=fun h=>by omega,opt:=fun h=>by have:=hB.2;rw [if_pos h] at this;omega }⟩
   rw [if_neg c] at hB
   by_cases c7:d.kind=7
   ·rw [if_pos c7] at hB
    simp only [Bool.and_eq_true,decide_eq_true_eq] at hB
    exact ⟨d,{ node:=hd,k:=by rw [c7];exact hB.1.2,leaf:=fun h=>by omega,enum:=fun h=>by omega,kids:=fun _=>⟨hlen,hf⟩,tag:=fun h=>by omega,opt:=fun h=>by omega }⟩
   rw [if_neg c7] at hB
   cases ht:tagE d (.mk k n s ks) with
   | none=>rw [ht] at hB;cases hB
   | some e=>
    have ht2:=ht
    unfold tagE at ht2
    split at ht2
    ·rename_i hr
     have hkl:kidsL d (.mk k n s ks)=if e.bare=true then [] else [e.to]:=by unfold kidsL;rw [if_neg c,if_neg c7,ht]
     refine ⟨d,{ node:=hd,k:=by have:=hr.1;omega,leaf:=fun h=>by omega,enum:=fun h=>by omega,kids:=fun _=>⟨hlen,hf⟩,tag:=fun _=>⟨e,ht,ht2,hr.2.1,hr.2.2,?_⟩,opt:=fun h=>by omega }⟩
     rw [hkl] at hlen
     constructor
     ·intro hb
      rw [if_pos hb] at hlen
      exact List.eq_nil_of_length_eq_zero hlen.symm
     ·intro hnil
      rw [hnil] at hlen
      cases hb:e.bare
      ·rw [hb] at hlen;simp at hlen
      ·rfl
    ·cases ht2
theorem fitVs_at {ND:List Nd}:∀ {ks:List Val} {l:List Int} {e:Nat} {x:Val} {i:Int},fitVs ND ks l=true→ks[e]? = some x→l[e]? = some i→fitV ND x i=true
 | [],_,e,x,i,_,h,_=>by simp at h
 | _ :: _,[],e,x,i,_,_,h=>by simp at h
 | v :: r,j :: l,0,x,i,h,h1,h2=>by
  simp only [List.getElem?_cons_zero,Option.some.injEq] at h1 h2
  subst h1 h2
  rw [fitVs,Bool.and_eq_true] at h
  exact h.1
 | v :: r,j :: l,e + 1,x,i,h,h1,h2=>by
  simp only [List.getElem?_cons_succ] at h1 h2
  rw [fitVs,Bool.and_eq_true] at h
  exact fitVs_at h.2 h1 h2
end Go.Proofs.YtbfdbhechmhpoaaGreat

set_option maxRecDepth 100000
namespace Go.Proofs.YtbfdbhechmhpoaaGreat
open Go Go.RowKit Dv Tryz
structure Stp where
 k:Int
 n:Int
 s:ByteArray
end Go.Proofs.YtbfdbhechmhpoaaGreat

set_option maxRecDepth 100000
namespace Go.Proofs.YtbfdbhechmhpoaaGreat
open Go Go.RowKit Dv Tryz
def leqI (f:Nat→Nat→Bool) (n:Nat) (a b:Int):Bool:=decide (0≤a) && decide (a < n) && decide (0≤b) && decide (b < n) && f a.toNat b.toNat
def jnF (f:Nat→Nat→Bool) (n a b:Nat):Nat:=(joinN f n a b).getD 0
def botF (f:Nat→Nat→Bool) (n:Nat):Nat:=(leastN f n []).getD 0
theorem leqI_nat {f:Nat→Nat→Bool} {n a b:Nat} (ha:a < n) (hb:b < n):leqI f n a b=f a b:=by simp [leqI,ha,hb]
theorem jnF_some {f:Nat→Nat→Bool} {n a b:Nat} (h:LatOK f n) (ha:a < n) (hb:b < n):joinN f n a b=some (jnF f n a b):=by
 obtain ⟨k,hk⟩:=h.jn a b ha hb
 simp [jnF,hk]
theorem jnF_lt {f:Nat→Nat→Bool} {n a b:Nat} (h:LatOK f n) (ha:a < n) (hb:b < n):jnF f n a b < n:=(joinN_spec (jnF_some h ha hb)).1
theorem botF_some {f:Nat→Nat→Bool} {n:Nat} (h:LatOK f n):leastN f n []=some (botF f n):=by
 obtain ⟨c,hc⟩:=leastN_some h [] (fun _ h=>by cases h)
 simp [botF,hc]
theorem botF_lt {f:Nat→Nat→Bool} {n:Nat} (h:LatOK f n):botF f n < n:=leastN_lt (botF_some h)
section
variable (names:List ByteArray) (tc:List DV) (rows:List Nat) (js:List Int)
theorem lleq_spec (hr:RelOK rows) (hl:rows.length=names.length) (a b:Int) :
  EvP Tryz.prog 57 [.pt (dLs names tc rows js) 0,.v (.int .i64 a),.v (.int .i64 b)] (.v (.bool (hasB rows a b))):=by
 have h1:=lhas_spec names tc rows js
 have h2:=rhas_spec rows hr a b
 have hB:hasB rows a b=(decide (0≤a) && decide (a < names.length) && decide (0≤b) && decide (b < names.length) && bitB rows a.toNat b.toNat):=by rw [← hl];all_goals rfl
 generalize hasB rows a b=h at h2 hB ⊢
 refine ev_go (P:=Tryz.prog) tt tt_ok 5000 24 [.tmp 6] Tryz.func57 rfl Tryz.ntmps57 rfl (Nat.le_of_ble_eq_true rfl) (fun E9 w9 hn9 hm9=>?_)
 refine call_p en83 (h1 a) ax rfl ?_
 refine br (fun g=>?_) (fun g=>?_)
 ·refine call_p en83 (h1 b) ax rfl ?_
  refine br (fun g2=>?_) (fun g2=>?_)
  ·refine call_p en121 (h2) ax rfl ?_
   exact (rfl:_=_)
  ·refine (congrArg (fun b=>DV.v (.bool b)) ?_:_=_)
   rw [hB]
   simp only [Bool.and_assoc] at g g2 ⊢
   cases hx:decide (0≤b)<;>cases hy:decide (b < names.length)<;>simp_all [pickB]
 ·refine (congrArg (fun b=>DV.v (.bool b)) ?_:_=_)
  rw [hB]
  cases hx:decide (0≤a)<;>cases hy:decide (a < names.length)<;>simp_all [pickB]
end
structure LatR (n:Nat) (f:Nat→Nat→Bool) (names:List ByteArray) (LC:List DV):Prop where
 ok:LatOK f n
 n32:n≤32
 nl:names.length=n
 len:EvP Tryz.prog 55 [.pt LC 0] (.v (.int .i64 n))
 leq:∀ a b:Int,EvP Tryz.prog 57 [.pt LC 0,.v (.int .i64 a),.v (.int .i64 b)] (.v (.bool (leqI f n a b)))
 join:∀ a b:Nat,a < n→b < n→EvP Tryz.prog 132 [.pt LC 0,.v (.int .i64 a),.v (.int .i64 b)] (.v (.int .i64 (jnF f n a b:Nat)))
 bot:EvP Tryz.prog 115 [.pt LC 0] (.v (.int .i64 (botF f n:Nat)))
 name:∀ (i:Nat) s,names[i]? = some s→EvP Tryz.prog 22 [.pt LC 0,.v (.int .i64 i)] (.v (.string s))
abbrev leqS (S:Sch):Nat→Nat→Bool:=leqN S.levels.length (numL (nmTx S.levels) S.order)
theorem PlanR.latR {S:Sch} {ND:List Nd} {PC:List DV} (hP:PlanR S ND PC):∃ LC,EvP Tryz.prog 21 [.pt PC 0] (.pt LC 0)∧LatR S.levels.length (leqS S) (nmTx S.levels) LC:=by
 obtain ⟨ord,js,hX,hl⟩:=hP.lat
 have hnl:=nmTx_len S.levels
 have hlf:=(hP.fine).lat
 obtain ⟨hL,h32⟩:=latOK_of hlf
 have hpr:∀ p∈numL (nmTx S.levels) S.order,p.1 < S.levels.length∧p.2 < S.levels.length:=by have:=numF_ok (latF_parts hlf).2.2.1;rwa [nmTx_len] at this
 have hrl:(lxOf S ord js).rows.length=S.levels.length:=by
  show (closeR (relN S.levels.length (numL (nmTx S.levels) S.order)) S.levels.length).length=_
  rw [closeR_len,relN_len]
 have hr:RelOK (lxOf S ord js).rows:=closeR_ok (relN_ok (by omega) _ hpr) _ (by omega)
 refine ⟨_,hl,{
  ok:=hL,n32:=h32,nl:=hnl
  len:=?_,leq:=fun a b=>?_,join:=fun a b ha hb=>?_,bot:=?_,name:=fun i s hs=>?_ }⟩
 ·have:=llen_spec (lxOf S ord js).names (dTbl (lxOf S ord js).names (lxOf S ord js).ord) (lxOf S ord js).rows (lxOf S ord js).js
  rwa [show (lxOf S ord js).names.length=S.levels.length from hnl] at this
 ·have:=lleq_spec (lxOf S ord js).names (dTbl (lxOf S ord js).names (lxOf S ord js).ord) (lxOf S ord js).rows (lxOf S ord js).js hr (by rw [hrl];exact hnl.symm) a b
  have he:hasB (lxOf S ord js).rows a b=leqI (leqS S) S.levels.length a b:=by
   unfold hasB leqI
   rw [hrl];all_goals rfl
  rwa [he] at this
 ·have hz:=(hX.hj a b (by rw [show (lxOf S ord js).names.length=S.levels.length from hnl];exact ha) (by rw [show (lxOf S ord js).names.length=S.levels.length from hnl];exact hb)).1
  rw [show (lxOf S ord js).names.length=S.levels.length from hnl,show (lxOf S ord js).f=leqS S from rfl,jnF_some hL ha hb] at hz
  exact ljoin_spec (lxOf S ord js).names (dTbl (lxOf S ord js).names (lxOf S ord js).ord) (lxOf S ord js).rows (lxOf S ord js).js a b _ (by rw [show (lxOf S ord js).names.length=S.levels.length from hnl];exact ha) (by rw [show (lxOf S ord js).names.length=S.levels.length from hnl];exact hb) hX.hn hz
 ·have:=lbottom_spec (lxOf S ord js).names (dTbl (lxOf S ord js).names (lxOf S ord js).ord) (lxOf S ord js).rows (lxOf S ord js).js hX.hL hX.hn hX.hj
  rwa [show (lxOf S ord js).names.length=S.levels.length from hnl,show (lxOf S ord js).f=leqS S from rfl,botF_some hL] at this
 ·have:=lname_spec (lxOf S ord js).names (dTbl (lxOf S ord js).names (lxOf S ord js).ord) (lxOf S ord js).rows (lxOf S ord js).js i
  have hlt:=(List.getElem?_eq_some_iff.1 hs).1
  rw [if_pos ⟨by omega,by rw [show (lxOf S ord js).names=nmTx S.levels from rfl];omega⟩,Int.toNat_natCast,show (lxOf S ord js).names=nmTx S.levels from rfl,hs] at this
  exact this
end Go.Proofs.YtbfdbhechmhpoaaGreat

set_option maxRecDepth 100000
namespace Go.Proofs.YtbfdbhechmhpoaaGreat
open Go Go.RowKit Dv Tryz
theorem edge_nums {L:Nat} {ND:List Nd} {d:Nd} (hN:NdOK L ND.length d) {e:Ed} (he:e∈d.edges):(e.bare=false→e.to=(e.to.toNat:Nat)∧e.to.toNat < ND.length)∧(e.label=(e.label.toNat:Nat)∧e.label.toNat < L)∧(e.seen=(e.seen.toNat:Nat)∧e.seen.toNat < L):=by
 have hE:=hN.edge e he
 refine ⟨fun hb=>?_,?_,?_⟩
 ·obtain ⟨k,h1,h2⟩:=hE.to1 hb
  rw [h1];exact ⟨by simp,by simpa using h2⟩
 ·obtain ⟨k,h1,h2⟩:=hE.lab
  rw [h1];exact ⟨by simp,by simpa using h2⟩
 ·obtain ⟨k,h1,h2⟩:=hE.seen
  rw [h1];exact ⟨by simp,by simpa using h2⟩
def howF (f:Nat→Nat→Bool) (n obs:Nat) (d:Nd) (e:Ed) (a:Nat):Nat:=
 if f (if d.kind < 7 then a else jnF f n a e.label.toNat) obs=true then 2 else if e.ck≠0∧f (jnF f n a e.seen.toNat) obs=true then 1 else 0
section
variable (ND:List Nd) (f:Nat→Nat→Bool) (n obs dep:Nat)
end
end Go.Proofs.YtbfdbhechmhpoaaGreat

set_option maxRecDepth 100000
namespace Go.Proofs.YtbfdbhechmhpoaaGreat
open Go Go.RowKit Dv Tryz
def edgeN (d:Nd) (z:Int) (j:Nat):Option Ed:=if d.kind=7 then d.edges[j]? else if d.kind=8 then d.edges[z.toNat]? else d.edges[0]?
def undF (f:Nat→Nat→Bool) (n:Nat) (d:Nd) (e:Ed) (a:Nat):Nat:=if d.kind < 7 then a else jnF f n a e.label.toNat
def hidV (e:Ed):Val:=.mk 9 e.wide emptyB []
def coarseV (e:Ed) (v:Val):Val:=
 if e.ck=1∧v.k=2∧(floorV v.n e.cn).2=true then .mk 10 (floorV v.n e.cn).1 emptyB []
 else if e.ck=2∧v.k=3 then .mk 11 0 (ba (headL e.cn.toNat (tx v.s))) []
 else if e.ck=3∧v.k=5 then .mk 12 v.ks.length emptyB []
 else hidV e
section
variable (ND:List Nd) (f:Nat→Nat→Bool) (L obs:Nat)
mutual
def eraseV:Val→Int→Nat→Val
 | .mk k n s ks,i,a=>match nodeA ND i with
  | none=>.mk k n s []
  | some d=>.mk k n s (eraseVs ks d n a 0)
def eraseVs:List Val→Nd→Int→Nat→Nat→List Val
 | [],_,_,_,_=>[]
 | x :: r,d,z,a,j=>(match edgeN d z j with
  | none=>x
  | some e=>if howF f L obs d e a=2 then eraseV x e.to (undF f L d e a) else if howF f L obs d e a=1 then coarseV e x else hidV e) :: eraseVs r d z a (j + 1)
end
end
section
variable {ND:List Nd} {f:Nat→Nat→Bool} {L obs:Nat}
theorem eraseVs_len:∀ (ks:List Val) (d:Nd) (z:Int) (a j:Nat),(eraseVs ND f L obs ks d z a j).length=ks.length
 | [],_,_,_,_=>by rw [eraseVs]
 | x :: r,d,z,a,j=>by rw [eraseVs,List.length_cons,List.length_cons,eraseVs_len r]
theorem eraseV_top (v:Val) (i:Int) (a:Nat):(eraseV ND f L obs v i a).k=v.k∧(eraseV ND f L obs v i a).n=v.n∧(eraseV ND f L obs v i a).s=v.s:=by
 obtain ⟨k,n,s,ks⟩:=v
 rw [eraseV]
 cases nodeA ND i<;>exact ⟨rfl,rfl,rfl⟩
theorem headL_len (u:Nat) (l:List UInt8):(headL u l).length≤l.length:=(headL_pre u l).length_le
theorem coarseV_wt (e:Ed) (v:Val):(coarseV e v).wt≤v.wt:=by
 have h1:=v.wt_pos
 unfold coarseV
 repeat' split
 ·rw [Val.wt,wtVs];show 64 + 0 + 0≤_;omega
 ·obtain ⟨k,n,s,ks⟩:=v
  have h2:=headL_len e.cn.toNat (tx s)
  rw [tx_len] at h2
  rw [Val.wt,wtVs,Val.wt]
  have:(ba (headL e.cn.toNat (tx s))).size=(headL e.cn.toNat (tx s)).length:=by rw [← tx_len,tx_ba]
  show 64 + (ba (headL e.cn.toNat (tx s))).size + 0≤_
  omega
 ·rw [Val.wt,wtVs];show 64 + 0 + 0≤_;omega
 ·rw [hidV,Val.wt,wtVs];show 64 + 0 + 0≤_;omega
mutual
theorem eraseV_wt:∀ (v:Val) (i:Int) (a:Nat),(eraseV ND f L obs v i a).wt≤v.wt
 | .mk k n s ks,i,a=>by
  rw [eraseV]
  cases nodeA ND i with
  | none=>rw [Val.wt,Val.wt,wtVs];omega
  | some d=>
   have:=eraseVs_wt ks d n a 0
   simp only
   rw [Val.wt,Val.wt];omega
theorem eraseVs_wt:∀ (ks:List Val) (d:Nd) (z:Int) (a j:Nat),wtVs (eraseVs ND f L obs ks d z a j)≤wtVs ks
 | [],_,_,_,_=>by rw [eraseVs];exact Nat.le_refl _
 | x :: r,d,z,a,j=>by
  have h1:=eraseVs_wt r d z a (j + 1)
  rw [eraseVs,wtVs,wtVs]
  have:(match edgeN d z j with
   | none=>x
   | some e=>if howF f L obs d e a=2 then eraseV ND f L obs x e.to (undF f L d e a) else if howF f L obs d e a=1 then coarseV e x else hidV e).wt≤x.wt:=by
   cases edgeN d z j with
   | none=>exact Nat.le_refl _
   | some e=>
    simp only
    split
    ·exact eraseV_wt x _ _
    ·split
     ·exact coarseV_wt e x
     ·have:=x.wt_pos
      rw [hidV,Val.wt,wtVs];show 64 + 0 + 0≤_;omega
  omega
end
theorem eraseVs_at:∀ {ks:List Val} {d:Nd} {z:Int} {a j m:Nat} {x:Val},ks[m]? = some x→(eraseVs ND f L obs ks d z a j)[m]? = some (match edgeN d z (j + m) with
  | none=>x
  | some e=>if howF f L obs d e a=2 then eraseV ND f L obs x e.to (undF f L d e a) else if howF f L obs d e a=1 then coarseV e x else hidV e)
 | [],_,_,_,_,_,_,h=>by cases h
 | y :: r,d,z,a,j,0,x,h=>by
  rw [eraseVs]
  cases h
  rfl
 | y :: r,d,z,a,j,m + 1,x,h=>by
  rw [eraseVs,List.getElem?_cons_succ,eraseVs_at (ks:=r) (m:=m) (x:=x) h,show j + 1 + m=j + (m + 1) by omega]
theorem kid_edge {N:Nat} (hok:∀ n∈ND,NdOK N ND.length n) {v:Val} {i:Int} {d:Nd} (hfit:fitV ND v i=true) (hF:FitF ND v i d) {m:Nat} {x:Val} (hx:v.ks[m]? = some x) :
  ∃ e,edgeN d v.n m=some e∧e∈d.edges∧e.bare=false∧fitV ND x e.to=true∧toR d v m=e.to∧5≤d.kind:=by
 have hN:=hok d (List.mem_of_getElem? (nodeA_some hF.node).2)
 have hm:m < v.ks.length:=(List.getElem?_eq_some_iff.1 hx).1
 have h8:=hN.k8
 have h1:=hN.k1
 by_cases h5:d.kind < 5
 ·rw [hF.leaf h5] at hx
  cases hx
 obtain ⟨hkl,hkf⟩:=hF.kids (by omega)
 rcases (show (d.kind=5∨d.kind=6)∨d.kind=7∨d.kind=8 by omega) with c | c | c
 ·obtain ⟨e,he,hb,_⟩:=hN.one c
  have ht0:to0 d=e.to:=by unfold to0;rw [he];all_goals rfl
  have hl:(kidsL d v)[m]? = some e.to:=by
   unfold kidsL
   rw [if_pos c,ht0,List.getElem?_replicate,if_pos hm]
  refine ⟨e,?_,by rw [he];exact List.mem_singleton_self e,hb,fitVs_at hkf hx hl,?_,by omega⟩
  ·unfold edgeN
   rw [if_neg (by omega),if_neg (by omega),he]
   rfl
  ·unfold toR
   rw [ht0]
   rcases c with c | c
   ·rw [if_pos c,if_pos]
    have h2:=hfit
    obtain ⟨q,z,s,ks⟩:=v
    rw [fitV,hF.node] at h2
    simp only at h2
    rw [if_neg h5,Bool.and_eq_true] at h2
    have h3:=h2.1
    unfold kidsB at h3
    rw [if_pos (.inl c)] at h3
    simp only [Bool.and_eq_true,decide_eq_true_eq] at h3
    have h4:=h3.2
    rw [if_neg (by omega)] at h4
    omega
   ·have:=hF.opt c
    rw [if_neg (by omega),if_pos c,if_pos (by omega)]
 ·have hl0:(kidsL d v)=d.edges.map Ed.to:=by
   unfold kidsL
   rw [if_neg (by omega),if_pos c]
  have hml:m < d.edges.length:=by
   rw [hl0,List.length_map] at hkl
   omega
  obtain ⟨e,he⟩:∃ e,d.edges[m]? = some e:=⟨_,List.getElem?_eq_getElem hml⟩
  have hl:(kidsL d v)[m]? = some e.to:=by rw [hl0,List.getElem?_map,he];all_goals rfl
  have hmem:=List.mem_of_getElem? he
  refine ⟨e,?_,hmem,?_,fitVs_at hkf hx hl,?_,by omega⟩
  ·unfold edgeN
   rw [if_pos c,he]
  ·cases hb:e.bare
   ·rfl
   ·have:=hN.bare e hmem hb
    omega
  ·unfold toR
   rw [if_neg (by omega),if_neg (by omega),if_pos c,he]
 ·obtain ⟨e,ht,he,h0,hlt,hb⟩:=hF.tag c
  have hbf:e.bare=false:=by
   cases hbb:e.bare
   ·rfl
   ·have:=hb.1 hbb
    rw [this] at hx
    cases hx
  have hl0:kidsL d v=[e.to]:=by
   unfold kidsL
   rw [if_neg (by omega),if_neg (by omega),ht]
   simp [hbf]
  have hm0:m=0:=by
   rw [hl0,List.length_singleton] at hkl
   omega
  subst hm0
  refine ⟨e,?_,List.mem_of_getElem? he,hbf,fitVs_at hkf hx (by rw [hl0];rfl),?_,by omega⟩
  ·unfold edgeN
   rw [if_neg (by omega),if_pos c,he]
  ·unfold toR
   rw [if_neg (by omega),if_neg (by omega),if_neg (by omega),if_pos c,if_pos ⟨by omega,h0,hlt⟩,he]
structure KidOK (ND:List Nd) (d:Nd) (z:Int) (j:Nat) (x:Val) (e:Ed):Prop where
 edge:edgeN d z j=some e
 mem:e∈d.edges
 bare:e.bare=false
 fit:fitV ND x e.to=true
 to':toR d (.mk 0 z emptyB []) j=e.to
theorem kids_ok {N:Nat} (hok:∀ n∈ND,NdOK N ND.length n) {v:Val} {i:Int} {d:Nd} (hfit:fitV ND v i=true) (hF:FitF ND v i d) {m:Nat} {x:Val} (hx:v.ks[m]? = some x):∃ e,KidOK ND d v.n m x e:=by
 obtain ⟨e,h1,h2,h3,h4,h5,_⟩:=kid_edge hok hfit hF hx
 exact ⟨e,⟨h1,h2,h3,h4,h5⟩⟩
theorem to_in {N:Nat} {d:Nd} {e:Ed} (hN:NdOK N ND.length d) (he:e∈d.edges) (hb:e.bare=false):0≤e.to∧∃ d',nodeA ND e.to=some d':=by
 obtain ⟨k,hk,hlt⟩:=(hN.edge e he).to1 hb
 refine ⟨by omega,ND[k],?_⟩
 unfold nodeA
 rw [if_neg (by omega),hk,Int.toNat_natCast,List.getElem?_eq_getElem hlt]
end
section
variable (ND:List Nd) (f:Nat→Nat→Bool) (L obs:Nat)
mutual
def narrowV:Val→Int→Nat→Val
 | .mk k n s ks,i,a=>match nodeA ND i with
  | none=>.mk k n s []
  | some d=>.mk k n s (narrowVs ks d n a 0)
def narrowVs:List Val→Nd→Int→Nat→Nat→List Val
 | [],_,_,_,_=>[]
 | x :: r,d,z,a,j=>(match edgeN d z j with
  | none=>x
  | some e=>if howF f L obs d e a=2 then narrowV x e.to (undF f L d e a) else if howF f L obs d e a=1 then (if x.k < 9 then coarseV e x else x) else hidV e) :: narrowVs r d z a (j + 1)
end
end
section
variable {ND:List Nd} {f:Nat→Nat→Bool} {L obs:Nat}
theorem howF_eq (d:Nd) (e:Ed) (a:Nat):howF f L obs d e a=if f (undF f L d e a) obs=true then 2 else if e.ck≠0∧f (jnF f L a e.seen.toNat) obs=true then 1 else 0:=rfl
theorem undF_lt {N:Nat} {d:Nd} {e:Ed} {a:Nat} (hL:LatOK f L) (hN:NdOK L N d) (hm:e∈d.edges) (ha:a < L):undF f L d e a < L:=by
 obtain ⟨k,hk,hl⟩:=(hN.edge e hm).lab
 unfold undF
 split
 ·exact ha
 ·exact jnF_lt hL ha (by rw [hk,Int.toNat_natCast];exact hl)
theorem seen_lt {N:Nat} {d:Nd} {e:Ed} {a:Nat} (hL:LatOK f L) (hN:NdOK L N d) (hm:e∈d.edges) (ha:a < L):jnF f L a e.seen.toNat < L:=by
 obtain ⟨k,hk,hl⟩:=(hN.edge e hm).seen
 exact jnF_lt hL ha (by rw [hk,Int.toNat_natCast];exact hl)
theorem how_mono {N:Nat} {d:Nd} {e:Ed} {a o:Nat} (hL:LatOK f L) (hN:NdOK L N d) (hm:e∈d.edges) (ha:a < L) (ho:o < L) (hb:obs < L) (hle:f o obs=true):howF f L o d e a≤howF f L obs d e a:=by
 have h1:=undF_lt hL hN hm ha
 have h2:=seen_lt hL hN hm ha
 rw [howF_eq,howF_eq]
 by_cases c:f (undF f L d e a) o=true
 ·rw [if_pos c,if_pos (hL.tr _ _ _ h1 ho hb c hle)]
  exact Nat.le_refl _
 ·rw [if_neg c]
  by_cases c2:e.ck≠0∧f (jnF f L a e.seen.toNat) o=true
  ·rw [if_pos c2]
   split
   ·omega
   ·rw [if_pos ⟨c2.1,hL.tr _ _ _ h2 ho hb c2.2 hle⟩]
    exact Nat.le_refl _
  ·rw [if_neg c2]
   omega
theorem coarseV_k (e:Ed) (v:Val):9≤(coarseV e v).k:=by
 unfold coarseV
 repeat' split
 all_goals (first | (show (9:Int)≤10;omega) | (show (9:Int)≤11;omega) | (show (9:Int)≤12;omega) | (show (9:Int)≤9;omega))
theorem eraseV_len (v:Val) (i:Int) (a:Nat) {d:Nd} (hd:nodeA ND i=some d):(eraseV ND f L obs v i a).ks.length=v.ks.length:=by
 obtain ⟨k,n,s,ks⟩:=v
 rw [eraseV,hd]
 exact eraseVs_len ks d n a 0
theorem coarse_erase (e:Ed) (v:Val) (i:Int) (a:Nat) {d:Nd} (hd:nodeA ND i=some d):coarseV e (eraseV ND f L obs v i a)=coarseV e v:=by
 obtain ⟨h1,h2,h3⟩:=eraseV_top (ND:=ND) (f:=f) (L:=L) (obs:=obs) v i a
 have h4:=eraseV_len (f:=f) (L:=L) (obs:=obs) v i a hd
 unfold coarseV
 rw [h1,h2,h3,h4]
mutual
theorem erase_narrow {N o:Nat} (hok:∀ n∈ND,NdOK L ND.length n) (hL:LatOK f L) (ho:o < L) (hb:obs < L) (hle:f o obs=true):∀ (x:Val) (i:Int) (a:Nat),a < L→fitV ND x i=true →
  narrowV ND f L o (eraseV ND f L obs x i a) i a=eraseV ND f L o x i a
 | .mk k n s ks,i,a,ha,hx=>by
  obtain ⟨d,hF⟩:=fit_facts hok hx
  rw [eraseV,eraseV,hF.node]
  simp only
  rw [narrowV,hF.node]
  simp only
  rw [erase_narrows (N:=N) hok hL ho hb hle ks d n a 0 ha (hok d (List.mem_of_getElem? (nodeA_some hF.node).2)) (fun m x hx1=>by rw [Nat.zero_add];exact kids_ok hok hx hF hx1)]
theorem erase_narrows {N o:Nat} (hok:∀ n∈ND,NdOK L ND.length n) (hL:LatOK f L) (ho:o < L) (hb:obs < L) (hle:f o obs=true):∀ (ks:List Val) (d:Nd) (z:Int) (a j:Nat),a < L→NdOK L ND.length d→(∀ m x,ks[m]? = some x→∃ e,KidOK ND d z (j + m) x e) →
  narrowVs ND f L o (eraseVs ND f L obs ks d z a j) d z a j=eraseVs ND f L o ks d z a j
 | [],_,_,_,_,_,_,_=>by rw [eraseVs,eraseVs,narrowVs]
 | x :: r,d,z,a,j,ha,hN,hk=>by
  obtain ⟨e,he⟩:=hk 0 x rfl
  rw [Nat.add_zero] at he
  have ih:=erase_narrows (N:=N) hok hL ho hb hle r d z a (j + 1) ha hN (fun m x h1=>by
   have:=hk (m + 1) x h1
   rwa [show j + (m + 1)=j + 1 + m by omega] at this)
  rw [eraseVs,eraseVs,narrowVs,he.edge]
  simp only
  rw [ih]
  congr 1
  have hm:=how_mono hL hN he.mem ha ho hb hle
  obtain ⟨d',hF'⟩:=fit_facts hok he.fit
  have hN':=hok d' (List.mem_of_getElem? (nodeA_some hF'.node).2)
  have h8:=hN'.k8
  have hk9:x.k < 9:=by rw [hF'.k];omega
  have h2:howF f L obs d e a≤2:=by
   rw [howF_eq]
   repeat' split
   all_goals omega
  by_cases c2:howF f L o d e a=2
  ·rw [if_pos c2,if_pos c2,if_pos (by omega)]
   exact erase_narrow (N:=N) hok hL ho hb hle x e.to _ (undF_lt hL hN he.mem ha) he.fit
  ·rw [if_neg c2,if_neg c2]
   by_cases c1:howF f L o d e a=1
   ·rw [if_pos c1,if_pos c1]
    by_cases c3:howF f L obs d e a=2
    ·rw [if_pos c3,(eraseV_top x e.to _).1,if_pos hk9,coarse_erase e x e.to _ hF'.node]
    ·have c5:howF f L obs d e a=1:=by omega
     rw [if_neg c3,if_pos c5,if_neg (by have:=coarseV_k e x;omega)]
   ·rw [if_neg c1,if_neg c1]
end
end
end Go.Proofs.YtbfdbhechmhpoaaGreat

set_option maxRecDepth 100000
namespace Go.Proofs.YtbfdbhechmhpoaaGreat
open Go Go.RowKit Dv Tryz
end Go.Proofs.YtbfdbhechmhpoaaGreat

set_option maxRecDepth 100000
namespace Go.Proofs.YtbfdbhechmhpoaaGreat
open Go Go.RowKit Dv Tryz
mutual
def rngW:Val→Prop
 | .mk k n _ ks=>I64 k∧I64 n∧rngWs ks
def rngWs:List Val→Prop
 | []=>True
 | v :: r=>rngW v∧rngWs r
end
theorem rngWs_mem:∀ {l:List Val} {x:Val},rngWs l→x∈l→rngW x
 | v :: r,x,h,hm=>by
  rw [rngWs] at h
  rcases List.mem_cons.1 hm with rfl | hm
  ·exact h.1
  ·exact rngWs_mem h.2 hm
theorem rngW_n {v:Val} (h:rngW v) : -9223372036854775808≤v.n∧v.n≤9223372036854775807:=by
 obtain ⟨k,n,s,ks⟩:=v
 rw [rngW] at h
 exact h.2.1
theorem rngW_ks {v:Val} (h:rngW v):rngWs v.ks:=by
 obtain ⟨k,n,s,ks⟩:=v
 rw [rngW] at h
 exact h.2.2
theorem es_valr {m:Nat} (ih:∀ k,k≤m→∀ ds,Typ Tryz.prog k 82 ds→∃ v:Val,ds=dVal v∧rngW v∧v.wt≤wgL ds) :
  ∀ {es:List (List DV)},(∀ cs∈es,Typ Tryz.prog m 82 cs)→∃ l:List Val,es=dVals l∧rngWs l∧wtVs l≤wgEs es
 | [],h=>⟨[],rfl,by simp [rngWs],by simp [wtVs]⟩
 | cs :: r,h=>by
  obtain ⟨l,rfl,hr,hl⟩:=es_valr ih (es:=r) (fun c hc=>h c (List.mem_cons_of_mem _ hc))
  obtain ⟨v,rfl,hr2,hv⟩:=ih m (Nat.le_refl _) cs (h cs (by simp))
  exact ⟨v :: l,rfl,by rw [rngWs];exact ⟨hr2,hr⟩,by simp only [wtVs,wgEs];omega⟩
theorem typ_valr:∀ (n:Nat) (ds:List DV),Typ Tryz.prog n 82 ds→∃ v:Val,ds=dVal v∧rngW v∧v.wt≤wgL ds:=by
 intro n
 induction n using Nat.strongRecOn with
 | _ n ih=>
  intro ds h
  obtain ⟨m,rfl,hf⟩:=typ_st Tryz.underlying82 h
  obtain ⟨a1,b1,rfl,h1,a2,b2,rfl,h2,a3,b3,rfl,h3,a4,b4,rfl,h4,rfl⟩:=hf
  obtain ⟨k,rfl,r1⟩:=typ_i h1
  obtain ⟨z,rfl,r2⟩:=typ_i h2
  obtain ⟨s,rfl⟩:=typ_str Tryz.underlying9 h3
  obtain ⟨j,es,rfl,rfl,hes⟩:=typ_sl Tryz.underlying80 h4
  obtain ⟨l,rfl,r3,wl⟩:=es_valr (fun i hi=>ih i (by omega)) hes
  rw [cells_value]
  refine ⟨.mk k z s l,rfl,by rw [rngW];exact ⟨r1,r2,r3⟩,?_⟩
  simp only [Val.wt,wgL_append,wgL,wgD] at *
  omega
namespace Dv
theorem arg_ar2 {H:Type} {enc:TypeId × Value→H} {P:Program} {W:World} {base:Nat} {S:List TypeId} {bk:DataW H→Nat} (hbk:Bk bk) (hS:∀ t∈S,flatOK P S t=true) {t e:TypeId} {v:Value} {d:DataW H} {ps:List MemPlace} (he:e∈S) (hu:P.underlying t=some (.array 2 e)) (hc:P.cellsOf t=2 * P.cellsOf e)
  (hval:Value.okWide P W .any base t v) (h:DataW.Trod enc P W 0 (fun _=>true) true t v d ps):∃ n a b,Rv (enW W) (.agg (a ++ b)) v∧Typ P n e a∧Typ P n e b∧wgL a + wgL b≤64 * bk d:=by
 unfold Value.okWide at hval
 rw [hu] at hval
 obtain ⟨cs,rfl,_,_⟩:=hval
 obtain ⟨n,hn⟩:=h
 obtain ⟨xs,m,rfl,hx,hlen,hxl,hf⟩:=DataW.trod_array hu hn
 match xs,hxl with
 | [x,y],_=>
  obtain ⟨a,a1,a2,a3,a4,a5⟩:=rd_trod hbk hS m e _ x he (hf 0 (by omega))
  obtain ⟨b,b1,b2,b3,b4,b5⟩:=rd_trod hbk hS m e _ y he (hf 1 (by omega))
  cases hx
  have hb:=hbk.agg [x.1,y.1]
  rw [hc] at hlen
  have hcs:cs.toList=(cs.toList.drop (0 * P.cellsOf e)).take (P.cellsOf e) ++ (cs.toList.drop (1 * P.cellsOf e)).take (P.cellsOf e):=by
   have h1:(Value.agg cs).cells.toList=cs.toList:=rfl
   rw [h1] at hlen
   rw [Nat.zero_mul,Nat.one_mul,List.drop_zero,List.take_of_length_le (l:=cs.toList.drop (P.cellsOf e)) (by rw [List.length_drop];omega),List.take_append_drop]
  refine ⟨m,a,b,?_,a3,b3,?_⟩
  ·unfold Rv
   refine ⟨cs.toList,by simp,?_,?_⟩
   ·rw [hcs]
    exact RvL.append a1 b1
   ·rw [hcs]
    intro v hv
    rcases List.mem_append.1 hv with hv | hv
    ·exact a2 v hv
    ·exact b2 v hv
  ·simp only [List.map_cons,List.map_nil,bkS] at hb ⊢
   omega
end Dv
end Go.Proofs.YtbfdbhechmhpoaaGreat

set_option maxRecDepth 100000
namespace Go.Proofs.YtbfdbhechmhpoaaGreat
open Go Go.RowKit Dv Tryz
mutual
theorem flatT_rng:∀ (t:Ty),rngT t→∀ u∈flatT t,rngT u
 | .mk h ps,hr,u,hu=>by
  rw [flatT] at hu
  split at hu
  ·cases hu
  ·rcases List.mem_cons.1 hu with rfl | hu
   ·exact hr
   ·rw [rngT] at hr
    exact flatP_rng ps hr.2.2.2 u hu
theorem flatP_rng:∀ (ps:Pts),rngP ps→∀ u∈flatP ps,rngT u
 | .nil,_,u,hu=>by cases hu
 | .cons p v r,hr,u,hu=>by
  rw [flatP] at hu
  rw [rngP] at hr
  rcases List.mem_append.1 hu with hu | hu
  ·split at hu
   ·cases hu
   ·exact flatT_rng v hr.2.2.1 u hu
  ·exact flatP_rng r hr.2.2.2 u hu
end
theorem edsP_rng {lev:List Wd→Int} {s:Sch}:∀ (ps:Pts) (k:Nat),rngP ps→∀ e∈edsP lev s ps k,I64 e.cn
 | .nil,_,_,e,he=>by cases he
 | .cons p v r,k,hr,e,he=>by
  rw [edsP] at he
  rw [rngP] at hr
  rcases List.mem_cons.1 he with rfl | he
  ·exact hr.2.1
  ·exact edsP_rng r _ hr.2.2.2 e he
def rngN (n:Nd):Prop:=I64 n.lo∧I64 n.hi∧∀ e∈n.edges,I64 e.cn
theorem resNds_rng {S:Sch} (hr:rngS S) {n:Nd} (h:n∈resNds S):rngN n:=by
 rw [resNds_eq] at h
 obtain ⟨t,ht,u,hu,k,rfl⟩:=ndsA_mem h
 have h1:rngT t:=by
  rcases List.mem_append.1 ht with h | h
  ·obtain ⟨x,hx,rfl⟩:=List.mem_map.1 h
   exact hr.1 x hx
  ·simp only [List.mem_singleton] at h
   subst h
   exact hr.2
 have h2:=flatT_rng t h1 u hu
 obtain ⟨uh,us⟩:=u
 rw [rngT] at h2
 exact ⟨h2.1,h2.2.1,edsP_rng us _ h2.2.2.2⟩
end Go.Proofs.YtbfdbhechmhpoaaGreat

set_option maxRecDepth 100000
namespace Go.Proofs.YtbfdbhechmhpoaaGreat
open Go Go.RowKit Dv Tryz
end Go.Proofs.YtbfdbhechmhpoaaGreat

set_option maxRecDepth 100000
namespace Go.Proofs.YtbfdbhechmhpoaaGreat
open Go Go.RowKit Dv Tryz
def edN (K:List Nat) (e:Ed):Nat:=K.getD e.to.toNat 0
def leastR (K:List Nat):List Ed→Nat→Nat
 | [],m=>m + 1
 | e :: r,m=>if edN K e=0 then 0 else leastR K r (max m (edN K e))
def leastU (K:List Nat):List Ed→Nat→Nat
 | [],b=>if b=0 then 0 else b + 1
 | e :: r,b=>if e.bare=true then 1 else if 0 < edN K e∧(b=0∨edN K e < b) then leastU K r (edN K e) else leastU K r b
def leastF (n:Nd) (K:List Nat):Nat:=if n.kind=7 then leastR K n.edges 0 else if n.kind=8 then leastU K n.edges 0 else 1
def depN (ND:List Nd):Nat→List Nat
 | 0=>List.replicate ND.length 0
 | d + 1=>ND.map fun n=>leastF n (depN ND d)
theorem depN_len (ND:List Nd):∀ d,(depN ND d).length=ND.length
 | 0=>by simp [depN]
 | d + 1=>by simp [depN]
theorem depN_get (ND:List Nd) (d j:Nat):(depN ND (d + 1)).getD j 0=match ND[j]? with | none=>0 | some n=>leastF n (depN ND d):=by
 simp only [depN,List.getD_eq_getElem?_getD,List.getElem?_map]
 cases ND[j]?<;>rfl
def RndR (d:Nat) (A B:List Nat):Prop:=∀ j:Nat,(0 < A.getD j 0→B.getD j 0=A.getD j 0∧A.getD j 0≤d)∧(A.getD j 0=0→B.getD j 0=0∨B.getD j 0=d + 1)
theorem rndR_le {d:Nat} {A B:List Nat} (h:RndR d A B) (j:Nat):B.getD j 0≤d + 1:=by
 obtain ⟨h1,h2⟩:=h j
 rcases Nat.eq_zero_or_pos (A.getD j 0) with h3 | h3
 ·rcases h2 h3 with h4 | h4<;>omega
 ·have:=h1 h3;omega
theorem leastR_zero {K:List Nat}:∀ {es:List Ed} {m:Nat},leastR K es m=0↔∃ e∈es,edN K e=0
 | [],m=>by simp [leastR]
 | e :: r,m=>by
  rw [leastR]
  by_cases h:edN K e=0
  ·rw [if_pos h]
   exact ⟨fun _=>⟨e,by simp,h⟩,fun _=>rfl⟩
  ·rw [if_neg h,leastR_zero]
   constructor
   ·rintro ⟨x,hx,h2⟩;exact ⟨x,by simp [hx],h2⟩
   ·rintro ⟨x,hx,h2⟩
    rcases List.mem_cons.1 hx with rfl | hx
    ·exact (h h2).elim
    ·exact ⟨x,hx,h2⟩
theorem leastR_same {d:Nat} {A B:List Nat} (hR:RndR d A B):∀ {es:List Ed} {m:Nat},0 < leastR A es m→leastR B es m=leastR A es m
 | [],m,_=>rfl
 | e :: r,m,h=>by
  rw [leastR] at h ⊢
  rw [leastR]
  by_cases h0:edN A e=0
  ·rw [if_pos h0] at h;omega
  rw [if_neg h0] at h ⊢
  have h1:edN B e=edN A e:=((hR e.to.toNat).1 (by unfold edN at h0;omega)).1
  rw [h1,if_neg h0]
  exact leastR_same hR h
theorem leastR_new {d:Nat} {A B:List Nat} (hR:RndR d A B):∀ {es:List Ed} {m:Nat},m≤d + 1→(m=d + 1∨∃ e∈es,edN A e=0)→leastR B es m=0∨leastR B es m=d + 2
 | [],m,_,h=>by
  rcases h with h | ⟨e,he,_⟩
  ·right;rw [leastR,h]
  ·cases he
 | e :: r,m,hm,h=>by
  rw [leastR]
  by_cases h0:edN B e=0
  ·rw [if_pos h0];exact .inl rfl
  rw [if_neg h0]
  have hle:edN B e≤d + 1:=rndR_le hR _
  refine leastR_new hR (by omega) ?_
  rcases h with h | ⟨x,hx,h⟩
  ·left;omega
  ·rcases List.mem_cons.1 hx with rfl | hx
   ·left
    have:=(hR x.to.toNat).2 h
    unfold edN at h0 hle ⊢
    omega
   ·exact .inr ⟨x,hx,h⟩
theorem leastU_rnd {d:Nat} {A B:List Nat} (hR:RndR d A B):∀ {es:List Ed} {a b:Nat},(0 < a→b=a∧a≤d)→(a=0→b=0∨b=d + 1) →
  (0 < leastU A es a→leastU B es b=leastU A es a)∧(leastU A es a=0→leastU B es b=0∨leastU B es b=d + 2)
 | [],a,b,h1,h2=>by
  rw [leastU,leastU]
  rcases Nat.eq_zero_or_pos a with h | h
  ·rw [if_pos h]
   refine ⟨fun h=>by omega,fun _=>?_⟩
   rcases h2 h with h3 | h3
   ·left;rw [if_pos h3]
   ·right;rw [if_neg (by omega)];omega
  ·obtain ⟨h3,h4⟩:=h1 h
   rw [if_neg (by omega),if_neg (by omega),h3]
   exact ⟨fun _=>rfl,fun h=>by omega⟩
 | e :: r,a,b,h1,h2=>by
  rw [leastU,leastU]
  by_cases hb:e.bare=true
  ·rw [if_pos hb,if_pos hb]
   exact ⟨fun _=>rfl,fun h=>by omega⟩
  rw [if_neg hb,if_neg hb]
  obtain ⟨g1,g2⟩:=hR e.to.toNat
  change (0 < edN A e→edN B e=edN A e∧edN A e≤d) at g1
  change (edN A e=0→edN B e=0∨edN B e=d + 1) at g2
  by_cases c1:0 < edN A e∧(a=0∨edN A e < a)<;>by_cases c2:0 < edN B e∧(b=0∨edN B e < b)
  ·rw [if_pos c1,if_pos c2];exact leastU_rnd hR (by omega) (by omega)
  ·rw [if_pos c1,if_neg c2];exact leastU_rnd hR (by omega) (by omega)
  ·rw [if_neg c1,if_pos c2];exact leastU_rnd hR (by omega) (by omega)
  ·rw [if_neg c1,if_neg c2];exact leastU_rnd hR (by omega) (by omega)
theorem leastF_rnd {d:Nat} {A B:List Nat} (hR:RndR d A B) (n:Nd):(0 < leastF n A→leastF n B=leastF n A)∧(leastF n A=0→leastF n B=0∨leastF n B=d + 2):=by
 unfold leastF
 by_cases h7:n.kind=7
 ·rw [if_pos h7,if_pos h7]
  exact ⟨leastR_same hR,fun h=>leastR_new hR (by omega) (.inr (leastR_zero.1 h))⟩
 rw [if_neg h7,if_neg h7]
 by_cases h8:n.kind=8
 ·rw [if_pos h8,if_pos h8]
  exact leastU_rnd hR (by omega) (by omega)
 rw [if_neg h8,if_neg h8]
 exact ⟨fun _=>rfl,fun h=>by omega⟩
theorem edN_zero (N:Nat) (e:Ed):edN (List.replicate N 0) e=0:=by
 unfold edN
 rw [List.getD_eq_getElem?_getD,List.getElem?_replicate]
 split<;>rfl
theorem leastU_none (N:Nat):∀ es:List Ed,leastU (List.replicate N 0) es 0=0∨leastU (List.replicate N 0) es 0=1
 | []=>.inl rfl
 | e :: r=>by
  rw [leastU,edN_zero]
  by_cases hb:e.bare=true
  ·rw [if_pos hb];exact .inr rfl
  ·rw [if_neg hb,if_neg (by omega)];exact leastU_none N r
theorem leastF_none (N:Nat) (n:Nd):leastF n (List.replicate N 0)=0∨leastF n (List.replicate N 0)=1:=by
 unfold leastF
 by_cases h7:n.kind=7
 ·rw [if_pos h7]
  cases h:n.edges with
  | nil=>right;rfl
  | cons e r=>left;rw [leastR,edN_zero,if_pos rfl]
 rw [if_neg h7]
 by_cases h8:n.kind=8
 ·rw [if_pos h8];exact leastU_none N n.edges
 ·rw [if_neg h8];exact .inr rfl
theorem depN_zero (ND:List Nd) (j:Nat):(depN ND 0).getD j 0=0:=by
 rw [depN,List.getD_eq_getElem?_getD,List.getElem?_replicate]
 split<;>rfl
theorem depN_rnd (ND:List Nd):∀ d,RndR d (depN ND d) (depN ND (d + 1))
 | 0=>fun j=>by
  refine ⟨fun h=>by rw [depN_zero] at h;omega,fun _=>?_⟩
  rw [depN_get]
  cases ND[j]? with
  | none=>exact .inl rfl
  | some n=>exact leastF_none _ n
 | d + 1=>fun j=>by
  have ih:=depN_rnd ND d
  rw [depN_get ND (d + 1),depN_get ND d]
  cases hn:ND[j]? with
  | none=>exact ⟨fun h=>by simp at h,fun _=>.inl rfl⟩
  | some n=>
   obtain ⟨h1,h2⟩:=leastF_rnd ih n
   refine ⟨fun h=>⟨h1 h,?_⟩,h2⟩
   have:=rndR_le ih j
   rw [depN_get ND d,hn] at this
   exact this
def posL (K:List Nat):List Bool:=K.map fun k=>decide (0 < k)
theorem posL_get (K:List Nat) (j:Nat):(posL K).getD j false=decide (0 < K.getD j 0):=by
 unfold posL
 simp only [List.getD_eq_getElem?_getD,List.getElem?_map]
 cases K[j]?<;>simp
theorem posL_len (K:List Nat):(posL K).length=K.length:=by simp [posL]
theorem getD_ext {A B:List Nat} (hl:A.length=B.length) (h:∀ j,A.getD j 0=B.getD j 0):A=B:=by
 refine List.ext_getElem hl fun j h1 h2=>?_
 have:=h j
 simp only [List.getD_eq_getElem?_getD,List.getElem?_eq_getElem h1,List.getElem?_eq_getElem h2,Option.getD_some] at this
 exact this
def inK (K:List Bool) (e:Ed):Bool:=e.bare || K.getD e.to.toNat false
def hvB (n:Nd) (K:List Bool):Bool:=if n.kind < 7 then true else if n.kind=7 then n.edges.all (inK K) else n.edges.any (inK K)
theorem leastU_pos {K:List Nat}:∀ {es:List Ed} {b:Nat},0 < leastU K es b↔(0 < b∨es.any (inK (posL K))=true)
 | [],b=>by
  rw [leastU]
  by_cases h:b=0
  ·rw [if_pos h];simp [h]
  ·rw [if_neg h];simp;omega
 | e :: r,b=>by
  have hg:(posL K).getD e.to.toNat false=decide (0 < edN K e):=posL_get K _
  rw [leastU,List.any_cons]
  by_cases hb:e.bare=true
  ·rw [if_pos hb]
   simp [inK,hb]
  ·rw [if_neg hb]
   have hin:inK (posL K) e=decide (0 < edN K e):=by
    unfold inK
    rw [hg]
    simp [hb]
   rw [hin,Bool.or_eq_true,decide_eq_true_eq]
   split
   ·rename_i h1
    rw [leastU_pos]
    constructor
    ·exact fun _=>.inr (.inl h1.1)
    ·exact fun _=>.inl h1.1
   ·rename_i h1
    rw [leastU_pos]
    constructor
    ·rintro (h | h)
     ·exact .inl h
     ·exact .inr (.inr h)
    ·rintro (h | h | h)
     ·exact .inl h
     ·by_cases hb0:b=0
      ·exact (h1 ⟨h,.inl hb0⟩).elim
      ·left;omega
     ·exact .inr h
theorem leastF_pos {n:Nd} {K:List Nat} (h8:n.kind≤8) (hb:∀ e∈n.edges,e.bare=true→n.kind=8):(0 < leastF n K)↔hvB n (posL K)=true:=by
 unfold leastF hvB
 by_cases h7:n.kind=7
 ·rw [if_pos h7,if_neg (by omega),if_pos h7,List.all_eq_true]
  have:0 < leastR K n.edges 0↔¬ leastR K n.edges 0=0:=by omega
  rw [this,leastR_zero]
  constructor
  ·intro h e he
   have h1:e.bare=false:=by
    cases hbe:e.bare
    ·rfl
    ·have:=hb e he hbe;omega
   have h2:¬ edN K e=0:=fun h3=>h ⟨e,he,h3⟩
   have hg:(posL K).getD e.to.toNat false=decide (0 < edN K e):=posL_get K _
   simp only [inK,h1,hg,Bool.false_or,decide_eq_true_eq]
   omega
  ·rintro h ⟨e,he,h3⟩
   have h1:e.bare=false:=by
    cases hbe:e.bare
    ·rfl
    ·have:=hb e he hbe;omega
   have hg:(posL K).getD e.to.toNat false=decide (0 < edN K e):=posL_get K _
   have:=h e he
   simp only [inK,h1,hg,Bool.false_or,decide_eq_true_eq] at this
   omega
 rw [if_neg h7]
 by_cases h8':n.kind=8
 ·rw [if_pos h8',if_neg (by omega),if_neg h7,leastU_pos]
  simp
 ·rw [if_neg h8',if_pos (by omega)]
  simp
theorem depN_ref {ND:List Nd} (hN:∀ n∈ND,n.kind≤8∧∀ e∈n.edges,e.bare=true→n.kind=8) (d:Nat) {i:Nat} {n:Nd} (h:ND[i]? = some n) :
  (depN ND (d + 1)).getD i 0=(if hvB n (posL (depN ND d))=true∧(depN ND d).getD i 0=0 then d + 1 else (depN ND d).getD i 0) ∧
  (posL (depN ND (d + 1))).getD i false=hvB n (posL (depN ND d)):=by
 obtain ⟨h8,hb⟩:=hN n (List.mem_of_getElem? h)
 have hp:=leastF_pos (K:=depN ND d) h8 hb
 have hg:(depN ND (d + 1)).getD i 0=leastF n (depN ND d):=by rw [depN_get,h]
 obtain ⟨h1,h2⟩:=(depN_rnd ND d) i
 refine ⟨?_,?_⟩
 ·rcases Nat.eq_zero_or_pos ((depN ND d).getD i 0) with h3 | h3
  ·by_cases h4:hvB n (posL (depN ND d))=true
   ·rw [if_pos ⟨h4,h3⟩]
    have:=h2 h3
    rw [← hp,← hg] at h4
    omega
   ·rw [if_neg (fun h=>h4 h.1),h3]
    rw [← hp,← hg] at h4
    omega
  ·rw [if_neg (by omega)]
   exact (h1 h3).1
 ·rw [posL_get,hg,Bool.eq_iff_iff,decide_eq_true_eq]
  exact hp
end Go.Proofs.YtbfdbhechmhpoaaGreat

set_option maxRecDepth 100000
namespace Go.Proofs.YtbfdbhechmhpoaaGreat
open Go Go.RowKit Dv Tryz
def cN (l:List Nat):List DV:=l.map fun (z:Nat)=>DV.v (.int .i64 (z:Int))
theorem cN_len (l:List Nat):(cN l).length=l.length:=by simp [cN]
theorem cN_get {l:List Nat} {i z:Nat} (h:l[i]? = some z):(cN l)[i]? = some (DV.v (.int .i64 (z:Int))):=by simp [cN,h]
theorem cN_set (l:List Nat) (i z:Nat):(cN l).set i (DV.v (.int .i64 (z:Int)))=cN (l.set i z):=by simp [cN,List.map_set]
theorem dInts_flat (l:List Nat):(dInts l).flatten=cN l:=by
 induction l with
 | nil=>rfl
 | cons b r ih=>simp only [dInts,cN,List.map_cons,List.flatten_cons] at ih ⊢;rw [ih];all_goals rfl
theorem repN (n:Nat):(List.replicate n (vL [Value.int .i64 0])).flatten=cN (List.replicate n 0):=by
 induction n with
 | zero=>rfl
 | succ n ih=>simp only [List.replicate_succ,List.flatten_cons,ih];rfl
theorem weL_cN {n m:Nat} {tk:List TkE} {l:List DV} {r:List Nat} (h:l=cN r):WeL n m tk l (cN r):=by
 subst h
 refine weL_sc _ fun x hx=>?_
 obtain ⟨z,_,rfl⟩:=List.mem_map.1 hx
 exact ⟨_,rfl⟩
theorem ms_n {bx:List (List DV)} {N n0 m0 n i:Nat} {r:List Nat} (hr:r.length=n) (hN:N≤i) (hb:bx[i]? = some (cN r)):Cc bx N n0 m0 (.sl 1 (dInts r) none) (.ms i 1 0 n n):=by
 simp only [Cc]
 refine Or.inr (Or.inr (Or.inl ⟨i,0,n,_,by rw [dInts_len,hr],hN,hb,?_,?_,?_⟩))
 ·rw [dInts_flat,List.drop_zero,List.take_of_length_le (by rw [cN_len,dInts_len];omega)]
 ·intro x hx
  simp only [dInts,List.mem_map] at hx
  obtain ⟨_,_,rfl⟩:=hx
  rfl
 ·intro x hx
  rw [dInts_flat] at hx
  obtain ⟨_,_,rfl⟩:=List.mem_map.1 hx
  exact ⟨_,rfl⟩
end Go.Proofs.YtbfdbhechmhpoaaGreat

namespace Go.Proofs.YtbfdbhechmhpoaaGreat
namespace Dv
open Go Go.RowKit
section
variable {P:Program} {ops:Array Oper} {C:World→Prop} {Q:Act→World→Prop} {W:Nat→Bool} {x:Nat}
def runX (P:Program) (ops:Array Oper) (W:Nat→Bool) (C:World→Prop) (Q:Act→World→Prop) (x:Nat):List Nat→Act→World→Prop
 | [],a,w=>runT P ops W C Q [x] a w
 | i :: r,a,w=>
  match ops[i]? with
  | none=>False
  | some o=>
   if ordB ops ops.size x i=true then runT P ops W C Q (x :: i :: r) a w
   else if isE o.op=true then runT P ops W C Q (x :: i :: r) a w∧stepX P ops o a w fun a' w'=>(W i=false→C w→C w')∧runX P ops W C Q x r a' w'
   else ∃ v,Yl P ops C o v a∧(isL o.op=true→C w)∧runX P ops W C Q x r (a.put o.dst v) w
theorem runX_now {xo:Oper} (hsel:∀ (j:Nat) (o:Oper) cs b,ops[j]? = some o→o.op ≠ .select cs b) (hx:ops[x]? = some xo) (hxE:isE xo.op=true) (hWx:∀ (j:Nat) (o:Oper),ops[j]? = some o→isL o.op=true→W x=false) :
  ∀ (rem:List Nat) (a:Act) (w:World),runX P ops W C Q x rem a w→(∀ j∈rem,∀ o,ops[j]? = some o→isE o.op=false→ordB ops ops.size x j=false→swapB ops W x j=true) →
   stepX P ops xo a w (fun a' w'=>(W x=false→C w→C w')∧runT P ops W C Q rem a' w')
 | [],a,w,hr,_=>by
  simp only [runX,runT,hx,hxE,if_true] at hr
  exact hr
 | i :: r,a,w,hr,hsw=>by
  have hnow:runT P ops W C Q (x :: i :: r) a w→stepX P ops xo a w (fun a' w'=>(W x=false→C w→C w')∧runT P ops W C Q (i :: r) a' w'):=fun h=>by
   unfold runT at h
   rw [hx] at h
   simp only [hxE,if_true] at h
   exact h
  cases ho:ops[i]? with
  | none=>simp only [runX,ho] at hr
  | some o=>
   simp only [runX,ho] at hr
   by_cases hd:ordB ops ops.size x i=true
   ·rw [if_pos hd] at hr;exact hnow hr
   ·rw [if_neg hd] at hr
    by_cases he:isE o.op=true
    ·rw [if_pos he] at hr;exact hnow hr.1
    ·rw [if_neg he] at hr
     obtain ⟨v,hy,hc,hr'⟩:=hr
     have hd':ordB ops ops.size x i=false:=by simpa using hd
     have he':isE o.op=false:=by simpa using he
     obtain ⟨ap1,ap2,_,_⟩:=swapB_spec (hsw i (by simp) o ho he' hd') hx ho
     have hsx:=fun cs b=>hsel x xo cs b hx
     have hso:=fun cs b=>hsel i o cs b ho
     have ih:=runX_now hsel hx hxE hWx r (a.put o.dst v) w hr' (fun j hj=>hsw j (List.mem_cons_of_mem _ hj))
     refine stepX_mono ?_ (stepX_form ((stepX_put ap2 hsx).1 ih))
     rintro a' w' ⟨⟨hcw,hr2⟩,u,rfl⟩
     refine ⟨hcw,?_⟩
     simp only [runT,ho]
     rw [if_neg he]
     exact ⟨v,(Yl.same (u:=u) ap1 hso).2 hy,fun hL=>hcw (hWx i o ho hL) (hc hL),hr2⟩
theorem runX_step {π:Nat→Nat} (hsel:∀ (j:Nat) (o:Oper) cs b,ops[j]? = some o→o.op ≠ .select cs b) (hWL:∀ j i x y,π j < π i→ops[i]? = some x→ops[j]? = some y→isL x.op=true→W j=false)
  {i:Nat} {o:Oper} (hi:ops[i]? = some o) (hxL:∀ z,ops[x]? = some z→isL z.op=false) (hxi:x≠i) (hnd:ordB ops ops.size x i=false) (hsx:isE o.op=false→swapB ops W x i=true) :
  ∀ (rem:List Nat) (a:Act) (w:World),(HasL ops (x :: rem)→C w)→runX P ops W C Q x rem a w→i∈rem→(∀ j∈rem,j≠i→π j < π i→swapB ops W j i=true)→(x :: rem).Pairwise (fun a b=>π a < π b) →
   (isE o.op=true→∀ j∈rem,π j < π i→ordB ops ops.size x j=false) →
   stepX P ops o a w (fun a' w'=>(W i=false→C w→C w')∧runX P ops W C Q x (rem.erase i) a' w')
 | [],_,_,_,_,hm,_,_,_=>by cases hm
 | h :: rem,a,w,hC,hr,hm,hsw,hp,hdp=>by
  by_cases hih:h=i
  ·subst hih
   rw [List.erase_cons_head]
   simp only [runX,hi] at hr
   rw [if_neg (by simp [hnd])] at hr
   split at hr
   ·exact hr.2
   ·obtain ⟨v,hy,hc,hr'⟩:=hr
    exact stepX_of_Yl hy hc ⟨fun _ h=>h,hr'⟩
  ·have hm':i∈rem:=by
    rcases List.mem_cons.1 hm with e | e
    ·exact (hih e.symm).elim
    ·exact e
   have hp1:=List.pairwise_cons.1 hp
   have hp2:=List.pairwise_cons.1 hp1.2
   have hlt:π h < π i:=hp2.1 i hm'
   have hpr:(x :: rem).Pairwise (fun a b=>π a < π b):=List.pairwise_cons.2 ⟨fun y hy=>hp1.1 y (List.mem_cons_of_mem _ hy),hp2.2⟩
   have hswx:isE o.op=false→∀ j∈x :: h :: rem,j≠i→π j < π i→swapB ops W j i=true:=fun he j hj hne hl=>by
    rcases List.mem_cons.1 hj with rfl | hj
    ·exact hsx he
    ·exact hsw j hj hne hl
   have himx:i∈x :: h :: rem:=List.mem_cons_of_mem _ hm
   have herx:(x :: h :: rem).erase i=x :: h :: rem.erase i:=by
    rw [List.erase_cons_tail (by simpa using hxi),List.erase_cons_tail (by simpa using hih)]
   rw [List.erase_cons_tail (by simpa using hih)]
   have hsw':∀ j∈rem,j≠i→π j < π i→swapB ops W j i=true:=fun j hj=>hsw j (List.mem_cons_of_mem _ hj)
   have hdp':isE o.op=true→∀ j∈rem,π j < π i→ordB ops ops.size x j=false:=fun he j hj=>hdp he j (List.mem_cons_of_mem _ hj)
   have hCt:HasL ops (x :: rem)→C w:=fun hl=>hC (by
    obtain ⟨l,z,hlm,hz,hL⟩:=hl
    rcases List.mem_cons.1 hlm with rfl | hlm
    ·exact ⟨l,z,by simp,hz,hL⟩
    ·exact ⟨l,z,by simp [hlm],hz,hL⟩)
   cases hh:ops[h]? with
   | none=>simp only [runX,hh] at hr
   | some y=>
    obtain ⟨ap1,ap2,hEE,hLW⟩:=swapB_spec (hsw h (by simp) hih hlt) hh hi
    have hsy:=fun cs b=>hsel h y cs b hh
    have hso:=fun cs b=>hsel i o cs b hi
    simp only [runX,hh] at hr
    by_cases hd:ordB ops ops.size x h=true
    ·rw [if_pos hd] at hr
     have he:isE o.op=false:=by
      cases he:isE o.op
      ·rfl
      ·have:=hdp he h (by simp) hlt
       rw [hd] at this;cases this
     have hst:=run_step hsel hWL hi (x :: h :: rem) a w hC hr himx (hswx he) hp
     refine stepX_mono ?_ hst
     rintro a' w' ⟨hcw,hr2⟩
     refine ⟨hcw,?_⟩
     simp only [runX,hh]
     rw [if_pos hd,← herx]
     exact hr2
    ·rw [if_neg hd] at hr
     by_cases hE:isE y.op=true
     ·rw [if_pos hE] at hr
      obtain ⟨hl,hr⟩:=hr
      have he:isE o.op=false:=by
       cases he:isE o.op
       ·rfl
       ·exact (hEE ⟨hE,he⟩).elim
      obtain ⟨v,hyv⟩:=run_yields (π:=π) hsel hi he (x :: h :: rem) a w hl himx (hswx he) hp
      have hci:isL o.op=true→C w:=fun hL=>hC ⟨i,o,himx,hi,hL⟩
      have hst:=run_step hsel hWL hi (x :: h :: rem) a w hC hl himx (hswx he) hp
      have hk1:=Yl_of_stepX hyv hci hst
      refine stepX_of_Yl hyv hci ⟨fun _ h=>h,?_⟩
      simp only [runX,hh]
      rw [if_neg hd,if_pos hE]
      refine ⟨by rw [← herx];exact hk1.2,?_⟩
      refine (stepX_put ap2 hsy).2 ?_
      refine stepX_mono ?_ (stepX_form hr)
      rintro a' w' ⟨⟨hcw,hr'⟩,u,rfl⟩
      refine ⟨hcw,?_⟩
      have hC':HasL ops (x :: rem)→C w':=by
       intro hl'
       have hl2:=hl'
       obtain ⟨l,z,hlm,hz,hL⟩:=hl'
       refine hcw ?_ (hCt hl2)
       rcases List.mem_cons.1 hlm with e | hlm
       ·rw [e] at hz
        rw [hxL z hz] at hL
        cases hL
       ·exact hWL h l z y (hp2.1 l hlm) hz hh hL
      have ih:=runX_step hsel hWL hi hxL hxi hnd hsx rem _ w' hC' hr' hm' hsw' hpr hdp'
      have hy':=(Yl.same (u:=u) ap1 hso).2 hyv
      exact (Yl_of_stepX hy' (fun hL=>hC' ⟨i,o,List.mem_cons_of_mem _ hm',hi,hL⟩) ih).2
     ·rw [if_neg hE] at hr
      obtain ⟨v,hyv,hc,hr'⟩:=hr
      have ih:=runX_step hsel hWL hi hxL hxi hnd hsx rem (a.put y.dst v) w hCt hr' hm' hsw' hpr hdp'
      refine stepX_mono ?_ (stepX_form ((stepX_put ap1 hso).1 ih))
      rintro a' w' ⟨⟨hcw,hr2⟩,u,rfl⟩
      refine ⟨hcw,?_⟩
      simp only [runX,hh]
      rw [if_neg hd,if_neg hE]
      refine ⟨v,(Yl.same (u:=u) ap2 hsy).2 hyv,fun hL=>?_,hr2⟩
      have hWi:W i=false:=by
       cases hw:W i
       ·rfl
       ·exact (hLW ⟨hL,hw⟩).elim
      exact hcw hWi (hc hL)
def exX (ops:Array Oper) (x:Nat) (j i:Nat):Bool:=Nat.beq j x && (match ops[i]? with | some o=>isE o.op | none=>false)
def chkD (ops:Array Oper) (x:Nat) (π:Nat→Nat):Bool:=
 (List.range ops.size).all fun i=>
  match ops[i]? with
  | none=>true
  | some o=>!isE o.op || Nat.beq i x || ordB ops ops.size x i || (List.range ops.size).all fun j=>Nat.beq j x || !Nat.blt (π j) (π i) || !ordB ops ops.size x j
theorem any_of_x {π:Nat→Nat} {xo:Oper} {Q':Exit→Act→World→Prop} (hx:ops[x]? = some xo) (hxE:isE xo.op=true) (hxL:isL xo.op=false) (hx0:∀ j,j≠x→π x < π j) (hcO:chkO ops W π=true) (hcS:chkS ops W π (exX ops x)=true) (hD:chkD ops x π=true)
  (hQ:∀ a w,Q a w→Q' .normal a w):∀ (fuel:Nat) (listed:Array Bool) (rem:List Nat) (a:Act) (w:World),
  listed.size=ops.size→Dn ops listed→listed.getD x true=false→(∀ i,i∈rem↔i≠x∧i < ops.size∧listed.getD i true=false)→(x :: rem).Pairwise (fun a b=>π a < π b)→rem.length + 1≤fuel→(HasL ops (x :: rem)→C w) →
   runX P ops W C Q x rem a w→wpAny P .any ops Q' fuel listed a w:=by
 have hsel:=chkO_sel hcO
 have hWL:=chkO_wl hcO
 have hback:=chkO_back hcO
 have hcS':=hcS
 have hxs:=(Array.getElem?_eq_some_iff.1 hx).1
 have hWx:∀ (j:Nat) (o:Oper),ops[j]? = some o→isL o.op=true→W x=false:=fun j o hj hL=>by
  refine hWL x j o xo (hx0 j ?_) hj hx hL
  rintro rfl
  rw [hx] at hj
  simp only [Option.some.injEq] at hj
  rw [← hj,hxL] at hL
  cases hL
 simp only [chkS,List.all_eq_true,List.mem_range,Bool.or_eq_true,Bool.not_eq_true'] at hcS
 have hsx:∀ (i:Nat) (o:Oper),ops[i]? = some o→i≠x→isE o.op=false→ordB ops ops.size x i=false→swapB ops W x i=true:=fun i o ho hne he hd=>by
  rcases hcS i (Array.getElem?_eq_some_iff.1 ho).1 x hxs with ((h1 | h1) | h1) | h1
  ·have:¬ Nat.blt (π x) (π i)=true:=by simp [h1]
   have:=hx0 i hne
   simp at *;omega
  ·simp [exX,ho,he] at h1
  ·rw [hd] at h1;cases h1
  ·exact h1
 intro fuel
 induction fuel with
 | zero=>intro listed rem a w _ _ _ _ _ hlen;omega
 | succ fuel ih=>
  intro listed rem a w hsz hdn hxu hrem hp hlen hC hr
  have hp1:=List.pairwise_cons.1 hp
  have hnd:rem.Nodup:=nodup_lt hp1.2
  refine ⟨fun h0=>?_,fun i hi=>?_⟩
  ·have:x∈Region.ready .any ops listed:=by
    refine mem_ready.2 ⟨hxu,_,hx,fun e he hb=>?_⟩
    obtain ⟨hlt,hlt2⟩:=hback x _ hx e he hb
    cases hg:listed.getD e.on false
    ·have hne:e.on≠x:=fun h=>by rw [h] at hlt;omega
     have:=hx0 e.on hne
     omega
    ·rfl
   rw [h0] at this;cases this
  ·obtain ⟨hun,o,ho,hall⟩:=mem_ready.1 hi
   have hi':=(Array.getElem?_eq_some_iff.1 ho).1
   have hDn':Dn ops (listed.setIfInBounds i true):=by
    intro k z hz hk e he hb
    by_cases hki:k=i
    ·subst hki
     rw [ho] at hz
     simp only [Option.some.injEq] at hz
     subst hz
     exact getD_set_true (hall e he hb)
    ·rw [getD_set_ne true (Ne.symm hki)] at hk
     exact getD_set_true (hdn k z hz hk e he hb)
   refine step_wpOp ho ?_
   by_cases hix:i=x
   ·subst hix
    rw [hx] at ho
    simp only [Option.some.injEq] at ho
    subst ho
    have hst:=runX_now hsel hx hxE hWx rem a w hr (fun j hj o ho he hd=>hsx j o ho ((hrem j).1 hj).1 he hd)
    refine stepX_mono ?_ hst
    rintro a' w' ⟨hcw,hr'⟩
    refine any_of_run (C:=C) (exX ops i) hcO hcS' hQ fuel _ rem a' w' (by simp [hsz]) hDn' ?_ hp1.2 (by omega) ?_ ?_ hr'
    ·intro k
     rw [hrem k]
     by_cases hki:k=i
     ·subst hki
      simp [hsz,hi']
     ·rw [getD_set_ne true (Ne.symm hki)]
      simp [hki]
    ·intro j hj k _
     have:=((hrem j).1 hj).1
     simp [exX,this]
    ·rintro ⟨l,z,hl,hz,hL⟩
     exact hcw (hWx l z hz hL) (hC ⟨l,z,List.mem_cons_of_mem _ hl,hz,hL⟩)
   ·have him:i∈rem:=(hrem i).2 ⟨hix,hi',hun⟩
    have hnl:∀ j,j < ops.size→listed.getD j true=false→ordB ops ops.size j i=false:=by
     intro j hj hu
     cases h1:ordB ops ops.size j i
     ·rfl
     ·have h2:=ordB_listed hdn _ _ _ _ ho hall h1
      have:j < listed.size:=by rw [hsz];exact hj
      simp [this] at h2 hu
      rw [h2] at hu;cases hu
    have hndx:=hnl x hxs hxu
    have hsw:∀ j∈rem,j≠i→π j < π i→swapB ops W j i=true:=by
     intro j hj _ hlt
     have hj':=(hrem j).1 hj
     rcases hcS i hi' j hj'.2.1 with ((h1 | h1) | h1) | h1
     ·have:¬ Nat.blt (π j) (π i)=true:=by simp [h1]
      simp at this;omega
     ·simp [exX,hj'.1] at h1
     ·rw [hnl j hj'.2.1 hj'.2.2] at h1;cases h1
     ·exact h1
    have hdp:isE o.op=true→∀ j∈rem,π j < π i→ordB ops ops.size x j=false:=by
     intro he j hj hlt
     simp only [chkD,List.all_eq_true,List.mem_range] at hD
     have h1:=hD i hi'
     rw [ho] at h1
     simp only [he,hndx,Bool.not_true,Bool.false_or,Bool.or_false,Bool.or_eq_true,List.all_eq_true,List.mem_range,Bool.not_eq_true',Nat.beq_eq] at h1
     rcases h1 with h1 | h1
     ·exact (hix h1).elim
     ·have hj':=(hrem j).1 hj
      rcases h1 j hj'.2.1 with (h2 | h2) | h2
      ·exact (hj'.1 h2).elim
      ·have:¬ Nat.blt (π j) (π i)=true:=by simp [h2]
       simp at this;omega
      ·exact h2
    have hst:=runX_step (π:=π) hsel hWL ho (fun z hz=>by rw [hx] at hz;simp only [Option.some.injEq] at hz;rw [← hz];exact hxL) (Ne.symm hix) hndx (fun he=>hsx i o ho hix he hndx) rem a w hC hr him hsw hp hdp
    refine stepX_mono ?_ hst
    rintro a' w' ⟨hcw,hr'⟩
    have hxi:=getD_set_ne (listed:=listed) true hix
    refine ih (listed.setIfInBounds i true) (rem.erase i) a' w' (by simp [hsz]) hDn' (by rw [hxi];exact hxu) ?_ (List.pairwise_cons.2 ⟨fun y hy=>hp1.1 y (List.mem_of_mem_erase hy),hp1.2.sublist List.erase_sublist⟩) (by rw [List.length_erase_of_mem him];have:=List.length_pos_of_mem him;omega) ?_ hr'
    ·intro k
     rw [List.Nodup.mem_erase_iff hnd]
     by_cases hki:k=i
     ·subst hki
      simp [hsz,hi']
     ·rw [getD_set_ne true (Ne.symm hki)]
      simp only [ne_eq,hki,not_false_eq_true,true_and]
      exact hrem k
    ·rintro ⟨l,z,hl,hz,hL⟩
     have hlx:l≠x:=by
      rintro rfl
      rw [hx] at hz
      simp only [Option.some.injEq] at hz
      rw [← hz,hxL] at hL;cases hL
     have hl:l∈rem.erase i:=by
      rcases List.mem_cons.1 hl with h | h
      ·exact (hlx h).elim
      ·exact h
     have hl':=List.mem_of_mem_erase hl
     have hne:l≠i:=((List.Nodup.mem_erase_iff hnd).1 hl).1
     have hCw:=hC ⟨l,z,List.mem_cons_of_mem _ hl',hz,hL⟩
     refine hcw ?_ hCw
     rcases pw_rel hp1.2 him hl' hne.symm with h1 | h1
     ·exact hWL i l z o h1 hz ho hL
     ·have:=hsw l hl' hne h1
      obtain ⟨_,_,_,h4⟩:=swapB_spec this hz ho
      cases hw:W i
      ·rfl
      ·exact (h4 ⟨hL,hw⟩).elim
theorem runX_tail {π:Nat→Nat} (hsel:∀ (j:Nat) (o:Oper) cs b,ops[j]? = some o→o.op ≠ .select cs b) (hWL:∀ j i x y,π j < π i→ops[i]? = some x→ops[j]? = some y→isL x.op=true→W j=false)
  (hsx:∀ (i:Nat) (o:Oper),ops[i]? = some o→i≠x→isE o.op=false→ordB ops ops.size x i=false→swapB ops W x i=true) :
  ∀ (l:List Nat) (a:Act) (w:World),(HasL ops (x :: l)→C w)→runT P ops W C Q (x :: l) a w→(∀ i∈l,i≠x∧∃ o,ops[i]? = some o∧(ordB ops ops.size x i=true∨isE o.op=false))→(x :: l).Pairwise (fun a b=>π a < π b)→runX P ops W C Q x l a w
 | [],a,w,_,h,_,_=>by simpa only [runX] using h
 | i :: r,a,w,hC,h,hl,hp=>by
  obtain ⟨hne,o,ho,hoe⟩:=hl i (by simp)
  simp only [runX,ho]
  by_cases hd:ordB ops ops.size x i=true
  ·rw [if_pos hd];exact h
  ·rw [if_neg hd]
   have he:isE o.op=false:=by
    rcases hoe with h | h
    ·exact (hd h).elim
    ·exact h
   rw [if_neg (by simp [he])]
   have hd':ordB ops ops.size x i=false:=by simpa using hd
   have hp1:=List.pairwise_cons.1 hp
   have hp2:=List.pairwise_cons.1 hp1.2
   have hsw:∀ j∈x :: i :: r,j≠i→π j < π i→swapB ops W j i=true:=fun j hj hji hlt=>by
    rcases List.mem_cons.1 hj with rfl | hj
    ·exact hsx i o ho hne he hd'
    ·rcases List.mem_cons.1 hj with rfl | hj
     ·exact (hji rfl).elim
     ·have:=hp2.1 j hj;omega
   have hci:isL o.op=true→C w:=fun hL=>hC ⟨i,o,by simp,ho,hL⟩
   obtain ⟨v,hy⟩:=run_yields (π:=π) hsel ho he _ a w h (by simp) hsw hp
   have hst:=run_step hsel hWL ho _ a w hC h (by simp) hsw hp
   have hk:=(Yl_of_stepX hy hci hst).2
   rw [List.erase_cons_tail (by simpa using Ne.symm hne),List.erase_cons_head] at hk
   refine ⟨v,hy,hci,runX_tail hsel hWL hsx r _ w (fun hl=>?_) hk (fun j hj=>hl j (List.mem_cons_of_mem _ hj)) (List.pairwise_cons.2 ⟨fun y hy=>hp1.1 y (List.mem_cons_of_mem _ hy),hp2.2⟩)⟩
   obtain ⟨l,z,hlm,hz,hL⟩:=hl
   refine hC ⟨l,z,?_,hz,hL⟩
   rcases List.mem_cons.1 hlm with h | h
   ·simp [h]
   ·simp [h]
end
theorem selL_all {ops:Array Oper}:∀ {l:List Nat},(∀ i∈l,i < ops.size)→(selL ops.toList l).map (·.1)=l
 | [],_=>rfl
 | i :: r,h=>by
  have hi:ops.toList[i]? = some (ops[i]'(h i (by simp))):=by
   rw [List.getElem?_eq_getElem (by simpa using h i (by simp))];simp
  unfold selL
  rw [hi]
  simp only [List.map_cons]
  rw [selL_all fun j hj=>h j (List.mem_cons_of_mem _ hj)]
def goX (X:Ctx) (D:Dr) (x:Nat) (tail:List Nat):List Nat→Bool→List (Nat × Sl)→St→Prop
 | [],c,s0,st=>
  match c with
  | true=>goD X D 3000 true (selL D.ops.toList (x :: tail)) s0 st
  | false=>False
 | i :: r,c,s0,st=>
  match D.ops.toList[i]? with
  | none=>False
  | some o=>
   match isE o.op with
   | true=>goD X D 3000 c (selL D.ops.toList (x :: i :: (r ++ tail))) s0 st∧goD X ⟨D.ops,D.W,D.k,D.st0,some (goX X D x tail r)⟩ 3000 c [(i,o)] s0 st
   | false=>goD X ⟨D.ops,D.W,D.k,D.st0,some (goX X D x tail r)⟩ 3000 c [(i,o)] s0 st
def chkX (ops:Array Oper) (W:Nat→Bool) (x:Nat) (pre tail:List Nat):Bool:=
 chkL ops (x :: (pre ++ tail)) && chkO ops W (plc (x :: (pre ++ tail))) && chkS ops W (plc (x :: (pre ++ tail))) (exX ops x) && chkD ops x (plc (x :: (pre ++ tail))) &&
  (match ops[x]? with | some o=>isE o.op && !isL o.op | none=>false) && pre.all (fun i=>!ordB ops ops.size x i) && tail.all (fun i=>match ops[i]? with | some o=>ordB ops ops.size x i || !isE o.op | none=>false)
section
variable {X:Ctx} {D:Dw} {x:Nat} {tail:List Nat} {π:Nat→Nat}
theorem goX_sound (hD:EnvM D.E0 D.d.st0.bx D.wr) (hsel:∀ (j:Nat) (o:Oper) cs b,D.d.ops[j]? = some o→o.op ≠ .select cs b) (hWL:∀ j i x y,π j < π i→D.d.ops[i]? = some x→D.d.ops[j]? = some y→isL x.op=true→D.d.W j=false)
  (hsx:∀ (i:Nat) (o:Oper),D.d.ops[i]? = some o→i≠x→isE o.op=false→ordB D.d.ops D.d.ops.size x i=false→swapB D.d.ops D.d.W x i=true)
  (htl:∀ i∈tail,i≠x∧∃ o,D.d.ops[i]? = some o∧(ordB D.d.ops D.d.ops.size x i=true∨isE o.op=false)) (hxs:x < D.d.ops.size):∀ (pre:List Nat),(∀ i∈pre,i < D.d.ops.size∧ordB D.d.ops D.d.ops.size x i=false)→(x :: (pre ++ tail)).Pairwise (fun a b=>π a < π b) →
  ∀ c s0 st,goX X D.d x tail pre c s0 st→∀ E a w,RelD X D c E s0 st a w→runX X.P D.d.ops D.d.W D.C (D.Q X) x (pre ++ tail) a w
 | [],_,hp,c,s0,st,hg,E,a,w,h=>by
  have htl2:∀ i∈x :: tail,i < D.d.ops.size:=fun i hi=>by
   rcases List.mem_cons.1 hi with rfl | hi
   ·exact hxs
   ·obtain ⟨_,o,ho,_⟩:=htl i hi
    exact (Array.getElem?_eq_some_iff.1 ho).1
  simp only [goX] at hg
  split at hg
  ·have h1:=goD_sound hD 3000 true _ _ _ hg (fun p hp=>by simpa using selL_mem hp) E a w h
   rw [selL_all htl2] at h1
   exact runX_tail hsel hWL hsx tail a w (fun _=>h.cc rfl) h1 htl hp
  ·exact hg.elim
 | i :: r,hpre,hp,c,s0,st,hg,E,a,w,h=>by
  obtain ⟨his,hnd⟩:=hpre i (by simp)
  have ho:D.d.ops[i]? = some D.d.ops[i]:=Array.getElem?_eq_getElem his
  have hol:D.d.ops.toList[i]? = some D.d.ops[i]:=by simpa using ho
  have hp1:=List.pairwise_cons.1 hp
  have hp2:=List.pairwise_cons.1 hp1.2
  have hall:∀ j∈x :: i :: (r ++ tail),j < D.d.ops.size:=fun j hj=>by
   rcases List.mem_cons.1 hj with rfl | hj
   ·exact hxs
   ·rcases List.mem_cons.1 hj with rfl | hj
    ·exact his
    ·rcases List.mem_append.1 hj with hj | hj
     ·exact (hpre j (by simp [hj])).1
     ·obtain ⟨_,o,ho,_⟩:=htl j hj
      exact (Array.getElem?_eq_some_iff.1 ho).1
  have ih:=goX_sound hD hsel hWL hsx htl hxs r (fun j hj=>hpre j (by simp [hj])) (List.pairwise_cons.2 ⟨fun y hy=>hp1.1 y (List.mem_cons_of_mem _ hy),hp2.2⟩)
  generalize D.d.ops[i]=o at ho hol
  have hone:∀ c s0 st,goD X ⟨D.d.ops,D.d.W,D.d.k,D.d.st0,some (goX X D.d x tail r)⟩ 3000 c [(i,o)] s0 st→RelD X D c E s0 st a w→runT X.P D.d.ops D.d.W D.C (fun a w=>runX X.P D.d.ops D.d.W D.C (D.Q X) x (r ++ tail) a w) [i] a w:=fun c s0 st hg h=>by
   have h1:=goD_sound (D:=⟨⟨D.d.ops,D.d.W,D.d.k,D.d.st0,some (goX X D.d x tail r)⟩,D.E0,D.wr⟩) hD 3000 c [(i,o)] s0 st hg (fun p hp=>by
    rw [List.mem_singleton] at hp
    rw [hp]
    exact ho) E a w ⟨h.rel,h.x,h.β,h.t0,h.cc⟩
   refine runT_mono ?_ h1
   rintro a w ⟨c,E,s0,st,h2,h3⟩
   exact ih c s0 st h3 E a w ⟨h2.rel,h2.x,h2.β,h2.t0,h2.cc⟩
  simp only [goX,hol] at hg
  simp only [List.cons_append,runX,ho]
  rw [if_neg (by simp [hnd])]
  split at hg
  ·rename_i hE
   obtain ⟨h1,h2⟩:=hg
   rw [if_pos hE]
   have h3:=goD_sound hD 3000 c _ _ _ h1 (fun p hp=>by simpa using selL_mem hp) E a w h
   rw [selL_all hall] at h3
   refine ⟨h3,?_⟩
   have h4:=hone c s0 st h2 h
   simp only [runT,ho,hE,if_true] at h4
   exact h4
  ·rename_i hE
   rw [if_neg (by simp [hE])]
   have h4:=hone c s0 st hg h
   simp only [runT,ho,hE,Bool.false_eq_true,if_false] at h4
   exact h4
theorem plc_zero (x:Nat) (l:List Nat):plc (x :: l) x=0:=by simp [plc]
theorem plc_pos {x j:Nat} (l:List Nat) (h:j≠x):0 < plc (x :: l) j:=by
 have:Nat.beq x j=false:=by
  cases hb:Nat.beq x j
  ·rfl
  ·exact (h (Nat.eq_of_beq_eq_true hb).symm).elim
 simp [plc,this]
theorem endS {s S:St} (h:SameSt s S:=by refine ⟨rfl,rfl,?_⟩;repeat' (first | exact trivial | refine ⟨rfl,?_⟩)):s=S∨SameSt s S:=.inr h
theorem drawG_x {id:Nat} {ops:Array Oper} {k:List It} {st:St} (W:Nat→Bool) (x:Nat) (pre tail:List Nat) (hm:X.P.follows .mixedOrders=true) (hc:chkX ops W x pre tail=true) (S:St)
  (h:goX X ⟨ops,W,[.rnd fun s=>s=S∨SameSt s S],st,none⟩ x tail pre true st.sl st) (hk:go X 4000 k S):DrawG X id ops k st:=by
 intro E a w hr
 have hr':=drew_rel hr
 simp only [chkX,Bool.and_eq_true] at hc
 obtain ⟨⟨⟨⟨⟨⟨hL,hO⟩,hS⟩,hDD⟩,hX⟩,hpre⟩,htail⟩:=hc
 cases hxo:ops[x]? with
 | none=>rw [hxo] at hX;cases hX
 | some xo=>
 rw [hxo] at hX
 simp only [Bool.and_eq_true,Bool.not_eq_true'] at hX
 obtain ⟨hxE,hxL⟩:=hX
 simp only [chkL,Bool.and_eq_true,List.all_eq_true,Nat.blt_eq,Nat.ble_eq,beq_iff_eq,List.mem_range] at hL
 obtain ⟨⟨⟨⟨_,h1b⟩,h1c⟩,hlen⟩,h1d⟩:=hL
 have hp:=pwB_spec h1d
 have hp1:=List.pairwise_cons.1 hp
 have hsel:=chkO_sel hO
 have hWL:=chkO_wl hO
 have hx0:∀ j,j≠x→plc (x :: (pre ++ tail)) x < plc (x :: (pre ++ tail)) j:=fun j hj=>by
  rw [plc_zero];exact plc_pos _ hj
 have hxs:=(Array.getElem?_eq_some_iff.1 hxo).1
 have hS':=hS
 simp only [chkS,List.all_eq_true,List.mem_range,Bool.or_eq_true,Bool.not_eq_true'] at hS'
 have hsx:∀ (i:Nat) (o:Oper),ops[i]? = some o→i≠x→isE o.op=false→ordB ops ops.size x i=false→swapB ops W x i=true:=fun i o ho hne he hd=>by
  rcases hS' i (Array.getElem?_eq_some_iff.1 ho).1 x hxs with ((h1 | h1) | h1) | h1
  ·have:¬ Nat.blt (plc (x :: (pre ++ tail)) x) (plc (x :: (pre ++ tail)) i)=true:=by simp [h1]
   have:=hx0 i hne
   simp at *;omega
  ·simp [exX,ho,he] at h1
  ·rw [hd] at h1;cases h1
  ·exact h1
 have hne:∀ i∈pre ++ tail,i≠x:=fun i hi e=>by
  have:=hp1.1 i hi
  rw [e] at this;omega
 have hs:=relD_start hr' (ops:=ops) (W:=W) (k:=[.rnd fun s=>s=S∨SameSt s S])
 have hrun:=goX_sound (D:=⟨⟨ops,W,[.rnd fun s=>s=S∨SameSt s S],st,none⟩,E,w.drew⟩) hr'.env.em hsel hWL hsx (fun i hi=>by
  refine ⟨hne i (List.mem_append_right _ hi),?_⟩
  have:=List.all_eq_true.1 htail i hi
  cases ho:ops[i]? with
  | none=>rw [ho] at this;cases this
  | some o=>
   rw [ho] at this
   simp only [Bool.or_eq_true,Bool.not_eq_true'] at this
   exact ⟨o,rfl,this⟩) hxs pre (fun i hi=>by
  refine ⟨h1c i (by simp [hi]),?_⟩
  have:=List.all_eq_true.1 hpre i hi
  simpa using this) hp true st.sl st h E a w.drew hs
 refine wp_region_any hm ?_
 refine any_of_x (C:=CC E st.bx w.drew) (Q:=kq X [.rnd fun s=>s=S∨SameSt s S] .normal) (π:=plc (x :: (pre ++ tail))) hxo hxE hxL hx0 hO hS hDD (fun a w hq=>?_) ops.size (Array.replicate ops.size false) (pre ++ tail) a _ (by simp) ?_ (by simp [hxs]) ?_ hp ?_ (fun _=>hs.cc rfl) hrun
 ·obtain ⟨st1,E1,hrel,hJ⟩:=hq
  rcases hJ with rfl | hJ
  ·exact go_sound 4000 _ _ hk E1 a w hrel
  ·exact go_sound 4000 _ _ hk E1 a w (same_rel hrel hJ)
 ·intro i o ho hl
  have:i < ops.size:=(Array.getElem?_eq_some_iff.1 ho).1
  simp [this] at hl
 ·intro i
  constructor
  ·intro hi
   have:=h1c i (by simp [List.mem_append.1 hi])
   exact ⟨hne i hi,this,by simp [this]⟩
  ·rintro ⟨h1,h2,_⟩
   have:=h1b i h2
   have h4:i=x∨i∈pre ++ tail:=by simpa using this
   exact h4.resolve_left h1
 ·simp only [List.length_cons] at hlen
  exact hlen
end
end Dv
end Go.Proofs.YtbfdbhechmhpoaaGreat

set_option maxRecDepth 100000
namespace Go.Proofs.YtbfdbhechmhpoaaGreat
open Go Go.RowKit Dv Tryz
abbrev wL (lv:List Wd) (f:Nat→Nat→Bool) (ND:List Nd) (z:Int):List DV:=[.sl 2 (dWds lv) none,.sl 1 (dMat (matB lv.length f)) none,.sl 7 (dNds ND) none,.v (.int .i64 z)]
end Go.Proofs.YtbfdbhechmhpoaaGreat

set_option maxRecDepth 100000
namespace Go.Proofs.YtbfdbhechmhpoaaGreat
open Go Go.RowKit Dv Tryz
end Go.Proofs.YtbfdbhechmhpoaaGreat

set_option maxRecDepth 100000
namespace Go.Proofs.YtbfdbhechmhpoaaGreat
open Go Go.RowKit Dv Tryz
abbrev on1St (n:Nd) (K:List Bool) (s v:Bool) (e:Nat):St:=
 ⟨[(1,⟨[],.sl 1 (dBo K) none⟩),(2,⟨[],.loc 0 0⟩),(5,⟨[],.v (.bool s)⟩),(6,⟨[],.v (.bool v)⟩),(7,⟨[],.v (.int .i64 e)⟩)],[dNd n],[]⟩
theorem one19_spec {L:Nat} {n:Nd} (K:List Bool) (hK:K.length≤1099511627776) (hn:NdOK L K.length n) (hel:n.edges.length≤1099511627776) :
  EvP Tryz.prog 179 [.agg (dNd n),.sl 1 (dBo K) none] (.v (.bool (hvB n K))):=by
 have hedge:=hn.edge
 have hbare:=hn.bare
 have hk8:=hn.k8
 obtain ⟨kind,at',lo,hi,most,names,es⟩:=n
 simp only at hedge hbare hel hk8
 refine ev_go (P:=Tryz.prog) tt tt_ok 5000 50 [.tmp 4] Tryz.func179 rfl Tryz.ntmps179 rfl (Nat.le_of_ble_eq_true rfl) (fun E9 w9 hn9 hm9=>?_)
 refine br (fun h7=>?_) (fun h7=>?_)
 ·have h7:kind < 7:=by simpa using h7
  refine (congrArg (fun b=>DV.v (.bool b)) ?_:_=_)
  simp [hvB,h7]
 have h7:¬ kind < 7:=by simpa using h7
 refine loop_i (fun j st=>∃ e:Nat,st=on1St ⟨kind,at',lo,hi,most,names,es⟩ K ((es.take e).any (inK K)) ((es.take e).all (inK K)) e∧e≤es.length∧j=es.length - e) es.length (on1St ⟨kind,at',lo,hi,most,names,es⟩ K false true 0) (weak_mk ⟨_,rfl⟩ wA rfl rfl rfl wB) ⟨0,by simp,by omega,by omega⟩ ?_
 rintro j st ⟨e,rfl,he,rfl⟩
 refine br (fun hL=>?_) (fun hL=>?_)
 ·have hlt:e < es.length:=by have:=hL;simp [dEds_len] at this;exact this
  obtain ⟨x,hx⟩:∃ x,es[e]? = some x:=⟨_,List.getElem?_eq_getElem hlt⟩
  refine ⟨_,⟨by omega,dEds_get hx⟩,?_⟩
  have hs:(es.take (e + 1)).any (inK K)=((es.take e).any (inK K) || inK K x):=by rw [List.take_add_one,hx];simp
  have hv:(es.take (e + 1)).all (inK K)=((es.take e).all (inK K) && inK K x):=by rw [List.take_add_one,hx];simp
  generalize (es.take e).any (inK K)=s at hs ⊢
  generalize (es.take e).all (inK K)=v at hv ⊢
  refine br (fun hb=>?_) (fun hb=>?_)
  ·have hb:x.bare=false:=by simpa using hb
   obtain ⟨k,hk,hkl⟩:=(hedge x (List.mem_of_getElem? hx)).to1 hb
   obtain ⟨b,hb1⟩:∃ b,K[k]? = some b:=⟨_,List.getElem?_eq_getElem hkl⟩
   have hg:(dBo K)[(max x.to 0).toNat]? = some [DV.v (.bool b)]:=by rw [show (max x.to 0).toNat=k by omega];exact dBo_get hb1
   have hik:inK K x=b:=by unfold inK;rw [hb,hk];simp [List.getD_eq_getElem?_getD,hb1]
   rw [hik] at hs hv
   refine ⟨_,⟨by omega,dEds_get hx⟩,?_⟩
   refine ⟨_,⟨by omega,hg⟩,?_⟩
   have e5:pickB s true b=(es.take (e + 1)).any (inK K):=by rw [hs,pickB_or]
   have e6:pickB v b false=(es.take (e + 1)).all (inK K):=by rw [hv,pickB_and]
   exact ⟨on1St ⟨kind,at',lo,hi,most,names,es⟩ K ((es.take (e + 1)).any (inK K)) ((es.take (e + 1)).all (inK K)) (e + 1),(weak_mk ⟨_,rfl⟩ wA rfl rfl rfl (by repeat' (first | exact trivial | exact we_rfl rfl | exact we_bool e5 | exact we_bool e6 | exact we_int (nxt hlt (by omega)) | refine ⟨⟨_,rfl,?_⟩,?_⟩))),es.length - (e + 1),by omega,e + 1,rfl,by omega,rfl⟩
  ·have hb:x.bare=true:=by simpa using hb
   have hik:inK K x=true:=by unfold inK;rw [hb];all_goals rfl
   rw [hik] at hs hv
   have e5:pickB s true true=(es.take (e + 1)).any (inK K):=by rw [hs,pickB_or]
   have e6:pickB v true false=(es.take (e + 1)).all (inK K):=by rw [hv,pickB_and]
   exact ⟨on1St ⟨kind,at',lo,hi,most,names,es⟩ K ((es.take (e + 1)).any (inK K)) ((es.take (e + 1)).all (inK K)) (e + 1),(weak_mk ⟨_,rfl⟩ wA rfl rfl rfl (by repeat' (first | exact trivial | exact we_rfl rfl | exact we_bool e5 | exact we_bool e6 | exact we_int (nxt hlt (by omega)) | refine ⟨⟨_,rfl,?_⟩,?_⟩))),es.length - (e + 1),by omega,e + 1,rfl,by omega,rfl⟩
 ·have hge:e=es.length:=by have:=hL;simp [dEds_len] at this;omega
  subst hge
  rw [List.take_length]
  refine br (fun g=>?_) (fun g=>?_)
  ·have g:kind=7:=by simpa using g
   refine (congrArg (fun b=>DV.v (.bool b)) ?_:_=_)
   simp [hvB,g]
  ·have g:¬ kind=7:=by simpa using g
   refine (congrArg (fun b=>DV.v (.bool b)) ?_:_=_)
   simp [hvB,g,h7]
theorem ms_b {bx:List (List DV)} {N n0 m0 n i:Nat} {r:List Bool} (hr:r.length=n) (hN:N≤i) (hb:bx[i]? = some (cB r)):Cc bx N n0 m0 (.sl 1 (dBo r) none) (.ms i 1 0 n n):=by
 simp only [Cc]
 refine Or.inr (Or.inr (Or.inl ⟨i,0,n,_,by rw [dBo_len,hr],hN,hb,?_,?_,?_⟩))
 ·rw [dBo_flat,List.drop_zero,List.take_of_length_le (by rw [cB_len,dBo_len];omega)]
 ·intro x hx
  simp only [dBo,List.mem_map] at hx
  obtain ⟨_,_,rfl⟩:=hx
  rfl
 ·intro x hx
  rw [dBo_flat] at hx
  obtain ⟨_,_,rfl⟩:=List.mem_map.1 hx
  exact ⟨_,rfl⟩
theorem ccL_cN (l:List Nat) (bx:List (List DV)) (N n m:Nat):CcL bx N n m (cN l) (cN l):=by
 induction l with
 | nil=>rfl
 | cons a r ih=>exact ⟨_,_,rfl,rfl,ih⟩
abbrev wG (a b:Nat) (A B:List (List DV)) (ND:List Nd) (z:Int):List DV:=[.sl a A none,.sl b B none,.sl 7 (dNds ND) none,.v (.int .i64 z)]
abbrev rd1St (W:List DV) (O:List Nat) (K:List Bool) (n d:Nat):St:=
 ⟨[(1,⟨[],.loc 0 0⟩),(3,⟨[],.ms 1 1 0 n n⟩),(4,⟨[],.sl 1 (dBo K) none⟩),(5,⟨[],.v (.int .i64 d)⟩)],[W,cN O],[]⟩
abbrev rd2St (W:List DV) (O:List Nat) (K:List Bool) (M:List Bool) (n d e:Nat):St:=
 ⟨[(1,⟨[],.loc 0 0⟩),(3,⟨[],.ms 1 1 0 n n⟩),(4,⟨[],.sl 1 (dBo K) none⟩),(5,⟨[],.v (.int .i64 d)⟩),(6,⟨[],.ms 2 1 0 n n⟩),(7,⟨[],.v (.int .i64 e)⟩)],[W,cN O,cB M],[]⟩
theorem depths19_spec (a b:Nat) (A B:List (List DV)) {ND:List Nd} {L:Nat} (z:Int) (hok:∀ n∈ND,NdOK L ND.length n) (hnl:ND.length≤1099511627776) (hsz:∀ n∈ND,n.edges.length≤1099511627776) :
  EvP Tryz.prog 99 [.agg (wG a b A B ND z)] (.sl 1 (dInts (depN ND ND.length)) none):=by
 have hdl:=dNds_len ND
 refine ev_go (P:=Tryz.prog) tt tt_ok 5000 61 [.tmp 2] Tryz.func99 rfl Tryz.ntmps99 rfl (Nat.le_of_ble_eq_true rfl) (fun E9 w9 hn9 hm9=>?_)
 refine ⟨⟨rfl,by omega,by rw [hdl];omega,by rw [hdl];omega⟩,?_⟩
 refine ⟨⟨rfl,by omega,by rw [hdl];omega,by rw [hdl];omega⟩,?_⟩
 refine loop_w (fun j st=>∃ d:Nat,st=rd1St (wG a b A B ND z) (depN ND d) (posL (depN ND d)) (dNds ND).length (d + 1)∧d≤ND.length∧j=ND.length - d) ND.length (rd1St (wG a b A B ND z) (depN ND 0) (posL (depN ND 0)) (dNds ND).length 1) (.frz 2 rfl rfl ?_ rfl ?_) ⟨0,rfl,by omega,by omega⟩ ?_
 ·refine ⟨_,_,rfl,ax,_,_,rfl,?_,rfl⟩
  rw [repN,hdl]
  exact ccL_cN _ _ _ _ _
 ·refine ⟨⟨_,rfl,(by repeat' (first | exact rfl | exact trivial | exact Or.inr (Or.inl ⟨_,rfl⟩) | exact Or.inr ⟨_,rfl⟩ | exact Or.inl ⟨rfl,rfl⟩ | exact Or.inl rfl | refine Or.inr ⟨_,_,rfl,Nat.zero_le _,rfl,?_⟩ | refine ⟨_,_,rfl,?_,?_⟩ | refine ⟨_,rfl,?_⟩ | exact ⟨Nat.le_of_ble_eq_true rfl,rfl⟩ | refine Or.inr (Or.inr (Or.inr ⟨_,_,rfl,?_⟩)) | exact Or.inl rfl | refine Or.inr ?_))⟩,⟨_,rfl,(by repeat' (first | exact rfl | exact trivial | exact Or.inr (Or.inl ⟨_,rfl⟩) | exact Or.inr ⟨_,rfl⟩ | exact Or.inl ⟨rfl,rfl⟩ | exact Or.inl rfl | refine Or.inr ⟨_,_,rfl,Nat.zero_le _,rfl,?_⟩ | refine ⟨_,_,rfl,?_,?_⟩ | refine ⟨_,rfl,?_⟩ | exact ⟨Nat.le_of_ble_eq_true rfl,rfl⟩ | refine Or.inr (Or.inr (Or.inr ⟨_,_,rfl,?_⟩)) | exact Or.inl rfl | refine Or.inr ?_))⟩,⟨_,rfl,ms_b (by rw [posL_len,depN_len,hdl];omega) (Nat.le_refl _) ?_⟩,⟨_,rfl,ax⟩,trivial⟩
  refine congrArg some ?_
  rw [repB,hdl]
  simp [posL,depN]
 rintro j st ⟨d,rfl,hd,rfl⟩
 have hpl:(posL (depN ND d)).length=ND.length:=by rw [posL_len,depN_len]
 refine br (fun hc=>?_) (fun hc=>?_)
 ·have hlt:d < ND.length:=by have:=hc;simp [hdl] at this;omega
  refine ⟨⟨rfl,by omega,by rw [hdl];omega,by rw [hdl];omega⟩,?_⟩
  refine loop_i (fun j st=>∃ (e:Nat) (O:List Nat) (M:List Bool),st=rd2St (wG a b A B ND z) O (posL (depN ND d)) M (dNds ND).length (d + 1) e∧e≤ND.length∧O.length=ND.length∧M.length=ND.length∧(∀ i:Nat,i < e→O.getD i 0=(depN ND (d + 1)).getD i 0∧M.getD i false=(posL (depN ND (d + 1))).getD i false)∧(∀ i:Nat,e≤i→O.getD i 0=(depN ND d).getD i 0)∧j=ND.length - e) ND.length (rd2St (wG a b A B ND z) (depN ND d) (posL (depN ND d)) (List.replicate ((dNds ND).length:Int).toNat false) (dNds ND).length (d + 1) 0) (weak_b 3 rfl (by repeat' (first | exact rfl | exact we_rfl rfl | exact weL_cN rfl | exact weL_cB (repB _) | refine ⟨_,_,rfl,?_,?_⟩)) rfl rfl rfl (by repeat' (first | exact trivial | exact we_rfl rfl | exact weL_cN rfl | exact weL_cB (repB _) | refine ⟨⟨_,rfl,?_⟩,?_⟩))) ⟨0,_,_,rfl,by omega,by rw [depN_len],by rw [List.length_replicate,hdl];omega,fun i hi=>by omega,fun i _=>rfl,by omega⟩ ?_
  rintro j st ⟨e,O,M,rfl,he,hO,hM,hv1,hv2,rfl⟩
  refine br (fun hL=>?_) (fun hL=>?_)
  ·have hle:e < ND.length:=by have:=hL;simp [hdl] at this;exact this
   obtain ⟨n,hn⟩:∃ n,ND[e]? = some n:=⟨_,List.getElem?_eq_getElem hle⟩
   have hnm:=List.mem_of_getElem? hn
   have h1:=one19_spec (posL (depN ND d)) (by rw [hpl];exact hnl) (n:=n) (by rw [hpl];exact hok n hnm) (hsz n hnm)
   obtain ⟨r1,r2⟩:=depN_ref (fun m hm=>⟨(hok m hm).k8,(hok m hm).bare⟩) d hn
   refine ⟨_,⟨by omega,dNds_get hn⟩,?_⟩
   refine call_p en179 (h1) ax rfl ?_
   have hst:(cB M).set (0 + (e:Int).toNat * 1) (DV.v (.bool (hvB n (posL (depN ND d)))))=cB (M.set e (hvB n (posL (depN ND d)))):=by
    rw [show 0 + (e:Int).toNat * 1=e by omega,cB_set]
   have hld:(cB (M.set e (hvB n (posL (depN ND d)))))[0 + (e:Int).toNat * 1]? = some (DV.v (.bool (hvB n (posL (depN ND d))))):=by
    rw [show 0 + (e:Int).toNat * 1=e by omega]
    exact cB_get (List.getElem?_set_self (by omega))
   obtain ⟨q,hq⟩:∃ q,O[e]? = some q:=⟨_,List.getElem?_eq_getElem (by omega)⟩
   have hqd:(depN ND d).getD e 0=q:=by rw [← hv2 e (Nat.le_refl _),List.getD_eq_getElem?_getD,hq];all_goals rfl
   rw [hqd] at r1
   have hMs:∀ i:Nat,i < e + 1→(M.set e (hvB n (posL (depN ND d)))).getD i false=(posL (depN ND (d + 1))).getD i false:=fun i hi=>by
    by_cases hie:i=e
    ·subst hie
     rw [r2,List.getD_eq_getElem?_getD,List.getElem?_set_self (by omega)];all_goals rfl
    ·rw [List.getD_eq_getElem?_getD,List.getElem?_set_ne (Ne.symm hie),← List.getD_eq_getElem?_getD]
     exact (hv1 i (by omega)).2
   generalize hvB n (posL (depN ND d))=h at hst hld r1 hMs ⊢
   refine ⟨⟨by omega,by rw [hdl];omega⟩,?_⟩
   refine ⟨by rw [cB_len];omega,?_⟩
   refine ⟨⟨by omega,by rw [hdl];omega⟩,?_⟩
   refine ⟨DV.v (.bool h),(by rw [hst];exact hld),?_⟩
   have hOs:∀ v,v=(depN ND (d + 1)).getD e 0→∀ i:Nat,i < e + 1→(O.set e v).getD i 0=(depN ND (d + 1)).getD i 0:=fun v hv i hi=>by
    by_cases hie:i=e
    ·subst hie
     rw [← hv,List.getD_eq_getElem?_getD,List.getElem?_set_self (by omega)];all_goals rfl
    ·rw [List.getD_eq_getElem?_getD,List.getElem?_set_ne (Ne.symm hie),← List.getD_eq_getElem?_getD]
     exact (hv1 i (by omega)).1
   have hOr:∀ v:Nat,∀ i:Nat,e + 1≤i→(O.set e v).getD i 0=(depN ND d).getD i 0:=fun v i hi=>by
    rw [List.getD_eq_getElem?_getD,List.getElem?_set_ne (by omega),← List.getD_eq_getElem?_getD]
    exact hv2 i (by omega)
   have hOq:O.set e q=O:=List.ext_getElem? fun i=>by
    by_cases hie:e=i
    ·subst hie
     rw [List.getElem?_set_self (by omega),hq]
    ·rw [List.getElem?_set_ne hie]
   refine br (fun g=>?_) (fun g=>?_)
   ·have g:h=true:=by simpa using g
    refine ⟨⟨by omega,by rw [hdl];omega⟩,?_⟩
    refine ⟨DV.v (.int .i64 (q:Int)),(by rw [show 0 + (e:Int).toNat * 1=e by omega];exact cN_get hq),?_⟩
    refine br (fun g2=>?_) (fun g2=>?_)
    ·have g2:q=0:=by simpa [pickB,pickD] using g2
     rw [if_pos ⟨g,g2⟩] at r1
     refine ⟨⟨by omega,by rw [hdl];omega⟩,?_⟩
     refine ⟨by rw [cN_len];omega,?_⟩
     have hso:(cN O).set (0 + (e:Int).toNat * 1) (DV.v (.int .i64 ((d + 1:Nat):Int)))=cN (O.set e (d + 1)):=by
      rw [show 0 + (e:Int).toNat * 1=e by omega,cN_set]
     exact ⟨rd2St (wG a b A B ND z) (O.set e (d + 1)) (posL (depN ND d)) (M.set e h) (dNds ND).length (d + 1) (e + 1),(weak_b 3 rfl (by repeat' (first | exact rfl | exact we_rfl rfl | exact weL_cN hso | exact weL_cB hst | exact we_int (nxt hle (by omega)) | refine ⟨_,_,rfl,?_,?_⟩)) rfl rfl rfl (by repeat' (first | exact trivial | exact we_rfl rfl | exact weL_cN hso | exact weL_cB hst | exact we_int (nxt hle (by omega)) | refine ⟨⟨_,rfl,?_⟩,?_⟩))),ND.length - (e + 1),by omega,e + 1,_,_,rfl,by omega,by simp [hO],by rw [List.length_set];exact hM,fun i hi=>⟨hOs _ r1.symm i hi,hMs i hi⟩,hOr (d + 1),rfl⟩
    ·have g2:¬ q=0:=by simpa [pickB,pickD] using g2
     rw [if_neg (fun h=>g2 h.2)] at r1
     exact ⟨rd2St (wG a b A B ND z) (O.set e q) (posL (depN ND d)) (M.set e h) (dNds ND).length (d + 1) (e + 1),(weak_b 3 rfl (by repeat' (first | exact rfl | exact we_rfl rfl | exact weL_cN (by rw [hOq]) | exact weL_cB hst | exact we_int (nxt hle (by omega)) | refine ⟨_,_,rfl,?_,?_⟩)) rfl rfl rfl (by repeat' (first | exact trivial | exact we_rfl rfl | exact weL_cN (by rw [hOq]) | exact weL_cB hst | exact we_int (nxt hle (by omega)) | refine ⟨⟨_,rfl,?_⟩,?_⟩))),ND.length - (e + 1),by omega,e + 1,_,_,rfl,by omega,by simp [hO],by rw [List.length_set];exact hM,fun i hi=>⟨hOs _ r1.symm i hi,hMs i hi⟩,hOr q,rfl⟩
   ·have g:h=false:=by simpa using g
    rw [if_neg (by rw [g];simp)] at r1
    exact ⟨rd2St (wG a b A B ND z) (O.set e q) (posL (depN ND d)) (M.set e h) (dNds ND).length (d + 1) (e + 1),(weak_b 3 rfl (by repeat' (first | exact rfl | exact we_rfl rfl | exact weL_cN (by rw [hOq]) | exact weL_cB hst | exact we_int (nxt hle (by omega)) | refine ⟨_,_,rfl,?_,?_⟩)) rfl rfl rfl (by repeat' (first | exact trivial | exact we_rfl rfl | exact weL_cN (by rw [hOq]) | exact weL_cB hst | exact we_int (nxt hle (by omega)) | refine ⟨⟨_,rfl,?_⟩,?_⟩))),ND.length - (e + 1),by omega,e + 1,_,_,rfl,by omega,by simp [hO],by rw [List.length_set];exact hM,fun i hi=>⟨hOs _ r1.symm i hi,hMs i hi⟩,hOr q,rfl⟩
  ·have hge:e=ND.length:=by have:=hL;simp [hdl] at this;omega
   subst hge
   have hO2:O=depN ND (d + 1):=getD_ext (by rw [hO,depN_len]) fun j=>by
    rcases Nat.lt_or_ge j ND.length with hj | hj
    ·exact (hv1 j hj).1
    ·simp only [List.getD_eq_getElem?_getD]
     rw [List.getElem?_eq_none (by omega),List.getElem?_eq_none (by rw [depN_len];omega)]
   have hM2:M=posL (depN ND (d + 1)):=leB_anti (by rw [hM,posL_len,depN_len]) (fun j hj=>by
     rcases Nat.lt_or_ge j ND.length with h | h
     ·rw [← (hv1 j h).2];exact hj
     ·rw [List.getD_eq_getElem?_getD,List.getElem?_eq_none (by omega)] at hj;cases hj) (fun j hj=>by
     rcases Nat.lt_or_ge j ND.length with h | h
     ·rw [(hv1 j h).2];exact hj
     ·rw [List.getD_eq_getElem?_getD,List.getElem?_eq_none (by rw [posL_len,depN_len];omega)] at hj;cases hj)
   subst hO2 hM2
   refine ⟨rd1St (wG a b A B ND z) (depN ND (d + 1)) (posL (depN ND (d + 1))) (dNds ND).length (d + 1 + 1),.frz 2 rfl rfl ⟨_,_,rfl,ax,_,_,rfl,ccL_cN _ _ _ _ _,rfl⟩ rfl ⟨⟨_,rfl,(by repeat' (first | exact rfl | exact trivial | exact Or.inr (Or.inl ⟨_,rfl⟩) | exact Or.inr ⟨_,rfl⟩ | exact Or.inl ⟨rfl,rfl⟩ | exact Or.inl rfl | refine Or.inr ⟨_,_,rfl,Nat.zero_le _,rfl,?_⟩ | refine ⟨_,_,rfl,?_,?_⟩ | refine ⟨_,rfl,?_⟩ | exact ⟨Nat.le_of_ble_eq_true rfl,rfl⟩ | refine Or.inr (Or.inr (Or.inr ⟨_,_,rfl,?_⟩)) | exact Or.inl rfl | refine Or.inr ?_))⟩,⟨_,rfl,(by repeat' (first | exact rfl | exact trivial | exact Or.inr (Or.inl ⟨_,rfl⟩) | exact Or.inr ⟨_,rfl⟩ | exact Or.inl ⟨rfl,rfl⟩ | exact Or.inl rfl | refine Or.inr ⟨_,_,rfl,Nat.zero_le _,rfl,?_⟩ | refine ⟨_,_,rfl,?_,?_⟩ | refine ⟨_,rfl,?_⟩ | exact ⟨Nat.le_of_ble_eq_true rfl,rfl⟩ | refine Or.inr (Or.inr (Or.inr ⟨_,_,rfl,?_⟩)) | exact Or.inl rfl | refine Or.inr ?_))⟩,⟨_,rfl,ms_b (by rw [posL_len,depN_len,hdl]) (Nat.le_refl _) rfl⟩,⟨_,rfl,?_⟩,trivial⟩,ND.length - (d + 1),by omega,d + 1,rfl,by omega,rfl⟩
   exact congrArg (fun z=>DV.v (Value.int .i64 z)) (nxt (n:=1099511627777) (by omega) (by omega))
 ·have hge:d=ND.length:=by have:=hc;simp [hdl] at this;omega
  subst hge
  exact ⟨_,ms_n (by rw [depN_len,hdl]) (Nat.zero_le _) rfl,rfl⟩
end Go.Proofs.YtbfdbhechmhpoaaGreat

set_option maxRecDepth 100000
namespace Go.Proofs.YtbfdbhechmhpoaaGreat
open Go Go.RowKit Dv Tryz
end Go.Proofs.YtbfdbhechmhpoaaGreat

set_option maxRecDepth 100000
namespace Go.Proofs.YtbfdbhechmhpoaaGreat
open Go Go.RowKit Dv Tryz
def exH (k:Int):Hd:=⟨k,0,0,0,0,[],⟨emptyB,0⟩⟩
end Go.Proofs.YtbfdbhechmhpoaaGreat

set_option maxRecDepth 100000
namespace Go.Proofs.YtbfdbhechmhpoaaGreat
open Go Go.RowKit Dv Tryz
theorem resNds_bare {S:Sch} (hF:FineS S) {i:Nat} {n:Nd} (h:(resNds S)[i]? = some n) {e:Ed} (he:e∈n.edges) (hb:e.bare=true):e.ck=0:=by
 have hk8:=(resNds_ok hF h).bare e he hb
 rw [resNds_eq] at h
 obtain ⟨t,ht,u,hu,rfl,hpos⟩:=ndsA_get h
 have hwr:=flatT_wr t ⟨_,_,hF.wr t ht⟩ u hu
 have hT:=tyF_of hwr
 obtain ⟨uh,us⟩:=u
 simp only [Ty.h,Ty.ps] at hT
 obtain ⟨p,v,k',h1,rfl,_⟩:=edsP_mem he
 obtain ⟨j,hj⟩:=List.mem_iff_getElem?.1 h1
 obtain ⟨_,hP⟩:=(hT.many (.inr hk8)).2.2 j p v hj
 rcases hP with ⟨_,_,_,hpl⟩ | ⟨hb',_⟩
 ·exact (wide_zero hpl).2.2.1
 ·have:p.bare=true:=hb
  rw [hb'] at this;cases this
def wantK (ck:Int):Int:=if ck=3 then 5 else if ck=2 then 3 else 2
def EffE (f:Nat→Nat→Bool) (ND:List Nd) (e:Ed):Prop:=e.ck≠0→(∃ m,ND[e.to.toNat]? = some m∧m.kind=wantK e.ck)∧f e.seen.toNat e.label.toNat=true∧f e.label.toNat e.seen.toNat=false
def EffOK (f:Nat→Nat→Bool) (ND:List Nd):Prop:=∀ n∈ND,∀ e∈n.edges,EffE f ND e
abbrev w20St (W:List DV) (e:Nat):St:=⟨[(1,⟨[],.loc 0 0⟩),(2,⟨[],.loc 1 0⟩),(3,⟨[],.v (.int .i64 e)⟩)],[W,[.v (.int .i64 0),.v (.int .i64 0)]],[]⟩
abbrev w20bSt (W:List DV) (es:List Ed) (e k:Nat):St:=⟨[(1,⟨[],.loc 0 0⟩),(2,⟨[],.loc 1 0⟩),(3,⟨[],.v (.int .i64 e)⟩),(4,⟨[],.sl 10 (dEds es) none⟩),(5,⟨[],.v (.int .i64 k)⟩)],[W,[.v (.int .i64 0),.v (.int .i64 0)]],[]⟩
def W20Φ (f:Nat→Nat→Bool) (ND:List Nd) (r:DV):Prop:=∃ ft:Ft,r=ft.d∧(ft.1=0→EffOK f ND)
theorem wrong20_spec (lv:List Wd) (f:Nat→Nat→Bool) (ND:List Nd) (z:Int) (hn:lv.length≤32) (hok:∀ n∈ND,NdOK lv.length ND.length n) (hnl:ND.length≤1099511627776) (hsz:∀ n∈ND,n.edges.length≤1099511627776) (hbr:∀ n∈ND,∀ e∈n.edges,e.bare=true→e.ck=0) :
  Ev Tryz.prog 231 [.agg (wL lv f ND z)] [] [] (fun r _ _=>W20Φ f ND r):=by
 have hNl:=dNds_len ND
 refine ev_go (P:=Tryz.prog) tt tt_ok 5000 79 [.cell 2 37] Tryz.func231 rfl Tryz.ntmps231 rfl (Nat.le_of_ble_eq_true rfl) (fun E9 w9 hn9 hm9=>?_)
 refine loop_i (fun j st=>∃ e:Nat,st=w20St (wL lv f ND z) e∧e≤ND.length∧(∀ c n,c < e→ND[c]? = some n→∀ x∈n.edges,EffE f ND x)∧j=ND.length - e) ND.length (w20St (wL lv f ND z) 0) (weak_mk ⟨_,rfl⟩ wA rfl rfl rfl wB) ⟨0,rfl,by omega,fun _ _ h=>by omega,by omega⟩ ?_
 rintro j st ⟨e,rfl,he,hno,rfl⟩
 refine br (fun hL=>?_) (fun hL=>?_)
 ·have hlt:e < ND.length:=by simpa [hNl] using hL
  obtain ⟨d,hd⟩:∃ d,ND[e]? = some d:=⟨_,List.getElem?_eq_getElem hlt⟩
  have hm:=List.mem_of_getElem? hd
  have hN:=hok d hm
  have hel:=hsz d hm
  have hdl:=dEds_len d.edges
  have hbd:=hbr d hm
  refine ⟨_,⟨by omega,dNds_get hd⟩,?_⟩
  refine loop_i (fun j st=>∃ k:Nat,st=w20bSt (wL lv f ND z) d.edges e k∧k≤d.edges.length∧(∀ c x,c < k→d.edges[c]? = some x→EffE f ND x)∧j=d.edges.length - k) d.edges.length (w20bSt (wL lv f ND z) d.edges e 0) (weak_mk ⟨_,rfl⟩ wA rfl rfl rfl wB) ⟨0,rfl,by omega,fun _ _ h=>by omega,by omega⟩ ?_
  rintro j st ⟨k,rfl,hk,hno2,rfl⟩
  refine br (fun hL2=>?_) (fun hL2=>?_)
  ·have hkt:k < d.edges.length:=by simpa [hdl] using hL2
   obtain ⟨x,hx⟩:∃ x,d.edges[k]? = some x:=⟨_,List.getElem?_eq_getElem hkt⟩
   have hmx:=List.mem_of_getElem? hx
   obtain ⟨hto,⟨h2,h2'⟩,h3,h3'⟩:=edge_nums hN hmx
   have hbx:=hbd x hmx
   have hck:=(hN.edge x hmx).ck
   have hnext:EffE f ND x→∀ c y,c < k + 1→d.edges[c]? = some y→EffE f ND y:=fun h c y hc hy=>by
    rcases Nat.lt_succ_iff_lt_or_eq.1 hc with h1 | h1
    ·exact hno2 c y h1 hy
    ·rw [h1,hx] at hy
     simp only [Option.some.injEq] at hy
     rw [← hy];exact h
   have hE:EffE f ND x=(x.ck≠0→(∃ m,ND[x.to.toNat]? = some m∧m.kind=wantK x.ck)∧f x.seen.toNat x.label.toNat=true∧f x.label.toNat x.seen.toNat=false):=rfl
   generalize EffE f ND x=EX at hE hnext
   obtain ⟨en,eb,ea,et,elb,ew,eck,ecn,ese,eca⟩:=x
   simp only at h2 h2' h3 h3' hto hbx hck hE
   obtain ⟨lb,rfl⟩:∃ n:Nat,elb=n:=⟨_,h2⟩
   obtain ⟨sn,rfl⟩:∃ n:Nat,ese=n:=⟨_,h3⟩
   simp only [Int.toNat_natCast] at h2' h3' hE
   refine ⟨_,⟨by omega,dEds_get hx⟩,?_⟩
   refine br (fun g=>?_) (fun g=>?_)
   ·have g:eck=0:=by simpa using g
    exact ⟨w20bSt (wL lv f ND z) d.edges e (k + 1),(weak_b 2 rfl (by repeat' (first | exact rfl | exact we_rfl rfl | exact we_int (nxt hkt (by omega)) | refine ⟨_,_,rfl,?_,?_⟩)) rfl rfl rfl (by repeat' (first | exact trivial | exact we_rfl rfl | exact we_int (nxt hkt (by omega)) | refine ⟨⟨_,rfl,?_⟩,?_⟩))),d.edges.length - (k + 1),by omega,k + 1,rfl,by omega,hnext (by rw [hE];intro h;exact absurd g h),rfl⟩
   have g:¬ eck=0:=by simpa using g
   obtain ⟨h1,h1'⟩:=hto (by
    cases hb:eb
    ·rfl
    ·exact absurd (hbx hb) g)
   obtain ⟨tn,rfl⟩:∃ n:Nat,et=n:=⟨_,h1⟩
   simp only [Int.toNat_natCast] at h1' hE
   obtain ⟨m,hmt⟩:∃ m,ND[tn]? = some m:=⟨_,List.getElem?_eq_getElem h1'⟩
   have hW:∀ w:Int,w=wantK eck→(m.kind=w∧f sn lb=true∧f lb sn=false)→EX:=fun w h1 h2=>by
    rw [hE]
    exact fun _=>⟨⟨m,hmt,by rw [← h1];exact h2.1⟩,h2.2⟩
   have h3c:eck=1∨eck=2∨eck=3:=by omega
   rcases h3c with rfl | rfl | rfl
   all_goals
    refine ⟨_,⟨Int.natCast_nonneg _,dNds_get hmt⟩,?_⟩
    refine br (fun c1=>?_) (fun c1=>?_)
    ·exact ⟨Ft.d (14,eca),ax,(14,eca),rfl,fun h=>by simp at h⟩
    refine drawG_i (fun _=>false) mo (by decide +kernel) ?_
    refine ⟨_,⟨Int.natCast_nonneg _,mrow_get h3'⟩,?_⟩
    refine ⟨_,⟨Int.natCast_nonneg _,mcell_get h2'⟩,?_⟩
    refine br (fun c2=>?_) (fun c2=>?_)
    ·refine ⟨_,⟨Int.natCast_nonneg _,mrow_get h2'⟩,?_⟩
     refine ⟨_,⟨Int.natCast_nonneg _,mcell_get h3'⟩,?_⟩
     refine br (fun c3=>?_) (fun c3=>?_)
     ·exact ⟨Ft.d (18,eca),ax,(18,eca),rfl,fun h=>by simp at h⟩
     ·have hx:=hnext (hW _ rfl ⟨by simpa [wantK] using c1,by simpa using c2,by simpa [pickB] using c3⟩)
      exact ⟨w20bSt (wL lv f ND z) d.edges e (k + 1),(weak_b 2 rfl (by repeat' (first | exact rfl | exact we_rfl rfl | exact we_int (nxt hkt (by omega)) | refine ⟨_,_,rfl,?_,?_⟩)) rfl rfl rfl (by repeat' (first | exact trivial | exact we_rfl rfl | exact we_int (nxt hkt (by omega)) | refine ⟨⟨_,rfl,?_⟩,?_⟩))),d.edges.length - (k + 1),by omega,k + 1,rfl,by omega,hx,rfl⟩
    ·exact ⟨Ft.d (18,eca),ax,(18,eca),rfl,fun h=>by simp at h⟩
  ·have hge:k=d.edges.length:=by have:=hL2;simp [hdl] at this;omega
   subst hge
   exact ⟨w20St (wL lv f ND z) (e + 1),(weak_mk ⟨_,rfl⟩ wA rfl rfl rfl (by repeat' (first | exact trivial | exact we_rfl rfl | exact we_int (nxt hlt (by omega)) | refine ⟨⟨_,rfl,?_⟩,?_⟩))),ND.length - (e + 1),by omega,e + 1,rfl,by omega,fun c n hc hn x hxm=>by
    rcases Nat.lt_succ_iff_lt_or_eq.1 hc with h1 | h1
    ·exact hno c n h1 hn x hxm
    ·rw [h1,hd] at hn
     simp only [Option.some.injEq] at hn
     rw [← hn] at hxm
     obtain ⟨q,hq⟩:=List.mem_iff_getElem?.1 hxm
     exact hno2 q x (List.getElem?_eq_some_iff.1 hq).1 hq,rfl⟩
 ·have hge:e=ND.length:=by have:=hL;simp [hNl] at this;omega
  subst hge
  exact ⟨Ft.d (0,0),ax,(0,0),rfl,fun _ n hn x hx=>by
   obtain ⟨q,hq⟩:=List.mem_iff_getElem?.1 hn
   exact hno q n (List.getElem?_eq_some_iff.1 hq).1 hq x hx⟩
structure Fine21 (S:Sch):Prop where
 res:(resF S).1=0
 live:∀ i:Nat,i < (resNds S).length→(depN (resNds S) (resNds S).length).getD i 0≠0
 eff:EffOK (leqS S) (resNds S)
abbrev w21St (S:Sch) (a b:Int) (W:List DV) (D:List Nat) (e:Nat):St:=
 ⟨[(1,⟨[],.loc 0 0⟩),(3,⟨[],.loc 1 0⟩),(5,⟨[],.loc 3 0⟩),(6,⟨[],.sl 1 (dInts D) none⟩),(7,⟨[],.v (.int .i64 e)⟩)],[dSch S,[.v (.int .i64 0),.v (.int .i64 0)],[.v (.int .i64 a),.v (.int .i64 b)],W],[]⟩
theorem wrong21_spec (S:Sch) (hS:S.wt≤1099511627776):Ev Tryz.prog 161 [.agg (dSch S)] [] [] (fun r _ _=>∃ (z:Int) (ft:Ft),r = .tup [.v (.int .i64 z),ft.d]∧(z=0→Fine21 S)):=by
 have hwr:=wrong18_spec S hS
 have hw:=fun h=>build18_spec S hS h
 generalize hR:resF S=R at hwr
 obtain ⟨levels,order,types,⟨rh,rp⟩⟩:=S
 refine ev_go (P:=Tryz.prog) tt tt_ok 5000 44 [.tmp 2,.cell 3 37] Tryz.func161 rfl Tryz.ntmps161 rfl (Nat.le_of_ble_eq_true rfl) (fun E9 w9 hn9 hm9=>?_)
 refine call_p en98 (hwr) ax rfl ?_
 refine br (fun g=>?_) (fun g=>?_)
 ·refine drawG_s mo (by decide +kernel) ?_
  exact ⟨.tup [.v (.int .i64 2),Ft.d R],ax,2,R,rfl,fun h=>by simp at h⟩
 have g:R.1=0:=by simpa using g
 have h0:(resF ⟨levels,order,types,.mk rh rp⟩).1=0:=by rw [hR];exact g
 have hF:=fineS_of h0
 have hw:=hw h0
 obtain ⟨hLat,h32⟩:=latOK_of hF.lat
 have hok:=fun n (hn:n∈resNds ⟨levels,order,types,.mk rh rp⟩)=>(List.mem_iff_getElem?.1 hn).elim fun i hi=>resNds_ok hF hi
 have hnl:(resNds ⟨levels,order,types,.mk rh rp⟩).length≤1099511627776:=by rw [resNds_len];exact Nat.le_trans (nnS_wt _) hS
 have hsz:=fun n (hn:n∈resNds ⟨levels,order,types,.mk rh rp⟩)=>(resNds_sz hn hS).2
 have hbr:=fun n (hn:n∈resNds ⟨levels,order,types,.mk rh rp⟩)=>(List.mem_iff_getElem?.1 hn).elim fun i hi e he hb=>resNds_bare hF hi (e:=e) he hb
 have h19:=fun A B=>depths19_spec 2 1 A B (resRoot ⟨levels,order,types,.mk rh rp⟩) hok hnl hsz
 have h20:=wrong20_spec levels (leqS ⟨levels,order,types,.mk rh rp⟩) (resNds ⟨levels,order,types,.mk rh rp⟩) (resRoot ⟨levels,order,types,.mk rh rp⟩) h32 hok hnl hsz hbr
 have hmk:(∀ i:Nat,i < (resNds ⟨levels,order,types,.mk rh rp⟩).length→(depN (resNds ⟨levels,order,types,.mk rh rp⟩) (resNds ⟨levels,order,types,.mk rh rp⟩).length).getD i 0≠0)→EffOK (leqS ⟨levels,order,types,.mk rh rp⟩) (resNds ⟨levels,order,types,.mk rh rp⟩)→Fine21 ⟨levels,order,types,.mk rh rp⟩:=fun h1 h2=>⟨h0,h1,h2⟩
 have hDl:=depN_len (resNds ⟨levels,order,types,.mk rh rp⟩) (resNds ⟨levels,order,types,.mk rh rp⟩).length
 generalize depN (resNds ⟨levels,order,types,.mk rh rp⟩) (resNds ⟨levels,order,types,.mk rh rp⟩).length=D at h19 hmk hDl
 unfold leqS at h20 hmk
 generalize leqN (Sch.mk levels order types (.mk rh rp)).levels.length (numL (nmTx (Sch.mk levels order types (.mk rh rp)).levels) (Sch.mk levels order types (.mk rh rp)).order)=f at hw h20 hmk
 generalize resNds ⟨levels,order,types,.mk rh rp⟩=ND at hw h19 h20 hmk hDl hnl hsz hbr hok
 generalize resRoot ⟨levels,order,types,.mk rh rp⟩=rt at hw h19 h20
 have hdi:=dInts_len D
 obtain ⟨R1,R2⟩:=R
 simp only at g
 subst g
 refine call_p en32 (hw) ax rfl ?_
 refine call_p en99 (h19 _ _) ax rfl ?_
 refine loop_i (fun j st=>∃ e:Nat,st=w21St ⟨levels,order,types,.mk rh rp⟩ 0 R2 (wL levels f ND rt) D e∧e≤D.length∧(∀ i < e,D.getD i 0≠0)∧j=D.length - e) D.length (w21St ⟨levels,order,types,.mk rh rp⟩ 0 R2 (wL levels f ND rt) D 0) (weak_mk ⟨_,rfl⟩ wA rfl rfl rfl wB) ⟨0,rfl,by omega,fun _ h=>by omega,by omega⟩ ?_
 rintro j st ⟨e,rfl,he,hno,rfl⟩
 refine br (fun hL=>?_) (fun hL=>?_)
 ·have hlt:e < D.length:=by simpa [hdi] using hL
  obtain ⟨x,hx⟩:∃ x,D[e]? = some x:=⟨_,List.getElem?_eq_getElem hlt⟩
  obtain ⟨d,hd⟩:∃ d,ND[e]? = some d:=⟨_,List.getElem?_eq_getElem (by omega)⟩
  refine ⟨_,⟨by omega,dInts_get hx⟩,?_⟩
  refine br (fun c=>?_) (fun c=>?_)
  ·refine drawG_s mo (by decide +kernel) ?_
   refine ⟨_,⟨by omega,dNds_get hd⟩,?_⟩
   exact ⟨.tup [.v (.int .i64 3),Ft.d (11,d.at')],ax,3,(11,d.at'),rfl,fun h=>by simp at h⟩
  ·have c:x≠0:=by simp at c;omega
   exact ⟨w21St ⟨levels,order,types,.mk rh rp⟩ 0 R2 (wL levels f ND rt) D (e + 1),(weak_b 4 rfl (by repeat' (first | exact rfl | exact we_rfl rfl | exact we_int (nxt hlt (by omega)) | refine ⟨_,_,rfl,?_,?_⟩)) rfl rfl rfl (by repeat' (first | exact trivial | exact we_rfl rfl | exact we_int (nxt hlt (by omega)) | refine ⟨⟨_,rfl,?_⟩,?_⟩))),D.length - (e + 1),by omega,e + 1,rfl,by omega,fun i hi=>by
    rcases Nat.lt_succ_iff_lt_or_eq.1 hi with h1 | h1
    ·exact hno i h1
    ·rw [h1,List.getD_eq_getElem?_getD,hx];exact c,rfl⟩
 ·have hge:e=D.length:=by have:=hL;simp [hdi] at this;omega
  subst hge
  refine call_e en231 rfl h20 ax (fun r hr=>?_)
  obtain ⟨ft,rfl,hft⟩:=hr
  refine br (fun c=>?_) (fun c=>?_)
  ·refine drawG_s mo (by decide +kernel) ?_
   exact ⟨.tup [.v (.int .i64 4),Ft.d ft],ax,4,ft,rfl,fun h=>by simp at h⟩
  ·have c:ft.1=0:=by simpa using c
   exact ⟨.tup [.v (.int .i64 0),Ft.d (0,0)],ax,0,(0,0),rfl,fun _=>hmk (fun i hi=>hno i (by omega)) (hft c)⟩
theorem fine21_spec (S:Sch) (hS:S.wt≤1099511627776):Ev Tryz.prog 88 [.agg (dSch S)] [] [] (fun r _ _=>∃ b:Bool,r = .v (.bool b)∧(b=true→Fine21 S)):=by
 have hw:=wrong21_spec S hS
 obtain ⟨levels,order,types,⟨rh,rp⟩⟩:=S
 refine ev_go (P:=Tryz.prog) tt tt_ok 5000 12 [.tmp 2] Tryz.func88 rfl Tryz.ntmps88 rfl (Nat.le_of_ble_eq_true rfl) (fun E9 w9 hn9 hm9=>?_)
 refine call_e en161 rfl hw ax (fun r hr=>?_)
 obtain ⟨z,ft,rfl,hz⟩:=hr
 exact ⟨_,rfl,fun h=>hz (by simpa using h)⟩
end Go.Proofs.YtbfdbhechmhpoaaGreat

set_option maxRecDepth 100000
namespace Go.Proofs.YtbfdbhechmhpoaaGreat
open Go Go.RowKit Dv Tryz
end Go.Proofs.YtbfdbhechmhpoaaGreat

namespace Go.Proofs.YtbfdbhechmhpoaaGreat
namespace Dv
open Go Go.RowKit
section
variable {P:Program} {ops:Array Oper} {C:World→Prop} {Q:Act→World→Prop} {W:Nat→Bool}
end
section
variable {X:Ctx} {D:Dw}
end
end Dv
end Go.Proofs.YtbfdbhechmhpoaaGreat

set_option maxRecDepth 100000
namespace Go.Proofs.YtbfdbhechmhpoaaGreat
open Go Go.RowKit Dv Tryz
end Go.Proofs.YtbfdbhechmhpoaaGreat

set_option maxRecDepth 100000
namespace Go.Proofs.YtbfdbhechmhpoaaGreat
open Go Go.RowKit Dv Tryz
end Go.Proofs.YtbfdbhechmhpoaaGreat

set_option maxRecDepth 100000
namespace Go.Proofs.YtbfdbhechmhpoaaGreat
open Go Go.RowKit Dv Tryz
theorem kid_rng {d:Nd} {z:Int} {j:Nat} {e:Ed} (h:toR d (.mk 0 z emptyB []) j=e.to) (h0:0≤e.to) (c:d.kind=8):0≤z∧z < d.edges.length:=by
 unfold toR at h
 rw [if_neg (by omega),if_neg (by omega),if_neg (by omega),if_pos c] at h
 split at h
 ·rename_i g
  exact ⟨g.2.1,g.2.2⟩
 ·omega
end Go.Proofs.YtbfdbhechmhpoaaGreat

set_option maxRecDepth 100000
namespace Go.Proofs.YtbfdbhechmhpoaaGreat
open Go Go.RowKit Dv Tryz
abbrev eeD (PC LC:List DV) (obs:Int):List DV:=[.pt PC 0,.pt LC 0,.v (.int .i64 obs)]
section
variable {n:Nat} {f:Nat→Nat→Bool} {names:List ByteArray} {LC:List DV} (hR:LatR n f names LC) (PC:List DV)
include hR
theorem esees_spec (obs a:Nat) (ho:obs < n) (ha:a < n):EvP Tryz.prog 202 [.agg (eeD PC LC obs),.v (.int .i64 a)] (.v (.bool (f a obs))):=by
 have hq:=hR.leq a obs
 rw [leqI_nat ha ho] at hq
 refine ev_go (P:=Tryz.prog) tt tt_ok 5000 11 [.tmp 4] Tryz.func202 rfl Tryz.ntmps202 rfl (Nat.le_of_ble_eq_true rfl) (fun E9 w9 hn9 hm9=>?_)
 refine call_p en57 (hq) ax rfl ?_
 exact (rfl:_=_)
theorem ecoarsely_spec {ND:List Nd} (obs a:Nat) (ho:obs < n) (ha:a < n) (d:Nd) (e:Ed) (hN:NdOK n ND.length d) (hm:e∈d.edges):EvP Tryz.prog 203 [.agg (eeD PC LC obs),.agg (dEd e),.v (.int .i64 a)] (.v (.bool (decide (e.ck≠0) && f (jnF f n a e.seen.toNat) obs))):=by
 obtain ⟨_,_,h3,h3'⟩:=edge_nums hN hm
 have hj:=hR.join a e.seen.toNat ha h3'
 rw [← h3] at hj
 have hs:=esees_spec hR PC obs (jnF f n a e.seen.toNat) ho (jnF_lt hR.ok ha h3')
 obtain ⟨en,eb,ea,et,elb,ew,eck,ecn,ese,eca⟩:=e
 refine ev_go (P:=Tryz.prog) tt tt_ok 5000 20 [.tmp 6] Tryz.func203 rfl Tryz.ntmps203 rfl (Nat.le_of_ble_eq_true rfl) (fun E9 w9 hn9 hm9=>?_)
 refine drawG_i (fun _=>false) mo (by decide +kernel) ?_
 refine br (fun c=>?_) (fun c=>?_)
 ·have c:eck≠0:=by simpa using c
  refine callD_p en132 (hj) ax rfl ?_
  refine callD_p en202 (hs) ax rfl ?_
  rw [show decide ((⟨en,eb,ea,et,elb,ew,eck,ecn,ese,eca⟩:Ed).ck≠0)=true from decide_eq_true c,Bool.true_and]
  exact (rfl:_=_)
 ·have c:¬ eck≠0:=by simpa using c
  rw [show decide ((⟨en,eb,ea,et,elb,ew,eck,ecn,ese,eca⟩:Ed).ck≠0)=false from decide_eq_false c,Bool.false_and]
  exact (rfl:_=_)
theorem eedge_spec {ND:List Nd} (obs:Int) (a:Nat) (ha:a < n) (d:Nd) (v:Val) (j:Nat) (e:Ed) (h:edgeN d v.n j=some e) (hm:e∈d.edges) (hN:NdOK n ND.length d) (h5:5≤d.kind) (hz:d.kind=8→(0≤v.n∧v.n < d.edges.length)∧j=0) (hes:d.edges.length≤1099511627776) :
  EvP Tryz.prog 201 [.agg (eeD PC LC obs),.agg (dNd d),.agg (dVal v),.v (.int .i64 j),.v (.int .i64 a)] (.tup [.agg (dEd e),.v (.int .i64 (undF f n d e a:Nat))]):=by
 obtain ⟨_,⟨h2,h2'⟩,_⟩:=edge_nums hN hm
 have hj:=hR.join a e.label.toNat ha h2'
 rw [← h2] at hj
 have hU:undF f n d e a=if d.kind < 7 then a else jnF f n a e.label.toNat:=rfl
 generalize undF f n d e a=U at hU ⊢
 have h8:=hN.k8
 obtain ⟨kind,at',lo,hi,most,nms,es⟩:=d
 obtain ⟨k,z,s,ks⟩:=v
 simp only [Val.n] at h hz hes hU h5 h8
 have hel:=dEds_len es
 unfold edgeN at h
 simp only at h
 have hd:∃ en eb ea et elb ew eck ecn ese eca,e=⟨en,eb,ea,et,elb,ew,eck,ecn,ese,eca⟩:=⟨_,_,_,_,_,_,_,_,_,_,rfl⟩
 have hedges:∃ (l:List (List DV)) (b:Bool),EvP Tryz.prog 258 [.agg (dNd ⟨kind,at',lo,hi,most,nms,es⟩),.agg (dVal (.mk k z s ks))] (.tup [.sl 10 l none,.v (.bool b)])∧(if kind < 7 then b=false∧l[0]? = some (dEd e) else b=true∧l[j]? = some (dEd e)):=by
  by_cases c7:kind=7
  ·rw [if_pos c7] at h
   refine ⟨dEds es,true,?_,by rw [if_neg (by omega)];exact ⟨rfl,dEds_get h⟩⟩
   refine ev_go (P:=Tryz.prog) tt tt_ok 5000 24 [.tmp 4,.tmp 5] Tryz.func258 rfl Tryz.ntmps258 rfl (Nat.le_of_ble_eq_true rfl) (fun E9 w9 hn9 hm9=>?_)
   refine br (fun _=>?_) (fun c=>absurd c7 (by simpa using c))
   exact ⟨_,ax,rfl⟩
  rw [if_neg c7] at h
  by_cases c8:kind=8
  ·rw [if_pos c8] at h
   have hz:=hz c8
   have hw:IntKind.i64.wrap (z + 1)=z + 1:=wrap64 (by omega) (by omega)
   refine ⟨((dEds es).take (IntKind.i64.wrap (z + 1)).toNat).drop z.toNat,true,?_,by rw [if_neg (by omega),hz.2,List.getElem?_drop,List.getElem?_take,if_pos (by rw [hw];omega)];exact ⟨rfl,dEds_get h⟩⟩
   refine ev_go (P:=Tryz.prog) tt tt_ok 5000 24 [.tmp 4,.tmp 5] Tryz.func258 rfl Tryz.ntmps258 rfl (Nat.le_of_ble_eq_true rfl) (fun E9 w9 hn9 hm9=>?_)
   refine br (fun c=>absurd (by simpa using c) c7) (fun _=>?_)
   refine br (fun _=>?_) (fun c=>absurd c8 (by simpa using c))
   refine ⟨⟨by omega,by rw [hw];omega,by rw [hw,dEds_len];simp only;omega⟩,?_⟩
   exact ⟨_,ax,rfl⟩
  ·rw [if_neg c8] at h
   refine ⟨dEds es,false,?_,by rw [if_pos (by omega)];exact ⟨rfl,dEds_get h⟩⟩
   refine ev_go (P:=Tryz.prog) tt tt_ok 5000 24 [.tmp 4,.tmp 5] Tryz.func258 rfl Tryz.ntmps258 rfl (Nat.le_of_ble_eq_true rfl) (fun E9 w9 hn9 hm9=>?_)
   refine br (fun c=>absurd (by simpa using c) c7) (fun _=>?_)
   refine br (fun c=>absurd (by simpa using c) c8) (fun _=>?_)
   exact ⟨_,ax,rfl⟩
 obtain ⟨l,b,hE,hl⟩:=hedges
 by_cases c:kind < 7
 ·rw [if_pos c] at hl hU
  obtain ⟨rfl,hl⟩:=hl
  subst hU
  obtain ⟨en,eb,ea,et,elb,ew,eck,ecn,ese,eca,rfl⟩:=hd
  refine ev_go (P:=Tryz.prog) tt tt_ok 5000 38 [.cell 10 49,.tmp 11] Tryz.func201 rfl Tryz.ntmps201 rfl (Nat.le_of_ble_eq_true rfl) (fun E9 w9 hn9 hm9=>?_)
  refine call_p en258 (hE) ax rfl ?_
  refine ⟨_,⟨by omega,hl⟩,?_⟩
  exact ⟨_,ax,rfl⟩
 ·rw [if_neg c] at hl hU
  obtain ⟨rfl,hl⟩:=hl
  subst hU
  obtain ⟨en,eb,ea,et,elb,ew,eck,ecn,ese,eca,rfl⟩:=hd
  refine ev_go (P:=Tryz.prog) tt tt_ok 5000 38 [.cell 10 49,.tmp 11] Tryz.func201 rfl Tryz.ntmps201 rfl (Nat.le_of_ble_eq_true rfl) (fun E9 w9 hn9 hm9=>?_)
  refine call_p en258 (hE) ax rfl ?_
  refine ⟨_,⟨by omega,hl⟩,?_⟩
  refine drawG_s mo (by decide +kernel) ?_
  refine callD_p en132 (hj) ax rfl ?_
  exact ⟨_,ax,rfl⟩
end
theorem ehidden_spec (e:Ed):EvP Tryz.prog 209 [.agg (dEd e)] (.agg (dVal (hidV e))):=by
 obtain ⟨en,eb,ea,et,elb,ew,eck,ecn,ese,eca⟩:=e
 refine ev_go (P:=Tryz.prog) tt tt_ok 5000 6 [.cell 2 82] Tryz.func209 rfl Tryz.ntmps209 rfl (Nat.le_of_ble_eq_true rfl) (fun E9 w9 hn9 hm9=>?_)
 exact ⟨_,ax,rfl⟩
abbrev ehdSt (a:ByteArray) (at':Nat) (m:Int) (e:Nat):St:=⟨[(0,⟨[],.v (.string a)⟩),(5,⟨[],.v (.int .i64 at')⟩),(8,⟨[],.v (.int .i64 m)⟩),(9,⟨[],.v (.int .i64 e)⟩)],[],[]⟩
theorem ehead_spec (a:ByteArray) (ha:a.size≤1099511627776) (m:Int) (hm:m≤9223372036854775807):EvP Tryz.prog 260 [.v (.string a),.v (.int .i64 m)] (.v (.string (ba (headL m.toNat (tx a))))):=by
 refine ev_go (P:=Tryz.prog) tt tt_ok 5000 28 [.tmp 4] Tryz.func260 rfl Tryz.ntmps260 rfl (Nat.le_of_ble_eq_true rfl) (fun E9 w9 hn9 hm9=>?_)
 refine loop_i (fun j st=>∃ e at':Nat,st=ehdSt a at' m e∧(e:Int)≤max m 0∧at' ≤ a.size∧(tx a).take at' ++ headL (m.toNat - e) ((tx a).drop at')=headL m.toNat (tx a)∧j=m.toNat - e) m.toNat (ehdSt a 0 m 0) (weak_mk ⟨_,rfl⟩ wA rfl rfl rfl (by repeat' (first | exact trivial | exact we_rfl rfl | exact we_int rfl | refine ⟨⟨_,rfl,?_⟩,?_⟩))) ⟨0,0,rfl,by omega,by omega,by simp,by omega⟩ ?_
 rintro j st ⟨e,at',rfl,he,h1,hE,rfl⟩
 have htl:=tx_len a
 have hret:headL (m.toNat - e) ((tx a).drop at')=[]→a.extract 0 at'=ba (headL m.toNat (tx a)):=fun h=>by
  rw [h,List.append_nil] at hE
  rw [← hE]
  exact ba_ext (tx_take a at')
 refine br (fun hL=>?_) (fun hL=>?_)
 rotate_left
 ·have hge:m.toNat - e=0:=by have:=of_decide_eq_false hL;omega
  refine ⟨⟨by omega,by omega,by omega⟩,?_⟩
  exact (congrArg (fun z=>DV.v (.string z)) (hret (by rw [hge];rfl)):_=_)
 have hlt:(e:Int) < m:=of_decide_eq_true hL
 refine br (fun c=>?_) (fun c=>?_)
 ·have c:at'=a.size:=by have:=of_decide_eq_true c;omega
  refine ⟨⟨by omega,by omega,by omega⟩,?_⟩
  exact (congrArg (fun z=>DV.v (.string z)) (hret (by rw [List.drop_of_length_le (by omega),headL_nil])):_=_)
 have c:at' < a.size:=by have:=of_decide_eq_false c;omega
 have hua:=unit_spec a at' ha h1
 have hne:(tx a).drop at' ≠ []:=fun h=>by
  have:=congrArg List.length h
  rw [List.length_drop,List.length_nil] at this
  omega
 have hup:=unN_pos hne
 rw [List.length_drop] at hup
 obtain ⟨k,hk⟩:∃ k,m.toNat - e=k + 1:=⟨m.toNat - e - 1,by omega⟩
 rw [hk,show headL (k + 1) ((tx a).drop at')=((tx a).drop at').take (unN ((tx a).drop at')) ++ headL k (((tx a).drop at').drop (unN ((tx a).drop at'))) from rfl,← List.append_assoc,List.drop_drop,← List.take_add] at hE
 generalize unN ((tx a).drop at')=w at hua hup hE
 refine call_e en290 rfl hua ax (fun q hq=>?_)
 obtain ⟨z1,rfl⟩:=hq
 have hw:IntKind.i64.wrap ((at':Int) + w)=((at' + w:Nat):Int):=by
  rw [wrap64 (by omega) (by omega)]
  omega
 have he1:IntKind.i64.wrap ((e:Int) + 1)=((e + 1:Nat):Int):=by
  rw [wrap64 (by omega) (by omega)]
  omega
 exact ⟨ehdSt a (at' + w) m (e + 1),(weak_mk ⟨_,rfl⟩ wA rfl rfl rfl (by repeat' (first | exact trivial | exact we_rfl rfl | exact we_int hw | exact we_int he1 | refine ⟨⟨_,rfl,?_⟩,?_⟩))),m.toNat - (e + 1),by omega,e + 1,at' + w,rfl,by omega,by omega,by rw [show m.toNat - (e + 1)=k by omega];exact hE,rfl⟩
theorem ecoarse_spec (e:Ed) (v:Val) (hn : -9223372036854775808≤v.n∧v.n≤9223372036854775807) (hs:v.wt≤1099511627776) (hc : -9223372036854775808≤e.cn∧e.cn≤9223372036854775807) :
  EvP Tryz.prog 208 [.agg (dEd e),.agg (dVal v)] (.agg (dVal (coarseV e v))):=by
 have hw:v.s.size≤1099511627776∧v.ks.length≤1099511627776:=by
  obtain ⟨k,n,s,ks⟩:=v
  have:=wtVs_len ks
  rw [Val.wt] at hs
  show s.size≤_∧ks.length≤_
  omega
 have hf:=floor_spec v.n e.cn hn hc
 have hh:=ehead_spec v.s hw.1 e.cn hc.2
 have hhid:=ehidden_spec e
 have hA:e.ck=1→v.k=2→(floorV v.n e.cn).2=true→coarseV e v = .mk 10 (floorV v.n e.cn).1 emptyB []:=fun h1 h2 h3=>by
  unfold coarseV
  rw [if_pos ⟨h1,h2,h3⟩]
 have hB:e.ck=2→v.k=3→coarseV e v = .mk 11 0 (ba (headL e.cn.toNat (tx v.s))) []:=fun h1 h2=>by
  unfold coarseV
  rw [if_neg (by omega),if_pos ⟨h1,h2⟩]
 have hC:e.ck=3→v.k=5→coarseV e v = .mk 12 v.ks.length emptyB []:=fun h1 h2=>by
  unfold coarseV
  rw [if_neg (by omega),if_neg (by omega),if_pos ⟨h1,h2⟩]
 have hD:¬ (e.ck=1∧v.k=2∧(floorV v.n e.cn).2=true)→¬ (e.ck=2∧v.k=3)→¬ (e.ck=3∧v.k=5)→coarseV e v=hidV e:=fun h1 h2 h3=>by
  unfold coarseV
  rw [if_neg h1,if_neg h2,if_neg h3]
 generalize coarseV e v=C at hA hB hC hD ⊢
 generalize hH:hidV e=HV at hhid hD
 obtain ⟨hvk,hvn,hvs,hvl⟩:=HV
 clear hH
 obtain ⟨en,eb,ea,et,elb,ew,eck,ecn,ese,eca⟩:=e
 obtain ⟨k,n,s,ks⟩:=v
 simp only [Val.k,Val.n,Val.s,Val.ks] at hA hB hC hD hf hh hw
 have hdl:=dVals_len ks
 generalize floorV n ecn=fl at hf hA hD
 obtain ⟨fz,fb⟩:=fl
 unfold floorD at hf
 simp only at hA hD
 generalize headL ecn.toNat (tx s)=H at hh hB
 refine ev_go (P:=Tryz.prog) tt tt_ok 5000 57 [.cell 4 82] Tryz.func208 rfl Tryz.ntmps208 rfl (Nat.le_of_ble_eq_true rfl) (fun E9 w9 hn9 hm9=>?_)
 refine br (fun c=>?_) (fun c=>?_)
 ·have c:eck=1∧k=2:=by simpa [pickB_and] using c
  refine call_p en261 (hf) ax rfl ?_
  cases fb with
  | true=>
   rw [hA c.1 c.2 rfl]
   exact ⟨_,ax,rfl⟩
  | false=>
   rw [hD (by simp) (by omega) (by omega)]
   refine call_p en209 (hhid) ax rfl ?_
   exact ⟨_,ax,rfl⟩
 have c1:¬ (eck=1∧k=2):=by simpa [pickB_and] using c
 refine br (fun c=>?_) (fun c=>?_)
 ·have c:eck=2∧k=3:=by simpa [pickB_and] using c
  refine call_p en260 (hh) ax rfl ?_
  rw [hB c.1 c.2]
  exact ⟨_,ax,rfl⟩
 have c2:¬ (eck=2∧k=3):=by simpa [pickB_and] using c
 refine br (fun c=>?_) (fun c=>?_)
 ·have c:eck=3∧k=5:=by simpa [pickB_and] using c
  rw [hC c.1 c.2,← hdl]
  exact ⟨_,ax,rfl⟩
 have c3:¬ (eck=3∧k=5):=by simpa [pickB_and] using c
 rw [hD (fun h=>c1 ⟨h.1,h.2.1⟩) c2 c3]
 refine call_p en209 (hhid) ax rfl ?_
 exact ⟨_,ax,rfl⟩
end Go.Proofs.YtbfdbhechmhpoaaGreat

set_option maxRecDepth 100000
namespace Go.Proofs.YtbfdbhechmhpoaaGreat
open Go Go.RowKit Dv Tryz
end Go.Proofs.YtbfdbhechmhpoaaGreat

set_option maxRecDepth 100000
namespace Go.Proofs.YtbfdbhechmhpoaaGreat
open Go Go.RowKit Dv Tryz
section
variable {L:Nat} {ND:List Nd} (hok:∀ n∈ND,NdOK L ND.length n)
include hok
end
section
variable {L:Nat} {ND:List Nd} (hok:∀ n∈ND,NdOK L ND.length n)
include hok
end
end Go.Proofs.YtbfdbhechmhpoaaGreat

namespace Go.Proofs.YtbfdbhechmhpoaaGreat
namespace Dv
open Go Go.RowKit
section
variable {X:Ctx} {st:St} {k:List It} {E:En} {a:Act} {w:World}
end
end Dv
end Go.Proofs.YtbfdbhechmhpoaaGreat

namespace Go.Proofs.YtbfdbhechmhpoaaGreat
namespace Dv
open Go Go.RowKit
section
variable {X:Ctx} {st:St} {k:List It} {E:En} {a:Act} {w:World}
end
end Dv
end Go.Proofs.YtbfdbhechmhpoaaGreat

set_option maxRecDepth 100000
namespace Go.Proofs.YtbfdbhechmhpoaaGreat
open Go Go.RowKit Dv Tryz
end Go.Proofs.YtbfdbhechmhpoaaGreat

set_option maxRecDepth 100000
namespace Go.Proofs.YtbfdbhechmhpoaaGreat
open Go Go.RowKit Dv Tryz
end Go.Proofs.YtbfdbhechmhpoaaGreat

set_option maxRecDepth 100000
namespace Go.Proofs.YtbfdbhechmhpoaaGreat
open Go Go.RowKit Dv Tryz
end Go.Proofs.YtbfdbhechmhpoaaGreat

set_option maxRecDepth 100000
namespace Go.Proofs.YtbfdbhechmhpoaaGreat
open Go Go.RowKit Dv Tryz
section
variable (a b:Nat) (A B:List (List DV)) (rt:Int) {ND:List Nd} {L:Nat} (hok:∀ n∈ND,NdOK L ND.length n)
include hok
end
end Go.Proofs.YtbfdbhechmhpoaaGreat

set_option maxRecDepth 100000
namespace Go.Proofs.YtbfdbhechmhpoaaGreat
open Go Go.RowKit Dv Tryz
abbrev s24St (a b:Val) (e:Nat):St:=⟨[(2,⟨[],.loc 0 0⟩),(3,⟨[],.loc 1 0⟩),(5,⟨[],.v (.int .i64 e)⟩)],[dVal a,dVal b],[]⟩
theorem same24_spec:∀ (k:Nat) (a:Val),a.wt≤k→a.wt≤1099511627776→∀ b:Val,EvP Tryz.prog 110 [.agg (dVal a),.agg (dVal b)] (.v (.bool (sameV a b)))
 | 0,v,h,_=>by have:=v.wt_pos;omega
 | k + 1,.mk q n s ks,h,hb=>fun b=>by
  have ih:=same24_spec k
  rw [Val.wt] at h hb
  obtain ⟨bk,bn,bs,bl⟩:=b
  have hal:=wtVs_len ks
  have h1:=dVals_len ks
  have h2:=dVals_len bl
  have hS:sameV (.mk q n s ks) (.mk bk bn bs bl)=(decide (q=bk) && decide (n=bn) && decide (s=bs) && sameVs ks bl):=by rw [sameV]
  refine ev_go (P:=Tryz.prog) tt tt_ok 5000 53 [.tmp 4] Tryz.func110 rfl Tryz.ntmps110 rfl (Nat.le_of_ble_eq_true rfl) (fun E9 w9 hn9 hm9=>?_)
  refine br (fun c=>?_) (fun c=>?_)
  ·have c:¬ (q=bk∧n=bn∧s=bs∧ks.length=bl.length):=by
    have:=c;simp [pickB_or,h1,h2] at this
    intro hh;obtain ⟨a1,a2,a3,a4⟩:=hh
    simp [a1,a2,a3,a4] at this
   refine (congrArg (fun b=>DV.v (.bool b)) ?_:_=_)
   rw [hS]
   by_cases hl:ks.length=bl.length
   ·symm
    rw [Bool.and_eq_false_iff]
    left
    simp only [Bool.and_eq_false_iff,decide_eq_false_iff_not]
    by_cases a1:q=bk
    ·by_cases a2:n=bn
     ·right;exact fun a3=>c ⟨a1,a2,a3,hl⟩
     ·left;right;exact a2
    ·left;left;exact a1
   ·rw [sameVs_len hl,Bool.and_false]
  ·have c:q=bk∧n=bn∧s=bs∧ks.length=bl.length:=by
    have:=c;simp [pickB_or,h1,h2] at this
    obtain ⟨⟨⟨a1,a2⟩,a3⟩,a4⟩:=this
    exact ⟨a1,a2,a3,by omega⟩
   obtain ⟨rfl,rfl,rfl,hl⟩:=c
   simp only [decide_true,Bool.true_and] at hS
   rw [hS]
   refine loop_i (fun j st=>∃ e:Nat,st=s24St (.mk q n s ks) (.mk q n s bl) e∧e≤ks.length∧sameVs ks bl=sameVs (ks.drop e) (bl.drop e)∧j=ks.length - e) ks.length
    (s24St (.mk q n s ks) (.mk q n s bl) 0) (weak_mk ⟨_,rfl⟩ wA rfl rfl rfl wB) ⟨0,rfl,by omega,rfl,by omega⟩ ?_
   rintro _ st ⟨e,rfl,he,heq,rfl⟩
   refine br (fun h=>?_) (fun h=>?_)
   ·have hlt:e < ks.length:=by simpa [h1] using h
    obtain ⟨x,hx⟩:∃ x,ks[e]? = some x:=⟨_,List.getElem?_eq_getElem hlt⟩
    obtain ⟨y,hy⟩:∃ y,bl[e]? = some y:=⟨_,List.getElem?_eq_getElem (hl ▸ hlt)⟩
    rw [drop_cons hx,drop_cons hy,sameVs] at heq
    have hxw:=wtVs_mem (List.mem_of_getElem? hx)
    have hev:=ih x (by omega) (by omega) y
    obtain ⟨xk,xn,xs,xl⟩:=x
    obtain ⟨yk,yn,ys,yl⟩:=y
    refine drawG_i (fun _=>false) mo (by decide +kernel) ?_
    refine ⟨_,⟨by omega,dVals_get hx⟩,?_⟩
    refine ⟨_,⟨by omega,dVals_get hy⟩,?_⟩
    refine callD_p en110 (hev) ax rfl ?_
    refine br (fun h=>?_) (fun h=>?_)
    ·have hne:sameV (.mk xk xn xs xl) (.mk yk yn ys yl)=false:=by simpa using h
     refine (congrArg (fun b=>DV.v (.bool b)) ?_:_=_)
     rw [heq,hne,Bool.false_and]
    ·have hne:sameV (.mk xk xn xs xl) (.mk yk yn ys yl)=true:=by simpa using h
     rw [hne,Bool.true_and] at heq
     exact ⟨s24St (.mk q n s ks) (.mk q n s bl) (e + 1),(weak_mk ⟨_,rfl⟩ wA rfl rfl rfl (by repeat' (first | exact trivial | exact we_rfl rfl | exact we_int (nxt hlt (by omega)) | refine ⟨⟨_,rfl,?_⟩,?_⟩))),ks.length - (e + 1),by omega,e + 1,rfl,by omega,heq,rfl⟩
   ·have hge:ks.length≤e:=by simpa [h1] using h
    rw [List.drop_of_length_le (by omega),List.drop_of_length_le (by omega)] at heq
    refine (congrArg (fun b=>DV.v (.bool b)) ?_:_=_)
    rw [heq];simp [sameVs]
theorem same25_spec (a:Val) (ha:a.wt≤1099511627776) (b:Val):EvP Tryz.prog 47 [.agg (dVal a),.agg (dVal b)] (.v (.bool (sameV a b))):=by
 have h:=same24_spec _ a (Nat.le_refl _) ha b
 obtain ⟨q,n,s,ks⟩:=a
 obtain ⟨bk,bn,bs,bl⟩:=b
 refine ev_go (P:=Tryz.prog) tt tt_ok 5000 8 [.tmp 4] Tryz.func47 rfl Tryz.ntmps47 rfl (Nat.le_of_ble_eq_true rfl) (fun E9 w9 hn9 hm9=>?_)
 refine call_p en110 (h) ax rfl ?_
 exact (rfl:_=_)
section
variable (a b:Nat) (A B:List (List DV)) (rt:Int) {ND:List Nd} {L:Nat} (hok:∀ n∈ND,NdOK L ND.length n)
include hok
end
end Go.Proofs.YtbfdbhechmhpoaaGreat

set_option maxRecDepth 100000
namespace Go.Proofs.YtbfdbhechmhpoaaGreat
open Go Go.RowKit Dv Tryz
end Go.Proofs.YtbfdbhechmhpoaaGreat

set_option maxRecDepth 100000
namespace Go.Proofs
open Go.Shelf
end Go.Proofs

set_option maxRecDepth 100000
namespace Go.Proofs.YtbfdbhechmhpoaaGreat
open Go Go.RowKit Go.Lib Dv Tryz
end Go.Proofs.YtbfdbhechmhpoaaGreat

set_option maxRecDepth 100000
namespace Go.Proofs.YtbfdbhechmhpoaaGreat
open Go Go.RowKit Dv Tryz
end Go.Proofs.YtbfdbhechmhpoaaGreat

set_option maxRecDepth 100000
namespace Go.Proofs.YtbfdbhechmhpoaaGreat
open Go Go.RowKit Dv Tryz
end Go.Proofs.YtbfdbhechmhpoaaGreat

set_option maxRecDepth 100000
namespace Go.Proofs.YtbfdbhechmhpoaaGreat
open Go Go.RowKit Dv Tryz
end Go.Proofs.YtbfdbhechmhpoaaGreat

set_option maxRecDepth 100000
set_option maxHeartbeats 4000000
namespace Go.Proofs.YtbfdbhechmhpoaaGreat
open Go Go.RowKit Dv Tryz
section
variable (lv:List Wd) (f:Nat→Nat→Bool) (ND:List Nd) (z:Int) (hL:LatOK f lv.length) (hn:lv.length≤32) (hok:∀ n∈ND,NdOK lv.length ND.length n) (hsz:∀ n∈ND,n.edges.length≤1099511627776) (obs:Nat) (ho:obs < lv.length) (dep:Nat) (hdep:dep≤64)
include hL hn hok hsz ho hdep
end
end Go.Proofs.YtbfdbhechmhpoaaGreat

set_option maxRecDepth 100000
namespace Go.Proofs.YtbfdbhechmhpoaaGreat
open Go Go.RowKit Dv Tryz
section
variable (lv:List Wd) (f:Nat→Nat→Bool) (ND:List Nd) (root:Nat) (hroot:root < ND.length) (hL:LatOK f lv.length) (hn:lv.length≤32) (hok:∀ n∈ND,NdOK lv.length ND.length n) (hsz:∀ n∈ND,n.edges.length≤1099511627776) (obs:Nat) (ho:obs < lv.length)
include hroot hL hn hok hsz ho
end
end Go.Proofs.YtbfdbhechmhpoaaGreat

set_option maxRecDepth 100000
namespace Go.Proofs.YtbfdbhechmhpoaaGreat
open Go Go.RowKit Dv Tryz
def seenF (ND:List Nd) (f:Nat→Nat→Bool) (n rt:Nat) (o:Int) (v:Val):Option Val:=if 0≤o∧o < n∧fitV ND v rt=true then some (eraseV ND f n o.toNat v rt (botF f n)) else none
def seenD:Option Val→DV
 | some y=>.tup [.agg (dVal y),.v (.bool true)]
 | none=>.tup [.agg (dVal (.mk 0 0 emptyB [])),.v (.bool false)]
section
variable (lv:List Wd) (f:Nat→Nat→Bool) (ND:List Nd) (rt:Nat) (hL:LatOK f lv.length) (hn:lv.length≤32) (hok:∀ n∈ND,NdOK lv.length ND.length n) (hsz:∀ n∈ND,n.edges.length≤1099511627776) (hrn:∀ n∈ND,rngN n)
include hL hn hok hsz hrn
end
end Go.Proofs.YtbfdbhechmhpoaaGreat

set_option maxRecDepth 100000
namespace Go.Proofs.YtbfdbhechmhpoaaGreat
open Go Go.RowKit Dv Tryz
theorem kid_zero {d:Nd} {z:Int} {j:Nat} {e:Ed} (h:toR d (.mk 0 z emptyB []) j=e.to) (h0:0≤e.to) (c:d.kind=8):(0≤z∧z < d.edges.length)∧j=0:=by
 refine ⟨kid_rng h h0 c,?_⟩
 unfold toR at h
 rw [if_neg (by omega),if_neg (by omega),if_neg (by omega),if_pos c] at h
 split at h
 ·rename_i g
  omega
 ·omega
abbrev erPSt (PC LC:List DV) (obs a:Nat) (v:Val) (d:Nd) (o:List Val) (q e:Nat):St:=
 ⟨[(2,⟨[],.v (.int .i64 a)⟩),(4,⟨[],.loc 0 0⟩),(7,⟨[],.loc 1 0⟩),(8,⟨[],.loc 2 0⟩),(9,⟨[],.loc 3 0⟩),(11,⟨[],.loc 4 0⟩),(31,⟨[],.sl 4 (dVals v.ks) none⟩),(32,⟨[],.v (.int .i64 (dVals v.ks).length)⟩),(33,⟨[],.v (.int .i64 e)⟩)],
  [eeD PC LC obs,dVal v,[.v (.int .i64 0),.v (.int .i64 0),.v (.string emptyB),.v (.slice none 0 0)],dNd d,[.v (.int .i64 v.k),.v (.int .i64 v.n),.v (.string v.s),.sl 4 (dVals o) (some 0)]],[⟨q,82,4,none⟩]⟩
theorem eerase_spec {S:Sch} {ND:List Nd} {PC LC:List DV} (hP:PlanR S ND PC) (hR:LatR S.levels.length (leqS S) (nmTx S.levels) LC) (hrn:∀ n∈ND,rngN n) (hsz:∀ n∈ND,n.edges.length≤1099511627776) (obs:Nat) (ho:obs < S.levels.length) :
  ∀ (k:Nat) (v:Val),v.wt≤k→v.wt≤1099511627776→rngW v→∀ (i:Int) (a:Nat),a < S.levels.length→fitV ND v i=true →
   EvP Tryz.prog 131 [.agg (eeD PC LC obs),.v (.int .i64 i),.v (.int .i64 a),.agg (dVal v)] (.agg (dVal (eraseV ND (leqS S) S.levels.length obs v i a)))
 | 0,v,h,_=>by have:=v.wt_pos;omega
 | k + 1,v,h,hb=>fun hr i a ha hfit=>by
  have ih:=eerase_spec hP hR hrn hsz obs ho k
  have hL:=hR.ok
  obtain ⟨d,hF⟩:=fit_facts hP.ok hfit
  obtain ⟨h0,hg⟩:=nodeA_some hF.node
  obtain ⟨j,rfl⟩:∃ j:Nat,i=j:=⟨i.toNat,by omega⟩
  have hg:ND[j]? = some d:=by simpa using hg
  have hmem:=List.mem_of_getElem? hg
  have hN:=hP.ok d hmem
  have hnode:=hP.node j d hg
  have hkid:=fun {m:Nat} {x:Val}=>kids_ok (m:=m) (x:=x) hP.ok hfit hF
  have hdsz:=hsz d hmem
  have hdrn:=hrn d hmem
  have hleaf:=hF.leaf
  have hE:eraseV ND (leqS S) S.levels.length obs v j a = .mk v.k v.n v.s (eraseVs ND (leqS S) S.levels.length obs v.ks d v.n a 0):=by
   obtain ⟨q,z,s,ks⟩:=v
   rw [eraseV,hF.node]
   rfl
  rw [hE]
  have hOl:=eraseVs_len (ND:=ND) (f:=leqS S) (L:=S.levels.length) (obs:=obs) v.ks d v.n a 0
  have hOa:=fun {m:Nat} {x:Val}=>eraseVs_at (ND:=ND) (f:=leqS S) (L:=S.levels.length) (obs:=obs) (ks:=v.ks) (d:=d) (z:=v.n) (a:=a) (j:=0) (m:=m) (x:=x)
  generalize eraseVs ND (leqS S) S.levels.length obs v.ks d v.n a 0=O at hOl hOa ⊢
  obtain ⟨vk,vn,vs,ks⟩:=v
  have hkl:=wtVs_len ks
  have hdl:=dVals_len ks
  rw [Val.wt] at h hb
  have hrk:=rngW_ks hr
  simp only [Val.ks,Val.n,Val.k,Val.s] at hkid hOl hOa hrk hleaf ⊢
  obtain ⟨kind,at',lo,hi,most,names,es⟩:=d
  refine ev_go (P:=Tryz.prog) tt tt_ok 5000 75 [.cell 8 82] Tryz.func131 rfl Tryz.ntmps131 rfl (Nat.le_of_ble_eq_true rfl) (fun E9 w9 hn9 hm9=>?_)
  refine call_p en18 (hnode) ax rfl ?_
  refine loop_i (fun t st=>∃ e q:Nat,st=erPSt PC LC obs a (.mk vk vn vs ks) ⟨kind,at',lo,hi,most,names,es⟩ (O.take e) q e∧q=e∧e≤ks.length∧t=ks.length - e) ks.length (erPSt PC LC obs a (.mk vk vn vs ks) ⟨kind,at',lo,hi,most,names,es⟩ [] 0 0) (weak_bt 5 ⟨0,82,4,none⟩ rfl rfl rfl (by repeat' (first | exact rfl | exact we_rfl rfl | exact we_int rfl | exact we_tok (Nat.le_refl _) rfl | exact we_tok (Nat.le_refl _) rfl | refine ⟨_,_,rfl,?_,?_⟩)) rfl rfl (by repeat' (first | exact trivial | exact we_rfl rfl | exact we_int rfl | exact we_tok (Nat.le_refl _) rfl | refine ⟨⟨_,rfl,?_⟩,?_⟩))) ⟨0,0,by rw [List.take_zero],rfl,by omega,by omega⟩ ?_
  rintro t st ⟨e,q,rfl,hq,he,rfl⟩
  refine br (fun hLt=>?_) (fun hLt=>?_)
  ·have hlt:e < ks.length:=by simpa [hdl,Val.ks] using hLt
   obtain ⟨x,hx⟩:∃ x,ks[e]? = some x:=⟨_,List.getElem?_eq_getElem hlt⟩
   obtain ⟨ed,hK⟩:=hkid hx
   have hm:=List.mem_of_getElem? hx
   have hwx:=wtVs_mem hm
   have hrx:=rngWs_mem hrk hm
   have hxe:=hOa hx
   rw [Nat.zero_add,hK.edge] at hxe
   simp only at hxe
   obtain ⟨h1,h2⟩:=to_in hN hK.mem hK.bare
   have h5:5≤kind:=by
    rcases Int.lt_or_le kind 5 with h5 | h5
    ·have:=hleaf h5
     rw [this] at hlt
     simp at hlt
    ·exact h5
   have hedge:=eedge_spec hR PC obs a ha ⟨kind,at',lo,hi,most,names,es⟩ (.mk vk vn vs ks) e ed hK.edge hK.mem hN h5 (kid_zero hK.to' h1) hdsz
   have hU:=undF_lt hL hN hK.mem ha
   have hsees:=esees_spec hR PC obs (undF (leqS S) S.levels.length ⟨kind,at',lo,hi,most,names,es⟩ ed a) ho hU
   have hco:=ecoarsely_spec hR PC obs a ho ha ⟨kind,at',lo,hi,most,names,es⟩ ed hN hK.mem
   have hcv:=ecoarse_spec ed x (rngW_n hrx) (by omega) (hdrn.2.2 ed hK.mem)
   have hhv:=ehidden_spec ed
   have hrec:=ih x (by omega) (by omega) hrx ed.to (undF (leqS S) S.levels.length ⟨kind,at',lo,hi,most,names,es⟩ ed a) hU hK.fit
   have hOl':(O.take e).length=e:=by rw [List.length_take];omega
   have hdOl:(dVals (O.take e)).length=e:=by rw [dVals_len,hOl']
   have hend:∀ y:Val,O[e]? = some y→dVals (O.take e) ++ [dVal y]=dVals (O.take (e + 1)):=fun y hy=>dVals_snoc hy
   rw [howF_eq] at hxe
   generalize undF (leqS S) S.levels.length ⟨kind,at',lo,hi,most,names,es⟩ ed a=U at hedge hsees hrec hxe
   generalize leqS S U obs=b1 at hsees hxe
   generalize hb2:leqS S (jnF (leqS S) S.levels.length a ed.seen.toNat) obs=b2 at hco hxe
   generalize hdc:decide (ed.ck≠0)=DC at hco
   generalize eraseV ND (leqS S) S.levels.length obs x ed.to U=Y1 at hrec hxe
   generalize coarseV ed x=Y2 at hcv hxe
   generalize hidV ed=Y3 at hhv hxe
   obtain ⟨xk,xn,xs,xks⟩:=x
   obtain ⟨y1k,y1n,y1s,y1ks⟩:=Y1
   obtain ⟨y2k,y2n,y2s,y2ks⟩:=Y2
   obtain ⟨y3k,y3n,y3s,y3ks⟩:=Y3
   obtain ⟨en,eb,ea,et,elb,ew,eck,ecn,ese,eca⟩:=ed
   refine ⟨_,⟨by omega,dVals_get hx⟩,?_⟩
   refine call_p en201 (hedge) ax rfl ?_
   refine call_p en202 (hsees) ax rfl ?_
   cases b1 with
   | true=>
    simp only [reduceIte] at hxe
    have hsn:=hend _ hxe
    refine call_p en131 (hrec) ax rfl ?_
    refine ⟨by rw [hdOl,hq],⟨by simp [maxLen,hdOl];omega,by simp [hdOl];omega⟩,?_⟩
    exact ⟨erPSt PC LC obs a (.mk vk vn vs ks) ⟨kind,at',lo,hi,most,names,es⟩ (O.take (e + 1)) (q + 1) (e + 1),(weak_b 5 rfl (by repeat' (first | exact rfl | exact we_rfl rfl | exact we_int (nxt hlt (by omega)) | exact we_sl hsn rfl | refine ⟨_,_,rfl,?_,?_⟩)) rfl rfl rfl (by repeat' (first | exact trivial | exact we_rfl rfl | exact we_int (nxt hlt (by omega)) | exact we_sl hsn rfl | refine ⟨⟨_,rfl,?_⟩,?_⟩))),ks.length - (e + 1),by omega,e + 1,q + 1,rfl,by omega,by omega,rfl⟩
   | false=>
    cases DC with
    | false=>
     have hck:eck=0:=by simpa using of_decide_eq_false hdc
     simp [hck] at hxe
     have hsn:=hend _ hxe
     refine call_p en203 (hco) ax rfl ?_
     refine call_p en209 (hhv) ax rfl ?_
     refine ⟨by rw [hdOl,hq],⟨by simp [maxLen,hdOl];omega,by simp [hdOl];omega⟩,?_⟩
     exact ⟨erPSt PC LC obs a (.mk vk vn vs ks) ⟨kind,at',lo,hi,most,names,es⟩ (O.take (e + 1)) (q + 1) (e + 1),(weak_b 5 rfl (by repeat' (first | exact rfl | exact we_rfl rfl | exact we_int (nxt hlt (by omega)) | exact we_sl hsn rfl | refine ⟨_,_,rfl,?_,?_⟩)) rfl rfl rfl (by repeat' (first | exact trivial | exact we_rfl rfl | exact we_int (nxt hlt (by omega)) | exact we_sl hsn rfl | refine ⟨⟨_,rfl,?_⟩,?_⟩))),ks.length - (e + 1),by omega,e + 1,q + 1,rfl,by omega,by omega,rfl⟩
    | true=>
     have hck:=of_decide_eq_true hdc
     cases b2 with
     | false=>
      simp at hxe
      have hsn:=hend _ hxe
      refine call_p en203 (hco) ax rfl ?_
      refine call_p en209 (hhv) ax rfl ?_
      refine ⟨by rw [hdOl,hq],⟨by simp [maxLen,hdOl];omega,by simp [hdOl];omega⟩,?_⟩
      exact ⟨erPSt PC LC obs a (.mk vk vn vs ks) ⟨kind,at',lo,hi,most,names,es⟩ (O.take (e + 1)) (q + 1) (e + 1),(weak_b 5 rfl (by repeat' (first | exact rfl | exact we_rfl rfl | exact we_int (nxt hlt (by omega)) | exact we_sl hsn rfl | refine ⟨_,_,rfl,?_,?_⟩)) rfl rfl rfl (by repeat' (first | exact trivial | exact we_rfl rfl | exact we_int (nxt hlt (by omega)) | exact we_sl hsn rfl | refine ⟨⟨_,rfl,?_⟩,?_⟩))),ks.length - (e + 1),by omega,e + 1,q + 1,rfl,by omega,by omega,rfl⟩
     | true=>
      have hck':¬ eck=0:=hck
      simp [hck'] at hxe
      have hsn:=hend _ hxe
      refine call_p en203 (hco) ax rfl ?_
      refine call_p en208 (hcv) ax rfl ?_
      refine ⟨by rw [hdOl,hq],⟨by simp [maxLen,hdOl];omega,by simp [hdOl];omega⟩,?_⟩
      exact ⟨erPSt PC LC obs a (.mk vk vn vs ks) ⟨kind,at',lo,hi,most,names,es⟩ (O.take (e + 1)) (q + 1) (e + 1),(weak_b 5 rfl (by repeat' (first | exact rfl | exact we_rfl rfl | exact we_int (nxt hlt (by omega)) | exact we_sl hsn rfl | refine ⟨_,_,rfl,?_,?_⟩)) rfl rfl rfl (by repeat' (first | exact trivial | exact we_rfl rfl | exact we_int (nxt hlt (by omega)) | exact we_sl hsn rfl | refine ⟨⟨_,rfl,?_⟩,?_⟩))),ks.length - (e + 1),by omega,e + 1,q + 1,rfl,by omega,by omega,rfl⟩
  ·have hge:e=ks.length:=by have:=hLt;simp [hdl,Val.ks] at this;omega
   subst hge
   rw [List.take_of_length_le (by omega)]
   exact ⟨_,ax,rfl⟩
section
variable {S:Sch} {ND:List Nd} {PC LC:List DV} (hP:PlanR S ND PC) (hlat:EvP Tryz.prog 21 [.pt PC 0] (.pt LC 0)) (hR:LatR S.levels.length (leqS S) (nmTx S.levels) LC) (hrS:∀ n∈ND,rngN n) (hsz:∀ n∈ND,n.edges.length≤1099511627776) (rt:Nat) (hrt:resRoot S=rt)
include hlat hR
theorem elook_spec (o:Int):EvP Tryz.prog 123 [.pt PC 0,.v (.int .i64 o)] (.tup [.agg (eeD PC LC o),.v (.bool (decide (0≤o∧o < S.levels.length)))]):=by
 have hlen:=hR.len
 refine ev_go (P:=Tryz.prog) tt tt_ok 5000 21 [.cell 4 192,.tmp 5] Tryz.func123 rfl Tryz.ntmps123 rfl (Nat.le_of_ble_eq_true rfl) (fun E9 w9 hn9 hm9=>?_)
 refine call_p en21 (hlat) ax rfl ?_
 refine br (fun c=>?_) (fun c=>?_)
 ·have c:0≤o:=by simpa using c
  refine call_p en55 (hlen) ax rfl ?_
  have hd:decide (0≤o∧o < (S.levels.length:Int))=decide (o < (S.levels.length:Int)):=decide_eq_decide.2 ⟨fun h=>h.2,fun h=>⟨c,h⟩⟩
  rw [hd]
  exact ⟨_,ax,rfl⟩
 ·have c:¬ 0≤o:=by simpa using c
  rw [show decide (0≤o∧o < (S.levels.length:Int))=false from decide_eq_false (fun h=>c h.1)]
  exact ⟨_,ax,rfl⟩
include hP hrS hsz hrt
theorem eErase_root (o:Int) (v:Val) (hv:v.wt≤1099511627776) (hrv:rngW v) :
  EvP Tryz.prog 65 [.pt PC 0,.v (.int .i64 o),.agg (dVal v)] (seenD (seenF ND (leqS S) S.levels.length rt o v)):=by
 have hlk:=elook_spec hlat hR o
 have hroot:=hP.root
 rw [hrt] at hroot
 have hbot:=hR.bot
 have hf:=tfits_spec hP _ v (Nat.le_refl _) hv rt
 have hs:=fun (obs:Nat) (ho:obs < S.levels.length)=>eerase_spec hP hR hrS hsz obs ho _ v (Nat.le_refl _) hv hrv rt (botF (leqS S) S.levels.length) (botF_lt hR.ok)
 have hS:seenF ND (leqS S) S.levels.length rt o v=if 0≤o∧o < S.levels.length∧fitV ND v rt=true then some (eraseV ND (leqS S) S.levels.length o.toNat v rt (botF (leqS S) S.levels.length)) else none:=rfl
 generalize seenF ND (leqS S) S.levels.length rt o v=SF at hS ⊢
 generalize fitV ND v rt=F at hf hs hS
 obtain ⟨k,n,s,ks⟩:=v
 by_cases ho:0≤o∧o < S.levels.length
 ·obtain ⟨ob,rfl⟩:∃ n:Nat,o=n:=⟨_,(Int.toNat_of_nonneg ho.1).symm⟩
  have hs:=hs ob (by omega)
  rw [Int.toNat_natCast] at hS
  rw [show decide (0≤(ob:Int)∧(ob:Int) < (S.levels.length:Int))=true from decide_eq_true ho] at hlk
  generalize eraseV ND (leqS S) S.levels.length ob (.mk k n s ks) rt (botF (leqS S) S.levels.length)=Y at hs hS
  generalize botF (leqS S) S.levels.length=bt at hbot hs
  obtain ⟨yk,yn,ys,yks⟩:=Y
  refine ev_go (P:=Tryz.prog) tt tt_ok 5000 35 [.cell 6 82,.tmp 7] Tryz.func65 rfl Tryz.ntmps65 rfl (Nat.le_of_ble_eq_true rfl) (fun E9 w9 hn9 hm9=>?_)
  refine call_p en123 (hlk) ax rfl ?_
  refine drawG_i (fun _=>false) mo (by decide +kernel) ?_
  refine callD_p en19 (hroot) ax rfl ?_
  refine callD_p en56 (hf) ax rfl ?_
  cases F with
  | true=>
   have hs:=hs rfl
   rw [if_pos ⟨by omega,by omega,rfl⟩] at hS
   rw [hS]
   refine drawG_s mo (by decide +kernel) ?_
   refine callD_p en19 (hroot) ax rfl ?_
   refine callD_p en115 (hbot) ax rfl ?_
   refine callD_p en131 (hs) ax rfl ?_
   exact ⟨_,ax,rfl⟩
  | false=>
   rw [if_neg (by simp)] at hS
   rw [hS]
   exact ⟨_,ax,rfl⟩
 ·rw [if_neg (fun h=>ho ⟨h.1,h.2.1⟩)] at hS
  rw [hS]
  rw [show decide (0≤o∧o < (S.levels.length:Int))=false from decide_eq_false ho] at hlk
  refine ev_go (P:=Tryz.prog) tt tt_ok 5000 35 [.cell 6 82,.tmp 7] Tryz.func65 rfl Tryz.ntmps65 rfl (Nat.le_of_ble_eq_true rfl) (fun E9 w9 hn9 hm9=>?_)
  refine call_p en123 (hlk) ax rfl ?_
  refine drawG_i (fun _=>false) mo (by decide +kernel) ?_
  exact ⟨_,ax,rfl⟩
end
mutual
def hidN:Val→Nat
 | .mk k _ _ ks=>(if 9≤k∧k≤12 then 1 else 0) + hidNs ks
def hidNs:List Val→Nat
 | []=>0
 | v :: r=>hidN v + hidNs r
end
mutual
theorem hidN_wt:∀ v:Val,64 * hidN v≤v.wt
 | .mk k n s ks=>by
  have:=hidNs_wt ks
  rw [hidN,Val.wt]
  split<;>omega
theorem hidNs_wt:∀ l:List Val,64 * hidNs l≤wtVs l
 | []=>by rw [hidNs,wtVs];omega
 | v :: r=>by
  have:=hidN_wt v
  have:=hidNs_wt r
  rw [hidNs,wtVs];omega
end
theorem hidNs_take {ks:List Val} {e:Nat} {x:Val} (h:ks[e]? = some x):hidNs (ks.take (e + 1))=hidNs (ks.take e) + hidN x:=by
 induction ks generalizing e with
 | nil=>cases h
 | cons y r ih=>
  cases e with
  | zero=>cases h;simp [hidNs]
  | succ e=>
   have:=ih (e:=e) (by simpa using h)
   rw [List.take_succ_cons,List.take_succ_cons,hidNs,hidNs,this]
   omega
theorem hidNs_le {ks:List Val} {e:Nat}:64 * hidNs (ks.take e)≤wtVs ks:=by
 induction ks generalizing e with
 | nil=>simp [hidNs,wtVs]
 | cons y r ih=>
  cases e with
  | zero=>simp [hidNs]
  | succ e=>
   have:=ih (e:=e)
   have:=hidN_wt y
   rw [List.take_succ_cons,hidNs,wtVs]
   omega
abbrev hidSt (v:Val) (m:Nat) (e:Nat):St:=⟨[(1,⟨[],.loc 0 0⟩),(3,⟨[],.v (.int .i64 m)⟩),(15,⟨[],.sl 4 (dVals v.ks) none⟩),(16,⟨[],.v (.int .i64 (dVals v.ks).length)⟩),(17,⟨[],.v (.int .i64 e)⟩)],[dVal v],[]⟩
theorem eHidden_spec:∀ (k:Nat) (v:Val),v.wt≤k→v.wt≤1099511627776→EvP Tryz.prog 67 [.agg (dVal v)] (.v (.int .i64 (hidN v:Nat)))
 | 0,v,h,_=>by have:=v.wt_pos;omega
 | k + 1,.mk q z s ks,h,hb=>by
  have ih:=eHidden_spec k
  rw [Val.wt] at h hb
  have hkl:=wtVs_len ks
  have hdl:=dVals_len ks
  have hH:hidN (.mk q z s ks)=(if 9≤q∧q≤12 then 1 else 0) + hidNs ks:=by rw [hidN]
  rw [hH]
  generalize hq:(if 9≤q∧q≤12 then 1 else 0)=c0
  have hc1:c0≤1:=by subst hq;split<;>omega
  have hle:=fun e=>hidNs_le (ks:=ks) (e:=e)
  refine ev_go (P:=Tryz.prog) tt tt_ok 5000 27 [.tmp 2] Tryz.func67 rfl Tryz.ntmps67 rfl (Nat.le_of_ble_eq_true rfl) (fun E9 w9 hn9 hm9=>?_)
  refine br (fun c=>?_) (fun c=>?_)
  ·have c:9≤q∧q≤12:=by simpa [pickB_and] using c
   rw [if_pos c] at hq
   subst hq
   refine loop_i (fun t st=>∃ e m:Nat,st=hidSt (.mk q z s ks) m e∧m=1 + hidNs (ks.take e)∧e≤ks.length∧t=ks.length - e) ks.length (hidSt (.mk q z s ks) 1 0) (weak_b 1 rfl (by repeat' (first | exact rfl | exact we_rfl rfl | exact we_int rfl | refine ⟨_,_,rfl,?_,?_⟩)) rfl rfl rfl (by repeat' (first | exact trivial | exact we_rfl rfl | exact we_int rfl | refine ⟨⟨_,rfl,?_⟩,?_⟩))) ⟨0,1,rfl,by simp [hidNs],by omega,by omega⟩ ?_
   rintro t st ⟨e,m,rfl,hm,he,rfl⟩
   have hle:=hle e
   refine br (fun hLt=>?_) (fun hLt=>?_)
   ·have hlt:e < ks.length:=by simpa [hdl,Val.ks] using hLt
    obtain ⟨x,hx⟩:∃ x,ks[e]? = some x:=⟨_,List.getElem?_eq_getElem hlt⟩
    have hwx:=wtVs_mem (List.mem_of_getElem? hx)
    have hrec:=ih x (by omega) (by omega)
    have htk:=hidNs_take hx
    have hxw:=hidN_wt x
    generalize hidN x=hx0 at hrec htk hxw
    obtain ⟨xk,xn,xs,xks⟩:=x
    refine ⟨_,⟨by omega,dVals_get hx⟩,?_⟩
    refine call_p en67 (hrec) ax rfl ?_
    have hw:IntKind.i64.wrap ((m:Int) + hx0)=((m + hx0:Nat):Int):=by
     rw [wrap64 (by omega) (by omega)]
     omega
    exact ⟨hidSt (.mk q z s ks) (m + hx0) (e + 1),(weak_b 1 rfl (by repeat' (first | exact rfl | exact we_rfl rfl | exact we_int hw | exact we_int (nxt hlt (by omega)) | refine ⟨_,_,rfl,?_,?_⟩)) rfl rfl rfl (by repeat' (first | exact trivial | exact we_rfl rfl | exact we_int hw | exact we_int (nxt hlt (by omega)) | refine ⟨⟨_,rfl,?_⟩,?_⟩))),ks.length - (e + 1),by omega,e + 1,_,rfl,by omega,by omega,rfl⟩
   ·have hge:e=ks.length:=by have:=hLt;simp [hdl,Val.ks] at this;omega
    subst hge
    rw [List.take_length] at hm
    rw [← hm]
    exact (rfl:_=_)
  ·have c:¬ (9≤q∧q≤12):=by simpa [pickB_and] using c
   rw [if_neg c] at hq
   subst hq
   refine loop_i (fun t st=>∃ e m:Nat,st=hidSt (.mk q z s ks) m e∧m=0 + hidNs (ks.take e)∧e≤ks.length∧t=ks.length - e) ks.length (hidSt (.mk q z s ks) 0 0) (weak_b 1 rfl (by repeat' (first | exact rfl | exact we_rfl rfl | exact we_int rfl | refine ⟨_,_,rfl,?_,?_⟩)) rfl rfl rfl (by repeat' (first | exact trivial | exact we_rfl rfl | exact we_int rfl | refine ⟨⟨_,rfl,?_⟩,?_⟩))) ⟨0,0,rfl,by simp [hidNs],by omega,by omega⟩ ?_
   rintro t st ⟨e,m,rfl,hm,he,rfl⟩
   have hle:=hle e
   refine br (fun hLt=>?_) (fun hLt=>?_)
   ·have hlt:e < ks.length:=by simpa [hdl,Val.ks] using hLt
    obtain ⟨x,hx⟩:∃ x,ks[e]? = some x:=⟨_,List.getElem?_eq_getElem hlt⟩
    have hwx:=wtVs_mem (List.mem_of_getElem? hx)
    have hrec:=ih x (by omega) (by omega)
    have htk:=hidNs_take hx
    have hxw:=hidN_wt x
    generalize hidN x=hx0 at hrec htk hxw
    obtain ⟨xk,xn,xs,xks⟩:=x
    refine ⟨_,⟨by omega,dVals_get hx⟩,?_⟩
    refine call_p en67 (hrec) ax rfl ?_
    have hw:IntKind.i64.wrap ((m:Int) + hx0)=((m + hx0:Nat):Int):=by
     rw [wrap64 (by omega) (by omega)]
     omega
    exact ⟨hidSt (.mk q z s ks) (m + hx0) (e + 1),(weak_b 1 rfl (by repeat' (first | exact rfl | exact we_rfl rfl | exact we_int hw | exact we_int (nxt hlt (by omega)) | refine ⟨_,_,rfl,?_,?_⟩)) rfl rfl rfl (by repeat' (first | exact trivial | exact we_rfl rfl | exact we_int hw | exact we_int (nxt hlt (by omega)) | refine ⟨⟨_,rfl,?_⟩,?_⟩))),ks.length - (e + 1),by omega,e + 1,_,rfl,by omega,by omega,rfl⟩
   ·have hge:e=ks.length:=by have:=hLt;simp [hdl,Val.ks] at this;omega
    subst hge
    rw [List.take_length] at hm
    rw [← hm]
    exact (rfl:_=_)
end Go.Proofs.YtbfdbhechmhpoaaGreat

set_option maxRecDepth 100000
namespace Go.Proofs.YtbfdbhechmhpoaaGreat
open Go Go.RowKit Dv Tryz
theorem unN_pre {p l:List UInt8} (hp:p <+: l) (hpn:p ≠ []) (ht:p.take (unN l)=l.take (unN l)):unN p=unN l:=by
 have hln:l ≠ []:=by
  rintro rfl
  exact hpn (List.prefix_nil.1 hp)
 obtain ⟨a1,a2⟩:=unN_pos hpn
 obtain ⟨b1,b2⟩:=unN_pos hln
 by_cases h:2≤unN l
 ·exact unN_of_take h ht
 ·by_cases g:2≤unN p
  ·obtain ⟨t,rfl⟩:=hp
   exact (unN_of_take (a:=p ++ t) g (List.take_append_of_le_length a2)).symm
  ·omega
theorem headL_idem (u:Nat) (l:List UInt8):headL u (headL u l)=headL u l:=by
 induction u generalizing l with
 | zero=>rfl
 | succ u ih=>
  cases l with
  | nil=>rw [headL_nil,headL_nil]
  | cons c r=>
   obtain ⟨b1,b2⟩:=unN_pos (l:=c :: r) (by simp)
   have hpre:=headL_pre (u + 1) (c :: r)
   have hE:headL (u + 1) (c :: r)=(c :: r).take (unN (c :: r)) ++ headL u ((c :: r).drop (unN (c :: r))):=rfl
   have hlen:((c :: r).take (unN (c :: r))).length=unN (c :: r):=by rw [List.length_take];omega
   have hne:headL (u + 1) (c :: r) ≠ []:=by
    rw [hE]
    intro e
    have:=congrArg List.length e
    rw [List.length_append,hlen,List.length_nil] at this
    omega
   have htk:(headL (u + 1) (c :: r)).take (unN (c :: r))=(c :: r).take (unN (c :: r)):=by
    rw [hE,List.take_append_of_le_length (by omega),List.take_take,Nat.min_self]
   have hU:=unN_pre hpre hne htk
   have hdr:(headL (u + 1) (c :: r)).drop (unN (c :: r))=headL u ((c :: r).drop (unN (c :: r))):=by
    rw [hE,List.drop_append_of_le_length (by omega),List.drop_of_length_le (by omega),List.nil_append]
   show (headL (u + 1) (c :: r)).take (unN (headL (u + 1) (c :: r))) ++ headL u ((headL (u + 1) (c :: r)).drop (unN (headL (u + 1) (c :: r))))=_
   rw [hU,htk,hdr,ih]
   exact hE.symm
def plainK (v:Val) (k n:Int) (s:ByteArray):Bool:=decide (v.k=k) && decide (v.n=n) && decide (v.s=s) && decide (v.ks.length=0)
def mayF (e:Ed) (d:Nd) (v:Val):Bool:=
 if e.ck=1∧d.kind=2 then
  (if plainK v 9 e.wide emptyB=true then !(floorV d.lo e.cn).2
   else plainK v 10 v.n emptyB && decide (v.n % e.cn=0) && (floorV d.hi e.cn).2 && decide (v.n≤(floorV d.hi e.cn).1) && (!(floorV d.lo e.cn).2 || decide ((floorV d.lo e.cn).1≤v.n)))
 else if e.ck=2∧d.kind=3 then plainK v 11 0 v.s && decide ((v.s.size:Int)≤d.most) && decide (headL e.cn.toNat (tx v.s)=tx v.s)
 else if e.ck=3∧d.kind=5 then plainK v 12 v.n emptyB && decide (0≤v.n) && decide (v.n≤d.most)
 else plainK v 9 e.wide emptyB
def shellF (d:Nd) (v:Val):Bool:=
 if v.k≠d.kind∨v.s≠emptyB∨(d.kind≠8∧v.n≠0) then false
 else if d.kind=5 then decide ((v.ks.length:Int)≤d.most)
 else if d.kind=6 then decide (v.ks.length < 2)
 else if d.kind=7 then decide (v.ks.length=d.edges.length)
 else if v.n < 0∨(d.edges.length:Int)≤v.n then false
 else match d.edges[v.n.toNat]? with
  | none=>false
  | some e=>if e.bare=true then decide (v.ks.length=0) else decide (v.ks.length=1)
section
variable (ND:List Nd) (f:Nat→Nat→Bool) (L obs:Nat)
mutual
def seeV:Val→Int→Nat→Bool
 | .mk k n s ks,i,a=>match nodeA ND i with
  | none=>false
  | some d=>if d.kind < 5 then fitV ND (.mk k n s ks) i else shellF d (.mk k n s ks) && seeVs ks d n a 0
def seeVs:List Val→Nd→Int→Nat→Nat→Bool
 | [],_,_,_,_=>true
 | x :: r,d,z,a,j=>(match edgeN d z j with
  | none=>false
  | some e=>if howF f L obs d e a=2 then seeV x e.to (undF f L d e a) else if howF f L obs d e a=1 then (match nodeA ND e.to with | none=>false | some t=>mayF e t x) else plainK x 9 e.wide emptyB) && seeVs r d z a (j + 1)
end
end
section
variable {ND:List Nd} {f:Nat→Nat→Bool} {L obs:Nat}
theorem seeVs_drop {ks:List Val} {d:Nd} {z:Int} {a j m:Nat} {x:Val} (h:ks[m]? = some x):seeVs ND f L obs (ks.drop m) d z a j=((match edgeN d z j with
  | none=>false
  | some e=>if howF f L obs d e a=2 then seeV ND f L obs x e.to (undF f L d e a) else if howF f L obs d e a=1 then (match nodeA ND e.to with | none=>false | some t=>mayF e t x) else plainK x 9 e.wide emptyB) && seeVs ND f L obs (ks.drop (m + 1)) d z a (j + 1)):=by
 obtain ⟨hm,rfl⟩:=List.getElem?_eq_some_iff.1 h
 rw [List.drop_eq_getElem_cons hm,seeVs]
structure KidE (ND:List Nd) (d:Nd) (z:Int) (j:Nat) (e:Ed):Prop where
 edge:edgeN d z j=some e
 mem:e∈d.edges
 bare:e.bare=false
theorem shell_kid {N:Nat} {d:Nd} (hN:NdOK N ND.length d) (h5:5≤d.kind) {v:Val} (h:shellF d v=true) {m:Nat} (hm:m < v.ks.length):∃ e,KidE ND d v.n m e:=by
 have h8:=hN.k8
 unfold shellF at h
 split at h
 ·cases h
 rename_i hc
 have hc1:v.k=d.kind:=by
  by_cases c:v.k=d.kind
  ·exact c
  ·exact absurd (.inl c) hc
 rcases (show (d.kind=5∨d.kind=6)∨d.kind=7∨d.kind=8 by omega) with c | c | c
 ·obtain ⟨e,he,hb,_⟩:=hN.one c
  refine ⟨e,?_,by rw [he];exact List.mem_singleton_self e,hb⟩
  unfold edgeN
  rw [if_neg (by omega),if_neg (by omega),he]
  rfl
 ·rw [if_neg (by omega),if_neg (by omega),if_pos c,decide_eq_true_iff] at h
  obtain ⟨e,he⟩:∃ e,d.edges[m]? = some e:=⟨_,List.getElem?_eq_getElem (by omega)⟩
  refine ⟨e,?_,List.mem_of_getElem? he,?_⟩
  ·unfold edgeN
   rw [if_pos c,he]
  ·cases hb:e.bare
   ·rfl
   ·have:=hN.bare e (List.mem_of_getElem? he) hb
    omega
 ·rw [if_neg (by omega),if_neg (by omega),if_neg (by omega)] at h
  split at h
  ·cases h
  cases he:d.edges[v.n.toNat]? with
  | none=>rw [he] at h;cases h
  | some e=>
   rw [he] at h
   simp only at h
   refine ⟨e,?_,List.mem_of_getElem? he,?_⟩
   ·unfold edgeN
    rw [if_neg (by omega),if_pos c,he]
   ·cases hb:e.bare
    ·rfl
    ·rw [if_pos hb,decide_eq_true_iff] at h
     omega
theorem floorV_pos {n u:Int} (hu:1≤u):(floorV n u).2=true→(floorV n u).1=n - n % u∧(floorV n u).1 % u=0:=by
 unfold floorV
 rw [if_neg (by omega)]
 split
 ·intro h;cases h
 ·intro _
  refine ⟨rfl,?_⟩
  show (n - n % u) % u=0
  rw [Int.sub_emod]
  simp
theorem plainK_iff {v:Val} {k n:Int} {s:ByteArray}:plainK v k n s=true↔v = .mk k n s []:=by
 unfold plainK
 rw [Bool.and_eq_true,Bool.and_eq_true,Bool.and_eq_true,decide_eq_true_iff,decide_eq_true_iff,decide_eq_true_iff,decide_eq_true_iff,List.length_eq_zero_iff]
 obtain ⟨q,z,t,ks⟩:=v
 rw [Val.mk.injEq]
 constructor
 ·intro ⟨⟨⟨a,b⟩,c⟩,d⟩;exact ⟨a,b,c,d⟩
 ·intro ⟨a,b,c,d⟩;exact ⟨⟨⟨a,b⟩,c⟩,d⟩
theorem plainK_mk (k n:Int) (s:ByteArray):plainK (.mk k n s []) k n s=true:=plainK_iff.2 rfl
theorem floorV_u {n u:Int} (hu:1≤u):floorV n u=if n - n % u < -9223372036854775808 then (0,false) else (n - n % u,true):=by
 unfold floorV
 rw [if_neg (by omega)]
theorem floorV_mono {x y u:Int} (hu:1≤u) (hxy:x≤y) (h:(floorV x u).2=true):(floorV y u).2=true∧(floorV x u).1≤(floorV y u).1:=by
 have hm:x - x % u≤y - y % u:=by
  have h3:=Int.mul_ediv_add_emod x u
  have h4:=Int.mul_ediv_add_emod y u
  have h5:x / u≤y / u:=Int.ediv_le_ediv (by omega) hxy
  have h6:u * (x / u)≤u * (y / u):=Int.mul_le_mul_of_nonneg_left h5 (by omega)
  omega
 rw [floorV_u hu] at h ⊢
 rw [floorV_u hu]
 by_cases c:x - x % u < -9223372036854775808
 ·rw [if_pos c] at h;cases h
 ·rw [if_neg c,if_neg (by omega)]
  exact ⟨rfl,hm⟩
theorem may_coarse {e:Ed} {d:Nd} {N:Nat} (he:EdOK L N e) {v:Val} (hF:FitF ND v e.to d) (hfit:fitV ND v e.to=true):mayF e d (coarseV e v)=true:=by
 have hcn:=he.cn
 have hk:=hF.k
 have hfit:(if d.kind < 5 then leafF d v else kidsB d v && fitVs ND v.ks (kidsL d v))=true:=by
  obtain ⟨q,z,s,ks⟩:=v
  rw [fitV,hF.node] at hfit
  exact hfit
 by_cases c1:e.ck=1∧v.k=2
 ·have hu:=hcn.2.1 c1.1
  rw [if_pos (by omega)] at hfit
  unfold leafF at hfit
  split at hfit
  ·cases hfit
  rw [if_neg (by omega),if_pos (by omega),Bool.and_eq_true,Bool.and_eq_true,decide_eq_true_iff,decide_eq_true_iff,decide_eq_true_iff] at hfit
  obtain ⟨⟨_,hlo⟩,hhi⟩:=hfit
  unfold mayF
  rw [if_pos ⟨c1.1,by omega⟩]
  by_cases hz:(floorV v.n e.cn).2=true
  ·have hcv:coarseV e v = .mk 10 (floorV v.n e.cn).1 emptyB []:=by
    unfold coarseV
    rw [if_pos ⟨c1.1,c1.2,hz⟩]
   rw [hcv,if_neg (by rw [plainK_iff,Val.mk.injEq];omega)]
   show (plainK _ 10 (floorV v.n e.cn).1 emptyB && _ && _ && _ && _)=true
   rw [plainK_mk]
   have h1:=floorV_mono hu hhi hz
   have h2:=(floorV_pos hu hz).2
   have h3:(Val.mk 10 (floorV v.n e.cn).1 emptyB []).n=(floorV v.n e.cn).1:=rfl
   rw [h3,decide_eq_true h2,h1.1,decide_eq_true h1.2]
   cases hl:(floorV d.lo e.cn).2
   ·rfl
   ·have h4:=(floorV_mono hu hlo hl).2
    rw [decide_eq_true h4]
    rfl
  ·have hcv:coarseV e v = .mk 9 e.wide emptyB []:=by
    unfold coarseV
    rw [if_neg (fun h=>hz h.2.2),if_neg (by omega),if_neg (by omega)]
    rfl
   rw [hcv,if_pos (plainK_mk 9 e.wide emptyB)]
   cases hl:(floorV d.lo e.cn).2
   ·rfl
   ·exact absurd (floorV_mono hu hlo hl).1 hz
 by_cases c2:e.ck=2∧v.k=3
 ·have hcv:coarseV e v = .mk 11 0 (ba (headL e.cn.toNat (tx v.s))) []:=by
   unfold coarseV
   rw [if_neg (by omega),if_pos c2]
  rw [if_pos (by omega)] at hfit
  unfold leafF at hfit
  split at hfit
  ·cases hfit
  rw [if_neg (by omega),if_neg (by omega),if_pos (by omega),Bool.and_eq_true,decide_eq_true_iff,decide_eq_true_iff] at hfit
  have h1:=headL_len e.cn.toNat (tx v.s)
  rw [tx_len] at h1
  have h3:=headL_idem e.cn.toNat (tx v.s)
  have h2:(ba (headL e.cn.toNat (tx v.s))).size=(headL e.cn.toNat (tx v.s)).length:=by rw [← tx_len,tx_ba]
  rw [hcv]
  generalize headL e.cn.toNat (tx v.s)=H at h1 h2 h3
  unfold mayF
  rw [if_neg (by omega),if_pos ⟨c2.1,by omega⟩,Bool.and_eq_true,Bool.and_eq_true,decide_eq_true_iff,decide_eq_true_iff]
  refine ⟨⟨plainK_mk 11 0 (ba H),?_⟩,?_⟩
  ·show ((ba H).size:Int)≤_
   omega
  ·show headL e.cn.toNat (tx (ba H))=tx (ba H)
   rw [tx_ba]
   exact h3
 by_cases c3:e.ck=3∧v.k=5
 ·have hcv:coarseV e v = .mk 12 v.ks.length emptyB []:=by
   unfold coarseV
   rw [if_neg (by omega),if_neg c2,if_pos c3]
  rw [if_neg (by omega),Bool.and_eq_true] at hfit
  have h3:=hfit.1
  unfold kidsB at h3
  rw [if_pos (.inl (by omega)),Bool.and_eq_true,Bool.and_eq_true,decide_eq_true_iff,decide_eq_true_iff,if_neg (by omega)] at h3
  have h4:=h3.2
  unfold mayF
  rw [hcv,if_neg (by omega),if_neg (by omega),if_pos ⟨c3.1,by omega⟩]
  show (plainK _ 12 (v.ks.length:Int) emptyB && _ && _)=true
  rw [plainK_mk]
  have h5:(Val.mk 12 v.ks.length emptyB []).n=v.ks.length:=rfl
  rw [h5,decide_eq_true (by omega),decide_eq_true h4]
  rfl
 have hcv:coarseV e v=hidV e:=by
  unfold coarseV
  rw [if_neg (fun h=>c1 ⟨h.1,h.2.1⟩),if_neg c2,if_neg c3]
 unfold mayF
 rw [hcv,if_neg (by omega),if_neg (by omega),if_neg (by omega)]
 exact plainK_mk 9 e.wide emptyB
theorem shell_erase {v:Val} {i:Int} {a:Nat} {d:Nd} (hfit:fitV ND v i=true) (hF:FitF ND v i d) (h5:5≤d.kind) (h8:d.kind≤8):shellF d (eraseV ND f L obs v i a)=true:=by
 obtain ⟨h1,h2,h3⟩:=eraseV_top (ND:=ND) (f:=f) (L:=L) (obs:=obs) v i a
 have h4:=eraseV_len (f:=f) (L:=L) (obs:=obs) v i a hF.node
 have hfit:(if d.kind < 5 then leafF d v else kidsB d v && fitVs ND v.ks (kidsL d v))=true:=by
  obtain ⟨q,z,s,ks⟩:=v
  rw [fitV,hF.node] at hfit
  exact hfit
 rw [if_neg (by omega),Bool.and_eq_true] at hfit
 have hB:=hfit.1
 have hk:=hF.k
 have hp:v.s=emptyB∧(v.n=0∨v.k=8):=by
  have:plainV v=true:=by
   unfold kidsB at hB
   split at hB
   ·rw [Bool.and_eq_true,Bool.and_eq_true] at hB;exact hB.1.1
   split at hB
   ·rw [Bool.and_eq_true,Bool.and_eq_true] at hB;exact hB.1.1
   split at hB
   ·cases hB
   ·rw [Bool.and_eq_true] at hB;exact hB.1
  unfold plainV at this
  rw [Bool.and_eq_true,Bool.or_eq_true,decide_eq_true_iff,decide_eq_true_iff,decide_eq_true_iff] at this
  exact this
 unfold shellF
 rw [h1,h2,h3,h4,if_neg (by
  rintro (h | h | ⟨ha,hb⟩)
  ·exact h hk
  ·exact h hp.1
  ·rcases hp.2 with h | h<;>omega)]
 unfold kidsB at hB
 rcases (show d.kind=5∨d.kind=6∨d.kind=7∨d.kind=8 by omega) with c | c | c | c
 ·rw [if_pos (.inl c),if_neg (by omega),Bool.and_eq_true,decide_eq_true_iff] at hB
  rw [if_pos c]
  exact decide_eq_true hB.2
 ·rw [if_neg (by omega),if_pos c]
  exact decide_eq_true (by have:=hF.opt c;omega)
 ·rw [if_neg (by omega),if_pos c,Bool.and_eq_true,decide_eq_true_iff] at hB
  rw [if_neg (by omega),if_neg (by omega),if_pos c]
  exact decide_eq_true hB.2.symm
 ·obtain ⟨e,ht,he,h0,hlt,hb⟩:=hF.tag c
  rw [if_neg (by omega),if_neg (by omega),if_neg (by omega),if_neg (by omega),he]
  simp only
  have hkl:=(hF.kids h5).1
  have hl0:kidsL d v=if e.bare=true then [] else [e.to]:=by
   unfold kidsL
   rw [if_neg (by omega),if_neg (by omega),ht]
  rw [hl0] at hkl
  by_cases hbb:e.bare=true
  ·rw [if_pos hbb] at hkl ⊢
   exact decide_eq_true hkl.symm
  ·rw [if_neg hbb] at hkl ⊢
   exact decide_eq_true hkl.symm
mutual
theorem erase_see (hok:∀ n∈ND,NdOK L ND.length n):∀ (x:Val) (i:Int) (a:Nat),fitV ND x i=true→seeV ND f L obs (eraseV ND f L obs x i a) i a=true
 | .mk k n s ks,i,a,hx=>by
  obtain ⟨d,hF⟩:=fit_facts hok hx
  have hN:=hok d (List.mem_of_getElem? (nodeA_some hF.node).2)
  have h8:=hN.k8
  have hsh:=fun h5=>shell_erase (f:=f) (L:=L) (obs:=obs) (a:=a) hx hF h5 h8
  rw [eraseV,hF.node] at hsh ⊢
  simp only at hsh ⊢
  rw [seeV,hF.node]
  simp only
  by_cases h5:d.kind < 5
  ·rw [if_pos h5]
   have:=hF.leaf h5
   simp only [Val.ks] at this
   subst this
   rw [eraseVs]
   exact hx
  ·rw [if_neg h5,hsh (by omega),Bool.true_and]
   exact erase_sees hok ks d n a 0 hN (fun m x hx1=>by rw [Nat.zero_add];exact kids_ok hok hx hF hx1)
theorem erase_sees (hok:∀ n∈ND,NdOK L ND.length n):∀ (ks:List Val) (d:Nd) (z:Int) (a j:Nat),NdOK L ND.length d→(∀ m x,ks[m]? = some x→∃ e,KidOK ND d z (j + m) x e) →
  seeVs ND f L obs (eraseVs ND f L obs ks d z a j) d z a j=true
 | [],_,_,_,_,_,_=>by rw [eraseVs,seeVs]
 | x :: r,d,z,a,j,hN,hk=>by
  obtain ⟨e,he⟩:=hk 0 x rfl
  rw [Nat.add_zero] at he
  have ih:=erase_sees hok r d z a (j + 1) hN (fun m x h1=>by
   have:=hk (m + 1) x h1
   rwa [show j + (m + 1)=j + 1 + m by omega] at this)
  obtain ⟨t,hF'⟩:=fit_facts hok he.fit
  rw [eraseVs,seeVs,he.edge]
  simp only
  rw [ih,Bool.and_true]
  by_cases c2:howF f L obs d e a=2
  ·rw [if_pos c2,if_pos c2]
   exact erase_see hok x e.to (undF f L d e a) he.fit
  ·rw [if_neg c2,if_neg c2]
   by_cases c1:howF f L obs d e a=1
   ·rw [if_pos c1,if_pos c1,hF'.node]
    exact may_coarse (hN.edge e he.mem) hF' he.fit
   ·rw [if_neg c1,if_neg c1]
    exact plainK_mk 9 e.wide emptyB
end
theorem howF_top (d:Nd) (e:Ed) (a:Nat) (h:f (undF f L d e a) obs=true):howF f L obs d e a=2:=by
 rw [howF_eq,if_pos h]
mutual
theorem erase_top (hok:∀ n∈ND,NdOK L ND.length n) (hL:LatOK f L) (htop:∀ a,a < L→f a obs=true):∀ (x:Val) (i:Int) (a:Nat),a < L→fitV ND x i=true→eraseV ND f L obs x i a=x
 | .mk k n s ks,i,a,ha,hx=>by
  obtain ⟨d,hF⟩:=fit_facts hok hx
  rw [eraseV,hF.node]
  simp only
  rw [erase_tops hok hL htop ks d n a 0 ha (hok d (List.mem_of_getElem? (nodeA_some hF.node).2)) (fun m x hx1=>by rw [Nat.zero_add];exact kids_ok hok hx hF hx1)]
theorem erase_tops (hok:∀ n∈ND,NdOK L ND.length n) (hL:LatOK f L) (htop:∀ a,a < L→f a obs=true):∀ (ks:List Val) (d:Nd) (z:Int) (a j:Nat),a < L→NdOK L ND.length d→(∀ m x,ks[m]? = some x→∃ e,KidOK ND d z (j + m) x e) →
  eraseVs ND f L obs ks d z a j=ks
 | [],_,_,_,_,_,_,_=>by rw [eraseVs]
 | x :: r,d,z,a,j,ha,hN,hk=>by
  obtain ⟨e,he⟩:=hk 0 x rfl
  rw [Nat.add_zero] at he
  have ih:=erase_tops hok hL htop r d z a (j + 1) ha hN (fun m x h1=>by
   have:=hk (m + 1) x h1
   rwa [show j + (m + 1)=j + 1 + m by omega] at this)
  have hu:=undF_lt hL hN he.mem ha
  rw [eraseVs,he.edge,ih]
  simp only
  rw [if_pos (howF_top d e a (htop _ hu)),erase_top hok hL htop x e.to _ hu he.fit]
end
end
end Go.Proofs.YtbfdbhechmhpoaaGreat

set_option maxRecDepth 100000
namespace Go.Proofs.YtbfdbhechmhpoaaGreat
open Go Go.RowKit Dv Tryz
theorem shellF_567 {d:Nd} {v:Val} (c:d.kind=5∨d.kind=6∨d.kind=7):shellF d v=(decide (v.s=emptyB) && decide (v.k=d.kind) && decide (v.n=0) && (if d.kind=5 then decide ((v.ks.length:Int)≤d.most) else if d.kind=6 then decide (v.ks.length < 2) else decide (v.ks.length=d.edges.length))):=by
 unfold shellF
 by_cases h1:v.s=emptyB<;>by_cases h2:v.k=d.kind<;>by_cases h3:v.n=0
 all_goals (first
  | (rw [if_neg (by rintro (h | h | h);exact h h2;exact h h1;exact h.2 h3)];rw [decide_eq_true h1,decide_eq_true h2,decide_eq_true h3];rcases c with c | c | c<;>simp [c])
  | (rw [if_pos (by first | exact .inr (.inl h1) | exact .inl h2 | exact .inr (.inr ⟨by omega,h3⟩))];simp [h1,h2,h3]))
theorem shellF_8 {d:Nd} {v:Val} (c:d.kind=8):shellF d v=if v.s≠emptyB∨v.k≠8∨v.n < 0∨(d.edges.length:Int)≤v.n then false else match d.edges[v.n.toNat]? with
  | none=>false
  | some e=>(decide (v.ks.length=0) == e.bare) && decide (v.ks.length < 2):=by
 unfold shellF
 rw [c]
 by_cases h1:v.s=emptyB
 ·by_cases h2:v.k=8
  ·rw [if_neg (by rintro (h | h | h);exact h h2;exact h h1;exact h.1 rfl),if_neg (by decide),if_neg (by decide),if_neg (by decide)]
   by_cases h3:v.n < 0∨(d.edges.length:Int)≤v.n
   ·rw [if_pos h3,if_pos (.inr (.inr h3))]
   ·rw [if_neg h3,if_neg (by rintro (h | h | h);exact h h1;exact h h2;exact h3 h)]
    cases d.edges[v.n.toNat]? with
    | none=>rfl
    | some e=>
     simp only
     have key:∀ m:Nat,(if e.bare=true then decide (m=0) else decide (m=1))=((decide (m=0) == e.bare) && decide (m < 2)):=fun m=>by
      cases e.bare<;>(match m with
       | 0=>rfl
       | 1=>rfl
       | m + 2=>simp)
     exact key _
  ·rw [if_pos (.inl h2),if_pos (.inr (.inl h2))]
 ·rw [if_pos (.inr (.inl h1)),if_pos (.inl h1)]
theorem eshell_spec (d:Nd) (v:Val) (h5:5≤d.kind) (h8:d.kind≤8) (hes:d.edges.length≤1099511627776) (hv:v.wt≤1099511627776):EvP Tryz.prog 200 [.agg (dNd d),.agg (dVal v)] (.v (.bool (shellF d v))):=by
 have hA:=fun c=>shellF_567 (d:=d) (v:=v) c
 have hB:=fun c=>shellF_8 (d:=d) (v:=v) c
 have hA5:d.kind=5→shellF d v=(decide (v.s=emptyB) && decide (v.k=5) && decide (v.n=0) && decide ((v.ks.length:Int)≤d.most)):=fun c=>by rw [hA (.inl c),if_pos c,c]
 have hA6:d.kind=6→shellF d v=(decide (v.s=emptyB) && decide (v.k=6) && decide (v.n=0) && decide (v.ks.length < 2)):=fun c=>by rw [hA (.inr (.inl c)),if_neg (by omega),if_pos c,c]
 have hA7:d.kind=7→shellF d v=(decide (v.s=emptyB) && decide (v.k=7) && decide (v.n=0) && decide (v.ks.length=d.edges.length)):=fun c=>by rw [hA (.inr (.inr c)),if_neg (by omega),if_neg (by omega),c]
 have hB1:d.kind=8→(v.s≠emptyB∨v.k≠8∨v.n < 0∨(d.edges.length:Int)≤v.n)→shellF d v=false:=fun c h=>by rw [hB c,if_pos h]
 have hB2:d.kind=8→¬ (v.s≠emptyB∨v.k≠8∨v.n < 0∨(d.edges.length:Int)≤v.n)→∀ e,d.edges[v.n.toNat]? = some e→shellF d v=((decide (v.ks.length=0) == e.bare) && decide (v.ks.length < 2)):=fun c h e he=>by rw [hB c,if_neg h,he]
 clear hA hB
 generalize shellF d v=B at hA5 hA6 hA7 hB1 hB2 ⊢
 obtain ⟨kind,at',lo,hi,most,nms,es⟩:=d
 obtain ⟨k,z,s,ks⟩:=v
 simp only [Val.k,Val.n,Val.s,Val.ks] at hA5 hA6 hA7 hB1 hB2 h5 h8 hes
 have hel:=dEds_len es
 have hdl:=dVals_len ks
 refine ev_go (P:=Tryz.prog) tt tt_ok 5000 111 [.tmp 4] Tryz.func200 rfl Tryz.ntmps200 rfl (Nat.le_of_ble_eq_true rfl) (fun E9 w9 hn9 hm9=>?_)
 refine br (fun c=>?_) (fun c=>?_)
 ·have c:kind=5:=by simpa using c
  subst c
  rw [hA5 rfl]
  refine (congrArg (fun b=>DV.v (.bool b)) ?_:_=_)
  simp only [pickB_and,hdl]
  rfl
 have c5:¬ kind=5:=by simpa using c
 refine br (fun c=>?_) (fun c=>?_)
 ·have c:kind=6:=by simpa using c
  subst c
  rw [hA6 rfl]
  refine (congrArg (fun b=>DV.v (.bool b)) ?_:_=_)
  simp only [pickB_and,hdl]
  rw [show decide ((ks.length:Int)≤1)=decide (ks.length < 2) from decide_eq_decide.2 ⟨fun h=>by omega,fun h=>by omega⟩]
  rfl
 have c6:¬ kind=6:=by simpa using c
 refine br (fun c=>?_) (fun c=>?_)
 ·have c:kind=7:=by simpa using c
  subst c
  rw [hA7 rfl]
  refine (congrArg (fun b=>DV.v (.bool b)) ?_:_=_)
  simp only [pickB_and,hdl,hel]
  rw [show decide ((ks.length:Int)=es.length)=decide (ks.length=es.length) from decide_eq_decide.2 ⟨fun h=>by omega,fun h=>by omega⟩]
  rfl
 have c7:¬ kind=7:=by simpa using c
 refine br (fun c=>?_) (fun c=>?_)
 ·have c:s≠emptyB∨k≠8∨z < 0∨(es.length:Int)≤z:=by
   simp [pickB_or,hel] at c
   rcases c with ((c | c) | c) | c
   ·exact .inl c
   ·exact .inr (.inl c)
   ·exact .inr (.inr (.inl c))
   ·exact .inr (.inr (.inr c))
  rw [hB1 (by omega) c]
  exact (rfl:_=_)
 ·have c:¬ (s≠emptyB∨k≠8∨z < 0∨(es.length:Int)≤z):=by
   simp [pickB_or,hel] at c
   rintro (h | h | h | h)
   ·exact h c.1.1.1
   ·exact h c.1.1.2
   ·omega
   ·omega
  obtain ⟨e,he⟩:∃ e,es[z.toNat]? = some e:=⟨_,List.getElem?_eq_getElem (by omega)⟩
  rw [hB2 (by omega) c e he]
  obtain ⟨en,eb,ea,et,elb,ew,eck,ecn,ese,eca⟩:=e
  refine drawG_i (fun _=>false) mo (by decide +kernel) ?_
  refine ⟨_,⟨by omega,dEds_get he⟩,?_⟩
  refine (congrArg (fun b=>DV.v (.bool b)) ?_:_=_)
  simp only [pickB_and,hdl]
  rw [show decide ((ks.length:Int)=0)=decide (ks.length=0) from decide_eq_decide.2 ⟨fun h=>by omega,fun h=>by omega⟩,show decide ((ks.length:Int) < 2)=decide (ks.length < 2) from decide_eq_decide.2 ⟨fun h=>by omega,fun h=>by omega⟩]
  rfl
theorem plainK_len {v:Val} {k n:Int} {s:ByteArray} (h:0 < v.ks.length):plainK v k n s=false:=by
 unfold plainK
 rw [decide_eq_false (show ¬ v.ks.length=0 by omega),Bool.and_false]
theorem floor_self {z u:Int} (hz : -9223372036854775808≤z) (hu:1≤u):((floorV z u).2 && decide ((floorV z u).1=z))=decide (z % u=0):=by
 rw [floorV_u hu]
 have h1:=Int.emod_nonneg z (b:=u) (by omega)
 by_cases c:z - z % u < -9223372036854775808
 ·rw [if_pos c,decide_eq_false (show ¬ z % u=0 by omega)]
  rfl
 ·rw [if_neg c]
  show (true && decide (z - z % u=z))=_
  rw [Bool.true_and]
  exact decide_eq_decide.2 ⟨fun h=>by omega,fun h=>by omega⟩
theorem mayF_1 {e:Ed} {d:Nd} {v:Val} (c:e.ck=1∧d.kind=2):mayF e d v=if plainK v 9 e.wide emptyB=true then !(floorV d.lo e.cn).2
  else plainK v 10 v.n emptyB && decide (v.n % e.cn=0) && (floorV d.hi e.cn).2 && decide (v.n≤(floorV d.hi e.cn).1) && (!(floorV d.lo e.cn).2 || decide ((floorV d.lo e.cn).1≤v.n)):=by
 unfold mayF
 rw [if_pos c]
theorem mayF_2 {e:Ed} {d:Nd} {v:Val} (c:e.ck=2∧d.kind=3):mayF e d v=(plainK v 11 0 v.s && decide ((v.s.size:Int)≤d.most) && decide (headL e.cn.toNat (tx v.s)=tx v.s)):=by
 unfold mayF
 rw [if_neg (by omega),if_pos c]
theorem mayF_3 {e:Ed} {d:Nd} {v:Val} (c:e.ck=3∧d.kind=5):mayF e d v=(plainK v 12 v.n emptyB && decide (0≤v.n) && decide (v.n≤d.most)):=by
 unfold mayF
 rw [if_neg (by omega),if_neg (by omega),if_pos c]
theorem mayF_0 {e:Ed} {d:Nd} {v:Val} (c1:¬ (e.ck=1∧d.kind=2)) (c2:¬ (e.ck=2∧d.kind=3)) (c3:¬ (e.ck=3∧d.kind=5)):mayF e d v=plainK v 9 e.wide emptyB:=by
 unfold mayF
 rw [if_neg c1,if_neg c2,if_neg c3]
theorem mayF_len {e:Ed} {d:Nd} {v:Val} (h:0 < v.ks.length):mayF e d v=false:=by
 by_cases c1:e.ck=1∧d.kind=2
 ·rw [mayF_1 c1,plainK_len h,plainK_len h,if_neg (by simp)]
  rfl
 by_cases c2:e.ck=2∧d.kind=3
 ·rw [mayF_2 c2,plainK_len h]
  rfl
 by_cases c3:e.ck=3∧d.kind=5
 ·rw [mayF_3 c3,plainK_len h]
  rfl
 rw [mayF_0 c1 c2 c3,plainK_len h]
theorem plainK_v {v:Val} {k n:Int} {s:ByteArray} (h:v.ks=[]):plainK v k n s=(decide (v.k=k) && decide (v.n=n) && decide (v.s=s)):=by
 unfold plainK
 rw [h]
 exact Bool.and_true _
theorem mayF_9 {e:Ed} {d:Nd} {v:Val} (c:e.ck=1∧d.kind=2) (hks:v.ks=[]) (h:v.k=9):mayF e d v=(!(floorV d.lo e.cn).2 && decide (v.n=e.wide) && decide (v.s=emptyB)):=by
 rw [mayF_1 c,plainK_v hks,plainK_v hks,h]
 by_cases h1:v.n=e.wide<;>by_cases h2:v.s=emptyB<;>simp [h1,h2]
theorem mayF_10 {e:Ed} {d:Nd} {v:Val} (c:e.ck=1∧d.kind=2) (hks:v.ks=[]) (h:¬ v.k=9) (hn : -9223372036854775808≤v.n) (hcn:1≤e.cn) :
  mayF e d v=(decide (v.k=10) && decide (v.s=emptyB) && (floorV v.n e.cn).2 && decide ((floorV v.n e.cn).1=v.n) && (floorV d.hi e.cn).2 && (!(floorV d.lo e.cn).2 || decide ((floorV d.lo e.cn).1≤v.n)) && decide (v.n≤(floorV d.hi e.cn).1)):=by
 rw [mayF_1 c,plainK_v hks,plainK_v hks,decide_eq_false h,← floor_self hn hcn]
 generalize (floorV v.n e.cn).2=b1
 generalize decide ((floorV v.n e.cn).1=v.n)=b2
 generalize (floorV d.hi e.cn).2=b3
 generalize decide (v.n≤(floorV d.hi e.cn).1)=b4
 generalize (!(floorV d.lo e.cn).2 || decide ((floorV d.lo e.cn).1≤v.n))=b5
 generalize decide (v.k=10)=b6
 generalize decide (v.s=emptyB)=b7
 rw [show decide (v.n=v.n)=true from decide_eq_true rfl]
 cases b1<;>cases b2<;>cases b3<;>cases b4<;>cases b5<;>cases b6<;>cases b7<;>rfl
theorem efloors_spec (e:Ed) (d:Nd) (v:Val) (hks:v.ks=[]) (hck:e.ck=1∧d.kind=2) (hcn:1≤e.cn) (hn : -9223372036854775808≤v.n∧v.n≤9223372036854775807) (hlo : -9223372036854775808≤d.lo∧d.lo≤9223372036854775807) (hhi : -9223372036854775808≤d.hi∧d.hi≤9223372036854775807) (hc : -9223372036854775808≤e.cn∧e.cn≤9223372036854775807) :
  EvP Tryz.prog 259 [.agg (dEd e),.agg (dNd d),.agg (dVal v)] (.v (.bool (mayF e d v))):=by
 have h1:=floor_spec d.lo e.cn hlo hc
 have h2:=floor_spec v.n e.cn hn hc
 have h3:=floor_spec d.hi e.cn hhi hc
 have hm1:=mayF_9 hck hks
 have hm2:=fun h=>mayF_10 hck hks h hn.1 hcn
 generalize mayF e d v=B at hm1 hm2 ⊢
 unfold floorD at h1 h2 h3
 generalize floorV d.lo e.cn=L at h1 hm1 hm2
 generalize floorV v.n e.cn=M at h2 hm2
 generalize floorV d.hi e.cn=H at h3 hm2
 obtain ⟨L1,L2⟩:=L
 obtain ⟨M1,M2⟩:=M
 obtain ⟨H1,H2⟩:=H
 obtain ⟨q,z,s,ks⟩:=v
 obtain ⟨en,eb,ea,et,elb,ew,eck,ecn,ese,eca⟩:=e
 obtain ⟨kind,at',lo,hi,most,nms,es⟩:=d
 refine ev_go (P:=Tryz.prog) tt tt_ok 5000 90 [.tmp 6] Tryz.func259 rfl Tryz.ntmps259 rfl (Nat.le_of_ble_eq_true rfl) (fun E9 w9 hn9 hm9=>?_)
 refine call_p en261 (h1) ax rfl ?_
 refine br (fun c=>?_) (fun c=>?_)
 ·have c:q=9:=by simpa using c
  rw [hm1 c]
  refine (congrArg (fun b=>DV.v (.bool b)) ?_:_=_)
  simp only [pickB_and]
  rfl
 ·have c:¬ q=9:=by simpa using c
  rw [hm2 c]
  refine call_p en261 (h2) ax rfl ?_
  refine call_p en261 (h3) ax rfl ?_
  refine (congrArg (fun b=>DV.v (.bool b)) ?_:_=_)
  simp only [pickB_and,pickB_or]
  rfl
theorem emay_spec (e:Ed) (d:Nd) (v:Val) (hcn:e.ck=1→1≤e.cn) (hn : -9223372036854775808≤v.n∧v.n≤9223372036854775807) (hlo : -9223372036854775808≤d.lo∧d.lo≤9223372036854775807) (hhi : -9223372036854775808≤d.hi∧d.hi≤9223372036854775807) (hc : -9223372036854775808≤e.cn∧e.cn≤9223372036854775807) (hv:v.wt≤1099511627776) :
  EvP Tryz.prog 204 [.agg (dEd e),.agg (dNd d),.agg (dVal v)] (.v (.bool (mayF e d v))):=by
 have hfl:=fun hks hck=>efloors_spec e d v hks hck (hcn hck.1) hn hlo hhi hc
 have hsz:v.s.size≤1099511627776∧v.ks.length≤1099511627776:=by
  obtain ⟨k,n,s,ks⟩:=v
  have:=wtVs_len ks
  rw [Val.wt] at hv
  exact ⟨by show s.size≤_;omega,by show ks.length≤_;omega⟩
 have hh:=ehead_spec v.s hsz.1 e.cn hc.2
 have hlen:=fun h=>mayF_len (e:=e) (d:=d) (v:=v) h
 have hm2:=fun c=>mayF_2 (e:=e) (d:=d) (v:=v) c
 have hm3:=fun c=>mayF_3 (e:=e) (d:=d) (v:=v) c
 have hm0:=fun a b c=>mayF_0 (e:=e) (d:=d) (v:=v) a b c
 have hpl:=fun k n s h=>plainK_v (v:=v) (k:=k) (n:=n) (s:=s) h
 generalize mayF e d v=B at hfl hlen hm2 hm3 hm0 ⊢
 have hm2':(e.ck=2∧d.kind=3)→v.ks=[]→B=(decide (v.k=11) && decide (v.n=0) && decide ((v.s.size:Int)≤d.most) && decide (headL e.cn.toNat (tx v.s)=tx v.s)):=fun c h=>by
  rw [hm2 c,hpl _ _ _ h,show decide (v.s=v.s)=true from decide_eq_true rfl,Bool.and_true]
 have hm3':(e.ck=3∧d.kind=5)→v.ks=[]→B=(decide (v.k=12) && decide (v.s=emptyB) && decide (0≤v.n) && decide (v.n≤d.most)):=fun c h=>by
  rw [hm3 c,hpl _ _ _ h,show decide (v.n=v.n)=true from decide_eq_true rfl,Bool.and_true]
 have hm0':¬ (e.ck=1∧d.kind=2)→¬ (e.ck=2∧d.kind=3)→¬ (e.ck=3∧d.kind=5)→v.ks=[]→B=(decide (v.k=9) && decide (v.n=e.wide) && decide (v.s=emptyB)):=fun a b c h=>by
  rw [hm0 a b c,hpl _ _ _ h]
 clear hm2 hm3 hm0 hpl
 generalize headL e.cn.toNat (tx v.s)=HD at hh hm2'
 obtain ⟨q,z,s,ks⟩:=v
 simp only [Val.ks,Val.s] at hfl hlen hm2' hm3' hm0' hh hsz
 have hdl:=dVals_len ks
 obtain ⟨en,eb,ea,et,elb,ew,eck,ecn,ese,eca⟩:=e
 obtain ⟨kind,at',lo,hi,most,nms,es⟩:=d
 refine ev_go (P:=Tryz.prog) tt tt_ok 5000 104 [.tmp 6] Tryz.func204 rfl Tryz.ntmps204 rfl (Nat.le_of_ble_eq_true rfl) (fun E9 w9 hn9 hm9=>?_)
 refine br (fun c=>?_) (fun c=>?_)
 ·have c:0 < ks.length:=by simpa [hdl] using c
  rw [hlen c]
  exact (rfl:_=_)
 have c0:ks=[]:=by
  have:¬ 0 < ks.length:=by simpa [hdl] using c
  exact List.eq_nil_of_length_eq_zero (by omega)
 refine br (fun c=>?_) (fun c=>?_)
 ·have c:eck=1∧kind=2:=by simpa [pickB_and] using c
  have hfl:=hfl c0 c
  refine call_p en259 (hfl) ax rfl ?_
  exact (rfl:_=_)
 have c1:¬ (eck=1∧kind=2):=by simpa [pickB_and] using c
 refine br (fun c=>?_) (fun c=>?_)
 ·have c:eck=2∧kind=3:=by simpa [pickB_and] using c
  have hB:B=((decide (q=11) && decide (z=0) && decide ((s.size:Int)≤most)) && decide (HD=tx s)):=hm2' c c0
  have hbt:decide (ba HD=s)=decide (HD=tx s):=decide_eq_decide.2 ⟨fun h=>by rw [← h,tx_ba],fun h=>by rw [h,ba_tx]⟩
  refine drawG_i (fun _=>false) mo (by decide +kernel) ?_
  refine br (fun g=>?_) (fun g=>?_)
  ·have g:(decide (q=11) && decide (z=0) && decide ((s.size:Int)≤most))=true:=by simpa [pickB_and] using g
   rw [g,Bool.true_and] at hB
   refine callD_p en260 (hh) ax rfl ?_
   refine (congrArg (fun b=>DV.v (.bool b)) ?_:_=_)
   rw [hB,← hbt]
   rfl
  ·have g:(decide (q=11) && decide (z=0) && decide ((s.size:Int)≤most))=false:=by simpa [pickB_and] using g
   rw [g,Bool.false_and] at hB
   rw [hB]
   exact (rfl:_=_)
 have c2:¬ (eck=2∧kind=3):=by simpa [pickB_and] using c
 refine br (fun c=>?_) (fun c=>?_)
 ·have c:eck=3∧kind=5:=by simpa [pickB_and] using c
  rw [hm3' c c0]
  refine (congrArg (fun b=>DV.v (.bool b)) ?_:_=_)
  simp only [pickB_and]
  rfl
 have c3:¬ (eck=3∧kind=5):=by simpa [pickB_and] using c
 rw [hm0' c1 c2 c3 c0]
 refine (congrArg (fun b=>DV.v (.bool b)) ?_:_=_)
 simp only [pickB_and]
 rfl
end Go.Proofs.YtbfdbhechmhpoaaGreat

set_option maxRecDepth 100000
namespace Go.Proofs.YtbfdbhechmhpoaaGreat
open Go Go.RowKit Dv Tryz
def edW (w:Int):Ed:=⟨emptyB,false,0,0,0,w,0,0,0,0⟩
theorem mayF_w (w:Int) (d:Nd) (v:Val):mayF (edW w) d v=plainK v 9 w emptyB:=by
 rw [mayF_0 (by rintro ⟨h,_⟩;cases h) (by rintro ⟨h,_⟩;cases h) (by rintro ⟨h,_⟩;cases h)]
 rfl
theorem shell_zero {N:Nat} {ND:List Nd} {d:Nd} (hN:NdOK N ND.length d) {v:Val} (h:shellF d v=true) (c:d.kind=8) {m:Nat} (hm:m < v.ks.length):(0≤v.n∧v.n < d.edges.length)∧m=0:=by
 rw [shellF_8 c] at h
 split at h
 ·cases h
 rename_i hc
 have h1:¬ v.n < 0:=fun g=>hc (.inr (.inr (.inl g)))
 have h2:¬ (d.edges.length:Int)≤v.n:=fun g=>hc (.inr (.inr (.inr g)))
 split at h
 ·cases h
 ·rw [Bool.and_eq_true,decide_eq_true_iff] at h
  have:=h.2
  omega
def kidS (ND:List Nd) (f:Nat→Nat→Bool) (L obs:Nat) (d:Nd) (e:Ed) (a:Nat) (x:Val):Bool:=if howF f L obs d e a=2 then seeV ND f L obs x e.to (undF f L d e a) else if howF f L obs d e a=1 then (match nodeA ND e.to with | none=>false | some t=>mayF e t x) else plainK x 9 e.wide emptyB
theorem seeVs_kid {ND:List Nd} {f:Nat→Nat→Bool} {L obs:Nat} {ks:List Val} {d:Nd} {z:Int} {a j m:Nat} {x:Val} {e:Ed} (h:ks[m]? = some x) (he:edgeN d z j=some e):seeVs ND f L obs (ks.drop m) d z a j=(kidS ND f L obs d e a x && seeVs ND f L obs (ks.drop (m + 1)) d z a (j + 1)):=by
 rw [seeVs_drop h,he]
 rfl
abbrev efSt (PC LC:List DV) (obs a:Nat) (v:Val) (d:Nd) (e:Nat):St:=
 ⟨[(2,⟨[],.v (.int .i64 a)⟩),(4,⟨[],.loc 0 0⟩),(7,⟨[],.loc 1 0⟩),(9,⟨[],.loc 2 0⟩),(38,⟨[],.sl 4 (dVals v.ks) none⟩),(39,⟨[],.v (.int .i64 (dVals v.ks).length)⟩),(40,⟨[],.v (.int .i64 e)⟩)],[eeD PC LC obs,dVal v,dNd d],[]⟩
theorem erfits_spec {S:Sch} {ND:List Nd} {PC LC:List DV} (hP:PlanR S ND PC) (hR:LatR S.levels.length (leqS S) (nmTx S.levels) LC) (hrn:∀ n∈ND,rngN n) (hsz:∀ n∈ND,n.edges.length≤1099511627776) (obs:Nat) (ho:obs < S.levels.length) :
  ∀ (k:Nat) (v:Val),v.wt≤k→v.wt≤1099511627776→rngW v→∀ (i a:Nat),a < S.levels.length→i < ND.length →
   EvP Tryz.prog 124 [.agg (eeD PC LC obs),.v (.int .i64 i),.v (.int .i64 a),.agg (dVal v)] (.v (.bool (seeV ND (leqS S) S.levels.length obs v i a)))
 | 0,v,h,_=>by have:=v.wt_pos;omega
 | k + 1,v,h,hb=>fun hr i a ha hi=>by
  have ih:=erfits_spec hP hR hrn hsz obs ho k
  have hL:=hR.ok
  obtain ⟨d,hg⟩:∃ d,ND[i]? = some d:=⟨_,List.getElem?_eq_getElem hi⟩
  have hnd:nodeA ND (i:Int)=some d:=by
   unfold nodeA
   rw [if_neg (by omega),Int.toNat_natCast,hg]
  have hmem:=List.mem_of_getElem? hg
  have hN:=hP.ok d hmem
  have hnode:=hP.node i d hg
  have hdsz:=hsz d hmem
  have hdrn:=hrn d hmem
  have hft:=tfits_spec hP _ v (Nat.le_refl _) hb i
  have hsh:=fun h5=>eshell_spec d v h5 hN.k8 hdsz hb
  have hske:=fun h5 hs m hm=>shell_kid hN h5 (v:=v) hs (m:=m) hm
  have hskz:=fun hs c m hm=>shell_zero hN (v:=v) hs c (m:=m) hm
  have hV:seeV ND (leqS S) S.levels.length obs v i a=if d.kind < 5 then fitV ND v i else shellF d v && seeVs ND (leqS S) S.levels.length obs v.ks d v.n a 0:=by
   obtain ⟨q,z,s,ks⟩:=v
   rw [seeV,hnd]
   rfl
  have hV1:d.kind < 5→seeV ND (leqS S) S.levels.length obs v i a=fitV ND v i:=fun c=>by rw [hV,if_pos c]
  have hV2:¬ d.kind < 5→seeV ND (leqS S) S.levels.length obs v i a=(shellF d v && seeVs ND (leqS S) S.levels.length obs v.ks d v.n a 0):=fun c=>by rw [hV,if_neg c]
  clear hV
  generalize seeV ND (leqS S) S.levels.length obs v i a=B at hV1 hV2 ⊢
  generalize fitV ND v i=F at hft hV1
  generalize shellF d v=SH at hsh hske hskz hV2
  obtain ⟨vk,vn,vs,ks⟩:=v
  have hkl:=wtVs_len ks
  have hdl:=dVals_len ks
  rw [Val.wt] at h hb
  have hrk:=rngW_ks hr
  simp only [Val.ks,Val.n] at hV2 hrk hske hskz
  obtain ⟨kind,at',lo,hi',most,names,es⟩:=d
  refine ev_go (P:=Tryz.prog) tt tt_ok 5000 90 [.tmp 8] Tryz.func124 rfl Tryz.ntmps124 rfl (Nat.le_of_ble_eq_true rfl) (fun E9 w9 hn9 hm9=>?_)
  refine call_p en18 (hnode) ax rfl ?_
  refine br (fun c=>?_) (fun c=>?_)
  ·have c:kind < 5:=by simpa using c
   rw [hV1 c]
   refine call_p en56 (hft) ax rfl ?_
   exact (rfl:_=_)
  have c5:¬ kind < 5:=by simpa using c
  have hV2:=hV2 c5
  have h5:5≤kind:=by omega
  have hsh:=hsh h5
  refine call_p en200 (hsh) ax rfl ?_
  cases SH with
  | false=>
   rw [Bool.false_and] at hV2
   rw [hV2]
   exact (rfl:_=_)
  | true=>
   rw [Bool.true_and] at hV2
   refine loop_i (fun t st=>∃ e:Nat,st=efSt PC LC obs a (.mk vk vn vs ks) ⟨kind,at',lo,hi',most,names,es⟩ e∧e≤ks.length∧B=seeVs ND (leqS S) S.levels.length obs (ks.drop e) ⟨kind,at',lo,hi',most,names,es⟩ vn a e∧t=ks.length - e) ks.length (efSt PC LC obs a (.mk vk vn vs ks) ⟨kind,at',lo,hi',most,names,es⟩ 0) (weak_b 3 rfl (by repeat' (first | exact rfl | exact we_rfl rfl | exact we_int rfl | refine ⟨_,_,rfl,?_,?_⟩)) rfl rfl rfl (by repeat' (first | exact trivial | exact we_rfl rfl | exact we_int rfl | refine ⟨⟨_,rfl,?_⟩,?_⟩))) ⟨0,rfl,by omega,hV2,by omega⟩ ?_
   rintro t st ⟨e,rfl,he,hE,rfl⟩
   refine br (fun hLt=>?_) (fun hLt=>?_)
   ·have hlt:e < ks.length:=by simpa [hdl,Val.ks] using hLt
    obtain ⟨x,hx⟩:∃ x,ks[e]? = some x:=⟨_,List.getElem?_eq_getElem hlt⟩
    obtain ⟨ed,hK⟩:=hske h5 rfl e hlt
    have hm:=List.mem_of_getElem? hx
    have hwx:=wtVs_mem hm
    have hrx:=rngWs_mem hrk hm
    obtain ⟨h1,t2,h2⟩:=to_in hN hK.mem hK.bare
    obtain ⟨_,hg2⟩:=nodeA_some h2
    have htl:=(List.getElem?_eq_some_iff.1 hg2).1
    have hto:ed.to=(ed.to.toNat:Nat):=by omega
    have hrn2:=hrn t2 (List.mem_of_getElem? hg2)
    have hnode2:=hP.node ed.to.toNat t2 hg2
    rw [← hto] at hnode2
    rw [seeVs_kid hx hK.edge] at hE
    have hedge:=eedge_spec hR PC obs a ha ⟨kind,at',lo,hi',most,names,es⟩ (.mk vk vn vs ks) e ed hK.edge hK.mem hN h5 (fun c=>hskz rfl c e hlt) hdsz
    have hU:=undF_lt hL hN hK.mem ha
    have hsees:=esees_spec hR PC obs (undF (leqS S) S.levels.length ⟨kind,at',lo,hi',most,names,es⟩ ed a) ho hU
    have hco:=ecoarsely_spec hR PC obs a ho ha ⟨kind,at',lo,hi',most,names,es⟩ ed hN hK.mem
    have hcnr:=hdrn.2.2 ed hK.mem
    have hcn1:=(hN.edge ed hK.mem).cn.2.1
    have hmay:=emay_spec ed t2 x hcn1 (rngW_n hrx) hrn2.1 hrn2.2.1 hcnr (by omega)
    have hmay2:=emay_spec (edW ed.wide) t2 x (fun h=>by cases h) (rngW_n hrx) hrn2.1 hrn2.2.1 ⟨by show (-9223372036854775808:Int)≤0;decide,by show (0:Int)≤9223372036854775807;decide⟩ (by omega)
    rw [mayF_w] at hmay2
    have hrec:=ih x (by omega) (by omega) hrx ed.to.toNat (undF (leqS S) S.levels.length ⟨kind,at',lo,hi',most,names,es⟩ ed a) hU htl
    rw [← hto] at hrec
    have hKS:kidS ND (leqS S) S.levels.length obs ⟨kind,at',lo,hi',most,names,es⟩ ed a x=if leqS S (undF (leqS S) S.levels.length ⟨kind,at',lo,hi',most,names,es⟩ ed a) obs=true then seeV ND (leqS S) S.levels.length obs x ed.to (undF (leqS S) S.levels.length ⟨kind,at',lo,hi',most,names,es⟩ ed a) else if (decide (ed.ck≠0) && leqS S (jnF (leqS S) S.levels.length a ed.seen.toNat) obs)=true then mayF ed t2 x else plainK x 9 ed.wide emptyB:=by
     unfold kidS
     rw [howF_eq,h2]
     by_cases g1:leqS S (undF (leqS S) S.levels.length ⟨kind,at',lo,hi',most,names,es⟩ ed a) obs=true
     ·simp only [if_pos g1,reduceIte]
     ·by_cases g2:ed.ck≠0∧leqS S (jnF (leqS S) S.levels.length a ed.seen.toNat) obs=true
      ·simp only [if_neg g1,if_pos g2,reduceIte]
       rw [if_neg (by decide),if_pos (by rw [decide_eq_true g2.1,g2.2];rfl)]
      ·simp only [if_neg g1,if_neg g2]
       rw [if_neg (by decide),if_neg (by decide),if_neg (by
        intro h
        rw [Bool.and_eq_true,decide_eq_true_iff] at h
        exact g2 h)]
    generalize kidS ND (leqS S) S.levels.length obs ⟨kind,at',lo,hi',most,names,es⟩ ed a x=KS at hE hKS
    generalize undF (leqS S) S.levels.length ⟨kind,at',lo,hi',most,names,es⟩ ed a=U at hedge hsees hrec hKS
    generalize leqS S U obs=b1 at hsees hKS
    generalize (decide (ed.ck≠0) && leqS S (jnF (leqS S) S.levels.length a ed.seen.toNat) obs)=b2 at hco hKS
    generalize seeV ND (leqS S) S.levels.length obs x ed.to U=R1 at hrec hKS
    generalize mayF ed t2 x=R2 at hmay hKS
    generalize plainK x 9 ed.wide emptyB=R3 at hmay2 hKS
    have hfin:KS=false→B=false:=fun h=>by rw [hE,h,Bool.false_and]
    have hgo:KS=true→∃ j',j' < ks.length - e∧∃ e',efSt PC LC obs a (.mk vk vn vs ks) ⟨kind,at',lo,hi',most,names,es⟩ (e + 1)=efSt PC LC obs a (.mk vk vn vs ks) ⟨kind,at',lo,hi',most,names,es⟩ e' ∧ e' ≤ ks.length∧B=seeVs ND (leqS S) S.levels.length obs (ks.drop e') ⟨kind,at',lo,hi',most,names,es⟩ vn a e' ∧ j'=ks.length - e':=fun h=>⟨ks.length - (e + 1),by omega,e + 1,rfl,by omega,by rw [hE,h,Bool.true_and],rfl⟩
    obtain ⟨xk,xn,xs,xks⟩:=x
    obtain ⟨en,eb,ea,et,elb,ew,eck,ecn,ese,eca⟩:=ed
    obtain ⟨kind2,at2,lo2,hi2,most2,names2,es2⟩:=t2
    clear hE
    refine ⟨_,⟨by omega,dVals_get hx⟩,?_⟩
    refine call_p en201 (hedge) ax rfl ?_
    refine call_p en18 (hnode2) ax rfl ?_
    refine call_p en202 (hsees) ax rfl ?_
    cases b1 with
    | true=>
     refine call_p en124 (hrec) ax rfl ?_
     cases R1 with
     | false=>
      have hB:=hfin (by rw [hKS];rfl)
      rw [hB]
      exact (rfl:_=_)
     | true=>
      obtain ⟨j',g1,g2⟩:=hgo (by rw [hKS];rfl)
      exact ⟨efSt PC LC obs a (.mk vk vn vs ks) ⟨kind,at',lo,hi',most,names,es⟩ (e + 1),(weak_b 3 rfl (by repeat' (first | exact rfl | exact we_rfl rfl | exact we_int (nxt hlt (by omega)) | refine ⟨_,_,rfl,?_,?_⟩)) rfl rfl rfl (by repeat' (first | exact trivial | exact we_rfl rfl | exact we_int (nxt hlt (by omega)) | refine ⟨⟨_,rfl,?_⟩,?_⟩))),j',g1,g2⟩
    | false=>
     refine call_p en203 (hco) ax rfl ?_
     cases b2 with
     | true=>
      refine call_p en204 (hmay) ax rfl ?_
      cases R2 with
      | false=>
       have hB:=hfin (by rw [hKS];rfl)
       rw [hB]
       exact (rfl:_=_)
      | true=>
       obtain ⟨j',g1,g2⟩:=hgo (by rw [hKS];rfl)
       exact ⟨efSt PC LC obs a (.mk vk vn vs ks) ⟨kind,at',lo,hi',most,names,es⟩ (e + 1),(weak_b 3 rfl (by repeat' (first | exact rfl | exact we_rfl rfl | exact we_int (nxt hlt (by omega)) | refine ⟨_,_,rfl,?_,?_⟩)) rfl rfl rfl (by repeat' (first | exact trivial | exact we_rfl rfl | exact we_int (nxt hlt (by omega)) | refine ⟨⟨_,rfl,?_⟩,?_⟩))),j',g1,g2⟩
     | false=>
      refine call_p en204 (hmay2) ax rfl ?_
      cases R3 with
      | false=>
       have hB:=hfin (by rw [hKS];rfl)
       rw [hB]
       exact (rfl:_=_)
      | true=>
       obtain ⟨j',g1,g2⟩:=hgo (by rw [hKS];rfl)
       exact ⟨efSt PC LC obs a (.mk vk vn vs ks) ⟨kind,at',lo,hi',most,names,es⟩ (e + 1),(weak_b 3 rfl (by repeat' (first | exact rfl | exact we_rfl rfl | exact we_int (nxt hlt (by omega)) | refine ⟨_,_,rfl,?_,?_⟩)) rfl rfl rfl (by repeat' (first | exact trivial | exact we_rfl rfl | exact we_int (nxt hlt (by omega)) | refine ⟨⟨_,rfl,?_⟩,?_⟩))),j',g1,g2⟩
   ·have hge:e=ks.length:=by have:=hLt;simp [hdl,Val.ks] at this;omega
    subst hge
    rw [List.drop_length,seeVs] at hE
    rw [hE]
    exact (rfl:_=_)
def seeF (ND:List Nd) (f:Nat→Nat→Bool) (n rt:Nat) (o:Int) (v:Val):Bool:=decide (0≤o∧o < n) && seeV ND f n o.toNat v rt (botF f n)
theorem erFits_root {S:Sch} {ND:List Nd} {PC LC:List DV} (hP:PlanR S ND PC) (hlat:EvP Tryz.prog 21 [.pt PC 0] (.pt LC 0)) (hR:LatR S.levels.length (leqS S) (nmTx S.levels) LC) (hrS:∀ n∈ND,rngN n) (hsz:∀ n∈ND,n.edges.length≤1099511627776) (rt:Nat) (hrt:resRoot S=rt) (hrl:rt < ND.length) (o:Int) (v:Val) (hv:v.wt≤1099511627776) (hrv:rngW v) :
  EvP Tryz.prog 61 [.pt PC 0,.v (.int .i64 o),.agg (dVal v)] (.v (.bool (seeF ND (leqS S) S.levels.length rt o v))):=by
 have hlk:=elook_spec hlat hR o
 have hroot:=hP.root
 rw [hrt] at hroot
 have hbot:=hR.bot
 have hs:=fun (obs:Nat) (ho:obs < S.levels.length)=>erfits_spec hP hR hrS hsz obs ho _ v (Nat.le_refl _) hv hrv rt (botF (leqS S) S.levels.length) (botF_lt hR.ok) hrl
 have hS:seeF ND (leqS S) S.levels.length rt o v=(decide (0≤o∧o < S.levels.length) && seeV ND (leqS S) S.levels.length o.toNat v rt (botF (leqS S) S.levels.length)):=rfl
 generalize seeF ND (leqS S) S.levels.length rt o v=SF at hS ⊢
 by_cases ho:0≤o∧o < S.levels.length
 ·obtain ⟨ob,rfl⟩:∃ n:Nat,o=n:=⟨_,(Int.toNat_of_nonneg ho.1).symm⟩
  have hs:=hs ob (by omega)
  rw [show decide (0≤(ob:Int)∧(ob:Int) < (S.levels.length:Int))=true from decide_eq_true ho] at hlk hS
  rw [Int.toNat_natCast,Bool.true_and] at hS
  rw [← hS] at hs
  generalize botF (leqS S) S.levels.length=bt at hbot hs
  obtain ⟨k,n,s,ks⟩:=v
  refine ev_go (P:=Tryz.prog) tt tt_ok 5000 26 [.tmp 6] Tryz.func61 rfl Tryz.ntmps61 rfl (Nat.le_of_ble_eq_true rfl) (fun E9 w9 hn9 hm9=>?_)
  refine call_p en123 (hlk) ax rfl ?_
  refine drawG_i (fun _=>false) mo (by decide +kernel) ?_
  refine callD_p en19 (hroot) ax rfl ?_
  refine callD_p en115 (hbot) ax rfl ?_
  refine callD_p en124 (hs) ax rfl ?_
  exact (rfl:_=_)
 ·rw [show decide (0≤o∧o < (S.levels.length:Int))=false from decide_eq_false ho] at hlk hS
  rw [Bool.false_and] at hS
  rw [hS]
  obtain ⟨k,n,s,ks⟩:=v
  refine ev_go (P:=Tryz.prog) tt tt_ok 5000 26 [.tmp 6] Tryz.func61 rfl Tryz.ntmps61 rfl (Nat.le_of_ble_eq_true rfl) (fun E9 w9 hn9 hm9=>?_)
  refine call_p en123 (hlk) ax rfl ?_
  refine drawG_i (fun _=>false) mo (by decide +kernel) ?_
  exact (rfl:_=_)
end Go.Proofs.YtbfdbhechmhpoaaGreat
